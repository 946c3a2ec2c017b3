/-
  Walks: the program's complexes.
  Conditions: each theorem's own.
-/
import Derived.Test.YtacajcjibhifmaaDoorS9
set_option linter.unusedVariables false
set_option linter.unusedSimpArgs false
namespace Go.Proofs.YtacajcjibhifmaaDoor
open Go
structure PreC (X : Cx) : Prop where
  p : 0 < X.p ∧ X.p ≤ 7
  ml : X.maps.length + 1 = X.dims.length
  dm : X.dims.all (fun x => in3 x 0 8) = true
  tb : ∀ k, k < X.maps.length → tbAt X k
theorem IsC.pre {X : Cx} (h : IsC X) : PreC X := ⟨isP_bnd h.p, h.ml, h.dm, h.tb⟩
def diffP (X : Cx) (n : Int) (v : List Int) : List Int := if n ≤ 0 ∨ (X.dims.length : Int) - 1 < n then [] else accP X.p v (X.maps.getD (n - 1).toNat default) (List.replicate (X.dims.getD (n - 1).toNat 0).toNat 0)
theorem PreC.app {X : Cx} (h : PreC X) {n : Int} (h0 : 0 < n) (h1 : n ≤ (X.dims.length : Int) - 1) : (0 ≤ X.dims.getD (n - 1).toNat 0 ∧ X.dims.getD (n - 1).toNat 0 ≤ 8) ∧ ((X.maps.getD (n - 1).toNat default).length : Int) = X.dims.getD n.toNat 0 ∧ Tbl X.p (X.dims.getD (n - 1).toNat 0) (X.maps.getD (n - 1).toNat default) := by
  have hm := h.ml
  have t := tableP_iff.1 (h.tb (n - 1).toNat (by omega))
  have e : ((((n - 1).toNat : Nat) : Int) + 1).toNat = n.toNat := by omega
  rw [e] at t
  exact ⟨dm_at h.dm (by omega), t⟩
theorem zero_lead {xs : List Int} : (!(xs.any fun x => x != 0)) = true ↔ leadP xs < 0 := by
  rw [leadP_idx, ← idxP_any]
  simp
theorem any_all {α : Type} {f : α → Bool} {xs : List α} (h : (xs.any fun x => !f x) = false) : xs.all f = true := by rw [List.all_eq_not_any_not, h]; rfl
theorem diff_sqv {X : Cx} {k i : Nat} (h0 : 0 < k) (h1 : (k : Int) ≤ (X.dims.length : Int) - 1) : diffP X (k : Int) ((X.maps.getD k default).getD i default) = sqv X k i := by
  rw [diffP, if_neg (by omega)]; rfl
theorem lead_zero {xs : List Int} (h : xs.any (fun x => x != 0) = false) : leadP xs < 0 := zero_lead.1 (by rw [h]; rfl)
theorem lead_some {xs : List Int} (h : xs.any (fun x => x != 0) = true) : ¬ leadP xs < 0 := fun hn => by
  have := zero_lead.2 hn
  rw [h] at this; cases this
theorem tbAt_iff {X : Cx} {k : Nat} : tbAt X k ↔ ((X.maps.getD k default).length : Int) = X.dims.getD ((k : Int) + 1).toNat 0 ∧ (X.maps.getD k default).all (isRow X.p (X.dims.getD k 0)) = true := by
  simp only [tbAt, tableP, Bool.and_eq_true, decide_eq_true_eq]

set_option maxRecDepth 100000 in
theorem diff_ok (vx : Value) (X : Cx) (n : Int) (v : Value) (xs : List Int) (h : Heap) (hx : RC h vx X) (hv : R1 h v xs) (hP : PreC X) (hv0 : Bnd X.p xs) (hl : 0 < n → n ≤ (X.dims.length : Int) - 1 → (xs.length : Int) = X.dims.getD n.toNat 0) : CallA Tryd.prog 37 #[vx, .int .i64 n, v] h fun v' h' => ∃ f, O1 h' v' (diffP X n xs) f ∧ Fresh h.size f ∧ Ext h h' := by
  obtain ⟨vd, vm, rfl, hd, hm⟩ := hx
  have hle := RdS.le hd
  have hml := hP.ml
  refine callA_intro TTok (args := [_, _, _]) Tryd.func37 (by kernel_rfl) rfl 31 rfl (by simp) [.tmp 6] rfl ?_
  simp only [idxs, Nat.reduceAdd]
  refine den_seq ?_
  refine den_region TTok ?_
  intro K hK
  simp -implicitDefEqProofs (disch := first | decide | assumption | omega) only [go_sem, RdS.len hd sl22, RdS.idx hd sl22, R1.intB hd (HPres.refl _), RdS.cells hd, RdS.len hm sl23, RdS.idx hm sl23, RdS.cellB hm (HPres.refl _), RdS.cells hm, RdS.len hv sl22, RdS.idx hv sl22, R1.intB hv (HPres.refl _), RdS.cells hv, wrap_id]
  refine op_box (cs := #[.int .i64 (X.p), vd, vm]) rfl ?_
  intro h0_0 e0_0 hb0_0 z0_0
  replace hd := RdS.pres hd (Ext.pres e0_0)
  replace hm := RdS.pres hm (Ext.pres e0_0)
  replace hv := RdS.pres hv (Ext.pres e0_0)
  try simp -implicitDefEqProofs (disch := first | decide | assumption | omega) only [go_sem, RdS.len hd sl22, RdS.idx hd sl22, R1.intB hd (HPres.refl _), RdS.cells hd, RdS.len hm sl23, RdS.idx hm sl23, RdS.cellB hm (HPres.refl _), RdS.cells hm, RdS.len hv sl22, RdS.idx hv sl22, R1.intB hv (HPres.refl _), RdS.cells hv, BoxAt.cell hb0_0, wrap_id]
  refine hK _ _ ?_
  clear hK K
  refine den_seq ?_
  refine den_seq ?_
  refine den_merge [(14, .bool (((decide (n ≤ (0 : Int))) || (decide ((((X.dims).length : Int) - 1) < n)))))] [1, 2, 3] (fun H => Ext h0_0 H) ?_ ?_
    -- a way
  · refine den_region TTok ?_
    intro K hK
    simp -implicitDefEqProofs (disch := first | decide | assumption | (simp (disch := decide) only [slotOf_zero, slotOf_succ, Option.map_some, puts_same, puts_ne, gv_bool, gv_undef, tt, tf, ft, ff, eq_self, if_true, if_false, Bool.false_eq_true, Bool.not_true, Bool.not_false]; done) | omega) only [go_sem, RdS.len hd sl22, RdS.idx hd sl22, R1.intB hd (HPres.refl _), RdS.cells hd, RdS.len hm sl23, RdS.idx hm sl23, RdS.cellB hm (HPres.refl _), RdS.cells hm, RdS.len hv sl22, RdS.idx hv sl22, R1.intB hv (HPres.refl _), RdS.cells hv, BoxAt.cell hb0_0, wrap_id]
    refine opsP_F (by simp (disch := decide) only [slotOf_zero, slotOf_succ, Option.map_some, puts_same, puts_ne, gv_bool, gv_undef, tt, tf, ft, ff, eq_self, if_true, if_false, Bool.false_eq_true, Bool.not_true, Bool.not_false]; rfl) (fun g1 => ?_) (fun g1 => ?_)
    · try simp -implicitDefEqProofs (disch := first | decide | assumption | (simp (disch := decide) only [slotOf_zero, slotOf_succ, Option.map_some, puts_same, puts_ne, gv_bool, gv_undef, tt, tf, ft, ff, eq_self, if_true, if_false, Bool.false_eq_true, Bool.not_true, Bool.not_false, g1]; done) | omega) only [go_sem, ld29, RdS.len hd sl22, RdS.idx hd sl22, R1.intB hd (HPres.refl _), RdS.cells hd, RdS.len hm sl23, RdS.idx hm sl23, RdS.cellB hm (HPres.refl _), RdS.cells hm, RdS.len hv sl22, RdS.idx hv sl22, R1.intB hv (HPres.refl _), RdS.cells hv, BoxAt.cell hb0_0, wrap_id, g1, eq_self, if_true, if_false, Bool.false_eq_true]
      try simp -implicitDefEqProofs (disch := first | decide | assumption | omega) only [go_sem, RdS.len hd sl22, RdS.idx hd sl22, R1.intB hd (HPres.refl _), RdS.cells hd, RdS.len hm sl23, RdS.idx hm sl23, RdS.cellB hm (HPres.refl _), RdS.cells hm, RdS.len hv sl22, RdS.idx hv sl22, R1.intB hv (HPres.refl _), RdS.cells hv, BoxAt.cell hb0_0, wrap_id]
      refine CallA.mono (top_ok _ X _ ⟨_, _, rfl, hd, hm⟩) ?_
      intro v_ h1_5
      rintro ⟨rfl, e1_5⟩
      have := Ext.size e1_5
      have eB := e1_5
      try simp -implicitDefEqProofs (disch := first | decide | assumption | (simp (disch := decide) only [slotOf_zero, slotOf_succ, Option.map_some, puts_same, puts_ne, gv_bool, gv_undef, tt, tf, ft, ff, eq_self, if_true, if_false, Bool.false_eq_true, Bool.not_true, Bool.not_false, g1]; done) | omega) only [go_sem, RdS.len hd sl22, RdS.idx hd sl22, R1.intB hd (Ext.pres eB), RdS.cells hd, RdS.len hm sl23, RdS.idx hm sl23, RdS.cellB hm (Ext.pres eB), RdS.cells hm, RdS.len hv sl22, RdS.idx hv sl22, R1.intB hv (Ext.pres eB), RdS.cells hv, BoxAt.cellB hb0_0 eB, wrap_id, g1, eq_self, if_true, if_false, Bool.false_eq_true]
      refine hK _ _ ?_
      clear hK K
      refine den_stop ?_
      refine ⟨?_, e1_5⟩
      first | (simp (disch := decide) only [go_sem, g1, eq_self, Bool.true_and, Bool.and_true, Bool.false_and, Bool.and_false, Bool.true_or, Bool.or_true, Bool.false_or, Bool.or_false, if_true, if_false, Bool.false_eq_true]; done) | simp [HasL, sel, puts_at, g1]
    · try simp -implicitDefEqProofs (disch := first | decide | assumption | (simp (disch := decide) only [slotOf_zero, slotOf_succ, Option.map_some, puts_same, puts_ne, gv_bool, gv_undef, tt, tf, ft, ff, eq_self, if_true, if_false, Bool.false_eq_true, Bool.not_true, Bool.not_false, g1]; done) | omega) only [go_sem, RdS.len hd sl22, RdS.idx hd sl22, R1.intB hd (HPres.refl _), RdS.cells hd, RdS.len hm sl23, RdS.idx hm sl23, RdS.cellB hm (HPres.refl _), RdS.cells hm, RdS.len hv sl22, RdS.idx hv sl22, R1.intB hv (HPres.refl _), RdS.cells hv, BoxAt.cell hb0_0, wrap_id, g1, eq_self, if_true, if_false, Bool.false_eq_true]
      refine hK _ _ ?_
      clear hK K
      refine den_stop ?_
      refine ⟨?_, Ext.refl _⟩
      first | (simp (disch := decide) only [go_sem, g1, eq_self, Bool.true_and, Bool.and_true, Bool.false_and, Bool.and_false, Bool.true_or, Bool.or_true, Bool.false_or, Bool.or_false, if_true, if_false, Bool.false_eq_true]; done) | simp [HasL, sel, puts_at, g1]
  intro en2 h3 e4
  have := Ext.size e4
  have eB := e4
  simp (disch := decide) only [go_sem]
  refine den_cond rfl (fun c0 => ?_) (fun c0 => ?_)
  · try simp only [decide_eq_true_eq, decide_eq_false_iff_not, beq_iff_eq, beq_eq_false_iff_ne, bne_iff_ne, ne_eq, Bool.not_eq_true', Bool.not_eq_false', Bool.and_eq_true, Bool.or_eq_true, bne_eq_false_iff_eq, Bool.or_eq_false_iff, Bool.and_eq_false_iff] at c0
    refine den_seq ?_
    refine den_region TTok ?_
    intro K hK
    simp -implicitDefEqProofs (disch := first | decide | assumption | omega) only [go_sem, RdS.len hd sl22, RdS.idx hd sl22, R1.intB hd (Ext.pres eB), RdS.cells hd, RdS.len hm sl23, RdS.idx hm sl23, RdS.cellB hm (Ext.pres eB), RdS.cells hm, RdS.len hv sl22, RdS.idx hv sl22, R1.intB hv (Ext.pres eB), RdS.cells hv, BoxAt.cellB hb0_0 eB, wrap_id]
    refine hK _ _ ?_
    clear hK K
    refine den_ret ?_
    simp (disch := decide) only [resP_1, puts_same, puts_ne]
    exact ⟨[], by rw [diffP, if_pos (by omega)]; exact OS.nil, Fresh.nil _, (Ext.trans e0_0 eB)⟩
  · try simp only [decide_eq_true_eq, decide_eq_false_iff_not, beq_iff_eq, beq_eq_false_iff_ne, bne_iff_ne, ne_eq, Bool.not_eq_true', Bool.not_eq_false', Bool.and_eq_true, Bool.or_eq_true, bne_eq_false_iff_eq, Bool.or_eq_false_iff, Bool.and_eq_false_iff] at c0
    refine den_skip ?_
    refine den_seq ?_
    have hq := hP.app (n := n) (by omega) (by omega)
    refine den_draw TTok mixed [] [(0, true), (1, true), (2, true), (3, true), (4, true), (5, true), (6, true), (7, true), (8, true), (9, true), (10, true), (11, true), (12, true), (13, true), (14, true), (15, false), (16, true)] (by kernel_rfl) ?_
    intro K hK
    have hr5 := RdS.rowN hm ((n - (1 : Int))).toNat (by omega)
    have hlhr5 := RdS.le hr5
    simp -implicitDefEqProofs (disch := first | decide | assumption | omega) only [go_sem, fa29_0, fa29_1, fa29_2, ld23, ld43, ld22, ld2, RdS.len hd sl22, RdS.idx hd sl22, R1.intB hd (Ext.pres eB), RdS.cells hd, RdS.len hm sl23, RdS.idx hm sl23, RdS.cellB hm (Ext.pres eB), RdS.cells hm, RdS.len hv sl22, RdS.idx hv sl22, R1.intB hv (Ext.pres eB), RdS.cells hv, RdS.len hr5 sl43, RdS.idx hr5 sl43, RdS.cellB hr5 (Ext.pres eB), RdS.cells hr5, BoxAt.cellB hb0_0 eB, wrap_id]
    try simp -implicitDefEqProofs (disch := first | decide | assumption | omega) only [go_sem, RdS.len hd sl22, RdS.idx hd sl22, R1.intB hd (Ext.pres eB), RdS.cells hd, RdS.len hm sl23, RdS.idx hm sl23, RdS.cellB hm (Ext.pres eB), RdS.cells hm, RdS.len hv sl22, RdS.idx hv sl22, R1.intB hv (Ext.pres eB), RdS.cells hv, RdS.len hr5 sl43, RdS.idx hr5 sl43, RdS.cellB hr5 (Ext.pres eB), RdS.cells hr5, BoxAt.cellB hb0_0 eB, wrap_id]
    refine CallA.mono (iApply_ok _ _ _ _ _ _ _ (RdS.pres hv (Ext.pres eB)) (RdS.pres hr5 (Ext.pres eB)) hP.p (by omega) (by have := hl (by omega) (by omega); omega) hv0 hq.2.2) ?_
    intro v3_15 h3_15
    rintro ⟨f3_15, ho3_15, hf3_15, e3_15⟩
    have := Ext.size e3_15
    replace eB := Ext.trans eB e3_15
    have hlho3_15 := OS.lt ho3_15
    try simp (disch := decide) only [outv_some, outv_none, put_puts]
    refine plK_pres (Ext.pres e3_15) ?_
    try simp -implicitDefEqProofs (disch := first | decide | assumption | omega) only [go_sem, RdS.len hd sl22, RdS.idx hd sl22, R1.intB hd (Ext.pres eB), RdS.cells hd, RdS.len hm sl23, RdS.idx hm sl23, RdS.cellB hm (Ext.pres eB), RdS.cells hm, RdS.len hv sl22, RdS.idx hv sl22, R1.intB hv (Ext.pres eB), RdS.cells hv, RdS.len hr5 sl43, RdS.idx hr5 sl43, RdS.cellB hr5 (Ext.pres eB), RdS.cells hr5, RdS.len (OS.rd ho3_15) sl22, RdS.idx (OS.rd ho3_15) sl22, R1.intN (OS.rd ho3_15), RdS.cells (OS.rd ho3_15), BoxAt.cellB hb0_0 eB, wrap_id]
    refine hK _ _ ?_
    clear hK K
    refine den_ret ?_
    simp (disch := decide) only [resP_1, puts_same, puts_ne]
    exact ⟨_, by rw [diffP, if_neg (by omega)]; exact ho3_15, hf3_15.mono (by omega), (Ext.trans e0_0 eB)⟩

set_option maxRecDepth 100000 in
theorem iIs_ok (v : Value) (X : Cx) (h : Heap) (hv : RC h v X) : CallA Tryd.prog 15 #[v] h fun v' h' => v' = .bool (isC X) ∧ Ext h h' := by
  obtain ⟨vd, vm, rfl, hd, hm⟩ := hv
  have hle := RdS.le hd
  have hlm := RdS.le hm
  refine callA_intro TTok (args := [_]) Tryd.func15 (by kernel_rfl) rfl 86 rfl (by simp) [.tmp 2] rfl ?_
  simp only [idxs, Nat.reduceAdd]
  refine den_seq ?_
  refine den_region TTok ?_
  intro K hK
  simp -implicitDefEqProofs (disch := first | decide | assumption | omega) only [go_sem, RdS.len hd sl22, RdS.idx hd sl22, R1.intB hd (HPres.refl _), RdS.cells hd, RdS.len hm sl23, RdS.idx hm sl23, RdS.cellB hm (HPres.refl _), RdS.cells hm, wrap_id, Int.add_sub_cancel]
  refine op_box (cs := #[.int .i64 (X.p), vd, vm]) rfl ?_
  intro h0_0 e0_0 hb0_0 z0_0
  replace hd := RdS.pres hd (Ext.pres e0_0)
  replace hm := RdS.pres hm (Ext.pres e0_0)
  try simp -implicitDefEqProofs (disch := first | decide | assumption | omega) only [go_sem, RdS.len hd sl22, RdS.idx hd sl22, R1.intB hd (HPres.refl _), RdS.cells hd, RdS.len hm sl23, RdS.idx hm sl23, RdS.cellB hm (HPres.refl _), RdS.cells hm, BoxAt.cell hb0_0, wrap_id, Int.add_sub_cancel]
  refine hK _ _ ?_
  clear hK K
  refine den_seq ?_
  refine den_seq ?_
  refine den_merge [(30, .bool (((((!((isP X.p))) || (!((in3 (((X.dims).length : Int) - 1) (0 : Int) (5 : Int))))) || (((X.maps).length : Int) != (((X.dims).length : Int) - 1))) || (X.dims.any (fun x => !in3 x 0 8)))))] [1] (fun H => Ext h0_0 H) ?_ ?_
    -- a way
  · refine den_draw TTok mixed [] [(0, true), (1, true), (2, false), (3, true), (4, true), (5, true), (6, false), (7, false), (8, true), (9, true), (10, true), (11, true), (12, true), (14, true), (13, false), (15, false), (16, true), (17, true), (18, true), (19, true), (20, true), (21, false), (22, true)] (by kernel_rfl) ?_
    intro K hK
    simp -implicitDefEqProofs (disch := first | decide | assumption | (simp (disch := decide) only [slotOf_zero, slotOf_succ, Option.map_some, puts_same, puts_ne, gv_bool, gv_undef, tt, tf, ft, ff, eq_self, if_true, if_false, Bool.false_eq_true, Bool.not_true, Bool.not_false]; done) | omega) only [go_sem, fa29_0, ld2, RdS.len hd sl22, RdS.idx hd sl22, R1.intB hd (HPres.refl _), RdS.cells hd, RdS.len hm sl23, RdS.idx hm sl23, RdS.cellB hm (HPres.refl _), RdS.cells hm, BoxAt.cell hb0_0, wrap_id, Int.add_sub_cancel]
    try simp -implicitDefEqProofs (disch := first | decide | assumption | omega) only [go_sem, RdS.len hd sl22, RdS.idx hd sl22, R1.intB hd (HPres.refl _), RdS.cells hd, RdS.len hm sl23, RdS.idx hm sl23, RdS.cellB hm (HPres.refl _), RdS.cells hm, BoxAt.cell hb0_0, wrap_id, Int.add_sub_cancel]
    refine CallA.pure (iPrime_ok _ _) ?_
    try simp -implicitDefEqProofs (disch := first | decide | assumption | (simp (disch := decide) only [slotOf_zero, slotOf_succ, Option.map_some, puts_same, puts_ne, gv_bool, gv_undef, tt, tf, ft, ff, eq_self, if_true, if_false, Bool.false_eq_true, Bool.not_true, Bool.not_false]; done) | omega) only [go_sem, RdS.len hd sl22, RdS.idx hd sl22, R1.intB hd (HPres.refl _), RdS.cells hd, RdS.len hm sl23, RdS.idx hm sl23, RdS.cellB hm (HPres.refl _), RdS.cells hm, BoxAt.cell hb0_0, wrap_id, Int.add_sub_cancel]
    refine plG_F (by simp (disch := decide) only [slotOf_zero, slotOf_succ, Option.map_some, puts_same, puts_ne, gv_bool, gv_undef, tt, tf, ft, ff, eq_self, if_true, if_false, Bool.false_eq_true, Bool.not_true, Bool.not_false]; rfl) (fun g1 => ?_) (fun g1 => ?_)
    · try simp -implicitDefEqProofs (disch := first | decide | assumption | (simp (disch := decide) only [slotOf_zero, slotOf_succ, Option.map_some, puts_same, puts_ne, gv_bool, gv_undef, tt, tf, ft, ff, eq_self, if_true, if_false, Bool.false_eq_true, Bool.not_true, Bool.not_false, g1]; done) | omega) only [go_sem, ld29, RdS.len hd sl22, RdS.idx hd sl22, R1.intB hd (HPres.refl _), RdS.cells hd, RdS.len hm sl23, RdS.idx hm sl23, RdS.cellB hm (HPres.refl _), RdS.cells hm, BoxAt.cell hb0_0, wrap_id, Int.add_sub_cancel, g1, eq_self, if_true, if_false, Bool.false_eq_true]
      try simp -implicitDefEqProofs (disch := first | decide | assumption | omega) only [go_sem, RdS.len hd sl22, RdS.idx hd sl22, R1.intB hd (HPres.refl _), RdS.cells hd, RdS.len hm sl23, RdS.idx hm sl23, RdS.cellB hm (HPres.refl _), RdS.cells hm, BoxAt.cell hb0_0, wrap_id, Int.add_sub_cancel]
      refine CallA.mono (top_ok _ X _ ⟨_, _, rfl, hd, hm⟩) ?_
      intro v_ h1_6
      rintro ⟨rfl, e1_6⟩
      have := Ext.size e1_6
      have eB := e1_6
      try simp (disch := decide) only [outv_some, outv_none, put_puts]
      refine plK_pres (Ext.pres e1_6) ?_
      try simp -implicitDefEqProofs (disch := first | decide | assumption | (simp (disch := decide) only [slotOf_zero, slotOf_succ, Option.map_some, puts_same, puts_ne, gv_bool, gv_undef, tt, tf, ft, ff, eq_self, if_true, if_false, Bool.false_eq_true, Bool.not_true, Bool.not_false, g1]; done) | omega) only [go_sem, RdS.len hd sl22, RdS.idx hd sl22, R1.intB hd (Ext.pres eB), RdS.cells hd, RdS.len hm sl23, RdS.idx hm sl23, RdS.cellB hm (Ext.pres eB), RdS.cells hm, BoxAt.cellB hb0_0 eB, wrap_id, Int.add_sub_cancel, g1, eq_self, if_true, if_false, Bool.false_eq_true]
      try simp -implicitDefEqProofs (disch := first | decide | assumption | omega) only [go_sem, RdS.len hd sl22, RdS.idx hd sl22, R1.intB hd (Ext.pres eB), RdS.cells hd, RdS.len hm sl23, RdS.idx hm sl23, RdS.cellB hm (Ext.pres eB), RdS.cells hm, BoxAt.cellB hb0_0 eB, wrap_id, Int.add_sub_cancel]
      refine CallA.pure (iIn_ok _ _ _ _) ?_
      try simp -implicitDefEqProofs (disch := first | decide | assumption | (simp (disch := decide) only [slotOf_zero, slotOf_succ, Option.map_some, puts_same, puts_ne, gv_bool, gv_undef, tt, tf, ft, ff, eq_self, if_true, if_false, Bool.false_eq_true, Bool.not_true, Bool.not_false, g1]; done) | omega) only [go_sem, RdS.len hd sl22, RdS.idx hd sl22, R1.intB hd (Ext.pres eB), RdS.cells hd, RdS.len hm sl23, RdS.idx hm sl23, RdS.cellB hm (Ext.pres eB), RdS.cells hm, BoxAt.cellB hb0_0 eB, wrap_id, Int.add_sub_cancel, g1, eq_self, if_true, if_false, Bool.false_eq_true]
      refine plG_F (by simp (disch := decide) only [slotOf_zero, slotOf_succ, Option.map_some, puts_same, puts_ne, gv_bool, gv_undef, tt, tf, ft, ff, eq_self, if_true, if_false, Bool.false_eq_true, Bool.not_true, Bool.not_false, g1]; rfl) (fun g2 => ?_) (fun g2 => ?_)
      · try simp -implicitDefEqProofs (disch := first | decide | assumption | (simp (disch := decide) only [slotOf_zero, slotOf_succ, Option.map_some, puts_same, puts_ne, gv_bool, gv_undef, tt, tf, ft, ff, eq_self, if_true, if_false, Bool.false_eq_true, Bool.not_true, Bool.not_false, g1, g2]; done) | omega) only [go_sem, fa29_2, ld23, ld29, RdS.len hd sl22, RdS.idx hd sl22, R1.intB hd (Ext.pres eB), RdS.cells hd, RdS.len hm sl23, RdS.idx hm sl23, RdS.cellB hm (Ext.pres eB), RdS.cells hm, BoxAt.cellB hb0_0 eB, wrap_id, Int.add_sub_cancel, g1, g2, eq_self, if_true, if_false, Bool.false_eq_true]
        try simp -implicitDefEqProofs (disch := first | decide | assumption | omega) only [go_sem, RdS.len hd sl22, RdS.idx hd sl22, R1.intB hd (Ext.pres eB), RdS.cells hd, RdS.len hm sl23, RdS.idx hm sl23, RdS.cellB hm (Ext.pres eB), RdS.cells hm, BoxAt.cellB hb0_0 eB, wrap_id, Int.add_sub_cancel]
        refine CallA.pure (size3_ok _ _ _ (RdS.pres hm (Ext.pres eB))) ?_
        try simp -implicitDefEqProofs (disch := first | decide | assumption | (simp (disch := decide) only [slotOf_zero, slotOf_succ, Option.map_some, puts_same, puts_ne, gv_bool, gv_undef, tt, tf, ft, ff, eq_self, if_true, if_false, Bool.false_eq_true, Bool.not_true, Bool.not_false, g1, g2]; done) | omega) only [go_sem, RdS.len hd sl22, RdS.idx hd sl22, R1.intB hd (Ext.pres eB), RdS.cells hd, RdS.len hm sl23, RdS.idx hm sl23, RdS.cellB hm (Ext.pres eB), RdS.cells hm, BoxAt.cellB hb0_0 eB, wrap_id, Int.add_sub_cancel, g1, g2, eq_self, if_true, if_false, Bool.false_eq_true]
        try simp -implicitDefEqProofs (disch := first | decide | assumption | omega) only [go_sem, RdS.len hd sl22, RdS.idx hd sl22, R1.intB hd (Ext.pres eB), RdS.cells hd, RdS.len hm sl23, RdS.idx hm sl23, RdS.cellB hm (Ext.pres eB), RdS.cells hm, BoxAt.cellB hb0_0 eB, wrap_id, Int.add_sub_cancel]
        refine CallA.mono (top_ok _ X _ ⟨_, _, rfl, (RdS.pres hd (Ext.pres eB)), (RdS.pres hm (Ext.pres eB))⟩) ?_
        intro v_ h1_15
        rintro ⟨rfl, e1_15⟩
        have := Ext.size e1_15
        replace eB := Ext.trans eB e1_15
        try simp (disch := decide) only [outv_some, outv_none, put_puts]
        refine plK_pres (Ext.pres e1_15) ?_
        try simp -implicitDefEqProofs (disch := first | decide | assumption | (simp (disch := decide) only [slotOf_zero, slotOf_succ, Option.map_some, puts_same, puts_ne, gv_bool, gv_undef, tt, tf, ft, ff, eq_self, if_true, if_false, Bool.false_eq_true, Bool.not_true, Bool.not_false, g1, g2]; done) | omega) only [go_sem, RdS.len hd sl22, RdS.idx hd sl22, R1.intB hd (Ext.pres eB), RdS.cells hd, RdS.len hm sl23, RdS.idx hm sl23, RdS.cellB hm (Ext.pres eB), RdS.cells hm, BoxAt.cellB hb0_0 eB, wrap_id, Int.add_sub_cancel, g1, g2, eq_self, if_true, if_false, Bool.false_eq_true]
        refine plG_F (by simp (disch := decide) only [slotOf_zero, slotOf_succ, Option.map_some, puts_same, puts_ne, gv_bool, gv_undef, tt, tf, ft, ff, eq_self, if_true, if_false, Bool.false_eq_true, Bool.not_true, Bool.not_false, g1, g2]; rfl) (fun g3 => ?_) (fun g3 => ?_)
        · try simp -implicitDefEqProofs (disch := first | decide | assumption | (simp (disch := decide) only [slotOf_zero, slotOf_succ, Option.map_some, puts_same, puts_ne, gv_bool, gv_undef, tt, tf, ft, ff, eq_self, if_true, if_false, Bool.false_eq_true, Bool.not_true, Bool.not_false, g1, g2, g3]; done) | omega) only [go_sem, fa29_1, ld22, RdS.len hd sl22, RdS.idx hd sl22, R1.intB hd (Ext.pres eB), RdS.cells hd, RdS.len hm sl23, RdS.idx hm sl23, RdS.cellB hm (Ext.pres eB), RdS.cells hm, BoxAt.cellB hb0_0 eB, wrap_id, Int.add_sub_cancel, g1, g2, g3, eq_self, if_true, if_false, Bool.false_eq_true]
          try simp -implicitDefEqProofs (disch := first | decide | assumption | omega) only [go_sem, RdS.len hd sl22, RdS.idx hd sl22, R1.intB hd (Ext.pres eB), RdS.cells hd, RdS.len hm sl23, RdS.idx hm sl23, RdS.cellB hm (Ext.pres eB), RdS.cells hm, BoxAt.cellB hb0_0 eB, wrap_id, Int.add_sub_cancel]
          refine CallA.mono (has1_ok _ X.dims _ _ (fun x => !in3 x 0 8) _ (RdS.pres hd (Ext.pres eB)) (fun j hj h' e => by
        simp only [List.append_toArray, List.cons_append, List.nil_append]
        exact CallA.mono (isC1_ok _ _) (fun _ _ ⟨e1, e2⟩ => ⟨e1, e2 ▸ Ext.refl _⟩))) ?_
          intro v_ h1_21
          rintro ⟨rfl, e1_21⟩
          have := Ext.size e1_21
          replace eB := Ext.trans eB e1_21
          try simp (disch := decide) only [outv_some, outv_none, put_puts]
          refine plK_pres (Ext.pres e1_21) ?_
          try simp -implicitDefEqProofs (disch := first | decide | assumption | (simp (disch := decide) only [slotOf_zero, slotOf_succ, Option.map_some, puts_same, puts_ne, gv_bool, gv_undef, tt, tf, ft, ff, eq_self, if_true, if_false, Bool.false_eq_true, Bool.not_true, Bool.not_false, g1, g2, g3]; done) | omega) only [go_sem, RdS.len hd sl22, RdS.idx hd sl22, R1.intB hd (Ext.pres eB), RdS.cells hd, RdS.len hm sl23, RdS.idx hm sl23, RdS.cellB hm (Ext.pres eB), RdS.cells hm, BoxAt.cellB hb0_0 eB, wrap_id, Int.add_sub_cancel, g1, g2, g3, eq_self, if_true, if_false, Bool.false_eq_true]
          refine hK _ _ ?_
          clear hK K
          refine den_stop ?_
          refine ⟨?_, (Ext.trans (Ext.trans e1_6 e1_15) e1_21)⟩
          first | (simp (disch := decide) only [go_sem, g1, g2, g3, eq_self, Bool.true_and, Bool.and_true, Bool.false_and, Bool.and_false, Bool.true_or, Bool.or_true, Bool.false_or, Bool.or_false, if_true, if_false, Bool.false_eq_true]; done) | simp [HasL, sel, puts_at, g1, g2, g3]
        · try simp -implicitDefEqProofs (disch := first | decide | assumption | (simp (disch := decide) only [slotOf_zero, slotOf_succ, Option.map_some, puts_same, puts_ne, gv_bool, gv_undef, tt, tf, ft, ff, eq_self, if_true, if_false, Bool.false_eq_true, Bool.not_true, Bool.not_false, g1, g2, g3]; done) | omega) only [go_sem, RdS.len hd sl22, RdS.idx hd sl22, R1.intB hd (Ext.pres eB), RdS.cells hd, RdS.len hm sl23, RdS.idx hm sl23, RdS.cellB hm (Ext.pres eB), RdS.cells hm, BoxAt.cellB hb0_0 eB, wrap_id, Int.add_sub_cancel, g1, g2, g3, eq_self, if_true, if_false, Bool.false_eq_true]
          refine hK _ _ ?_
          clear hK K
          refine den_stop ?_
          refine ⟨?_, (Ext.trans e1_6 e1_15)⟩
          first | (simp (disch := decide) only [go_sem, g1, g2, g3, eq_self, Bool.true_and, Bool.and_true, Bool.false_and, Bool.and_false, Bool.true_or, Bool.or_true, Bool.false_or, Bool.or_false, if_true, if_false, Bool.false_eq_true]; done) | simp [HasL, sel, puts_at, g1, g2, g3]
      · try simp -implicitDefEqProofs (disch := first | decide | assumption | (simp (disch := decide) only [slotOf_zero, slotOf_succ, Option.map_some, puts_same, puts_ne, gv_bool, gv_undef, tt, tf, ft, ff, eq_self, if_true, if_false, Bool.false_eq_true, Bool.not_true, Bool.not_false, g1, g2]; done) | omega) only [go_sem, RdS.len hd sl22, RdS.idx hd sl22, R1.intB hd (Ext.pres eB), RdS.cells hd, RdS.len hm sl23, RdS.idx hm sl23, RdS.cellB hm (Ext.pres eB), RdS.cells hm, BoxAt.cellB hb0_0 eB, wrap_id, Int.add_sub_cancel, g1, g2, eq_self, if_true, if_false, Bool.false_eq_true]
        try simp -implicitDefEqProofs (disch := first | decide | assumption | (simp (disch := decide) only [slotOf_zero, slotOf_succ, Option.map_some, puts_same, puts_ne, gv_bool, gv_undef, tt, tf, ft, ff, eq_self, if_true, if_false, Bool.false_eq_true, Bool.not_true, Bool.not_false, g1, g2]; done) | omega) only [go_sem, RdS.len hd sl22, RdS.idx hd sl22, R1.intB hd (Ext.pres eB), RdS.cells hd, RdS.len hm sl23, RdS.idx hm sl23, RdS.cellB hm (Ext.pres eB), RdS.cells hm, BoxAt.cellB hb0_0 eB, wrap_id, Int.add_sub_cancel, g1, g2, eq_self, if_true, if_false, Bool.false_eq_true]
        refine hK _ _ ?_
        clear hK K
        refine den_stop ?_
        refine ⟨?_, e1_6⟩
        first | (simp (disch := decide) only [go_sem, g1, g2, eq_self, Bool.true_and, Bool.and_true, Bool.false_and, Bool.and_false, Bool.true_or, Bool.or_true, Bool.false_or, Bool.or_false, if_true, if_false, Bool.false_eq_true]; done) | simp [HasL, sel, puts_at, g1, g2]
    · try simp -implicitDefEqProofs (disch := first | decide | assumption | (simp (disch := decide) only [slotOf_zero, slotOf_succ, Option.map_some, puts_same, puts_ne, gv_bool, gv_undef, tt, tf, ft, ff, eq_self, if_true, if_false, Bool.false_eq_true, Bool.not_true, Bool.not_false, g1]; done) | omega) only [go_sem, RdS.len hd sl22, RdS.idx hd sl22, R1.intB hd (HPres.refl _), RdS.cells hd, RdS.len hm sl23, RdS.idx hm sl23, RdS.cellB hm (HPres.refl _), RdS.cells hm, BoxAt.cell hb0_0, wrap_id, Int.add_sub_cancel, g1, eq_self, if_true, if_false, Bool.false_eq_true]
      try simp -implicitDefEqProofs (disch := first | decide | assumption | (simp (disch := decide) only [slotOf_zero, slotOf_succ, Option.map_some, puts_same, puts_ne, gv_bool, gv_undef, tt, tf, ft, ff, eq_self, if_true, if_false, Bool.false_eq_true, Bool.not_true, Bool.not_false, g1]; done) | omega) only [go_sem, RdS.len hd sl22, RdS.idx hd sl22, R1.intB hd (HPres.refl _), RdS.cells hd, RdS.len hm sl23, RdS.idx hm sl23, RdS.cellB hm (HPres.refl _), RdS.cells hm, BoxAt.cell hb0_0, wrap_id, Int.add_sub_cancel, g1, eq_self, if_true, if_false, Bool.false_eq_true]
      try simp -implicitDefEqProofs (disch := first | decide | assumption | (simp (disch := decide) only [slotOf_zero, slotOf_succ, Option.map_some, puts_same, puts_ne, gv_bool, gv_undef, tt, tf, ft, ff, eq_self, if_true, if_false, Bool.false_eq_true, Bool.not_true, Bool.not_false, g1]; done) | omega) only [go_sem, RdS.len hd sl22, RdS.idx hd sl22, R1.intB hd (HPres.refl _), RdS.cells hd, RdS.len hm sl23, RdS.idx hm sl23, RdS.cellB hm (HPres.refl _), RdS.cells hm, BoxAt.cell hb0_0, wrap_id, Int.add_sub_cancel, g1, eq_self, if_true, if_false, Bool.false_eq_true]
      refine hK _ _ ?_
      clear hK K
      refine den_stop ?_
      refine ⟨?_, Ext.refl _⟩
      first | (simp (disch := decide) only [go_sem, g1, eq_self, Bool.true_and, Bool.and_true, Bool.false_and, Bool.and_false, Bool.true_or, Bool.or_true, Bool.false_or, Bool.or_false, if_true, if_false, Bool.false_eq_true]; done) | simp [HasL, sel, puts_at, g1]
  intro en4 h5 e6
  have := Ext.size e6
  have eB := e6
  simp (disch := decide) only [go_sem]
  refine den_cond rfl (fun c0 => ?_) (fun c0 => ?_)
  · try simp only [decide_eq_true_eq, decide_eq_false_iff_not, beq_iff_eq, beq_eq_false_iff_ne, bne_iff_ne, ne_eq, Bool.not_eq_true', Bool.not_eq_false', Bool.and_eq_true, Bool.or_eq_true, bne_eq_false_iff_eq, Bool.or_eq_false_iff, Bool.and_eq_false_iff] at c0
    refine den_seq ?_
    refine den_region TTok ?_
    intro K hK
    simp -implicitDefEqProofs (disch := first | decide | assumption | omega) only [go_sem, RdS.len hd sl22, RdS.idx hd sl22, R1.intB hd (Ext.pres eB), RdS.cells hd, RdS.len hm sl23, RdS.idx hm sl23, RdS.cellB hm (Ext.pres eB), RdS.cells hm, BoxAt.cellB hb0_0 eB, wrap_id, Int.add_sub_cancel]
    refine hK _ _ ?_
    clear hK K
    refine den_ret ?_
    simp (disch := decide) only [resP_1, puts_same, puts_ne]
    exact ⟨vbool (isC_no fun hC => by
      have h1 := hC.p; have h2 := hC.len; have h3 := hC.ml
      rcases c0 with ((c | c) | c) | c
      · rw [h1] at c; cases c
      · rw [in3_f] at c; omega
      · omega
      · have := hC.dm; rw [List.all_eq_not_any_not, c] at this; cases this), (Ext.trans e0_0 eB)⟩
  · try simp only [decide_eq_true_eq, decide_eq_false_iff_not, beq_iff_eq, beq_eq_false_iff_ne, bne_iff_ne, ne_eq, Bool.not_eq_true', Bool.not_eq_false', Bool.and_eq_true, Bool.or_eq_true, bne_eq_false_iff_eq, Bool.or_eq_false_iff, Bool.and_eq_false_iff] at c0
    refine den_skip ?_
    refine den_seq ?_
    refine den_seq ?_
    have hp7 := isP_bnd c0.1.1.1
    have hdl := in3_iff.1 c0.1.1.2
    have hda := any_all c0.2
    refine den_region TTok ?_
    intro K hK
    simp -implicitDefEqProofs (disch := first | decide | assumption | omega) only [go_sem, fa29_2, ld23, RdS.len hd sl22, RdS.idx hd sl22, R1.intB hd (Ext.pres eB), RdS.cells hd, RdS.len hm sl23, RdS.idx hm sl23, RdS.cellB hm (Ext.pres eB), RdS.cells hm, BoxAt.cellB hb0_0 eB, wrap_id, Int.add_sub_cancel]
    refine hK _ _ ?_
    clear hK K
    refine den_block ?_
    refine den_sel [34, 1, 32, 33] ?_
    intro env_7
    simp only [go_sem]
    refine den_loopS (σ := Nat) (fun s => [(34, .int .i64 (s : Int))]) (fun s H => Ext h0_0 H ∧ s ≤ X.maps.length ∧ ∀ j, j < s → tbAt X j) (fun s => X.maps.length - s) 0 ?_ ?_
    · exact ⟨eB, by omega, fun j hj => by omega⟩
    · rintro k h10 ee9 ⟨eB, hk, hz⟩
      simp only [List.cons_append, List.nil_append]
      have := Ext.size eB
      refine den_seq ?_
      refine den_region TTok ?_
      intro K hK
      simp -implicitDefEqProofs (disch := first | decide | assumption | omega) only [go_sem, RdS.len hd sl22, RdS.idx hd sl22, R1.intB hd (Ext.pres eB), RdS.cells hd, RdS.len hm sl23, RdS.idx hm sl23, RdS.cellB hm (Ext.pres eB), RdS.cells hm, BoxAt.cellB hb0_0 eB, wrap_id, Int.add_sub_cancel]
      refine hK _ _ ?_
      clear hK K
      refine den_seq ?_
      refine den_cond rfl (fun c1 => ?_) (fun c1 => ?_)
      · try simp only [decide_eq_true_eq, decide_eq_false_iff_not, beq_iff_eq, beq_eq_false_iff_ne, bne_iff_ne, ne_eq, Bool.not_eq_true', Bool.not_eq_false', Bool.and_eq_true, Bool.or_eq_true, bne_eq_false_iff_eq, Bool.or_eq_false_iff, Bool.and_eq_false_iff] at c1
        refine den_skip ?_
        refine den_seq ?_
        refine den_block ?_
        refine den_seq ?_
        refine den_region TTok ?_
        intro K hK
        have hr11 := RdS.rowN hm k (by omega)
        have hlhr11 := RdS.le hr11
        simp -implicitDefEqProofs (disch := first | decide | assumption | omega) only [go_sem, ld43, RdS.len hd sl22, RdS.idx hd sl22, R1.intB hd (Ext.pres eB), RdS.cells hd, RdS.len hm sl23, RdS.idx hm sl23, RdS.cellB hm (Ext.pres eB), RdS.cells hm, RdS.len hr11 sl43, RdS.idx hr11 sl43, RdS.cellB hr11 (Ext.pres eB), RdS.cells hr11, BoxAt.cellB hb0_0 eB, wrap_id, Int.add_sub_cancel]
        refine hK _ _ ?_
        clear hK K
        refine den_seq ?_
        refine den_merge [(59, .bool ((((((X.maps).getD k default).length : Int) != ((X.dims).getD (((k : Int) + (1 : Int))).toNat 0)) || (!((((X.maps).getD k default).all (isRow X.p ((X.dims).getD k 0))))))))] [1, 32, 33, 34] (fun H => Ext h10 H) ?_ ?_
          -- a way
        · refine den_draw TTok mixed [] [(0, true), (2, true), (3, true), (4, true), (5, true), (6, true), (7, true), (1, false), (8, true), (9, true), (10, true), (11, true), (12, true), (13, true), (14, true), (15, true), (16, true), (17, true), (18, false), (19, true), (20, true)] (by kernel_rfl) ?_
          intro K hK
          simp -implicitDefEqProofs (disch := first | decide | assumption | (simp (disch := decide) only [slotOf_zero, slotOf_succ, Option.map_some, puts_same, puts_ne, gv_bool, gv_undef, tt, tf, ft, ff, eq_self, if_true, if_false, Bool.false_eq_true, Bool.not_true, Bool.not_false]; done) | omega) only [go_sem, fa29_1, ld22, ld2, RdS.len hd sl22, RdS.idx hd sl22, R1.intB hd (Ext.pres eB), RdS.cells hd, RdS.len hm sl23, RdS.idx hm sl23, RdS.cellB hm (Ext.pres eB), RdS.cells hm, RdS.len hr11 sl43, RdS.idx hr11 sl43, RdS.cellB hr11 (Ext.pres eB), RdS.cells hr11, BoxAt.cellB hb0_0 eB, wrap_id, Int.add_sub_cancel]
          try simp -implicitDefEqProofs (disch := first | decide | assumption | omega) only [go_sem, RdS.len hd sl22, RdS.idx hd sl22, R1.intB hd (Ext.pres eB), RdS.cells hd, RdS.len hm sl23, RdS.idx hm sl23, RdS.cellB hm (Ext.pres eB), RdS.cells hm, RdS.len hr11 sl43, RdS.idx hr11 sl43, RdS.cellB hr11 (Ext.pres eB), RdS.cells hr11, BoxAt.cellB hb0_0 eB, wrap_id, Int.add_sub_cancel]
          refine CallA.pure (size2_ok _ _ _ (RdS.pres hr11 (Ext.pres eB))) ?_
          try simp -implicitDefEqProofs (disch := first | decide | assumption | (simp (disch := decide) only [slotOf_zero, slotOf_succ, Option.map_some, puts_same, puts_ne, gv_bool, gv_undef, tt, tf, ft, ff, eq_self, if_true, if_false, Bool.false_eq_true, Bool.not_true, Bool.not_false]; done) | omega) only [go_sem, RdS.len hd sl22, RdS.idx hd sl22, R1.intB hd (Ext.pres eB), RdS.cells hd, RdS.len hm sl23, RdS.idx hm sl23, RdS.cellB hm (Ext.pres eB), RdS.cells hm, RdS.len hr11 sl43, RdS.idx hr11 sl43, RdS.cellB hr11 (Ext.pres eB), RdS.cells hr11, BoxAt.cellB hb0_0 eB, wrap_id, Int.add_sub_cancel]
          refine plG_F (by simp (disch := decide) only [slotOf_zero, slotOf_succ, Option.map_some, puts_same, puts_ne, gv_bool, gv_undef, tt, tf, ft, ff, eq_self, if_true, if_false, Bool.false_eq_true, Bool.not_true, Bool.not_false]; rfl) (fun g12 => ?_) (fun g12 => ?_)
          · try simp -implicitDefEqProofs (disch := first | decide | assumption | (simp (disch := decide) only [slotOf_zero, slotOf_succ, Option.map_some, puts_same, puts_ne, gv_bool, gv_undef, tt, tf, ft, ff, eq_self, if_true, if_false, Bool.false_eq_true, Bool.not_true, Bool.not_false, g12]; done) | omega) only [go_sem, fa29_0, fa29_1, ld22, ld2, RdS.len hd sl22, RdS.idx hd sl22, R1.intB hd (Ext.pres eB), RdS.cells hd, RdS.len hm sl23, RdS.idx hm sl23, RdS.cellB hm (Ext.pres eB), RdS.cells hm, RdS.len hr11 sl43, RdS.idx hr11 sl43, RdS.cellB hr11 (Ext.pres eB), RdS.cells hr11, BoxAt.cellB hb0_0 eB, wrap_id, Int.add_sub_cancel, g12, eq_self, if_true, if_false, Bool.false_eq_true]
            try simp -implicitDefEqProofs (disch := first | decide | assumption | omega) only [go_sem, RdS.len hd sl22, RdS.idx hd sl22, R1.intB hd (Ext.pres eB), RdS.cells hd, RdS.len hm sl23, RdS.idx hm sl23, RdS.cellB hm (Ext.pres eB), RdS.cells hm, RdS.len hr11 sl43, RdS.idx hr11 sl43, RdS.cellB hr11 (Ext.pres eB), RdS.cells hr11, BoxAt.cellB hb0_0 eB, wrap_id, Int.add_sub_cancel]
            refine CallA.mono (areRows_ok _ _ _ _ _ (RdS.pres hr11 (Ext.pres eB)) (by omega)) ?_
            intro v_ h6_18
            rintro ⟨rfl, e6_18⟩
            have := Ext.size e6_18
            replace eB := Ext.trans eB e6_18
            try simp (disch := decide) only [outv_some, outv_none, put_puts]
            refine plK_pres (Ext.pres e6_18) ?_
            try simp -implicitDefEqProofs (disch := first | decide | assumption | (simp (disch := decide) only [slotOf_zero, slotOf_succ, Option.map_some, puts_same, puts_ne, gv_bool, gv_undef, tt, tf, ft, ff, eq_self, if_true, if_false, Bool.false_eq_true, Bool.not_true, Bool.not_false, g12]; done) | omega) only [go_sem, RdS.len hd sl22, RdS.idx hd sl22, R1.intB hd (Ext.pres eB), RdS.cells hd, RdS.len hm sl23, RdS.idx hm sl23, RdS.cellB hm (Ext.pres eB), RdS.cells hm, RdS.len hr11 sl43, RdS.idx hr11 sl43, RdS.cellB hr11 (Ext.pres eB), RdS.cells hr11, BoxAt.cellB hb0_0 eB, wrap_id, Int.add_sub_cancel, g12, eq_self, if_true, if_false, Bool.false_eq_true]
            refine hK _ _ ?_
            clear hK K
            refine den_stop ?_
            refine ⟨?_, e6_18⟩
            first | (simp (disch := decide) only [go_sem, g12, eq_self, Bool.true_and, Bool.and_true, Bool.false_and, Bool.and_false, Bool.true_or, Bool.or_true, Bool.false_or, Bool.or_false, if_true, if_false, Bool.false_eq_true]; done) | simp [HasL, sel, puts_at, g12]
          · try simp -implicitDefEqProofs (disch := first | decide | assumption | (simp (disch := decide) only [slotOf_zero, slotOf_succ, Option.map_some, puts_same, puts_ne, gv_bool, gv_undef, tt, tf, ft, ff, eq_self, if_true, if_false, Bool.false_eq_true, Bool.not_true, Bool.not_false, g12]; done) | omega) only [go_sem, RdS.len hd sl22, RdS.idx hd sl22, R1.intB hd (Ext.pres eB), RdS.cells hd, RdS.len hm sl23, RdS.idx hm sl23, RdS.cellB hm (Ext.pres eB), RdS.cells hm, RdS.len hr11 sl43, RdS.idx hr11 sl43, RdS.cellB hr11 (Ext.pres eB), RdS.cells hr11, BoxAt.cellB hb0_0 eB, wrap_id, Int.add_sub_cancel, g12, eq_self, if_true, if_false, Bool.false_eq_true]
            refine hK _ _ ?_
            clear hK K
            refine den_stop ?_
            refine ⟨?_, Ext.refl _⟩
            first | (simp (disch := decide) only [go_sem, g12, eq_self, Bool.true_and, Bool.and_true, Bool.false_and, Bool.and_false, Bool.true_or, Bool.or_true, Bool.false_or, Bool.or_false, if_true, if_false, Bool.false_eq_true]; done) | simp [HasL, sel, puts_at, g12]
        intro en13 h14 e15
        have := Ext.size e15
        replace eB := Ext.trans eB e15
        simp (disch := decide) only [go_sem]
        refine den_cond rfl (fun c2 => ?_) (fun c2 => ?_)
        · try simp only [decide_eq_true_eq, decide_eq_false_iff_not, beq_iff_eq, beq_eq_false_iff_ne, bne_iff_ne, ne_eq, Bool.not_eq_true', Bool.not_eq_false', Bool.and_eq_true, Bool.or_eq_true, bne_eq_false_iff_eq, Bool.or_eq_false_iff, Bool.and_eq_false_iff] at c2
          refine den_seq ?_
          refine den_region TTok ?_
          intro K hK
          simp -implicitDefEqProofs (disch := first | decide | assumption | omega) only [go_sem, RdS.len hd sl22, RdS.idx hd sl22, R1.intB hd (Ext.pres eB), RdS.cells hd, RdS.len hm sl23, RdS.idx hm sl23, RdS.cellB hm (Ext.pres eB), RdS.cells hm, RdS.len hr11 sl43, RdS.idx hr11 sl43, RdS.cellB hr11 (Ext.pres eB), RdS.cells hr11, BoxAt.cellB hb0_0 eB, wrap_id, Int.add_sub_cancel]
          refine hK _ _ ?_
          clear hK K
          refine den_ret ?_
          simp (disch := decide) only [resP_1, puts_same, puts_ne]
          exact ⟨vbool (isC_no fun hC => by
            have h := tbAt_iff.1 (hC.tb k (by omega))
            rcases c2 with c | c
            · exact c h.1
            · rw [h.2] at c; cases c), (Ext.trans e0_0 eB)⟩
        · try simp only [decide_eq_true_eq, decide_eq_false_iff_not, beq_iff_eq, beq_eq_false_iff_ne, bne_iff_ne, ne_eq, Bool.not_eq_true', Bool.not_eq_false', Bool.and_eq_true, Bool.or_eq_true, bne_eq_false_iff_eq, Bool.or_eq_false_iff, Bool.and_eq_false_iff] at c2
          refine den_skip ?_
          refine den_blk ?_
          refine den_region TTok ?_
          intro K hK
          simp -implicitDefEqProofs (disch := first | decide | assumption | omega) only [go_sem, RdS.len hd sl22, RdS.idx hd sl22, R1.intB hd (Ext.pres eB), RdS.cells hd, RdS.len hm sl23, RdS.idx hm sl23, RdS.cellB hm (Ext.pres eB), RdS.cells hm, RdS.len hr11 sl43, RdS.idx hr11 sl43, RdS.cellB hr11 (Ext.pres eB), RdS.cells hr11, BoxAt.cellB hb0_0 eB, wrap_id, Int.add_sub_cancel]
          refine hK _ _ ?_
          clear hK K
          refine den_stop ?_
          exact ⟨k + 1, by simp [HasL, puts_at], ⟨eB, by omega, fun j hj => by
            rcases Nat.lt_succ_iff_lt_or_eq.1 hj with h1 | h1
            · exact hz j h1
            · subst h1; exact tbAt_iff.2 c2⟩, by omega⟩
      · try simp only [decide_eq_true_eq, decide_eq_false_iff_not, beq_iff_eq, beq_eq_false_iff_ne, bne_iff_ne, ne_eq, Bool.not_eq_true', Bool.not_eq_false', Bool.and_eq_true, Bool.or_eq_true, bne_eq_false_iff_eq, Bool.or_eq_false_iff, Bool.and_eq_false_iff] at c1
        refine den_exit ?_
        refine denX_code ?_
        refine denX_stop ?_
        refine denX_hit ?_
        refine den_seq ?_
        refine den_seq ?_
        have hP : PreC X := ⟨hp7, by omega, hda, fun j hj => hz j (by omega)⟩
        refine den_region TTok ?_
        intro K hK
        simp -implicitDefEqProofs (disch := first | decide | assumption | omega) only [go_sem, RdS.len hd sl22, RdS.idx hd sl22, R1.intB hd (Ext.pres eB), RdS.cells hd, RdS.len hm sl23, RdS.idx hm sl23, RdS.cellB hm (Ext.pres eB), RdS.cells hm, BoxAt.cellB hb0_0 eB, wrap_id, Int.add_sub_cancel]
        refine hK _ _ ?_
        clear hK K
        refine den_block ?_
        refine den_sel [5, 1] ?_
        intro env_16
        simp only [go_sem]
        refine den_loopS (σ := Nat) (fun s => [(5, .int .i64 ((s : Int) + 1))]) (fun s H => Ext h0_0 H ∧ 0 < s ∧ ∀ j, 0 < j → j < s → ∀ i, i < (X.maps.getD j default).length → leadP (sqv X j i) < 0) (fun s => X.maps.length - s) 1 ?_ ?_
        · exact ⟨eB, by omega, fun j h0 hj => by omega⟩
        · rintro k h19 ee18 ⟨eB, hk, hs⟩
          simp only [List.cons_append, List.nil_append]
          have := Ext.size eB
          refine den_seq ?_
          refine den_seq ?_
          refine den_region TTok ?_
          intro K hK
          simp -implicitDefEqProofs (disch := first | decide | assumption | omega) only [go_sem, ld29, RdS.len hd sl22, RdS.idx hd sl22, R1.intB hd (Ext.pres eB), RdS.cells hd, RdS.len hm sl23, RdS.idx hm sl23, RdS.cellB hm (Ext.pres eB), RdS.cells hm, BoxAt.cellB hb0_0 eB, wrap_id, Int.add_sub_cancel]
          try simp -implicitDefEqProofs (disch := first | decide | assumption | omega) only [go_sem, RdS.len hd sl22, RdS.idx hd sl22, R1.intB hd (Ext.pres eB), RdS.cells hd, RdS.len hm sl23, RdS.idx hm sl23, RdS.cellB hm (Ext.pres eB), RdS.cells hm, BoxAt.cellB hb0_0 eB, wrap_id, Int.add_sub_cancel]
          refine CallA.mono (top_ok _ X _ ⟨_, _, rfl, (RdS.pres hd (Ext.pres eB)), (RdS.pres hm (Ext.pres eB))⟩) ?_
          intro v_ h10_2
          rintro ⟨rfl, e10_2⟩
          have := Ext.size e10_2
          replace eB := Ext.trans eB e10_2
          try simp -implicitDefEqProofs (disch := first | decide | assumption | omega) only [go_sem, RdS.len hd sl22, RdS.idx hd sl22, R1.intB hd (Ext.pres eB), RdS.cells hd, RdS.len hm sl23, RdS.idx hm sl23, RdS.cellB hm (Ext.pres eB), RdS.cells hm, BoxAt.cellB hb0_0 eB, wrap_id, Int.add_sub_cancel]
          refine hK _ _ ?_
          clear hK K
          refine den_cond rfl (fun c3 => ?_) (fun c3 => ?_)
          · try simp only [decide_eq_true_eq, decide_eq_false_iff_not, beq_iff_eq, beq_eq_false_iff_ne, bne_iff_ne, ne_eq, Bool.not_eq_true', Bool.not_eq_false', Bool.and_eq_true, Bool.or_eq_true, bne_eq_false_iff_eq, Bool.or_eq_false_iff, Bool.and_eq_false_iff] at c3
            refine den_skip ?_
            refine den_seq ?_
            refine den_block ?_
            refine den_seq ?_
            refine den_region TTok ?_
            intro K hK
            have hr20 := RdS.rowN hm k (by omega)
            have hlhr20 := RdS.le hr20
            simp -implicitDefEqProofs (disch := first | decide | assumption | omega) only [go_sem, fa29_2, ld23, ld43, RdS.len hd sl22, RdS.idx hd sl22, R1.intB hd (Ext.pres eB), RdS.cells hd, RdS.len hm sl23, RdS.idx hm sl23, RdS.cellB hm (Ext.pres eB), RdS.cells hm, RdS.len hr20 sl43, RdS.idx hr20 sl43, RdS.cellB hr20 (Ext.pres eB), RdS.cells hr20, BoxAt.cellB hb0_0 eB, wrap_id, Int.add_sub_cancel]
            refine hK _ _ ?_
            clear hK K
            refine den_block ?_
            refine den_sel [74, 1, 5, 72, 73] ?_
            intro env_21
            simp only [go_sem]
            refine den_loopS (σ := Nat) (fun s => [(74, .int .i64 (s : Int))]) (fun s H => Ext h0_0 H ∧ s ≤ (X.maps.getD k default).length ∧ ∀ i, i < s → leadP (sqv X k i) < 0) (fun s => (X.maps.getD k default).length - s) 0 ?_ ?_
            · exact ⟨eB, by omega, fun j hj => by omega⟩
            · rintro m h24 ee23 ⟨eB, hm2, hy⟩
              simp only [List.cons_append, List.nil_append]
              have := Ext.size eB
              refine den_seq ?_
              refine den_region TTok ?_
              intro K hK
              simp -implicitDefEqProofs (disch := first | decide | assumption | omega) only [go_sem, RdS.len hd sl22, RdS.idx hd sl22, R1.intB hd (Ext.pres eB), RdS.cells hd, RdS.len hm sl23, RdS.idx hm sl23, RdS.cellB hm (Ext.pres eB), RdS.cells hm, RdS.len hr20 sl43, RdS.idx hr20 sl43, RdS.cellB hr20 (Ext.pres eB), RdS.cells hr20, BoxAt.cellB hb0_0 eB, wrap_id, Int.add_sub_cancel]
              refine hK _ _ ?_
              clear hK K
              refine den_seq ?_
              refine den_cond rfl (fun c4 => ?_) (fun c4 => ?_)
              · try simp only [decide_eq_true_eq, decide_eq_false_iff_not, beq_iff_eq, beq_eq_false_iff_ne, bne_iff_ne, ne_eq, Bool.not_eq_true', Bool.not_eq_false', Bool.and_eq_true, Bool.or_eq_true, bne_eq_false_iff_eq, Bool.or_eq_false_iff, Bool.and_eq_false_iff] at c4
                refine den_skip ?_
                refine den_seq ?_
                refine den_block ?_
                refine den_seq ?_
                refine den_region TTok ?_
                intro K hK
                have hr25 := RdS.rowN hr20 m (by omega)
                have hlhr25 := RdS.le hr25
                simp -implicitDefEqProofs (disch := first | decide | assumption | omega) only [go_sem, ld22, RdS.len hd sl22, RdS.idx hd sl22, R1.intB hd (Ext.pres eB), RdS.cells hd, RdS.len hm sl23, RdS.idx hm sl23, RdS.cellB hm (Ext.pres eB), RdS.cells hm, RdS.len hr20 sl43, RdS.idx hr20 sl43, RdS.cellB hr20 (Ext.pres eB), RdS.cells hr20, RdS.len hr25 sl22, RdS.idx hr25 sl22, R1.intB hr25 (Ext.pres eB), RdS.cells hr25, BoxAt.cellB hb0_0 eB, wrap_id, Int.add_sub_cancel]
                refine hK _ _ ?_
                clear hK K
                refine den_seq ?_
                have hq := (tableP_iff.1 (hP.tb k (by omega))).2.at (k := m) (by omega)
                refine den_region TTok ?_
                intro K hK
                simp -implicitDefEqProofs (disch := first | decide | assumption | omega) only [go_sem, ld29, RdS.len hd sl22, RdS.idx hd sl22, R1.intB hd (Ext.pres eB), RdS.cells hd, RdS.len hm sl23, RdS.idx hm sl23, RdS.cellB hm (Ext.pres eB), RdS.cells hm, RdS.len hr20 sl43, RdS.idx hr20 sl43, RdS.cellB hr20 (Ext.pres eB), RdS.cells hr20, RdS.len hr25 sl22, RdS.idx hr25 sl22, R1.intB hr25 (Ext.pres eB), RdS.cells hr25, BoxAt.cellB hb0_0 eB, wrap_id, Int.add_sub_cancel]
                try simp -implicitDefEqProofs (disch := first | decide | assumption | omega) only [go_sem, RdS.len hd sl22, RdS.idx hd sl22, R1.intB hd (Ext.pres eB), RdS.cells hd, RdS.len hm sl23, RdS.idx hm sl23, RdS.cellB hm (Ext.pres eB), RdS.cells hm, RdS.len hr20 sl43, RdS.idx hr20 sl43, RdS.cellB hr20 (Ext.pres eB), RdS.cells hr20, RdS.len hr25 sl22, RdS.idx hr25 sl22, R1.intB hr25 (Ext.pres eB), RdS.cells hr25, BoxAt.cellB hb0_0 eB, wrap_id, Int.add_sub_cancel]
                refine CallA.mono (diff_ok _ X _ _ _ _ ⟨_, _, rfl, (RdS.pres hd (Ext.pres eB)), (RdS.pres hm (Ext.pres eB))⟩ (RdS.pres hr25 (Ext.pres eB)) hP hq.2 (fun _ _ => by simpa using hq.1)) ?_
                intro v15_4 h15_4
                rintro ⟨f15_4, ho15_4, hf15_4, e15_4⟩
                have := Ext.size e15_4
                replace eB := Ext.trans eB e15_4
                have hlho15_4 := OS.lt ho15_4
                try simp -implicitDefEqProofs (disch := first | decide | assumption | omega) only [go_sem, RdS.len hd sl22, RdS.idx hd sl22, R1.intB hd (Ext.pres eB), RdS.cells hd, RdS.len hm sl23, RdS.idx hm sl23, RdS.cellB hm (Ext.pres eB), RdS.cells hm, RdS.len hr20 sl43, RdS.idx hr20 sl43, RdS.cellB hr20 (Ext.pres eB), RdS.cells hr20, RdS.len hr25 sl22, RdS.idx hr25 sl22, R1.intB hr25 (Ext.pres eB), RdS.cells hr25, RdS.len (OS.rd ho15_4) sl22, RdS.idx (OS.rd ho15_4) sl22, R1.intN (OS.rd ho15_4), RdS.cells (OS.rd ho15_4), BoxAt.cellB hb0_0 eB, wrap_id, Int.add_sub_cancel]
                try simp -implicitDefEqProofs (disch := first | decide | assumption | omega) only [go_sem, RdS.len hd sl22, RdS.idx hd sl22, R1.intB hd (Ext.pres eB), RdS.cells hd, RdS.len hm sl23, RdS.idx hm sl23, RdS.cellB hm (Ext.pres eB), RdS.cells hm, RdS.len hr20 sl43, RdS.idx hr20 sl43, RdS.cellB hr20 (Ext.pres eB), RdS.cells hr20, RdS.len hr25 sl22, RdS.idx hr25 sl22, R1.intB hr25 (Ext.pres eB), RdS.cells hr25, RdS.len (OS.rd ho15_4) sl22, RdS.idx (OS.rd ho15_4) sl22, R1.intN (OS.rd ho15_4), RdS.cells (OS.rd ho15_4), BoxAt.cellB hb0_0 eB, wrap_id, Int.add_sub_cancel]
                refine CallA.mono (isZero_ok _ _ _ (OS.rd ho15_4)) ?_
                intro v_ h15_5
                rintro ⟨rfl, e15_5⟩
                replace ho15_4 := OS.ext ho15_4 e15_5
                have := Ext.size e15_5
                replace eB := Ext.trans eB e15_5
                try simp -implicitDefEqProofs (disch := first | decide | assumption | omega) only [go_sem, RdS.len hd sl22, RdS.idx hd sl22, R1.intB hd (Ext.pres eB), RdS.cells hd, RdS.len hm sl23, RdS.idx hm sl23, RdS.cellB hm (Ext.pres eB), RdS.cells hm, RdS.len hr20 sl43, RdS.idx hr20 sl43, RdS.cellB hr20 (Ext.pres eB), RdS.cells hr20, RdS.len hr25 sl22, RdS.idx hr25 sl22, R1.intB hr25 (Ext.pres eB), RdS.cells hr25, RdS.len (OS.rd ho15_4) sl22, RdS.idx (OS.rd ho15_4) sl22, R1.intN (OS.rd ho15_4), RdS.cells (OS.rd ho15_4), BoxAt.cellB hb0_0 eB, wrap_id, Int.add_sub_cancel]
                refine hK _ _ ?_
                clear hK K
                refine den_cond rfl (fun c5 => ?_) (fun c5 => ?_)
                · try simp only [decide_eq_true_eq, decide_eq_false_iff_not, beq_iff_eq, beq_eq_false_iff_ne, bne_iff_ne, ne_eq, Bool.not_eq_true', Bool.not_eq_false', Bool.and_eq_true, Bool.or_eq_true, bne_eq_false_iff_eq, Bool.or_eq_false_iff, Bool.and_eq_false_iff] at c5
                  refine den_seq ?_
                  refine den_region TTok ?_
                  intro K hK
                  simp -implicitDefEqProofs (disch := first | decide | assumption | omega) only [go_sem, RdS.len hd sl22, RdS.idx hd sl22, R1.intB hd (Ext.pres eB), RdS.cells hd, RdS.len hm sl23, RdS.idx hm sl23, RdS.cellB hm (Ext.pres eB), RdS.cells hm, RdS.len hr20 sl43, RdS.idx hr20 sl43, RdS.cellB hr20 (Ext.pres eB), RdS.cells hr20, RdS.len hr25 sl22, RdS.idx hr25 sl22, R1.intB hr25 (Ext.pres eB), RdS.cells hr25, RdS.len (OS.rd ho15_4) sl22, RdS.idx (OS.rd ho15_4) sl22, R1.intN (OS.rd ho15_4), RdS.cells (OS.rd ho15_4), BoxAt.cellB hb0_0 eB, wrap_id, Int.add_sub_cancel]
                  refine hK _ _ ?_
                  clear hK K
                  refine den_ret ?_
                  simp (disch := decide) only [resP_1, puts_same, puts_ne]
                  exact ⟨vbool (isC_no fun hC => by have h := hC.sq k (by omega) (by omega) m (by omega); rw [diff_sqv (by omega) (by omega)] at c5; exact lead_some c5 h), (Ext.trans e0_0 eB)⟩
                · try simp only [decide_eq_true_eq, decide_eq_false_iff_not, beq_iff_eq, beq_eq_false_iff_ne, bne_iff_ne, ne_eq, Bool.not_eq_true', Bool.not_eq_false', Bool.and_eq_true, Bool.or_eq_true, bne_eq_false_iff_eq, Bool.or_eq_false_iff, Bool.and_eq_false_iff] at c5
                  refine den_skip ?_
                  refine den_blk ?_
                  refine den_region TTok ?_
                  intro K hK
                  simp -implicitDefEqProofs (disch := first | decide | assumption | omega) only [go_sem, RdS.len hd sl22, RdS.idx hd sl22, R1.intB hd (Ext.pres eB), RdS.cells hd, RdS.len hm sl23, RdS.idx hm sl23, RdS.cellB hm (Ext.pres eB), RdS.cells hm, RdS.len hr20 sl43, RdS.idx hr20 sl43, RdS.cellB hr20 (Ext.pres eB), RdS.cells hr20, RdS.len hr25 sl22, RdS.idx hr25 sl22, R1.intB hr25 (Ext.pres eB), RdS.cells hr25, RdS.len (OS.rd ho15_4) sl22, RdS.idx (OS.rd ho15_4) sl22, R1.intN (OS.rd ho15_4), RdS.cells (OS.rd ho15_4), BoxAt.cellB hb0_0 eB, wrap_id, Int.add_sub_cancel]
                  refine hK _ _ ?_
                  clear hK K
                  refine den_stop ?_
                  exact ⟨m + 1, by simp [HasL, puts_at], ⟨eB, by omega, fun i hi => by
                    rcases Nat.lt_succ_iff_lt_or_eq.1 hi with h1 | h1
                    · exact hy i h1
                    · subst h1; rw [← diff_sqv (by omega) (by omega)]; exact lead_zero c5⟩, by omega⟩
              · try simp only [decide_eq_true_eq, decide_eq_false_iff_not, beq_iff_eq, beq_eq_false_iff_ne, bne_iff_ne, ne_eq, Bool.not_eq_true', Bool.not_eq_false', Bool.and_eq_true, Bool.or_eq_true, bne_eq_false_iff_eq, Bool.or_eq_false_iff, Bool.and_eq_false_iff] at c4
                refine den_exit ?_
                refine denX_code ?_
                refine denX_stop ?_
                refine denX_hit ?_
                refine den_blk ?_
                refine den_region TTok ?_
                intro K hK
                simp -implicitDefEqProofs (disch := first | decide | assumption | omega) only [go_sem, RdS.len hd sl22, RdS.idx hd sl22, R1.intB hd (Ext.pres eB), RdS.cells hd, RdS.len hm sl23, RdS.idx hm sl23, RdS.cellB hm (Ext.pres eB), RdS.cells hm, RdS.len hr20 sl43, RdS.idx hr20 sl43, RdS.cellB hr20 (Ext.pres eB), RdS.cells hr20, BoxAt.cellB hb0_0 eB, wrap_id, Int.add_sub_cancel]
                refine hK _ _ ?_
                clear hK K
                refine den_stop ?_
                exact ⟨k + 1, by simp [HasL, puts_at], ⟨eB, by omega, fun j h0 hj => by
                  rcases Nat.lt_succ_iff_lt_or_eq.1 hj with h1 | h1
                  · exact hs j h0 h1
                  · subst h1; exact fun i hi => hy i (by omega)⟩, by omega⟩
          · try simp only [decide_eq_true_eq, decide_eq_false_iff_not, beq_iff_eq, beq_eq_false_iff_ne, bne_iff_ne, ne_eq, Bool.not_eq_true', Bool.not_eq_false', Bool.and_eq_true, Bool.or_eq_true, bne_eq_false_iff_eq, Bool.or_eq_false_iff, Bool.and_eq_false_iff] at c3
            refine den_exit ?_
            refine denX_code ?_
            refine denX_stop ?_
            refine denX_hit ?_
            refine den_seq ?_
            refine den_region TTok ?_
            intro K hK
            simp -implicitDefEqProofs (disch := first | decide | assumption | omega) only [go_sem, RdS.len hd sl22, RdS.idx hd sl22, R1.intB hd (Ext.pres eB), RdS.cells hd, RdS.len hm sl23, RdS.idx hm sl23, RdS.cellB hm (Ext.pres eB), RdS.cells hm, BoxAt.cellB hb0_0 eB, wrap_id, Int.add_sub_cancel]
            refine hK _ _ ?_
            clear hK K
            refine den_ret ?_
            simp (disch := decide) only [resP_1, puts_same, puts_ne]
            exact ⟨vbool (isC_yes ⟨c0.1.1.1, by omega, by omega, hda, hP.tb, fun j hj h0 => hs j h0 (by omega)⟩), (Ext.trans e0_0 eB)⟩

end Go.Proofs.YtacajcjibhifmaaDoor
