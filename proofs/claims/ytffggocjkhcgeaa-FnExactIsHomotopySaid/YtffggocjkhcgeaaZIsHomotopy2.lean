/-
  What the statement FnExactIsHomotopy uses of the walks, part 2.
  Conditions: each theorem's own.
-/
import Derived.Test.YtffggocjkhcgeaaG16
import Derived.Test.YtffggocjkhcgeaaG17
import Derived.Test.YtffggocjkhcgeaaG14
import Derived.Test.YtffggocjkhcgeaaG13
import Derived.Test.YtffggocjkhcgeaaG15
import Derived.Test.YtffggocjkhcgeaaZIsHomotopy1
set_option linter.unusedVariables false
set_option linter.unusedSimpArgs false
namespace Go.Proofs.Ytffggocjkhcgeaa
open Go
structure PreC (X : Cx) : Prop where
  p : 0 < X.p ∧ X.p ≤ 7
  ml : X.maps.length + 1 = X.dims.length
  dm : X.dims.all (fun x => in3 x 0 8) = true
  tb : ∀ k, k < X.maps.length → tbAt X k
theorem IsC.pre {X : Cx} (h : IsC X) : PreC X := ⟨isP_bnd h.p, h.ml, h.dm, h.tb⟩
def diffP (X : Cx) (n : Int) (v : List Int) : List Int := if n ≤ 0 ∨ (X.dims.length : Int) - 1 < n then [] else accP X.p v (X.maps.getD (n - 1).toNat default) (List.replicate (X.dims.getD (n - 1).toNat 0).toNat 0)
theorem PreC.app {X : Cx} (h : PreC X) {n : Int} (h0 : 0 < n) (h1 : n ≤ (X.dims.length : Int) - 1) : (0 ≤ X.dims.getD (n - 1).toNat 0 ∧ X.dims.getD (n - 1).toNat 0 ≤ 8) ∧ ((X.maps.getD (n - 1).toNat default).length : Int) = X.dims.getD n.toNat 0 ∧ Tbl X.p (X.dims.getD (n - 1).toNat 0) (X.maps.getD (n - 1).toNat default) := by
  have hm := h.ml
  have t := tableP_iff.1 (h.tb (n - 1).toNat (by omega))
  have e : ((((n - 1).toNat : Nat) : Int) + 1).toNat = n.toNat := by omega
  rw [e] at t
  exact ⟨dm_at h.dm (by omega), t⟩
theorem zero_lead {xs : List Int} : (!(xs.any fun x => x != 0)) = true ↔ leadP xs < 0 := by
  rw [leadP_idx, ← idxP_any]
  simp
theorem any_all {α : Type} {f : α → Bool} {xs : List α} (h : (xs.any fun x => !f x) = false) : xs.all f = true := by rw [List.all_eq_not_any_not, h]; rfl
theorem diff_sqv {X : Cx} {k i : Nat} (h0 : 0 < k) (h1 : (k : Int) ≤ (X.dims.length : Int) - 1) : diffP X (k : Int) ((X.maps.getD k default).getD i default) = sqv X k i := by
  rw [diffP, if_neg (by omega)]; rfl
theorem lead_zero {xs : List Int} (h : xs.any (fun x => x != 0) = false) : leadP xs < 0 := zero_lead.1 (by rw [h]; rfl)
theorem lead_some {xs : List Int} (h : xs.any (fun x => x != 0) = true) : ¬ leadP xs < 0 := fun hn => by
  have := zero_lead.2 hn
  rw [h] at this; cases this
theorem tbAt_iff {X : Cx} {k : Nat} : tbAt X k ↔ ((X.maps.getD k default).length : Int) = X.dims.getD ((k : Int) + 1).toNat 0 ∧ (X.maps.getD k default).all (isRow X.p (X.dims.getD k 0)) = true := by
  simp only [tbAt, tableP, Bool.and_eq_true, decide_eq_true_eq]

set_option maxRecDepth 100000 in
theorem diff_ok (vx : Value) (X : Cx) (n : Int) (v : Value) (xs : List Int) (h : Heap) (hx : RC h vx X) (hv : R1 h v xs) (hP : PreC X) (hv0 : Bnd X.p xs) (hl : 0 < n → n ≤ (X.dims.length : Int) - 1 → (xs.length : Int) = X.dims.getD n.toNat 0) : CallA Try.prog 126 #[vx, .int .i64 n, v] h fun v' h' => ∃ f, O1 h' v' (diffP X n xs) f ∧ Fresh h.size f ∧ Ext h h' := by
  obtain ⟨vd, vm, rfl, hd, hm⟩ := hx
  have hle := RdS.le hd
  have hml := hP.ml
  refine callA_intro TTok (args := [_, _, _]) Try.func126 (by kernel_rfl) rfl 31 rfl (by simp) [.tmp 6] rfl ?_
  simp only [idxs, Nat.reduceAdd]
  refine den_seq ?_
  refine den_region TTok ?_
  intro K hK
  simp -implicitDefEqProofs (disch := first | decide | assumption | omega) only [go_sem, RdS.len hd sl22, RdS.idx hd sl22, R1.intB hd (HPres.refl _), RdS.cells hd, RdS.len hm sl23, RdS.idx hm sl23, RdS.cellB hm (HPres.refl _), RdS.cells hm, RdS.len hv sl22, RdS.idx hv sl22, R1.intB hv (HPres.refl _), RdS.cells hv, wrap_id]
  refine op_box (cs := #[.int .i64 (X.p), vd, vm]) rfl ?_
  intro h0_0 e0_0 hb0_0 z0_0
  replace hd := RdS.pres hd (Ext.pres e0_0)
  replace hm := RdS.pres hm (Ext.pres e0_0)
  replace hv := RdS.pres hv (Ext.pres e0_0)
  try simp -implicitDefEqProofs (disch := first | decide | assumption | omega) only [go_sem, RdS.len hd sl22, RdS.idx hd sl22, R1.intB hd (HPres.refl _), RdS.cells hd, RdS.len hm sl23, RdS.idx hm sl23, RdS.cellB hm (HPres.refl _), RdS.cells hm, RdS.len hv sl22, RdS.idx hv sl22, R1.intB hv (HPres.refl _), RdS.cells hv, BoxAt.cell hb0_0, wrap_id]
  refine hK _ _ ?_
  clear hK K
  refine den_seq ?_
  refine den_seq ?_
  refine den_merge [(14, .bool (((decide (n ≤ (0 : Int))) || (decide ((((X.dims).length : Int) - 1) < n)))))] [1, 2, 3] (fun H => Ext h0_0 H) ?_ ?_
    -- a way
  · refine den_region TTok ?_
    intro K hK
    simp -implicitDefEqProofs (disch := first | decide | assumption | (simp (disch := decide) only [slotOf_zero, slotOf_succ, Option.map_some, puts_same, puts_ne, gv_bool, gv_undef, tt, tf, ft, ff, eq_self, if_true, if_false, Bool.false_eq_true, Bool.not_true, Bool.not_false]; done) | omega) only [go_sem, RdS.len hd sl22, RdS.idx hd sl22, R1.intB hd (HPres.refl _), RdS.cells hd, RdS.len hm sl23, RdS.idx hm sl23, RdS.cellB hm (HPres.refl _), RdS.cells hm, RdS.len hv sl22, RdS.idx hv sl22, R1.intB hv (HPres.refl _), RdS.cells hv, BoxAt.cell hb0_0, wrap_id]
    refine opsP_F (by simp (disch := decide) only [slotOf_zero, slotOf_succ, Option.map_some, puts_same, puts_ne, gv_bool, gv_undef, tt, tf, ft, ff, eq_self, if_true, if_false, Bool.false_eq_true, Bool.not_true, Bool.not_false]; rfl) (fun g1 => ?_) (fun g1 => ?_)
    · try simp -implicitDefEqProofs (disch := first | decide | assumption | (simp (disch := decide) only [slotOf_zero, slotOf_succ, Option.map_some, puts_same, puts_ne, gv_bool, gv_undef, tt, tf, ft, ff, eq_self, if_true, if_false, Bool.false_eq_true, Bool.not_true, Bool.not_false, g1]; done) | omega) only [go_sem, ld30, RdS.len hd sl22, RdS.idx hd sl22, R1.intB hd (HPres.refl _), RdS.cells hd, RdS.len hm sl23, RdS.idx hm sl23, RdS.cellB hm (HPres.refl _), RdS.cells hm, RdS.len hv sl22, RdS.idx hv sl22, R1.intB hv (HPres.refl _), RdS.cells hv, BoxAt.cell hb0_0, wrap_id, g1, eq_self, if_true, if_false, Bool.false_eq_true]
      try simp -implicitDefEqProofs (disch := first | decide | assumption | omega) only [go_sem, RdS.len hd sl22, RdS.idx hd sl22, R1.intB hd (HPres.refl _), RdS.cells hd, RdS.len hm sl23, RdS.idx hm sl23, RdS.cellB hm (HPres.refl _), RdS.cells hm, RdS.len hv sl22, RdS.idx hv sl22, R1.intB hv (HPres.refl _), RdS.cells hv, BoxAt.cell hb0_0, wrap_id]
      refine CallA.mono (top_ok _ X _ ⟨_, _, rfl, hd, hm⟩) ?_
      intro v_ h1_5
      rintro ⟨rfl, e1_5⟩
      have := Ext.size e1_5
      have eB := e1_5
      try simp -implicitDefEqProofs (disch := first | decide | assumption | (simp (disch := decide) only [slotOf_zero, slotOf_succ, Option.map_some, puts_same, puts_ne, gv_bool, gv_undef, tt, tf, ft, ff, eq_self, if_true, if_false, Bool.false_eq_true, Bool.not_true, Bool.not_false, g1]; done) | omega) only [go_sem, RdS.len hd sl22, RdS.idx hd sl22, R1.intB hd (Ext.pres eB), RdS.cells hd, RdS.len hm sl23, RdS.idx hm sl23, RdS.cellB hm (Ext.pres eB), RdS.cells hm, RdS.len hv sl22, RdS.idx hv sl22, R1.intB hv (Ext.pres eB), RdS.cells hv, BoxAt.cellB hb0_0 eB, wrap_id, g1, eq_self, if_true, if_false, Bool.false_eq_true]
      refine hK _ _ ?_
      clear hK K
      refine den_stop ?_
      refine ⟨?_, e1_5⟩
      first | (simp (disch := decide) only [go_sem, g1, eq_self, Bool.true_and, Bool.and_true, Bool.false_and, Bool.and_false, Bool.true_or, Bool.or_true, Bool.false_or, Bool.or_false, if_true, if_false, Bool.false_eq_true]; done) | simp [HasL, sel, puts_at, g1]
    · try simp -implicitDefEqProofs (disch := first | decide | assumption | (simp (disch := decide) only [slotOf_zero, slotOf_succ, Option.map_some, puts_same, puts_ne, gv_bool, gv_undef, tt, tf, ft, ff, eq_self, if_true, if_false, Bool.false_eq_true, Bool.not_true, Bool.not_false, g1]; done) | omega) only [go_sem, RdS.len hd sl22, RdS.idx hd sl22, R1.intB hd (HPres.refl _), RdS.cells hd, RdS.len hm sl23, RdS.idx hm sl23, RdS.cellB hm (HPres.refl _), RdS.cells hm, RdS.len hv sl22, RdS.idx hv sl22, R1.intB hv (HPres.refl _), RdS.cells hv, BoxAt.cell hb0_0, wrap_id, g1, eq_self, if_true, if_false, Bool.false_eq_true]
      refine hK _ _ ?_
      clear hK K
      refine den_stop ?_
      refine ⟨?_, Ext.refl _⟩
      first | (simp (disch := decide) only [go_sem, g1, eq_self, Bool.true_and, Bool.and_true, Bool.false_and, Bool.and_false, Bool.true_or, Bool.or_true, Bool.false_or, Bool.or_false, if_true, if_false, Bool.false_eq_true]; done) | simp [HasL, sel, puts_at, g1]
  intro en2 h3 e4
  have := Ext.size e4
  have eB := e4
  simp (disch := decide) only [go_sem]
  refine den_cond rfl (fun c0 => ?_) (fun c0 => ?_)
  · try simp only [decide_eq_true_eq, decide_eq_false_iff_not, beq_iff_eq, beq_eq_false_iff_ne, bne_iff_ne, ne_eq, Bool.not_eq_true', Bool.not_eq_false', Bool.and_eq_true, Bool.or_eq_true, bne_eq_false_iff_eq, Bool.or_eq_false_iff, Bool.and_eq_false_iff] at c0
    refine den_seq ?_
    refine den_region TTok ?_
    intro K hK
    simp -implicitDefEqProofs (disch := first | decide | assumption | omega) only [go_sem, RdS.len hd sl22, RdS.idx hd sl22, R1.intB hd (Ext.pres eB), RdS.cells hd, RdS.len hm sl23, RdS.idx hm sl23, RdS.cellB hm (Ext.pres eB), RdS.cells hm, RdS.len hv sl22, RdS.idx hv sl22, R1.intB hv (Ext.pres eB), RdS.cells hv, BoxAt.cellB hb0_0 eB, wrap_id]
    refine hK _ _ ?_
    clear hK K
    refine den_ret ?_
    simp (disch := decide) only [resP_1, puts_same, puts_ne]
    exact ⟨[], by rw [diffP, if_pos (by omega)]; exact OS.nil, Fresh.nil _, (Ext.trans e0_0 eB)⟩
  · try simp only [decide_eq_true_eq, decide_eq_false_iff_not, beq_iff_eq, beq_eq_false_iff_ne, bne_iff_ne, ne_eq, Bool.not_eq_true', Bool.not_eq_false', Bool.and_eq_true, Bool.or_eq_true, bne_eq_false_iff_eq, Bool.or_eq_false_iff, Bool.and_eq_false_iff] at c0
    refine den_skip ?_
    refine den_seq ?_
    have hq := hP.app (n := n) (by omega) (by omega)
    refine den_draw TTok mixed [] [(0, true), (1, true), (2, true), (3, true), (4, true), (5, true), (6, true), (7, true), (8, true), (9, true), (10, true), (11, true), (12, true), (13, true), (14, true), (15, false), (16, true)] (by kernel_rfl) ?_
    intro K hK
    have hr5 := RdS.rowN hm ((n - (1 : Int))).toNat (by omega)
    have hlhr5 := RdS.le hr5
    simp -implicitDefEqProofs (disch := first | decide | assumption | omega) only [go_sem, fa30_0, fa30_1, fa30_2, ld23, ld56, ld22, ld2, RdS.len hd sl22, RdS.idx hd sl22, R1.intB hd (Ext.pres eB), RdS.cells hd, RdS.len hm sl23, RdS.idx hm sl23, RdS.cellB hm (Ext.pres eB), RdS.cells hm, RdS.len hv sl22, RdS.idx hv sl22, R1.intB hv (Ext.pres eB), RdS.cells hv, RdS.len hr5 sl56, RdS.idx hr5 sl56, RdS.cellB hr5 (Ext.pres eB), RdS.cells hr5, BoxAt.cellB hb0_0 eB, wrap_id]
    try simp -implicitDefEqProofs (disch := first | decide | assumption | omega) only [go_sem, RdS.len hd sl22, RdS.idx hd sl22, R1.intB hd (Ext.pres eB), RdS.cells hd, RdS.len hm sl23, RdS.idx hm sl23, RdS.cellB hm (Ext.pres eB), RdS.cells hm, RdS.len hv sl22, RdS.idx hv sl22, R1.intB hv (Ext.pres eB), RdS.cells hv, RdS.len hr5 sl56, RdS.idx hr5 sl56, RdS.cellB hr5 (Ext.pres eB), RdS.cells hr5, BoxAt.cellB hb0_0 eB, wrap_id]
    refine CallA.mono (iApply_ok _ _ _ _ _ _ _ (RdS.pres hv (Ext.pres eB)) (RdS.pres hr5 (Ext.pres eB)) hP.p (by omega) (by have := hl (by omega) (by omega); omega) hv0 hq.2.2) ?_
    intro v3_15 h3_15
    rintro ⟨f3_15, ho3_15, hf3_15, e3_15⟩
    have := Ext.size e3_15
    replace eB := Ext.trans eB e3_15
    have hlho3_15 := OS.lt ho3_15
    try simp (disch := decide) only [outv_some, outv_none, put_puts]
    refine plK_pres (Ext.pres e3_15) ?_
    try simp -implicitDefEqProofs (disch := first | decide | assumption | omega) only [go_sem, RdS.len hd sl22, RdS.idx hd sl22, R1.intB hd (Ext.pres eB), RdS.cells hd, RdS.len hm sl23, RdS.idx hm sl23, RdS.cellB hm (Ext.pres eB), RdS.cells hm, RdS.len hv sl22, RdS.idx hv sl22, R1.intB hv (Ext.pres eB), RdS.cells hv, RdS.len hr5 sl56, RdS.idx hr5 sl56, RdS.cellB hr5 (Ext.pres eB), RdS.cells hr5, RdS.len (OS.rd ho3_15) sl22, RdS.idx (OS.rd ho3_15) sl22, R1.intN (OS.rd ho3_15), RdS.cells (OS.rd ho3_15), BoxAt.cellB hb0_0 eB, wrap_id]
    refine hK _ _ ?_
    clear hK K
    refine den_ret ?_
    simp (disch := decide) only [resP_1, puts_same, puts_ne]
    exact ⟨_, by rw [diffP, if_neg (by omega)]; exact ho3_15, hf3_15.mono (by omega), (Ext.trans e0_0 eB)⟩

set_option maxRecDepth 100000 in
theorem iIs_ok (v : Value) (X : Cx) (h : Heap) (hv : RC h v X) : CallA Try.prog 77 #[v] h fun v' h' => v' = .bool (isC X) ∧ Ext h h' := by
  obtain ⟨vd, vm, rfl, hd, hm⟩ := hv
  have hle := RdS.le hd
  have hlm := RdS.le hm
  refine callA_intro TTok (args := [_]) Try.func77 (by kernel_rfl) rfl 86 rfl (by simp) [.tmp 2] rfl ?_
  simp only [idxs, Nat.reduceAdd]
  refine den_seq ?_
  refine den_region TTok ?_
  intro K hK
  simp -implicitDefEqProofs (disch := first | decide | assumption | omega) only [go_sem, RdS.len hd sl22, RdS.idx hd sl22, R1.intB hd (HPres.refl _), RdS.cells hd, RdS.len hm sl23, RdS.idx hm sl23, RdS.cellB hm (HPres.refl _), RdS.cells hm, wrap_id, Int.add_sub_cancel]
  refine op_box (cs := #[.int .i64 (X.p), vd, vm]) rfl ?_
  intro h0_0 e0_0 hb0_0 z0_0
  replace hd := RdS.pres hd (Ext.pres e0_0)
  replace hm := RdS.pres hm (Ext.pres e0_0)
  try simp -implicitDefEqProofs (disch := first | decide | assumption | omega) only [go_sem, RdS.len hd sl22, RdS.idx hd sl22, R1.intB hd (HPres.refl _), RdS.cells hd, RdS.len hm sl23, RdS.idx hm sl23, RdS.cellB hm (HPres.refl _), RdS.cells hm, BoxAt.cell hb0_0, wrap_id, Int.add_sub_cancel]
  refine hK _ _ ?_
  clear hK K
  refine den_seq ?_
  refine den_seq ?_
  refine den_merge [(30, .bool (((((!((isP X.p))) || (!((in3 (((X.dims).length : Int) - 1) (0 : Int) (5 : Int))))) || (((X.maps).length : Int) != (((X.dims).length : Int) - 1))) || (X.dims.any (fun x => !in3 x 0 8)))))] [1] (fun H => Ext h0_0 H) ?_ ?_
    -- a way
  · refine den_draw TTok mixed [] [(0, true), (1, true), (2, false), (3, true), (4, true), (5, true), (6, false), (7, false), (8, true), (9, true), (10, true), (11, true), (12, true), (14, true), (13, false), (15, false), (16, true), (17, true), (18, true), (19, true), (20, true), (21, false), (22, true)] (by kernel_rfl) ?_
    intro K hK
    simp -implicitDefEqProofs (disch := first | decide | assumption | (simp (disch := decide) only [slotOf_zero, slotOf_succ, Option.map_some, puts_same, puts_ne, gv_bool, gv_undef, tt, tf, ft, ff, eq_self, if_true, if_false, Bool.false_eq_true, Bool.not_true, Bool.not_false]; done) | omega) only [go_sem, fa30_0, ld2, RdS.len hd sl22, RdS.idx hd sl22, R1.intB hd (HPres.refl _), RdS.cells hd, RdS.len hm sl23, RdS.idx hm sl23, RdS.cellB hm (HPres.refl _), RdS.cells hm, BoxAt.cell hb0_0, wrap_id, Int.add_sub_cancel]
    try simp -implicitDefEqProofs (disch := first | decide | assumption | omega) only [go_sem, RdS.len hd sl22, RdS.idx hd sl22, R1.intB hd (HPres.refl _), RdS.cells hd, RdS.len hm sl23, RdS.idx hm sl23, RdS.cellB hm (HPres.refl _), RdS.cells hm, BoxAt.cell hb0_0, wrap_id, Int.add_sub_cancel]
    refine CallA.pure (iPrime_ok _ _) ?_
    try simp -implicitDefEqProofs (disch := first | decide | assumption | (simp (disch := decide) only [slotOf_zero, slotOf_succ, Option.map_some, puts_same, puts_ne, gv_bool, gv_undef, tt, tf, ft, ff, eq_self, if_true, if_false, Bool.false_eq_true, Bool.not_true, Bool.not_false]; done) | omega) only [go_sem, RdS.len hd sl22, RdS.idx hd sl22, R1.intB hd (HPres.refl _), RdS.cells hd, RdS.len hm sl23, RdS.idx hm sl23, RdS.cellB hm (HPres.refl _), RdS.cells hm, BoxAt.cell hb0_0, wrap_id, Int.add_sub_cancel]
    refine plG_F (by simp (disch := decide) only [slotOf_zero, slotOf_succ, Option.map_some, puts_same, puts_ne, gv_bool, gv_undef, tt, tf, ft, ff, eq_self, if_true, if_false, Bool.false_eq_true, Bool.not_true, Bool.not_false]; rfl) (fun g1 => ?_) (fun g1 => ?_)
    · try simp -implicitDefEqProofs (disch := first | decide | assumption | (simp (disch := decide) only [slotOf_zero, slotOf_succ, Option.map_some, puts_same, puts_ne, gv_bool, gv_undef, tt, tf, ft, ff, eq_self, if_true, if_false, Bool.false_eq_true, Bool.not_true, Bool.not_false, g1]; done) | omega) only [go_sem, ld30, RdS.len hd sl22, RdS.idx hd sl22, R1.intB hd (HPres.refl _), RdS.cells hd, RdS.len hm sl23, RdS.idx hm sl23, RdS.cellB hm (HPres.refl _), RdS.cells hm, BoxAt.cell hb0_0, wrap_id, Int.add_sub_cancel, g1, eq_self, if_true, if_false, Bool.false_eq_true]
      try simp -implicitDefEqProofs (disch := first | decide | assumption | omega) only [go_sem, RdS.len hd sl22, RdS.idx hd sl22, R1.intB hd (HPres.refl _), RdS.cells hd, RdS.len hm sl23, RdS.idx hm sl23, RdS.cellB hm (HPres.refl _), RdS.cells hm, BoxAt.cell hb0_0, wrap_id, Int.add_sub_cancel]
      refine CallA.mono (top_ok _ X _ ⟨_, _, rfl, hd, hm⟩) ?_
      intro v_ h1_6
      rintro ⟨rfl, e1_6⟩
      have := Ext.size e1_6
      have eB := e1_6
      try simp (disch := decide) only [outv_some, outv_none, put_puts]
      refine plK_pres (Ext.pres e1_6) ?_
      try simp -implicitDefEqProofs (disch := first | decide | assumption | (simp (disch := decide) only [slotOf_zero, slotOf_succ, Option.map_some, puts_same, puts_ne, gv_bool, gv_undef, tt, tf, ft, ff, eq_self, if_true, if_false, Bool.false_eq_true, Bool.not_true, Bool.not_false, g1]; done) | omega) only [go_sem, RdS.len hd sl22, RdS.idx hd sl22, R1.intB hd (Ext.pres eB), RdS.cells hd, RdS.len hm sl23, RdS.idx hm sl23, RdS.cellB hm (Ext.pres eB), RdS.cells hm, BoxAt.cellB hb0_0 eB, wrap_id, Int.add_sub_cancel, g1, eq_self, if_true, if_false, Bool.false_eq_true]
      try simp -implicitDefEqProofs (disch := first | decide | assumption | omega) only [go_sem, RdS.len hd sl22, RdS.idx hd sl22, R1.intB hd (Ext.pres eB), RdS.cells hd, RdS.len hm sl23, RdS.idx hm sl23, RdS.cellB hm (Ext.pres eB), RdS.cells hm, BoxAt.cellB hb0_0 eB, wrap_id, Int.add_sub_cancel]
      refine CallA.pure (iIn_ok _ _ _ _) ?_
      try simp -implicitDefEqProofs (disch := first | decide | assumption | (simp (disch := decide) only [slotOf_zero, slotOf_succ, Option.map_some, puts_same, puts_ne, gv_bool, gv_undef, tt, tf, ft, ff, eq_self, if_true, if_false, Bool.false_eq_true, Bool.not_true, Bool.not_false, g1]; done) | omega) only [go_sem, RdS.len hd sl22, RdS.idx hd sl22, R1.intB hd (Ext.pres eB), RdS.cells hd, RdS.len hm sl23, RdS.idx hm sl23, RdS.cellB hm (Ext.pres eB), RdS.cells hm, BoxAt.cellB hb0_0 eB, wrap_id, Int.add_sub_cancel, g1, eq_self, if_true, if_false, Bool.false_eq_true]
      refine plG_F (by simp (disch := decide) only [slotOf_zero, slotOf_succ, Option.map_some, puts_same, puts_ne, gv_bool, gv_undef, tt, tf, ft, ff, eq_self, if_true, if_false, Bool.false_eq_true, Bool.not_true, Bool.not_false, g1]; rfl) (fun g2 => ?_) (fun g2 => ?_)
      · try simp -implicitDefEqProofs (disch := first | decide | assumption | (simp (disch := decide) only [slotOf_zero, slotOf_succ, Option.map_some, puts_same, puts_ne, gv_bool, gv_undef, tt, tf, ft, ff, eq_self, if_true, if_false, Bool.false_eq_true, Bool.not_true, Bool.not_false, g1, g2]; done) | omega) only [go_sem, fa30_2, ld23, ld30, RdS.len hd sl22, RdS.idx hd sl22, R1.intB hd (Ext.pres eB), RdS.cells hd, RdS.len hm sl23, RdS.idx hm sl23, RdS.cellB hm (Ext.pres eB), RdS.cells hm, BoxAt.cellB hb0_0 eB, wrap_id, Int.add_sub_cancel, g1, g2, eq_self, if_true, if_false, Bool.false_eq_true]
        try simp -implicitDefEqProofs (disch := first | decide | assumption | omega) only [go_sem, RdS.len hd sl22, RdS.idx hd sl22, R1.intB hd (Ext.pres eB), RdS.cells hd, RdS.len hm sl23, RdS.idx hm sl23, RdS.cellB hm (Ext.pres eB), RdS.cells hm, BoxAt.cellB hb0_0 eB, wrap_id, Int.add_sub_cancel]
        refine CallA.pure (size3_ok _ _ _ (RdS.pres hm (Ext.pres eB))) ?_
        try simp -implicitDefEqProofs (disch := first | decide | assumption | (simp (disch := decide) only [slotOf_zero, slotOf_succ, Option.map_some, puts_same, puts_ne, gv_bool, gv_undef, tt, tf, ft, ff, eq_self, if_true, if_false, Bool.false_eq_true, Bool.not_true, Bool.not_false, g1, g2]; done) | omega) only [go_sem, RdS.len hd sl22, RdS.idx hd sl22, R1.intB hd (Ext.pres eB), RdS.cells hd, RdS.len hm sl23, RdS.idx hm sl23, RdS.cellB hm (Ext.pres eB), RdS.cells hm, BoxAt.cellB hb0_0 eB, wrap_id, Int.add_sub_cancel, g1, g2, eq_self, if_true, if_false, Bool.false_eq_true]
        try simp -implicitDefEqProofs (disch := first | decide | assumption | omega) only [go_sem, RdS.len hd sl22, RdS.idx hd sl22, R1.intB hd (Ext.pres eB), RdS.cells hd, RdS.len hm sl23, RdS.idx hm sl23, RdS.cellB hm (Ext.pres eB), RdS.cells hm, BoxAt.cellB hb0_0 eB, wrap_id, Int.add_sub_cancel]
        refine CallA.mono (top_ok _ X _ ⟨_, _, rfl, (RdS.pres hd (Ext.pres eB)), (RdS.pres hm (Ext.pres eB))⟩) ?_
        intro v_ h1_15
        rintro ⟨rfl, e1_15⟩
        have := Ext.size e1_15
        replace eB := Ext.trans eB e1_15
        try simp (disch := decide) only [outv_some, outv_none, put_puts]
        refine plK_pres (Ext.pres e1_15) ?_
        try simp -implicitDefEqProofs (disch := first | decide | assumption | (simp (disch := decide) only [slotOf_zero, slotOf_succ, Option.map_some, puts_same, puts_ne, gv_bool, gv_undef, tt, tf, ft, ff, eq_self, if_true, if_false, Bool.false_eq_true, Bool.not_true, Bool.not_false, g1, g2]; done) | omega) only [go_sem, RdS.len hd sl22, RdS.idx hd sl22, R1.intB hd (Ext.pres eB), RdS.cells hd, RdS.len hm sl23, RdS.idx hm sl23, RdS.cellB hm (Ext.pres eB), RdS.cells hm, BoxAt.cellB hb0_0 eB, wrap_id, Int.add_sub_cancel, g1, g2, eq_self, if_true, if_false, Bool.false_eq_true]
        refine plG_F (by simp (disch := decide) only [slotOf_zero, slotOf_succ, Option.map_some, puts_same, puts_ne, gv_bool, gv_undef, tt, tf, ft, ff, eq_self, if_true, if_false, Bool.false_eq_true, Bool.not_true, Bool.not_false, g1, g2]; rfl) (fun g3 => ?_) (fun g3 => ?_)
        · try simp -implicitDefEqProofs (disch := first | decide | assumption | (simp (disch := decide) only [slotOf_zero, slotOf_succ, Option.map_some, puts_same, puts_ne, gv_bool, gv_undef, tt, tf, ft, ff, eq_self, if_true, if_false, Bool.false_eq_true, Bool.not_true, Bool.not_false, g1, g2, g3]; done) | omega) only [go_sem, fa30_1, ld22, RdS.len hd sl22, RdS.idx hd sl22, R1.intB hd (Ext.pres eB), RdS.cells hd, RdS.len hm sl23, RdS.idx hm sl23, RdS.cellB hm (Ext.pres eB), RdS.cells hm, BoxAt.cellB hb0_0 eB, wrap_id, Int.add_sub_cancel, g1, g2, g3, eq_self, if_true, if_false, Bool.false_eq_true]
          try simp -implicitDefEqProofs (disch := first | decide | assumption | omega) only [go_sem, RdS.len hd sl22, RdS.idx hd sl22, R1.intB hd (Ext.pres eB), RdS.cells hd, RdS.len hm sl23, RdS.idx hm sl23, RdS.cellB hm (Ext.pres eB), RdS.cells hm, BoxAt.cellB hb0_0 eB, wrap_id, Int.add_sub_cancel]
          refine CallA.mono (has1_ok _ X.dims _ _ (fun x => !in3 x 0 8) _ (RdS.pres hd (Ext.pres eB)) (fun j hj h' e => by
        simp only [List.append_toArray, List.cons_append, List.nil_append]
        exact CallA.mono (isC1_ok _ _) (fun _ _ ⟨e1, e2⟩ => ⟨e1, e2 ▸ Ext.refl _⟩))) ?_
          intro v_ h1_21
          rintro ⟨rfl, e1_21⟩
          have := Ext.size e1_21
          replace eB := Ext.trans eB e1_21
          try simp (disch := decide) only [outv_some, outv_none, put_puts]
          refine plK_pres (Ext.pres e1_21) ?_
          try simp -implicitDefEqProofs (disch := first | decide | assumption | (simp (disch := decide) only [slotOf_zero, slotOf_succ, Option.map_some, puts_same, puts_ne, gv_bool, gv_undef, tt, tf, ft, ff, eq_self, if_true, if_false, Bool.false_eq_true, Bool.not_true, Bool.not_false, g1, g2, g3]; done) | omega) only [go_sem, RdS.len hd sl22, RdS.idx hd sl22, R1.intB hd (Ext.pres eB), RdS.cells hd, RdS.len hm sl23, RdS.idx hm sl23, RdS.cellB hm (Ext.pres eB), RdS.cells hm, BoxAt.cellB hb0_0 eB, wrap_id, Int.add_sub_cancel, g1, g2, g3, eq_self, if_true, if_false, Bool.false_eq_true]
          refine hK _ _ ?_
          clear hK K
          refine den_stop ?_
          refine ⟨?_, (Ext.trans (Ext.trans e1_6 e1_15) e1_21)⟩
          first | (simp (disch := decide) only [go_sem, g1, g2, g3, eq_self, Bool.true_and, Bool.and_true, Bool.false_and, Bool.and_false, Bool.true_or, Bool.or_true, Bool.false_or, Bool.or_false, if_true, if_false, Bool.false_eq_true]; done) | simp [HasL, sel, puts_at, g1, g2, g3]
        · try simp -implicitDefEqProofs (disch := first | decide | assumption | (simp (disch := decide) only [slotOf_zero, slotOf_succ, Option.map_some, puts_same, puts_ne, gv_bool, gv_undef, tt, tf, ft, ff, eq_self, if_true, if_false, Bool.false_eq_true, Bool.not_true, Bool.not_false, g1, g2, g3]; done) | omega) only [go_sem, RdS.len hd sl22, RdS.idx hd sl22, R1.intB hd (Ext.pres eB), RdS.cells hd, RdS.len hm sl23, RdS.idx hm sl23, RdS.cellB hm (Ext.pres eB), RdS.cells hm, BoxAt.cellB hb0_0 eB, wrap_id, Int.add_sub_cancel, g1, g2, g3, eq_self, if_true, if_false, Bool.false_eq_true]
          refine hK _ _ ?_
          clear hK K
          refine den_stop ?_
          refine ⟨?_, (Ext.trans e1_6 e1_15)⟩
          first | (simp (disch := decide) only [go_sem, g1, g2, g3, eq_self, Bool.true_and, Bool.and_true, Bool.false_and, Bool.and_false, Bool.true_or, Bool.or_true, Bool.false_or, Bool.or_false, if_true, if_false, Bool.false_eq_true]; done) | simp [HasL, sel, puts_at, g1, g2, g3]
      · try simp -implicitDefEqProofs (disch := first | decide | assumption | (simp (disch := decide) only [slotOf_zero, slotOf_succ, Option.map_some, puts_same, puts_ne, gv_bool, gv_undef, tt, tf, ft, ff, eq_self, if_true, if_false, Bool.false_eq_true, Bool.not_true, Bool.not_false, g1, g2]; done) | omega) only [go_sem, RdS.len hd sl22, RdS.idx hd sl22, R1.intB hd (Ext.pres eB), RdS.cells hd, RdS.len hm sl23, RdS.idx hm sl23, RdS.cellB hm (Ext.pres eB), RdS.cells hm, BoxAt.cellB hb0_0 eB, wrap_id, Int.add_sub_cancel, g1, g2, eq_self, if_true, if_false, Bool.false_eq_true]
        try simp -implicitDefEqProofs (disch := first | decide | assumption | (simp (disch := decide) only [slotOf_zero, slotOf_succ, Option.map_some, puts_same, puts_ne, gv_bool, gv_undef, tt, tf, ft, ff, eq_self, if_true, if_false, Bool.false_eq_true, Bool.not_true, Bool.not_false, g1, g2]; done) | omega) only [go_sem, RdS.len hd sl22, RdS.idx hd sl22, R1.intB hd (Ext.pres eB), RdS.cells hd, RdS.len hm sl23, RdS.idx hm sl23, RdS.cellB hm (Ext.pres eB), RdS.cells hm, BoxAt.cellB hb0_0 eB, wrap_id, Int.add_sub_cancel, g1, g2, eq_self, if_true, if_false, Bool.false_eq_true]
        refine hK _ _ ?_
        clear hK K
        refine den_stop ?_
        refine ⟨?_, e1_6⟩
        first | (simp (disch := decide) only [go_sem, g1, g2, eq_self, Bool.true_and, Bool.and_true, Bool.false_and, Bool.and_false, Bool.true_or, Bool.or_true, Bool.false_or, Bool.or_false, if_true, if_false, Bool.false_eq_true]; done) | simp [HasL, sel, puts_at, g1, g2]
    · try simp -implicitDefEqProofs (disch := first | decide | assumption | (simp (disch := decide) only [slotOf_zero, slotOf_succ, Option.map_some, puts_same, puts_ne, gv_bool, gv_undef, tt, tf, ft, ff, eq_self, if_true, if_false, Bool.false_eq_true, Bool.not_true, Bool.not_false, g1]; done) | omega) only [go_sem, RdS.len hd sl22, RdS.idx hd sl22, R1.intB hd (HPres.refl _), RdS.cells hd, RdS.len hm sl23, RdS.idx hm sl23, RdS.cellB hm (HPres.refl _), RdS.cells hm, BoxAt.cell hb0_0, wrap_id, Int.add_sub_cancel, g1, eq_self, if_true, if_false, Bool.false_eq_true]
      try simp -implicitDefEqProofs (disch := first | decide | assumption | (simp (disch := decide) only [slotOf_zero, slotOf_succ, Option.map_some, puts_same, puts_ne, gv_bool, gv_undef, tt, tf, ft, ff, eq_self, if_true, if_false, Bool.false_eq_true, Bool.not_true, Bool.not_false, g1]; done) | omega) only [go_sem, RdS.len hd sl22, RdS.idx hd sl22, R1.intB hd (HPres.refl _), RdS.cells hd, RdS.len hm sl23, RdS.idx hm sl23, RdS.cellB hm (HPres.refl _), RdS.cells hm, BoxAt.cell hb0_0, wrap_id, Int.add_sub_cancel, g1, eq_self, if_true, if_false, Bool.false_eq_true]
      try simp -implicitDefEqProofs (disch := first | decide | assumption | (simp (disch := decide) only [slotOf_zero, slotOf_succ, Option.map_some, puts_same, puts_ne, gv_bool, gv_undef, tt, tf, ft, ff, eq_self, if_true, if_false, Bool.false_eq_true, Bool.not_true, Bool.not_false, g1]; done) | omega) only [go_sem, RdS.len hd sl22, RdS.idx hd sl22, R1.intB hd (HPres.refl _), RdS.cells hd, RdS.len hm sl23, RdS.idx hm sl23, RdS.cellB hm (HPres.refl _), RdS.cells hm, BoxAt.cell hb0_0, wrap_id, Int.add_sub_cancel, g1, eq_self, if_true, if_false, Bool.false_eq_true]
      refine hK _ _ ?_
      clear hK K
      refine den_stop ?_
      refine ⟨?_, Ext.refl _⟩
      first | (simp (disch := decide) only [go_sem, g1, eq_self, Bool.true_and, Bool.and_true, Bool.false_and, Bool.and_false, Bool.true_or, Bool.or_true, Bool.false_or, Bool.or_false, if_true, if_false, Bool.false_eq_true]; done) | simp [HasL, sel, puts_at, g1]
  intro en4 h5 e6
  have := Ext.size e6
  have eB := e6
  simp (disch := decide) only [go_sem]
  refine den_cond rfl (fun c0 => ?_) (fun c0 => ?_)
  · try simp only [decide_eq_true_eq, decide_eq_false_iff_not, beq_iff_eq, beq_eq_false_iff_ne, bne_iff_ne, ne_eq, Bool.not_eq_true', Bool.not_eq_false', Bool.and_eq_true, Bool.or_eq_true, bne_eq_false_iff_eq, Bool.or_eq_false_iff, Bool.and_eq_false_iff] at c0
    refine den_seq ?_
    refine den_region TTok ?_
    intro K hK
    simp -implicitDefEqProofs (disch := first | decide | assumption | omega) only [go_sem, RdS.len hd sl22, RdS.idx hd sl22, R1.intB hd (Ext.pres eB), RdS.cells hd, RdS.len hm sl23, RdS.idx hm sl23, RdS.cellB hm (Ext.pres eB), RdS.cells hm, BoxAt.cellB hb0_0 eB, wrap_id, Int.add_sub_cancel]
    refine hK _ _ ?_
    clear hK K
    refine den_ret ?_
    simp (disch := decide) only [resP_1, puts_same, puts_ne]
    exact ⟨vbool (isC_no fun hC => by
      have h1 := hC.p; have h2 := hC.len; have h3 := hC.ml
      rcases c0 with ((c | c) | c) | c
      · rw [h1] at c; cases c
      · rw [in3_f] at c; omega
      · omega
      · have := hC.dm; rw [List.all_eq_not_any_not, c] at this; cases this), (Ext.trans e0_0 eB)⟩
  · try simp only [decide_eq_true_eq, decide_eq_false_iff_not, beq_iff_eq, beq_eq_false_iff_ne, bne_iff_ne, ne_eq, Bool.not_eq_true', Bool.not_eq_false', Bool.and_eq_true, Bool.or_eq_true, bne_eq_false_iff_eq, Bool.or_eq_false_iff, Bool.and_eq_false_iff] at c0
    refine den_skip ?_
    refine den_seq ?_
    refine den_seq ?_
    have hp7 := isP_bnd c0.1.1.1
    have hdl := in3_iff.1 c0.1.1.2
    have hda := any_all c0.2
    refine den_region TTok ?_
    intro K hK
    simp -implicitDefEqProofs (disch := first | decide | assumption | omega) only [go_sem, fa30_2, ld23, RdS.len hd sl22, RdS.idx hd sl22, R1.intB hd (Ext.pres eB), RdS.cells hd, RdS.len hm sl23, RdS.idx hm sl23, RdS.cellB hm (Ext.pres eB), RdS.cells hm, BoxAt.cellB hb0_0 eB, wrap_id, Int.add_sub_cancel]
    refine hK _ _ ?_
    clear hK K
    refine den_block ?_
    refine den_sel [34, 1, 32, 33] ?_
    intro env_7
    simp only [go_sem]
    refine den_loopS (σ := Nat) (fun s => [(34, .int .i64 (s : Int))]) (fun s H => Ext h0_0 H ∧ s ≤ X.maps.length ∧ ∀ j, j < s → tbAt X j) (fun s => X.maps.length - s) 0 ?_ ?_
    · exact ⟨eB, by omega, fun j hj => by omega⟩
    · rintro k h10 ee9 ⟨eB, hk, hz⟩
      simp only [List.cons_append, List.nil_append]
      have := Ext.size eB
      refine den_seq ?_
      refine den_region TTok ?_
      intro K hK
      simp -implicitDefEqProofs (disch := first | decide | assumption | omega) only [go_sem, RdS.len hd sl22, RdS.idx hd sl22, R1.intB hd (Ext.pres eB), RdS.cells hd, RdS.len hm sl23, RdS.idx hm sl23, RdS.cellB hm (Ext.pres eB), RdS.cells hm, BoxAt.cellB hb0_0 eB, wrap_id, Int.add_sub_cancel]
      refine hK _ _ ?_
      clear hK K
      refine den_seq ?_
      refine den_cond rfl (fun c1 => ?_) (fun c1 => ?_)
      · try simp only [decide_eq_true_eq, decide_eq_false_iff_not, beq_iff_eq, beq_eq_false_iff_ne, bne_iff_ne, ne_eq, Bool.not_eq_true', Bool.not_eq_false', Bool.and_eq_true, Bool.or_eq_true, bne_eq_false_iff_eq, Bool.or_eq_false_iff, Bool.and_eq_false_iff] at c1
        refine den_skip ?_
        refine den_seq ?_
        refine den_block ?_
        refine den_seq ?_
        refine den_region TTok ?_
        intro K hK
        have hr11 := RdS.rowN hm k (by omega)
        have hlhr11 := RdS.le hr11
        simp -implicitDefEqProofs (disch := first | decide | assumption | omega) only [go_sem, ld56, RdS.len hd sl22, RdS.idx hd sl22, R1.intB hd (Ext.pres eB), RdS.cells hd, RdS.len hm sl23, RdS.idx hm sl23, RdS.cellB hm (Ext.pres eB), RdS.cells hm, RdS.len hr11 sl56, RdS.idx hr11 sl56, RdS.cellB hr11 (Ext.pres eB), RdS.cells hr11, BoxAt.cellB hb0_0 eB, wrap_id, Int.add_sub_cancel]
        refine hK _ _ ?_
        clear hK K
        refine den_seq ?_
        refine den_merge [(59, .bool ((((((X.maps).getD k default).length : Int) != ((X.dims).getD (((k : Int) + (1 : Int))).toNat 0)) || (!((((X.maps).getD k default).all (isRow X.p ((X.dims).getD k 0))))))))] [1, 32, 33, 34] (fun H => Ext h10 H) ?_ ?_
          -- a way
        · refine den_draw TTok mixed [] [(0, true), (2, true), (3, true), (4, true), (5, true), (6, true), (7, true), (1, false), (8, true), (9, true), (10, true), (11, true), (12, true), (13, true), (14, true), (15, true), (16, true), (17, true), (18, false), (19, true), (20, true)] (by kernel_rfl) ?_
          intro K hK
          simp -implicitDefEqProofs (disch := first | decide | assumption | (simp (disch := decide) only [slotOf_zero, slotOf_succ, Option.map_some, puts_same, puts_ne, gv_bool, gv_undef, tt, tf, ft, ff, eq_self, if_true, if_false, Bool.false_eq_true, Bool.not_true, Bool.not_false]; done) | omega) only [go_sem, fa30_1, ld22, ld2, RdS.len hd sl22, RdS.idx hd sl22, R1.intB hd (Ext.pres eB), RdS.cells hd, RdS.len hm sl23, RdS.idx hm sl23, RdS.cellB hm (Ext.pres eB), RdS.cells hm, RdS.len hr11 sl56, RdS.idx hr11 sl56, RdS.cellB hr11 (Ext.pres eB), RdS.cells hr11, BoxAt.cellB hb0_0 eB, wrap_id, Int.add_sub_cancel]
          try simp -implicitDefEqProofs (disch := first | decide | assumption | omega) only [go_sem, RdS.len hd sl22, RdS.idx hd sl22, R1.intB hd (Ext.pres eB), RdS.cells hd, RdS.len hm sl23, RdS.idx hm sl23, RdS.cellB hm (Ext.pres eB), RdS.cells hm, RdS.len hr11 sl56, RdS.idx hr11 sl56, RdS.cellB hr11 (Ext.pres eB), RdS.cells hr11, BoxAt.cellB hb0_0 eB, wrap_id, Int.add_sub_cancel]
          refine CallA.pure (size2_ok _ _ _ (RdS.pres hr11 (Ext.pres eB))) ?_
          try simp -implicitDefEqProofs (disch := first | decide | assumption | (simp (disch := decide) only [slotOf_zero, slotOf_succ, Option.map_some, puts_same, puts_ne, gv_bool, gv_undef, tt, tf, ft, ff, eq_self, if_true, if_false, Bool.false_eq_true, Bool.not_true, Bool.not_false]; done) | omega) only [go_sem, RdS.len hd sl22, RdS.idx hd sl22, R1.intB hd (Ext.pres eB), RdS.cells hd, RdS.len hm sl23, RdS.idx hm sl23, RdS.cellB hm (Ext.pres eB), RdS.cells hm, RdS.len hr11 sl56, RdS.idx hr11 sl56, RdS.cellB hr11 (Ext.pres eB), RdS.cells hr11, BoxAt.cellB hb0_0 eB, wrap_id, Int.add_sub_cancel]
          refine plG_F (by simp (disch := decide) only [slotOf_zero, slotOf_succ, Option.map_some, puts_same, puts_ne, gv_bool, gv_undef, tt, tf, ft, ff, eq_self, if_true, if_false, Bool.false_eq_true, Bool.not_true, Bool.not_false]; rfl) (fun g12 => ?_) (fun g12 => ?_)
          · try simp -implicitDefEqProofs (disch := first | decide | assumption | (simp (disch := decide) only [slotOf_zero, slotOf_succ, Option.map_some, puts_same, puts_ne, gv_bool, gv_undef, tt, tf, ft, ff, eq_self, if_true, if_false, Bool.false_eq_true, Bool.not_true, Bool.not_false, g12]; done) | omega) only [go_sem, fa30_0, fa30_1, ld22, ld2, RdS.len hd sl22, RdS.idx hd sl22, R1.intB hd (Ext.pres eB), RdS.cells hd, RdS.len hm sl23, RdS.idx hm sl23, RdS.cellB hm (Ext.pres eB), RdS.cells hm, RdS.len hr11 sl56, RdS.idx hr11 sl56, RdS.cellB hr11 (Ext.pres eB), RdS.cells hr11, BoxAt.cellB hb0_0 eB, wrap_id, Int.add_sub_cancel, g12, eq_self, if_true, if_false, Bool.false_eq_true]
            try simp -implicitDefEqProofs (disch := first | decide | assumption | omega) only [go_sem, RdS.len hd sl22, RdS.idx hd sl22, R1.intB hd (Ext.pres eB), RdS.cells hd, RdS.len hm sl23, RdS.idx hm sl23, RdS.cellB hm (Ext.pres eB), RdS.cells hm, RdS.len hr11 sl56, RdS.idx hr11 sl56, RdS.cellB hr11 (Ext.pres eB), RdS.cells hr11, BoxAt.cellB hb0_0 eB, wrap_id, Int.add_sub_cancel]
            refine CallA.mono (areRows_ok _ _ _ _ _ (RdS.pres hr11 (Ext.pres eB)) (by omega)) ?_
            intro v_ h6_18
            rintro ⟨rfl, e6_18⟩
            have := Ext.size e6_18
            replace eB := Ext.trans eB e6_18
            try simp (disch := decide) only [outv_some, outv_none, put_puts]
            refine plK_pres (Ext.pres e6_18) ?_
            try simp -implicitDefEqProofs (disch := first | decide | assumption | (simp (disch := decide) only [slotOf_zero, slotOf_succ, Option.map_some, puts_same, puts_ne, gv_bool, gv_undef, tt, tf, ft, ff, eq_self, if_true, if_false, Bool.false_eq_true, Bool.not_true, Bool.not_false, g12]; done) | omega) only [go_sem, RdS.len hd sl22, RdS.idx hd sl22, R1.intB hd (Ext.pres eB), RdS.cells hd, RdS.len hm sl23, RdS.idx hm sl23, RdS.cellB hm (Ext.pres eB), RdS.cells hm, RdS.len hr11 sl56, RdS.idx hr11 sl56, RdS.cellB hr11 (Ext.pres eB), RdS.cells hr11, BoxAt.cellB hb0_0 eB, wrap_id, Int.add_sub_cancel, g12, eq_self, if_true, if_false, Bool.false_eq_true]
            refine hK _ _ ?_
            clear hK K
            refine den_stop ?_
            refine ⟨?_, e6_18⟩
            first | (simp (disch := decide) only [go_sem, g12, eq_self, Bool.true_and, Bool.and_true, Bool.false_and, Bool.and_false, Bool.true_or, Bool.or_true, Bool.false_or, Bool.or_false, if_true, if_false, Bool.false_eq_true]; done) | simp [HasL, sel, puts_at, g12]
          · try simp -implicitDefEqProofs (disch := first | decide | assumption | (simp (disch := decide) only [slotOf_zero, slotOf_succ, Option.map_some, puts_same, puts_ne, gv_bool, gv_undef, tt, tf, ft, ff, eq_self, if_true, if_false, Bool.false_eq_true, Bool.not_true, Bool.not_false, g12]; done) | omega) only [go_sem, RdS.len hd sl22, RdS.idx hd sl22, R1.intB hd (Ext.pres eB), RdS.cells hd, RdS.len hm sl23, RdS.idx hm sl23, RdS.cellB hm (Ext.pres eB), RdS.cells hm, RdS.len hr11 sl56, RdS.idx hr11 sl56, RdS.cellB hr11 (Ext.pres eB), RdS.cells hr11, BoxAt.cellB hb0_0 eB, wrap_id, Int.add_sub_cancel, g12, eq_self, if_true, if_false, Bool.false_eq_true]
            refine hK _ _ ?_
            clear hK K
            refine den_stop ?_
            refine ⟨?_, Ext.refl _⟩
            first | (simp (disch := decide) only [go_sem, g12, eq_self, Bool.true_and, Bool.and_true, Bool.false_and, Bool.and_false, Bool.true_or, Bool.or_true, Bool.false_or, Bool.or_false, if_true, if_false, Bool.false_eq_true]; done) | simp [HasL, sel, puts_at, g12]
        intro en13 h14 e15
        have := Ext.size e15
        replace eB := Ext.trans eB e15
        simp (disch := decide) only [go_sem]
        refine den_cond rfl (fun c2 => ?_) (fun c2 => ?_)
        · try simp only [decide_eq_true_eq, decide_eq_false_iff_not, beq_iff_eq, beq_eq_false_iff_ne, bne_iff_ne, ne_eq, Bool.not_eq_true', Bool.not_eq_false', Bool.and_eq_true, Bool.or_eq_true, bne_eq_false_iff_eq, Bool.or_eq_false_iff, Bool.and_eq_false_iff] at c2
          refine den_seq ?_
          refine den_region TTok ?_
          intro K hK
          simp -implicitDefEqProofs (disch := first | decide | assumption | omega) only [go_sem, RdS.len hd sl22, RdS.idx hd sl22, R1.intB hd (Ext.pres eB), RdS.cells hd, RdS.len hm sl23, RdS.idx hm sl23, RdS.cellB hm (Ext.pres eB), RdS.cells hm, RdS.len hr11 sl56, RdS.idx hr11 sl56, RdS.cellB hr11 (Ext.pres eB), RdS.cells hr11, BoxAt.cellB hb0_0 eB, wrap_id, Int.add_sub_cancel]
          refine hK _ _ ?_
          clear hK K
          refine den_ret ?_
          simp (disch := decide) only [resP_1, puts_same, puts_ne]
          exact ⟨vbool (isC_no fun hC => by
            have h := tbAt_iff.1 (hC.tb k (by omega))
            rcases c2 with c | c
            · exact c h.1
            · rw [h.2] at c; cases c), (Ext.trans e0_0 eB)⟩
        · try simp only [decide_eq_true_eq, decide_eq_false_iff_not, beq_iff_eq, beq_eq_false_iff_ne, bne_iff_ne, ne_eq, Bool.not_eq_true', Bool.not_eq_false', Bool.and_eq_true, Bool.or_eq_true, bne_eq_false_iff_eq, Bool.or_eq_false_iff, Bool.and_eq_false_iff] at c2
          refine den_skip ?_
          refine den_blk ?_
          refine den_region TTok ?_
          intro K hK
          simp -implicitDefEqProofs (disch := first | decide | assumption | omega) only [go_sem, RdS.len hd sl22, RdS.idx hd sl22, R1.intB hd (Ext.pres eB), RdS.cells hd, RdS.len hm sl23, RdS.idx hm sl23, RdS.cellB hm (Ext.pres eB), RdS.cells hm, RdS.len hr11 sl56, RdS.idx hr11 sl56, RdS.cellB hr11 (Ext.pres eB), RdS.cells hr11, BoxAt.cellB hb0_0 eB, wrap_id, Int.add_sub_cancel]
          refine hK _ _ ?_
          clear hK K
          refine den_stop ?_
          exact ⟨k + 1, by simp [HasL, puts_at], ⟨eB, by omega, fun j hj => by
            rcases Nat.lt_succ_iff_lt_or_eq.1 hj with h1 | h1
            · exact hz j h1
            · subst h1; exact tbAt_iff.2 c2⟩, by omega⟩
      · try simp only [decide_eq_true_eq, decide_eq_false_iff_not, beq_iff_eq, beq_eq_false_iff_ne, bne_iff_ne, ne_eq, Bool.not_eq_true', Bool.not_eq_false', Bool.and_eq_true, Bool.or_eq_true, bne_eq_false_iff_eq, Bool.or_eq_false_iff, Bool.and_eq_false_iff] at c1
        refine den_exit ?_
        refine denX_code ?_
        refine denX_stop ?_
        refine denX_hit ?_
        refine den_seq ?_
        refine den_seq ?_
        have hP : PreC X := ⟨hp7, by omega, hda, fun j hj => hz j (by omega)⟩
        refine den_region TTok ?_
        intro K hK
        simp -implicitDefEqProofs (disch := first | decide | assumption | omega) only [go_sem, RdS.len hd sl22, RdS.idx hd sl22, R1.intB hd (Ext.pres eB), RdS.cells hd, RdS.len hm sl23, RdS.idx hm sl23, RdS.cellB hm (Ext.pres eB), RdS.cells hm, BoxAt.cellB hb0_0 eB, wrap_id, Int.add_sub_cancel]
        refine hK _ _ ?_
        clear hK K
        refine den_block ?_
        refine den_sel [5, 1] ?_
        intro env_16
        simp only [go_sem]
        refine den_loopS (σ := Nat) (fun s => [(5, .int .i64 ((s : Int) + 1))]) (fun s H => Ext h0_0 H ∧ 0 < s ∧ ∀ j, 0 < j → j < s → ∀ i, i < (X.maps.getD j default).length → leadP (sqv X j i) < 0) (fun s => X.maps.length - s) 1 ?_ ?_
        · exact ⟨eB, by omega, fun j h0 hj => by omega⟩
        · rintro k h19 ee18 ⟨eB, hk, hs⟩
          simp only [List.cons_append, List.nil_append]
          have := Ext.size eB
          refine den_seq ?_
          refine den_seq ?_
          refine den_region TTok ?_
          intro K hK
          simp -implicitDefEqProofs (disch := first | decide | assumption | omega) only [go_sem, ld30, RdS.len hd sl22, RdS.idx hd sl22, R1.intB hd (Ext.pres eB), RdS.cells hd, RdS.len hm sl23, RdS.idx hm sl23, RdS.cellB hm (Ext.pres eB), RdS.cells hm, BoxAt.cellB hb0_0 eB, wrap_id, Int.add_sub_cancel]
          try simp -implicitDefEqProofs (disch := first | decide | assumption | omega) only [go_sem, RdS.len hd sl22, RdS.idx hd sl22, R1.intB hd (Ext.pres eB), RdS.cells hd, RdS.len hm sl23, RdS.idx hm sl23, RdS.cellB hm (Ext.pres eB), RdS.cells hm, BoxAt.cellB hb0_0 eB, wrap_id, Int.add_sub_cancel]
          refine CallA.mono (top_ok _ X _ ⟨_, _, rfl, (RdS.pres hd (Ext.pres eB)), (RdS.pres hm (Ext.pres eB))⟩) ?_
          intro v_ h10_2
          rintro ⟨rfl, e10_2⟩
          have := Ext.size e10_2
          replace eB := Ext.trans eB e10_2
          try simp -implicitDefEqProofs (disch := first | decide | assumption | omega) only [go_sem, RdS.len hd sl22, RdS.idx hd sl22, R1.intB hd (Ext.pres eB), RdS.cells hd, RdS.len hm sl23, RdS.idx hm sl23, RdS.cellB hm (Ext.pres eB), RdS.cells hm, BoxAt.cellB hb0_0 eB, wrap_id, Int.add_sub_cancel]
          refine hK _ _ ?_
          clear hK K
          refine den_cond rfl (fun c3 => ?_) (fun c3 => ?_)
          · try simp only [decide_eq_true_eq, decide_eq_false_iff_not, beq_iff_eq, beq_eq_false_iff_ne, bne_iff_ne, ne_eq, Bool.not_eq_true', Bool.not_eq_false', Bool.and_eq_true, Bool.or_eq_true, bne_eq_false_iff_eq, Bool.or_eq_false_iff, Bool.and_eq_false_iff] at c3
            refine den_skip ?_
            refine den_seq ?_
            refine den_block ?_
            refine den_seq ?_
            refine den_region TTok ?_
            intro K hK
            have hr20 := RdS.rowN hm k (by omega)
            have hlhr20 := RdS.le hr20
            simp -implicitDefEqProofs (disch := first | decide | assumption | omega) only [go_sem, fa30_2, ld23, ld56, RdS.len hd sl22, RdS.idx hd sl22, R1.intB hd (Ext.pres eB), RdS.cells hd, RdS.len hm sl23, RdS.idx hm sl23, RdS.cellB hm (Ext.pres eB), RdS.cells hm, RdS.len hr20 sl56, RdS.idx hr20 sl56, RdS.cellB hr20 (Ext.pres eB), RdS.cells hr20, BoxAt.cellB hb0_0 eB, wrap_id, Int.add_sub_cancel]
            refine hK _ _ ?_
            clear hK K
            refine den_block ?_
            refine den_sel [74, 1, 5, 72, 73] ?_
            intro env_21
            simp only [go_sem]
            refine den_loopS (σ := Nat) (fun s => [(74, .int .i64 (s : Int))]) (fun s H => Ext h0_0 H ∧ s ≤ (X.maps.getD k default).length ∧ ∀ i, i < s → leadP (sqv X k i) < 0) (fun s => (X.maps.getD k default).length - s) 0 ?_ ?_
            · exact ⟨eB, by omega, fun j hj => by omega⟩
            · rintro m h24 ee23 ⟨eB, hm2, hy⟩
              simp only [List.cons_append, List.nil_append]
              have := Ext.size eB
              refine den_seq ?_
              refine den_region TTok ?_
              intro K hK
              simp -implicitDefEqProofs (disch := first | decide | assumption | omega) only [go_sem, RdS.len hd sl22, RdS.idx hd sl22, R1.intB hd (Ext.pres eB), RdS.cells hd, RdS.len hm sl23, RdS.idx hm sl23, RdS.cellB hm (Ext.pres eB), RdS.cells hm, RdS.len hr20 sl56, RdS.idx hr20 sl56, RdS.cellB hr20 (Ext.pres eB), RdS.cells hr20, BoxAt.cellB hb0_0 eB, wrap_id, Int.add_sub_cancel]
              refine hK _ _ ?_
              clear hK K
              refine den_seq ?_
              refine den_cond rfl (fun c4 => ?_) (fun c4 => ?_)
              · try simp only [decide_eq_true_eq, decide_eq_false_iff_not, beq_iff_eq, beq_eq_false_iff_ne, bne_iff_ne, ne_eq, Bool.not_eq_true', Bool.not_eq_false', Bool.and_eq_true, Bool.or_eq_true, bne_eq_false_iff_eq, Bool.or_eq_false_iff, Bool.and_eq_false_iff] at c4
                refine den_skip ?_
                refine den_seq ?_
                refine den_block ?_
                refine den_seq ?_
                refine den_region TTok ?_
                intro K hK
                have hr25 := RdS.rowN hr20 m (by omega)
                have hlhr25 := RdS.le hr25
                simp -implicitDefEqProofs (disch := first | decide | assumption | omega) only [go_sem, ld22, RdS.len hd sl22, RdS.idx hd sl22, R1.intB hd (Ext.pres eB), RdS.cells hd, RdS.len hm sl23, RdS.idx hm sl23, RdS.cellB hm (Ext.pres eB), RdS.cells hm, RdS.len hr20 sl56, RdS.idx hr20 sl56, RdS.cellB hr20 (Ext.pres eB), RdS.cells hr20, RdS.len hr25 sl22, RdS.idx hr25 sl22, R1.intB hr25 (Ext.pres eB), RdS.cells hr25, BoxAt.cellB hb0_0 eB, wrap_id, Int.add_sub_cancel]
                refine hK _ _ ?_
                clear hK K
                refine den_seq ?_
                have hq := (tableP_iff.1 (hP.tb k (by omega))).2.at (k := m) (by omega)
                refine den_region TTok ?_
                intro K hK
                simp -implicitDefEqProofs (disch := first | decide | assumption | omega) only [go_sem, ld30, RdS.len hd sl22, RdS.idx hd sl22, R1.intB hd (Ext.pres eB), RdS.cells hd, RdS.len hm sl23, RdS.idx hm sl23, RdS.cellB hm (Ext.pres eB), RdS.cells hm, RdS.len hr20 sl56, RdS.idx hr20 sl56, RdS.cellB hr20 (Ext.pres eB), RdS.cells hr20, RdS.len hr25 sl22, RdS.idx hr25 sl22, R1.intB hr25 (Ext.pres eB), RdS.cells hr25, BoxAt.cellB hb0_0 eB, wrap_id, Int.add_sub_cancel]
                try simp -implicitDefEqProofs (disch := first | decide | assumption | omega) only [go_sem, RdS.len hd sl22, RdS.idx hd sl22, R1.intB hd (Ext.pres eB), RdS.cells hd, RdS.len hm sl23, RdS.idx hm sl23, RdS.cellB hm (Ext.pres eB), RdS.cells hm, RdS.len hr20 sl56, RdS.idx hr20 sl56, RdS.cellB hr20 (Ext.pres eB), RdS.cells hr20, RdS.len hr25 sl22, RdS.idx hr25 sl22, R1.intB hr25 (Ext.pres eB), RdS.cells hr25, BoxAt.cellB hb0_0 eB, wrap_id, Int.add_sub_cancel]
                refine CallA.mono (diff_ok _ X _ _ _ _ ⟨_, _, rfl, (RdS.pres hd (Ext.pres eB)), (RdS.pres hm (Ext.pres eB))⟩ (RdS.pres hr25 (Ext.pres eB)) hP hq.2 (fun _ _ => by simpa using hq.1)) ?_
                intro v15_4 h15_4
                rintro ⟨f15_4, ho15_4, hf15_4, e15_4⟩
                have := Ext.size e15_4
                replace eB := Ext.trans eB e15_4
                have hlho15_4 := OS.lt ho15_4
                try simp -implicitDefEqProofs (disch := first | decide | assumption | omega) only [go_sem, RdS.len hd sl22, RdS.idx hd sl22, R1.intB hd (Ext.pres eB), RdS.cells hd, RdS.len hm sl23, RdS.idx hm sl23, RdS.cellB hm (Ext.pres eB), RdS.cells hm, RdS.len hr20 sl56, RdS.idx hr20 sl56, RdS.cellB hr20 (Ext.pres eB), RdS.cells hr20, RdS.len hr25 sl22, RdS.idx hr25 sl22, R1.intB hr25 (Ext.pres eB), RdS.cells hr25, RdS.len (OS.rd ho15_4) sl22, RdS.idx (OS.rd ho15_4) sl22, R1.intN (OS.rd ho15_4), RdS.cells (OS.rd ho15_4), BoxAt.cellB hb0_0 eB, wrap_id, Int.add_sub_cancel]
                try simp -implicitDefEqProofs (disch := first | decide | assumption | omega) only [go_sem, RdS.len hd sl22, RdS.idx hd sl22, R1.intB hd (Ext.pres eB), RdS.cells hd, RdS.len hm sl23, RdS.idx hm sl23, RdS.cellB hm (Ext.pres eB), RdS.cells hm, RdS.len hr20 sl56, RdS.idx hr20 sl56, RdS.cellB hr20 (Ext.pres eB), RdS.cells hr20, RdS.len hr25 sl22, RdS.idx hr25 sl22, R1.intB hr25 (Ext.pres eB), RdS.cells hr25, RdS.len (OS.rd ho15_4) sl22, RdS.idx (OS.rd ho15_4) sl22, R1.intN (OS.rd ho15_4), RdS.cells (OS.rd ho15_4), BoxAt.cellB hb0_0 eB, wrap_id, Int.add_sub_cancel]
                refine CallA.mono (isZero_ok _ _ _ (OS.rd ho15_4)) ?_
                intro v_ h15_5
                rintro ⟨rfl, e15_5⟩
                replace ho15_4 := OS.ext ho15_4 e15_5
                have := Ext.size e15_5
                replace eB := Ext.trans eB e15_5
                try simp -implicitDefEqProofs (disch := first | decide | assumption | omega) only [go_sem, RdS.len hd sl22, RdS.idx hd sl22, R1.intB hd (Ext.pres eB), RdS.cells hd, RdS.len hm sl23, RdS.idx hm sl23, RdS.cellB hm (Ext.pres eB), RdS.cells hm, RdS.len hr20 sl56, RdS.idx hr20 sl56, RdS.cellB hr20 (Ext.pres eB), RdS.cells hr20, RdS.len hr25 sl22, RdS.idx hr25 sl22, R1.intB hr25 (Ext.pres eB), RdS.cells hr25, RdS.len (OS.rd ho15_4) sl22, RdS.idx (OS.rd ho15_4) sl22, R1.intN (OS.rd ho15_4), RdS.cells (OS.rd ho15_4), BoxAt.cellB hb0_0 eB, wrap_id, Int.add_sub_cancel]
                refine hK _ _ ?_
                clear hK K
                refine den_cond rfl (fun c5 => ?_) (fun c5 => ?_)
                · try simp only [decide_eq_true_eq, decide_eq_false_iff_not, beq_iff_eq, beq_eq_false_iff_ne, bne_iff_ne, ne_eq, Bool.not_eq_true', Bool.not_eq_false', Bool.and_eq_true, Bool.or_eq_true, bne_eq_false_iff_eq, Bool.or_eq_false_iff, Bool.and_eq_false_iff] at c5
                  refine den_seq ?_
                  refine den_region TTok ?_
                  intro K hK
                  simp -implicitDefEqProofs (disch := first | decide | assumption | omega) only [go_sem, RdS.len hd sl22, RdS.idx hd sl22, R1.intB hd (Ext.pres eB), RdS.cells hd, RdS.len hm sl23, RdS.idx hm sl23, RdS.cellB hm (Ext.pres eB), RdS.cells hm, RdS.len hr20 sl56, RdS.idx hr20 sl56, RdS.cellB hr20 (Ext.pres eB), RdS.cells hr20, RdS.len hr25 sl22, RdS.idx hr25 sl22, R1.intB hr25 (Ext.pres eB), RdS.cells hr25, RdS.len (OS.rd ho15_4) sl22, RdS.idx (OS.rd ho15_4) sl22, R1.intN (OS.rd ho15_4), RdS.cells (OS.rd ho15_4), BoxAt.cellB hb0_0 eB, wrap_id, Int.add_sub_cancel]
                  refine hK _ _ ?_
                  clear hK K
                  refine den_ret ?_
                  simp (disch := decide) only [resP_1, puts_same, puts_ne]
                  exact ⟨vbool (isC_no fun hC => by have h := hC.sq k (by omega) (by omega) m (by omega); rw [diff_sqv (by omega) (by omega)] at c5; exact lead_some c5 h), (Ext.trans e0_0 eB)⟩
                · try simp only [decide_eq_true_eq, decide_eq_false_iff_not, beq_iff_eq, beq_eq_false_iff_ne, bne_iff_ne, ne_eq, Bool.not_eq_true', Bool.not_eq_false', Bool.and_eq_true, Bool.or_eq_true, bne_eq_false_iff_eq, Bool.or_eq_false_iff, Bool.and_eq_false_iff] at c5
                  refine den_skip ?_
                  refine den_blk ?_
                  refine den_region TTok ?_
                  intro K hK
                  simp -implicitDefEqProofs (disch := first | decide | assumption | omega) only [go_sem, RdS.len hd sl22, RdS.idx hd sl22, R1.intB hd (Ext.pres eB), RdS.cells hd, RdS.len hm sl23, RdS.idx hm sl23, RdS.cellB hm (Ext.pres eB), RdS.cells hm, RdS.len hr20 sl56, RdS.idx hr20 sl56, RdS.cellB hr20 (Ext.pres eB), RdS.cells hr20, RdS.len hr25 sl22, RdS.idx hr25 sl22, R1.intB hr25 (Ext.pres eB), RdS.cells hr25, RdS.len (OS.rd ho15_4) sl22, RdS.idx (OS.rd ho15_4) sl22, R1.intN (OS.rd ho15_4), RdS.cells (OS.rd ho15_4), BoxAt.cellB hb0_0 eB, wrap_id, Int.add_sub_cancel]
                  refine hK _ _ ?_
                  clear hK K
                  refine den_stop ?_
                  exact ⟨m + 1, by simp [HasL, puts_at], ⟨eB, by omega, fun i hi => by
                    rcases Nat.lt_succ_iff_lt_or_eq.1 hi with h1 | h1
                    · exact hy i h1
                    · subst h1; rw [← diff_sqv (by omega) (by omega)]; exact lead_zero c5⟩, by omega⟩
              · try simp only [decide_eq_true_eq, decide_eq_false_iff_not, beq_iff_eq, beq_eq_false_iff_ne, bne_iff_ne, ne_eq, Bool.not_eq_true', Bool.not_eq_false', Bool.and_eq_true, Bool.or_eq_true, bne_eq_false_iff_eq, Bool.or_eq_false_iff, Bool.and_eq_false_iff] at c4
                refine den_exit ?_
                refine denX_code ?_
                refine denX_stop ?_
                refine denX_hit ?_
                refine den_blk ?_
                refine den_region TTok ?_
                intro K hK
                simp -implicitDefEqProofs (disch := first | decide | assumption | omega) only [go_sem, RdS.len hd sl22, RdS.idx hd sl22, R1.intB hd (Ext.pres eB), RdS.cells hd, RdS.len hm sl23, RdS.idx hm sl23, RdS.cellB hm (Ext.pres eB), RdS.cells hm, RdS.len hr20 sl56, RdS.idx hr20 sl56, RdS.cellB hr20 (Ext.pres eB), RdS.cells hr20, BoxAt.cellB hb0_0 eB, wrap_id, Int.add_sub_cancel]
                refine hK _ _ ?_
                clear hK K
                refine den_stop ?_
                exact ⟨k + 1, by simp [HasL, puts_at], ⟨eB, by omega, fun j h0 hj => by
                  rcases Nat.lt_succ_iff_lt_or_eq.1 hj with h1 | h1
                  · exact hs j h0 h1
                  · subst h1; exact fun i hi => hy i (by omega)⟩, by omega⟩
          · try simp only [decide_eq_true_eq, decide_eq_false_iff_not, beq_iff_eq, beq_eq_false_iff_ne, bne_iff_ne, ne_eq, Bool.not_eq_true', Bool.not_eq_false', Bool.and_eq_true, Bool.or_eq_true, bne_eq_false_iff_eq, Bool.or_eq_false_iff, Bool.and_eq_false_iff] at c3
            refine den_exit ?_
            refine denX_code ?_
            refine denX_stop ?_
            refine denX_hit ?_
            refine den_seq ?_
            refine den_region TTok ?_
            intro K hK
            simp -implicitDefEqProofs (disch := first | decide | assumption | omega) only [go_sem, RdS.len hd sl22, RdS.idx hd sl22, R1.intB hd (Ext.pres eB), RdS.cells hd, RdS.len hm sl23, RdS.idx hm sl23, RdS.cellB hm (Ext.pres eB), RdS.cells hm, BoxAt.cellB hb0_0 eB, wrap_id, Int.add_sub_cancel]
            refine hK _ _ ?_
            clear hK K
            refine den_ret ?_
            simp (disch := decide) only [resP_1, puts_same, puts_ne]
            exact ⟨vbool (isC_yes ⟨c0.1.1.1, by omega, by omega, hda, hP.tb, fun j hj h0 => hs j h0 (by omega)⟩), (Ext.trans e0_0 eB)⟩
end Go.Proofs.Ytffggocjkhcgeaa

namespace Go.Proofs.Ytffggocjkhcgeaa
open Go
theorem dimP_bnd {X : Cx} (hC : IsC X) (n : Int) : 0 ≤ dimP X n ∧ dimP X n ≤ 8 := by
  unfold dimP
  split
  · rename_i h
    rw [in3_iff] at h
    exact dm_at hC.dm (by omega)
  · omega
theorem dimP_out {X : Cx} {n : Int} (h : ¬ (0 ≤ n ∧ n ≤ (X.dims.length : Int) - 1)) : dimP X n = 0 := by
  rw [dimP, if_neg (by rw [in3_iff]; exact h)]
end Go.Proofs.Ytffggocjkhcgeaa

namespace Go.Proofs.Ytffggocjkhcgeaa
open Go
theorem szI_ok {xs : List Int} {l : Int} (hl : l ≤ 1048576) (h : ¬ szI xs l < 0) : HM1 xs := by
  unfold szI at h
  unfold HM1
  split at h <;> omega
theorem szRows_ok {α : Type} {f : α → Int → Int} {P : α → Prop} (hle : ∀ x l, 0 ≤ l → -1 ≤ f x l ∧ f x l ≤ l) (hP : ∀ x l, 0 ≤ l → l ≤ 1048576 → ¬ f x l < 0 → P x) : ∀ (r : List α) (l : Int), 0 ≤ l → l ≤ 1048576 → ¬ szRows f r l < 0 → ∀ x ∈ r, P x
  | [], _, _, _, _, x, hx => by cases hx
  | y :: r, l, h0, h1, h, x, hx => by
    unfold szRows at h
    split at h
    · omega
    · rename_i hc
      have := hle y l h0
      rcases List.mem_cons.1 hx with rfl | hx
      · exact hP _ l h0 h1 hc
      · exact szRows_ok hle hP r (f y l) (by omega) (by omega) h x hx
theorem szL_ok {α : Type} {f : α → Int → Int} {P : α → Prop} (hle : ∀ x l, 0 ≤ l → -1 ≤ f x l ∧ f x l ≤ l) (hP : ∀ x l, 0 ≤ l → l ≤ 1048576 → ¬ f x l < 0 → P x) {r : List α} {l : Int} (h1 : l ≤ 1048576) (h : ¬ szL f r l < 0) : (r.length : Int) ≤ 1048576 ∧ ∀ x ∈ r, P x := by
  unfold szL at h
  split at h
  · omega
  · exact ⟨by omega, szRows_ok hle hP r _ (by omega) (by omega) h⟩
theorem sz2_ok {r : List (List Int)} {l : Int} (h0 : 0 ≤ l) (h1 : l ≤ 1048576) (h : ¬ sz2 r l < 0) : HM2 r := szL_ok szI_le (fun x l _ h1 h => szI_ok h1 h) h1 h
theorem sz3_ok {r : List (List (List Int))} {l : Int} (h0 : 0 ≤ l) (h1 : l ≤ 1048576) (h : ¬ sz3 r l < 0) : HM3 r := szL_ok sz2_le (fun x l h0 h1 h => sz2_ok h0 h1 h) h1 h
theorem szC_ok' {X : Cx} {l : Int} (h0 : 0 ≤ l) (h1 : l ≤ 1048576) (h : ¬ szC X l < 0) : HMC X := by
  unfold szC at h
  have hle := szI_le X.dims l h0
  split at h
  · omega
  · rename_i hc
    split at h
    · omega
    · rename_i hc2
      exact ⟨szI_ok h1 hc, sz3_ok (by omega) (by omega) hc2⟩
theorem Fresh.left {lo : Nat} {f1 f2 : List Nat} (h : Fresh lo (f1 ++ f2)) : Fresh lo f1 := ⟨(List.nodup_append.1 h.nodup).1, fun b hb => h.ge b (List.mem_append_left _ hb)⟩
theorem Fresh.right {lo : Nat} {f1 f2 : List Nat} (h : Fresh lo (f1 ++ f2)) : Fresh lo f2 := ⟨(List.nodup_append.1 h.nodup).2.1, fun b hb => h.ge b (List.mem_append_right _ hb)⟩
end Go.Proofs.Ytffggocjkhcgeaa

namespace Go.Proofs.Ytffggocjkhcgeaa
open Go
def cntL {α : Type} (ct : α → Int) : List α → Int
  | [] => 0
  | x :: r => ct x + cntL ct r
def cnt1 (xs : List Int) : Int := xs.length
abbrev cnt2 : List (List Int) → Int := cntL cnt1
section
variable {α : Type} {mk : α → Int → α} {ct : α → Int}
theorem cntL_nonneg (h : ∀ x, 0 ≤ ct x) : ∀ xs : List α, 0 ≤ cntL ct xs
  | [] => by simp [cntL]
  | x :: r => by have := h x; have := cntL_nonneg h r; simp only [cntL]; omega
end
theorem cnt1_nn (x : List Int) : 0 ≤ cnt1 x := by unfold cnt1; omega
theorem cnt2_nn (x : List (List Int)) : 0 ≤ cnt2 x := cntL_nonneg cnt1_nn x
end Go.Proofs.Ytffggocjkhcgeaa

namespace Go.Proofs.Ytffggocjkhcgeaa
open Go
theorem szI_cntA {xs : List Int} {l : Int} (h : ¬ szI xs l < 0) : cnt1 xs ≤ l - szI xs l := by
  unfold szI at *
  unfold cnt1
  split at h
  · omega
  · rename_i hc; rw [if_neg hc]; omega
theorem szRows_cntA {α : Type} {f : α → Int → Int} {ct : α → Int} (hc : ∀ x l, ¬ f x l < 0 → ct x ≤ l - f x l) : ∀ (r : List α) (l : Int), ¬ szRows f r l < 0 → cntL ct r ≤ l - szRows f r l
  | [], l, _ => by simp [cntL, szRows]
  | x :: r, l, h => by
    unfold szRows at *
    split at h
    · omega
    · rename_i hx
      have h1 := hc x l hx
      have h2 := szRows_cntA hc r (f x l) h
      rw [if_neg hx, cntL]; omega
theorem szL_cntA {α : Type} {f : α → Int → Int} {ct : α → Int} (hc : ∀ x l, ¬ f x l < 0 → ct x ≤ l - f x l) (r : List α) (l : Int) (h : ¬ szL f r l < 0) : cntL ct r ≤ l - szL f r l := by
  unfold szL at *
  split at h
  · omega
  · rename_i hx
    have := szRows_cntA hc r _ h
    rw [if_neg hx]; omega
theorem sz3_cntA {R : List (List (List Int))} {l : Int} (h0 : 0 ≤ l) (h1 : l ≤ 1048576) (h : ¬ sz3 R l < 0) : 0 ≤ cntL cnt2 R ∧ cntL cnt2 R ≤ 1048576 := ⟨cntL_nonneg cnt2_nn R, by
  have := szL_cntA (f := sz2) (ct := cnt2) (fun x l hx => szL_cntA (f := szI) (ct := cnt1) (fun x l hx => szI_cntA hx) x l hx) R l h
  have e : szL sz2 R l = sz3 R l := rfl
  omega⟩
theorem szC_cntA {X : Cx} {l : Int} (h0 : 0 ≤ l) (h1 : l ≤ 1048576) (h : ¬ szC X l < 0) : 0 ≤ cnt1 X.dims ∧ 0 ≤ cntL cnt2 X.maps ∧ cnt1 X.dims + cntL cnt2 X.maps ≤ 1048576 := ⟨cnt1_nn _, cntL_nonneg cnt2_nn _, by
  unfold szC at h
  split at h
  · omega
  · rename_i h1
    split at h
    · omega
    · have a := szI_cntA h1
      have b := szL_cntA (f := sz2) (ct := cnt2) (fun x l hx => szL_cntA (f := szI) (ct := cnt1) (fun x l hx => szI_cntA hx) x l hx) X.maps _ (show ¬ szL sz2 X.maps (szI X.dims l) < 0 from by assumption)
      have e : szL sz2 X.maps (szI X.dims l) = sz3 X.maps (szI X.dims l) := rfl
      omega⟩
theorem eqSSS_same (v w : Value) (xs : List (List (List Int))) (h : Heap) (hv : R3 h v xs) (hw : R3 h w xs) : CallA Try.prog 24 #[v, w] h fun u h' => u = .bool true ∧ h' = h := (eqSSS_ok v w xs xs h hv hw).mono fun u h' e => ⟨by rw [e.1]; simp, e.2⟩
theorem eqC_same (v w : Value) (X : Cx) (h : Heap) (hv : RC h v X) (hw : RC h w X) : CallA Try.prog 23 #[v, w] h fun u h' => u = .bool true ∧ Ext h h' := (eqC_ok v w X X h hv hw).mono fun u h' e => ⟨by rw [e.1, eqC_self], e.2⟩
end Go.Proofs.Ytffggocjkhcgeaa

namespace Go.Proofs.Ytffggocjkhcgeaa
open Go
def unitP (n i : Nat) : List Int := (List.replicate n 0).set i 1
def unitsP (d : Int) : List (List Int) := (List.range d.toNat).map fun i => unitP d.toNat i

set_option maxRecDepth 100000 in
theorem sUnit_ok (n : Int) (i : Int) (h : Heap)  (hn : 0 ≤ i ∧ i < n ∧ n ≤ 1048576) : CallA Try.prog 122 #[.int .i64 n, .int .i64 i] h fun v' h' => ∃ w0 f0, v' = w0 ∧ O1 h' w0 (unitP n.toNat i.toNat) f0 ∧ Fresh h.size f0 ∧ Ext h h' := by
  refine callA_intro TTok (args := [_, _]) Try.func122 (by kernel_rfl) rfl 12 rfl (by simp) [.tmp 4] rfl ?_
  simp only [idxs, Nat.reduceAdd]
  refine den_seq ?_
  refine den_region TTok ?_
  intro K hK
  simp -implicitDefEqProofs (disch := first | decide | assumption | omega) only [go_sem, wrap_id]
  refine hK _ _ ?_
  clear hK K
  refine den_seq ?_
  refine den_region TTok ?_
  intro K hK
  simp -implicitDefEqProofs (disch := first | decide | assumption | omega) only [go_sem, wrap_id]
  refine op_make sz22 rfl rfl (by omega) (by omega) OI 0 (fun _ => ⟨rfl, rfl⟩) ?_
  intro v1_1 h1_1 ho1_1 e1_1
  have := Ext.size e1_1
  have eB := e1_1
  have hfho1_1 : Fresh h.size [h.size] := Fresh.one _
  have hlenho1_1 : (List.replicate (n).toNat (0 : Int)).length = (n).toNat := List.length_replicate
  have hlho1_1 := OS.lt ho1_1
  try simp -implicitDefEqProofs (disch := first | decide | assumption | omega) only [go_sem, RdS.len (OS.rd ho1_1) sl22, RdS.idx (OS.rd ho1_1) sl22, R1.intN (OS.rd ho1_1), RdS.cells (OS.rd ho1_1), wrap_id]
  refine hK _ _ ?_
  clear hK K
  refine den_seq ?_
  refine den_region TTok ?_
  intro K hK
  simp -implicitDefEqProofs (disch := first | decide | assumption | omega) only [go_sem, RdS.len (OS.rd ho1_1) sl22, RdS.idx (OS.rd ho1_1) sl22, R1.intN (OS.rd ho1_1), RdS.cells (OS.rd ho1_1), wrap_id]
  refine op_store1 (j := (i).toNat) st2 ho1_1 hfho1_1.nodup (by first | omega | (simp; omega)) rfl rfl ?_
  intro h2_3 ho2_3 c2_3
  have hsz2_3 := c2_3.size
  have := c2_3.size
  replace eB := Ext.then eB c2_3 (ge_of hfho1_1 (by omega))
  have hlho2_3 := OS.lt ho2_3
  have hlenho2_3 : ((List.replicate (n).toNat 0).set ((i).toNat) (1 : Int) : List Int).length = (List.replicate (n).toNat 0 : List Int).length := List.length_set
  try simp -implicitDefEqProofs (disch := first | decide | assumption | omega) only [go_sem, RdS.len (OS.rd ho2_3) sl22, RdS.idx (OS.rd ho2_3) sl22, R1.intN (OS.rd ho2_3), RdS.cells (OS.rd ho2_3), wrap_id]
  refine hK _ _ ?_
  clear hK K
  refine den_seq ?_
  refine den_region TTok ?_
  intro K hK
  simp -implicitDefEqProofs (disch := first | decide | assumption | omega) only [go_sem, RdS.len (OS.rd ho2_3) sl22, RdS.idx (OS.rd ho2_3) sl22, R1.intN (OS.rd ho2_3), RdS.cells (OS.rd ho2_3), wrap_id]
  refine hK _ _ ?_
  clear hK K
  refine den_ret ?_
  simp (disch := decide) only [resP_1, puts_same, puts_ne]
  exact ⟨_, _, rfl, ho2_3, hfho1_1.mono (by omega), eB⟩

set_option maxRecDepth 100000 in
theorem iUnit_ok (n : Int) (i : Int) (h : Heap)  (hn : 0 ≤ i ∧ i < n ∧ n ≤ 1048576) : CallA Try.prog 154 #[.int .i64 n, .int .i64 i] h fun v' h' => ∃ w0 f0, v' = w0 ∧ O1 h' w0 (unitP n.toNat i.toNat) f0 ∧ Fresh h.size f0 ∧ Ext h h' := by
  refine callA_intro TTok (args := [_, _]) Try.func154 (by kernel_rfl) rfl 12 rfl (by simp) [.tmp 4] rfl ?_
  simp only [idxs, Nat.reduceAdd]
  refine den_seq ?_
  refine den_region TTok ?_
  intro K hK
  simp -implicitDefEqProofs (disch := first | decide | assumption | omega) only [go_sem, wrap_id]
  refine hK _ _ ?_
  clear hK K
  refine den_seq ?_
  refine den_region TTok ?_
  intro K hK
  simp -implicitDefEqProofs (disch := first | decide | assumption | omega) only [go_sem, wrap_id]
  refine op_make sz22 rfl rfl (by omega) (by omega) OI 0 (fun _ => ⟨rfl, rfl⟩) ?_
  intro v1_1 h1_1 ho1_1 e1_1
  have := Ext.size e1_1
  have eB := e1_1
  have hfho1_1 : Fresh h.size [h.size] := Fresh.one _
  have hlenho1_1 : (List.replicate (n).toNat (0 : Int)).length = (n).toNat := List.length_replicate
  have hlho1_1 := OS.lt ho1_1
  try simp -implicitDefEqProofs (disch := first | decide | assumption | omega) only [go_sem, RdS.len (OS.rd ho1_1) sl22, RdS.idx (OS.rd ho1_1) sl22, R1.intN (OS.rd ho1_1), RdS.cells (OS.rd ho1_1), wrap_id]
  refine hK _ _ ?_
  clear hK K
  refine den_seq ?_
  refine den_region TTok ?_
  intro K hK
  simp -implicitDefEqProofs (disch := first | decide | assumption | omega) only [go_sem, RdS.len (OS.rd ho1_1) sl22, RdS.idx (OS.rd ho1_1) sl22, R1.intN (OS.rd ho1_1), RdS.cells (OS.rd ho1_1), wrap_id]
  refine op_store1 (j := (i).toNat) st2 ho1_1 hfho1_1.nodup (by first | omega | (simp; omega)) rfl rfl ?_
  intro h2_3 ho2_3 c2_3
  have hsz2_3 := c2_3.size
  have := c2_3.size
  replace eB := Ext.then eB c2_3 (ge_of hfho1_1 (by omega))
  have hlho2_3 := OS.lt ho2_3
  have hlenho2_3 : ((List.replicate (n).toNat 0).set ((i).toNat) (1 : Int) : List Int).length = (List.replicate (n).toNat 0 : List Int).length := List.length_set
  try simp -implicitDefEqProofs (disch := first | decide | assumption | omega) only [go_sem, RdS.len (OS.rd ho2_3) sl22, RdS.idx (OS.rd ho2_3) sl22, R1.intN (OS.rd ho2_3), RdS.cells (OS.rd ho2_3), wrap_id]
  refine hK _ _ ?_
  clear hK K
  refine den_seq ?_
  refine den_region TTok ?_
  intro K hK
  simp -implicitDefEqProofs (disch := first | decide | assumption | omega) only [go_sem, RdS.len (OS.rd ho2_3) sl22, RdS.idx (OS.rd ho2_3) sl22, R1.intN (OS.rd ho2_3), RdS.cells (OS.rd ho2_3), wrap_id]
  refine hK _ _ ?_
  clear hK K
  refine den_ret ?_
  simp (disch := decide) only [resP_1, puts_same, puts_ne]
  exact ⟨_, _, rfl, ho2_3, hfho1_1.mono (by omega), eB⟩

set_option maxRecDepth 100000 in
theorem iUnits_ok (n : Int) (h : Heap)  (hn : 0 ≤ n ∧ n ≤ 1048576) : CallA Try.prog 125 #[.int .i64 n] h fun v' h' => ∃ w0 f0, v' = w0 ∧ O2 h' w0 (unitsP n) f0 ∧ Fresh h.size f0 ∧ Ext h h' := by
  refine callA_intro TTok (args := [_]) Try.func125 (by kernel_rfl) rfl 18 rfl (by simp) [.tmp 2] rfl ?_
  simp only [idxs, Nat.reduceAdd]
  refine den_seq ?_
  refine den_region TTok ?_
  intro K hK
  simp -implicitDefEqProofs (disch := first | decide | assumption | omega) only [go_sem, wrap_id]
  refine hK _ _ ?_
  clear hK K
  refine den_seq ?_
  refine den_region TTok ?_
  intro K hK
  simp -implicitDefEqProofs (disch := first | decide | assumption | omega) only [go_sem, wrap_id]
  refine op_bs0 sz56 O1 ?_
  intro v1_0 h1_0 ho1_0 e1_0
  have := Ext.size e1_0
  have eB := e1_0
  have hfho1_0 : Fresh h.size [h.size] := Fresh.one _
  have hlho1_0 := OS.lt ho1_0
  try simp -implicitDefEqProofs (disch := first | decide | assumption | omega) only [go_sem, RdS.len (OS.rd ho1_0) sl56, RdS.idx (OS.rd ho1_0) sl56, RdS.cellN (OS.rd ho1_0), RdS.cells (OS.rd ho1_0), wrap_id]
  refine hK _ _ ?_
  clear hK K
  refine den_seq ?_
  refine den_seq ?_
  refine den_region TTok ?_
  intro K hK
  simp -implicitDefEqProofs (disch := first | decide | assumption | omega) only [go_sem, RdS.len (OS.rd ho1_0) sl56, RdS.idx (OS.rd ho1_0) sl56, RdS.cellN (OS.rd ho1_0), RdS.cells (OS.rd ho1_0), wrap_id]
  refine hK _ _ ?_
  clear hK K
  refine den_block ?_
  refine den_sel [3, 7, 0, 6] ?_
  intro env_1
  simp only [go_sem]
  refine den_loopS (σ := Nat × Value × List Nat) (fun st_ => [(3, st_.2.1), (7, .int .i64 (st_.1 : Int))]) (fun st_ H => ((st_.1 : Int) ≤ n) ∧ (O2 H st_.2.1 ((List.range st_.1).map fun i => unitP n.toNat i) st_.2.2) ∧ (Fresh (h.size) st_.2.2) ∧ (Sub [h.size] h1_0.size st_.2.2) ∧ (Chg [h.size] h1_0 H)) (fun st_ => n.toNat - st_.1) (0, v1_0, [h.size]) ?_ ?_
  · exact ⟨by first | (simp; done) | (dsimp only; omega) | (simp; omega), by simpa using ho1_0, hfho1_0, Sub.refl, Chg.refl _ _⟩
  · rintro ⟨k, vhO, fphO⟩ h4 ee3 ⟨hi0, hO, hfhO, sbhO, cL2⟩
    dsimp only at hi0 hO hfhO sbhO cL2
    have := cL2.size
    replace eB := Ext.then eB cL2 (ge_of hfho1_0 (by omega))
    have hlhO := OS.lt hO
    simp only [List.cons_append, List.nil_append]
    have hlr : ((List.range k).map fun i => unitP n.toNat i).length = k := by simp
    refine den_seq ?_
    refine den_region TTok ?_
    intro K hK
    simp -implicitDefEqProofs (disch := first | decide | assumption | omega) only [go_sem, RdS.len (OS.rd hO) sl56, RdS.idx (OS.rd hO) sl56, RdS.cellN (OS.rd hO), RdS.cells (OS.rd hO), wrap_id]
    refine hK _ _ ?_
    clear hK K
    refine den_seq ?_
    refine den_cond rfl (fun c0 => ?_) (fun c0 => ?_)
    · try simp only [decide_eq_true_eq, decide_eq_false_iff_not, beq_iff_eq, beq_eq_false_iff_ne, bne_iff_ne, ne_eq, Bool.not_eq_true', Bool.not_eq_false', Bool.and_eq_true, Bool.or_eq_true, bne_eq_false_iff_eq] at c0
      refine den_skip ?_
      refine den_seq ?_
      refine den_block ?_
      refine den_seq ?_
      refine den_region TTok ?_
      intro K hK
      simp -implicitDefEqProofs (disch := first | decide | assumption | omega) only [go_sem, RdS.len (OS.rd hO) sl56, RdS.idx (OS.rd hO) sl56, RdS.cellN (OS.rd hO), RdS.cells (OS.rd hO), wrap_id]
      refine hK _ _ ?_
      clear hK K
      refine den_region TTok ?_
      intro K hK
      simp -implicitDefEqProofs (disch := first | decide | assumption | omega) only [go_sem, RdS.len (OS.rd hO) sl56, RdS.idx (OS.rd hO) sl56, RdS.cellN (OS.rd hO), RdS.cells (OS.rd hO), wrap_id]
      try simp -implicitDefEqProofs (disch := first | decide | assumption | omega) only [go_sem, RdS.len (OS.rd hO) sl56, RdS.idx (OS.rd hO) sl56, RdS.cellN (OS.rd hO), RdS.cells (OS.rd hO), wrap_id]
      refine CallA.mono (iUnit_ok  n (k : Int) _  (by omega)) ?_
      intro vw5_3_0 h5_3
      rintro ⟨zvw5_3_0, fw5_3_0, rfl, how5_3_0, hfw5_3_0, e5_3⟩
      replace hO := OS.ext hO e5_3
      have := Ext.size e5_3
      replace eB := Ext.trans eB e5_3
      replace cL2 := Chg.stepE cL2 e5_3
      have hlhow5_3_0 := OS.lt how5_3_0
      try simp -implicitDefEqProofs (disch := first | decide | assumption | omega) only [go_sem, RdS.len (OS.rd hO) sl56, RdS.idx (OS.rd hO) sl56, RdS.cellN (OS.rd hO), RdS.cells (OS.rd hO), RdS.len (OS.rd how5_3_0) sl22, RdS.idx (OS.rd how5_3_0) sl22, R1.intN (OS.rd how5_3_0), RdS.cells (OS.rd how5_3_0), wrap_id]
      refine op_bs1 sz56 rfl (OS.one how5_3_0).2 ?_
      try simp -implicitDefEqProofs (disch := first | decide | assumption | omega) only [go_sem, RdS.len (OS.rd hO) sl56, RdS.idx (OS.rd hO) sl56, RdS.cellN (OS.rd hO), RdS.cells (OS.rd hO), RdS.len (OS.rd how5_3_0) sl22, RdS.idx (OS.rd how5_3_0) sl22, R1.intN (OS.rd how5_3_0), RdS.cells (OS.rd how5_3_0), wrap_id]
      refine op_append1 sz56 hO hfhO.nodup how5_3_0 hfw5_3_0.nodup (apart_lt hlhO hfw5_3_0 (by omega)) (by first | omega | (simp; omega)) rfl rfl ?_
      intro v5_5 h5_5 fp5_5 ho5_5 hn5_5 hs5_5 c5_5
      have hsz5_5 := c5_5.size
      have hfho5_5 : Fresh h.size fp5_5 := Fresh.appd hfhO hfw5_3_0 (by omega) (by omega) hn5_5 hs5_5
      have sb5 : Sub [h.size] h1_0.size fp5_5 := Sub.grow sbhO (Sub.fresh hfw5_3_0 (by omega)) (by omega) hs5_5
      have := c5_5.size
      replace eB := Ext.then eB c5_5 (ge_of hfhO (by omega))
      replace cL2 := Chg.step cL2 c5_5 sbhO
      have hlho5_5 := OS.lt ho5_5
      try simp -implicitDefEqProofs (disch := first | decide | assumption | omega) only [go_sem, RdS.len (OS.rd ho5_5) sl56, RdS.idx (OS.rd ho5_5) sl56, RdS.cellN (OS.rd ho5_5), RdS.cells (OS.rd ho5_5), wrap_id]
      refine hK _ _ ?_
      clear hK K
      refine den_blk ?_
      refine den_region TTok ?_
      intro K hK
      simp -implicitDefEqProofs (disch := first | decide | assumption | omega) only [go_sem, RdS.len (OS.rd ho5_5) sl56, RdS.idx (OS.rd ho5_5) sl56, RdS.cellN (OS.rd ho5_5), RdS.cells (OS.rd ho5_5), wrap_id]
      refine hK _ _ ?_
      clear hK K
      refine den_stop ?_
      rw [Int.toNat_natCast, range_step (fun i => unitP n.toNat i)] at ho5_5
      exact ⟨(k + 1, v5_5, fp5_5), by simp [HasL, puts_at], ⟨by first | omega | (dsimp only; omega), ho5_5, hfho5_5, sb5, cL2⟩, by first | omega | (dsimp only; omega)⟩
    · try simp only [decide_eq_true_eq, decide_eq_false_iff_not, beq_iff_eq, beq_eq_false_iff_ne, bne_iff_ne, ne_eq, Bool.not_eq_true', Bool.not_eq_false', Bool.and_eq_true, Bool.or_eq_true, bne_eq_false_iff_eq] at c0
      refine den_exit ?_
      refine denX_code ?_
      refine denX_stop ?_
      refine denX_hit ?_
      refine den_seq ?_
      refine den_region TTok ?_
      intro K hK
      simp -implicitDefEqProofs (disch := first | decide | assumption | omega) only [go_sem, RdS.len (OS.rd hO) sl56, RdS.idx (OS.rd hO) sl56, RdS.cellN (OS.rd hO), RdS.cells (OS.rd hO), wrap_id]
      refine hK _ _ ?_
      clear hK K
      refine den_ret ?_
      simp (disch := decide) only [resP_1, puts_same, puts_ne]
      have e : unitsP n = (List.range k).map fun i => unitP n.toNat i := by rw [unitsP, show n.toNat = k by omega]
      rw [e]
      exact ⟨_, _, rfl, hO, hfhO.mono (by omega), eB⟩
end Go.Proofs.Ytffggocjkhcgeaa

namespace Go.Proofs.Ytffggocjkhcgeaa
open Go
/-- A code, and another one where the first is 0. -/
def cadd (c e : Int) (b : Bool) : Int := if ((c == 0) && b) = true then e else c
theorem cadd_0 {c e : Int} {b : Bool} (he : e ≠ 0) : cadd c e b = 0 ↔ c = 0 ∧ b = false := by
  unfold cadd
  by_cases h : c = 0 <;> cases b <;> simp [h, he]
theorem b0 {x : Int} (h : (x == 0) = true) : x = 0 := by simpa using h
theorem caddT {c e : Int} {b : Bool} (h : ((c == 0) && b) = true) : cadd c e b = e := if_pos h
theorem caddF {c e : Int} {b : Bool} (h : ((c == 0) && b) = false) : cadd c e b = c := if_neg (by rw [h]; decide)
theorem cadd_n {c e : Int} {b : Bool} (h : c ≠ 0) : cadd c e b = c := by simp [cadd, h]
theorem cadd_z {e : Int} {b : Bool} : cadd 0 e b = if b = true then e else 0 := by simp [cadd]
noncomputable def pairC (X Y : Cx) : Int := if isC X = true ∧ isC Y = true then (if X.p = Y.p ∧ X.dims.length = Y.dims.length then 0 else 2) else 1
noncomputable def pairL (L : List Cx) : Int := if L.all isC = true then (if L.all (fun X => X.p == (L.getD 0 default).p && X.dims.length == (L.getD 0 default).dims.length) = true then 0 else 2) else 1
theorem pairL_two (X Y : Cx) : pairL [X, Y] = pairC X Y := by
  unfold pairL pairC
  by_cases h1 : isC X = true <;> by_cases h2 : isC Y = true <;> by_cases h3 : X.p = Y.p <;> by_cases h4 : X.dims.length = Y.dims.length <;> simp [h1, h2, h3, h4, eq_comm (a := Y.p), eq_comm (a := Y.dims.length)]
theorem pairC_0 {X Y : Cx} (h : pairC X Y = 0) : IsC X ∧ IsC Y ∧ X.p = Y.p ∧ X.dims.length = Y.dims.length := by
  unfold pairC at h
  split at h
  · rename_i hc
    split at h
    · rename_i h2; exact ⟨isC_t.1 hc.1, isC_t.1 hc.2, h2.1, h2.2⟩
    · cases h
  · cases h
theorem dimP_at {X : Cx} {k : Nat} (h : k < X.dims.length) : dimP X (k : Int) = X.dims.getD k 0 := by
  rw [dimP, if_pos (in3_iff.2 ⟨by omega, by omega⟩)]; rfl

set_option maxRecDepth 100000 in
theorem l04Two_ok (vX vY : Value) (X : Cx) (Y : Cx) (h : Heap) (rX : RC h vX X) (rY : RC h vY Y)  : CallA Try.prog 84 #[vX, vY] h fun v' h' => v' = .int .i64 (pairC X Y) ∧ Ext h h' := by
  obtain ⟨vdX, vmX, rfl, hdX, hmX⟩ := rX
  have hledX := RdS.le hdX
  have hlemX := RdS.le hmX
  obtain ⟨vdY, vmY, rfl, hdY, hmY⟩ := rY
  have hledY := RdS.le hdY
  have hlemY := RdS.le hmY
  refine callA_intro TTok (args := [_, _]) Try.func84 (by kernel_rfl) rfl 29 rfl (by simp) [.tmp 4] rfl ?_
  simp only [idxs, Nat.reduceAdd]
  refine den_seq ?_
  refine den_region TTok ?_
  intro K hK
  simp -implicitDefEqProofs (disch := first | decide | assumption | omega) only [go_sem, RdS.len hdX sl22, RdS.idx hdX sl22, R1.intB hdX (HPres.refl _), RdS.cells hdX, RdS.len hmX sl23, RdS.idx hmX sl23, RdS.cellB hmX (HPres.refl _), RdS.cells hmX, RdS.len hdY sl22, RdS.idx hdY sl22, R1.intB hdY (HPres.refl _), RdS.cells hdY, RdS.len hmY sl23, RdS.idx hmY sl23, RdS.cellB hmY (HPres.refl _), RdS.cells hmY, wrap_id]
  refine op_box (cs := #[.int .i64 (X.p), vdX, vmX]) rfl ?_
  intro h0_0 e0_0 hb0_0 z0_0
  have := Ext.size e0_0
  have eB := e0_0
  have hfhb0_0 : Fresh h.size [h.size] := Fresh.one _
  have hlhb0_0 := one_lt (show h.size < h0_0.size by omega)
  try simp -implicitDefEqProofs (disch := first | decide | assumption | omega) only [go_sem, RdS.len hdX sl22, RdS.idx hdX sl22, R1.intB hdX (Ext.pres eB), RdS.cells hdX, RdS.len hmX sl23, RdS.idx hmX sl23, RdS.cellB hmX (Ext.pres eB), RdS.cells hmX, RdS.len hdY sl22, RdS.idx hdY sl22, R1.intB hdY (Ext.pres eB), RdS.cells hdY, RdS.len hmY sl23, RdS.idx hmY sl23, RdS.cellB hmY (Ext.pres eB), RdS.cells hmY, BoxAt.cell hb0_0, wrap_id]
  refine op_box (cs := #[.int .i64 (Y.p), vdY, vmY]) rfl ?_
  intro h0_1 e0_1 hb0_1 z0_1
  replace hb0_0 := BoxAt.ext hb0_0 e0_1
  have := Ext.size e0_1
  replace eB := Ext.trans eB e0_1
  have hfhb0_1 : Fresh h0_0.size [h0_0.size] := Fresh.one _
  have hlhb0_1 := one_lt (show h0_0.size < h0_1.size by omega)
  try simp -implicitDefEqProofs (disch := first | decide | assumption | omega) only [go_sem, RdS.len hdX sl22, RdS.idx hdX sl22, R1.intB hdX (Ext.pres eB), RdS.cells hdX, RdS.len hmX sl23, RdS.idx hmX sl23, RdS.cellB hmX (Ext.pres eB), RdS.cells hmX, RdS.len hdY sl22, RdS.idx hdY sl22, R1.intB hdY (Ext.pres eB), RdS.cells hdY, RdS.len hmY sl23, RdS.idx hmY sl23, RdS.cellB hmY (Ext.pres eB), RdS.cells hmY, BoxAt.cell hb0_0, BoxAt.cell hb0_1, wrap_id]
  refine hK _ _ ?_
  clear hK K
  refine den_seq ?_
  refine den_block ?_
  refine den_seq ?_
  refine den_merge [(5, .bool (((!((isC X))) || (!((isC Y))))))] [2, 3] (fun H => Ext h0_1 H) ?_ ?_
    -- a way
  · refine den_region TTok ?_
    intro K hK
    simp -implicitDefEqProofs (disch := first | decide | assumption | (simp (disch := decide) only [slotOf_zero, slotOf_succ, Option.map_some, puts_same, puts_ne, gv_bool, gv_undef, tt, tf, ft, ff, eq_self, if_true, if_false, Bool.false_eq_true, Bool.not_true, Bool.not_false]; done) | omega) only [go_sem, ld30, RdS.len hdX sl22, RdS.idx hdX sl22, R1.intB hdX (Ext.pres eB), RdS.cells hdX, RdS.len hmX sl23, RdS.idx hmX sl23, RdS.cellB hmX (Ext.pres eB), RdS.cells hmX, RdS.len hdY sl22, RdS.idx hdY sl22, R1.intB hdY (Ext.pres eB), RdS.cells hdY, RdS.len hmY sl23, RdS.idx hmY sl23, RdS.cellB hmY (Ext.pres eB), RdS.cells hmY, BoxAt.cell hb0_0, BoxAt.cell hb0_1, wrap_id]
    try simp -implicitDefEqProofs (disch := first | decide | assumption | omega) only [go_sem, RdS.len hdX sl22, RdS.idx hdX sl22, R1.intB hdX (Ext.pres eB), RdS.cells hdX, RdS.len hmX sl23, RdS.idx hmX sl23, RdS.cellB hmX (Ext.pres eB), RdS.cells hmX, RdS.len hdY sl22, RdS.idx hdY sl22, R1.intB hdY (Ext.pres eB), RdS.cells hdY, RdS.len hmY sl23, RdS.idx hmY sl23, RdS.cellB hmY (Ext.pres eB), RdS.cells hmY, BoxAt.cell hb0_0, BoxAt.cell hb0_1, wrap_id]
    refine CallA.mono (sIs_ok _ X _ ⟨_, _, rfl, (RdS.pres hdX (Ext.pres eB)), (RdS.pres hmX (Ext.pres eB))⟩) ?_
    intro v_ h1_1
    rintro ⟨rfl, e1_1⟩
    replace hb0_0 := BoxAt.ext hb0_0 e1_1
    replace hb0_1 := BoxAt.ext hb0_1 e1_1
    have := Ext.size e1_1
    replace eB := Ext.trans eB e1_1
    try simp -implicitDefEqProofs (disch := first | decide | assumption | (simp (disch := decide) only [slotOf_zero, slotOf_succ, Option.map_some, puts_same, puts_ne, gv_bool, gv_undef, tt, tf, ft, ff, eq_self, if_true, if_false, Bool.false_eq_true, Bool.not_true, Bool.not_false]; done) | omega) only [go_sem, RdS.len hdX sl22, RdS.idx hdX sl22, R1.intB hdX (Ext.pres eB), RdS.cells hdX, RdS.len hmX sl23, RdS.idx hmX sl23, RdS.cellB hmX (Ext.pres eB), RdS.cells hmX, RdS.len hdY sl22, RdS.idx hdY sl22, R1.intB hdY (Ext.pres eB), RdS.cells hdY, RdS.len hmY sl23, RdS.idx hmY sl23, RdS.cellB hmY (Ext.pres eB), RdS.cells hmY, BoxAt.cell hb0_0, BoxAt.cell hb0_1, wrap_id]
    refine opsP_F (by simp (disch := decide) only [slotOf_zero, slotOf_succ, Option.map_some, puts_same, puts_ne, gv_bool, gv_undef, tt, tf, ft, ff, eq_self, if_true, if_false, Bool.false_eq_true, Bool.not_true, Bool.not_false]; rfl) (fun g1 => ?_) (fun g1 => ?_)
    · try simp -implicitDefEqProofs (disch := first | decide | assumption | (simp (disch := decide) only [slotOf_zero, slotOf_succ, Option.map_some, puts_same, puts_ne, gv_bool, gv_undef, tt, tf, ft, ff, eq_self, if_true, if_false, Bool.false_eq_true, Bool.not_true, Bool.not_false, g1]; done) | omega) only [go_sem, ld30, RdS.len hdX sl22, RdS.idx hdX sl22, R1.intB hdX (Ext.pres eB), RdS.cells hdX, RdS.len hmX sl23, RdS.idx hmX sl23, RdS.cellB hmX (Ext.pres eB), RdS.cells hmX, RdS.len hdY sl22, RdS.idx hdY sl22, R1.intB hdY (Ext.pres eB), RdS.cells hdY, RdS.len hmY sl23, RdS.idx hmY sl23, RdS.cellB hmY (Ext.pres eB), RdS.cells hmY, BoxAt.cell hb0_0, BoxAt.cell hb0_1, wrap_id, g1, eq_self, if_true, if_false, Bool.false_eq_true]
      try simp -implicitDefEqProofs (disch := first | decide | assumption | omega) only [go_sem, RdS.len hdX sl22, RdS.idx hdX sl22, R1.intB hdX (Ext.pres eB), RdS.cells hdX, RdS.len hmX sl23, RdS.idx hmX sl23, RdS.cellB hmX (Ext.pres eB), RdS.cells hmX, RdS.len hdY sl22, RdS.idx hdY sl22, R1.intB hdY (Ext.pres eB), RdS.cells hdY, RdS.len hmY sl23, RdS.idx hmY sl23, RdS.cellB hmY (Ext.pres eB), RdS.cells hmY, BoxAt.cell hb0_0, BoxAt.cell hb0_1, wrap_id]
      refine CallA.mono (sIs_ok _ Y _ ⟨_, _, rfl, (RdS.pres hdY (Ext.pres eB)), (RdS.pres hmY (Ext.pres eB))⟩) ?_
      intro v_ h1_5
      rintro ⟨rfl, e1_5⟩
      replace hb0_0 := BoxAt.ext hb0_0 e1_5
      replace hb0_1 := BoxAt.ext hb0_1 e1_5
      have := Ext.size e1_5
      replace eB := Ext.trans eB e1_5
      try simp -implicitDefEqProofs (disch := first | decide | assumption | (simp (disch := decide) only [slotOf_zero, slotOf_succ, Option.map_some, puts_same, puts_ne, gv_bool, gv_undef, tt, tf, ft, ff, eq_self, if_true, if_false, Bool.false_eq_true, Bool.not_true, Bool.not_false, g1]; done) | omega) only [go_sem, RdS.len hdX sl22, RdS.idx hdX sl22, R1.intB hdX (Ext.pres eB), RdS.cells hdX, RdS.len hmX sl23, RdS.idx hmX sl23, RdS.cellB hmX (Ext.pres eB), RdS.cells hmX, RdS.len hdY sl22, RdS.idx hdY sl22, R1.intB hdY (Ext.pres eB), RdS.cells hdY, RdS.len hmY sl23, RdS.idx hmY sl23, RdS.cellB hmY (Ext.pres eB), RdS.cells hmY, BoxAt.cell hb0_0, BoxAt.cell hb0_1, wrap_id, g1, eq_self, if_true, if_false, Bool.false_eq_true]
      refine hK _ _ ?_
      clear hK K
      refine den_stop ?_
      refine ⟨?_, (Ext.trans e1_1 e1_5)⟩
      first | (simp (disch := decide) only [go_sem, g1, eq_self, Bool.true_and, Bool.and_true, Bool.false_and, Bool.and_false, Bool.true_or, Bool.or_true, Bool.false_or, Bool.or_false, if_true, if_false, Bool.false_eq_true]; done) | simp [HasL, sel, puts_at, g1]
    · try simp -implicitDefEqProofs (disch := first | decide | assumption | (simp (disch := decide) only [slotOf_zero, slotOf_succ, Option.map_some, puts_same, puts_ne, gv_bool, gv_undef, tt, tf, ft, ff, eq_self, if_true, if_false, Bool.false_eq_true, Bool.not_true, Bool.not_false, g1]; done) | omega) only [go_sem, RdS.len hdX sl22, RdS.idx hdX sl22, R1.intB hdX (Ext.pres eB), RdS.cells hdX, RdS.len hmX sl23, RdS.idx hmX sl23, RdS.cellB hmX (Ext.pres eB), RdS.cells hmX, RdS.len hdY sl22, RdS.idx hdY sl22, R1.intB hdY (Ext.pres eB), RdS.cells hdY, RdS.len hmY sl23, RdS.idx hmY sl23, RdS.cellB hmY (Ext.pres eB), RdS.cells hmY, BoxAt.cell hb0_0, BoxAt.cell hb0_1, wrap_id, g1, eq_self, if_true, if_false, Bool.false_eq_true]
      refine hK _ _ ?_
      clear hK K
      refine den_stop ?_
      refine ⟨?_, e1_1⟩
      first | (simp (disch := decide) only [go_sem, g1, eq_self, Bool.true_and, Bool.and_true, Bool.false_and, Bool.and_false, Bool.true_or, Bool.or_true, Bool.false_or, Bool.or_false, if_true, if_false, Bool.false_eq_true]; done) | simp [HasL, sel, puts_at, g1]
  intro en2 h3 e4
  replace hb0_0 := BoxAt.ext hb0_0 e4
  replace hb0_1 := BoxAt.ext hb0_1 e4
  have := Ext.size e4
  replace eB := Ext.trans eB e4
  simp (disch := decide) only [go_sem]
  refine den_cond rfl (fun c0 => ?_) (fun c0 => ?_)
  · try simp only [decide_eq_true_eq, decide_eq_false_iff_not, beq_iff_eq, beq_eq_false_iff_ne, bne_iff_ne, ne_eq, Bool.not_eq_true', Bool.not_eq_false', Bool.and_eq_true, Bool.or_eq_true, bne_eq_false_iff_eq, Bool.or_eq_false_iff, Bool.and_eq_false_iff] at c0
    refine den_seq ?_
    refine den_region TTok ?_
    intro K hK
    simp -implicitDefEqProofs (disch := first | decide | assumption | omega) only [go_sem, RdS.len hdX sl22, RdS.idx hdX sl22, R1.intB hdX (Ext.pres eB), RdS.cells hdX, RdS.len hmX sl23, RdS.idx hmX sl23, RdS.cellB hmX (Ext.pres eB), RdS.cells hmX, RdS.len hdY sl22, RdS.idx hdY sl22, R1.intB hdY (Ext.pres eB), RdS.cells hdY, RdS.len hmY sl23, RdS.idx hmY sl23, RdS.cellB hmY (Ext.pres eB), RdS.cells hmY, wrap_id]
    refine hK _ _ ?_
    clear hK K
    refine den_ret ?_
    simp (disch := decide) only [resP_1, puts_same, puts_ne]
    exact ⟨vint (by rw [pairC, if_neg (by rintro ⟨h1, h2⟩; rw [h1, h2] at c0; simp at c0)]), eB⟩
  · try simp only [decide_eq_true_eq, decide_eq_false_iff_not, beq_iff_eq, beq_eq_false_iff_ne, bne_iff_ne, ne_eq, Bool.not_eq_true', Bool.not_eq_false', Bool.and_eq_true, Bool.or_eq_true, bne_eq_false_iff_eq, Bool.or_eq_false_iff, Bool.and_eq_false_iff] at c0
    refine den_seq ?_
    refine den_mergeH [(14, .bool (((X.p != Y.p) || (((X.dims).length : Int) != ((Y.dims).length : Int)))))] [] ?_ ?_
      -- a way
    · refine den_region TTok ?_
      intro K hK
      simp -implicitDefEqProofs (disch := first | decide | assumption | (simp (disch := decide) only [slotOf_zero, slotOf_succ, Option.map_some, puts_same, puts_ne, gv_bool, gv_undef, tt, tf, ft, ff, eq_self, if_true, if_false, Bool.false_eq_true, Bool.not_true, Bool.not_false]; done) | omega) only [go_sem, fa30_0, ld2, RdS.len hdX sl22, RdS.idx hdX sl22, R1.intB hdX (Ext.pres eB), RdS.cells hdX, RdS.len hmX sl23, RdS.idx hmX sl23, RdS.cellB hmX (Ext.pres eB), RdS.cells hmX, RdS.len hdY sl22, RdS.idx hdY sl22, R1.intB hdY (Ext.pres eB), RdS.cells hdY, RdS.len hmY sl23, RdS.idx hmY sl23, RdS.cellB hmY (Ext.pres eB), RdS.cells hmY, BoxAt.cell hb0_0, BoxAt.cell hb0_1, wrap_id]
      refine opsP_F (by simp (disch := decide) only [slotOf_zero, slotOf_succ, Option.map_some, puts_same, puts_ne, gv_bool, gv_undef, tt, tf, ft, ff, eq_self, if_true, if_false, Bool.false_eq_true, Bool.not_true, Bool.not_false]; rfl) (fun g5 => ?_) (fun g5 => ?_)
      · try simp -implicitDefEqProofs (disch := first | decide | assumption | (simp (disch := decide) only [slotOf_zero, slotOf_succ, Option.map_some, puts_same, puts_ne, gv_bool, gv_undef, tt, tf, ft, ff, eq_self, if_true, if_false, Bool.false_eq_true, Bool.not_true, Bool.not_false, g5]; done) | omega) only [go_sem, fa30_1, ld22, RdS.len hdX sl22, RdS.idx hdX sl22, R1.intB hdX (Ext.pres eB), RdS.cells hdX, RdS.len hmX sl23, RdS.idx hmX sl23, RdS.cellB hmX (Ext.pres eB), RdS.cells hmX, RdS.len hdY sl22, RdS.idx hdY sl22, R1.intB hdY (Ext.pres eB), RdS.cells hdY, RdS.len hmY sl23, RdS.idx hmY sl23, RdS.cellB hmY (Ext.pres eB), RdS.cells hmY, BoxAt.cell hb0_0, BoxAt.cell hb0_1, wrap_id, g5, eq_self, if_true, if_false, Bool.false_eq_true]
        refine hK _ _ ?_
        clear hK K
        refine den_stop ?_
        refine ⟨?_, rfl⟩
        first | (simp (disch := decide) only [go_sem, g5, eq_self, Bool.true_and, Bool.and_true, Bool.false_and, Bool.and_false, Bool.true_or, Bool.or_true, Bool.false_or, Bool.or_false, if_true, if_false, Bool.false_eq_true]; done) | simp [HasL, sel, puts_at, g5]
      · try simp -implicitDefEqProofs (disch := first | decide | assumption | (simp (disch := decide) only [slotOf_zero, slotOf_succ, Option.map_some, puts_same, puts_ne, gv_bool, gv_undef, tt, tf, ft, ff, eq_self, if_true, if_false, Bool.false_eq_true, Bool.not_true, Bool.not_false, g5]; done) | omega) only [go_sem, RdS.len hdX sl22, RdS.idx hdX sl22, R1.intB hdX (Ext.pres eB), RdS.cells hdX, RdS.len hmX sl23, RdS.idx hmX sl23, RdS.cellB hmX (Ext.pres eB), RdS.cells hmX, RdS.len hdY sl22, RdS.idx hdY sl22, R1.intB hdY (Ext.pres eB), RdS.cells hdY, RdS.len hmY sl23, RdS.idx hmY sl23, RdS.cellB hmY (Ext.pres eB), RdS.cells hmY, BoxAt.cell hb0_0, BoxAt.cell hb0_1, wrap_id, g5, eq_self, if_true, if_false, Bool.false_eq_true]
        refine hK _ _ ?_
        clear hK K
        refine den_stop ?_
        refine ⟨?_, rfl⟩
        first | (simp (disch := decide) only [go_sem, g5, eq_self, Bool.true_and, Bool.and_true, Bool.false_and, Bool.and_false, Bool.true_or, Bool.or_true, Bool.false_or, Bool.or_false, if_true, if_false, Bool.false_eq_true]; done) | simp [HasL, sel, puts_at, g5]
    intro en6
    simp (disch := decide) only [go_sem]
    refine den_cond rfl (fun c1 => ?_) (fun c1 => ?_)
    · try simp only [decide_eq_true_eq, decide_eq_false_iff_not, beq_iff_eq, beq_eq_false_iff_ne, bne_iff_ne, ne_eq, Bool.not_eq_true', Bool.not_eq_false', Bool.and_eq_true, Bool.or_eq_true, bne_eq_false_iff_eq, Bool.or_eq_false_iff, Bool.and_eq_false_iff] at c1
      refine den_seq ?_
      refine den_region TTok ?_
      intro K hK
      simp -implicitDefEqProofs (disch := first | decide | assumption | omega) only [go_sem, RdS.len hdX sl22, RdS.idx hdX sl22, R1.intB hdX (Ext.pres eB), RdS.cells hdX, RdS.len hmX sl23, RdS.idx hmX sl23, RdS.cellB hmX (Ext.pres eB), RdS.cells hmX, RdS.len hdY sl22, RdS.idx hdY sl22, R1.intB hdY (Ext.pres eB), RdS.cells hdY, RdS.len hmY sl23, RdS.idx hmY sl23, RdS.cellB hmY (Ext.pres eB), RdS.cells hmY, wrap_id]
      refine hK _ _ ?_
      clear hK K
      refine den_ret ?_
      simp (disch := decide) only [resP_1, puts_same, puts_ne]
      exact ⟨vint (by rw [pairC, if_pos (by simpa using c0), if_neg (by intro h; simp [h.1, h.2] at c1)]), eB⟩
    · try simp only [decide_eq_true_eq, decide_eq_false_iff_not, beq_iff_eq, beq_eq_false_iff_ne, bne_iff_ne, ne_eq, Bool.not_eq_true', Bool.not_eq_false', Bool.and_eq_true, Bool.or_eq_true, bne_eq_false_iff_eq, Bool.or_eq_false_iff, Bool.and_eq_false_iff] at c1
      refine den_skip ?_
      refine den_blk ?_
      refine den_seq ?_
      refine den_region TTok ?_
      intro K hK
      simp -implicitDefEqProofs (disch := first | decide | assumption | omega) only [go_sem, RdS.len hdX sl22, RdS.idx hdX sl22, R1.intB hdX (Ext.pres eB), RdS.cells hdX, RdS.len hmX sl23, RdS.idx hmX sl23, RdS.cellB hmX (Ext.pres eB), RdS.cells hmX, RdS.len hdY sl22, RdS.idx hdY sl22, R1.intB hdY (Ext.pres eB), RdS.cells hdY, RdS.len hmY sl23, RdS.idx hmY sl23, RdS.cellB hmY (Ext.pres eB), RdS.cells hmY, wrap_id]
      refine hK _ _ ?_
      clear hK K
      refine den_ret ?_
      simp (disch := decide) only [resP_1, puts_same, puts_ne]
      exact ⟨vint (by rw [pairC, if_pos (by simpa using c0), if_pos ⟨c1.1, by have := c1.2; omega⟩]), eB⟩

set_option maxRecDepth 100000 in
theorem pairL_ok (v : Value) (L : List Cx) (h : Heap) (hv : RdA 3 RC h v L) : CallA Try.prog 86 #[v] h fun v' h' => v' = .int .i64 (pairL L) ∧ Ext h h' := by
  have hle := RdA.le hv
  refine callA_intro TTok (args := [_]) Try.func86 (by kernel_rfl) rfl 42 rfl (by simp) [.tmp 2] rfl ?_
  simp only [idxs, Nat.reduceAdd]
  refine den_seq ?_
  refine den_region TTok ?_
  intro K hK
  simp -implicitDefEqProofs (disch := first | decide | assumption | omega) only [go_sem, RdA.len hv slC, RdA.idx hv slC, wrap_id, Int.toNat_zero]
  refine hK _ _ ?_
  clear hK K
  refine den_seq ?_
  refine den_seq ?_
  refine den_region TTok ?_
  intro K hK
  simp -implicitDefEqProofs (disch := first | decide | assumption | omega) only [go_sem, RdA.len hv slC, RdA.idx hv slC, wrap_id, Int.toNat_zero]
  refine hK _ _ ?_
  clear hK K
  refine den_block ?_
  refine den_sel [9, 0, 7, 8] ?_
  intro env_1
  simp only [go_sem]
  refine den_loopS (σ := Nat) (fun s => [(9, .int .i64 (s : Int))]) (fun s H => Ext h H ∧ s ≤ L.length ∧ (L.take s).all isC = true) (fun s => L.length - s) 0 ?_ ?_
  · exact ⟨Ext.refl _, by omega, by simp⟩
  · rintro k h4 ee3 ⟨eB, hk, hz⟩
    simp only [List.cons_append, List.nil_append]
    have := Ext.size eB
    refine den_seq ?_
    refine den_region TTok ?_
    intro K hK
    simp -implicitDefEqProofs (disch := first | decide | assumption | omega) only [go_sem, RdA.len hv slC, RdA.idx hv slC, wrap_id, Int.toNat_zero]
    refine hK _ _ ?_
    clear hK K
    refine den_seq ?_
    refine den_cond rfl (fun c0 => ?_) (fun c0 => ?_)
    · try simp only [decide_eq_true_eq, decide_eq_false_iff_not, beq_iff_eq, beq_eq_false_iff_ne, bne_iff_ne, ne_eq, Bool.not_eq_true', Bool.not_eq_false', Bool.and_eq_true, Bool.or_eq_true, bne_eq_false_iff_eq, Bool.or_eq_false_iff, Bool.and_eq_false_iff] at c0
      refine den_skip ?_
      refine den_seq ?_
      refine den_block ?_
      refine den_seq ?_
      obtain ⟨vda, vma, hp0a, hp1a, hp2a, hda, hma⟩ := RdA.at3 hv k (by omega)
      refine den_region TTok ?_
      intro K hK
      simp -implicitDefEqProofs (disch := first | decide | assumption | omega) only [go_sem, ld30, RdA.len hv slC, RdA.idx hv slC, wrap_id, Int.toNat_zero, (Ext.pres eB) _ _ hp0a, (Ext.pres eB) _ _ hp1a, (Ext.pres eB) _ _ hp2a]
      refine op_alloc (cs := #[.int .i64 0, .slice none 0 0, .slice none 0 0]) (by kernel_rfl) ?_
      intro h3_2 e3_2 hb3_2 z3_2
      have := Ext.size e3_2
      replace eB := Ext.trans eB e3_2
      try simp -implicitDefEqProofs (disch := first | decide | assumption | omega) only [go_sem, RdA.len hv slC, RdA.idx hv slC, BoxAt.cell hb3_2, wrap_id, Int.toNat_zero, (Ext.pres eB) _ _ hp0a, (Ext.pres eB) _ _ hp1a, (Ext.pres eB) _ _ hp2a]
      refine op_storeB (cs' := #[.int .i64 (((L.getD k default).p)), vda, vma]) st30 hb3_2 rfl rfl rfl (by simp) (allOne_mem (l := [.int .i64 (((L.getD k default).p)), vda, vma]) ⟨rfl, (RdS.one hda), (RdS.one hma), trivial⟩) rfl ?_
      intro h3_3 hb3_2 c3_3
      have := c3_3.size
      replace eB := Ext.then eB c3_3 (fun b hb => by simp at hb; omega)
      try simp -implicitDefEqProofs (disch := first | decide | assumption | omega) only [go_sem, RdA.len hv slC, RdA.idx hv slC, BoxAt.cell hb3_2, wrap_id, Int.toNat_zero, (Ext.pres eB) _ _ hp0a, (Ext.pres eB) _ _ hp1a, (Ext.pres eB) _ _ hp2a]
      refine hK _ _ ?_
      clear hK K
      refine den_seq ?_
      refine den_region TTok ?_
      intro K hK
      simp -implicitDefEqProofs (disch := first | decide | assumption | omega) only [go_sem, ld30, RdA.len hv slC, RdA.idx hv slC, BoxAt.cell hb3_2, wrap_id, Int.toNat_zero]
      try simp -implicitDefEqProofs (disch := first | decide | assumption | omega) only [go_sem, RdA.len hv slC, RdA.idx hv slC, BoxAt.cell hb3_2, wrap_id, Int.toNat_zero]
      refine CallA.mono (iIs_ok _ (L.getD k default) _ ⟨_, _, rfl, (RdS.pres hda (Ext.pres eB)), (RdS.pres hma (Ext.pres eB))⟩) ?_
      intro v_ h4_1
      rintro ⟨rfl, e4_1⟩
      replace hb3_2 := BoxAt.ext hb3_2 e4_1
      have := Ext.size e4_1
      replace eB := Ext.trans eB e4_1
      try simp -implicitDefEqProofs (disch := first | decide | assumption | omega) only [go_sem, RdA.len hv slC, RdA.idx hv slC, BoxAt.cell hb3_2, wrap_id, Int.toNat_zero]
      refine hK _ _ ?_
      clear hK K
      refine den_cond rfl (fun c1 => ?_) (fun c1 => ?_)
      · try simp only [decide_eq_true_eq, decide_eq_false_iff_not, beq_iff_eq, beq_eq_false_iff_ne, bne_iff_ne, ne_eq, Bool.not_eq_true', Bool.not_eq_false', Bool.and_eq_true, Bool.or_eq_true, bne_eq_false_iff_eq, Bool.or_eq_false_iff, Bool.and_eq_false_iff] at c1
        refine den_seq ?_
        refine den_region TTok ?_
        intro K hK
        simp -implicitDefEqProofs (disch := first | decide | assumption | omega) only [go_sem, RdA.len hv slC, RdA.idx hv slC, BoxAt.cell hb3_2, wrap_id, Int.toNat_zero]
        refine hK _ _ ?_
        clear hK K
        refine den_ret ?_
        simp (disch := decide) only [resP_1, puts_same, puts_ne]
        exact ⟨vint (by rw [pairL, all_stop (d := default) (by omega) c1]; rfl), eB⟩
      · try simp only [decide_eq_true_eq, decide_eq_false_iff_not, beq_iff_eq, beq_eq_false_iff_ne, bne_iff_ne, ne_eq, Bool.not_eq_true', Bool.not_eq_false', Bool.and_eq_true, Bool.or_eq_true, bne_eq_false_iff_eq, Bool.or_eq_false_iff, Bool.and_eq_false_iff] at c1
        refine den_skip ?_
        refine den_blk ?_
        refine den_region TTok ?_
        intro K hK
        simp -implicitDefEqProofs (disch := first | decide | assumption | omega) only [go_sem, RdA.len hv slC, RdA.idx hv slC, BoxAt.cell hb3_2, wrap_id, Int.toNat_zero]
        refine hK _ _ ?_
        clear hK K
        refine den_stop ?_
        exact ⟨k + 1, by simp [HasL, puts_at], ⟨eB, by omega, all_step (d := default) (by omega) hz c1⟩, by omega⟩
    · try simp only [decide_eq_true_eq, decide_eq_false_iff_not, beq_iff_eq, beq_eq_false_iff_ne, bne_iff_ne, ne_eq, Bool.not_eq_true', Bool.not_eq_false', Bool.and_eq_true, Bool.or_eq_true, bne_eq_false_iff_eq, Bool.or_eq_false_iff, Bool.and_eq_false_iff] at c0
      refine den_exit ?_
      refine denX_code ?_
      refine denX_stop ?_
      refine denX_hit ?_
      refine den_seq ?_
      refine den_seq ?_
      refine den_region TTok ?_
      intro K hK
      simp -implicitDefEqProofs (disch := first | decide | assumption | omega) only [go_sem, RdA.len hv slC, RdA.idx hv slC, wrap_id, Int.toNat_zero]
      refine hK _ _ ?_
      clear hK K
      refine den_block ?_
      refine den_sel [19, 0, 17, 18] ?_
      intro env_5
      simp only [go_sem]
      refine den_loopS (σ := Nat) (fun s => [(19, .int .i64 (s : Int))]) (fun s H => Ext h H ∧ s ≤ L.length ∧ (L.take s).all (fun X => X.p == (L.getD 0 default).p && X.dims.length == (L.getD 0 default).dims.length) = true) (fun s => L.length - s) 0 ?_ ?_
      · exact ⟨eB, by omega, by simp⟩
      · rintro k h8 ee7 ⟨eB, hk, hz2⟩
        simp only [List.cons_append, List.nil_append]
        have := Ext.size eB
        refine den_seq ?_
        refine den_region TTok ?_
        intro K hK
        simp -implicitDefEqProofs (disch := first | decide | assumption | omega) only [go_sem, RdA.len hv slC, RdA.idx hv slC, wrap_id, Int.toNat_zero]
        refine hK _ _ ?_
        clear hK K
        refine den_seq ?_
        refine den_cond rfl (fun c2 => ?_) (fun c2 => ?_)
        · try simp only [decide_eq_true_eq, decide_eq_false_iff_not, beq_iff_eq, beq_eq_false_iff_ne, bne_iff_ne, ne_eq, Bool.not_eq_true', Bool.not_eq_false', Bool.and_eq_true, Bool.or_eq_true, bne_eq_false_iff_eq, Bool.or_eq_false_iff, Bool.and_eq_false_iff] at c2
          refine den_skip ?_
          refine den_seq ?_
          refine den_block ?_
          refine den_seq ?_
          obtain ⟨vdb, vmb, hp0b, hp1b, hp2b, hdb, hmb⟩ := RdA.at3 hv k (by omega)
          obtain ⟨vdz, vmz, hp0z, hp1z, hp2z, hdz, hmz⟩ := RdA.at3 hv 0 (by omega)
          have hleb := RdS.le hdb
          have hlez := RdS.le hdz
          refine den_region TTok ?_
          intro K hK
          simp -implicitDefEqProofs (disch := first | decide | assumption | omega) only [go_sem, ld30, RdA.len hv slC, RdA.idx hv slC, wrap_id, Int.toNat_zero, (Ext.pres eB) _ _ hp0b, (Ext.pres eB) _ _ hp1b, (Ext.pres eB) _ _ hp2b]
          refine op_alloc (cs := #[.int .i64 0, .slice none 0 0, .slice none 0 0]) (by kernel_rfl) ?_
          intro h9_2 e9_2 hb9_2 z9_2
          have := Ext.size e9_2
          replace eB := Ext.trans eB e9_2
          try simp -implicitDefEqProofs (disch := first | decide | assumption | omega) only [go_sem, RdA.len hv slC, RdA.idx hv slC, BoxAt.cell hb9_2, wrap_id, Int.toNat_zero, (Ext.pres eB) _ _ hp0b, (Ext.pres eB) _ _ hp1b, (Ext.pres eB) _ _ hp2b]
          refine op_storeB (cs' := #[.int .i64 (((L.getD k default).p)), vdb, vmb]) st30 hb9_2 rfl rfl rfl (by simp) (allOne_mem (l := [.int .i64 (((L.getD k default).p)), vdb, vmb]) ⟨rfl, (RdS.one hdb), (RdS.one hmb), trivial⟩) rfl ?_
          intro h9_3 hb9_2 c9_3
          have := c9_3.size
          replace eB := Ext.then eB c9_3 (fun b hb => by simp at hb; omega)
          try simp -implicitDefEqProofs (disch := first | decide | assumption | omega) only [go_sem, RdA.len hv slC, RdA.idx hv slC, BoxAt.cell hb9_2, wrap_id, Int.toNat_zero, (Ext.pres eB) _ _ hp0b, (Ext.pres eB) _ _ hp1b, (Ext.pres eB) _ _ hp2b]
          refine hK _ _ ?_
          clear hK K
          refine den_seq ?_
          refine den_mergeH [(40, .bool (((((L.getD k default).p) != ((L.getD 0 default).p)) || ((((L.getD k default).dims).length : Int) != (((L.getD 0 default).dims).length : Int)))))] [0, 17, 18, 19] ?_ ?_
            -- a way
          · refine den_draw TTok mixed [] [(0, true), (1, true), (2, true), (3, true), (4, true), (5, true), (6, true), (7, true), (8, true), (9, true), (10, true), (11, true), (12, true), (13, true), (14, true), (15, true), (16, true), (17, true)] (by kernel_rfl) ?_
            intro K hK
            simp -implicitDefEqProofs (disch := first | decide | assumption | (simp (disch := decide) only [slotOf_zero, slotOf_succ, Option.map_some, puts_same, puts_ne, gv_bool, gv_undef, tt, tf, ft, ff, eq_self, if_true, if_false, Bool.false_eq_true, Bool.not_true, Bool.not_false]; done) | omega) only [go_sem, fa30_0, ld2, RdA.len hv slC, RdA.idx hv slC, BoxAt.cell hb9_2, wrap_id, Int.toNat_zero, (Ext.pres eB) _ _ hp0z, (Ext.pres eB) _ _ hp1z, (Ext.pres eB) _ _ hp2z, RdS.len hdb sl22, RdS.len hdz sl22]
            refine plG_F (by simp (disch := decide) only [slotOf_zero, slotOf_succ, Option.map_some, puts_same, puts_ne, gv_bool, gv_undef, tt, tf, ft, ff, eq_self, if_true, if_false, Bool.false_eq_true, Bool.not_true, Bool.not_false]; rfl) (fun g9 => ?_) (fun g9 => ?_)
            · try simp -implicitDefEqProofs (disch := first | decide | assumption | (simp (disch := decide) only [slotOf_zero, slotOf_succ, Option.map_some, puts_same, puts_ne, gv_bool, gv_undef, tt, tf, ft, ff, eq_self, if_true, if_false, Bool.false_eq_true, Bool.not_true, Bool.not_false, g9]; done) | omega) only [go_sem, fa30_1, ld22, RdA.len hv slC, RdA.idx hv slC, BoxAt.cell hb9_2, wrap_id, Int.toNat_zero, g9, eq_self, if_true, if_false, Bool.false_eq_true, (Ext.pres eB) _ _ hp0z, (Ext.pres eB) _ _ hp1z, (Ext.pres eB) _ _ hp2z, RdS.len hdb sl22, RdS.len hdz sl22]
              refine hK _ _ ?_
              clear hK K
              refine den_stop ?_
              refine ⟨?_, rfl⟩
              first | (simp (disch := decide) only [go_sem, g9, eq_self, Bool.true_and, Bool.and_true, Bool.false_and, Bool.and_false, Bool.true_or, Bool.or_true, Bool.false_or, Bool.or_false, if_true, if_false, Bool.false_eq_true]; done) | simp [HasL, sel, puts_at, g9]
            · try simp -implicitDefEqProofs (disch := first | decide | assumption | (simp (disch := decide) only [slotOf_zero, slotOf_succ, Option.map_some, puts_same, puts_ne, gv_bool, gv_undef, tt, tf, ft, ff, eq_self, if_true, if_false, Bool.false_eq_true, Bool.not_true, Bool.not_false, g9]; done) | omega) only [go_sem, RdA.len hv slC, RdA.idx hv slC, BoxAt.cell hb9_2, wrap_id, Int.toNat_zero, g9, eq_self, if_true, if_false, Bool.false_eq_true, (Ext.pres eB) _ _ hp0z, (Ext.pres eB) _ _ hp1z, (Ext.pres eB) _ _ hp2z, RdS.len hdb sl22, RdS.len hdz sl22]
              refine hK _ _ ?_
              clear hK K
              refine den_stop ?_
              refine ⟨?_, rfl⟩
              first | (simp (disch := decide) only [go_sem, g9, eq_self, Bool.true_and, Bool.and_true, Bool.false_and, Bool.and_false, Bool.true_or, Bool.or_true, Bool.false_or, Bool.or_false, if_true, if_false, Bool.false_eq_true]; done) | simp [HasL, sel, puts_at, g9]
          intro en10
          simp (disch := decide) only [go_sem]
          refine den_cond rfl (fun c3 => ?_) (fun c3 => ?_)
          · try simp only [decide_eq_true_eq, decide_eq_false_iff_not, beq_iff_eq, beq_eq_false_iff_ne, bne_iff_ne, ne_eq, Bool.not_eq_true', Bool.not_eq_false', Bool.and_eq_true, Bool.or_eq_true, bne_eq_false_iff_eq, Bool.or_eq_false_iff, Bool.and_eq_false_iff] at c3
            refine den_seq ?_
            refine den_region TTok ?_
            intro K hK
            simp -implicitDefEqProofs (disch := first | decide | assumption | omega) only [go_sem, RdA.len hv slC, RdA.idx hv slC, BoxAt.cell hb9_2, wrap_id, Int.toNat_zero]
            refine hK _ _ ?_
            clear hK K
            refine den_ret ?_
            simp (disch := decide) only [resP_1, puts_same, puts_ne]
            exact ⟨vint (by rw [pairL, if_pos (all_end (by omega) hz), all_stop (f := fun X : Cx => X.p == (L.getD 0 default).p && X.dims.length == (L.getD 0 default).dims.length) (d := default) (k := k) (by omega) (Bool.and_eq_false_iff.2 (c3.elim (fun h => .inl (beq_eq_false_iff_ne.2 h)) (fun h => .inr (beq_eq_false_iff_ne.2 (by omega)))))]; rfl), eB⟩
          · try simp only [decide_eq_true_eq, decide_eq_false_iff_not, beq_iff_eq, beq_eq_false_iff_ne, bne_iff_ne, ne_eq, Bool.not_eq_true', Bool.not_eq_false', Bool.and_eq_true, Bool.or_eq_true, bne_eq_false_iff_eq, Bool.or_eq_false_iff, Bool.and_eq_false_iff] at c3
            refine den_skip ?_
            refine den_blk ?_
            refine den_region TTok ?_
            intro K hK
            simp -implicitDefEqProofs (disch := first | decide | assumption | omega) only [go_sem, RdA.len hv slC, RdA.idx hv slC, BoxAt.cell hb9_2, wrap_id, Int.toNat_zero]
            refine hK _ _ ?_
            clear hK K
            refine den_stop ?_
            exact ⟨k + 1, by simp [HasL, puts_at], ⟨eB, by omega, all_step (d := default) (by omega) hz2 (Bool.and_eq_true_iff.2 ⟨beq_iff_eq.2 c3.1, beq_iff_eq.2 (by have := c3.2; omega)⟩)⟩, by omega⟩
        · try simp only [decide_eq_true_eq, decide_eq_false_iff_not, beq_iff_eq, beq_eq_false_iff_ne, bne_iff_ne, ne_eq, Bool.not_eq_true', Bool.not_eq_false', Bool.and_eq_true, Bool.or_eq_true, bne_eq_false_iff_eq, Bool.or_eq_false_iff, Bool.and_eq_false_iff] at c2
          refine den_exit ?_
          refine denX_code ?_
          refine denX_stop ?_
          refine denX_hit ?_
          refine den_seq ?_
          refine den_region TTok ?_
          intro K hK
          simp -implicitDefEqProofs (disch := first | decide | assumption | omega) only [go_sem, RdA.len hv slC, RdA.idx hv slC, wrap_id, Int.toNat_zero]
          refine hK _ _ ?_
          clear hK K
          refine den_ret ?_
          simp (disch := decide) only [resP_1, puts_same, puts_ne]
          exact ⟨vint (by rw [pairL, if_pos (all_end (by omega) hz), if_pos (all_end (by omega) hz2)]), eB⟩

theorem pair2_ok (v : Value) (X Y : Cx) (h : Heap) (hv : RdA 3 RC h v [X, Y]) : CallA Try.prog 86 #[v] h fun v' h' => v' = .int .i64 (pairC X Y) ∧ Ext h h' := by
  rw [← pairL_two]
  exact pairL_ok v _ h hv
end Go.Proofs.Ytffggocjkhcgeaa

namespace Go.Proofs.Ytffggocjkhcgeaa
open Go
structure PvOk (X Y : Cx) (i : Int) (u : List Int) (j : Int) (v : List Int) : Prop where
  cX : IsC X
  cY : IsC Y
  p : 0 < X.p ∧ X.p ≤ 7
  ci : 0 ≤ i ∧ i ≤ (X.dims.length : Int) - 1
  cj : 0 ≤ j ∧ j ≤ (Y.dims.length : Int) - 1
  lX : X.dims.length ≤ 6
  lY : Y.dims.length ≤ 6
  cu : (u.length : Int) = dimP X i ∧ Bnd X.p u
  cv : (v.length : Int) = dimP Y j ∧ Bnd X.p v
end Go.Proofs.Ytffggocjkhcgeaa

namespace Go.Proofs.Ytffggocjkhcgeaa
open Go
theorem bs2F (h : Heap) (A B : Option Addr) (n c m d : Nat) : buildSliceV TT h 114 2 [(0, .slice A n c), (1, .slice B m d)] = some (.slice (some ⟨h.size, 0, none⟩) 2 2, h.push (.cells #[.slice A n c, .slice B m d] 23)) := by kernel_rfl
section
variable {P : Program} {n : Nat} {K : Env → Heap → Prop} {env : Env} {h : Heap} {d : Option Tmp} {ty : TypeId} {p : String} {a : Array Edge} {g : Option (Nat × Bool)}
set_option maxRecDepth 100000 in
theorem op_bs2F {x y : Operand} {f g' : List (List (List Int))} (hx : R3 h (ev env x) f) (hy : R3 h (ev env y) g') (hk : ∀ v' h', R4 h' v' [f, g'] → Ext h h' → outv n ⟨d, .buildSlice 114 2 #[(0, x), (1, y)], ty, p, a, g⟩ K env h' v') :
    opP P TT n ⟨d, .buildSlice 114 2 #[(0, x), (1, y)], ty, p, a, g⟩ K env h := by
  have hx' := hx
  obtain ⟨A, c, e1, _⟩ := hx'
  have hy' := hy
  obtain ⟨B, c2, e2, _⟩ := hy'
  rw [opP_buildSlice]
  have : (#[(0, x), (1, y)].map (fun (i, x) => (i, ev env x)) : Array (Nat × Value)).toList = [(0, .slice A f.length c), (1, .slice B g'.length c2)] := by simp [e1, e2]
  rw [this, bs2F, Bd_some]
  have ex := Ext.push h (.cells #[.slice A f.length c, .slice B g'.length c2] 23)
  have hb := BoxAt.new h #[.slice A f.length c, .slice B g'.length c2] 23
  refine hk _ _ ⟨some ⟨h.size, 0, none⟩, 2, rfl, .inl rfl, by simp, by omega, fun j hj => ?_⟩ ex
  have hj' : j = 0 ∨ j = 1 := by simp at hj; omega
  rcases hj' with rfl | rfl
  · exact ⟨.slice A f.length c, by simp only [sA, addr_add, hb.cell]; rfl, by rw [e1] at hx; exact hx.pres ex.pres⟩
  · exact ⟨.slice B g'.length c2, by simp only [sA, addr_add, hb.cell]; rfl, by rw [e2] at hy; exact hy.pres ex.pres⟩
end
/-- A statement as a truth value. -/
noncomputable def pdec (P : Prop) : Bool := @decide P (Classical.propDecidable P)
theorem pdec_t {P : Prop} : pdec P = true ↔ P := @decide_eq_true_iff _ (Classical.propDecidable P)
theorem pdec_f {P : Prop} : pdec P = false ↔ ¬ P := @decide_eq_false_iff_not _ (Classical.propDecidable P)
theorem pdec_no {P : Prop} (h : ¬ P) : false = pdec P := (pdec_f.2 h).symm
theorem pdec_yes {P : Prop} (h : P) : true = pdec P := (pdec_t.2 h).symm
def famAt (X Y : Cx) (f : List (List (List Int))) (s : Int) (n : Nat) : Bool := tableP X.p (f.getD n default) (X.dims.getD n 0) (dimP Y ((n : Int) + s))
structure IsFam (X Y : Cx) (f : List (List (List Int))) (s : Int) : Prop where
  len : f.length = X.dims.length
  rows : ∀ n, n < f.length → famAt X Y f s n = true
noncomputable def famP (X Y : Cx) (f : List (List (List Int))) (s : Int) : Bool := pdec (IsFam X Y f s)
theorem isRow_all {p n : Int} {r : List Int} (h : isRow p n r = true) : r.all (fun x => in3 x 0 (p - 1)) = true := by
  unfold isRow at h
  rw [Bool.and_eq_true] at h
  exact h.2
theorem famAt_iff {X Y : Cx} {f : List (List (List Int))} {s : Int} {n : Nat} : famAt X Y f s n = true ↔ ((f.getD n default).length : Int) = X.dims.getD n 0 ∧ (f.getD n default).all (isRow X.p (dimP Y ((n : Int) + s))) = true := by
  simp only [famAt, tableP, Bool.and_eq_true, decide_eq_true_eq]
theorem IsFam.at {X Y : Cx} {f : List (List (List Int))} {s : Int} (h : IsFam X Y f s) {n : Nat} (hn : n < f.length) : ((f.getD n default).length : Int) = X.dims.getD n 0 ∧ Tbl X.p (dimP Y ((n : Int) + s)) (f.getD n default) := tableP_iff.1 (h.rows n hn)
theorem IsFam.row {X Y : Cx} {f : List (List (List Int))} {s : Int} (h : IsFam X Y f s) {n i : Nat} (hn : n < f.length) (hi : i < (f.getD n default).length) : isRow X.p (dimP Y ((n : Int) + s)) ((f.getD n default).getD i default) = true := all_at (d := default) (famAt_iff.1 (h.rows n hn)).2 hi
noncomputable def famC (X Y : Cx) (L : List (List (List (List Int)))) : Int := cadd (pairC X Y) 2 (L.any fun f => !famP X Y f 0)
theorem famC_0 {X Y : Cx} {L : List (List (List (List Int)))} (h : famC X Y L = 0) : pairC X Y = 0 ∧ ∀ f ∈ L, IsFam X Y f 0 := by
  obtain ⟨h1, h2⟩ := (cadd_0 (by decide)).1 h
  refine ⟨h1, fun f hf => ?_⟩
  rw [List.any_eq_false] at h2
  have := h2 f hf
  simp only [Bool.not_eq_true', Bool.not_eq_false] at this
  exact pdec_t.1 this
theorem any_stop {α : Type} {f : α → Bool} {xs : List α} {d : α} {k : Nat} (hk : k < xs.length) (e : f (xs.getD k d) = true) : xs.any f = true := by
  rw [List.getD_eq_getElem?_getD, List.getElem?_eq_getElem hk] at e
  exact List.any_eq_true.2 ⟨_, List.getElem_mem hk, e⟩
theorem any_end {α : Type} {f : α → Bool} {xs : List α} {k : Nat} (d : α) (hk : ¬ k < xs.length) (h : ∀ j, j < k → f (xs.getD j d) = false) : xs.any f = false := by
  rw [List.any_eq_false]
  intro x hx
  obtain ⟨j, hj, rfl⟩ := List.getElem_of_mem hx
  have := h j (by omega)
  rw [List.getD_eq_getElem?_getD, List.getElem?_eq_getElem hj] at this
  simp only [Option.getD_some] at this
  rw [this]; decide

set_option maxRecDepth 100000 in
theorem iFam_ok (vX vY vf : Value) (X : Cx) (Y : Cx) (f : List (List (List Int))) (s : Int) (h : Heap) (rX : RC h vX X) (rY : RC h vY Y) (rf : R3 h vf f) (hX : IsC X) (hs : 0 ≤ s ∧ s ≤ 1) : CallA Try.prog 87 #[vX, vY, vf, .int .i64 s] h fun v' h' => v' = .bool (famP X Y f s) ∧ Ext h h' := by
  obtain ⟨vdX, vmX, rfl, hdX, hmX⟩ := rX
  have hledX := RdS.le hdX
  have hlemX := RdS.le hmX
  obtain ⟨vdY, vmY, rfl, hdY, hmY⟩ := rY
  have hledY := RdS.le hdY
  have hlemY := RdS.le hmY
  have hlef := RdS.le rf
  have hlen := hX.len
  have hpb := isP_bnd hX.p
  refine callA_intro TTok (args := [_, _, _, _]) Try.func87 (by kernel_rfl) rfl 45 rfl (by simp) [.tmp 8] rfl ?_
  simp only [idxs, Nat.reduceAdd]
  refine den_seq ?_
  refine den_region TTok ?_
  intro K hK
  simp -implicitDefEqProofs (disch := first | decide | assumption | omega) only [go_sem, RdS.len hdX sl22, RdS.idx hdX sl22, R1.intB hdX (HPres.refl _), RdS.cells hdX, RdS.len hmX sl23, RdS.idx hmX sl23, RdS.cellB hmX (HPres.refl _), RdS.cells hmX, RdS.len hdY sl22, RdS.idx hdY sl22, R1.intB hdY (HPres.refl _), RdS.cells hdY, RdS.len hmY sl23, RdS.idx hmY sl23, RdS.cellB hmY (HPres.refl _), RdS.cells hmY, RdS.len rf sl23, RdS.idx rf sl23, RdS.cellB rf (HPres.refl _), RdS.cells rf, wrap_id]
  refine op_box (cs := #[.int .i64 (X.p), vdX, vmX]) rfl ?_
  intro h0_0 e0_0 hb0_0 z0_0
  have := Ext.size e0_0
  have eB := e0_0
  have hfhb0_0 : Fresh h.size [h.size] := Fresh.one _
  have hlhb0_0 := one_lt (show h.size < h0_0.size by omega)
  try simp -implicitDefEqProofs (disch := first | decide | assumption | omega) only [go_sem, RdS.len hdX sl22, RdS.idx hdX sl22, R1.intB hdX (Ext.pres eB), RdS.cells hdX, RdS.len hmX sl23, RdS.idx hmX sl23, RdS.cellB hmX (Ext.pres eB), RdS.cells hmX, RdS.len hdY sl22, RdS.idx hdY sl22, R1.intB hdY (Ext.pres eB), RdS.cells hdY, RdS.len hmY sl23, RdS.idx hmY sl23, RdS.cellB hmY (Ext.pres eB), RdS.cells hmY, RdS.len rf sl23, RdS.idx rf sl23, RdS.cellB rf (Ext.pres eB), RdS.cells rf, BoxAt.cell hb0_0, wrap_id]
  refine op_box (cs := #[.int .i64 (Y.p), vdY, vmY]) rfl ?_
  intro h0_1 e0_1 hb0_1 z0_1
  replace hb0_0 := BoxAt.ext hb0_0 e0_1
  have := Ext.size e0_1
  replace eB := Ext.trans eB e0_1
  have hfhb0_1 : Fresh h0_0.size [h0_0.size] := Fresh.one _
  have hlhb0_1 := one_lt (show h0_0.size < h0_1.size by omega)
  try simp -implicitDefEqProofs (disch := first | decide | assumption | omega) only [go_sem, RdS.len hdX sl22, RdS.idx hdX sl22, R1.intB hdX (Ext.pres eB), RdS.cells hdX, RdS.len hmX sl23, RdS.idx hmX sl23, RdS.cellB hmX (Ext.pres eB), RdS.cells hmX, RdS.len hdY sl22, RdS.idx hdY sl22, R1.intB hdY (Ext.pres eB), RdS.cells hdY, RdS.len hmY sl23, RdS.idx hmY sl23, RdS.cellB hmY (Ext.pres eB), RdS.cells hmY, RdS.len rf sl23, RdS.idx rf sl23, RdS.cellB rf (Ext.pres eB), RdS.cells rf, BoxAt.cell hb0_0, BoxAt.cell hb0_1, wrap_id]
  refine hK _ _ ?_
  clear hK K
  refine den_seq ?_
  refine den_seq ?_
  refine den_region TTok ?_
  intro K hK
  simp -implicitDefEqProofs (disch := first | decide | assumption | omega) only [go_sem, fa30_1, ld22, RdS.len hdX sl22, RdS.idx hdX sl22, R1.intB hdX (Ext.pres eB), RdS.cells hdX, RdS.len hmX sl23, RdS.idx hmX sl23, RdS.cellB hmX (Ext.pres eB), RdS.cells hmX, RdS.len hdY sl22, RdS.idx hdY sl22, R1.intB hdY (Ext.pres eB), RdS.cells hdY, RdS.len hmY sl23, RdS.idx hmY sl23, RdS.cellB hmY (Ext.pres eB), RdS.cells hmY, RdS.len rf sl23, RdS.idx rf sl23, RdS.cellB rf (Ext.pres eB), RdS.cells rf, BoxAt.cell hb0_0, BoxAt.cell hb0_1, wrap_id]
  refine hK _ _ ?_
  clear hK K
  refine den_cond rfl (fun c0 => ?_) (fun c0 => ?_)
  · try simp only [decide_eq_true_eq, decide_eq_false_iff_not, beq_iff_eq, beq_eq_false_iff_ne, bne_iff_ne, ne_eq, Bool.not_eq_true', Bool.not_eq_false', Bool.and_eq_true, Bool.or_eq_true, bne_eq_false_iff_eq, Bool.or_eq_false_iff, Bool.and_eq_false_iff] at c0
    refine den_seq ?_
    refine den_region TTok ?_
    intro K hK
    simp -implicitDefEqProofs (disch := first | decide | assumption | omega) only [go_sem, RdS.len hdX sl22, RdS.idx hdX sl22, R1.intB hdX (Ext.pres eB), RdS.cells hdX, RdS.len hmX sl23, RdS.idx hmX sl23, RdS.cellB hmX (Ext.pres eB), RdS.cells hmX, RdS.len hdY sl22, RdS.idx hdY sl22, R1.intB hdY (Ext.pres eB), RdS.cells hdY, RdS.len hmY sl23, RdS.idx hmY sl23, RdS.cellB hmY (Ext.pres eB), RdS.cells hmY, RdS.len rf sl23, RdS.idx rf sl23, RdS.cellB rf (Ext.pres eB), RdS.cells rf, wrap_id]
    refine hK _ _ ?_
    clear hK K
    refine den_ret ?_
    simp (disch := decide) only [resP_1, puts_same, puts_ne]
    exact ⟨vbool (pdec_no fun hF => c0 (by have := hF.len; omega)), eB⟩
  · try simp only [decide_eq_true_eq, decide_eq_false_iff_not, beq_iff_eq, beq_eq_false_iff_ne, bne_iff_ne, ne_eq, Bool.not_eq_true', Bool.not_eq_false', Bool.and_eq_true, Bool.or_eq_true, bne_eq_false_iff_eq, Bool.or_eq_false_iff, Bool.and_eq_false_iff] at c0
    refine den_skip ?_
    refine den_seq ?_
    refine den_seq ?_
    refine den_region TTok ?_
    intro K hK
    simp -implicitDefEqProofs (disch := first | decide | assumption | omega) only [go_sem, RdS.len hdX sl22, RdS.idx hdX sl22, R1.intB hdX (Ext.pres eB), RdS.cells hdX, RdS.len hmX sl23, RdS.idx hmX sl23, RdS.cellB hmX (Ext.pres eB), RdS.cells hmX, RdS.len hdY sl22, RdS.idx hdY sl22, R1.intB hdY (Ext.pres eB), RdS.cells hdY, RdS.len hmY sl23, RdS.idx hmY sl23, RdS.cellB hmY (Ext.pres eB), RdS.cells hmY, RdS.len rf sl23, RdS.idx rf sl23, RdS.cellB rf (Ext.pres eB), RdS.cells rf, BoxAt.cell hb0_0, BoxAt.cell hb0_1, wrap_id]
    refine hK _ _ ?_
    clear hK K
    refine den_block ?_
    refine den_sel [19, 3, 4, 5, 17, 18] ?_
    intro env_1
    simp only [go_sem]
    refine den_loopS (σ := Nat) (fun st_ => [(19, .int .i64 (st_ : Int))]) (fun st_ H => (st_ ≤ f.length) ∧ (∀ j, j < st_ → famAt X Y f s j = true) ∧ (Ext h0_1 H)) (fun st_ => f.length - st_) 0 ?_ ?_
    · exact ⟨by simp, fun j hj => by omega, Ext.refl _⟩
    · rintro n h4 ee3 ⟨hn, hz, cL2⟩
      replace hb0_0 := BoxAt.ext hb0_0 cL2
      replace hb0_1 := BoxAt.ext hb0_1 cL2
      have := Ext.size cL2
      replace eB := Ext.trans eB cL2
      simp only [List.cons_append, List.nil_append]
      refine den_seq ?_
      refine den_region TTok ?_
      intro K hK
      simp -implicitDefEqProofs (disch := first | decide | assumption | omega) only [go_sem, RdS.len hdX sl22, RdS.idx hdX sl22, R1.intB hdX (Ext.pres eB), RdS.cells hdX, RdS.len hmX sl23, RdS.idx hmX sl23, RdS.cellB hmX (Ext.pres eB), RdS.cells hmX, RdS.len hdY sl22, RdS.idx hdY sl22, R1.intB hdY (Ext.pres eB), RdS.cells hdY, RdS.len hmY sl23, RdS.idx hmY sl23, RdS.cellB hmY (Ext.pres eB), RdS.cells hmY, RdS.len rf sl23, RdS.idx rf sl23, RdS.cellB rf (Ext.pres eB), RdS.cells rf, BoxAt.cell hb0_0, BoxAt.cell hb0_1, wrap_id]
      refine hK _ _ ?_
      clear hK K
      refine den_seq ?_
      refine den_cond rfl (fun c1 => ?_) (fun c1 => ?_)
      · try simp only [decide_eq_true_eq, decide_eq_false_iff_not, beq_iff_eq, beq_eq_false_iff_ne, bne_iff_ne, ne_eq, Bool.not_eq_true', Bool.not_eq_false', Bool.and_eq_true, Bool.or_eq_true, bne_eq_false_iff_eq, Bool.or_eq_false_iff, Bool.and_eq_false_iff] at c1
        refine den_skip ?_
        refine den_seq ?_
        refine den_block ?_
        refine den_seq ?_
        refine den_region TTok ?_
        intro K hK
        have hr5 := RdS.rowN rf n (by omega)
        have hlhr5 := RdS.le hr5
        simp -implicitDefEqProofs (disch := first | decide | assumption | omega) only [go_sem, ld56, RdS.len hdX sl22, RdS.idx hdX sl22, R1.intB hdX (Ext.pres eB), RdS.cells hdX, RdS.len hmX sl23, RdS.idx hmX sl23, RdS.cellB hmX (Ext.pres eB), RdS.cells hmX, RdS.len hdY sl22, RdS.idx hdY sl22, R1.intB hdY (Ext.pres eB), RdS.cells hdY, RdS.len hmY sl23, RdS.idx hmY sl23, RdS.cellB hmY (Ext.pres eB), RdS.cells hmY, RdS.len rf sl23, RdS.idx rf sl23, RdS.cellB rf (Ext.pres eB), RdS.cells rf, RdS.len hr5 sl56, RdS.idx hr5 sl56, RdS.cellB hr5 (Ext.pres eB), RdS.cells hr5, BoxAt.cell hb0_0, BoxAt.cell hb0_1, wrap_id]
        refine hK _ _ ?_
        clear hK K
        refine den_seq ?_
        refine den_merge [(43, .bool ((((((f).getD n default).length : Int) != ((X.dims).getD n 0)) || (!((((f).getD n default).all (isRow X.p (dimP Y ((n : Int) + s)))))))))] [3, 4, 5, 17, 18, 19] (fun H => Ext h4 H) ?_ ?_
          -- a way
        · refine den_draw TTok mixed [] [(0, true), (2, true), (3, true), (4, true), (5, true), (6, true), (1, false), (7, true), (8, true), (9, true), (10, true), (11, true), (12, true), (13, true), (14, true), (16, true), (15, false), (17, false), (18, true), (19, true)] (by kernel_rfl) ?_
          intro K hK
          simp -implicitDefEqProofs (disch := first | decide | assumption | (simp (disch := decide) only [slotOf_zero, slotOf_succ, Option.map_some, puts_same, puts_ne, gv_bool, gv_undef, tt, tf, ft, ff, eq_self, if_true, if_false, Bool.false_eq_true, Bool.not_true, Bool.not_false]; done) | omega) only [go_sem, fa30_1, ld22, ld2, RdS.len hdX sl22, RdS.idx hdX sl22, R1.intB hdX (Ext.pres eB), RdS.cells hdX, RdS.len hmX sl23, RdS.idx hmX sl23, RdS.cellB hmX (Ext.pres eB), RdS.cells hmX, RdS.len hdY sl22, RdS.idx hdY sl22, R1.intB hdY (Ext.pres eB), RdS.cells hdY, RdS.len hmY sl23, RdS.idx hmY sl23, RdS.cellB hmY (Ext.pres eB), RdS.cells hmY, RdS.len rf sl23, RdS.idx rf sl23, RdS.cellB rf (Ext.pres eB), RdS.cells rf, RdS.len hr5 sl56, RdS.idx hr5 sl56, RdS.cellB hr5 (Ext.pres eB), RdS.cells hr5, BoxAt.cell hb0_0, BoxAt.cell hb0_1, wrap_id]
          try simp -implicitDefEqProofs (disch := first | decide | assumption | omega) only [go_sem, RdS.len hdX sl22, RdS.idx hdX sl22, R1.intB hdX (Ext.pres eB), RdS.cells hdX, RdS.len hmX sl23, RdS.idx hmX sl23, RdS.cellB hmX (Ext.pres eB), RdS.cells hmX, RdS.len hdY sl22, RdS.idx hdY sl22, R1.intB hdY (Ext.pres eB), RdS.cells hdY, RdS.len hmY sl23, RdS.idx hmY sl23, RdS.cellB hmY (Ext.pres eB), RdS.cells hmY, RdS.len rf sl23, RdS.idx rf sl23, RdS.cellB rf (Ext.pres eB), RdS.cells rf, RdS.len hr5 sl56, RdS.idx hr5 sl56, RdS.cellB hr5 (Ext.pres eB), RdS.cells hr5, BoxAt.cell hb0_0, BoxAt.cell hb0_1, wrap_id]
          refine CallA.pure (size2_ok _ _ _ (RdS.pres hr5 (Ext.pres eB))) ?_
          try simp -implicitDefEqProofs (disch := first | decide | assumption | (simp (disch := decide) only [slotOf_zero, slotOf_succ, Option.map_some, puts_same, puts_ne, gv_bool, gv_undef, tt, tf, ft, ff, eq_self, if_true, if_false, Bool.false_eq_true, Bool.not_true, Bool.not_false]; done) | omega) only [go_sem, RdS.len hdX sl22, RdS.idx hdX sl22, R1.intB hdX (Ext.pres eB), RdS.cells hdX, RdS.len hmX sl23, RdS.idx hmX sl23, RdS.cellB hmX (Ext.pres eB), RdS.cells hmX, RdS.len hdY sl22, RdS.idx hdY sl22, R1.intB hdY (Ext.pres eB), RdS.cells hdY, RdS.len hmY sl23, RdS.idx hmY sl23, RdS.cellB hmY (Ext.pres eB), RdS.cells hmY, RdS.len rf sl23, RdS.idx rf sl23, RdS.cellB rf (Ext.pres eB), RdS.cells rf, RdS.len hr5 sl56, RdS.idx hr5 sl56, RdS.cellB hr5 (Ext.pres eB), RdS.cells hr5, BoxAt.cell hb0_0, BoxAt.cell hb0_1, wrap_id]
          refine plG_F (by simp (disch := decide) only [slotOf_zero, slotOf_succ, Option.map_some, puts_same, puts_ne, gv_bool, gv_undef, tt, tf, ft, ff, eq_self, if_true, if_false, Bool.false_eq_true, Bool.not_true, Bool.not_false]; rfl) (fun g6 => ?_) (fun g6 => ?_)
          · try simp -implicitDefEqProofs (disch := first | decide | assumption | (simp (disch := decide) only [slotOf_zero, slotOf_succ, Option.map_some, puts_same, puts_ne, gv_bool, gv_undef, tt, tf, ft, ff, eq_self, if_true, if_false, Bool.false_eq_true, Bool.not_true, Bool.not_false, g6]; done) | omega) only [go_sem, fa30_0, ld2, ld30, RdS.len hdX sl22, RdS.idx hdX sl22, R1.intB hdX (Ext.pres eB), RdS.cells hdX, RdS.len hmX sl23, RdS.idx hmX sl23, RdS.cellB hmX (Ext.pres eB), RdS.cells hmX, RdS.len hdY sl22, RdS.idx hdY sl22, R1.intB hdY (Ext.pres eB), RdS.cells hdY, RdS.len hmY sl23, RdS.idx hmY sl23, RdS.cellB hmY (Ext.pres eB), RdS.cells hmY, RdS.len rf sl23, RdS.idx rf sl23, RdS.cellB rf (Ext.pres eB), RdS.cells rf, RdS.len hr5 sl56, RdS.idx hr5 sl56, RdS.cellB hr5 (Ext.pres eB), RdS.cells hr5, BoxAt.cell hb0_0, BoxAt.cell hb0_1, wrap_id, g6, eq_self, if_true, if_false, Bool.false_eq_true]
            try simp -implicitDefEqProofs (disch := first | decide | assumption | omega) only [go_sem, RdS.len hdX sl22, RdS.idx hdX sl22, R1.intB hdX (Ext.pres eB), RdS.cells hdX, RdS.len hmX sl23, RdS.idx hmX sl23, RdS.cellB hmX (Ext.pres eB), RdS.cells hmX, RdS.len hdY sl22, RdS.idx hdY sl22, R1.intB hdY (Ext.pres eB), RdS.cells hdY, RdS.len hmY sl23, RdS.idx hmY sl23, RdS.cellB hmY (Ext.pres eB), RdS.cells hmY, RdS.len rf sl23, RdS.idx rf sl23, RdS.cellB rf (Ext.pres eB), RdS.cells rf, RdS.len hr5 sl56, RdS.idx hr5 sl56, RdS.cellB hr5 (Ext.pres eB), RdS.cells hr5, BoxAt.cell hb0_0, BoxAt.cell hb0_1, wrap_id]
            refine CallA.mono (iDim_ok _ Y _ _ ⟨_, _, rfl, (RdS.pres hdY (Ext.pres eB)), (RdS.pres hmY (Ext.pres eB))⟩) ?_
            intro v_ h6_15
            rintro ⟨rfl, e6_15⟩
            replace hb0_0 := BoxAt.ext hb0_0 e6_15
            replace hb0_1 := BoxAt.ext hb0_1 e6_15
            have := Ext.size e6_15
            replace eB := Ext.trans eB e6_15
            replace cL2 := Ext.trans cL2 e6_15
            try simp (disch := decide) only [outv_some, outv_none, put_puts]
            refine plK_pres (Ext.pres e6_15) ?_
            try simp -implicitDefEqProofs (disch := first | decide | assumption | (simp (disch := decide) only [slotOf_zero, slotOf_succ, Option.map_some, puts_same, puts_ne, gv_bool, gv_undef, tt, tf, ft, ff, eq_self, if_true, if_false, Bool.false_eq_true, Bool.not_true, Bool.not_false, g6]; done) | omega) only [go_sem, RdS.len hdX sl22, RdS.idx hdX sl22, R1.intB hdX (Ext.pres eB), RdS.cells hdX, RdS.len hmX sl23, RdS.idx hmX sl23, RdS.cellB hmX (Ext.pres eB), RdS.cells hmX, RdS.len hdY sl22, RdS.idx hdY sl22, R1.intB hdY (Ext.pres eB), RdS.cells hdY, RdS.len hmY sl23, RdS.idx hmY sl23, RdS.cellB hmY (Ext.pres eB), RdS.cells hmY, RdS.len rf sl23, RdS.idx rf sl23, RdS.cellB rf (Ext.pres eB), RdS.cells rf, RdS.len hr5 sl56, RdS.idx hr5 sl56, RdS.cellB hr5 (Ext.pres eB), RdS.cells hr5, BoxAt.cell hb0_0, BoxAt.cell hb0_1, wrap_id, g6, eq_self, if_true, if_false, Bool.false_eq_true]
            try simp -implicitDefEqProofs (disch := first | decide | assumption | omega) only [go_sem, RdS.len hdX sl22, RdS.idx hdX sl22, R1.intB hdX (Ext.pres eB), RdS.cells hdX, RdS.len hmX sl23, RdS.idx hmX sl23, RdS.cellB hmX (Ext.pres eB), RdS.cells hmX, RdS.len hdY sl22, RdS.idx hdY sl22, R1.intB hdY (Ext.pres eB), RdS.cells hdY, RdS.len hmY sl23, RdS.idx hmY sl23, RdS.cellB hmY (Ext.pres eB), RdS.cells hmY, RdS.len rf sl23, RdS.idx rf sl23, RdS.cellB rf (Ext.pres eB), RdS.cells rf, RdS.len hr5 sl56, RdS.idx hr5 sl56, RdS.cellB hr5 (Ext.pres eB), RdS.cells hr5, BoxAt.cell hb0_0, BoxAt.cell hb0_1, wrap_id]
            refine CallA.mono (areRows_ok _ _ _ _ _ (RdS.pres hr5 (Ext.pres eB)) (by omega)) ?_
            intro v_ h6_17
            rintro ⟨rfl, e6_17⟩
            replace hb0_0 := BoxAt.ext hb0_0 e6_17
            replace hb0_1 := BoxAt.ext hb0_1 e6_17
            have := Ext.size e6_17
            replace eB := Ext.trans eB e6_17
            replace cL2 := Ext.trans cL2 e6_17
            try simp (disch := decide) only [outv_some, outv_none, put_puts]
            refine plK_pres (Ext.pres e6_17) ?_
            try simp -implicitDefEqProofs (disch := first | decide | assumption | (simp (disch := decide) only [slotOf_zero, slotOf_succ, Option.map_some, puts_same, puts_ne, gv_bool, gv_undef, tt, tf, ft, ff, eq_self, if_true, if_false, Bool.false_eq_true, Bool.not_true, Bool.not_false, g6]; done) | omega) only [go_sem, RdS.len hdX sl22, RdS.idx hdX sl22, R1.intB hdX (Ext.pres eB), RdS.cells hdX, RdS.len hmX sl23, RdS.idx hmX sl23, RdS.cellB hmX (Ext.pres eB), RdS.cells hmX, RdS.len hdY sl22, RdS.idx hdY sl22, R1.intB hdY (Ext.pres eB), RdS.cells hdY, RdS.len hmY sl23, RdS.idx hmY sl23, RdS.cellB hmY (Ext.pres eB), RdS.cells hmY, RdS.len rf sl23, RdS.idx rf sl23, RdS.cellB rf (Ext.pres eB), RdS.cells rf, RdS.len hr5 sl56, RdS.idx hr5 sl56, RdS.cellB hr5 (Ext.pres eB), RdS.cells hr5, BoxAt.cell hb0_0, BoxAt.cell hb0_1, wrap_id, g6, eq_self, if_true, if_false, Bool.false_eq_true]
            refine hK _ _ ?_
            clear hK K
            refine den_stop ?_
            refine ⟨?_, (Ext.trans e6_15 e6_17)⟩
            first | (simp (disch := decide) only [go_sem, g6, eq_self, Bool.true_and, Bool.and_true, Bool.false_and, Bool.and_false, Bool.true_or, Bool.or_true, Bool.false_or, Bool.or_false, if_true, if_false, Bool.false_eq_true]; done) | simp [HasL, sel, puts_at, g6]
          · try simp -implicitDefEqProofs (disch := first | decide | assumption | (simp (disch := decide) only [slotOf_zero, slotOf_succ, Option.map_some, puts_same, puts_ne, gv_bool, gv_undef, tt, tf, ft, ff, eq_self, if_true, if_false, Bool.false_eq_true, Bool.not_true, Bool.not_false, g6]; done) | omega) only [go_sem, RdS.len hdX sl22, RdS.idx hdX sl22, R1.intB hdX (Ext.pres eB), RdS.cells hdX, RdS.len hmX sl23, RdS.idx hmX sl23, RdS.cellB hmX (Ext.pres eB), RdS.cells hmX, RdS.len hdY sl22, RdS.idx hdY sl22, R1.intB hdY (Ext.pres eB), RdS.cells hdY, RdS.len hmY sl23, RdS.idx hmY sl23, RdS.cellB hmY (Ext.pres eB), RdS.cells hmY, RdS.len rf sl23, RdS.idx rf sl23, RdS.cellB rf (Ext.pres eB), RdS.cells rf, RdS.len hr5 sl56, RdS.idx hr5 sl56, RdS.cellB hr5 (Ext.pres eB), RdS.cells hr5, BoxAt.cell hb0_0, BoxAt.cell hb0_1, wrap_id, g6, eq_self, if_true, if_false, Bool.false_eq_true]
            refine hK _ _ ?_
            clear hK K
            refine den_stop ?_
            refine ⟨?_, Ext.refl _⟩
            first | (simp (disch := decide) only [go_sem, g6, eq_self, Bool.true_and, Bool.and_true, Bool.false_and, Bool.and_false, Bool.true_or, Bool.or_true, Bool.false_or, Bool.or_false, if_true, if_false, Bool.false_eq_true]; done) | simp [HasL, sel, puts_at, g6]
        intro en7 h8 e9
        replace hb0_0 := BoxAt.ext hb0_0 e9
        replace hb0_1 := BoxAt.ext hb0_1 e9
        have := Ext.size e9
        replace eB := Ext.trans eB e9
        replace cL2 := Ext.trans cL2 e9
        simp (disch := decide) only [go_sem]
        refine den_cond rfl (fun c2 => ?_) (fun c2 => ?_)
        · try simp only [decide_eq_true_eq, decide_eq_false_iff_not, beq_iff_eq, beq_eq_false_iff_ne, bne_iff_ne, ne_eq, Bool.not_eq_true', Bool.not_eq_false', Bool.and_eq_true, Bool.or_eq_true, bne_eq_false_iff_eq, Bool.or_eq_false_iff, Bool.and_eq_false_iff] at c2
          refine den_seq ?_
          refine den_region TTok ?_
          intro K hK
          simp -implicitDefEqProofs (disch := first | decide | assumption | omega) only [go_sem, RdS.len hdX sl22, RdS.idx hdX sl22, R1.intB hdX (Ext.pres eB), RdS.cells hdX, RdS.len hmX sl23, RdS.idx hmX sl23, RdS.cellB hmX (Ext.pres eB), RdS.cells hmX, RdS.len hdY sl22, RdS.idx hdY sl22, R1.intB hdY (Ext.pres eB), RdS.cells hdY, RdS.len hmY sl23, RdS.idx hmY sl23, RdS.cellB hmY (Ext.pres eB), RdS.cells hmY, RdS.len rf sl23, RdS.idx rf sl23, RdS.cellB rf (Ext.pres eB), RdS.cells rf, RdS.len hr5 sl56, RdS.idx hr5 sl56, RdS.cellB hr5 (Ext.pres eB), RdS.cells hr5, wrap_id]
          refine hK _ _ ?_
          clear hK K
          refine den_ret ?_
          simp (disch := decide) only [resP_1, puts_same, puts_ne]
          exact ⟨vbool (pdec_no fun hF => by
            have h1 := hF.at (n := n) (by omega)
            have h2 := (famAt_iff.1 (hF.rows n (by omega))).2
            rcases c2 with c | c
            · exact c h1.1
            · rw [h2] at c; cases c), eB⟩
        · try simp only [decide_eq_true_eq, decide_eq_false_iff_not, beq_iff_eq, beq_eq_false_iff_ne, bne_iff_ne, ne_eq, Bool.not_eq_true', Bool.not_eq_false', Bool.and_eq_true, Bool.or_eq_true, bne_eq_false_iff_eq, Bool.or_eq_false_iff, Bool.and_eq_false_iff] at c2
          refine den_skip ?_
          refine den_blk ?_
          refine den_region TTok ?_
          intro K hK
          simp -implicitDefEqProofs (disch := first | decide | assumption | omega) only [go_sem, RdS.len hdX sl22, RdS.idx hdX sl22, R1.intB hdX (Ext.pres eB), RdS.cells hdX, RdS.len hmX sl23, RdS.idx hmX sl23, RdS.cellB hmX (Ext.pres eB), RdS.cells hmX, RdS.len hdY sl22, RdS.idx hdY sl22, R1.intB hdY (Ext.pres eB), RdS.cells hdY, RdS.len hmY sl23, RdS.idx hmY sl23, RdS.cellB hmY (Ext.pres eB), RdS.cells hmY, RdS.len rf sl23, RdS.idx rf sl23, RdS.cellB rf (Ext.pres eB), RdS.cells rf, RdS.len hr5 sl56, RdS.idx hr5 sl56, RdS.cellB hr5 (Ext.pres eB), RdS.cells hr5, BoxAt.cell hb0_0, BoxAt.cell hb0_1, wrap_id]
          refine hK _ _ ?_
          clear hK K
          refine den_stop ?_
          exact ⟨n + 1, by simp [HasL, puts_at], ⟨by omega, fun j hj => (Nat.lt_succ_iff_lt_or_eq.1 hj).elim (hz j) (fun e => by rw [e]; exact famAt_iff.2 c2), cL2⟩, by first | omega | (dsimp only; omega)⟩
      · try simp only [decide_eq_true_eq, decide_eq_false_iff_not, beq_iff_eq, beq_eq_false_iff_ne, bne_iff_ne, ne_eq, Bool.not_eq_true', Bool.not_eq_false', Bool.and_eq_true, Bool.or_eq_true, bne_eq_false_iff_eq, Bool.or_eq_false_iff, Bool.and_eq_false_iff] at c1
        refine den_exit ?_
        refine denX_code ?_
        refine denX_stop ?_
        refine denX_hit ?_
        refine den_seq ?_
        refine den_region TTok ?_
        intro K hK
        simp -implicitDefEqProofs (disch := first | decide | assumption | omega) only [go_sem, RdS.len hdX sl22, RdS.idx hdX sl22, R1.intB hdX (Ext.pres eB), RdS.cells hdX, RdS.len hmX sl23, RdS.idx hmX sl23, RdS.cellB hmX (Ext.pres eB), RdS.cells hmX, RdS.len hdY sl22, RdS.idx hdY sl22, R1.intB hdY (Ext.pres eB), RdS.cells hdY, RdS.len hmY sl23, RdS.idx hmY sl23, RdS.cellB hmY (Ext.pres eB), RdS.cells hmY, RdS.len rf sl23, RdS.idx rf sl23, RdS.cellB rf (Ext.pres eB), RdS.cells rf, wrap_id]
        refine hK _ _ ?_
        clear hK K
        refine den_ret ?_
        simp (disch := decide) only [resP_1, puts_same, puts_ne]
        exact ⟨vbool (pdec_yes ⟨by omega, fun j hj => hz j (by omega)⟩), eB⟩

set_option maxRecDepth 100000 in
theorem sFam_ok (vX vY vf : Value) (X : Cx) (Y : Cx) (f : List (List (List Int))) (s : Int) (h : Heap) (rX : RC h vX X) (rY : RC h vY Y) (rf : R3 h vf f) (hX : IsC X) (hs : 0 ≤ s ∧ s ≤ 1) : CallA Try.prog 85 #[vX, vY, vf, .int .i64 s] h fun v' h' => v' = .bool (famP X Y f s) ∧ Ext h h' := by
  obtain ⟨vdX, vmX, rfl, hdX, hmX⟩ := rX
  have hledX := RdS.le hdX
  have hlemX := RdS.le hmX
  obtain ⟨vdY, vmY, rfl, hdY, hmY⟩ := rY
  have hledY := RdS.le hdY
  have hlemY := RdS.le hmY
  have hlef := RdS.le rf
  have hlen := hX.len
  have hpb := isP_bnd hX.p
  refine callA_intro TTok (args := [_, _, _, _]) Try.func85 (by kernel_rfl) rfl 85 rfl (by simp) [.tmp 8] rfl ?_
  simp only [idxs, Nat.reduceAdd]
  refine den_seq ?_
  refine den_region TTok ?_
  intro K hK
  simp -implicitDefEqProofs (disch := first | decide | assumption | omega) only [go_sem, RdS.len hdX sl22, RdS.idx hdX sl22, R1.intB hdX (HPres.refl _), RdS.cells hdX, RdS.len hmX sl23, RdS.idx hmX sl23, RdS.cellB hmX (HPres.refl _), RdS.cells hmX, RdS.len hdY sl22, RdS.idx hdY sl22, R1.intB hdY (HPres.refl _), RdS.cells hdY, RdS.len hmY sl23, RdS.idx hmY sl23, RdS.cellB hmY (HPres.refl _), RdS.cells hmY, RdS.len rf sl23, RdS.idx rf sl23, RdS.cellB rf (HPres.refl _), RdS.cells rf, wrap_id]
  refine op_box (cs := #[.int .i64 (X.p), vdX, vmX]) rfl ?_
  intro h0_0 e0_0 hb0_0 z0_0
  have := Ext.size e0_0
  have eB := e0_0
  have hfhb0_0 : Fresh h.size [h.size] := Fresh.one _
  have hlhb0_0 := one_lt (show h.size < h0_0.size by omega)
  try simp -implicitDefEqProofs (disch := first | decide | assumption | omega) only [go_sem, RdS.len hdX sl22, RdS.idx hdX sl22, R1.intB hdX (Ext.pres eB), RdS.cells hdX, RdS.len hmX sl23, RdS.idx hmX sl23, RdS.cellB hmX (Ext.pres eB), RdS.cells hmX, RdS.len hdY sl22, RdS.idx hdY sl22, R1.intB hdY (Ext.pres eB), RdS.cells hdY, RdS.len hmY sl23, RdS.idx hmY sl23, RdS.cellB hmY (Ext.pres eB), RdS.cells hmY, RdS.len rf sl23, RdS.idx rf sl23, RdS.cellB rf (Ext.pres eB), RdS.cells rf, BoxAt.cell hb0_0, wrap_id]
  refine op_box (cs := #[.int .i64 (Y.p), vdY, vmY]) rfl ?_
  intro h0_1 e0_1 hb0_1 z0_1
  replace hb0_0 := BoxAt.ext hb0_0 e0_1
  have := Ext.size e0_1
  replace eB := Ext.trans eB e0_1
  have hfhb0_1 : Fresh h0_0.size [h0_0.size] := Fresh.one _
  have hlhb0_1 := one_lt (show h0_0.size < h0_1.size by omega)
  try simp -implicitDefEqProofs (disch := first | decide | assumption | omega) only [go_sem, RdS.len hdX sl22, RdS.idx hdX sl22, R1.intB hdX (Ext.pres eB), RdS.cells hdX, RdS.len hmX sl23, RdS.idx hmX sl23, RdS.cellB hmX (Ext.pres eB), RdS.cells hmX, RdS.len hdY sl22, RdS.idx hdY sl22, R1.intB hdY (Ext.pres eB), RdS.cells hdY, RdS.len hmY sl23, RdS.idx hmY sl23, RdS.cellB hmY (Ext.pres eB), RdS.cells hmY, RdS.len rf sl23, RdS.idx rf sl23, RdS.cellB rf (Ext.pres eB), RdS.cells rf, BoxAt.cell hb0_0, BoxAt.cell hb0_1, wrap_id]
  refine hK _ _ ?_
  clear hK K
  refine den_seq ?_
  refine den_seq ?_
  refine den_region TTok ?_
  intro K hK
  simp -implicitDefEqProofs (disch := first | decide | assumption | omega) only [go_sem, fa30_1, ld22, RdS.len hdX sl22, RdS.idx hdX sl22, R1.intB hdX (Ext.pres eB), RdS.cells hdX, RdS.len hmX sl23, RdS.idx hmX sl23, RdS.cellB hmX (Ext.pres eB), RdS.cells hmX, RdS.len hdY sl22, RdS.idx hdY sl22, R1.intB hdY (Ext.pres eB), RdS.cells hdY, RdS.len hmY sl23, RdS.idx hmY sl23, RdS.cellB hmY (Ext.pres eB), RdS.cells hmY, RdS.len rf sl23, RdS.idx rf sl23, RdS.cellB rf (Ext.pres eB), RdS.cells rf, BoxAt.cell hb0_0, BoxAt.cell hb0_1, wrap_id]
  refine hK _ _ ?_
  clear hK K
  refine den_cond rfl (fun c0 => ?_) (fun c0 => ?_)
  · try simp only [decide_eq_true_eq, decide_eq_false_iff_not, beq_iff_eq, beq_eq_false_iff_ne, bne_iff_ne, ne_eq, Bool.not_eq_true', Bool.not_eq_false', Bool.and_eq_true, Bool.or_eq_true, bne_eq_false_iff_eq, Bool.or_eq_false_iff, Bool.and_eq_false_iff] at c0
    refine den_seq ?_
    refine den_region TTok ?_
    intro K hK
    simp -implicitDefEqProofs (disch := first | decide | assumption | omega) only [go_sem, RdS.len hdX sl22, RdS.idx hdX sl22, R1.intB hdX (Ext.pres eB), RdS.cells hdX, RdS.len hmX sl23, RdS.idx hmX sl23, RdS.cellB hmX (Ext.pres eB), RdS.cells hmX, RdS.len hdY sl22, RdS.idx hdY sl22, R1.intB hdY (Ext.pres eB), RdS.cells hdY, RdS.len hmY sl23, RdS.idx hmY sl23, RdS.cellB hmY (Ext.pres eB), RdS.cells hmY, RdS.len rf sl23, RdS.idx rf sl23, RdS.cellB rf (Ext.pres eB), RdS.cells rf, wrap_id]
    refine hK _ _ ?_
    clear hK K
    refine den_ret ?_
    simp (disch := decide) only [resP_1, puts_same, puts_ne]
    exact ⟨vbool (pdec_no fun hF => c0 (by have := hF.len; omega)), eB⟩
  · try simp only [decide_eq_true_eq, decide_eq_false_iff_not, beq_iff_eq, beq_eq_false_iff_ne, bne_iff_ne, ne_eq, Bool.not_eq_true', Bool.not_eq_false', Bool.and_eq_true, Bool.or_eq_true, bne_eq_false_iff_eq, Bool.or_eq_false_iff, Bool.and_eq_false_iff] at c0
    refine den_skip ?_
    refine den_seq ?_
    refine den_seq ?_
    refine den_region TTok ?_
    intro K hK
    simp -implicitDefEqProofs (disch := first | decide | assumption | omega) only [go_sem, RdS.len hdX sl22, RdS.idx hdX sl22, R1.intB hdX (Ext.pres eB), RdS.cells hdX, RdS.len hmX sl23, RdS.idx hmX sl23, RdS.cellB hmX (Ext.pres eB), RdS.cells hmX, RdS.len hdY sl22, RdS.idx hdY sl22, R1.intB hdY (Ext.pres eB), RdS.cells hdY, RdS.len hmY sl23, RdS.idx hmY sl23, RdS.cellB hmY (Ext.pres eB), RdS.cells hmY, RdS.len rf sl23, RdS.idx rf sl23, RdS.cellB rf (Ext.pres eB), RdS.cells rf, BoxAt.cell hb0_0, BoxAt.cell hb0_1, wrap_id]
    refine hK _ _ ?_
    clear hK K
    refine den_block ?_
    refine den_sel [9, 2, 3, 4, 5] ?_
    intro env_1
    simp only [go_sem]
    refine den_loopS (σ := Nat) (fun st_ => [(9, .int .i64 (st_ : Int))]) (fun st_ H => (st_ ≤ f.length) ∧ (∀ j, j < st_ → famAt X Y f s j = true) ∧ (Ext h0_1 H)) (fun st_ => f.length - st_) 0 ?_ ?_
    · exact ⟨by simp, fun j hj => by omega, Ext.refl _⟩
    · rintro n h4 ee3 ⟨hn, hz, cL2⟩
      replace hb0_0 := BoxAt.ext hb0_0 cL2
      replace hb0_1 := BoxAt.ext hb0_1 cL2
      have := Ext.size cL2
      replace eB := Ext.trans eB cL2
      simp only [List.cons_append, List.nil_append]
      refine den_seq ?_
      refine den_seq ?_
      refine den_region TTok ?_
      intro K hK
      simp -implicitDefEqProofs (disch := first | decide | assumption | omega) only [go_sem, RdS.len hdX sl22, RdS.idx hdX sl22, R1.intB hdX (Ext.pres eB), RdS.cells hdX, RdS.len hmX sl23, RdS.idx hmX sl23, RdS.cellB hmX (Ext.pres eB), RdS.cells hmX, RdS.len hdY sl22, RdS.idx hdY sl22, R1.intB hdY (Ext.pres eB), RdS.cells hdY, RdS.len hmY sl23, RdS.idx hmY sl23, RdS.cellB hmY (Ext.pres eB), RdS.cells hmY, RdS.len rf sl23, RdS.idx rf sl23, RdS.cellB rf (Ext.pres eB), RdS.cells rf, BoxAt.cell hb0_0, BoxAt.cell hb0_1, wrap_id]
      refine hK _ _ ?_
      clear hK K
      refine den_cond rfl (fun c1 => ?_) (fun c1 => ?_)
      · try simp only [decide_eq_true_eq, decide_eq_false_iff_not, beq_iff_eq, beq_eq_false_iff_ne, bne_iff_ne, ne_eq, Bool.not_eq_true', Bool.not_eq_false', Bool.and_eq_true, Bool.or_eq_true, bne_eq_false_iff_eq, Bool.or_eq_false_iff, Bool.and_eq_false_iff] at c1
        refine den_skip ?_
        refine den_seq ?_
        refine den_block ?_
        refine den_seq ?_
        refine den_seq ?_
        refine den_draw TTok mixed [] [(0, true), (1, true), (2, true), (3, true), (4, true), (5, true), (6, true), (7, true), (8, true), (9, true), (10, true)] (by kernel_rfl) ?_
        intro K hK
        have hr5 := RdS.rowN rf n (by omega)
        have hlhr5 := RdS.le hr5
        simp -implicitDefEqProofs (disch := first | decide | assumption | omega) only [go_sem, fa30_1, ld56, ld22, ld2, RdS.len hdX sl22, RdS.idx hdX sl22, R1.intB hdX (Ext.pres eB), RdS.cells hdX, RdS.len hmX sl23, RdS.idx hmX sl23, RdS.cellB hmX (Ext.pres eB), RdS.cells hmX, RdS.len hdY sl22, RdS.idx hdY sl22, R1.intB hdY (Ext.pres eB), RdS.cells hdY, RdS.len hmY sl23, RdS.idx hmY sl23, RdS.cellB hmY (Ext.pres eB), RdS.cells hmY, RdS.len rf sl23, RdS.idx rf sl23, RdS.cellB rf (Ext.pres eB), RdS.cells rf, RdS.len hr5 sl56, RdS.idx hr5 sl56, RdS.cellB hr5 (Ext.pres eB), RdS.cells hr5, BoxAt.cell hb0_0, BoxAt.cell hb0_1, wrap_id]
        refine hK _ _ ?_
        clear hK K
        refine den_cond rfl (fun c2 => ?_) (fun c2 => ?_)
        · try simp only [decide_eq_true_eq, decide_eq_false_iff_not, beq_iff_eq, beq_eq_false_iff_ne, bne_iff_ne, ne_eq, Bool.not_eq_true', Bool.not_eq_false', Bool.and_eq_true, Bool.or_eq_true, bne_eq_false_iff_eq, Bool.or_eq_false_iff, Bool.and_eq_false_iff] at c2
          refine den_seq ?_
          refine den_region TTok ?_
          intro K hK
          simp -implicitDefEqProofs (disch := first | decide | assumption | omega) only [go_sem, RdS.len hdX sl22, RdS.idx hdX sl22, R1.intB hdX (Ext.pres eB), RdS.cells hdX, RdS.len hmX sl23, RdS.idx hmX sl23, RdS.cellB hmX (Ext.pres eB), RdS.cells hmX, RdS.len hdY sl22, RdS.idx hdY sl22, R1.intB hdY (Ext.pres eB), RdS.cells hdY, RdS.len hmY sl23, RdS.idx hmY sl23, RdS.cellB hmY (Ext.pres eB), RdS.cells hmY, RdS.len rf sl23, RdS.idx rf sl23, RdS.cellB rf (Ext.pres eB), RdS.cells rf, RdS.len hr5 sl56, RdS.idx hr5 sl56, RdS.cellB hr5 (Ext.pres eB), RdS.cells hr5, wrap_id]
          refine hK _ _ ?_
          clear hK K
          refine den_ret ?_
          simp (disch := decide) only [resP_1, puts_same, puts_ne]
          exact ⟨vbool (pdec_no fun hF => c2 (hF.at (by omega)).1), eB⟩
        · try simp only [decide_eq_true_eq, decide_eq_false_iff_not, beq_iff_eq, beq_eq_false_iff_ne, bne_iff_ne, ne_eq, Bool.not_eq_true', Bool.not_eq_false', Bool.and_eq_true, Bool.or_eq_true, bne_eq_false_iff_eq, Bool.or_eq_false_iff, Bool.and_eq_false_iff] at c2
          refine den_skip ?_
          refine den_seq ?_
          refine den_region TTok ?_
          intro K hK
          simp -implicitDefEqProofs (disch := first | decide | assumption | omega) only [go_sem, RdS.len hdX sl22, RdS.idx hdX sl22, R1.intB hdX (Ext.pres eB), RdS.cells hdX, RdS.len hmX sl23, RdS.idx hmX sl23, RdS.cellB hmX (Ext.pres eB), RdS.cells hmX, RdS.len hdY sl22, RdS.idx hdY sl22, R1.intB hdY (Ext.pres eB), RdS.cells hdY, RdS.len hmY sl23, RdS.idx hmY sl23, RdS.cellB hmY (Ext.pres eB), RdS.cells hmY, RdS.len rf sl23, RdS.idx rf sl23, RdS.cellB rf (Ext.pres eB), RdS.cells rf, RdS.len hr5 sl56, RdS.idx hr5 sl56, RdS.cellB hr5 (Ext.pres eB), RdS.cells hr5, BoxAt.cell hb0_0, BoxAt.cell hb0_1, wrap_id]
          refine hK _ _ ?_
          clear hK K
          refine den_block ?_
          refine den_sel [10, 2, 3, 4, 5, 9] ?_
          intro env_6
          simp only [go_sem]
          refine den_loopS (σ := Nat) (fun st_ => [(10, .int .i64 (st_ : Int))]) (fun st_ H => (st_ ≤ (f.getD n default).length) ∧ (((f.getD n default).take st_).all (isRow X.p (dimP Y ((n : Int) + s))) = true) ∧ (Ext h4 H)) (fun st_ => (f.getD n default).length - st_) 0 ?_ ?_
          · exact ⟨by simp, by simp, Ext.refl _⟩
          · rintro i h9 ee8 ⟨hi, ha, cL7⟩
            replace hb0_0 := BoxAt.ext hb0_0 cL7
            replace hb0_1 := BoxAt.ext hb0_1 cL7
            have := Ext.size cL7
            replace eB := Ext.trans eB cL7
            replace cL2 := Ext.trans cL2 cL7
            simp only [List.cons_append, List.nil_append]
            refine den_seq ?_
            refine den_seq ?_
            refine den_region TTok ?_
            intro K hK
            have hr10 := RdS.rowN rf n (by omega)
            have hlhr10 := RdS.le hr10
            simp -implicitDefEqProofs (disch := first | decide | assumption | omega) only [go_sem, ld56, RdS.len hdX sl22, RdS.idx hdX sl22, R1.intB hdX (Ext.pres eB), RdS.cells hdX, RdS.len hmX sl23, RdS.idx hmX sl23, RdS.cellB hmX (Ext.pres eB), RdS.cells hmX, RdS.len hdY sl22, RdS.idx hdY sl22, R1.intB hdY (Ext.pres eB), RdS.cells hdY, RdS.len hmY sl23, RdS.idx hmY sl23, RdS.cellB hmY (Ext.pres eB), RdS.cells hmY, RdS.len rf sl23, RdS.idx rf sl23, RdS.cellB rf (Ext.pres eB), RdS.cells rf, RdS.len hr5 sl56, RdS.idx hr5 sl56, RdS.cellB hr5 (Ext.pres eB), RdS.cells hr5, RdS.len hr10 sl56, RdS.idx hr10 sl56, RdS.cellB hr10 (Ext.pres eB), RdS.cells hr10, BoxAt.cell hb0_0, BoxAt.cell hb0_1, wrap_id]
            refine hK _ _ ?_
            clear hK K
            refine den_cond rfl (fun c3 => ?_) (fun c3 => ?_)
            · try simp only [decide_eq_true_eq, decide_eq_false_iff_not, beq_iff_eq, beq_eq_false_iff_ne, bne_iff_ne, ne_eq, Bool.not_eq_true', Bool.not_eq_false', Bool.and_eq_true, Bool.or_eq_true, bne_eq_false_iff_eq, Bool.or_eq_false_iff, Bool.and_eq_false_iff] at c3
              refine den_skip ?_
              refine den_seq ?_
              refine den_block ?_
              refine den_seq ?_
              refine den_seq ?_
              refine den_draw TTok mixed [] [(0, true), (1, true), (2, true), (3, true), (4, true), (5, true), (6, true), (7, true), (8, true), (9, true), (10, true), (11, true), (12, false), (13, true)] (by kernel_rfl) ?_
              intro K hK
              have hr11 := RdS.rowN rf n (by omega)
              have hlhr11 := RdS.le hr11
              have hr12 := RdS.rowN hr11 i (by omega)
              have hlhr12 := RdS.le hr12
              simp -implicitDefEqProofs (disch := first | decide | assumption | omega) only [go_sem, ld56, ld22, ld30, RdS.len hdX sl22, RdS.idx hdX sl22, R1.intB hdX (Ext.pres eB), RdS.cells hdX, RdS.len hmX sl23, RdS.idx hmX sl23, RdS.cellB hmX (Ext.pres eB), RdS.cells hmX, RdS.len hdY sl22, RdS.idx hdY sl22, R1.intB hdY (Ext.pres eB), RdS.cells hdY, RdS.len hmY sl23, RdS.idx hmY sl23, RdS.cellB hmY (Ext.pres eB), RdS.cells hmY, RdS.len rf sl23, RdS.idx rf sl23, RdS.cellB rf (Ext.pres eB), RdS.cells rf, RdS.len hr5 sl56, RdS.idx hr5 sl56, RdS.cellB hr5 (Ext.pres eB), RdS.cells hr5, RdS.len hr10 sl56, RdS.idx hr10 sl56, RdS.cellB hr10 (Ext.pres eB), RdS.cells hr10, RdS.len hr11 sl56, RdS.idx hr11 sl56, RdS.cellB hr11 (Ext.pres eB), RdS.cells hr11, RdS.len hr12 sl22, RdS.idx hr12 sl22, R1.intB hr12 (Ext.pres eB), RdS.cells hr12, BoxAt.cell hb0_0, BoxAt.cell hb0_1, wrap_id]
              try simp -implicitDefEqProofs (disch := first | decide | assumption | omega) only [go_sem, RdS.len hdX sl22, RdS.idx hdX sl22, R1.intB hdX (Ext.pres eB), RdS.cells hdX, RdS.len hmX sl23, RdS.idx hmX sl23, RdS.cellB hmX (Ext.pres eB), RdS.cells hmX, RdS.len hdY sl22, RdS.idx hdY sl22, R1.intB hdY (Ext.pres eB), RdS.cells hdY, RdS.len hmY sl23, RdS.idx hmY sl23, RdS.cellB hmY (Ext.pres eB), RdS.cells hmY, RdS.len rf sl23, RdS.idx rf sl23, RdS.cellB rf (Ext.pres eB), RdS.cells rf, RdS.len hr5 sl56, RdS.idx hr5 sl56, RdS.cellB hr5 (Ext.pres eB), RdS.cells hr5, RdS.len hr10 sl56, RdS.idx hr10 sl56, RdS.cellB hr10 (Ext.pres eB), RdS.cells hr10, RdS.len hr11 sl56, RdS.idx hr11 sl56, RdS.cellB hr11 (Ext.pres eB), RdS.cells hr11, RdS.len hr12 sl22, RdS.idx hr12 sl22, R1.intB hr12 (Ext.pres eB), RdS.cells hr12, BoxAt.cell hb0_0, BoxAt.cell hb0_1, wrap_id]
              refine CallA.mono (sDim_ok _ Y _ _ ⟨_, _, rfl, (RdS.pres hdY (Ext.pres eB)), (RdS.pres hmY (Ext.pres eB))⟩) ?_
              intro v_ h11_12
              rintro ⟨rfl, e11_12⟩
              replace hb0_0 := BoxAt.ext hb0_0 e11_12
              replace hb0_1 := BoxAt.ext hb0_1 e11_12
              have := Ext.size e11_12
              replace eB := Ext.trans eB e11_12
              replace cL2 := Ext.trans cL2 e11_12
              replace cL7 := Ext.trans cL7 e11_12
              try simp (disch := decide) only [outv_some, outv_none, put_puts]
              refine plK_pres (Ext.pres e11_12) ?_
              try simp -implicitDefEqProofs (disch := first | decide | assumption | omega) only [go_sem, RdS.len hdX sl22, RdS.idx hdX sl22, R1.intB hdX (Ext.pres eB), RdS.cells hdX, RdS.len hmX sl23, RdS.idx hmX sl23, RdS.cellB hmX (Ext.pres eB), RdS.cells hmX, RdS.len hdY sl22, RdS.idx hdY sl22, R1.intB hdY (Ext.pres eB), RdS.cells hdY, RdS.len hmY sl23, RdS.idx hmY sl23, RdS.cellB hmY (Ext.pres eB), RdS.cells hmY, RdS.len rf sl23, RdS.idx rf sl23, RdS.cellB rf (Ext.pres eB), RdS.cells rf, RdS.len hr5 sl56, RdS.idx hr5 sl56, RdS.cellB hr5 (Ext.pres eB), RdS.cells hr5, RdS.len hr10 sl56, RdS.idx hr10 sl56, RdS.cellB hr10 (Ext.pres eB), RdS.cells hr10, RdS.len hr11 sl56, RdS.idx hr11 sl56, RdS.cellB hr11 (Ext.pres eB), RdS.cells hr11, RdS.len hr12 sl22, RdS.idx hr12 sl22, R1.intB hr12 (Ext.pres eB), RdS.cells hr12, BoxAt.cell hb0_0, BoxAt.cell hb0_1, wrap_id]
              refine hK _ _ ?_
              clear hK K
              refine den_cond rfl (fun c4 => ?_) (fun c4 => ?_)
              · try simp only [decide_eq_true_eq, decide_eq_false_iff_not, beq_iff_eq, beq_eq_false_iff_ne, bne_iff_ne, ne_eq, Bool.not_eq_true', Bool.not_eq_false', Bool.and_eq_true, Bool.or_eq_true, bne_eq_false_iff_eq, Bool.or_eq_false_iff, Bool.and_eq_false_iff] at c4
                refine den_seq ?_
                refine den_region TTok ?_
                intro K hK
                simp -implicitDefEqProofs (disch := first | decide | assumption | omega) only [go_sem, RdS.len hdX sl22, RdS.idx hdX sl22, R1.intB hdX (Ext.pres eB), RdS.cells hdX, RdS.len hmX sl23, RdS.idx hmX sl23, RdS.cellB hmX (Ext.pres eB), RdS.cells hmX, RdS.len hdY sl22, RdS.idx hdY sl22, R1.intB hdY (Ext.pres eB), RdS.cells hdY, RdS.len hmY sl23, RdS.idx hmY sl23, RdS.cellB hmY (Ext.pres eB), RdS.cells hmY, RdS.len rf sl23, RdS.idx rf sl23, RdS.cellB rf (Ext.pres eB), RdS.cells rf, RdS.len hr5 sl56, RdS.idx hr5 sl56, RdS.cellB hr5 (Ext.pres eB), RdS.cells hr5, RdS.len hr10 sl56, RdS.idx hr10 sl56, RdS.cellB hr10 (Ext.pres eB), RdS.cells hr10, RdS.len hr11 sl56, RdS.idx hr11 sl56, RdS.cellB hr11 (Ext.pres eB), RdS.cells hr11, RdS.len hr12 sl22, RdS.idx hr12 sl22, R1.intB hr12 (Ext.pres eB), RdS.cells hr12, wrap_id]
                refine hK _ _ ?_
                clear hK K
                refine den_ret ?_
                simp (disch := decide) only [resP_1, puts_same, puts_ne]
                exact ⟨vbool (pdec_no fun hF => c4 (isRow_iff.1 (hF.row (by omega) (by omega))).1), eB⟩
              · try simp only [decide_eq_true_eq, decide_eq_false_iff_not, beq_iff_eq, beq_eq_false_iff_ne, bne_iff_ne, ne_eq, Bool.not_eq_true', Bool.not_eq_false', Bool.and_eq_true, Bool.or_eq_true, bne_eq_false_iff_eq, Bool.or_eq_false_iff, Bool.and_eq_false_iff] at c4
                refine den_skip ?_
                refine den_seq ?_
                refine den_region TTok ?_
                intro K hK
                simp -implicitDefEqProofs (disch := first | decide | assumption | omega) only [go_sem, RdS.len hdX sl22, RdS.idx hdX sl22, R1.intB hdX (Ext.pres eB), RdS.cells hdX, RdS.len hmX sl23, RdS.idx hmX sl23, RdS.cellB hmX (Ext.pres eB), RdS.cells hmX, RdS.len hdY sl22, RdS.idx hdY sl22, R1.intB hdY (Ext.pres eB), RdS.cells hdY, RdS.len hmY sl23, RdS.idx hmY sl23, RdS.cellB hmY (Ext.pres eB), RdS.cells hmY, RdS.len rf sl23, RdS.idx rf sl23, RdS.cellB rf (Ext.pres eB), RdS.cells rf, RdS.len hr5 sl56, RdS.idx hr5 sl56, RdS.cellB hr5 (Ext.pres eB), RdS.cells hr5, RdS.len hr10 sl56, RdS.idx hr10 sl56, RdS.cellB hr10 (Ext.pres eB), RdS.cells hr10, RdS.len hr11 sl56, RdS.idx hr11 sl56, RdS.cellB hr11 (Ext.pres eB), RdS.cells hr11, RdS.len hr12 sl22, RdS.idx hr12 sl22, R1.intB hr12 (Ext.pres eB), RdS.cells hr12, BoxAt.cell hb0_0, BoxAt.cell hb0_1, wrap_id]
                refine hK _ _ ?_
                clear hK K
                refine den_block ?_
                refine den_sel [11, 2, 3, 4, 5, 9, 10] ?_
                intro env_13
                simp only [go_sem]
                refine den_loopP (σ := Nat) (fun st_ => [(11, .int .i64 (st_ : Int))]) (fun st_ => (st_ ≤ ((f.getD n default).getD i default).length) ∧ ((((f.getD n default).getD i default).take st_).all (fun x => in3 x 0 (X.p - 1)) = true)) (fun st_ => ((f.getD n default).getD i default).length - st_) 0 ?_ ?_
                · exact ⟨by simp, by simp⟩
                · rintro m ee14 ⟨hm, hb⟩
                  simp only [List.cons_append, List.nil_append]
                  refine den_seq ?_
                  refine den_seq ?_
                  refine den_region TTok ?_
                  intro K hK
                  have hr16 := RdS.rowN rf n (by omega)
                  have hlhr16 := RdS.le hr16
                  have hr17 := RdS.rowN hr16 i (by omega)
                  have hlhr17 := RdS.le hr17
                  simp -implicitDefEqProofs (disch := first | decide | assumption | omega) only [go_sem, ld56, ld22, RdS.len hdX sl22, RdS.idx hdX sl22, R1.intB hdX (Ext.pres eB), RdS.cells hdX, RdS.len hmX sl23, RdS.idx hmX sl23, RdS.cellB hmX (Ext.pres eB), RdS.cells hmX, RdS.len hdY sl22, RdS.idx hdY sl22, R1.intB hdY (Ext.pres eB), RdS.cells hdY, RdS.len hmY sl23, RdS.idx hmY sl23, RdS.cellB hmY (Ext.pres eB), RdS.cells hmY, RdS.len rf sl23, RdS.idx rf sl23, RdS.cellB rf (Ext.pres eB), RdS.cells rf, RdS.len hr5 sl56, RdS.idx hr5 sl56, RdS.cellB hr5 (Ext.pres eB), RdS.cells hr5, RdS.len hr10 sl56, RdS.idx hr10 sl56, RdS.cellB hr10 (Ext.pres eB), RdS.cells hr10, RdS.len hr11 sl56, RdS.idx hr11 sl56, RdS.cellB hr11 (Ext.pres eB), RdS.cells hr11, RdS.len hr12 sl22, RdS.idx hr12 sl22, R1.intB hr12 (Ext.pres eB), RdS.cells hr12, RdS.len hr16 sl56, RdS.idx hr16 sl56, RdS.cellB hr16 (Ext.pres eB), RdS.cells hr16, RdS.len hr17 sl22, RdS.idx hr17 sl22, R1.intB hr17 (Ext.pres eB), RdS.cells hr17, BoxAt.cell hb0_0, BoxAt.cell hb0_1, wrap_id]
                  refine hK _ _ ?_
                  clear hK K
                  refine den_cond rfl (fun c5 => ?_) (fun c5 => ?_)
                  · try simp only [decide_eq_true_eq, decide_eq_false_iff_not, beq_iff_eq, beq_eq_false_iff_ne, bne_iff_ne, ne_eq, Bool.not_eq_true', Bool.not_eq_false', Bool.and_eq_true, Bool.or_eq_true, bne_eq_false_iff_eq, Bool.or_eq_false_iff, Bool.and_eq_false_iff] at c5
                    refine den_skip ?_
                    refine den_seq ?_
                    refine den_block ?_
                    refine den_seq ?_
                    refine den_draw TTok mixed [] [(0, true), (1, true), (2, true), (3, true), (4, true), (5, true), (6, true), (7, true), (8, true), (9, true), (10, true), (11, true), (12, true), (13, false), (14, true)] (by kernel_rfl) ?_
                    intro K hK
                    have hr18 := RdS.rowN rf n (by omega)
                    have hlhr18 := RdS.le hr18
                    have hr19 := RdS.rowN hr18 i (by omega)
                    have hlhr19 := RdS.le hr19
                    simp -implicitDefEqProofs (disch := first | decide | assumption | omega) only [go_sem, fa30_0, ld56, ld22, ld2, RdS.len hdX sl22, RdS.idx hdX sl22, R1.intB hdX (Ext.pres eB), RdS.cells hdX, RdS.len hmX sl23, RdS.idx hmX sl23, RdS.cellB hmX (Ext.pres eB), RdS.cells hmX, RdS.len hdY sl22, RdS.idx hdY sl22, R1.intB hdY (Ext.pres eB), RdS.cells hdY, RdS.len hmY sl23, RdS.idx hmY sl23, RdS.cellB hmY (Ext.pres eB), RdS.cells hmY, RdS.len rf sl23, RdS.idx rf sl23, RdS.cellB rf (Ext.pres eB), RdS.cells rf, RdS.len hr5 sl56, RdS.idx hr5 sl56, RdS.cellB hr5 (Ext.pres eB), RdS.cells hr5, RdS.len hr10 sl56, RdS.idx hr10 sl56, RdS.cellB hr10 (Ext.pres eB), RdS.cells hr10, RdS.len hr11 sl56, RdS.idx hr11 sl56, RdS.cellB hr11 (Ext.pres eB), RdS.cells hr11, RdS.len hr12 sl22, RdS.idx hr12 sl22, R1.intB hr12 (Ext.pres eB), RdS.cells hr12, RdS.len hr16 sl56, RdS.idx hr16 sl56, RdS.cellB hr16 (Ext.pres eB), RdS.cells hr16, RdS.len hr17 sl22, RdS.idx hr17 sl22, R1.intB hr17 (Ext.pres eB), RdS.cells hr17, RdS.len hr18 sl56, RdS.idx hr18 sl56, RdS.cellB hr18 (Ext.pres eB), RdS.cells hr18, RdS.len hr19 sl22, RdS.idx hr19 sl22, R1.intB hr19 (Ext.pres eB), RdS.cells hr19, BoxAt.cell hb0_0, BoxAt.cell hb0_1, wrap_id]
                    try simp -implicitDefEqProofs (disch := first | decide | assumption | omega) only [go_sem, RdS.len hdX sl22, RdS.idx hdX sl22, R1.intB hdX (Ext.pres eB), RdS.cells hdX, RdS.len hmX sl23, RdS.idx hmX sl23, RdS.cellB hmX (Ext.pres eB), RdS.cells hmX, RdS.len hdY sl22, RdS.idx hdY sl22, R1.intB hdY (Ext.pres eB), RdS.cells hdY, RdS.len hmY sl23, RdS.idx hmY sl23, RdS.cellB hmY (Ext.pres eB), RdS.cells hmY, RdS.len rf sl23, RdS.idx rf sl23, RdS.cellB rf (Ext.pres eB), RdS.cells rf, RdS.len hr5 sl56, RdS.idx hr5 sl56, RdS.cellB hr5 (Ext.pres eB), RdS.cells hr5, RdS.len hr10 sl56, RdS.idx hr10 sl56, RdS.cellB hr10 (Ext.pres eB), RdS.cells hr10, RdS.len hr11 sl56, RdS.idx hr11 sl56, RdS.cellB hr11 (Ext.pres eB), RdS.cells hr11, RdS.len hr12 sl22, RdS.idx hr12 sl22, R1.intB hr12 (Ext.pres eB), RdS.cells hr12, RdS.len hr16 sl56, RdS.idx hr16 sl56, RdS.cellB hr16 (Ext.pres eB), RdS.cells hr16, RdS.len hr17 sl22, RdS.idx hr17 sl22, R1.intB hr17 (Ext.pres eB), RdS.cells hr17, RdS.len hr18 sl56, RdS.idx hr18 sl56, RdS.cellB hr18 (Ext.pres eB), RdS.cells hr18, RdS.len hr19 sl22, RdS.idx hr19 sl22, R1.intB hr19 (Ext.pres eB), RdS.cells hr19, BoxAt.cell hb0_0, BoxAt.cell hb0_1, wrap_id]
                    refine CallA.pure (sIn_ok _ _ _ _) ?_
                    try simp -implicitDefEqProofs (disch := first | decide | assumption | omega) only [go_sem, RdS.len hdX sl22, RdS.idx hdX sl22, R1.intB hdX (Ext.pres eB), RdS.cells hdX, RdS.len hmX sl23, RdS.idx hmX sl23, RdS.cellB hmX (Ext.pres eB), RdS.cells hmX, RdS.len hdY sl22, RdS.idx hdY sl22, R1.intB hdY (Ext.pres eB), RdS.cells hdY, RdS.len hmY sl23, RdS.idx hmY sl23, RdS.cellB hmY (Ext.pres eB), RdS.cells hmY, RdS.len rf sl23, RdS.idx rf sl23, RdS.cellB rf (Ext.pres eB), RdS.cells rf, RdS.len hr5 sl56, RdS.idx hr5 sl56, RdS.cellB hr5 (Ext.pres eB), RdS.cells hr5, RdS.len hr10 sl56, RdS.idx hr10 sl56, RdS.cellB hr10 (Ext.pres eB), RdS.cells hr10, RdS.len hr11 sl56, RdS.idx hr11 sl56, RdS.cellB hr11 (Ext.pres eB), RdS.cells hr11, RdS.len hr12 sl22, RdS.idx hr12 sl22, R1.intB hr12 (Ext.pres eB), RdS.cells hr12, RdS.len hr16 sl56, RdS.idx hr16 sl56, RdS.cellB hr16 (Ext.pres eB), RdS.cells hr16, RdS.len hr17 sl22, RdS.idx hr17 sl22, R1.intB hr17 (Ext.pres eB), RdS.cells hr17, RdS.len hr18 sl56, RdS.idx hr18 sl56, RdS.cellB hr18 (Ext.pres eB), RdS.cells hr18, RdS.len hr19 sl22, RdS.idx hr19 sl22, R1.intB hr19 (Ext.pres eB), RdS.cells hr19, BoxAt.cell hb0_0, BoxAt.cell hb0_1, wrap_id]
                    refine hK _ _ ?_
                    clear hK K
                    refine den_cond rfl (fun c6 => ?_) (fun c6 => ?_)
                    · try simp only [decide_eq_true_eq, decide_eq_false_iff_not, beq_iff_eq, beq_eq_false_iff_ne, bne_iff_ne, ne_eq, Bool.not_eq_true', Bool.not_eq_false', Bool.and_eq_true, Bool.or_eq_true, bne_eq_false_iff_eq, Bool.or_eq_false_iff, Bool.and_eq_false_iff] at c6
                      refine den_seq ?_
                      refine den_region TTok ?_
                      intro K hK
                      simp -implicitDefEqProofs (disch := first | decide | assumption | omega) only [go_sem, RdS.len hdX sl22, RdS.idx hdX sl22, R1.intB hdX (Ext.pres eB), RdS.cells hdX, RdS.len hmX sl23, RdS.idx hmX sl23, RdS.cellB hmX (Ext.pres eB), RdS.cells hmX, RdS.len hdY sl22, RdS.idx hdY sl22, R1.intB hdY (Ext.pres eB), RdS.cells hdY, RdS.len hmY sl23, RdS.idx hmY sl23, RdS.cellB hmY (Ext.pres eB), RdS.cells hmY, RdS.len rf sl23, RdS.idx rf sl23, RdS.cellB rf (Ext.pres eB), RdS.cells rf, RdS.len hr5 sl56, RdS.idx hr5 sl56, RdS.cellB hr5 (Ext.pres eB), RdS.cells hr5, RdS.len hr10 sl56, RdS.idx hr10 sl56, RdS.cellB hr10 (Ext.pres eB), RdS.cells hr10, RdS.len hr11 sl56, RdS.idx hr11 sl56, RdS.cellB hr11 (Ext.pres eB), RdS.cells hr11, RdS.len hr12 sl22, RdS.idx hr12 sl22, R1.intB hr12 (Ext.pres eB), RdS.cells hr12, RdS.len hr16 sl56, RdS.idx hr16 sl56, RdS.cellB hr16 (Ext.pres eB), RdS.cells hr16, RdS.len hr17 sl22, RdS.idx hr17 sl22, R1.intB hr17 (Ext.pres eB), RdS.cells hr17, RdS.len hr18 sl56, RdS.idx hr18 sl56, RdS.cellB hr18 (Ext.pres eB), RdS.cells hr18, RdS.len hr19 sl22, RdS.idx hr19 sl22, R1.intB hr19 (Ext.pres eB), RdS.cells hr19, wrap_id]
                      refine hK _ _ ?_
                      clear hK K
                      refine den_ret ?_
                      simp (disch := decide) only [resP_1, puts_same, puts_ne]
                      exact ⟨vbool (pdec_no fun hF => by
                        have h := all_at (d := 0) (k := m) (isRow_all (hF.row (n := n) (i := i) (by omega) (by omega))) (by omega)
                        have c := c6
                        simp only [Bool.not_eq_true, h] at c
                        cases c), eB⟩
                    · try simp only [decide_eq_true_eq, decide_eq_false_iff_not, beq_iff_eq, beq_eq_false_iff_ne, bne_iff_ne, ne_eq, Bool.not_eq_true', Bool.not_eq_false', Bool.and_eq_true, Bool.or_eq_true, bne_eq_false_iff_eq, Bool.or_eq_false_iff, Bool.and_eq_false_iff] at c6
                      refine den_skip ?_
                      refine den_blk ?_
                      refine den_region TTok ?_
                      intro K hK
                      simp -implicitDefEqProofs (disch := first | decide | assumption | omega) only [go_sem, RdS.len hdX sl22, RdS.idx hdX sl22, R1.intB hdX (Ext.pres eB), RdS.cells hdX, RdS.len hmX sl23, RdS.idx hmX sl23, RdS.cellB hmX (Ext.pres eB), RdS.cells hmX, RdS.len hdY sl22, RdS.idx hdY sl22, R1.intB hdY (Ext.pres eB), RdS.cells hdY, RdS.len hmY sl23, RdS.idx hmY sl23, RdS.cellB hmY (Ext.pres eB), RdS.cells hmY, RdS.len rf sl23, RdS.idx rf sl23, RdS.cellB rf (Ext.pres eB), RdS.cells rf, RdS.len hr5 sl56, RdS.idx hr5 sl56, RdS.cellB hr5 (Ext.pres eB), RdS.cells hr5, RdS.len hr10 sl56, RdS.idx hr10 sl56, RdS.cellB hr10 (Ext.pres eB), RdS.cells hr10, RdS.len hr11 sl56, RdS.idx hr11 sl56, RdS.cellB hr11 (Ext.pres eB), RdS.cells hr11, RdS.len hr12 sl22, RdS.idx hr12 sl22, R1.intB hr12 (Ext.pres eB), RdS.cells hr12, RdS.len hr16 sl56, RdS.idx hr16 sl56, RdS.cellB hr16 (Ext.pres eB), RdS.cells hr16, RdS.len hr17 sl22, RdS.idx hr17 sl22, R1.intB hr17 (Ext.pres eB), RdS.cells hr17, RdS.len hr18 sl56, RdS.idx hr18 sl56, RdS.cellB hr18 (Ext.pres eB), RdS.cells hr18, RdS.len hr19 sl22, RdS.idx hr19 sl22, R1.intB hr19 (Ext.pres eB), RdS.cells hr19, BoxAt.cell hb0_0, BoxAt.cell hb0_1, wrap_id]
                      refine hK _ _ ?_
                      clear hK K
                      refine den_stop ?_
                      exact ⟨m + 1, by simp [HasL, puts_at], ⟨rfl, by omega, all_step (d := 0) (by omega) hb (by simpa using c6)⟩, by first | omega | (dsimp only; omega)⟩
                  · try simp only [decide_eq_true_eq, decide_eq_false_iff_not, beq_iff_eq, beq_eq_false_iff_ne, bne_iff_ne, ne_eq, Bool.not_eq_true', Bool.not_eq_false', Bool.and_eq_true, Bool.or_eq_true, bne_eq_false_iff_eq, Bool.or_eq_false_iff, Bool.and_eq_false_iff] at c5
                    refine den_exit ?_
                    refine denX_code ?_
                    refine denX_stop ?_
                    refine denX_hit ?_
                    refine den_blk ?_
                    refine den_region TTok ?_
                    intro K hK
                    simp -implicitDefEqProofs (disch := first | decide | assumption | omega) only [go_sem, RdS.len hdX sl22, RdS.idx hdX sl22, R1.intB hdX (Ext.pres eB), RdS.cells hdX, RdS.len hmX sl23, RdS.idx hmX sl23, RdS.cellB hmX (Ext.pres eB), RdS.cells hmX, RdS.len hdY sl22, RdS.idx hdY sl22, R1.intB hdY (Ext.pres eB), RdS.cells hdY, RdS.len hmY sl23, RdS.idx hmY sl23, RdS.cellB hmY (Ext.pres eB), RdS.cells hmY, RdS.len rf sl23, RdS.idx rf sl23, RdS.cellB rf (Ext.pres eB), RdS.cells rf, RdS.len hr5 sl56, RdS.idx hr5 sl56, RdS.cellB hr5 (Ext.pres eB), RdS.cells hr5, RdS.len hr10 sl56, RdS.idx hr10 sl56, RdS.cellB hr10 (Ext.pres eB), RdS.cells hr10, RdS.len hr11 sl56, RdS.idx hr11 sl56, RdS.cellB hr11 (Ext.pres eB), RdS.cells hr11, RdS.len hr12 sl22, RdS.idx hr12 sl22, R1.intB hr12 (Ext.pres eB), RdS.cells hr12, RdS.len hr16 sl56, RdS.idx hr16 sl56, RdS.cellB hr16 (Ext.pres eB), RdS.cells hr16, RdS.len hr17 sl22, RdS.idx hr17 sl22, R1.intB hr17 (Ext.pres eB), RdS.cells hr17, BoxAt.cell hb0_0, BoxAt.cell hb0_1, wrap_id]
                    refine hK _ _ ?_
                    clear hK K
                    refine den_stop ?_
                    exact ⟨i + 1, by simp [HasL, puts_at], ⟨by omega, all_step (d := default) (by omega) ha (by rw [isRow, decide_eq_true c4, all_end (by omega) hb]; rfl), cL7⟩, by first | omega | (dsimp only; omega)⟩
            · try simp only [decide_eq_true_eq, decide_eq_false_iff_not, beq_iff_eq, beq_eq_false_iff_ne, bne_iff_ne, ne_eq, Bool.not_eq_true', Bool.not_eq_false', Bool.and_eq_true, Bool.or_eq_true, bne_eq_false_iff_eq, Bool.or_eq_false_iff, Bool.and_eq_false_iff] at c3
              refine den_exit ?_
              refine denX_code ?_
              refine denX_stop ?_
              refine denX_hit ?_
              refine den_blk ?_
              refine den_region TTok ?_
              intro K hK
              simp -implicitDefEqProofs (disch := first | decide | assumption | omega) only [go_sem, RdS.len hdX sl22, RdS.idx hdX sl22, R1.intB hdX (Ext.pres eB), RdS.cells hdX, RdS.len hmX sl23, RdS.idx hmX sl23, RdS.cellB hmX (Ext.pres eB), RdS.cells hmX, RdS.len hdY sl22, RdS.idx hdY sl22, R1.intB hdY (Ext.pres eB), RdS.cells hdY, RdS.len hmY sl23, RdS.idx hmY sl23, RdS.cellB hmY (Ext.pres eB), RdS.cells hmY, RdS.len rf sl23, RdS.idx rf sl23, RdS.cellB rf (Ext.pres eB), RdS.cells rf, RdS.len hr5 sl56, RdS.idx hr5 sl56, RdS.cellB hr5 (Ext.pres eB), RdS.cells hr5, RdS.len hr10 sl56, RdS.idx hr10 sl56, RdS.cellB hr10 (Ext.pres eB), RdS.cells hr10, BoxAt.cell hb0_0, BoxAt.cell hb0_1, wrap_id]
              refine hK _ _ ?_
              clear hK K
              refine den_stop ?_
              exact ⟨n + 1, by simp [HasL, puts_at], ⟨by omega, fun j hj => (Nat.lt_succ_iff_lt_or_eq.1 hj).elim (hz j) (fun e => by rw [e]; exact famAt_iff.2 ⟨c2, all_end (by omega) ha⟩), cL2⟩, by first | omega | (dsimp only; omega)⟩
      · try simp only [decide_eq_true_eq, decide_eq_false_iff_not, beq_iff_eq, beq_eq_false_iff_ne, bne_iff_ne, ne_eq, Bool.not_eq_true', Bool.not_eq_false', Bool.and_eq_true, Bool.or_eq_true, bne_eq_false_iff_eq, Bool.or_eq_false_iff, Bool.and_eq_false_iff] at c1
        refine den_exit ?_
        refine denX_code ?_
        refine denX_stop ?_
        refine denX_hit ?_
        refine den_seq ?_
        refine den_region TTok ?_
        intro K hK
        simp -implicitDefEqProofs (disch := first | decide | assumption | omega) only [go_sem, RdS.len hdX sl22, RdS.idx hdX sl22, R1.intB hdX (Ext.pres eB), RdS.cells hdX, RdS.len hmX sl23, RdS.idx hmX sl23, RdS.cellB hmX (Ext.pres eB), RdS.cells hmX, RdS.len hdY sl22, RdS.idx hdY sl22, R1.intB hdY (Ext.pres eB), RdS.cells hdY, RdS.len hmY sl23, RdS.idx hmY sl23, RdS.cellB hmY (Ext.pres eB), RdS.cells hmY, RdS.len rf sl23, RdS.idx rf sl23, RdS.cellB rf (Ext.pres eB), RdS.cells rf, wrap_id]
        refine hK _ _ ?_
        clear hK K
        refine den_ret ?_
        simp (disch := decide) only [resP_1, puts_same, puts_ne]
        exact ⟨vbool (pdec_yes ⟨by omega, fun j hj => hz j (by omega)⟩), eB⟩

set_option maxRecDepth 100000 in
theorem idx4_ok (v : Value) (xs : List (List (List (List Int)))) (g : FuncId) (cs : Array Value) (f : List (List (List Int)) → Bool) (h : Heap) (hv : R4 h v xs) (hf : ∀ j, j < xs.length → ∀ h', Ext h h' → CallA Try.prog g (#[rowV h v j] ++ cs) h' fun u h'' => u = .bool (f (xs.getD j default)) ∧ Ext h' h'') : CallA Try.prog 155 #[v, .func (.func g) #[] cs] h fun v' h' => v' = .int .i64 (idxP f xs) ∧ Ext h h' := by
  have hle := RdS.le hv
  refine callA_intro TTok (args := [_, _]) Try.func155 (by kernel_rfl) rfl 19 rfl (by simp) [.tmp 4] rfl ?_
  simp only [idxs, Nat.reduceAdd]
  refine den_seq ?_
  refine den_region TTok ?_
  intro K hK
  simp -implicitDefEqProofs (disch := first | decide | assumption | omega) only [go_sem, RdS.len hv sl114, RdS.idx hv sl114, RdS.cellB hv (HPres.refl _), RdS.cells hv, wrap_id]
  refine hK _ _ ?_
  clear hK K
  refine den_seq ?_
  refine den_seq ?_
  refine den_region TTok ?_
  intro K hK
  simp -implicitDefEqProofs (disch := first | decide | assumption | omega) only [go_sem, RdS.len hv sl114, RdS.idx hv sl114, RdS.cellB hv (HPres.refl _), RdS.cells hv, wrap_id]
  refine hK _ _ ?_
  clear hK K
  refine den_block ?_
  refine den_sel [8, 0, 1, 7] ?_
  intro env_1
  simp only [go_sem]
  refine den_loopS (σ := Nat) (fun s => [(8, .int .i64 (s : Int))]) (fun s H => Ext h H ∧ s ≤ xs.length ∧ ∀ j, j < s → f (xs.getD j default) = false) (fun s => xs.length - s) 0 ?_ ?_
  · exact ⟨Ext.refl _, by omega, fun j hj => by omega⟩
  · rintro k h4 ee3 ⟨eB, hk, hz⟩
    simp only [List.cons_append, List.nil_append]
    have := Ext.size eB
    refine den_seq ?_
    refine den_region TTok ?_
    intro K hK
    simp -implicitDefEqProofs (disch := first | decide | assumption | omega) only [go_sem, RdS.len hv sl114, RdS.idx hv sl114, RdS.cellB hv (Ext.pres eB), RdS.cells hv, wrap_id]
    refine hK _ _ ?_
    clear hK K
    refine den_seq ?_
    refine den_cond rfl (fun c0 => ?_) (fun c0 => ?_)
    · try simp only [decide_eq_true_eq, decide_eq_false_iff_not, beq_iff_eq, beq_eq_false_iff_ne, bne_iff_ne, ne_eq, Bool.not_eq_true', Bool.not_eq_false', Bool.and_eq_true, Bool.or_eq_true, bne_eq_false_iff_eq] at c0
      refine den_skip ?_
      refine den_seq ?_
      refine den_block ?_
      refine den_seq ?_
      refine den_region TTok ?_
      intro K hK
      simp -implicitDefEqProofs (disch := first | decide | assumption | omega) only [go_sem, RdS.len hv sl114, RdS.idx hv sl114, RdS.cellB hv (Ext.pres eB), RdS.cells hv, wrap_id]
      refine hK _ _ ?_
      clear hK K
      refine den_seq ?_
      refine den_region TTok ?_
      intro K hK
      have hr5 := RdS.rowN hv k (by omega)
      have hlhr5 := RdS.le hr5
      simp -implicitDefEqProofs (disch := first | decide | assumption | omega) only [go_sem, ld23, RdS.len hv sl114, RdS.idx hv sl114, RdS.cellB hv (Ext.pres eB), RdS.cells hv, RdS.len hr5 sl23, RdS.idx hr5 sl23, RdS.cellB hr5 (Ext.pres eB), RdS.cells hr5, wrap_id]
      try simp -implicitDefEqProofs (disch := first | decide | assumption | omega) only [go_sem, RdS.len hv sl114, RdS.idx hv sl114, RdS.cellB hv (Ext.pres eB), RdS.cells hv, RdS.len hr5 sl23, RdS.idx hr5 sl23, RdS.cellB hr5 (Ext.pres eB), RdS.cells hr5, wrap_id]
      refine CallA.mono (hf k (by omega) _ eB) ?_
      intro v_ h4_5
      rintro ⟨rfl, e4_5⟩
      have := Ext.size e4_5
      replace eB := Ext.trans eB e4_5
      try simp -implicitDefEqProofs (disch := first | decide | assumption | omega) only [go_sem, RdS.len hv sl114, RdS.idx hv sl114, RdS.cellB hv (Ext.pres eB), RdS.cells hv, RdS.len hr5 sl23, RdS.idx hr5 sl23, RdS.cellB hr5 (Ext.pres eB), RdS.cells hr5, wrap_id]
      refine hK _ _ ?_
      clear hK K
      refine den_cond rfl (fun c1 => ?_) (fun c1 => ?_)
      · try simp only [decide_eq_true_eq, decide_eq_false_iff_not, beq_iff_eq, beq_eq_false_iff_ne, bne_iff_ne, ne_eq, Bool.not_eq_true', Bool.not_eq_false', Bool.and_eq_true, Bool.or_eq_true, bne_eq_false_iff_eq] at c1
        refine den_seq ?_
        refine den_region TTok ?_
        intro K hK
        simp -implicitDefEqProofs (disch := first | decide | assumption | omega) only [go_sem, RdS.len hv sl114, RdS.idx hv sl114, RdS.cellB hv (Ext.pres eB), RdS.cells hv, RdS.len hr5 sl23, RdS.idx hr5 sl23, RdS.cellB hr5 (Ext.pres eB), RdS.cells hr5, wrap_id]
        refine hK _ _ ?_
        clear hK K
        refine den_ret ?_
        simp (disch := decide) only [resP_1, puts_same, puts_ne]
        exact ⟨vint (idxP_at (by omega) hz (by simpa using c1)).symm, eB⟩
      · try simp only [decide_eq_true_eq, decide_eq_false_iff_not, beq_iff_eq, beq_eq_false_iff_ne, bne_iff_ne, ne_eq, Bool.not_eq_true', Bool.not_eq_false', Bool.and_eq_true, Bool.or_eq_true, bne_eq_false_iff_eq] at c1
        refine den_skip ?_
        refine den_blk ?_
        refine den_region TTok ?_
        intro K hK
        simp -implicitDefEqProofs (disch := first | decide | assumption | omega) only [go_sem, RdS.len hv sl114, RdS.idx hv sl114, RdS.cellB hv (Ext.pres eB), RdS.cells hv, RdS.len hr5 sl23, RdS.idx hr5 sl23, RdS.cellB hr5 (Ext.pres eB), RdS.cells hr5, wrap_id]
        refine hK _ _ ?_
        clear hK K
        refine den_stop ?_
        exact ⟨k + 1, by simp [HasL, puts_at], ⟨eB, by omega, fun j hj => by
          rcases Nat.lt_succ_iff_lt_or_eq.1 hj with h1 | h1
          · exact hz j h1
          · rw [h1]; simpa using c1⟩, by omega⟩
    · try simp only [decide_eq_true_eq, decide_eq_false_iff_not, beq_iff_eq, beq_eq_false_iff_ne, bne_iff_ne, ne_eq, Bool.not_eq_true', Bool.not_eq_false', Bool.and_eq_true, Bool.or_eq_true, bne_eq_false_iff_eq] at c0
      refine den_exit ?_
      refine denX_code ?_
      refine denX_stop ?_
      refine denX_hit ?_
      refine den_seq ?_
      refine den_region TTok ?_
      intro K hK
      simp -implicitDefEqProofs (disch := first | decide | assumption | omega) only [go_sem, RdS.len hv sl114, RdS.idx hv sl114, RdS.cellB hv (Ext.pres eB), RdS.cells hv, wrap_id]
      refine hK _ _ ?_
      clear hK K
      refine den_ret ?_
      simp (disch := decide) only [resP_1, puts_same, puts_ne]
      exact ⟨vint (idxP_none (all_getD (d := default) fun j hj => hz j (by omega))).symm, eB⟩

set_option maxRecDepth 100000 in
theorem has4_ok (v : Value) (xs : List (List (List (List Int)))) (g : FuncId) (cs : Array Value) (f : List (List (List Int)) → Bool) (h : Heap) (hv : R4 h v xs) (hf : ∀ j, j < xs.length → ∀ h', Ext h h' → CallA Try.prog g (#[rowV h v j] ++ cs) h' fun u h'' => u = .bool (f (xs.getD j default)) ∧ Ext h' h'') : CallA Try.prog 129 #[v, .func (.func g) #[] cs] h fun v' h' => v' = .bool (xs.any f) ∧ Ext h h' := by
  refine callA_intro TTok (args := [_, _]) Try.func129 (by kernel_rfl) rfl 9 rfl (by simp) [.tmp 4] rfl ?_
  simp only [idxs, Nat.reduceAdd]
  refine den_seq ?_
  refine den_region TTok ?_
  intro K hK
  simp -implicitDefEqProofs (disch := first | decide | assumption | omega) only [go_sem, RdS.len hv sl114, RdS.idx hv sl114, RdS.cellB hv (HPres.refl _), RdS.cells hv]
  refine hK _ _ ?_
  clear hK K
  refine den_seq ?_
  refine den_region TTok ?_
  intro K hK
  simp -implicitDefEqProofs (disch := first | decide | assumption | omega) only [go_sem, RdS.len hv sl114, RdS.idx hv sl114, RdS.cellB hv (HPres.refl _), RdS.cells hv]
  try simp -implicitDefEqProofs (disch := first | decide | assumption | omega) only [go_sem, RdS.len hv sl114, RdS.idx hv sl114, RdS.cellB hv (HPres.refl _), RdS.cells hv]
  refine CallA.mono (idx4_ok _ xs _ _ f _ hv hf) ?_
  intro v_ h1_2
  rintro ⟨rfl, e1_2⟩
  have := Ext.size e1_2
  have eB := e1_2
  try simp -implicitDefEqProofs (disch := first | decide | assumption | omega) only [go_sem, RdS.len hv sl114, RdS.idx hv sl114, RdS.cellB hv (Ext.pres eB), RdS.cells hv]
  refine hK _ _ ?_
  clear hK K
  refine den_ret ?_
  simp (disch := decide) only [resP_1, puts_same, puts_ne]
  exact ⟨vbool idxP_any, eB⟩

set_option maxRecDepth 100000 in
theorem famC1_ok (X Y : Cx) (v vdX vmX vdY vmY : Value) (f : List (List (List Int))) (b c : Nat) (h0 h : Heap) (hdX : R1 h0 vdX X.dims) (hmX : R3 h0 vmX X.maps) (hdY : R1 h0 vdY Y.dims) (hmY : R3 h0 vmY Y.maps) (eB : Ext h0 h) (hv : R3 h v f) (hb : BoxAt h b #[.int .i64 X.p, vdX, vmX] 30) (hc : BoxAt h c #[.int .i64 Y.p, vdY, vmY] 30) (hX : IsC X) : CallA Try.prog 130 #[v, .pointer (some ⟨b, 0, none⟩), .pointer (some ⟨c, 0, none⟩)] h fun v' h' => v' = .bool (!famP X Y f 0) ∧ Ext h h' := by
  refine callA_intro TTok (args := [_, _, _]) Try.func130 (by kernel_rfl) rfl 10 rfl (by simp) [.tmp 4] rfl ?_
  simp only [idxs, Nat.reduceAdd]
  refine den_seq ?_
  refine den_region TTok ?_
  intro K hK
  simp -implicitDefEqProofs (disch := first | decide | assumption | omega) only [go_sem, RdS.len hv sl23, RdS.idx hv sl23, RdS.cellB hv (HPres.refl _), RdS.cells hv, BoxAt.cell hb, BoxAt.cell hc]
  refine hK _ _ ?_
  clear hK K
  refine den_seq ?_
  refine den_region TTok ?_
  intro K hK
  simp -implicitDefEqProofs (disch := first | decide | assumption | omega) only [go_sem, ld30, RdS.len hv sl23, RdS.idx hv sl23, RdS.cellB hv (HPres.refl _), RdS.cells hv, BoxAt.cell hb, BoxAt.cell hc]
  try simp -implicitDefEqProofs (disch := first | decide | assumption | omega) only [go_sem, RdS.len hv sl23, RdS.idx hv sl23, RdS.cellB hv (HPres.refl _), RdS.cells hv, BoxAt.cell hb, BoxAt.cell hc]
  refine CallA.mono (iFam_ok _ _ _ X Y f 0 _ ⟨_, _, rfl, RdS.pres hdX (Ext.pres eB), RdS.pres hmX (Ext.pres eB)⟩ ⟨_, _, rfl, RdS.pres hdY (Ext.pres eB), RdS.pres hmY (Ext.pres eB)⟩ hv hX (by omega)) ?_
  intro v_ h1_3
  rintro ⟨rfl, e1⟩
  try simp -implicitDefEqProofs (disch := first | decide | assumption | omega) only [go_sem, RdS.len hv sl23, RdS.idx hv sl23, RdS.cellB hv (HPres.refl _), RdS.cells hv, BoxAt.cell hb, BoxAt.cell hc]
  refine hK _ _ ?_
  clear hK K
  refine den_ret ?_
  simp (disch := decide) only [resP_1, puts_same, puts_ne]
  exact ⟨by first | rfl | trivial, e1⟩
end Go.Proofs.Ytffggocjkhcgeaa

namespace Go.Proofs.Ytffggocjkhcgeaa
open Go
set_option maxRecDepth 100000 in
theorem iFamC_ok (vX vY vL : Value) (X : Cx) (Y : Cx) (L : List (List (List (List Int)))) (h : Heap) (rX : RC h vX X) (rY : RC h vY Y) (rL : R4 h vL L)  : CallA Try.prog 65 #[vX, vY, vL] h fun v' h' => v' = .int .i64 (famC X Y L) ∧ Ext h h' := by
  obtain ⟨vdX, vmX, rfl, hdX, hmX⟩ := rX
  have hledX := RdS.le hdX
  have hlemX := RdS.le hmX
  obtain ⟨vdY, vmY, rfl, hdY, hmY⟩ := rY
  have hledY := RdS.le hdY
  have hlemY := RdS.le hmY
  have hleL := RdS.le rL
  refine callA_intro TTok (args := [_, _, _]) Try.func65 (by kernel_rfl) rfl 20 rfl (by simp) [.tmp 6] rfl ?_
  simp only [idxs, Nat.reduceAdd]
  refine den_seq ?_
  refine den_region TTok ?_
  intro K hK
  simp -implicitDefEqProofs (disch := first | decide | assumption | omega) only [go_sem, RdS.len hdX sl22, RdS.idx hdX sl22, R1.intB hdX (HPres.refl _), RdS.cells hdX, RdS.len hmX sl23, RdS.idx hmX sl23, RdS.cellB hmX (HPres.refl _), RdS.cells hmX, RdS.len hdY sl22, RdS.idx hdY sl22, R1.intB hdY (HPres.refl _), RdS.cells hdY, RdS.len hmY sl23, RdS.idx hmY sl23, RdS.cellB hmY (HPres.refl _), RdS.cells hmY, RdS.len rL sl114, RdS.idx rL sl114, RdS.cellB rL (HPres.refl _), RdS.cells rL, wrap_id]
  refine op_box (cs := #[.int .i64 (X.p), vdX, vmX]) rfl ?_
  intro h0_0 e0_0 hb0_0 z0_0
  have := Ext.size e0_0
  have eB := e0_0
  have hfhb0_0 : Fresh h.size [h.size] := Fresh.one _
  have hlhb0_0 := one_lt (show h.size < h0_0.size by omega)
  try simp -implicitDefEqProofs (disch := first | decide | assumption | omega) only [go_sem, RdS.len hdX sl22, RdS.idx hdX sl22, R1.intB hdX (Ext.pres eB), RdS.cells hdX, RdS.len hmX sl23, RdS.idx hmX sl23, RdS.cellB hmX (Ext.pres eB), RdS.cells hmX, RdS.len hdY sl22, RdS.idx hdY sl22, R1.intB hdY (Ext.pres eB), RdS.cells hdY, RdS.len hmY sl23, RdS.idx hmY sl23, RdS.cellB hmY (Ext.pres eB), RdS.cells hmY, RdS.len rL sl114, RdS.idx rL sl114, RdS.cellB rL (Ext.pres eB), RdS.cells rL, BoxAt.cell hb0_0, wrap_id]
  refine op_box (cs := #[.int .i64 (Y.p), vdY, vmY]) rfl ?_
  intro h0_1 e0_1 hb0_1 z0_1
  replace hb0_0 := BoxAt.ext hb0_0 e0_1
  have := Ext.size e0_1
  replace eB := Ext.trans eB e0_1
  have hfhb0_1 : Fresh h0_0.size [h0_0.size] := Fresh.one _
  have hlhb0_1 := one_lt (show h0_0.size < h0_1.size by omega)
  try simp -implicitDefEqProofs (disch := first | decide | assumption | omega) only [go_sem, RdS.len hdX sl22, RdS.idx hdX sl22, R1.intB hdX (Ext.pres eB), RdS.cells hdX, RdS.len hmX sl23, RdS.idx hmX sl23, RdS.cellB hmX (Ext.pres eB), RdS.cells hmX, RdS.len hdY sl22, RdS.idx hdY sl22, R1.intB hdY (Ext.pres eB), RdS.cells hdY, RdS.len hmY sl23, RdS.idx hmY sl23, RdS.cellB hmY (Ext.pres eB), RdS.cells hmY, RdS.len rL sl114, RdS.idx rL sl114, RdS.cellB rL (Ext.pres eB), RdS.cells rL, BoxAt.cell hb0_0, BoxAt.cell hb0_1, wrap_id]
  refine hK _ _ ?_
  clear hK K
  refine den_seq ?_
  refine den_region TTok ?_
  intro K hK
  simp -implicitDefEqProofs (disch := first | decide | assumption | omega) only [go_sem, ld30, RdS.len hdX sl22, RdS.idx hdX sl22, R1.intB hdX (Ext.pres eB), RdS.cells hdX, RdS.len hmX sl23, RdS.idx hmX sl23, RdS.cellB hmX (Ext.pres eB), RdS.cells hmX, RdS.len hdY sl22, RdS.idx hdY sl22, R1.intB hdY (Ext.pres eB), RdS.cells hdY, RdS.len hmY sl23, RdS.idx hmY sl23, RdS.cellB hmY (Ext.pres eB), RdS.cells hmY, RdS.len rL sl114, RdS.idx rL sl114, RdS.cellB rL (Ext.pres eB), RdS.cells rL, BoxAt.cell hb0_0, BoxAt.cell hb0_1, wrap_id]
  refine op_bs2C (X := X) (Y := Y) ⟨_, _, rfl, (RdS.pres hdX (Ext.pres eB)), (RdS.pres hmX (Ext.pres eB))⟩ ⟨_, _, rfl, (RdS.pres hdY (Ext.pres eB)), (RdS.pres hmY (Ext.pres eB))⟩ ?_
  intro v1_2 h1_2 ho1_2 e1_2
  replace hb0_0 := BoxAt.ext hb0_0 e1_2
  replace hb0_1 := BoxAt.ext hb0_1 e1_2
  have := Ext.size e1_2
  replace eB := Ext.trans eB e1_2
  try simp -implicitDefEqProofs (disch := first | decide | assumption | omega) only [go_sem, RdS.len hdX sl22, RdS.idx hdX sl22, R1.intB hdX (Ext.pres eB), RdS.cells hdX, RdS.len hmX sl23, RdS.idx hmX sl23, RdS.cellB hmX (Ext.pres eB), RdS.cells hmX, RdS.len hdY sl22, RdS.idx hdY sl22, R1.intB hdY (Ext.pres eB), RdS.cells hdY, RdS.len hmY sl23, RdS.idx hmY sl23, RdS.cellB hmY (Ext.pres eB), RdS.cells hmY, RdS.len rL sl114, RdS.idx rL sl114, RdS.cellB rL (Ext.pres eB), RdS.cells rL, BoxAt.cell hb0_0, BoxAt.cell hb0_1, wrap_id]
  try simp -implicitDefEqProofs (disch := first | decide | assumption | omega) only [go_sem, RdS.len hdX sl22, RdS.idx hdX sl22, R1.intB hdX (Ext.pres eB), RdS.cells hdX, RdS.len hmX sl23, RdS.idx hmX sl23, RdS.cellB hmX (Ext.pres eB), RdS.cells hmX, RdS.len hdY sl22, RdS.idx hdY sl22, R1.intB hdY (Ext.pres eB), RdS.cells hdY, RdS.len hmY sl23, RdS.idx hmY sl23, RdS.cellB hmY (Ext.pres eB), RdS.cells hmY, RdS.len rL sl114, RdS.idx rL sl114, RdS.cellB rL (Ext.pres eB), RdS.cells rL, BoxAt.cell hb0_0, BoxAt.cell hb0_1, wrap_id]
  refine CallA.mono (pair2_ok _ _ _ _ ho1_2) ?_
  intro v_ h1_3
  rintro ⟨rfl, e1_3⟩
  replace hb0_0 := BoxAt.ext hb0_0 e1_3
  replace hb0_1 := BoxAt.ext hb0_1 e1_3
  replace ho1_2 := RdA.pres ho1_2 (Ext.pres e1_3)
  have := Ext.size e1_3
  replace eB := Ext.trans eB e1_3
  try simp -implicitDefEqProofs (disch := first | decide | assumption | omega) only [go_sem, RdS.len hdX sl22, RdS.idx hdX sl22, R1.intB hdX (Ext.pres eB), RdS.cells hdX, RdS.len hmX sl23, RdS.idx hmX sl23, RdS.cellB hmX (Ext.pres eB), RdS.cells hmX, RdS.len hdY sl22, RdS.idx hdY sl22, R1.intB hdY (Ext.pres eB), RdS.cells hdY, RdS.len hmY sl23, RdS.idx hmY sl23, RdS.cellB hmY (Ext.pres eB), RdS.cells hmY, RdS.len rL sl114, RdS.idx rL sl114, RdS.cellB rL (Ext.pres eB), RdS.cells rL, BoxAt.cell hb0_0, BoxAt.cell hb0_1, wrap_id]
  refine hK _ _ ?_
  clear hK K
  refine den_seq ?_
  refine den_seq ?_
  refine den_merge [(18, .bool ((((pairC X Y) == (0 : Int)) && (L.any fun f => !famP X Y f 0))))] [7] (fun H => Ext h1_3 H) ?_ ?_
    -- a way
  · refine den_region TTok ?_
    intro K hK
    simp -implicitDefEqProofs (disch := first | decide | assumption | (simp (disch := decide) only [slotOf_zero, slotOf_succ, Option.map_some, puts_same, puts_ne, gv_bool, gv_undef, tt, tf, ft, ff, eq_self, if_true, if_false, Bool.false_eq_true, Bool.not_true, Bool.not_false]; done) | omega) only [go_sem, RdS.len hdX sl22, RdS.idx hdX sl22, R1.intB hdX (Ext.pres eB), RdS.cells hdX, RdS.len hmX sl23, RdS.idx hmX sl23, RdS.cellB hmX (Ext.pres eB), RdS.cells hmX, RdS.len hdY sl22, RdS.idx hdY sl22, R1.intB hdY (Ext.pres eB), RdS.cells hdY, RdS.len hmY sl23, RdS.idx hmY sl23, RdS.cellB hmY (Ext.pres eB), RdS.cells hmY, RdS.len rL sl114, RdS.idx rL sl114, RdS.cellB rL (Ext.pres eB), RdS.cells rL, BoxAt.cell hb0_0, BoxAt.cell hb0_1, wrap_id]
    refine opsP_T (by simp (disch := decide) only [slotOf_zero, slotOf_succ, Option.map_some, puts_same, puts_ne, gv_bool, gv_undef, tt, tf, ft, ff, eq_self, if_true, if_false, Bool.false_eq_true, Bool.not_true, Bool.not_false]; rfl) (fun g1 => ?_) (fun g1 => ?_)
    · obtain ⟨hX, hY, hpp, hll⟩ := pairC_0 (b0 g1)
      try simp -implicitDefEqProofs (disch := first | decide | assumption | (simp (disch := decide) only [slotOf_zero, slotOf_succ, Option.map_some, puts_same, puts_ne, gv_bool, gv_undef, tt, tf, ft, ff, eq_self, if_true, if_false, Bool.false_eq_true, Bool.not_true, Bool.not_false, g1]; done) | omega) only [go_sem, RdS.len hdX sl22, RdS.idx hdX sl22, R1.intB hdX (Ext.pres eB), RdS.cells hdX, RdS.len hmX sl23, RdS.idx hmX sl23, RdS.cellB hmX (Ext.pres eB), RdS.cells hmX, RdS.len hdY sl22, RdS.idx hdY sl22, R1.intB hdY (Ext.pres eB), RdS.cells hdY, RdS.len hmY sl23, RdS.idx hmY sl23, RdS.cellB hmY (Ext.pres eB), RdS.cells hmY, RdS.len rL sl114, RdS.idx rL sl114, RdS.cellB rL (Ext.pres eB), RdS.cells rL, BoxAt.cell hb0_0, BoxAt.cell hb0_1, wrap_id, g1, eq_self, if_true, if_false, Bool.false_eq_true]
      try simp -implicitDefEqProofs (disch := first | decide | assumption | omega) only [go_sem, RdS.len hdX sl22, RdS.idx hdX sl22, R1.intB hdX (Ext.pres eB), RdS.cells hdX, RdS.len hmX sl23, RdS.idx hmX sl23, RdS.cellB hmX (Ext.pres eB), RdS.cells hmX, RdS.len hdY sl22, RdS.idx hdY sl22, R1.intB hdY (Ext.pres eB), RdS.cells hdY, RdS.len hmY sl23, RdS.idx hmY sl23, RdS.cellB hmY (Ext.pres eB), RdS.cells hmY, RdS.len rL sl114, RdS.idx rL sl114, RdS.cellB rL (Ext.pres eB), RdS.cells rL, BoxAt.cell hb0_0, BoxAt.cell hb0_1, wrap_id]
      refine CallA.mono (has4_ok _ L _ _ (fun f => !famP X Y f 0) _ (RdS.pres rL (Ext.pres eB)) (fun j hj h' e => by
    simp only [List.append_toArray, List.cons_append, List.nil_append]
    exact famC1_ok X Y _ _ _ _ _ _ _ _ _ _ hdX hmX hdY hmY (Ext.trans eB e) ((RdS.rowN (RdS.pres rL (Ext.pres eB)) j hj).pres (Ext.pres e)) (BoxAt.ext hb0_0 e) (BoxAt.ext hb0_1 e) hX)) ?_
      intro v_ h2_5
      rintro ⟨rfl, e2_5⟩
      replace hb0_0 := BoxAt.ext hb0_0 e2_5
      replace hb0_1 := BoxAt.ext hb0_1 e2_5
      replace ho1_2 := RdA.pres ho1_2 (Ext.pres e2_5)
      have := Ext.size e2_5
      replace eB := Ext.trans eB e2_5
      try simp -implicitDefEqProofs (disch := first | decide | assumption | (simp (disch := decide) only [slotOf_zero, slotOf_succ, Option.map_some, puts_same, puts_ne, gv_bool, gv_undef, tt, tf, ft, ff, eq_self, if_true, if_false, Bool.false_eq_true, Bool.not_true, Bool.not_false, g1]; done) | omega) only [go_sem, RdS.len hdX sl22, RdS.idx hdX sl22, R1.intB hdX (Ext.pres eB), RdS.cells hdX, RdS.len hmX sl23, RdS.idx hmX sl23, RdS.cellB hmX (Ext.pres eB), RdS.cells hmX, RdS.len hdY sl22, RdS.idx hdY sl22, R1.intB hdY (Ext.pres eB), RdS.cells hdY, RdS.len hmY sl23, RdS.idx hmY sl23, RdS.cellB hmY (Ext.pres eB), RdS.cells hmY, RdS.len rL sl114, RdS.idx rL sl114, RdS.cellB rL (Ext.pres eB), RdS.cells rL, BoxAt.cell hb0_0, BoxAt.cell hb0_1, wrap_id, g1, eq_self, if_true, if_false, Bool.false_eq_true]
      refine hK _ _ ?_
      clear hK K
      refine den_stop ?_
      refine ⟨?_, e2_5⟩
      first | (simp (disch := decide) only [go_sem, g1, eq_self, Bool.true_and, Bool.and_true, Bool.false_and, Bool.and_false, Bool.true_or, Bool.or_true, Bool.false_or, Bool.or_false, if_true, if_false, Bool.false_eq_true]; done) | simp [HasL, sel, puts_at, g1]
    · try simp -implicitDefEqProofs (disch := first | decide | assumption | (simp (disch := decide) only [slotOf_zero, slotOf_succ, Option.map_some, puts_same, puts_ne, gv_bool, gv_undef, tt, tf, ft, ff, eq_self, if_true, if_false, Bool.false_eq_true, Bool.not_true, Bool.not_false, g1]; done) | omega) only [go_sem, RdS.len hdX sl22, RdS.idx hdX sl22, R1.intB hdX (Ext.pres eB), RdS.cells hdX, RdS.len hmX sl23, RdS.idx hmX sl23, RdS.cellB hmX (Ext.pres eB), RdS.cells hmX, RdS.len hdY sl22, RdS.idx hdY sl22, R1.intB hdY (Ext.pres eB), RdS.cells hdY, RdS.len hmY sl23, RdS.idx hmY sl23, RdS.cellB hmY (Ext.pres eB), RdS.cells hmY, RdS.len rL sl114, RdS.idx rL sl114, RdS.cellB rL (Ext.pres eB), RdS.cells rL, BoxAt.cell hb0_0, BoxAt.cell hb0_1, wrap_id, g1, eq_self, if_true, if_false, Bool.false_eq_true]
      refine hK _ _ ?_
      clear hK K
      refine den_stop ?_
      refine ⟨?_, Ext.refl _⟩
      first | (simp (disch := decide) only [go_sem, g1, eq_self, Bool.true_and, Bool.and_true, Bool.false_and, Bool.and_false, Bool.true_or, Bool.or_true, Bool.false_or, Bool.or_false, if_true, if_false, Bool.false_eq_true]; done) | simp [HasL, sel, puts_at, g1]
  intro en2 h3 e4
  replace hb0_0 := BoxAt.ext hb0_0 e4
  replace hb0_1 := BoxAt.ext hb0_1 e4
  replace ho1_2 := RdA.pres ho1_2 (Ext.pres e4)
  have := Ext.size e4
  replace eB := Ext.trans eB e4
  simp (disch := decide) only [go_sem]
  refine den_mergeH [(7, .int .i64 ((cadd (pairC X Y) (2 : Int) (L.any fun f => !famP X Y f 0))))] [] ?_ ?_
  · refine den_cond rfl (fun c0 => ?_) (fun c0 => ?_)
    · refine den_region TTok ?_
      intro K hK
      simp -implicitDefEqProofs (disch := first | decide | assumption | omega) only [go_sem, RdS.len hdX sl22, RdS.idx hdX sl22, R1.intB hdX (Ext.pres eB), RdS.cells hdX, RdS.len hmX sl23, RdS.idx hmX sl23, RdS.cellB hmX (Ext.pres eB), RdS.cells hmX, RdS.len hdY sl22, RdS.idx hdY sl22, R1.intB hdY (Ext.pres eB), RdS.cells hdY, RdS.len hmY sl23, RdS.idx hmY sl23, RdS.cellB hmY (Ext.pres eB), RdS.cells hmY, RdS.len rL sl114, RdS.idx rL sl114, RdS.cellB rL (Ext.pres eB), RdS.cells rL, wrap_id]
      refine hK _ _ ?_
      clear hK K
      refine den_stop ?_
      refine ⟨?_, rfl⟩; simp (disch := decide) only [go_sem, c0, caddT c0, eq_self, if_true, if_false, Bool.false_eq_true, reduceCtorEq]
    · refine den_skip ?_
      refine den_stop ?_
      refine ⟨?_, rfl⟩; simp (disch := decide) only [go_sem, c0, caddF c0, eq_self, if_true, if_false, Bool.false_eq_true, reduceCtorEq]
  intro en5
  simp (disch := decide) only [go_sem]
  refine den_seq ?_
  refine den_region TTok ?_
  intro K hK
  simp -implicitDefEqProofs (disch := first | decide | assumption | omega) only [go_sem, RdS.len hdX sl22, RdS.idx hdX sl22, R1.intB hdX (Ext.pres eB), RdS.cells hdX, RdS.len hmX sl23, RdS.idx hmX sl23, RdS.cellB hmX (Ext.pres eB), RdS.cells hmX, RdS.len hdY sl22, RdS.idx hdY sl22, R1.intB hdY (Ext.pres eB), RdS.cells hdY, RdS.len hmY sl23, RdS.idx hmY sl23, RdS.cellB hmY (Ext.pres eB), RdS.cells hmY, RdS.len rL sl114, RdS.idx rL sl114, RdS.cellB rL (Ext.pres eB), RdS.cells rL, wrap_id]
  refine hK _ _ ?_
  clear hK K
  refine den_ret ?_
  simp (disch := decide) only [resP_1, puts_same, puts_ne]
  exact ⟨rfl, eB⟩

set_option maxRecDepth 100000 in
theorem sFamC_ok (vX vY vL : Value) (X : Cx) (Y : Cx) (L : List (List (List (List Int)))) (h : Heap) (rX : RC h vX X) (rY : RC h vY Y) (rL : R4 h vL L)  : CallA Try.prog 60 #[vX, vY, vL] h fun v' h' => v' = .int .i64 (famC X Y L) ∧ Ext h h' := by
  obtain ⟨vdX, vmX, rfl, hdX, hmX⟩ := rX
  have hledX := RdS.le hdX
  have hlemX := RdS.le hmX
  obtain ⟨vdY, vmY, rfl, hdY, hmY⟩ := rY
  have hledY := RdS.le hdY
  have hlemY := RdS.le hmY
  have hleL := RdS.le rL
  refine callA_intro TTok (args := [_, _, _]) Try.func60 (by kernel_rfl) rfl 29 rfl (by simp) [.tmp 6] rfl ?_
  simp only [idxs, Nat.reduceAdd]
  refine den_seq ?_
  refine den_region TTok ?_
  intro K hK
  simp -implicitDefEqProofs (disch := first | decide | assumption | omega) only [go_sem, RdS.len hdX sl22, RdS.idx hdX sl22, R1.intB hdX (HPres.refl _), RdS.cells hdX, RdS.len hmX sl23, RdS.idx hmX sl23, RdS.cellB hmX (HPres.refl _), RdS.cells hmX, RdS.len hdY sl22, RdS.idx hdY sl22, R1.intB hdY (HPres.refl _), RdS.cells hdY, RdS.len hmY sl23, RdS.idx hmY sl23, RdS.cellB hmY (HPres.refl _), RdS.cells hmY, RdS.len rL sl114, RdS.idx rL sl114, RdS.cellB rL (HPres.refl _), RdS.cells rL, wrap_id]
  refine op_box (cs := #[.int .i64 (X.p), vdX, vmX]) rfl ?_
  intro h0_0 e0_0 hb0_0 z0_0
  have := Ext.size e0_0
  have eB := e0_0
  have hfhb0_0 : Fresh h.size [h.size] := Fresh.one _
  have hlhb0_0 := one_lt (show h.size < h0_0.size by omega)
  try simp -implicitDefEqProofs (disch := first | decide | assumption | omega) only [go_sem, RdS.len hdX sl22, RdS.idx hdX sl22, R1.intB hdX (Ext.pres eB), RdS.cells hdX, RdS.len hmX sl23, RdS.idx hmX sl23, RdS.cellB hmX (Ext.pres eB), RdS.cells hmX, RdS.len hdY sl22, RdS.idx hdY sl22, R1.intB hdY (Ext.pres eB), RdS.cells hdY, RdS.len hmY sl23, RdS.idx hmY sl23, RdS.cellB hmY (Ext.pres eB), RdS.cells hmY, RdS.len rL sl114, RdS.idx rL sl114, RdS.cellB rL (Ext.pres eB), RdS.cells rL, BoxAt.cell hb0_0, wrap_id]
  refine op_box (cs := #[.int .i64 (Y.p), vdY, vmY]) rfl ?_
  intro h0_1 e0_1 hb0_1 z0_1
  replace hb0_0 := BoxAt.ext hb0_0 e0_1
  have := Ext.size e0_1
  replace eB := Ext.trans eB e0_1
  have hfhb0_1 : Fresh h0_0.size [h0_0.size] := Fresh.one _
  have hlhb0_1 := one_lt (show h0_0.size < h0_1.size by omega)
  try simp -implicitDefEqProofs (disch := first | decide | assumption | omega) only [go_sem, RdS.len hdX sl22, RdS.idx hdX sl22, R1.intB hdX (Ext.pres eB), RdS.cells hdX, RdS.len hmX sl23, RdS.idx hmX sl23, RdS.cellB hmX (Ext.pres eB), RdS.cells hmX, RdS.len hdY sl22, RdS.idx hdY sl22, R1.intB hdY (Ext.pres eB), RdS.cells hdY, RdS.len hmY sl23, RdS.idx hmY sl23, RdS.cellB hmY (Ext.pres eB), RdS.cells hmY, RdS.len rL sl114, RdS.idx rL sl114, RdS.cellB rL (Ext.pres eB), RdS.cells rL, BoxAt.cell hb0_0, BoxAt.cell hb0_1, wrap_id]
  refine hK _ _ ?_
  clear hK K
  refine den_seq ?_
  refine den_seq ?_
  refine den_region TTok ?_
  intro K hK
  simp -implicitDefEqProofs (disch := first | decide | assumption | omega) only [go_sem, ld30, RdS.len hdX sl22, RdS.idx hdX sl22, R1.intB hdX (Ext.pres eB), RdS.cells hdX, RdS.len hmX sl23, RdS.idx hmX sl23, RdS.cellB hmX (Ext.pres eB), RdS.cells hmX, RdS.len hdY sl22, RdS.idx hdY sl22, R1.intB hdY (Ext.pres eB), RdS.cells hdY, RdS.len hmY sl23, RdS.idx hmY sl23, RdS.cellB hmY (Ext.pres eB), RdS.cells hmY, RdS.len rL sl114, RdS.idx rL sl114, RdS.cellB rL (Ext.pres eB), RdS.cells rL, BoxAt.cell hb0_0, BoxAt.cell hb0_1, wrap_id]
  try simp -implicitDefEqProofs (disch := first | decide | assumption | omega) only [go_sem, RdS.len hdX sl22, RdS.idx hdX sl22, R1.intB hdX (Ext.pres eB), RdS.cells hdX, RdS.len hmX sl23, RdS.idx hmX sl23, RdS.cellB hmX (Ext.pres eB), RdS.cells hmX, RdS.len hdY sl22, RdS.idx hdY sl22, R1.intB hdY (Ext.pres eB), RdS.cells hdY, RdS.len hmY sl23, RdS.idx hmY sl23, RdS.cellB hmY (Ext.pres eB), RdS.cells hmY, RdS.len rL sl114, RdS.idx rL sl114, RdS.cellB rL (Ext.pres eB), RdS.cells rL, BoxAt.cell hb0_0, BoxAt.cell hb0_1, wrap_id]
  refine CallA.mono (l04Two_ok _ _ X Y _ ⟨_, _, rfl, (RdS.pres hdX (Ext.pres eB)), (RdS.pres hmX (Ext.pres eB))⟩ ⟨_, _, rfl, (RdS.pres hdY (Ext.pres eB)), (RdS.pres hmY (Ext.pres eB))⟩ ) ?_
  intro v_ h1_2
  rintro ⟨rfl, e1_2⟩
  replace hb0_0 := BoxAt.ext hb0_0 e1_2
  replace hb0_1 := BoxAt.ext hb0_1 e1_2
  have := Ext.size e1_2
  replace eB := Ext.trans eB e1_2
  try simp -implicitDefEqProofs (disch := first | decide | assumption | omega) only [go_sem, RdS.len hdX sl22, RdS.idx hdX sl22, R1.intB hdX (Ext.pres eB), RdS.cells hdX, RdS.len hmX sl23, RdS.idx hmX sl23, RdS.cellB hmX (Ext.pres eB), RdS.cells hmX, RdS.len hdY sl22, RdS.idx hdY sl22, R1.intB hdY (Ext.pres eB), RdS.cells hdY, RdS.len hmY sl23, RdS.idx hmY sl23, RdS.cellB hmY (Ext.pres eB), RdS.cells hmY, RdS.len rL sl114, RdS.idx rL sl114, RdS.cellB rL (Ext.pres eB), RdS.cells rL, BoxAt.cell hb0_0, BoxAt.cell hb0_1, wrap_id]
  refine hK _ _ ?_
  clear hK K
  refine den_seq ?_
  refine den_region TTok ?_
  intro K hK
  simp -implicitDefEqProofs (disch := first | decide | assumption | omega) only [go_sem, RdS.len hdX sl22, RdS.idx hdX sl22, R1.intB hdX (Ext.pres eB), RdS.cells hdX, RdS.len hmX sl23, RdS.idx hmX sl23, RdS.cellB hmX (Ext.pres eB), RdS.cells hmX, RdS.len hdY sl22, RdS.idx hdY sl22, R1.intB hdY (Ext.pres eB), RdS.cells hdY, RdS.len hmY sl23, RdS.idx hmY sl23, RdS.cellB hmY (Ext.pres eB), RdS.cells hmY, RdS.len rL sl114, RdS.idx rL sl114, RdS.cellB rL (Ext.pres eB), RdS.cells rL, BoxAt.cell hb0_0, BoxAt.cell hb0_1, wrap_id]
  refine hK _ _ ?_
  clear hK K
  refine den_cond rfl (fun c0 => ?_) (fun c0 => ?_)
  · try simp only [decide_eq_true_eq, decide_eq_false_iff_not, beq_iff_eq, beq_eq_false_iff_ne, bne_iff_ne, ne_eq, Bool.not_eq_true', Bool.not_eq_false', Bool.and_eq_true, Bool.or_eq_true, bne_eq_false_iff_eq] at c0
    refine den_seq ?_
    refine den_region TTok ?_
    intro K hK
    simp -implicitDefEqProofs (disch := first | decide | assumption | omega) only [go_sem, RdS.len hdX sl22, RdS.idx hdX sl22, R1.intB hdX (Ext.pres eB), RdS.cells hdX, RdS.len hmX sl23, RdS.idx hmX sl23, RdS.cellB hmX (Ext.pres eB), RdS.cells hmX, RdS.len hdY sl22, RdS.idx hdY sl22, R1.intB hdY (Ext.pres eB), RdS.cells hdY, RdS.len hmY sl23, RdS.idx hmY sl23, RdS.cellB hmY (Ext.pres eB), RdS.cells hmY, RdS.len rL sl114, RdS.idx rL sl114, RdS.cellB rL (Ext.pres eB), RdS.cells rL, wrap_id]
    refine hK _ _ ?_
    clear hK K
    refine den_ret ?_
    simp (disch := decide) only [resP_1, puts_same, puts_ne]
    exact ⟨vint (by rw [famC, cadd_n c0]), eB⟩
  · try simp only [decide_eq_true_eq, decide_eq_false_iff_not, beq_iff_eq, beq_eq_false_iff_ne, bne_iff_ne, ne_eq, Bool.not_eq_true', Bool.not_eq_false', Bool.and_eq_true, Bool.or_eq_true, bne_eq_false_iff_eq] at c0
    obtain ⟨hX, hY, hpp, hll⟩ := pairC_0 c0
    refine den_skip ?_
    refine den_seq ?_
    refine den_seq ?_
    refine den_region TTok ?_
    intro K hK
    simp -implicitDefEqProofs (disch := first | decide | assumption | omega) only [go_sem, RdS.len hdX sl22, RdS.idx hdX sl22, R1.intB hdX (Ext.pres eB), RdS.cells hdX, RdS.len hmX sl23, RdS.idx hmX sl23, RdS.cellB hmX (Ext.pres eB), RdS.cells hmX, RdS.len hdY sl22, RdS.idx hdY sl22, R1.intB hdY (Ext.pres eB), RdS.cells hdY, RdS.len hmY sl23, RdS.idx hmY sl23, RdS.cellB hmY (Ext.pres eB), RdS.cells hmY, RdS.len rL sl114, RdS.idx rL sl114, RdS.cellB rL (Ext.pres eB), RdS.cells rL, BoxAt.cell hb0_0, BoxAt.cell hb0_1, wrap_id]
    refine hK _ _ ?_
    clear hK K
    refine den_block ?_
    refine den_sel [8, 2, 3, 4] ?_
    intro env_1
    simp only [go_sem]
    refine den_loopS (σ := Nat) (fun st_ => [(8, .int .i64 (st_ : Int))]) (fun st_ H => (st_ ≤ L.length) ∧ (∀ j, j < st_ → (!famP X Y (L.getD j default) 0) = false) ∧ (Ext h1_2 H)) (fun st_ => L.length - st_) 0 ?_ ?_
    · exact ⟨by simp, fun j hj => by omega, Ext.refl _⟩
    · rintro k h4 ee3 ⟨hk, hz, cL2⟩
      replace hb0_0 := BoxAt.ext hb0_0 cL2
      replace hb0_1 := BoxAt.ext hb0_1 cL2
      have := Ext.size cL2
      replace eB := Ext.trans eB cL2
      simp only [List.cons_append, List.nil_append]
      refine den_seq ?_
      refine den_seq ?_
      refine den_region TTok ?_
      intro K hK
      simp -implicitDefEqProofs (disch := first | decide | assumption | omega) only [go_sem, RdS.len hdX sl22, RdS.idx hdX sl22, R1.intB hdX (Ext.pres eB), RdS.cells hdX, RdS.len hmX sl23, RdS.idx hmX sl23, RdS.cellB hmX (Ext.pres eB), RdS.cells hmX, RdS.len hdY sl22, RdS.idx hdY sl22, R1.intB hdY (Ext.pres eB), RdS.cells hdY, RdS.len hmY sl23, RdS.idx hmY sl23, RdS.cellB hmY (Ext.pres eB), RdS.cells hmY, RdS.len rL sl114, RdS.idx rL sl114, RdS.cellB rL (Ext.pres eB), RdS.cells rL, BoxAt.cell hb0_0, BoxAt.cell hb0_1, wrap_id]
      refine hK _ _ ?_
      clear hK K
      refine den_cond rfl (fun c1 => ?_) (fun c1 => ?_)
      · try simp only [decide_eq_true_eq, decide_eq_false_iff_not, beq_iff_eq, beq_eq_false_iff_ne, bne_iff_ne, ne_eq, Bool.not_eq_true', Bool.not_eq_false', Bool.and_eq_true, Bool.or_eq_true, bne_eq_false_iff_eq] at c1
        refine den_skip ?_
        refine den_seq ?_
        refine den_block ?_
        refine den_seq ?_
        refine den_draw TTok mixed [] [(0, true), (1, true), (2, true), (3, true), (4, true), (5, true), (6, false), (7, true)] (by kernel_rfl) ?_
        intro K hK
        have hr5 := RdS.rowN rL k (by omega)
        have hlhr5 := RdS.le hr5
        simp -implicitDefEqProofs (disch := first | decide | assumption | omega) only [go_sem, ld23, ld30, RdS.len hdX sl22, RdS.idx hdX sl22, R1.intB hdX (Ext.pres eB), RdS.cells hdX, RdS.len hmX sl23, RdS.idx hmX sl23, RdS.cellB hmX (Ext.pres eB), RdS.cells hmX, RdS.len hdY sl22, RdS.idx hdY sl22, R1.intB hdY (Ext.pres eB), RdS.cells hdY, RdS.len hmY sl23, RdS.idx hmY sl23, RdS.cellB hmY (Ext.pres eB), RdS.cells hmY, RdS.len rL sl114, RdS.idx rL sl114, RdS.cellB rL (Ext.pres eB), RdS.cells rL, RdS.len hr5 sl23, RdS.idx hr5 sl23, RdS.cellB hr5 (Ext.pres eB), RdS.cells hr5, BoxAt.cell hb0_0, BoxAt.cell hb0_1, wrap_id]
        try simp -implicitDefEqProofs (disch := first | decide | assumption | omega) only [go_sem, RdS.len hdX sl22, RdS.idx hdX sl22, R1.intB hdX (Ext.pres eB), RdS.cells hdX, RdS.len hmX sl23, RdS.idx hmX sl23, RdS.cellB hmX (Ext.pres eB), RdS.cells hmX, RdS.len hdY sl22, RdS.idx hdY sl22, R1.intB hdY (Ext.pres eB), RdS.cells hdY, RdS.len hmY sl23, RdS.idx hmY sl23, RdS.cellB hmY (Ext.pres eB), RdS.cells hmY, RdS.len rL sl114, RdS.idx rL sl114, RdS.cellB rL (Ext.pres eB), RdS.cells rL, RdS.len hr5 sl23, RdS.idx hr5 sl23, RdS.cellB hr5 (Ext.pres eB), RdS.cells hr5, BoxAt.cell hb0_0, BoxAt.cell hb0_1, wrap_id]
        refine CallA.mono (sFam_ok _ _ _ X Y ((L).getD k default) (0 : Int) _ ⟨_, _, rfl, (RdS.pres hdX (Ext.pres eB)), (RdS.pres hmX (Ext.pres eB))⟩ ⟨_, _, rfl, (RdS.pres hdY (Ext.pres eB)), (RdS.pres hmY (Ext.pres eB))⟩ (RdS.pres hr5 (Ext.pres eB)) hX (by omega)) ?_
        intro v_ h7_6
        rintro ⟨rfl, e7_6⟩
        replace hb0_0 := BoxAt.ext hb0_0 e7_6
        replace hb0_1 := BoxAt.ext hb0_1 e7_6
        have := Ext.size e7_6
        replace eB := Ext.trans eB e7_6
        replace cL2 := Ext.trans cL2 e7_6
        try simp (disch := decide) only [outv_some, outv_none, put_puts]
        refine plK_pres (Ext.pres e7_6) ?_
        try simp -implicitDefEqProofs (disch := first | decide | assumption | omega) only [go_sem, RdS.len hdX sl22, RdS.idx hdX sl22, R1.intB hdX (Ext.pres eB), RdS.cells hdX, RdS.len hmX sl23, RdS.idx hmX sl23, RdS.cellB hmX (Ext.pres eB), RdS.cells hmX, RdS.len hdY sl22, RdS.idx hdY sl22, R1.intB hdY (Ext.pres eB), RdS.cells hdY, RdS.len hmY sl23, RdS.idx hmY sl23, RdS.cellB hmY (Ext.pres eB), RdS.cells hmY, RdS.len rL sl114, RdS.idx rL sl114, RdS.cellB rL (Ext.pres eB), RdS.cells rL, RdS.len hr5 sl23, RdS.idx hr5 sl23, RdS.cellB hr5 (Ext.pres eB), RdS.cells hr5, BoxAt.cell hb0_0, BoxAt.cell hb0_1, wrap_id]
        refine hK _ _ ?_
        clear hK K
        refine den_cond rfl (fun c2 => ?_) (fun c2 => ?_)
        · try simp only [decide_eq_true_eq, decide_eq_false_iff_not, beq_iff_eq, beq_eq_false_iff_ne, bne_iff_ne, ne_eq, Bool.not_eq_true', Bool.not_eq_false', Bool.and_eq_true, Bool.or_eq_true, bne_eq_false_iff_eq] at c2
          refine den_seq ?_
          refine den_region TTok ?_
          intro K hK
          simp -implicitDefEqProofs (disch := first | decide | assumption | omega) only [go_sem, RdS.len hdX sl22, RdS.idx hdX sl22, R1.intB hdX (Ext.pres eB), RdS.cells hdX, RdS.len hmX sl23, RdS.idx hmX sl23, RdS.cellB hmX (Ext.pres eB), RdS.cells hmX, RdS.len hdY sl22, RdS.idx hdY sl22, R1.intB hdY (Ext.pres eB), RdS.cells hdY, RdS.len hmY sl23, RdS.idx hmY sl23, RdS.cellB hmY (Ext.pres eB), RdS.cells hmY, RdS.len rL sl114, RdS.idx rL sl114, RdS.cellB rL (Ext.pres eB), RdS.cells rL, RdS.len hr5 sl23, RdS.idx hr5 sl23, RdS.cellB hr5 (Ext.pres eB), RdS.cells hr5, wrap_id]
          refine hK _ _ ?_
          clear hK K
          refine den_ret ?_
          simp (disch := decide) only [resP_1, puts_same, puts_ne]
          exact ⟨vint (by rw [famC, c0, cadd_z, any_stop (d := default) (k := k) (by omega) (by simpa using c2)]; rfl), eB⟩
        · try simp only [decide_eq_true_eq, decide_eq_false_iff_not, beq_iff_eq, beq_eq_false_iff_ne, bne_iff_ne, ne_eq, Bool.not_eq_true', Bool.not_eq_false', Bool.and_eq_true, Bool.or_eq_true, bne_eq_false_iff_eq] at c2
          refine den_skip ?_
          refine den_blk ?_
          refine den_region TTok ?_
          intro K hK
          simp -implicitDefEqProofs (disch := first | decide | assumption | omega) only [go_sem, RdS.len hdX sl22, RdS.idx hdX sl22, R1.intB hdX (Ext.pres eB), RdS.cells hdX, RdS.len hmX sl23, RdS.idx hmX sl23, RdS.cellB hmX (Ext.pres eB), RdS.cells hmX, RdS.len hdY sl22, RdS.idx hdY sl22, R1.intB hdY (Ext.pres eB), RdS.cells hdY, RdS.len hmY sl23, RdS.idx hmY sl23, RdS.cellB hmY (Ext.pres eB), RdS.cells hmY, RdS.len rL sl114, RdS.idx rL sl114, RdS.cellB rL (Ext.pres eB), RdS.cells rL, RdS.len hr5 sl23, RdS.idx hr5 sl23, RdS.cellB hr5 (Ext.pres eB), RdS.cells hr5, BoxAt.cell hb0_0, BoxAt.cell hb0_1, wrap_id]
          refine hK _ _ ?_
          clear hK K
          refine den_stop ?_
          exact ⟨k + 1, by simp [HasL, puts_at], ⟨by omega, fun j hj => (Nat.lt_succ_iff_lt_or_eq.1 hj).elim (hz j) (fun e => by rw [e]; simpa using c2), cL2⟩, by first | omega | (dsimp only; omega)⟩
      · try simp only [decide_eq_true_eq, decide_eq_false_iff_not, beq_iff_eq, beq_eq_false_iff_ne, bne_iff_ne, ne_eq, Bool.not_eq_true', Bool.not_eq_false', Bool.and_eq_true, Bool.or_eq_true, bne_eq_false_iff_eq] at c1
        refine den_exit ?_
        refine denX_code ?_
        refine denX_stop ?_
        refine denX_hit ?_
        refine den_seq ?_
        refine den_region TTok ?_
        intro K hK
        simp -implicitDefEqProofs (disch := first | decide | assumption | omega) only [go_sem, RdS.len hdX sl22, RdS.idx hdX sl22, R1.intB hdX (Ext.pres eB), RdS.cells hdX, RdS.len hmX sl23, RdS.idx hmX sl23, RdS.cellB hmX (Ext.pres eB), RdS.cells hmX, RdS.len hdY sl22, RdS.idx hdY sl22, R1.intB hdY (Ext.pres eB), RdS.cells hdY, RdS.len hmY sl23, RdS.idx hmY sl23, RdS.cellB hmY (Ext.pres eB), RdS.cells hmY, RdS.len rL sl114, RdS.idx rL sl114, RdS.cellB rL (Ext.pres eB), RdS.cells rL, wrap_id]
        refine hK _ _ ?_
        clear hK K
        refine den_ret ?_
        simp (disch := decide) only [resP_1, puts_same, puts_ne]
        exact ⟨vint (by rw [famC, c0, cadd_z, any_end default (k := k) (by omega) hz]; rfl), eB⟩

def imgP (X Y : Cx) (f : List (List (List Int))) (s n : Int) (v : List Int) : List Int := accP X.p v (f.getD n.toNat default) (List.replicate (dimP Y (n + s)).toNat 0)
def appP (X Y : Cx) (f : List (List (List Int))) (s n : Int) (v : List Int) : List Int := if in3 n 0 ((X.dims.length : Int) - 1) = true then imgP X Y f s n v else List.replicate (dimP Y (n + s)).toNat 0
theorem img_pre {X Y : Cx} {f : List (List (List Int))} {s n : Int} {v : List Int} (hY : IsC Y) (hF : IsFam X Y f s) (h0 : 0 ≤ n) (h1 : n ≤ (X.dims.length : Int) - 1) (hv : (v.length : Int) = X.dims.getD n.toNat 0) : (0 ≤ dimP Y (n + s) ∧ dimP Y (n + s) ≤ 8) ∧ n.toNat < f.length ∧ v.length ≤ (f.getD n.toNat default).length ∧ Tbl X.p (dimP Y (n + s)) (f.getD n.toNat default) := by
  have hl := hF.len
  have h := hF.at (n := n.toNat) (by omega)
  have e : ((n.toNat : Nat) : Int) + s = n + s := by omega
  rw [e] at h
  exact ⟨dimP_bnd hY _, by omega, by omega, h.2⟩
theorem img_len {X Y : Cx} {f : List (List (List Int))} {s n : Int} {v : List Int} (hY : IsC Y) (hF : IsFam X Y f s) (h0 : 0 ≤ n) (h1 : n ≤ (X.dims.length : Int) - 1) (hv : (v.length : Int) = X.dims.getD n.toNat 0) : ((imgP X Y f s n v).length : Int) = dimP Y (n + s) := by
  obtain ⟨d, l, k, t⟩ := img_pre hY hF h0 h1 hv
  have e : ((List.replicate (dimP Y (n + s)).toNat (0 : Int)).length : Int) = dimP Y (n + s) := by rw [List.length_replicate]; omega
  rw [imgP, accP_len (by rw [e]; exact t)]; exact e
theorem img_bnd {X Y : Cx} {f : List (List (List Int))} {s n : Int} {v : List Int} (hX : IsC X) (hY : IsC Y) (hF : IsFam X Y f s) (h0 : 0 ≤ n) (h1 : n ≤ (X.dims.length : Int) - 1) (hv : (v.length : Int) = X.dims.getD n.toNat 0) (hb : Bnd X.p v) : Bnd X.p (imgP X Y f s n v) := by
  obtain ⟨d, l, k, t⟩ := img_pre hY hF h0 h1 hv
  have hp := isP_bnd hX.p
  exact accP_bnd hp.1 hb t (Bnd.zeros hp.1 _)

set_option maxRecDepth 100000 in
theorem iApp_ok (vX vY vf vv : Value) (X : Cx) (Y : Cx) (f : List (List (List Int))) (s : Int) (n : Int) (v : List Int) (h : Heap) (rX : RC h vX X) (rY : RC h vY Y) (rf : R3 h vf f) (rv : R1 h vv v) (hX : IsC X) (hY : IsC Y) (hF : IsFam X Y f s) (hs : 0 ≤ s ∧ s ≤ 1) (hn : -1 ≤ n ∧ n ≤ 7) (hv : 0 ≤ n ∧ n ≤ (X.dims.length : Int) - 1 → (v.length : Int) = X.dims.getD n.toNat 0 ∧ Bnd X.p v) : CallA Try.prog 70 #[vX, vY, vf, .int .i64 s, .int .i64 n, vv] h fun v' h' => ∃ w0 f0, v' = w0 ∧ O1 h' w0 (appP X Y f s n v) f0 ∧ Fresh h.size f0 ∧ Ext h h' := by
  obtain ⟨vdX, vmX, rfl, hdX, hmX⟩ := rX
  have hledX := RdS.le hdX
  have hlemX := RdS.le hmX
  obtain ⟨vdY, vmY, rfl, hdY, hmY⟩ := rY
  have hledY := RdS.le hdY
  have hlemY := RdS.le hmY
  have hlef := RdS.le rf
  have hlev := RdS.le rv
  have hlX := hX.len
  have hdd := dimP_bnd hY (n + s)
  refine callA_intro TTok (args := [_, _, _, _, _, _]) Try.func70 (by kernel_rfl) rfl 37 rfl (by simp) [.tmp 12] rfl ?_
  simp only [idxs, Nat.reduceAdd]
  refine den_seq ?_
  refine den_region TTok ?_
  intro K hK
  simp -implicitDefEqProofs (disch := first | decide | assumption | omega) only [go_sem, RdS.len hdX sl22, RdS.idx hdX sl22, R1.intB hdX (HPres.refl _), RdS.cells hdX, RdS.len hmX sl23, RdS.idx hmX sl23, RdS.cellB hmX (HPres.refl _), RdS.cells hmX, RdS.len hdY sl22, RdS.idx hdY sl22, R1.intB hdY (HPres.refl _), RdS.cells hdY, RdS.len hmY sl23, RdS.idx hmY sl23, RdS.cellB hmY (HPres.refl _), RdS.cells hmY, RdS.len rf sl23, RdS.idx rf sl23, RdS.cellB rf (HPres.refl _), RdS.cells rf, RdS.len rv sl22, RdS.idx rv sl22, R1.intB rv (HPres.refl _), RdS.cells rv, wrap_id]
  refine op_box (cs := #[.int .i64 (X.p), vdX, vmX]) rfl ?_
  intro h0_0 e0_0 hb0_0 z0_0
  have := Ext.size e0_0
  have eB := e0_0
  have hfhb0_0 : Fresh h.size [h.size] := Fresh.one _
  have hlhb0_0 := one_lt (show h.size < h0_0.size by omega)
  try simp -implicitDefEqProofs (disch := first | decide | assumption | omega) only [go_sem, RdS.len hdX sl22, RdS.idx hdX sl22, R1.intB hdX (Ext.pres eB), RdS.cells hdX, RdS.len hmX sl23, RdS.idx hmX sl23, RdS.cellB hmX (Ext.pres eB), RdS.cells hmX, RdS.len hdY sl22, RdS.idx hdY sl22, R1.intB hdY (Ext.pres eB), RdS.cells hdY, RdS.len hmY sl23, RdS.idx hmY sl23, RdS.cellB hmY (Ext.pres eB), RdS.cells hmY, RdS.len rf sl23, RdS.idx rf sl23, RdS.cellB rf (Ext.pres eB), RdS.cells rf, RdS.len rv sl22, RdS.idx rv sl22, R1.intB rv (Ext.pres eB), RdS.cells rv, BoxAt.cell hb0_0, wrap_id]
  refine op_box (cs := #[.int .i64 (Y.p), vdY, vmY]) rfl ?_
  intro h0_1 e0_1 hb0_1 z0_1
  replace hb0_0 := BoxAt.ext hb0_0 e0_1
  have := Ext.size e0_1
  replace eB := Ext.trans eB e0_1
  have hfhb0_1 : Fresh h0_0.size [h0_0.size] := Fresh.one _
  have hlhb0_1 := one_lt (show h0_0.size < h0_1.size by omega)
  try simp -implicitDefEqProofs (disch := first | decide | assumption | omega) only [go_sem, RdS.len hdX sl22, RdS.idx hdX sl22, R1.intB hdX (Ext.pres eB), RdS.cells hdX, RdS.len hmX sl23, RdS.idx hmX sl23, RdS.cellB hmX (Ext.pres eB), RdS.cells hmX, RdS.len hdY sl22, RdS.idx hdY sl22, R1.intB hdY (Ext.pres eB), RdS.cells hdY, RdS.len hmY sl23, RdS.idx hmY sl23, RdS.cellB hmY (Ext.pres eB), RdS.cells hmY, RdS.len rf sl23, RdS.idx rf sl23, RdS.cellB rf (Ext.pres eB), RdS.cells rf, RdS.len rv sl22, RdS.idx rv sl22, R1.intB rv (Ext.pres eB), RdS.cells rv, BoxAt.cell hb0_0, BoxAt.cell hb0_1, wrap_id]
  refine hK _ _ ?_
  clear hK K
  refine den_seq ?_
  refine den_seq ?_
  refine den_region TTok ?_
  intro K hK
  simp -implicitDefEqProofs (disch := first | decide | assumption | omega) only [go_sem, ld30, RdS.len hdX sl22, RdS.idx hdX sl22, R1.intB hdX (Ext.pres eB), RdS.cells hdX, RdS.len hmX sl23, RdS.idx hmX sl23, RdS.cellB hmX (Ext.pres eB), RdS.cells hmX, RdS.len hdY sl22, RdS.idx hdY sl22, R1.intB hdY (Ext.pres eB), RdS.cells hdY, RdS.len hmY sl23, RdS.idx hmY sl23, RdS.cellB hmY (Ext.pres eB), RdS.cells hmY, RdS.len rf sl23, RdS.idx rf sl23, RdS.cellB rf (Ext.pres eB), RdS.cells rf, RdS.len rv sl22, RdS.idx rv sl22, R1.intB rv (Ext.pres eB), RdS.cells rv, BoxAt.cell hb0_0, BoxAt.cell hb0_1, wrap_id]
  try simp -implicitDefEqProofs (disch := first | decide | assumption | omega) only [go_sem, RdS.len hdX sl22, RdS.idx hdX sl22, R1.intB hdX (Ext.pres eB), RdS.cells hdX, RdS.len hmX sl23, RdS.idx hmX sl23, RdS.cellB hmX (Ext.pres eB), RdS.cells hmX, RdS.len hdY sl22, RdS.idx hdY sl22, R1.intB hdY (Ext.pres eB), RdS.cells hdY, RdS.len hmY sl23, RdS.idx hmY sl23, RdS.cellB hmY (Ext.pres eB), RdS.cells hmY, RdS.len rf sl23, RdS.idx rf sl23, RdS.cellB rf (Ext.pres eB), RdS.cells rf, RdS.len rv sl22, RdS.idx rv sl22, R1.intB rv (Ext.pres eB), RdS.cells rv, BoxAt.cell hb0_0, BoxAt.cell hb0_1, wrap_id]
  refine CallA.mono (top_ok _ X _ ⟨_, _, rfl, (RdS.pres hdX (Ext.pres eB)), (RdS.pres hmX (Ext.pres eB))⟩) ?_
  intro v_ h1_2
  rintro ⟨rfl, e1_2⟩
  replace hb0_0 := BoxAt.ext hb0_0 e1_2
  replace hb0_1 := BoxAt.ext hb0_1 e1_2
  have := Ext.size e1_2
  replace eB := Ext.trans eB e1_2
  try simp -implicitDefEqProofs (disch := first | decide | assumption | omega) only [go_sem, RdS.len hdX sl22, RdS.idx hdX sl22, R1.intB hdX (Ext.pres eB), RdS.cells hdX, RdS.len hmX sl23, RdS.idx hmX sl23, RdS.cellB hmX (Ext.pres eB), RdS.cells hmX, RdS.len hdY sl22, RdS.idx hdY sl22, R1.intB hdY (Ext.pres eB), RdS.cells hdY, RdS.len hmY sl23, RdS.idx hmY sl23, RdS.cellB hmY (Ext.pres eB), RdS.cells hmY, RdS.len rf sl23, RdS.idx rf sl23, RdS.cellB rf (Ext.pres eB), RdS.cells rf, RdS.len rv sl22, RdS.idx rv sl22, R1.intB rv (Ext.pres eB), RdS.cells rv, BoxAt.cell hb0_0, BoxAt.cell hb0_1, wrap_id]
  try simp -implicitDefEqProofs (disch := first | decide | assumption | omega) only [go_sem, RdS.len hdX sl22, RdS.idx hdX sl22, R1.intB hdX (Ext.pres eB), RdS.cells hdX, RdS.len hmX sl23, RdS.idx hmX sl23, RdS.cellB hmX (Ext.pres eB), RdS.cells hmX, RdS.len hdY sl22, RdS.idx hdY sl22, R1.intB hdY (Ext.pres eB), RdS.cells hdY, RdS.len hmY sl23, RdS.idx hmY sl23, RdS.cellB hmY (Ext.pres eB), RdS.cells hmY, RdS.len rf sl23, RdS.idx rf sl23, RdS.cellB rf (Ext.pres eB), RdS.cells rf, RdS.len rv sl22, RdS.idx rv sl22, R1.intB rv (Ext.pres eB), RdS.cells rv, BoxAt.cell hb0_0, BoxAt.cell hb0_1, wrap_id]
  refine CallA.pure (iIn_ok _ _ _ _) ?_
  try simp -implicitDefEqProofs (disch := first | decide | assumption | omega) only [go_sem, RdS.len hdX sl22, RdS.idx hdX sl22, R1.intB hdX (Ext.pres eB), RdS.cells hdX, RdS.len hmX sl23, RdS.idx hmX sl23, RdS.cellB hmX (Ext.pres eB), RdS.cells hmX, RdS.len hdY sl22, RdS.idx hdY sl22, R1.intB hdY (Ext.pres eB), RdS.cells hdY, RdS.len hmY sl23, RdS.idx hmY sl23, RdS.cellB hmY (Ext.pres eB), RdS.cells hmY, RdS.len rf sl23, RdS.idx rf sl23, RdS.cellB rf (Ext.pres eB), RdS.cells rf, RdS.len rv sl22, RdS.idx rv sl22, R1.intB rv (Ext.pres eB), RdS.cells rv, BoxAt.cell hb0_0, BoxAt.cell hb0_1, wrap_id]
  refine hK _ _ ?_
  clear hK K
  refine den_cond rfl (fun c0 => ?_) (fun c0 => ?_)
  · try simp only [decide_eq_true_eq, decide_eq_false_iff_not, beq_iff_eq, beq_eq_false_iff_ne, bne_iff_ne, ne_eq, Bool.not_eq_true', Bool.not_eq_false', Bool.and_eq_true, Bool.or_eq_true, bne_eq_false_iff_eq, in3_iff, in3_f] at c0
    refine den_seq ?_
    refine den_region TTok ?_
    intro K hK
    simp -implicitDefEqProofs (disch := first | decide | assumption | omega) only [go_sem, ld30, RdS.len hdX sl22, RdS.idx hdX sl22, R1.intB hdX (Ext.pres eB), RdS.cells hdX, RdS.len hmX sl23, RdS.idx hmX sl23, RdS.cellB hmX (Ext.pres eB), RdS.cells hmX, RdS.len hdY sl22, RdS.idx hdY sl22, R1.intB hdY (Ext.pres eB), RdS.cells hdY, RdS.len hmY sl23, RdS.idx hmY sl23, RdS.cellB hmY (Ext.pres eB), RdS.cells hmY, RdS.len rf sl23, RdS.idx rf sl23, RdS.cellB rf (Ext.pres eB), RdS.cells rf, RdS.len rv sl22, RdS.idx rv sl22, R1.intB rv (Ext.pres eB), RdS.cells rv, BoxAt.cell hb0_1, wrap_id]
    try simp -implicitDefEqProofs (disch := first | decide | assumption | omega) only [go_sem, RdS.len hdX sl22, RdS.idx hdX sl22, R1.intB hdX (Ext.pres eB), RdS.cells hdX, RdS.len hmX sl23, RdS.idx hmX sl23, RdS.cellB hmX (Ext.pres eB), RdS.cells hmX, RdS.len hdY sl22, RdS.idx hdY sl22, R1.intB hdY (Ext.pres eB), RdS.cells hdY, RdS.len hmY sl23, RdS.idx hmY sl23, RdS.cellB hmY (Ext.pres eB), RdS.cells hmY, RdS.len rf sl23, RdS.idx rf sl23, RdS.cellB rf (Ext.pres eB), RdS.cells rf, RdS.len rv sl22, RdS.idx rv sl22, R1.intB rv (Ext.pres eB), RdS.cells rv, BoxAt.cell hb0_1, wrap_id]
    refine CallA.mono (iDim_ok _ Y _ _ ⟨_, _, rfl, (RdS.pres hdY (Ext.pres eB)), (RdS.pres hmY (Ext.pres eB))⟩) ?_
    intro v_ h2_4
    rintro ⟨rfl, e2_4⟩
    replace hb0_1 := BoxAt.ext hb0_1 e2_4
    have := Ext.size e2_4
    replace eB := Ext.trans eB e2_4
    try simp -implicitDefEqProofs (disch := first | decide | assumption | omega) only [go_sem, RdS.len hdX sl22, RdS.idx hdX sl22, R1.intB hdX (Ext.pres eB), RdS.cells hdX, RdS.len hmX sl23, RdS.idx hmX sl23, RdS.cellB hmX (Ext.pres eB), RdS.cells hmX, RdS.len hdY sl22, RdS.idx hdY sl22, R1.intB hdY (Ext.pres eB), RdS.cells hdY, RdS.len hmY sl23, RdS.idx hmY sl23, RdS.cellB hmY (Ext.pres eB), RdS.cells hmY, RdS.len rf sl23, RdS.idx rf sl23, RdS.cellB rf (Ext.pres eB), RdS.cells rf, RdS.len rv sl22, RdS.idx rv sl22, R1.intB rv (Ext.pres eB), RdS.cells rv, BoxAt.cell hb0_1, wrap_id]
    refine op_make sz22 rfl rfl (by omega) (by omega) OI 0 (fun _ => ⟨rfl, rfl⟩) ?_
    intro v2_5 h2_5 ho2_5 e2_5
    replace hb0_1 := BoxAt.ext hb0_1 e2_5
    have := Ext.size e2_5
    replace eB := Ext.trans eB e2_5
    have hfho2_5 : Fresh h2_4.size [h2_4.size] := Fresh.one _
    have hlenho2_5 : (List.replicate ((dimP Y (n + s))).toNat (0 : Int)).length = ((dimP Y (n + s))).toNat := List.length_replicate
    have hlho2_5 := OS.lt ho2_5
    try simp -implicitDefEqProofs (disch := first | decide | assumption | omega) only [go_sem, RdS.len hdX sl22, RdS.idx hdX sl22, R1.intB hdX (Ext.pres eB), RdS.cells hdX, RdS.len hmX sl23, RdS.idx hmX sl23, RdS.cellB hmX (Ext.pres eB), RdS.cells hmX, RdS.len hdY sl22, RdS.idx hdY sl22, R1.intB hdY (Ext.pres eB), RdS.cells hdY, RdS.len hmY sl23, RdS.idx hmY sl23, RdS.cellB hmY (Ext.pres eB), RdS.cells hmY, RdS.len rf sl23, RdS.idx rf sl23, RdS.cellB rf (Ext.pres eB), RdS.cells rf, RdS.len rv sl22, RdS.idx rv sl22, R1.intB rv (Ext.pres eB), RdS.cells rv, RdS.len (OS.rd ho2_5) sl22, RdS.idx (OS.rd ho2_5) sl22, R1.intN (OS.rd ho2_5), RdS.cells (OS.rd ho2_5), BoxAt.cell hb0_1, wrap_id]
    refine hK _ _ ?_
    clear hK K
    refine den_ret ?_
    simp (disch := decide) only [resP_1, puts_same, puts_ne]
    have e : appP X Y f s n v = List.replicate (dimP Y (n + s)).toNat 0 := by rw [appP, if_neg (by rw [in3_iff]; omega)]
    rw [e]
    exact ⟨_, _, rfl, ho2_5, hfho2_5.mono (by omega), eB⟩
  · try simp only [decide_eq_true_eq, decide_eq_false_iff_not, beq_iff_eq, beq_eq_false_iff_ne, bne_iff_ne, ne_eq, Bool.not_eq_true', Bool.not_eq_false', Bool.and_eq_true, Bool.or_eq_true, bne_eq_false_iff_eq, in3_iff, in3_f] at c0
    refine den_skip ?_
    refine den_seq ?_
    obtain ⟨hd1, hd2, hd3, hbt⟩ := img_pre (n := n) (v := v) hY hF (by omega) (by omega) (hv (by omega)).1
    have hbv := (hv (by omega)).2
    have hpb := isP_bnd hX.p
    refine den_draw TTok mixed [] [(0, true), (1, true), (2, true), (3, true), (4, true), (5, true), (7, true), (8, true), (9, true), (10, true), (11, true), (6, false), (12, false), (13, true)] (by kernel_rfl) ?_
    intro K hK
    have hr1 := RdS.rowN rf (n).toNat (by omega)
    have hlhr1 := RdS.le hr1
    simp -implicitDefEqProofs (disch := first | decide | assumption | omega) only [go_sem, fa30_0, ld56, ld2, ld30, RdS.len hdX sl22, RdS.idx hdX sl22, R1.intB hdX (Ext.pres eB), RdS.cells hdX, RdS.len hmX sl23, RdS.idx hmX sl23, RdS.cellB hmX (Ext.pres eB), RdS.cells hmX, RdS.len hdY sl22, RdS.idx hdY sl22, R1.intB hdY (Ext.pres eB), RdS.cells hdY, RdS.len hmY sl23, RdS.idx hmY sl23, RdS.cellB hmY (Ext.pres eB), RdS.cells hmY, RdS.len rf sl23, RdS.idx rf sl23, RdS.cellB rf (Ext.pres eB), RdS.cells rf, RdS.len rv sl22, RdS.idx rv sl22, R1.intB rv (Ext.pres eB), RdS.cells rv, RdS.len hr1 sl56, RdS.idx hr1 sl56, RdS.cellB hr1 (Ext.pres eB), RdS.cells hr1, BoxAt.cell hb0_0, BoxAt.cell hb0_1, wrap_id]
    try simp -implicitDefEqProofs (disch := first | decide | assumption | omega) only [go_sem, RdS.len hdX sl22, RdS.idx hdX sl22, R1.intB hdX (Ext.pres eB), RdS.cells hdX, RdS.len hmX sl23, RdS.idx hmX sl23, RdS.cellB hmX (Ext.pres eB), RdS.cells hmX, RdS.len hdY sl22, RdS.idx hdY sl22, R1.intB hdY (Ext.pres eB), RdS.cells hdY, RdS.len hmY sl23, RdS.idx hmY sl23, RdS.cellB hmY (Ext.pres eB), RdS.cells hmY, RdS.len rf sl23, RdS.idx rf sl23, RdS.cellB rf (Ext.pres eB), RdS.cells rf, RdS.len rv sl22, RdS.idx rv sl22, R1.intB rv (Ext.pres eB), RdS.cells rv, RdS.len hr1 sl56, RdS.idx hr1 sl56, RdS.cellB hr1 (Ext.pres eB), RdS.cells hr1, BoxAt.cell hb0_0, BoxAt.cell hb0_1, wrap_id]
    refine CallA.mono (iDim_ok _ Y _ _ ⟨_, _, rfl, (RdS.pres hdY (Ext.pres eB)), (RdS.pres hmY (Ext.pres eB))⟩) ?_
    intro v_ h3_6
    rintro ⟨rfl, e3_6⟩
    replace hb0_0 := BoxAt.ext hb0_0 e3_6
    replace hb0_1 := BoxAt.ext hb0_1 e3_6
    have := Ext.size e3_6
    replace eB := Ext.trans eB e3_6
    try simp (disch := decide) only [outv_some, outv_none, put_puts]
    refine plK_pres (Ext.pres e3_6) ?_
    try simp -implicitDefEqProofs (disch := first | decide | assumption | omega) only [go_sem, RdS.len hdX sl22, RdS.idx hdX sl22, R1.intB hdX (Ext.pres eB), RdS.cells hdX, RdS.len hmX sl23, RdS.idx hmX sl23, RdS.cellB hmX (Ext.pres eB), RdS.cells hmX, RdS.len hdY sl22, RdS.idx hdY sl22, R1.intB hdY (Ext.pres eB), RdS.cells hdY, RdS.len hmY sl23, RdS.idx hmY sl23, RdS.cellB hmY (Ext.pres eB), RdS.cells hmY, RdS.len rf sl23, RdS.idx rf sl23, RdS.cellB rf (Ext.pres eB), RdS.cells rf, RdS.len rv sl22, RdS.idx rv sl22, R1.intB rv (Ext.pres eB), RdS.cells rv, RdS.len hr1 sl56, RdS.idx hr1 sl56, RdS.cellB hr1 (Ext.pres eB), RdS.cells hr1, BoxAt.cell hb0_0, BoxAt.cell hb0_1, wrap_id]
    try simp -implicitDefEqProofs (disch := first | decide | assumption | omega) only [go_sem, RdS.len hdX sl22, RdS.idx hdX sl22, R1.intB hdX (Ext.pres eB), RdS.cells hdX, RdS.len hmX sl23, RdS.idx hmX sl23, RdS.cellB hmX (Ext.pres eB), RdS.cells hmX, RdS.len hdY sl22, RdS.idx hdY sl22, R1.intB hdY (Ext.pres eB), RdS.cells hdY, RdS.len hmY sl23, RdS.idx hmY sl23, RdS.cellB hmY (Ext.pres eB), RdS.cells hmY, RdS.len rf sl23, RdS.idx rf sl23, RdS.cellB rf (Ext.pres eB), RdS.cells rf, RdS.len rv sl22, RdS.idx rv sl22, R1.intB rv (Ext.pres eB), RdS.cells rv, RdS.len hr1 sl56, RdS.idx hr1 sl56, RdS.cellB hr1 (Ext.pres eB), RdS.cells hr1, BoxAt.cell hb0_0, BoxAt.cell hb0_1, wrap_id]
    refine CallA.mono (iApply_ok _ _ _ _ _ _ _ (RdS.pres rv (Ext.pres eB)) (RdS.pres hr1 (Ext.pres eB)) (by omega) (by omega) (by omega) hbv hbt) ?_
    intro v3_12 h3_12
    rintro ⟨f3_12, ho3_12, hf3_12, e3_12⟩
    replace hb0_0 := BoxAt.ext hb0_0 e3_12
    replace hb0_1 := BoxAt.ext hb0_1 e3_12
    have := Ext.size e3_12
    replace eB := Ext.trans eB e3_12
    have hlho3_12 := OS.lt ho3_12
    try simp (disch := decide) only [outv_some, outv_none, put_puts]
    refine plK_pres (Ext.pres e3_12) ?_
    try simp -implicitDefEqProofs (disch := first | decide | assumption | omega) only [go_sem, RdS.len hdX sl22, RdS.idx hdX sl22, R1.intB hdX (Ext.pres eB), RdS.cells hdX, RdS.len hmX sl23, RdS.idx hmX sl23, RdS.cellB hmX (Ext.pres eB), RdS.cells hmX, RdS.len hdY sl22, RdS.idx hdY sl22, R1.intB hdY (Ext.pres eB), RdS.cells hdY, RdS.len hmY sl23, RdS.idx hmY sl23, RdS.cellB hmY (Ext.pres eB), RdS.cells hmY, RdS.len rf sl23, RdS.idx rf sl23, RdS.cellB rf (Ext.pres eB), RdS.cells rf, RdS.len rv sl22, RdS.idx rv sl22, R1.intB rv (Ext.pres eB), RdS.cells rv, RdS.len hr1 sl56, RdS.idx hr1 sl56, RdS.cellB hr1 (Ext.pres eB), RdS.cells hr1, RdS.len (OS.rd ho3_12) sl22, RdS.idx (OS.rd ho3_12) sl22, R1.intN (OS.rd ho3_12), RdS.cells (OS.rd ho3_12), BoxAt.cell hb0_0, BoxAt.cell hb0_1, wrap_id]
    refine hK _ _ ?_
    clear hK K
    refine den_ret ?_
    simp (disch := decide) only [resP_1, puts_same, puts_ne]
    have e : appP X Y f s n v = imgP X Y f s n v := by rw [appP, if_pos (by rw [in3_iff]; omega)]
    rw [e]
    exact ⟨_, _, rfl, ho3_12, hf3_12.mono (by omega), eB⟩

set_option maxRecDepth 100000 in
theorem sImg_ok (vX vY vf vv : Value) (X : Cx) (Y : Cx) (f : List (List (List Int))) (n : Int) (s : Int) (v : List Int) (h : Heap) (rX : RC h vX X) (rY : RC h vY Y) (rf : R3 h vf f) (rv : R1 h vv v) (hX : IsC X) (hY : IsC Y) (hF : IsFam X Y f s) (hs : 0 ≤ s ∧ s ≤ 1) (hn : 0 ≤ n ∧ n ≤ (X.dims.length : Int) - 1) (hv : 0 ≤ n ∧ n ≤ (X.dims.length : Int) - 1 → (v.length : Int) = X.dims.getD n.toNat 0 ∧ Bnd X.p v) : CallA Try.prog 63 #[vX, vY, vf, .int .i64 n, .int .i64 s, vv] h fun v' h' => ∃ w0 f0, v' = w0 ∧ O1 h' w0 (imgP X Y f s n v) f0 ∧ Fresh h.size f0 ∧ Ext h h' := by
  obtain ⟨vdX, vmX, rfl, hdX, hmX⟩ := rX
  have hledX := RdS.le hdX
  have hlemX := RdS.le hmX
  obtain ⟨vdY, vmY, rfl, hdY, hmY⟩ := rY
  have hledY := RdS.le hdY
  have hlemY := RdS.le hmY
  have hlef := RdS.le rf
  have hlev := RdS.le rv
  have hlX := hX.len
  refine callA_intro TTok (args := [_, _, _, _, _, _]) Try.func63 (by kernel_rfl) rfl 26 rfl (by simp) [.tmp 12] rfl ?_
  simp only [idxs, Nat.reduceAdd]
  refine den_seq ?_
  refine den_region TTok ?_
  intro K hK
  simp -implicitDefEqProofs (disch := first | decide | assumption | omega) only [go_sem, RdS.len hdX sl22, RdS.idx hdX sl22, R1.intB hdX (HPres.refl _), RdS.cells hdX, RdS.len hmX sl23, RdS.idx hmX sl23, RdS.cellB hmX (HPres.refl _), RdS.cells hmX, RdS.len hdY sl22, RdS.idx hdY sl22, R1.intB hdY (HPres.refl _), RdS.cells hdY, RdS.len hmY sl23, RdS.idx hmY sl23, RdS.cellB hmY (HPres.refl _), RdS.cells hmY, RdS.len rf sl23, RdS.idx rf sl23, RdS.cellB rf (HPres.refl _), RdS.cells rf, RdS.len rv sl22, RdS.idx rv sl22, R1.intB rv (HPres.refl _), RdS.cells rv, wrap_id]
  refine op_box (cs := #[.int .i64 (X.p), vdX, vmX]) rfl ?_
  intro h0_0 e0_0 hb0_0 z0_0
  have := Ext.size e0_0
  have eB := e0_0
  have hfhb0_0 : Fresh h.size [h.size] := Fresh.one _
  have hlhb0_0 := one_lt (show h.size < h0_0.size by omega)
  try simp -implicitDefEqProofs (disch := first | decide | assumption | omega) only [go_sem, RdS.len hdX sl22, RdS.idx hdX sl22, R1.intB hdX (Ext.pres eB), RdS.cells hdX, RdS.len hmX sl23, RdS.idx hmX sl23, RdS.cellB hmX (Ext.pres eB), RdS.cells hmX, RdS.len hdY sl22, RdS.idx hdY sl22, R1.intB hdY (Ext.pres eB), RdS.cells hdY, RdS.len hmY sl23, RdS.idx hmY sl23, RdS.cellB hmY (Ext.pres eB), RdS.cells hmY, RdS.len rf sl23, RdS.idx rf sl23, RdS.cellB rf (Ext.pres eB), RdS.cells rf, RdS.len rv sl22, RdS.idx rv sl22, R1.intB rv (Ext.pres eB), RdS.cells rv, BoxAt.cell hb0_0, wrap_id]
  refine op_box (cs := #[.int .i64 (Y.p), vdY, vmY]) rfl ?_
  intro h0_1 e0_1 hb0_1 z0_1
  replace hb0_0 := BoxAt.ext hb0_0 e0_1
  have := Ext.size e0_1
  replace eB := Ext.trans eB e0_1
  have hfhb0_1 : Fresh h0_0.size [h0_0.size] := Fresh.one _
  have hlhb0_1 := one_lt (show h0_0.size < h0_1.size by omega)
  try simp -implicitDefEqProofs (disch := first | decide | assumption | omega) only [go_sem, RdS.len hdX sl22, RdS.idx hdX sl22, R1.intB hdX (Ext.pres eB), RdS.cells hdX, RdS.len hmX sl23, RdS.idx hmX sl23, RdS.cellB hmX (Ext.pres eB), RdS.cells hmX, RdS.len hdY sl22, RdS.idx hdY sl22, R1.intB hdY (Ext.pres eB), RdS.cells hdY, RdS.len hmY sl23, RdS.idx hmY sl23, RdS.cellB hmY (Ext.pres eB), RdS.cells hmY, RdS.len rf sl23, RdS.idx rf sl23, RdS.cellB rf (Ext.pres eB), RdS.cells rf, RdS.len rv sl22, RdS.idx rv sl22, R1.intB rv (Ext.pres eB), RdS.cells rv, BoxAt.cell hb0_0, BoxAt.cell hb0_1, wrap_id]
  refine hK _ _ ?_
  clear hK K
  refine den_seq ?_
  obtain ⟨hd1, hd2, hd3, hbt⟩ := img_pre (n := n) (v := v) hY hF (by omega) (by omega) (hv (by omega)).1
  have hbv := (hv (by omega)).2
  have hpb := isP_bnd hX.p
  refine den_draw TTok mixed [] [(0, true), (1, true), (2, true), (3, true), (4, true), (5, true), (6, true), (7, true), (8, true), (9, true), (10, true), (11, false), (12, false), (13, true)] (by kernel_rfl) ?_
  intro K hK
  have hr1 := RdS.rowN rf (n).toNat (by omega)
  have hlhr1 := RdS.le hr1
  simp -implicitDefEqProofs (disch := first | decide | assumption | omega) only [go_sem, fa30_0, ld56, ld2, ld30, RdS.len hdX sl22, RdS.idx hdX sl22, R1.intB hdX (Ext.pres eB), RdS.cells hdX, RdS.len hmX sl23, RdS.idx hmX sl23, RdS.cellB hmX (Ext.pres eB), RdS.cells hmX, RdS.len hdY sl22, RdS.idx hdY sl22, R1.intB hdY (Ext.pres eB), RdS.cells hdY, RdS.len hmY sl23, RdS.idx hmY sl23, RdS.cellB hmY (Ext.pres eB), RdS.cells hmY, RdS.len rf sl23, RdS.idx rf sl23, RdS.cellB rf (Ext.pres eB), RdS.cells rf, RdS.len rv sl22, RdS.idx rv sl22, R1.intB rv (Ext.pres eB), RdS.cells rv, RdS.len hr1 sl56, RdS.idx hr1 sl56, RdS.cellB hr1 (Ext.pres eB), RdS.cells hr1, BoxAt.cell hb0_0, BoxAt.cell hb0_1, wrap_id]
  try simp -implicitDefEqProofs (disch := first | decide | assumption | omega) only [go_sem, RdS.len hdX sl22, RdS.idx hdX sl22, R1.intB hdX (Ext.pres eB), RdS.cells hdX, RdS.len hmX sl23, RdS.idx hmX sl23, RdS.cellB hmX (Ext.pres eB), RdS.cells hmX, RdS.len hdY sl22, RdS.idx hdY sl22, R1.intB hdY (Ext.pres eB), RdS.cells hdY, RdS.len hmY sl23, RdS.idx hmY sl23, RdS.cellB hmY (Ext.pres eB), RdS.cells hmY, RdS.len rf sl23, RdS.idx rf sl23, RdS.cellB rf (Ext.pres eB), RdS.cells rf, RdS.len rv sl22, RdS.idx rv sl22, R1.intB rv (Ext.pres eB), RdS.cells rv, RdS.len hr1 sl56, RdS.idx hr1 sl56, RdS.cellB hr1 (Ext.pres eB), RdS.cells hr1, BoxAt.cell hb0_0, BoxAt.cell hb0_1, wrap_id]
  refine CallA.mono (sDim_ok _ Y _ _ ⟨_, _, rfl, (RdS.pres hdY (Ext.pres eB)), (RdS.pres hmY (Ext.pres eB))⟩) ?_
  intro v_ h1_11
  rintro ⟨rfl, e1_11⟩
  replace hb0_0 := BoxAt.ext hb0_0 e1_11
  replace hb0_1 := BoxAt.ext hb0_1 e1_11
  have := Ext.size e1_11
  replace eB := Ext.trans eB e1_11
  try simp (disch := decide) only [outv_some, outv_none, put_puts]
  refine plK_pres (Ext.pres e1_11) ?_
  try simp -implicitDefEqProofs (disch := first | decide | assumption | omega) only [go_sem, RdS.len hdX sl22, RdS.idx hdX sl22, R1.intB hdX (Ext.pres eB), RdS.cells hdX, RdS.len hmX sl23, RdS.idx hmX sl23, RdS.cellB hmX (Ext.pres eB), RdS.cells hmX, RdS.len hdY sl22, RdS.idx hdY sl22, R1.intB hdY (Ext.pres eB), RdS.cells hdY, RdS.len hmY sl23, RdS.idx hmY sl23, RdS.cellB hmY (Ext.pres eB), RdS.cells hmY, RdS.len rf sl23, RdS.idx rf sl23, RdS.cellB rf (Ext.pres eB), RdS.cells rf, RdS.len rv sl22, RdS.idx rv sl22, R1.intB rv (Ext.pres eB), RdS.cells rv, RdS.len hr1 sl56, RdS.idx hr1 sl56, RdS.cellB hr1 (Ext.pres eB), RdS.cells hr1, BoxAt.cell hb0_0, BoxAt.cell hb0_1, wrap_id]
  try simp -implicitDefEqProofs (disch := first | decide | assumption | omega) only [go_sem, RdS.len hdX sl22, RdS.idx hdX sl22, R1.intB hdX (Ext.pres eB), RdS.cells hdX, RdS.len hmX sl23, RdS.idx hmX sl23, RdS.cellB hmX (Ext.pres eB), RdS.cells hmX, RdS.len hdY sl22, RdS.idx hdY sl22, R1.intB hdY (Ext.pres eB), RdS.cells hdY, RdS.len hmY sl23, RdS.idx hmY sl23, RdS.cellB hmY (Ext.pres eB), RdS.cells hmY, RdS.len rf sl23, RdS.idx rf sl23, RdS.cellB rf (Ext.pres eB), RdS.cells rf, RdS.len rv sl22, RdS.idx rv sl22, R1.intB rv (Ext.pres eB), RdS.cells rv, RdS.len hr1 sl56, RdS.idx hr1 sl56, RdS.cellB hr1 (Ext.pres eB), RdS.cells hr1, BoxAt.cell hb0_0, BoxAt.cell hb0_1, wrap_id]
  refine CallA.mono (sApply_ok _ _ _ _ _ _ _ (RdS.pres rv (Ext.pres eB)) (RdS.pres hr1 (Ext.pres eB)) (by omega) (by omega) (by omega) hbv hbt) ?_
  intro v1_12 h1_12
  rintro ⟨f1_12, ho1_12, hf1_12, e1_12⟩
  replace hb0_0 := BoxAt.ext hb0_0 e1_12
  replace hb0_1 := BoxAt.ext hb0_1 e1_12
  have := Ext.size e1_12
  replace eB := Ext.trans eB e1_12
  have hlho1_12 := OS.lt ho1_12
  try simp (disch := decide) only [outv_some, outv_none, put_puts]
  refine plK_pres (Ext.pres e1_12) ?_
  try simp -implicitDefEqProofs (disch := first | decide | assumption | omega) only [go_sem, RdS.len hdX sl22, RdS.idx hdX sl22, R1.intB hdX (Ext.pres eB), RdS.cells hdX, RdS.len hmX sl23, RdS.idx hmX sl23, RdS.cellB hmX (Ext.pres eB), RdS.cells hmX, RdS.len hdY sl22, RdS.idx hdY sl22, R1.intB hdY (Ext.pres eB), RdS.cells hdY, RdS.len hmY sl23, RdS.idx hmY sl23, RdS.cellB hmY (Ext.pres eB), RdS.cells hmY, RdS.len rf sl23, RdS.idx rf sl23, RdS.cellB rf (Ext.pres eB), RdS.cells rf, RdS.len rv sl22, RdS.idx rv sl22, R1.intB rv (Ext.pres eB), RdS.cells rv, RdS.len hr1 sl56, RdS.idx hr1 sl56, RdS.cellB hr1 (Ext.pres eB), RdS.cells hr1, RdS.len (OS.rd ho1_12) sl22, RdS.idx (OS.rd ho1_12) sl22, R1.intN (OS.rd ho1_12), RdS.cells (OS.rd ho1_12), BoxAt.cell hb0_0, BoxAt.cell hb0_1, wrap_id]
  refine hK _ _ ?_
  clear hK K
  refine den_ret ?_
  simp (disch := decide) only [resP_1, puts_same, puts_ne]
  exact ⟨_, _, rfl, ho1_12, hf1_12.mono (by omega), eB⟩
end Go.Proofs.Ytffggocjkhcgeaa

namespace Go.Proofs.Ytffggocjkhcgeaa
open Go
def mapP (X : Cx) (n : Int) : List (List Int) := if in3 n 1 ((X.dims.length : Int) - 1) = true then X.maps.getD (n - 1).toNat default else List.replicate (dimP X n).toNat []
theorem mapP_ok {X : Cx} (hC : IsC X) {n : Int} (h0 : 0 ≤ n) (h1 : n ≤ (X.dims.length : Int) - 1) : ((mapP X n).length : Int) = X.dims.getD n.toNat 0 ∧ Tbl X.p (dimP X (n - 1)) (mapP X n) := by
  by_cases hn : 1 ≤ n
  · obtain ⟨d, l, t⟩ := hC.pre.app (n := n) (by omega) h1
    rw [mapP, if_pos (in3_iff.2 ⟨hn, h1⟩), dimP, if_pos (in3_iff.2 ⟨by omega, by omega⟩)]
    exact ⟨l, t⟩
  · have e : n = 0 := by omega
    subst e
    have d := dimP_bnd hC 0
    have d0 : dimP X 0 = X.dims.getD (0 : Int).toNat 0 := by rw [dimP, if_pos (in3_iff.2 ⟨by omega, by omega⟩)]
    rw [mapP, if_neg (by rw [in3_iff]; omega), dimP_out (n := 0 - 1) (by omega)]
    refine ⟨by rw [List.length_replicate]; omega, fun r hr => ?_⟩
    rw [List.eq_of_mem_replicate hr]
    exact ⟨rfl, fun x hx => by cases hx⟩
theorem accP_nil {p : Int} : ∀ (v : List Int) (rows : List (List Int)), (∀ r ∈ rows, r = []) → accP p v rows [] = []
  | [], _, _ => rfl
  | _ :: _, [], _ => rfl
  | x :: v, r :: rows, h => by rw [accP, stepRow, List.zipWith_nil_left]; exact accP_nil v rows (fun y hy => h y (List.mem_cons_of_mem _ hy))
theorem diff_spec {X : Cx} (hC : IsC X) {n : Int} (h0 : 0 ≤ n) (h1 : n ≤ (X.dims.length : Int) - 1) (v : List Int) : accP X.p v (mapP X n) (List.replicate (dimP X (n - 1)).toNat 0) = diffP X n v := by
  by_cases hn : 1 ≤ n
  · rw [mapP, if_pos (in3_iff.2 ⟨hn, h1⟩), dimP, if_pos (in3_iff.2 ⟨by omega, by omega⟩), diffP, if_neg (by omega)]
  · have e : n = 0 := by omega
    subst e
    rw [mapP, if_neg (by rw [in3_iff]; omega), dimP_out (n := 0 - 1) (by omega), diffP, if_pos (by omega)]
    exact accP_nil _ _ (fun r hr => List.eq_of_mem_replicate hr)
theorem diff_len {X : Cx} (hC : IsC X) {n : Int} (v : List Int) : ((diffP X n v).length : Int) = dimP X (n - 1) ∨ n ≤ 0 ∨ (X.dims.length : Int) - 1 < n := by
  by_cases hn : n ≤ 0 ∨ (X.dims.length : Int) - 1 < n
  · exact .inr hn
  · obtain ⟨d, l, t⟩ := hC.pre.app (n := n) (by omega) (by omega)
    have e : ((List.replicate (X.dims.getD (n - 1).toNat 0).toNat (0 : Int)).length : Int) = X.dims.getD (n - 1).toNat 0 := by rw [List.length_replicate]; omega
    refine .inl ?_
    rw [diffP, if_neg hn, accP_len (by rw [e]; exact t), e, dimP, if_pos (in3_iff.2 ⟨by omega, by omega⟩)]
theorem diff_bnd {X : Cx} (hC : IsC X) {n : Int} {v : List Int} (hb : Bnd X.p v) : Bnd X.p (diffP X n v) := by
  unfold diffP
  split
  · exact fun x hx => by cases hx
  · rename_i hn
    obtain ⟨d, l, t⟩ := hC.pre.app (n := n) (by omega) (by omega)
    have hp := isP_bnd hC.p
    exact accP_bnd hp.1 hb t (Bnd.zeros hp.1 _)
theorem step0 {p : Int} {row acc : List Int} (hb : Bnd p acc) (hl : row.length = acc.length) : stepRow p 0 row acc = acc := by
  refine getD_extA (stepRow_len hl) (fun n hn => ?_)
  rw [stepRow_len hl] at hn
  have := hb.at hn
  rw [stepRow_get hl hn, Int.zero_mul, Int.add_zero, Int.tmod_eq_of_lt this.1 this.2]
theorem step1 {p : Int} {row : List Int} {w : Nat} (hb : Bnd p row) (hl : row.length = w) : stepRow p 1 row (List.replicate w 0) = row := by
  have hl' : row.length = (List.replicate w (0 : Int)).length := by simpa using hl
  refine getD_extA (by rw [stepRow_len hl']; simpa using hl.symm) (fun n hn => ?_)
  rw [stepRow_len hl'] at hn
  have := hb.at (k := n) (by omega)
  have z : (List.replicate w (0 : Int)).getD n 0 = 0 := by
    rw [List.getD_eq_getElem?_getD, List.getElem?_eq_getElem hn]; simp
  rw [stepRow_get hl' hn, z, Int.zero_add, Int.one_mul, Int.tmod_eq_of_lt this.1 this.2]
theorem accP_zeros {p : Int} : ∀ (m : Nat) (rows : List (List Int)) (acc : List Int), Bnd p acc → Tbl p acc.length rows → accP p (List.replicate m 0) rows acc = acc
  | 0, _, _, _, _ => rfl
  | m + 1, [], _, _, _ => rfl
  | m + 1, r :: rows, acc, hb, ht => by
    have h1 := (ht r (by simp)).1
    rw [List.replicate_succ, accP, step0 hb (by omega)]
    exact accP_zeros m rows acc hb (fun y hy => ht y (List.mem_cons_of_mem _ hy))
theorem accP_unit {p : Int} (hp : 0 < p) {w : Nat} : ∀ (rows : List (List Int)) (i : Nat), i < rows.length → Tbl p w rows → accP p (unitP rows.length i) rows (List.replicate w 0) = rows.getD i default
  | r :: rows, 0, _, ht => by
    have h1 := ht r (by simp)
    have e : unitP (r :: rows).length 0 = 1 :: List.replicate rows.length 0 := by simp [unitP, List.replicate_succ]
    rw [e, accP, step1 h1.2 (by omega), accP_zeros _ _ _ h1.2 (fun y hy => by rw [h1.1]; exact ht y (List.mem_cons_of_mem _ hy))]
    rfl
  | r :: rows, i + 1, hi, ht => by
    have h1 := ht r (by simp)
    have e : unitP (r :: rows).length (i + 1) = 0 :: unitP rows.length i := by simp [unitP, List.replicate_succ]
    rw [e, accP, step0 (Bnd.zeros hp _) (by simp; omega), accP_unit hp rows i (by simpa using hi) (fun y hy => ht y (List.mem_cons_of_mem _ hy))]
    rfl
theorem diff_unit {X : Cx} (hC : IsC X) {k i : Nat} (hk : (k : Int) + 1 ≤ (X.dims.length : Int) - 1) (hi : (i : Int) < X.dims.getD ((k : Int) + 1).toNat 0) : diffP X ((k : Int) + 1) (unitP (X.dims.getD ((k : Int) + 1).toNat 0).toNat i) = (X.maps.getD k default).getD i default := by
  obtain ⟨d, l, t⟩ := hC.pre.app (n := (k : Int) + 1) (by omega) hk
  rw [diffP, if_neg (by omega)]
  rw [Int.add_sub_cancel, Int.toNat_natCast] at *
  have e : (X.dims.getD ((k : Int) + 1).toNat 0).toNat = (X.maps.getD k default).length := by omega
  rw [e]
  exact accP_unit (isP_bnd hC.p).1 _ _ (by omega) (by rw [show (((X.dims.getD k 0).toNat : Nat) : Int) = X.dims.getD k 0 by omega]; exact t)

set_option maxRecDepth 100000 in
theorem sMap_ok (vX : Value) (X : Cx) (n : Int) (h : Heap) (rX : RC h vX X) (hC : IsC X) : CallA Try.prog 75 #[vX, .int .i64 n] h fun v' h' => ∃ w0, v' = w0 ∧ R2 h' w0 (mapP X n) ∧ Ext h h' := by
  obtain ⟨vdX, vmX, rfl, hdX, hmX⟩ := rX
  have hledX := RdS.le hdX
  have hlemX := RdS.le hmX
  have hml := hC.ml
  have hdb := dimP_bnd hC n
  refine callA_intro TTok (args := [_, _]) Try.func75 (by kernel_rfl) rfl 32 rfl (by simp) [.tmp 4] rfl ?_
  simp only [idxs, Nat.reduceAdd]
  refine den_seq ?_
  refine den_region TTok ?_
  intro K hK
  simp -implicitDefEqProofs (disch := first | decide | assumption | omega) only [go_sem, RdS.len hdX sl22, RdS.idx hdX sl22, R1.intB hdX (HPres.refl _), RdS.cells hdX, RdS.len hmX sl23, RdS.idx hmX sl23, RdS.cellB hmX (HPres.refl _), RdS.cells hmX, wrap_id]
  refine op_box (cs := #[.int .i64 (X.p), vdX, vmX]) rfl ?_
  intro h0_0 e0_0 hb0_0 z0_0
  have := Ext.size e0_0
  have eB := e0_0
  have hfhb0_0 : Fresh h.size [h.size] := Fresh.one _
  have hlhb0_0 := one_lt (show h.size < h0_0.size by omega)
  try simp -implicitDefEqProofs (disch := first | decide | assumption | omega) only [go_sem, RdS.len hdX sl22, RdS.idx hdX sl22, R1.intB hdX (Ext.pres eB), RdS.cells hdX, RdS.len hmX sl23, RdS.idx hmX sl23, RdS.cellB hmX (Ext.pres eB), RdS.cells hmX, BoxAt.cell hb0_0, wrap_id]
  refine hK _ _ ?_
  clear hK K
  refine den_seq ?_
  refine den_seq ?_
  refine den_region TTok ?_
  intro K hK
  simp -implicitDefEqProofs (disch := first | decide | assumption | omega) only [go_sem, fa30_1, ld22, RdS.len hdX sl22, RdS.idx hdX sl22, R1.intB hdX (Ext.pres eB), RdS.cells hdX, RdS.len hmX sl23, RdS.idx hmX sl23, RdS.cellB hmX (Ext.pres eB), RdS.cells hmX, BoxAt.cell hb0_0, wrap_id]
  try simp -implicitDefEqProofs (disch := first | decide | assumption | omega) only [go_sem, RdS.len hdX sl22, RdS.idx hdX sl22, R1.intB hdX (Ext.pres eB), RdS.cells hdX, RdS.len hmX sl23, RdS.idx hmX sl23, RdS.cellB hmX (Ext.pres eB), RdS.cells hmX, BoxAt.cell hb0_0, wrap_id]
  refine CallA.pure (sIn_ok _ _ _ _) ?_
  try simp -implicitDefEqProofs (disch := first | decide | assumption | omega) only [go_sem, RdS.len hdX sl22, RdS.idx hdX sl22, R1.intB hdX (Ext.pres eB), RdS.cells hdX, RdS.len hmX sl23, RdS.idx hmX sl23, RdS.cellB hmX (Ext.pres eB), RdS.cells hmX, BoxAt.cell hb0_0, wrap_id]
  refine hK _ _ ?_
  clear hK K
  refine den_cond rfl (fun c0 => ?_) (fun c0 => ?_)
  · try simp only [decide_eq_true_eq, decide_eq_false_iff_not, beq_iff_eq, beq_eq_false_iff_ne, bne_iff_ne, ne_eq, Bool.not_eq_true', Bool.not_eq_false', Bool.and_eq_true, Bool.or_eq_true, bne_eq_false_iff_eq, in3_iff, in3_f] at c0
    refine den_seq ?_
    refine den_region TTok ?_
    intro K hK
    have hr1 := RdS.rowN hmX ((n - (1 : Int))).toNat (by omega)
    have hlhr1 := RdS.le hr1
    simp -implicitDefEqProofs (disch := first | decide | assumption | omega) only [go_sem, fa30_2, ld23, ld56, RdS.len hdX sl22, RdS.idx hdX sl22, R1.intB hdX (Ext.pres eB), RdS.cells hdX, RdS.len hmX sl23, RdS.idx hmX sl23, RdS.cellB hmX (Ext.pres eB), RdS.cells hmX, RdS.len hr1 sl56, RdS.idx hr1 sl56, RdS.cellB hr1 (Ext.pres eB), RdS.cells hr1, BoxAt.cell hb0_0, wrap_id]
    refine hK _ _ ?_
    clear hK K
    refine den_ret ?_
    simp (disch := decide) only [resP_1, puts_same, puts_ne]
    exact ⟨_, rfl, by rw [mapP, if_pos (in3_iff.2 c0)]; exact RdS.pres (RdS.rowN hmX _ (by omega)) (Ext.pres eB), eB⟩
  · try simp only [decide_eq_true_eq, decide_eq_false_iff_not, beq_iff_eq, beq_eq_false_iff_ne, bne_iff_ne, ne_eq, Bool.not_eq_true', Bool.not_eq_false', Bool.and_eq_true, Bool.or_eq_true, bne_eq_false_iff_eq, in3_iff, in3_f] at c0
    refine den_skip ?_
    refine den_seq ?_
    refine den_region TTok ?_
    intro K hK
    simp -implicitDefEqProofs (disch := first | decide | assumption | omega) only [go_sem, RdS.len hdX sl22, RdS.idx hdX sl22, R1.intB hdX (Ext.pres eB), RdS.cells hdX, RdS.len hmX sl23, RdS.idx hmX sl23, RdS.cellB hmX (Ext.pres eB), RdS.cells hmX, BoxAt.cell hb0_0, wrap_id]
    refine op_bs0 sz56 O1 ?_
    intro v3_0 h3_0 ho3_0 e3_0
    replace hb0_0 := BoxAt.ext hb0_0 e3_0
    have := Ext.size e3_0
    replace eB := Ext.trans eB e3_0
    have hfho3_0 : Fresh h0_0.size [h0_0.size] := Fresh.one _
    have hlho3_0 := OS.lt ho3_0
    try simp -implicitDefEqProofs (disch := first | decide | assumption | omega) only [go_sem, RdS.len hdX sl22, RdS.idx hdX sl22, R1.intB hdX (Ext.pres eB), RdS.cells hdX, RdS.len hmX sl23, RdS.idx hmX sl23, RdS.cellB hmX (Ext.pres eB), RdS.cells hmX, RdS.len (OS.rd ho3_0) sl56, RdS.idx (OS.rd ho3_0) sl56, RdS.cellN (OS.rd ho3_0), RdS.cells (OS.rd ho3_0), BoxAt.cell hb0_0, wrap_id]
    refine hK _ _ ?_
    clear hK K
    refine den_seq ?_
    refine den_seq ?_
    refine den_region TTok ?_
    intro K hK
    simp -implicitDefEqProofs (disch := first | decide | assumption | omega) only [go_sem, RdS.len hdX sl22, RdS.idx hdX sl22, R1.intB hdX (Ext.pres eB), RdS.cells hdX, RdS.len hmX sl23, RdS.idx hmX sl23, RdS.cellB hmX (Ext.pres eB), RdS.cells hmX, RdS.len (OS.rd ho3_0) sl56, RdS.idx (OS.rd ho3_0) sl56, RdS.cellN (OS.rd ho3_0), RdS.cells (OS.rd ho3_0), BoxAt.cell hb0_0, wrap_id]
    refine hK _ _ ?_
    clear hK K
    refine den_block ?_
    refine den_sel [5, 6, 1, 2] ?_
    intro env_2
    simp only [go_sem]
    refine den_loopS (σ := Nat × Value × List Nat) (fun st_ => [(5, st_.2.1), (6, .int .i64 (st_.1 : Int))]) (fun st_ H => ((st_.1 : Int) ≤ dimP X n) ∧ (O2 H st_.2.1 (List.replicate st_.1 []) st_.2.2) ∧ (Fresh (h0_0.size) st_.2.2) ∧ (Sub [h0_0.size] h3_0.size st_.2.2) ∧ (Chg [h0_0.size] h3_0 H)) (fun st_ => (dimP X n).toNat - st_.1) (0, v3_0, [h0_0.size]) ?_ ?_
    · exact ⟨by first | (simp; done) | (dsimp only; omega) | (simp; omega), by simpa using ho3_0, hfho3_0, Sub.refl, Chg.refl _ _⟩
    · rintro ⟨k, vhI, fphI⟩ h5 ee4 ⟨hi0, hI, hfhI, sbhI, cL3⟩
      dsimp only at hi0 hI hfhI sbhI cL3
      replace hb0_0 := BoxAt.chgA hb0_0 cL3 (apart_lt hlhb0_0 hfho3_0 (by omega))
      have := cL3.size
      replace eB := Ext.then eB cL3 (ge_of hfho3_0 (by omega))
      have hlhI := OS.lt hI
      simp only [List.cons_append, List.nil_append]
      have hlr : (List.replicate k ([] : List Int)).length = k := List.length_replicate
      refine den_seq ?_
      refine den_seq ?_
      refine den_region TTok ?_
      intro K hK
      simp -implicitDefEqProofs (disch := first | decide | assumption | omega) only [go_sem, ld30, RdS.len hdX sl22, RdS.idx hdX sl22, R1.intB hdX (Ext.pres eB), RdS.cells hdX, RdS.len hmX sl23, RdS.idx hmX sl23, RdS.cellB hmX (Ext.pres eB), RdS.cells hmX, RdS.len (OS.rd hI) sl56, RdS.idx (OS.rd hI) sl56, RdS.cellN (OS.rd hI), RdS.cells (OS.rd hI), BoxAt.cell hb0_0, wrap_id]
      try simp -implicitDefEqProofs (disch := first | decide | assumption | omega) only [go_sem, RdS.len hdX sl22, RdS.idx hdX sl22, R1.intB hdX (Ext.pres eB), RdS.cells hdX, RdS.len hmX sl23, RdS.idx hmX sl23, RdS.cellB hmX (Ext.pres eB), RdS.cells hmX, RdS.len (OS.rd hI) sl56, RdS.idx (OS.rd hI) sl56, RdS.cellN (OS.rd hI), RdS.cells (OS.rd hI), BoxAt.cell hb0_0, wrap_id]
      refine CallA.mono (sDim_ok _ X _ _ ⟨_, _, rfl, (RdS.pres hdX (Ext.pres eB)), (RdS.pres hmX (Ext.pres eB))⟩) ?_
      intro v_ h5_3
      rintro ⟨rfl, e5_3⟩
      replace hI := OS.ext hI e5_3
      replace hb0_0 := BoxAt.ext hb0_0 e5_3
      have := Ext.size e5_3
      replace eB := Ext.trans eB e5_3
      replace cL3 := Chg.stepE cL3 e5_3
      try simp -implicitDefEqProofs (disch := first | decide | assumption | omega) only [go_sem, RdS.len hdX sl22, RdS.idx hdX sl22, R1.intB hdX (Ext.pres eB), RdS.cells hdX, RdS.len hmX sl23, RdS.idx hmX sl23, RdS.cellB hmX (Ext.pres eB), RdS.cells hmX, RdS.len (OS.rd hI) sl56, RdS.idx (OS.rd hI) sl56, RdS.cellN (OS.rd hI), RdS.cells (OS.rd hI), BoxAt.cell hb0_0, wrap_id]
      refine hK _ _ ?_
      clear hK K
      refine den_cond rfl (fun c1 => ?_) (fun c1 => ?_)
      · try simp only [decide_eq_true_eq, decide_eq_false_iff_not, beq_iff_eq, beq_eq_false_iff_ne, bne_iff_ne, ne_eq, Bool.not_eq_true', Bool.not_eq_false', Bool.and_eq_true, Bool.or_eq_true, bne_eq_false_iff_eq, in3_iff, in3_f] at c1
        refine den_skip ?_
        refine den_seq ?_
        refine den_block ?_
        refine den_region TTok ?_
        intro K hK
        simp -implicitDefEqProofs (disch := first | decide | assumption | omega) only [go_sem, RdS.len hdX sl22, RdS.idx hdX sl22, R1.intB hdX (Ext.pres eB), RdS.cells hdX, RdS.len hmX sl23, RdS.idx hmX sl23, RdS.cellB hmX (Ext.pres eB), RdS.cells hmX, RdS.len (OS.rd hI) sl56, RdS.idx (OS.rd hI) sl56, RdS.cellN (OS.rd hI), RdS.cells (OS.rd hI), BoxAt.cell hb0_0, wrap_id]
        refine op_bs0 sz22 OI ?_
        intro v7_1 h7_1 ho7_1 e7_1
        replace hI := OS.ext hI e7_1
        replace hb0_0 := BoxAt.ext hb0_0 e7_1
        have := Ext.size e7_1
        replace eB := Ext.trans eB e7_1
        replace cL3 := Chg.stepE cL3 e7_1
        have hfho7_1 : Fresh h5_3.size [h5_3.size] := Fresh.one _
        have hlho7_1 := OS.lt ho7_1
        try simp -implicitDefEqProofs (disch := first | decide | assumption | omega) only [go_sem, RdS.len hdX sl22, RdS.idx hdX sl22, R1.intB hdX (Ext.pres eB), RdS.cells hdX, RdS.len hmX sl23, RdS.idx hmX sl23, RdS.cellB hmX (Ext.pres eB), RdS.cells hmX, RdS.len (OS.rd hI) sl56, RdS.idx (OS.rd hI) sl56, RdS.cellN (OS.rd hI), RdS.cells (OS.rd hI), RdS.len (OS.rd ho7_1) sl22, RdS.idx (OS.rd ho7_1) sl22, R1.intN (OS.rd ho7_1), RdS.cells (OS.rd ho7_1), BoxAt.cell hb0_0, wrap_id]
        refine op_bs1 sz56 rfl (OS.one ho7_1).2 ?_
        try simp -implicitDefEqProofs (disch := first | decide | assumption | omega) only [go_sem, RdS.len hdX sl22, RdS.idx hdX sl22, R1.intB hdX (Ext.pres eB), RdS.cells hdX, RdS.len hmX sl23, RdS.idx hmX sl23, RdS.cellB hmX (Ext.pres eB), RdS.cells hmX, RdS.len (OS.rd hI) sl56, RdS.idx (OS.rd hI) sl56, RdS.cellN (OS.rd hI), RdS.cells (OS.rd hI), RdS.len (OS.rd ho7_1) sl22, RdS.idx (OS.rd ho7_1) sl22, R1.intN (OS.rd ho7_1), RdS.cells (OS.rd ho7_1), BoxAt.cell hb0_0, wrap_id]
        refine op_append1 sz56 hI hfhI.nodup ho7_1 hfho7_1.nodup (apart_lt hlhI hfho7_1 (by omega)) (by first | omega | (simp; omega)) rfl rfl ?_
        intro v7_3 h7_3 fp7_3 ho7_3 hn7_3 hs7_3 c7_3
        have hsz7_3 := c7_3.size
        have hfho7_3 : Fresh h0_0.size fp7_3 := Fresh.appd hfhI hfho7_1 (by omega) (by omega) hn7_3 hs7_3
        have sb6 : Sub [h0_0.size] h3_0.size fp7_3 := Sub.grow sbhI (Sub.fresh hfho7_1 (by omega)) (by omega) hs7_3
        replace hb0_0 := BoxAt.chgA hb0_0 c7_3 (apart_lt hlhb0_0 hfhI (by omega))
        have := c7_3.size
        replace eB := Ext.then eB c7_3 (ge_of hfhI (by omega))
        replace cL3 := Chg.step cL3 c7_3 sbhI
        have hlho7_3 := OS.lt ho7_3
        try simp -implicitDefEqProofs (disch := first | decide | assumption | omega) only [go_sem, RdS.len hdX sl22, RdS.idx hdX sl22, R1.intB hdX (Ext.pres eB), RdS.cells hdX, RdS.len hmX sl23, RdS.idx hmX sl23, RdS.cellB hmX (Ext.pres eB), RdS.cells hmX, RdS.len (OS.rd ho7_3) sl56, RdS.idx (OS.rd ho7_3) sl56, RdS.cellN (OS.rd ho7_3), RdS.cells (OS.rd ho7_3), BoxAt.cell hb0_0, wrap_id]
        refine hK _ _ ?_
        clear hK K
        refine den_blk ?_
        refine den_region TTok ?_
        intro K hK
        simp -implicitDefEqProofs (disch := first | decide | assumption | omega) only [go_sem, RdS.len hdX sl22, RdS.idx hdX sl22, R1.intB hdX (Ext.pres eB), RdS.cells hdX, RdS.len hmX sl23, RdS.idx hmX sl23, RdS.cellB hmX (Ext.pres eB), RdS.cells hmX, RdS.len (OS.rd ho7_3) sl56, RdS.idx (OS.rd ho7_3) sl56, RdS.cellN (OS.rd ho7_3), RdS.cells (OS.rd ho7_3), BoxAt.cell hb0_0, wrap_id]
        refine hK _ _ ?_
        clear hK K
        refine den_stop ?_
        rw [← List.replicate_succ'] at ho7_3
        exact ⟨(k + 1, v7_3, fp7_3), by simp [HasL, puts_at], ⟨by first | omega | (dsimp only; omega), ho7_3, hfho7_3, sb6, cL3⟩, by first | omega | (dsimp only; omega)⟩
      · try simp only [decide_eq_true_eq, decide_eq_false_iff_not, beq_iff_eq, beq_eq_false_iff_ne, bne_iff_ne, ne_eq, Bool.not_eq_true', Bool.not_eq_false', Bool.and_eq_true, Bool.or_eq_true, bne_eq_false_iff_eq, in3_iff, in3_f] at c1
        refine den_exit ?_
        refine denX_code ?_
        refine denX_stop ?_
        refine denX_hit ?_
        refine den_seq ?_
        refine den_region TTok ?_
        intro K hK
        simp -implicitDefEqProofs (disch := first | decide | assumption | omega) only [go_sem, RdS.len hdX sl22, RdS.idx hdX sl22, R1.intB hdX (Ext.pres eB), RdS.cells hdX, RdS.len hmX sl23, RdS.idx hmX sl23, RdS.cellB hmX (Ext.pres eB), RdS.cells hmX, RdS.len (OS.rd hI) sl56, RdS.idx (OS.rd hI) sl56, RdS.cellN (OS.rd hI), RdS.cells (OS.rd hI), wrap_id]
        refine hK _ _ ?_
        clear hK K
        refine den_ret ?_
        simp (disch := decide) only [resP_1, puts_same, puts_ne]
        have e : (dimP X n).toNat = k := by omega
        exact ⟨_, rfl, by rw [mapP, if_neg (by rw [in3_iff]; omega), e]; exact OS.rd hI, eB⟩

set_option maxRecDepth 100000 in
theorem same1_ok (vu vv : Value) (u : List Int) (v : List Int) (h : Heap) (ru : R1 h vu u) (rv : R1 h vv v)  : CallA Try.prog 123 #[vu, vv] h fun v' h' => v' = .bool (decide (u = v)) ∧ Ext h h' := by
  have hleu := RdS.le ru
  have hlev := RdS.le rv
  refine callA_intro TTok (args := [_, _]) Try.func123 (by kernel_rfl) rfl 26 rfl (by simp) [.tmp 4] rfl ?_
  simp only [idxs, Nat.reduceAdd]
  refine den_seq ?_
  refine den_region TTok ?_
  intro K hK
  simp -implicitDefEqProofs (disch := first | decide | assumption | omega) only [go_sem, RdS.len ru sl22, RdS.idx ru sl22, R1.intB ru (HPres.refl _), RdS.cells ru, RdS.len rv sl22, RdS.idx rv sl22, R1.intB rv (HPres.refl _), RdS.cells rv, wrap_id]
  refine hK _ _ ?_
  clear hK K
  refine den_seq ?_
  refine den_seq ?_
  refine den_region TTok ?_
  intro K hK
  simp -implicitDefEqProofs (disch := first | decide | assumption | omega) only [go_sem, RdS.len ru sl22, RdS.idx ru sl22, R1.intB ru (HPres.refl _), RdS.cells ru, RdS.len rv sl22, RdS.idx rv sl22, R1.intB rv (HPres.refl _), RdS.cells rv, wrap_id]
  refine hK _ _ ?_
  clear hK K
  refine den_cond rfl (fun c0 => ?_) (fun c0 => ?_)
  · try simp only [decide_eq_true_eq, decide_eq_false_iff_not, beq_iff_eq, beq_eq_false_iff_ne, bne_iff_ne, ne_eq, Bool.not_eq_true', Bool.not_eq_false', Bool.and_eq_true, Bool.or_eq_true, bne_eq_false_iff_eq] at c0
    refine den_seq ?_
    refine den_region TTok ?_
    intro K hK
    simp -implicitDefEqProofs (disch := first | decide | assumption | omega) only [go_sem, RdS.len ru sl22, RdS.idx ru sl22, R1.intB ru (HPres.refl _), RdS.cells ru, RdS.len rv sl22, RdS.idx rv sl22, R1.intB rv (HPres.refl _), RdS.cells rv, wrap_id]
    refine hK _ _ ?_
    clear hK K
    refine den_ret ?_
    simp (disch := decide) only [resP_1, puts_same, puts_ne]
    exact ⟨vbool (by simp; intro he; rw [he] at c0; omega), (Ext.refl _)⟩
  · try simp only [decide_eq_true_eq, decide_eq_false_iff_not, beq_iff_eq, beq_eq_false_iff_ne, bne_iff_ne, ne_eq, Bool.not_eq_true', Bool.not_eq_false', Bool.and_eq_true, Bool.or_eq_true, bne_eq_false_iff_eq] at c0
    refine den_skip ?_
    refine den_seq ?_
    refine den_seq ?_
    refine den_region TTok ?_
    intro K hK
    simp -implicitDefEqProofs (disch := first | decide | assumption | omega) only [go_sem, RdS.len ru sl22, RdS.idx ru sl22, R1.intB ru (HPres.refl _), RdS.cells ru, RdS.len rv sl22, RdS.idx rv sl22, R1.intB rv (HPres.refl _), RdS.cells rv, wrap_id]
    refine hK _ _ ?_
    clear hK K
    refine den_block ?_
    refine den_sel [5, 0, 1] ?_
    intro env_1
    simp only [go_sem]
    refine den_loopP (σ := Nat) (fun st_ => [(5, .int .i64 (st_ : Int))]) (fun st_ => (st_ ≤ u.length) ∧ (u.take st_ = v.take st_)) (fun st_ => u.length - st_) 0 ?_ ?_
    · exact ⟨by simp, by simp⟩
    · rintro k ee2 ⟨hk, heq⟩
      simp only [List.cons_append, List.nil_append]
      refine den_seq ?_
      refine den_seq ?_
      refine den_region TTok ?_
      intro K hK
      simp -implicitDefEqProofs (disch := first | decide | assumption | omega) only [go_sem, RdS.len ru sl22, RdS.idx ru sl22, R1.intB ru (HPres.refl _), RdS.cells ru, RdS.len rv sl22, RdS.idx rv sl22, R1.intB rv (HPres.refl _), RdS.cells rv, wrap_id]
      refine hK _ _ ?_
      clear hK K
      refine den_cond rfl (fun c1 => ?_) (fun c1 => ?_)
      · try simp only [decide_eq_true_eq, decide_eq_false_iff_not, beq_iff_eq, beq_eq_false_iff_ne, bne_iff_ne, ne_eq, Bool.not_eq_true', Bool.not_eq_false', Bool.and_eq_true, Bool.or_eq_true, bne_eq_false_iff_eq] at c1
        refine den_skip ?_
        refine den_seq ?_
        refine den_block ?_
        refine den_seq ?_
        refine den_draw TTok mixed [] [(0, true), (1, true), (2, true), (3, true), (4, true), (5, true), (6, true), (7, true), (8, true)] (by kernel_rfl) ?_
        intro K hK
        simp -implicitDefEqProofs (disch := first | decide | assumption | omega) only [go_sem, ld2, RdS.len ru sl22, RdS.idx ru sl22, R1.intB ru (HPres.refl _), RdS.cells ru, RdS.len rv sl22, RdS.idx rv sl22, R1.intB rv (HPres.refl _), RdS.cells rv, wrap_id]
        refine hK _ _ ?_
        clear hK K
        refine den_cond rfl (fun c2 => ?_) (fun c2 => ?_)
        · try simp only [decide_eq_true_eq, decide_eq_false_iff_not, beq_iff_eq, beq_eq_false_iff_ne, bne_iff_ne, ne_eq, Bool.not_eq_true', Bool.not_eq_false', Bool.and_eq_true, Bool.or_eq_true, bne_eq_false_iff_eq] at c2
          refine den_seq ?_
          refine den_region TTok ?_
          intro K hK
          simp -implicitDefEqProofs (disch := first | decide | assumption | omega) only [go_sem, RdS.len ru sl22, RdS.idx ru sl22, R1.intB ru (HPres.refl _), RdS.cells ru, RdS.len rv sl22, RdS.idx rv sl22, R1.intB rv (HPres.refl _), RdS.cells rv, wrap_id]
          refine hK _ _ ?_
          clear hK K
          refine den_ret ?_
          simp (disch := decide) only [resP_1, puts_same, puts_ne]
          exact ⟨vbool (by simp; exact eq_stop (d := 0) (by simpa using c2)), (Ext.refl _)⟩
        · try simp only [decide_eq_true_eq, decide_eq_false_iff_not, beq_iff_eq, beq_eq_false_iff_ne, bne_iff_ne, ne_eq, Bool.not_eq_true', Bool.not_eq_false', Bool.and_eq_true, Bool.or_eq_true, bne_eq_false_iff_eq] at c2
          refine den_skip ?_
          refine den_blk ?_
          refine den_region TTok ?_
          intro K hK
          simp -implicitDefEqProofs (disch := first | decide | assumption | omega) only [go_sem, RdS.len ru sl22, RdS.idx ru sl22, R1.intB ru (HPres.refl _), RdS.cells ru, RdS.len rv sl22, RdS.idx rv sl22, R1.intB rv (HPres.refl _), RdS.cells rv, wrap_id]
          refine hK _ _ ?_
          clear hK K
          refine den_stop ?_
          exact ⟨k + 1, by simp [HasL, puts_at], ⟨rfl, by omega, eq_step (by omega) (by omega) heq (d := 0) (d' := 0) (by simpa using c2)⟩, by first | omega | (dsimp only; omega)⟩
      · try simp only [decide_eq_true_eq, decide_eq_false_iff_not, beq_iff_eq, beq_eq_false_iff_ne, bne_iff_ne, ne_eq, Bool.not_eq_true', Bool.not_eq_false', Bool.and_eq_true, Bool.or_eq_true, bne_eq_false_iff_eq] at c1
        refine den_exit ?_
        refine denX_code ?_
        refine denX_stop ?_
        refine denX_hit ?_
        refine den_seq ?_
        refine den_region TTok ?_
        intro K hK
        simp -implicitDefEqProofs (disch := first | decide | assumption | omega) only [go_sem, RdS.len ru sl22, RdS.idx ru sl22, R1.intB ru (HPres.refl _), RdS.cells ru, RdS.len rv sl22, RdS.idx rv sl22, R1.intB rv (HPres.refl _), RdS.cells rv, wrap_id]
        refine hK _ _ ?_
        clear hK K
        refine den_ret ?_
        simp (disch := decide) only [resP_1, puts_same, puts_ne]
        exact ⟨vbool (by simp; exact eq_end (by omega) (by omega) heq), (Ext.refl _)⟩

set_option maxRecDepth 100000 in
theorem equal1_ok (vu vv : Value) (u : List Int) (v : List Int) (h : Heap) (ru : R1 h vu u) (rv : R1 h vv v)  : CallA Try.prog 127 #[vu, vv] h fun v' h' => v' = .bool (decide (u = v)) ∧ Ext h h' := by
  have hleu := RdS.le ru
  have hlev := RdS.le rv
  refine callA_intro TTok (args := [_, _]) Try.func127 (by kernel_rfl) rfl 26 rfl (by simp) [.tmp 4] rfl ?_
  simp only [idxs, Nat.reduceAdd]
  refine den_seq ?_
  refine den_region TTok ?_
  intro K hK
  simp -implicitDefEqProofs (disch := first | decide | assumption | omega) only [go_sem, RdS.len ru sl22, RdS.idx ru sl22, R1.intB ru (HPres.refl _), RdS.cells ru, RdS.len rv sl22, RdS.idx rv sl22, R1.intB rv (HPres.refl _), RdS.cells rv, wrap_id]
  refine hK _ _ ?_
  clear hK K
  refine den_seq ?_
  refine den_seq ?_
  refine den_region TTok ?_
  intro K hK
  simp -implicitDefEqProofs (disch := first | decide | assumption | omega) only [go_sem, RdS.len ru sl22, RdS.idx ru sl22, R1.intB ru (HPres.refl _), RdS.cells ru, RdS.len rv sl22, RdS.idx rv sl22, R1.intB rv (HPres.refl _), RdS.cells rv, wrap_id]
  refine hK _ _ ?_
  clear hK K
  refine den_cond rfl (fun c0 => ?_) (fun c0 => ?_)
  · try simp only [decide_eq_true_eq, decide_eq_false_iff_not, beq_iff_eq, beq_eq_false_iff_ne, bne_iff_ne, ne_eq, Bool.not_eq_true', Bool.not_eq_false', Bool.and_eq_true, Bool.or_eq_true, bne_eq_false_iff_eq] at c0
    refine den_seq ?_
    refine den_region TTok ?_
    intro K hK
    simp -implicitDefEqProofs (disch := first | decide | assumption | omega) only [go_sem, RdS.len ru sl22, RdS.idx ru sl22, R1.intB ru (HPres.refl _), RdS.cells ru, RdS.len rv sl22, RdS.idx rv sl22, R1.intB rv (HPres.refl _), RdS.cells rv, wrap_id]
    refine hK _ _ ?_
    clear hK K
    refine den_ret ?_
    simp (disch := decide) only [resP_1, puts_same, puts_ne]
    exact ⟨vbool (by simp; intro he; rw [he] at c0; omega), (Ext.refl _)⟩
  · try simp only [decide_eq_true_eq, decide_eq_false_iff_not, beq_iff_eq, beq_eq_false_iff_ne, bne_iff_ne, ne_eq, Bool.not_eq_true', Bool.not_eq_false', Bool.and_eq_true, Bool.or_eq_true, bne_eq_false_iff_eq] at c0
    refine den_skip ?_
    refine den_seq ?_
    refine den_seq ?_
    refine den_region TTok ?_
    intro K hK
    simp -implicitDefEqProofs (disch := first | decide | assumption | omega) only [go_sem, RdS.len ru sl22, RdS.idx ru sl22, R1.intB ru (HPres.refl _), RdS.cells ru, RdS.len rv sl22, RdS.idx rv sl22, R1.intB rv (HPres.refl _), RdS.cells rv, wrap_id]
    refine hK _ _ ?_
    clear hK K
    refine den_block ?_
    refine den_sel [13, 0, 1, 12] ?_
    intro env_1
    simp only [go_sem]
    refine den_loopP (σ := Nat) (fun st_ => [(13, .int .i64 (st_ : Int))]) (fun st_ => (st_ ≤ u.length) ∧ (u.take st_ = v.take st_)) (fun st_ => u.length - st_) 0 ?_ ?_
    · exact ⟨by simp, by simp⟩
    · rintro k ee2 ⟨hk, heq⟩
      simp only [List.cons_append, List.nil_append]
      refine den_seq ?_
      refine den_region TTok ?_
      intro K hK
      simp -implicitDefEqProofs (disch := first | decide | assumption | omega) only [go_sem, RdS.len ru sl22, RdS.idx ru sl22, R1.intB ru (HPres.refl _), RdS.cells ru, RdS.len rv sl22, RdS.idx rv sl22, R1.intB rv (HPres.refl _), RdS.cells rv, wrap_id]
      refine hK _ _ ?_
      clear hK K
      refine den_seq ?_
      refine den_cond rfl (fun c1 => ?_) (fun c1 => ?_)
      · try simp only [decide_eq_true_eq, decide_eq_false_iff_not, beq_iff_eq, beq_eq_false_iff_ne, bne_iff_ne, ne_eq, Bool.not_eq_true', Bool.not_eq_false', Bool.and_eq_true, Bool.or_eq_true, bne_eq_false_iff_eq] at c1
        refine den_skip ?_
        refine den_seq ?_
        refine den_block ?_
        refine den_seq ?_
        refine den_region TTok ?_
        intro K hK
        simp -implicitDefEqProofs (disch := first | decide | assumption | omega) only [go_sem, RdS.len ru sl22, RdS.idx ru sl22, R1.intB ru (HPres.refl _), RdS.cells ru, RdS.len rv sl22, RdS.idx rv sl22, R1.intB rv (HPres.refl _), RdS.cells rv, wrap_id]
        refine hK _ _ ?_
        clear hK K
        refine den_seq ?_
        refine den_draw TTok mixed [] [(0, true), (1, true), (2, true), (3, true), (4, true), (5, true), (6, true), (7, true), (8, true)] (by kernel_rfl) ?_
        intro K hK
        simp -implicitDefEqProofs (disch := first | decide | assumption | omega) only [go_sem, ld2, RdS.len ru sl22, RdS.idx ru sl22, R1.intB ru (HPres.refl _), RdS.cells ru, RdS.len rv sl22, RdS.idx rv sl22, R1.intB rv (HPres.refl _), RdS.cells rv, wrap_id]
        refine hK _ _ ?_
        clear hK K
        refine den_cond rfl (fun c2 => ?_) (fun c2 => ?_)
        · try simp only [decide_eq_true_eq, decide_eq_false_iff_not, beq_iff_eq, beq_eq_false_iff_ne, bne_iff_ne, ne_eq, Bool.not_eq_true', Bool.not_eq_false', Bool.and_eq_true, Bool.or_eq_true, bne_eq_false_iff_eq] at c2
          refine den_seq ?_
          refine den_region TTok ?_
          intro K hK
          simp -implicitDefEqProofs (disch := first | decide | assumption | omega) only [go_sem, RdS.len ru sl22, RdS.idx ru sl22, R1.intB ru (HPres.refl _), RdS.cells ru, RdS.len rv sl22, RdS.idx rv sl22, R1.intB rv (HPres.refl _), RdS.cells rv, wrap_id]
          refine hK _ _ ?_
          clear hK K
          refine den_ret ?_
          simp (disch := decide) only [resP_1, puts_same, puts_ne]
          exact ⟨vbool (by simp; exact eq_stop (d := 0) (by simpa using c2)), (Ext.refl _)⟩
        · try simp only [decide_eq_true_eq, decide_eq_false_iff_not, beq_iff_eq, beq_eq_false_iff_ne, bne_iff_ne, ne_eq, Bool.not_eq_true', Bool.not_eq_false', Bool.and_eq_true, Bool.or_eq_true, bne_eq_false_iff_eq] at c2
          refine den_skip ?_
          refine den_blk ?_
          refine den_region TTok ?_
          intro K hK
          simp -implicitDefEqProofs (disch := first | decide | assumption | omega) only [go_sem, RdS.len ru sl22, RdS.idx ru sl22, R1.intB ru (HPres.refl _), RdS.cells ru, RdS.len rv sl22, RdS.idx rv sl22, R1.intB rv (HPres.refl _), RdS.cells rv, wrap_id]
          refine hK _ _ ?_
          clear hK K
          refine den_stop ?_
          exact ⟨k + 1, by simp [HasL, puts_at], ⟨rfl, by omega, eq_step (by omega) (by omega) heq (d := 0) (d' := 0) (by simpa using c2)⟩, by first | omega | (dsimp only; omega)⟩
      · try simp only [decide_eq_true_eq, decide_eq_false_iff_not, beq_iff_eq, beq_eq_false_iff_ne, bne_iff_ne, ne_eq, Bool.not_eq_true', Bool.not_eq_false', Bool.and_eq_true, Bool.or_eq_true, bne_eq_false_iff_eq] at c1
        refine den_exit ?_
        refine denX_code ?_
        refine denX_stop ?_
        refine denX_hit ?_
        refine den_seq ?_
        refine den_region TTok ?_
        intro K hK
        simp -implicitDefEqProofs (disch := first | decide | assumption | omega) only [go_sem, RdS.len ru sl22, RdS.idx ru sl22, R1.intB ru (HPres.refl _), RdS.cells ru, RdS.len rv sl22, RdS.idx rv sl22, R1.intB rv (HPres.refl _), RdS.cells rv, wrap_id]
        refine hK _ _ ?_
        clear hK K
        refine den_ret ?_
        simp (disch := decide) only [resP_1, puts_same, puts_ne]
        exact ⟨vbool (by simp; exact eq_end (by omega) (by omega) heq), (Ext.refl _)⟩
end Go.Proofs.Ytffggocjkhcgeaa
