/-
  What the statement FnExactProductDouble uses of the walks, part 2.
  Conditions: each theorem's own.
-/
import Derived.Test.YtkdnnfkdgmblgaaG16
import Derived.Test.YtkdnnfkdgmblgaaG17
import Derived.Test.YtkdnnfkdgmblgaaG14
import Derived.Test.YtkdnnfkdgmblgaaG13
import Derived.Test.YtkdnnfkdgmblgaaG15
import Derived.Test.YtkdnnfkdgmblgaaG18
import Derived.Test.YtkdnnfkdgmblgaaZProductDouble1
set_option linter.unusedVariables false
set_option linter.unusedSimpArgs false
namespace Go.Proofs.Ytkdnnfkdgmblgaa
open Go
structure PreC (X : Cx) : Prop where
 p : 0 < X.p ∧ X.p ≤ 7
 ml : X.maps.length + 1 = X.dims.length
 dm : X.dims.all (fun x => in3 x 0 8) = true
 tb : ∀ k, k < X.maps.length → tbAt X k
def diffP (X : Cx) (n : Int) (v : List Int) : List Int := if n ≤ 0 ∨ (X.dims.length : Int) - 1 < n then [] else accP X.p v (X.maps.getD (n - 1).toNat default) (List.replicate (X.dims.getD (n - 1).toNat 0).toNat 0)
theorem PreC.app {X : Cx} (h : PreC X) {n : Int} (h0 : 0 < n) (h1 : n ≤ (X.dims.length : Int) - 1) : (0 ≤ X.dims.getD (n - 1).toNat 0 ∧ X.dims.getD (n - 1).toNat 0 ≤ 8) ∧ ((X.maps.getD (n - 1).toNat default).length : Int) = X.dims.getD n.toNat 0 ∧ Tbl X.p (X.dims.getD (n - 1).toNat 0) (X.maps.getD (n - 1).toNat default) := by
 have hm := h.ml
 have t := tableP_iff.1 (h.tb (n - 1).toNat (by omega))
 have e : ((((n - 1).toNat : Nat) : Int) + 1).toNat = n.toNat := by omega
 rw [e] at t
 exact ⟨dm_at h.dm (by omega), t⟩
theorem zero_lead {xs : List Int} : (!(xs.any fun x => x != 0)) = true ↔ leadP xs < 0 := by
 rw [leadP_idx, ← idxP_any]
 simp
theorem any_all {α : Type} {f : α → Bool} {xs : List α} (h : (xs.any fun x => !f x) = false) : xs.all f = true := by rw [List.all_eq_not_any_not, h]; rfl
theorem diff_sqv {X : Cx} {k i : Nat} (h0 : 0 < k) (h1 : (k : Int) ≤ (X.dims.length : Int) - 1) : diffP X (k : Int) ((X.maps.getD k default).getD i default) = sqv X k i := by
 rw [diffP, if_neg (by omega)]; rfl
theorem lead_zero {xs : List Int} (h : xs.any (fun x => x != 0) = false) : leadP xs < 0 := zero_lead.1 (by rw [h]; rfl)
theorem lead_some {xs : List Int} (h : xs.any (fun x => x != 0) = true) : ¬ leadP xs < 0 := fun hn => by
 have := zero_lead.2 hn
 rw [h] at this; cases this
theorem tbAt_iff {X : Cx} {k : Nat} : tbAt X k ↔ ((X.maps.getD k default).length : Int) = X.dims.getD ((k : Int) + 1).toNat 0 ∧ (X.maps.getD k default).all (isRow X.p (X.dims.getD k 0)) = true := by
 simp only [tbAt, tableP, Bool.and_eq_true, decide_eq_true_eq]

set_option maxRecDepth 100000 in
theorem diff_ok (vx : Value) (X : Cx) (n : Int) (v : Value) (xs : List Int) (h : Heap) (hx : RC h vx X) (hv : R1 h v xs) (hP : PreC X) (hv0 : Bnd X.p xs) (hl : 0 < n → n ≤ (X.dims.length : Int) - 1 → (xs.length : Int) = X.dims.getD n.toNat 0) : CallA Try.prog 54 #[vx, .int .i64 n, v] h fun v' h' => ∃ f, O1 h' v' (diffP X n xs) f ∧ Fresh h.size f ∧ Ext h h' := by
 obtain ⟨vd, vm, rfl, hd, hm⟩ := hx
 have hle := RdS.le hd
 have hml := hP.ml
 refine callA_intro TTok (args := [_, _, _]) Try.func54 (by kernel_rfl) rfl 31 rfl (by simp) [.tmp 6] rfl ?_
 simp only [idxs, Nat.reduceAdd]
 refine den_seq ?_
 refine den_region TTok ?_
 intro K hK
 simp -implicitDefEqProofs (disch := first | decide | assumption | omega) only [go_sem, RdS.len hd sl22, RdS.idx hd sl22, R1.intB hd (HPres.refl _), RdS.cells hd, RdS.len hm sl23, RdS.idx hm sl23, RdS.cellB hm (HPres.refl _), RdS.cells hm, RdS.len hv sl22, RdS.idx hv sl22, R1.intB hv (HPres.refl _), RdS.cells hv, wrap_id]
 refine op_box (cs := #[.int .i64 (X.p), vd, vm]) rfl ?_
 intro h0_0 e0_0 hb0_0 z0_0
 replace hd := RdS.pres hd (Ext.pres e0_0)
 replace hm := RdS.pres hm (Ext.pres e0_0)
 replace hv := RdS.pres hv (Ext.pres e0_0)
 try simp -implicitDefEqProofs (disch := first | decide | assumption | omega) only [go_sem, RdS.len hd sl22, RdS.idx hd sl22, R1.intB hd (HPres.refl _), RdS.cells hd, RdS.len hm sl23, RdS.idx hm sl23, RdS.cellB hm (HPres.refl _), RdS.cells hm, RdS.len hv sl22, RdS.idx hv sl22, R1.intB hv (HPres.refl _), RdS.cells hv, BoxAt.cell hb0_0, wrap_id]
 refine hK _ _ ?_
 clear hK K
 refine den_seq ?_
 refine den_seq ?_
 refine den_merge [(14, .bool (((decide (n ≤ (0 : Int))) || (decide ((((X.dims).length : Int) - 1) < n)))))] [1, 2, 3] (fun H => Ext h0_0 H) ?_ ?_
  -- a way
 ·refine den_region TTok ?_
  intro K hK
  simp -implicitDefEqProofs (disch := first | decide | assumption | (simp (disch := decide) only [slotOf_zero, slotOf_succ, Option.map_some, puts_same, puts_ne, gv_bool, gv_undef, tt, tf, ft, ff, eq_self, if_true, if_false, Bool.false_eq_true, Bool.not_true, Bool.not_false]; done) | omega) only [go_sem, RdS.len hd sl22, RdS.idx hd sl22, R1.intB hd (HPres.refl _), RdS.cells hd, RdS.len hm sl23, RdS.idx hm sl23, RdS.cellB hm (HPres.refl _), RdS.cells hm, RdS.len hv sl22, RdS.idx hv sl22, R1.intB hv (HPres.refl _), RdS.cells hv, BoxAt.cell hb0_0, wrap_id]
  refine opsP_F (by simp (disch := decide) only [slotOf_zero, slotOf_succ, Option.map_some, puts_same, puts_ne, gv_bool, gv_undef, tt, tf, ft, ff, eq_self, if_true, if_false, Bool.false_eq_true, Bool.not_true, Bool.not_false]; rfl) (fun g1 => ?_) (fun g1 => ?_)
  ·try simp -implicitDefEqProofs (disch := first | decide | assumption | (simp (disch := decide) only [slotOf_zero, slotOf_succ, Option.map_some, puts_same, puts_ne, gv_bool, gv_undef, tt, tf, ft, ff, eq_self, if_true, if_false, Bool.false_eq_true, Bool.not_true, Bool.not_false, g1]; done) | omega) only [go_sem, ld33, RdS.len hd sl22, RdS.idx hd sl22, R1.intB hd (HPres.refl _), RdS.cells hd, RdS.len hm sl23, RdS.idx hm sl23, RdS.cellB hm (HPres.refl _), RdS.cells hm, RdS.len hv sl22, RdS.idx hv sl22, R1.intB hv (HPres.refl _), RdS.cells hv, BoxAt.cell hb0_0, wrap_id, g1, eq_self, if_true, if_false, Bool.false_eq_true]
   try simp -implicitDefEqProofs (disch := first | decide | assumption | omega) only [go_sem, RdS.len hd sl22, RdS.idx hd sl22, R1.intB hd (HPres.refl _), RdS.cells hd, RdS.len hm sl23, RdS.idx hm sl23, RdS.cellB hm (HPres.refl _), RdS.cells hm, RdS.len hv sl22, RdS.idx hv sl22, R1.intB hv (HPres.refl _), RdS.cells hv, BoxAt.cell hb0_0, wrap_id]
   refine CallA.mono (top_ok _ X _ ⟨_, _, rfl, hd, hm⟩) ?_
   intro v_ h1_5
   rintro ⟨rfl, e1_5⟩
   have := Ext.size e1_5
   have eB := e1_5
   try simp -implicitDefEqProofs (disch := first | decide | assumption | (simp (disch := decide) only [slotOf_zero, slotOf_succ, Option.map_some, puts_same, puts_ne, gv_bool, gv_undef, tt, tf, ft, ff, eq_self, if_true, if_false, Bool.false_eq_true, Bool.not_true, Bool.not_false, g1]; done) | omega) only [go_sem, RdS.len hd sl22, RdS.idx hd sl22, R1.intB hd (Ext.pres eB), RdS.cells hd, RdS.len hm sl23, RdS.idx hm sl23, RdS.cellB hm (Ext.pres eB), RdS.cells hm, RdS.len hv sl22, RdS.idx hv sl22, R1.intB hv (Ext.pres eB), RdS.cells hv, BoxAt.cellB hb0_0 eB, wrap_id, g1, eq_self, if_true, if_false, Bool.false_eq_true]
   refine hK _ _ ?_
   clear hK K
   refine den_stop ?_
   refine ⟨?_, e1_5⟩
   first | (simp (disch := decide) only [go_sem, g1, eq_self, Bool.true_and, Bool.and_true, Bool.false_and, Bool.and_false, Bool.true_or, Bool.or_true, Bool.false_or, Bool.or_false, if_true, if_false, Bool.false_eq_true]; done) | simp [HasL, sel, puts_at, g1]
  ·try simp -implicitDefEqProofs (disch := first | decide | assumption | (simp (disch := decide) only [slotOf_zero, slotOf_succ, Option.map_some, puts_same, puts_ne, gv_bool, gv_undef, tt, tf, ft, ff, eq_self, if_true, if_false, Bool.false_eq_true, Bool.not_true, Bool.not_false, g1]; done) | omega) only [go_sem, RdS.len hd sl22, RdS.idx hd sl22, R1.intB hd (HPres.refl _), RdS.cells hd, RdS.len hm sl23, RdS.idx hm sl23, RdS.cellB hm (HPres.refl _), RdS.cells hm, RdS.len hv sl22, RdS.idx hv sl22, R1.intB hv (HPres.refl _), RdS.cells hv, BoxAt.cell hb0_0, wrap_id, g1, eq_self, if_true, if_false, Bool.false_eq_true]
   refine hK _ _ ?_
   clear hK K
   refine den_stop ?_
   refine ⟨?_, Ext.refl _⟩
   first | (simp (disch := decide) only [go_sem, g1, eq_self, Bool.true_and, Bool.and_true, Bool.false_and, Bool.and_false, Bool.true_or, Bool.or_true, Bool.false_or, Bool.or_false, if_true, if_false, Bool.false_eq_true]; done) | simp [HasL, sel, puts_at, g1]
 intro en2 h3 e4
 have := Ext.size e4
 have eB := e4
 simp (disch := decide) only [go_sem]
 refine den_cond rfl (fun c0 => ?_) (fun c0 => ?_)
 ·try simp only [decide_eq_true_eq, decide_eq_false_iff_not, beq_iff_eq, beq_eq_false_iff_ne, bne_iff_ne, ne_eq, Bool.not_eq_true', Bool.not_eq_false', Bool.and_eq_true, Bool.or_eq_true, bne_eq_false_iff_eq, Bool.or_eq_false_iff, Bool.and_eq_false_iff] at c0
  refine den_seq ?_
  refine den_region TTok ?_
  intro K hK
  simp -implicitDefEqProofs (disch := first | decide | assumption | omega) only [go_sem, RdS.len hd sl22, RdS.idx hd sl22, R1.intB hd (Ext.pres eB), RdS.cells hd, RdS.len hm sl23, RdS.idx hm sl23, RdS.cellB hm (Ext.pres eB), RdS.cells hm, RdS.len hv sl22, RdS.idx hv sl22, R1.intB hv (Ext.pres eB), RdS.cells hv, BoxAt.cellB hb0_0 eB, wrap_id]
  refine hK _ _ ?_
  clear hK K
  refine den_ret ?_
  simp (disch := decide) only [resP_1, puts_same, puts_ne]
  exact ⟨[], by rw [diffP, if_pos (by omega)]; exact OS.nil, Fresh.nil _, (Ext.trans e0_0 eB)⟩
 ·try simp only [decide_eq_true_eq, decide_eq_false_iff_not, beq_iff_eq, beq_eq_false_iff_ne, bne_iff_ne, ne_eq, Bool.not_eq_true', Bool.not_eq_false', Bool.and_eq_true, Bool.or_eq_true, bne_eq_false_iff_eq, Bool.or_eq_false_iff, Bool.and_eq_false_iff] at c0
  refine den_skip ?_
  refine den_seq ?_
  have hq := hP.app (n := n) (by omega) (by omega)
  refine den_draw TTok mixed [] [(0, true), (1, true), (2, true), (3, true), (4, true), (5, true), (6, true), (7, true), (8, true), (9, true), (10, true), (11, true), (12, true), (13, true), (14, true), (15, false), (16, true)] (by kernel_rfl) ?_
  intro K hK
  have hr5 := RdS.rowN hm ((n - (1 : Int))).toNat (by omega)
  have hlhr5 := RdS.le hr5
  simp -implicitDefEqProofs (disch := first | decide | assumption | omega) only [go_sem, fa33_0, fa33_1, fa33_2, ld23, ld27, ld22, ld2, RdS.len hd sl22, RdS.idx hd sl22, R1.intB hd (Ext.pres eB), RdS.cells hd, RdS.len hm sl23, RdS.idx hm sl23, RdS.cellB hm (Ext.pres eB), RdS.cells hm, RdS.len hv sl22, RdS.idx hv sl22, R1.intB hv (Ext.pres eB), RdS.cells hv, RdS.len hr5 sl27, RdS.idx hr5 sl27, RdS.cellB hr5 (Ext.pres eB), RdS.cells hr5, BoxAt.cellB hb0_0 eB, wrap_id]
  try simp -implicitDefEqProofs (disch := first | decide | assumption | omega) only [go_sem, RdS.len hd sl22, RdS.idx hd sl22, R1.intB hd (Ext.pres eB), RdS.cells hd, RdS.len hm sl23, RdS.idx hm sl23, RdS.cellB hm (Ext.pres eB), RdS.cells hm, RdS.len hv sl22, RdS.idx hv sl22, R1.intB hv (Ext.pres eB), RdS.cells hv, RdS.len hr5 sl27, RdS.idx hr5 sl27, RdS.cellB hr5 (Ext.pres eB), RdS.cells hr5, BoxAt.cellB hb0_0 eB, wrap_id]
  refine CallA.mono (iApply_ok _ _ _ _ _ _ _ (RdS.pres hv (Ext.pres eB)) (RdS.pres hr5 (Ext.pres eB)) hP.p (by omega) (by have := hl (by omega) (by omega); omega) hv0 hq.2.2) ?_
  intro v3_15 h3_15
  rintro ⟨f3_15, ho3_15, hf3_15, e3_15⟩
  have := Ext.size e3_15
  replace eB := Ext.trans eB e3_15
  have hlho3_15 := OS.lt ho3_15
  try simp (disch := decide) only [outv_some, outv_none, put_puts]
  refine plK_pres (Ext.pres e3_15) ?_
  try simp -implicitDefEqProofs (disch := first | decide | assumption | omega) only [go_sem, RdS.len hd sl22, RdS.idx hd sl22, R1.intB hd (Ext.pres eB), RdS.cells hd, RdS.len hm sl23, RdS.idx hm sl23, RdS.cellB hm (Ext.pres eB), RdS.cells hm, RdS.len hv sl22, RdS.idx hv sl22, R1.intB hv (Ext.pres eB), RdS.cells hv, RdS.len hr5 sl27, RdS.idx hr5 sl27, RdS.cellB hr5 (Ext.pres eB), RdS.cells hr5, RdS.len (OS.rd ho3_15) sl22, RdS.idx (OS.rd ho3_15) sl22, R1.intN (OS.rd ho3_15), RdS.cells (OS.rd ho3_15), BoxAt.cellB hb0_0 eB, wrap_id]
  refine hK _ _ ?_
  clear hK K
  refine den_ret ?_
  simp (disch := decide) only [resP_1, puts_same, puts_ne]
  exact ⟨_, by rw [diffP, if_neg (by omega)]; exact ho3_15, hf3_15.mono (by omega), (Ext.trans e0_0 eB)⟩

set_option maxRecDepth 100000 in
theorem iIs_ok (v : Value) (X : Cx) (h : Heap) (hv : RC h v X) : CallA Try.prog 19 #[v] h fun v' h' => v' = .bool (isC X) ∧ Ext h h' := by
 obtain ⟨vd, vm, rfl, hd, hm⟩ := hv
 have hle := RdS.le hd
 have hlm := RdS.le hm
 refine callA_intro TTok (args := [_]) Try.func19 (by kernel_rfl) rfl 86 rfl (by simp) [.tmp 2] rfl ?_
 simp only [idxs, Nat.reduceAdd]
 refine den_seq ?_
 refine den_region TTok ?_
 intro K hK
 simp -implicitDefEqProofs (disch := first | decide | assumption | omega) only [go_sem, RdS.len hd sl22, RdS.idx hd sl22, R1.intB hd (HPres.refl _), RdS.cells hd, RdS.len hm sl23, RdS.idx hm sl23, RdS.cellB hm (HPres.refl _), RdS.cells hm, wrap_id, Int.add_sub_cancel]
 refine op_box (cs := #[.int .i64 (X.p), vd, vm]) rfl ?_
 intro h0_0 e0_0 hb0_0 z0_0
 replace hd := RdS.pres hd (Ext.pres e0_0)
 replace hm := RdS.pres hm (Ext.pres e0_0)
 try simp -implicitDefEqProofs (disch := first | decide | assumption | omega) only [go_sem, RdS.len hd sl22, RdS.idx hd sl22, R1.intB hd (HPres.refl _), RdS.cells hd, RdS.len hm sl23, RdS.idx hm sl23, RdS.cellB hm (HPres.refl _), RdS.cells hm, BoxAt.cell hb0_0, wrap_id, Int.add_sub_cancel]
 refine hK _ _ ?_
 clear hK K
 refine den_seq ?_
 refine den_seq ?_
 refine den_merge [(30, .bool (((((!((isP X.p))) || (!((in3 (((X.dims).length : Int) - 1) (0 : Int) (5 : Int))))) || (((X.maps).length : Int) != (((X.dims).length : Int) - 1))) || (X.dims.any (fun x => !in3 x 0 8)))))] [1] (fun H => Ext h0_0 H) ?_ ?_
  -- a way
 ·refine den_draw TTok mixed [] [(0, true), (1, true), (2, false), (3, true), (4, true), (5, true), (6, false), (7, false), (8, true), (9, true), (10, true), (11, true), (12, true), (14, true), (13, false), (15, false), (16, true), (17, true), (18, true), (19, true), (20, true), (21, false), (22, true)] (by kernel_rfl) ?_
  intro K hK
  simp -implicitDefEqProofs (disch := first | decide | assumption | (simp (disch := decide) only [slotOf_zero, slotOf_succ, Option.map_some, puts_same, puts_ne, gv_bool, gv_undef, tt, tf, ft, ff, eq_self, if_true, if_false, Bool.false_eq_true, Bool.not_true, Bool.not_false]; done) | omega) only [go_sem, fa33_0, ld2, RdS.len hd sl22, RdS.idx hd sl22, R1.intB hd (HPres.refl _), RdS.cells hd, RdS.len hm sl23, RdS.idx hm sl23, RdS.cellB hm (HPres.refl _), RdS.cells hm, BoxAt.cell hb0_0, wrap_id, Int.add_sub_cancel]
  try simp -implicitDefEqProofs (disch := first | decide | assumption | omega) only [go_sem, RdS.len hd sl22, RdS.idx hd sl22, R1.intB hd (HPres.refl _), RdS.cells hd, RdS.len hm sl23, RdS.idx hm sl23, RdS.cellB hm (HPres.refl _), RdS.cells hm, BoxAt.cell hb0_0, wrap_id, Int.add_sub_cancel]
  refine CallA.pure (iPrime_ok _ _) ?_
  try simp -implicitDefEqProofs (disch := first | decide | assumption | (simp (disch := decide) only [slotOf_zero, slotOf_succ, Option.map_some, puts_same, puts_ne, gv_bool, gv_undef, tt, tf, ft, ff, eq_self, if_true, if_false, Bool.false_eq_true, Bool.not_true, Bool.not_false]; done) | omega) only [go_sem, RdS.len hd sl22, RdS.idx hd sl22, R1.intB hd (HPres.refl _), RdS.cells hd, RdS.len hm sl23, RdS.idx hm sl23, RdS.cellB hm (HPres.refl _), RdS.cells hm, BoxAt.cell hb0_0, wrap_id, Int.add_sub_cancel]
  refine plG_F (by simp (disch := decide) only [slotOf_zero, slotOf_succ, Option.map_some, puts_same, puts_ne, gv_bool, gv_undef, tt, tf, ft, ff, eq_self, if_true, if_false, Bool.false_eq_true, Bool.not_true, Bool.not_false]; rfl) (fun g1 => ?_) (fun g1 => ?_)
  ·try simp -implicitDefEqProofs (disch := first | decide | assumption | (simp (disch := decide) only [slotOf_zero, slotOf_succ, Option.map_some, puts_same, puts_ne, gv_bool, gv_undef, tt, tf, ft, ff, eq_self, if_true, if_false, Bool.false_eq_true, Bool.not_true, Bool.not_false, g1]; done) | omega) only [go_sem, ld33, RdS.len hd sl22, RdS.idx hd sl22, R1.intB hd (HPres.refl _), RdS.cells hd, RdS.len hm sl23, RdS.idx hm sl23, RdS.cellB hm (HPres.refl _), RdS.cells hm, BoxAt.cell hb0_0, wrap_id, Int.add_sub_cancel, g1, eq_self, if_true, if_false, Bool.false_eq_true]
   try simp -implicitDefEqProofs (disch := first | decide | assumption | omega) only [go_sem, RdS.len hd sl22, RdS.idx hd sl22, R1.intB hd (HPres.refl _), RdS.cells hd, RdS.len hm sl23, RdS.idx hm sl23, RdS.cellB hm (HPres.refl _), RdS.cells hm, BoxAt.cell hb0_0, wrap_id, Int.add_sub_cancel]
   refine CallA.mono (top_ok _ X _ ⟨_, _, rfl, hd, hm⟩) ?_
   intro v_ h1_6
   rintro ⟨rfl, e1_6⟩
   have := Ext.size e1_6
   have eB := e1_6
   try simp (disch := decide) only [outv_some, outv_none, put_puts]
   refine plK_pres (Ext.pres e1_6) ?_
   try simp -implicitDefEqProofs (disch := first | decide | assumption | (simp (disch := decide) only [slotOf_zero, slotOf_succ, Option.map_some, puts_same, puts_ne, gv_bool, gv_undef, tt, tf, ft, ff, eq_self, if_true, if_false, Bool.false_eq_true, Bool.not_true, Bool.not_false, g1]; done) | omega) only [go_sem, RdS.len hd sl22, RdS.idx hd sl22, R1.intB hd (Ext.pres eB), RdS.cells hd, RdS.len hm sl23, RdS.idx hm sl23, RdS.cellB hm (Ext.pres eB), RdS.cells hm, BoxAt.cellB hb0_0 eB, wrap_id, Int.add_sub_cancel, g1, eq_self, if_true, if_false, Bool.false_eq_true]
   try simp -implicitDefEqProofs (disch := first | decide | assumption | omega) only [go_sem, RdS.len hd sl22, RdS.idx hd sl22, R1.intB hd (Ext.pres eB), RdS.cells hd, RdS.len hm sl23, RdS.idx hm sl23, RdS.cellB hm (Ext.pres eB), RdS.cells hm, BoxAt.cellB hb0_0 eB, wrap_id, Int.add_sub_cancel]
   refine CallA.pure (iIn_ok _ _ _ _) ?_
   try simp -implicitDefEqProofs (disch := first | decide | assumption | (simp (disch := decide) only [slotOf_zero, slotOf_succ, Option.map_some, puts_same, puts_ne, gv_bool, gv_undef, tt, tf, ft, ff, eq_self, if_true, if_false, Bool.false_eq_true, Bool.not_true, Bool.not_false, g1]; done) | omega) only [go_sem, RdS.len hd sl22, RdS.idx hd sl22, R1.intB hd (Ext.pres eB), RdS.cells hd, RdS.len hm sl23, RdS.idx hm sl23, RdS.cellB hm (Ext.pres eB), RdS.cells hm, BoxAt.cellB hb0_0 eB, wrap_id, Int.add_sub_cancel, g1, eq_self, if_true, if_false, Bool.false_eq_true]
   refine plG_F (by simp (disch := decide) only [slotOf_zero, slotOf_succ, Option.map_some, puts_same, puts_ne, gv_bool, gv_undef, tt, tf, ft, ff, eq_self, if_true, if_false, Bool.false_eq_true, Bool.not_true, Bool.not_false, g1]; rfl) (fun g2 => ?_) (fun g2 => ?_)
   ·try simp -implicitDefEqProofs (disch := first | decide | assumption | (simp (disch := decide) only [slotOf_zero, slotOf_succ, Option.map_some, puts_same, puts_ne, gv_bool, gv_undef, tt, tf, ft, ff, eq_self, if_true, if_false, Bool.false_eq_true, Bool.not_true, Bool.not_false, g1, g2]; done) | omega) only [go_sem, fa33_2, ld23, ld33, RdS.len hd sl22, RdS.idx hd sl22, R1.intB hd (Ext.pres eB), RdS.cells hd, RdS.len hm sl23, RdS.idx hm sl23, RdS.cellB hm (Ext.pres eB), RdS.cells hm, BoxAt.cellB hb0_0 eB, wrap_id, Int.add_sub_cancel, g1, g2, eq_self, if_true, if_false, Bool.false_eq_true]
    try simp -implicitDefEqProofs (disch := first | decide | assumption | omega) only [go_sem, RdS.len hd sl22, RdS.idx hd sl22, R1.intB hd (Ext.pres eB), RdS.cells hd, RdS.len hm sl23, RdS.idx hm sl23, RdS.cellB hm (Ext.pres eB), RdS.cells hm, BoxAt.cellB hb0_0 eB, wrap_id, Int.add_sub_cancel]
    refine CallA.pure (size3_ok _ _ _ (RdS.pres hm (Ext.pres eB))) ?_
    try simp -implicitDefEqProofs (disch := first | decide | assumption | (simp (disch := decide) only [slotOf_zero, slotOf_succ, Option.map_some, puts_same, puts_ne, gv_bool, gv_undef, tt, tf, ft, ff, eq_self, if_true, if_false, Bool.false_eq_true, Bool.not_true, Bool.not_false, g1, g2]; done) | omega) only [go_sem, RdS.len hd sl22, RdS.idx hd sl22, R1.intB hd (Ext.pres eB), RdS.cells hd, RdS.len hm sl23, RdS.idx hm sl23, RdS.cellB hm (Ext.pres eB), RdS.cells hm, BoxAt.cellB hb0_0 eB, wrap_id, Int.add_sub_cancel, g1, g2, eq_self, if_true, if_false, Bool.false_eq_true]
    try simp -implicitDefEqProofs (disch := first | decide | assumption | omega) only [go_sem, RdS.len hd sl22, RdS.idx hd sl22, R1.intB hd (Ext.pres eB), RdS.cells hd, RdS.len hm sl23, RdS.idx hm sl23, RdS.cellB hm (Ext.pres eB), RdS.cells hm, BoxAt.cellB hb0_0 eB, wrap_id, Int.add_sub_cancel]
    refine CallA.mono (top_ok _ X _ ⟨_, _, rfl, (RdS.pres hd (Ext.pres eB)), (RdS.pres hm (Ext.pres eB))⟩) ?_
    intro v_ h1_15
    rintro ⟨rfl, e1_15⟩
    have := Ext.size e1_15
    replace eB := Ext.trans eB e1_15
    try simp (disch := decide) only [outv_some, outv_none, put_puts]
    refine plK_pres (Ext.pres e1_15) ?_
    try simp -implicitDefEqProofs (disch := first | decide | assumption | (simp (disch := decide) only [slotOf_zero, slotOf_succ, Option.map_some, puts_same, puts_ne, gv_bool, gv_undef, tt, tf, ft, ff, eq_self, if_true, if_false, Bool.false_eq_true, Bool.not_true, Bool.not_false, g1, g2]; done) | omega) only [go_sem, RdS.len hd sl22, RdS.idx hd sl22, R1.intB hd (Ext.pres eB), RdS.cells hd, RdS.len hm sl23, RdS.idx hm sl23, RdS.cellB hm (Ext.pres eB), RdS.cells hm, BoxAt.cellB hb0_0 eB, wrap_id, Int.add_sub_cancel, g1, g2, eq_self, if_true, if_false, Bool.false_eq_true]
    refine plG_F (by simp (disch := decide) only [slotOf_zero, slotOf_succ, Option.map_some, puts_same, puts_ne, gv_bool, gv_undef, tt, tf, ft, ff, eq_self, if_true, if_false, Bool.false_eq_true, Bool.not_true, Bool.not_false, g1, g2]; rfl) (fun g3 => ?_) (fun g3 => ?_)
    ·try simp -implicitDefEqProofs (disch := first | decide | assumption | (simp (disch := decide) only [slotOf_zero, slotOf_succ, Option.map_some, puts_same, puts_ne, gv_bool, gv_undef, tt, tf, ft, ff, eq_self, if_true, if_false, Bool.false_eq_true, Bool.not_true, Bool.not_false, g1, g2, g3]; done) | omega) only [go_sem, fa33_1, ld22, RdS.len hd sl22, RdS.idx hd sl22, R1.intB hd (Ext.pres eB), RdS.cells hd, RdS.len hm sl23, RdS.idx hm sl23, RdS.cellB hm (Ext.pres eB), RdS.cells hm, BoxAt.cellB hb0_0 eB, wrap_id, Int.add_sub_cancel, g1, g2, g3, eq_self, if_true, if_false, Bool.false_eq_true]
     try simp -implicitDefEqProofs (disch := first | decide | assumption | omega) only [go_sem, RdS.len hd sl22, RdS.idx hd sl22, R1.intB hd (Ext.pres eB), RdS.cells hd, RdS.len hm sl23, RdS.idx hm sl23, RdS.cellB hm (Ext.pres eB), RdS.cells hm, BoxAt.cellB hb0_0 eB, wrap_id, Int.add_sub_cancel]
     refine CallA.mono (has1_ok _ X.dims _ _ (fun x => !in3 x 0 8) _ (RdS.pres hd (Ext.pres eB)) (fun j hj h' e => by
    simp only [List.append_toArray, List.cons_append, List.nil_append]
    exact CallA.mono (isC1_ok _ _) (fun _ _ ⟨e1, e2⟩ => ⟨e1, e2 ▸ Ext.refl _⟩))) ?_
     intro v_ h1_21
     rintro ⟨rfl, e1_21⟩
     have := Ext.size e1_21
     replace eB := Ext.trans eB e1_21
     try simp (disch := decide) only [outv_some, outv_none, put_puts]
     refine plK_pres (Ext.pres e1_21) ?_
     try simp -implicitDefEqProofs (disch := first | decide | assumption | (simp (disch := decide) only [slotOf_zero, slotOf_succ, Option.map_some, puts_same, puts_ne, gv_bool, gv_undef, tt, tf, ft, ff, eq_self, if_true, if_false, Bool.false_eq_true, Bool.not_true, Bool.not_false, g1, g2, g3]; done) | omega) only [go_sem, RdS.len hd sl22, RdS.idx hd sl22, R1.intB hd (Ext.pres eB), RdS.cells hd, RdS.len hm sl23, RdS.idx hm sl23, RdS.cellB hm (Ext.pres eB), RdS.cells hm, BoxAt.cellB hb0_0 eB, wrap_id, Int.add_sub_cancel, g1, g2, g3, eq_self, if_true, if_false, Bool.false_eq_true]
     refine hK _ _ ?_
     clear hK K
     refine den_stop ?_
     refine ⟨?_, (Ext.trans (Ext.trans e1_6 e1_15) e1_21)⟩
     first | (simp (disch := decide) only [go_sem, g1, g2, g3, eq_self, Bool.true_and, Bool.and_true, Bool.false_and, Bool.and_false, Bool.true_or, Bool.or_true, Bool.false_or, Bool.or_false, if_true, if_false, Bool.false_eq_true]; done) | simp [HasL, sel, puts_at, g1, g2, g3]
    ·try simp -implicitDefEqProofs (disch := first | decide | assumption | (simp (disch := decide) only [slotOf_zero, slotOf_succ, Option.map_some, puts_same, puts_ne, gv_bool, gv_undef, tt, tf, ft, ff, eq_self, if_true, if_false, Bool.false_eq_true, Bool.not_true, Bool.not_false, g1, g2, g3]; done) | omega) only [go_sem, RdS.len hd sl22, RdS.idx hd sl22, R1.intB hd (Ext.pres eB), RdS.cells hd, RdS.len hm sl23, RdS.idx hm sl23, RdS.cellB hm (Ext.pres eB), RdS.cells hm, BoxAt.cellB hb0_0 eB, wrap_id, Int.add_sub_cancel, g1, g2, g3, eq_self, if_true, if_false, Bool.false_eq_true]
     refine hK _ _ ?_
     clear hK K
     refine den_stop ?_
     refine ⟨?_, (Ext.trans e1_6 e1_15)⟩
     first | (simp (disch := decide) only [go_sem, g1, g2, g3, eq_self, Bool.true_and, Bool.and_true, Bool.false_and, Bool.and_false, Bool.true_or, Bool.or_true, Bool.false_or, Bool.or_false, if_true, if_false, Bool.false_eq_true]; done) | simp [HasL, sel, puts_at, g1, g2, g3]
   ·try simp -implicitDefEqProofs (disch := first | decide | assumption | (simp (disch := decide) only [slotOf_zero, slotOf_succ, Option.map_some, puts_same, puts_ne, gv_bool, gv_undef, tt, tf, ft, ff, eq_self, if_true, if_false, Bool.false_eq_true, Bool.not_true, Bool.not_false, g1, g2]; done) | omega) only [go_sem, RdS.len hd sl22, RdS.idx hd sl22, R1.intB hd (Ext.pres eB), RdS.cells hd, RdS.len hm sl23, RdS.idx hm sl23, RdS.cellB hm (Ext.pres eB), RdS.cells hm, BoxAt.cellB hb0_0 eB, wrap_id, Int.add_sub_cancel, g1, g2, eq_self, if_true, if_false, Bool.false_eq_true]
    try simp -implicitDefEqProofs (disch := first | decide | assumption | (simp (disch := decide) only [slotOf_zero, slotOf_succ, Option.map_some, puts_same, puts_ne, gv_bool, gv_undef, tt, tf, ft, ff, eq_self, if_true, if_false, Bool.false_eq_true, Bool.not_true, Bool.not_false, g1, g2]; done) | omega) only [go_sem, RdS.len hd sl22, RdS.idx hd sl22, R1.intB hd (Ext.pres eB), RdS.cells hd, RdS.len hm sl23, RdS.idx hm sl23, RdS.cellB hm (Ext.pres eB), RdS.cells hm, BoxAt.cellB hb0_0 eB, wrap_id, Int.add_sub_cancel, g1, g2, eq_self, if_true, if_false, Bool.false_eq_true]
    refine hK _ _ ?_
    clear hK K
    refine den_stop ?_
    refine ⟨?_, e1_6⟩
    first | (simp (disch := decide) only [go_sem, g1, g2, eq_self, Bool.true_and, Bool.and_true, Bool.false_and, Bool.and_false, Bool.true_or, Bool.or_true, Bool.false_or, Bool.or_false, if_true, if_false, Bool.false_eq_true]; done) | simp [HasL, sel, puts_at, g1, g2]
  ·try simp -implicitDefEqProofs (disch := first | decide | assumption | (simp (disch := decide) only [slotOf_zero, slotOf_succ, Option.map_some, puts_same, puts_ne, gv_bool, gv_undef, tt, tf, ft, ff, eq_self, if_true, if_false, Bool.false_eq_true, Bool.not_true, Bool.not_false, g1]; done) | omega) only [go_sem, RdS.len hd sl22, RdS.idx hd sl22, R1.intB hd (HPres.refl _), RdS.cells hd, RdS.len hm sl23, RdS.idx hm sl23, RdS.cellB hm (HPres.refl _), RdS.cells hm, BoxAt.cell hb0_0, wrap_id, Int.add_sub_cancel, g1, eq_self, if_true, if_false, Bool.false_eq_true]
   try simp -implicitDefEqProofs (disch := first | decide | assumption | (simp (disch := decide) only [slotOf_zero, slotOf_succ, Option.map_some, puts_same, puts_ne, gv_bool, gv_undef, tt, tf, ft, ff, eq_self, if_true, if_false, Bool.false_eq_true, Bool.not_true, Bool.not_false, g1]; done) | omega) only [go_sem, RdS.len hd sl22, RdS.idx hd sl22, R1.intB hd (HPres.refl _), RdS.cells hd, RdS.len hm sl23, RdS.idx hm sl23, RdS.cellB hm (HPres.refl _), RdS.cells hm, BoxAt.cell hb0_0, wrap_id, Int.add_sub_cancel, g1, eq_self, if_true, if_false, Bool.false_eq_true]
   try simp -implicitDefEqProofs (disch := first | decide | assumption | (simp (disch := decide) only [slotOf_zero, slotOf_succ, Option.map_some, puts_same, puts_ne, gv_bool, gv_undef, tt, tf, ft, ff, eq_self, if_true, if_false, Bool.false_eq_true, Bool.not_true, Bool.not_false, g1]; done) | omega) only [go_sem, RdS.len hd sl22, RdS.idx hd sl22, R1.intB hd (HPres.refl _), RdS.cells hd, RdS.len hm sl23, RdS.idx hm sl23, RdS.cellB hm (HPres.refl _), RdS.cells hm, BoxAt.cell hb0_0, wrap_id, Int.add_sub_cancel, g1, eq_self, if_true, if_false, Bool.false_eq_true]
   refine hK _ _ ?_
   clear hK K
   refine den_stop ?_
   refine ⟨?_, Ext.refl _⟩
   first | (simp (disch := decide) only [go_sem, g1, eq_self, Bool.true_and, Bool.and_true, Bool.false_and, Bool.and_false, Bool.true_or, Bool.or_true, Bool.false_or, Bool.or_false, if_true, if_false, Bool.false_eq_true]; done) | simp [HasL, sel, puts_at, g1]
 intro en4 h5 e6
 have := Ext.size e6
 have eB := e6
 simp (disch := decide) only [go_sem]
 refine den_cond rfl (fun c0 => ?_) (fun c0 => ?_)
 ·try simp only [decide_eq_true_eq, decide_eq_false_iff_not, beq_iff_eq, beq_eq_false_iff_ne, bne_iff_ne, ne_eq, Bool.not_eq_true', Bool.not_eq_false', Bool.and_eq_true, Bool.or_eq_true, bne_eq_false_iff_eq, Bool.or_eq_false_iff, Bool.and_eq_false_iff] at c0
  refine den_seq ?_
  refine den_region TTok ?_
  intro K hK
  simp -implicitDefEqProofs (disch := first | decide | assumption | omega) only [go_sem, RdS.len hd sl22, RdS.idx hd sl22, R1.intB hd (Ext.pres eB), RdS.cells hd, RdS.len hm sl23, RdS.idx hm sl23, RdS.cellB hm (Ext.pres eB), RdS.cells hm, BoxAt.cellB hb0_0 eB, wrap_id, Int.add_sub_cancel]
  refine hK _ _ ?_
  clear hK K
  refine den_ret ?_
  simp (disch := decide) only [resP_1, puts_same, puts_ne]
  exact ⟨vbool (isC_no fun hC => by
   have h1 := hC.p; have h2 := hC.len; have h3 := hC.ml
   rcases c0 with ((c | c) | c) | c
   ·rw [h1] at c; cases c
   ·rw [in3_f] at c; omega
   ·omega
   ·have := hC.dm; rw [List.all_eq_not_any_not, c] at this; cases this), (Ext.trans e0_0 eB)⟩
 ·try simp only [decide_eq_true_eq, decide_eq_false_iff_not, beq_iff_eq, beq_eq_false_iff_ne, bne_iff_ne, ne_eq, Bool.not_eq_true', Bool.not_eq_false', Bool.and_eq_true, Bool.or_eq_true, bne_eq_false_iff_eq, Bool.or_eq_false_iff, Bool.and_eq_false_iff] at c0
  refine den_skip ?_
  refine den_seq ?_
  refine den_seq ?_
  have hp7 := isP_bnd c0.1.1.1
  have hdl := in3_iff.1 c0.1.1.2
  have hda := any_all c0.2
  refine den_region TTok ?_
  intro K hK
  simp -implicitDefEqProofs (disch := first | decide | assumption | omega) only [go_sem, fa33_2, ld23, RdS.len hd sl22, RdS.idx hd sl22, R1.intB hd (Ext.pres eB), RdS.cells hd, RdS.len hm sl23, RdS.idx hm sl23, RdS.cellB hm (Ext.pres eB), RdS.cells hm, BoxAt.cellB hb0_0 eB, wrap_id, Int.add_sub_cancel]
  refine hK _ _ ?_
  clear hK K
  refine den_block ?_
  refine den_sel [34, 1, 32, 33] ?_
  intro env_7
  simp only [go_sem]
  refine den_loopS (σ := Nat) (fun s => [(34, .int .i64 (s : Int))]) (fun s H => Ext h0_0 H ∧ s ≤ X.maps.length ∧ ∀ j, j < s → tbAt X j) (fun s => X.maps.length - s) 0 ?_ ?_
  ·exact ⟨eB, by omega, fun j hj => by omega⟩
  ·rintro k h10 ee9 ⟨eB, hk, hz⟩
   simp only [List.cons_append, List.nil_append]
   have := Ext.size eB
   refine den_seq ?_
   refine den_region TTok ?_
   intro K hK
   simp -implicitDefEqProofs (disch := first | decide | assumption | omega) only [go_sem, RdS.len hd sl22, RdS.idx hd sl22, R1.intB hd (Ext.pres eB), RdS.cells hd, RdS.len hm sl23, RdS.idx hm sl23, RdS.cellB hm (Ext.pres eB), RdS.cells hm, BoxAt.cellB hb0_0 eB, wrap_id, Int.add_sub_cancel]
   refine hK _ _ ?_
   clear hK K
   refine den_seq ?_
   refine den_cond rfl (fun c1 => ?_) (fun c1 => ?_)
   ·try simp only [decide_eq_true_eq, decide_eq_false_iff_not, beq_iff_eq, beq_eq_false_iff_ne, bne_iff_ne, ne_eq, Bool.not_eq_true', Bool.not_eq_false', Bool.and_eq_true, Bool.or_eq_true, bne_eq_false_iff_eq, Bool.or_eq_false_iff, Bool.and_eq_false_iff] at c1
    refine den_skip ?_
    refine den_seq ?_
    refine den_block ?_
    refine den_seq ?_
    refine den_region TTok ?_
    intro K hK
    have hr11 := RdS.rowN hm k (by omega)
    have hlhr11 := RdS.le hr11
    simp -implicitDefEqProofs (disch := first | decide | assumption | omega) only [go_sem, ld27, RdS.len hd sl22, RdS.idx hd sl22, R1.intB hd (Ext.pres eB), RdS.cells hd, RdS.len hm sl23, RdS.idx hm sl23, RdS.cellB hm (Ext.pres eB), RdS.cells hm, RdS.len hr11 sl27, RdS.idx hr11 sl27, RdS.cellB hr11 (Ext.pres eB), RdS.cells hr11, BoxAt.cellB hb0_0 eB, wrap_id, Int.add_sub_cancel]
    refine hK _ _ ?_
    clear hK K
    refine den_seq ?_
    refine den_merge [(59, .bool ((((((X.maps).getD k default).length : Int) != ((X.dims).getD (((k : Int) + (1 : Int))).toNat 0)) || (!((((X.maps).getD k default).all (isRow X.p ((X.dims).getD k 0))))))))] [1, 32, 33, 34] (fun H => Ext h10 H) ?_ ?_
     -- a way
    ·refine den_draw TTok mixed [] [(0, true), (2, true), (3, true), (4, true), (5, true), (6, true), (7, true), (1, false), (8, true), (9, true), (10, true), (11, true), (12, true), (13, true), (14, true), (15, true), (16, true), (17, true), (18, false), (19, true), (20, true)] (by kernel_rfl) ?_
     intro K hK
     simp -implicitDefEqProofs (disch := first | decide | assumption | (simp (disch := decide) only [slotOf_zero, slotOf_succ, Option.map_some, puts_same, puts_ne, gv_bool, gv_undef, tt, tf, ft, ff, eq_self, if_true, if_false, Bool.false_eq_true, Bool.not_true, Bool.not_false]; done) | omega) only [go_sem, fa33_1, ld22, ld2, RdS.len hd sl22, RdS.idx hd sl22, R1.intB hd (Ext.pres eB), RdS.cells hd, RdS.len hm sl23, RdS.idx hm sl23, RdS.cellB hm (Ext.pres eB), RdS.cells hm, RdS.len hr11 sl27, RdS.idx hr11 sl27, RdS.cellB hr11 (Ext.pres eB), RdS.cells hr11, BoxAt.cellB hb0_0 eB, wrap_id, Int.add_sub_cancel]
     try simp -implicitDefEqProofs (disch := first | decide | assumption | omega) only [go_sem, RdS.len hd sl22, RdS.idx hd sl22, R1.intB hd (Ext.pres eB), RdS.cells hd, RdS.len hm sl23, RdS.idx hm sl23, RdS.cellB hm (Ext.pres eB), RdS.cells hm, RdS.len hr11 sl27, RdS.idx hr11 sl27, RdS.cellB hr11 (Ext.pres eB), RdS.cells hr11, BoxAt.cellB hb0_0 eB, wrap_id, Int.add_sub_cancel]
     refine CallA.pure (size2_ok _ _ _ (RdS.pres hr11 (Ext.pres eB))) ?_
     try simp -implicitDefEqProofs (disch := first | decide | assumption | (simp (disch := decide) only [slotOf_zero, slotOf_succ, Option.map_some, puts_same, puts_ne, gv_bool, gv_undef, tt, tf, ft, ff, eq_self, if_true, if_false, Bool.false_eq_true, Bool.not_true, Bool.not_false]; done) | omega) only [go_sem, RdS.len hd sl22, RdS.idx hd sl22, R1.intB hd (Ext.pres eB), RdS.cells hd, RdS.len hm sl23, RdS.idx hm sl23, RdS.cellB hm (Ext.pres eB), RdS.cells hm, RdS.len hr11 sl27, RdS.idx hr11 sl27, RdS.cellB hr11 (Ext.pres eB), RdS.cells hr11, BoxAt.cellB hb0_0 eB, wrap_id, Int.add_sub_cancel]
     refine plG_F (by simp (disch := decide) only [slotOf_zero, slotOf_succ, Option.map_some, puts_same, puts_ne, gv_bool, gv_undef, tt, tf, ft, ff, eq_self, if_true, if_false, Bool.false_eq_true, Bool.not_true, Bool.not_false]; rfl) (fun g12 => ?_) (fun g12 => ?_)
     ·try simp -implicitDefEqProofs (disch := first | decide | assumption | (simp (disch := decide) only [slotOf_zero, slotOf_succ, Option.map_some, puts_same, puts_ne, gv_bool, gv_undef, tt, tf, ft, ff, eq_self, if_true, if_false, Bool.false_eq_true, Bool.not_true, Bool.not_false, g12]; done) | omega) only [go_sem, fa33_0, fa33_1, ld22, ld2, RdS.len hd sl22, RdS.idx hd sl22, R1.intB hd (Ext.pres eB), RdS.cells hd, RdS.len hm sl23, RdS.idx hm sl23, RdS.cellB hm (Ext.pres eB), RdS.cells hm, RdS.len hr11 sl27, RdS.idx hr11 sl27, RdS.cellB hr11 (Ext.pres eB), RdS.cells hr11, BoxAt.cellB hb0_0 eB, wrap_id, Int.add_sub_cancel, g12, eq_self, if_true, if_false, Bool.false_eq_true]
      try simp -implicitDefEqProofs (disch := first | decide | assumption | omega) only [go_sem, RdS.len hd sl22, RdS.idx hd sl22, R1.intB hd (Ext.pres eB), RdS.cells hd, RdS.len hm sl23, RdS.idx hm sl23, RdS.cellB hm (Ext.pres eB), RdS.cells hm, RdS.len hr11 sl27, RdS.idx hr11 sl27, RdS.cellB hr11 (Ext.pres eB), RdS.cells hr11, BoxAt.cellB hb0_0 eB, wrap_id, Int.add_sub_cancel]
      refine CallA.mono (areRows_ok _ _ _ _ _ (RdS.pres hr11 (Ext.pres eB)) (by omega)) ?_
      intro v_ h6_18
      rintro ⟨rfl, e6_18⟩
      have := Ext.size e6_18
      replace eB := Ext.trans eB e6_18
      try simp (disch := decide) only [outv_some, outv_none, put_puts]
      refine plK_pres (Ext.pres e6_18) ?_
      try simp -implicitDefEqProofs (disch := first | decide | assumption | (simp (disch := decide) only [slotOf_zero, slotOf_succ, Option.map_some, puts_same, puts_ne, gv_bool, gv_undef, tt, tf, ft, ff, eq_self, if_true, if_false, Bool.false_eq_true, Bool.not_true, Bool.not_false, g12]; done) | omega) only [go_sem, RdS.len hd sl22, RdS.idx hd sl22, R1.intB hd (Ext.pres eB), RdS.cells hd, RdS.len hm sl23, RdS.idx hm sl23, RdS.cellB hm (Ext.pres eB), RdS.cells hm, RdS.len hr11 sl27, RdS.idx hr11 sl27, RdS.cellB hr11 (Ext.pres eB), RdS.cells hr11, BoxAt.cellB hb0_0 eB, wrap_id, Int.add_sub_cancel, g12, eq_self, if_true, if_false, Bool.false_eq_true]
      refine hK _ _ ?_
      clear hK K
      refine den_stop ?_
      refine ⟨?_, e6_18⟩
      first | (simp (disch := decide) only [go_sem, g12, eq_self, Bool.true_and, Bool.and_true, Bool.false_and, Bool.and_false, Bool.true_or, Bool.or_true, Bool.false_or, Bool.or_false, if_true, if_false, Bool.false_eq_true]; done) | simp [HasL, sel, puts_at, g12]
     ·try simp -implicitDefEqProofs (disch := first | decide | assumption | (simp (disch := decide) only [slotOf_zero, slotOf_succ, Option.map_some, puts_same, puts_ne, gv_bool, gv_undef, tt, tf, ft, ff, eq_self, if_true, if_false, Bool.false_eq_true, Bool.not_true, Bool.not_false, g12]; done) | omega) only [go_sem, RdS.len hd sl22, RdS.idx hd sl22, R1.intB hd (Ext.pres eB), RdS.cells hd, RdS.len hm sl23, RdS.idx hm sl23, RdS.cellB hm (Ext.pres eB), RdS.cells hm, RdS.len hr11 sl27, RdS.idx hr11 sl27, RdS.cellB hr11 (Ext.pres eB), RdS.cells hr11, BoxAt.cellB hb0_0 eB, wrap_id, Int.add_sub_cancel, g12, eq_self, if_true, if_false, Bool.false_eq_true]
      refine hK _ _ ?_
      clear hK K
      refine den_stop ?_
      refine ⟨?_, Ext.refl _⟩
      first | (simp (disch := decide) only [go_sem, g12, eq_self, Bool.true_and, Bool.and_true, Bool.false_and, Bool.and_false, Bool.true_or, Bool.or_true, Bool.false_or, Bool.or_false, if_true, if_false, Bool.false_eq_true]; done) | simp [HasL, sel, puts_at, g12]
    intro en13 h14 e15
    have := Ext.size e15
    replace eB := Ext.trans eB e15
    simp (disch := decide) only [go_sem]
    refine den_cond rfl (fun c2 => ?_) (fun c2 => ?_)
    ·try simp only [decide_eq_true_eq, decide_eq_false_iff_not, beq_iff_eq, beq_eq_false_iff_ne, bne_iff_ne, ne_eq, Bool.not_eq_true', Bool.not_eq_false', Bool.and_eq_true, Bool.or_eq_true, bne_eq_false_iff_eq, Bool.or_eq_false_iff, Bool.and_eq_false_iff] at c2
     refine den_seq ?_
     refine den_region TTok ?_
     intro K hK
     simp -implicitDefEqProofs (disch := first | decide | assumption | omega) only [go_sem, RdS.len hd sl22, RdS.idx hd sl22, R1.intB hd (Ext.pres eB), RdS.cells hd, RdS.len hm sl23, RdS.idx hm sl23, RdS.cellB hm (Ext.pres eB), RdS.cells hm, RdS.len hr11 sl27, RdS.idx hr11 sl27, RdS.cellB hr11 (Ext.pres eB), RdS.cells hr11, BoxAt.cellB hb0_0 eB, wrap_id, Int.add_sub_cancel]
     refine hK _ _ ?_
     clear hK K
     refine den_ret ?_
     simp (disch := decide) only [resP_1, puts_same, puts_ne]
     exact ⟨vbool (isC_no fun hC => by
      have h := tbAt_iff.1 (hC.tb k (by omega))
      rcases c2 with c | c
      ·exact c h.1
      ·rw [h.2] at c; cases c), (Ext.trans e0_0 eB)⟩
    ·try simp only [decide_eq_true_eq, decide_eq_false_iff_not, beq_iff_eq, beq_eq_false_iff_ne, bne_iff_ne, ne_eq, Bool.not_eq_true', Bool.not_eq_false', Bool.and_eq_true, Bool.or_eq_true, bne_eq_false_iff_eq, Bool.or_eq_false_iff, Bool.and_eq_false_iff] at c2
     refine den_skip ?_
     refine den_blk ?_
     refine den_region TTok ?_
     intro K hK
     simp -implicitDefEqProofs (disch := first | decide | assumption | omega) only [go_sem, RdS.len hd sl22, RdS.idx hd sl22, R1.intB hd (Ext.pres eB), RdS.cells hd, RdS.len hm sl23, RdS.idx hm sl23, RdS.cellB hm (Ext.pres eB), RdS.cells hm, RdS.len hr11 sl27, RdS.idx hr11 sl27, RdS.cellB hr11 (Ext.pres eB), RdS.cells hr11, BoxAt.cellB hb0_0 eB, wrap_id, Int.add_sub_cancel]
     refine hK _ _ ?_
     clear hK K
     refine den_stop ?_
     exact ⟨k + 1, by simp [HasL, puts_at], ⟨eB, by omega, fun j hj => by
      rcases Nat.lt_succ_iff_lt_or_eq.1 hj with h1 | h1
      ·exact hz j h1
      ·subst h1; exact tbAt_iff.2 c2⟩, by omega⟩
   ·try simp only [decide_eq_true_eq, decide_eq_false_iff_not, beq_iff_eq, beq_eq_false_iff_ne, bne_iff_ne, ne_eq, Bool.not_eq_true', Bool.not_eq_false', Bool.and_eq_true, Bool.or_eq_true, bne_eq_false_iff_eq, Bool.or_eq_false_iff, Bool.and_eq_false_iff] at c1
    refine den_exit ?_
    refine denX_code ?_
    refine denX_stop ?_
    refine denX_hit ?_
    refine den_seq ?_
    refine den_seq ?_
    have hP : PreC X := ⟨hp7, by omega, hda, fun j hj => hz j (by omega)⟩
    refine den_region TTok ?_
    intro K hK
    simp -implicitDefEqProofs (disch := first | decide | assumption | omega) only [go_sem, RdS.len hd sl22, RdS.idx hd sl22, R1.intB hd (Ext.pres eB), RdS.cells hd, RdS.len hm sl23, RdS.idx hm sl23, RdS.cellB hm (Ext.pres eB), RdS.cells hm, BoxAt.cellB hb0_0 eB, wrap_id, Int.add_sub_cancel]
    refine hK _ _ ?_
    clear hK K
    refine den_block ?_
    refine den_sel [5, 1] ?_
    intro env_16
    simp only [go_sem]
    refine den_loopS (σ := Nat) (fun s => [(5, .int .i64 ((s : Int) + 1))]) (fun s H => Ext h0_0 H ∧ 0 < s ∧ ∀ j, 0 < j → j < s → ∀ i, i < (X.maps.getD j default).length → leadP (sqv X j i) < 0) (fun s => X.maps.length - s) 1 ?_ ?_
    ·exact ⟨eB, by omega, fun j h0 hj => by omega⟩
    ·rintro k h19 ee18 ⟨eB, hk, hs⟩
     simp only [List.cons_append, List.nil_append]
     have := Ext.size eB
     refine den_seq ?_
     refine den_seq ?_
     refine den_region TTok ?_
     intro K hK
     simp -implicitDefEqProofs (disch := first | decide | assumption | omega) only [go_sem, ld33, RdS.len hd sl22, RdS.idx hd sl22, R1.intB hd (Ext.pres eB), RdS.cells hd, RdS.len hm sl23, RdS.idx hm sl23, RdS.cellB hm (Ext.pres eB), RdS.cells hm, BoxAt.cellB hb0_0 eB, wrap_id, Int.add_sub_cancel]
     try simp -implicitDefEqProofs (disch := first | decide | assumption | omega) only [go_sem, RdS.len hd sl22, RdS.idx hd sl22, R1.intB hd (Ext.pres eB), RdS.cells hd, RdS.len hm sl23, RdS.idx hm sl23, RdS.cellB hm (Ext.pres eB), RdS.cells hm, BoxAt.cellB hb0_0 eB, wrap_id, Int.add_sub_cancel]
     refine CallA.mono (top_ok _ X _ ⟨_, _, rfl, (RdS.pres hd (Ext.pres eB)), (RdS.pres hm (Ext.pres eB))⟩) ?_
     intro v_ h10_2
     rintro ⟨rfl, e10_2⟩
     have := Ext.size e10_2
     replace eB := Ext.trans eB e10_2
     try simp -implicitDefEqProofs (disch := first | decide | assumption | omega) only [go_sem, RdS.len hd sl22, RdS.idx hd sl22, R1.intB hd (Ext.pres eB), RdS.cells hd, RdS.len hm sl23, RdS.idx hm sl23, RdS.cellB hm (Ext.pres eB), RdS.cells hm, BoxAt.cellB hb0_0 eB, wrap_id, Int.add_sub_cancel]
     refine hK _ _ ?_
     clear hK K
     refine den_cond rfl (fun c3 => ?_) (fun c3 => ?_)
     ·try simp only [decide_eq_true_eq, decide_eq_false_iff_not, beq_iff_eq, beq_eq_false_iff_ne, bne_iff_ne, ne_eq, Bool.not_eq_true', Bool.not_eq_false', Bool.and_eq_true, Bool.or_eq_true, bne_eq_false_iff_eq, Bool.or_eq_false_iff, Bool.and_eq_false_iff] at c3
      refine den_skip ?_
      refine den_seq ?_
      refine den_block ?_
      refine den_seq ?_
      refine den_region TTok ?_
      intro K hK
      have hr20 := RdS.rowN hm k (by omega)
      have hlhr20 := RdS.le hr20
      simp -implicitDefEqProofs (disch := first | decide | assumption | omega) only [go_sem, fa33_2, ld23, ld27, RdS.len hd sl22, RdS.idx hd sl22, R1.intB hd (Ext.pres eB), RdS.cells hd, RdS.len hm sl23, RdS.idx hm sl23, RdS.cellB hm (Ext.pres eB), RdS.cells hm, RdS.len hr20 sl27, RdS.idx hr20 sl27, RdS.cellB hr20 (Ext.pres eB), RdS.cells hr20, BoxAt.cellB hb0_0 eB, wrap_id, Int.add_sub_cancel]
      refine hK _ _ ?_
      clear hK K
      refine den_block ?_
      refine den_sel [74, 1, 5, 72, 73] ?_
      intro env_21
      simp only [go_sem]
      refine den_loopS (σ := Nat) (fun s => [(74, .int .i64 (s : Int))]) (fun s H => Ext h0_0 H ∧ s ≤ (X.maps.getD k default).length ∧ ∀ i, i < s → leadP (sqv X k i) < 0) (fun s => (X.maps.getD k default).length - s) 0 ?_ ?_
      ·exact ⟨eB, by omega, fun j hj => by omega⟩
      ·rintro m h24 ee23 ⟨eB, hm2, hy⟩
       simp only [List.cons_append, List.nil_append]
       have := Ext.size eB
       refine den_seq ?_
       refine den_region TTok ?_
       intro K hK
       simp -implicitDefEqProofs (disch := first | decide | assumption | omega) only [go_sem, RdS.len hd sl22, RdS.idx hd sl22, R1.intB hd (Ext.pres eB), RdS.cells hd, RdS.len hm sl23, RdS.idx hm sl23, RdS.cellB hm (Ext.pres eB), RdS.cells hm, RdS.len hr20 sl27, RdS.idx hr20 sl27, RdS.cellB hr20 (Ext.pres eB), RdS.cells hr20, BoxAt.cellB hb0_0 eB, wrap_id, Int.add_sub_cancel]
       refine hK _ _ ?_
       clear hK K
       refine den_seq ?_
       refine den_cond rfl (fun c4 => ?_) (fun c4 => ?_)
       ·try simp only [decide_eq_true_eq, decide_eq_false_iff_not, beq_iff_eq, beq_eq_false_iff_ne, bne_iff_ne, ne_eq, Bool.not_eq_true', Bool.not_eq_false', Bool.and_eq_true, Bool.or_eq_true, bne_eq_false_iff_eq, Bool.or_eq_false_iff, Bool.and_eq_false_iff] at c4
        refine den_skip ?_
        refine den_seq ?_
        refine den_block ?_
        refine den_seq ?_
        refine den_region TTok ?_
        intro K hK
        have hr25 := RdS.rowN hr20 m (by omega)
        have hlhr25 := RdS.le hr25
        simp -implicitDefEqProofs (disch := first | decide | assumption | omega) only [go_sem, ld22, RdS.len hd sl22, RdS.idx hd sl22, R1.intB hd (Ext.pres eB), RdS.cells hd, RdS.len hm sl23, RdS.idx hm sl23, RdS.cellB hm (Ext.pres eB), RdS.cells hm, RdS.len hr20 sl27, RdS.idx hr20 sl27, RdS.cellB hr20 (Ext.pres eB), RdS.cells hr20, RdS.len hr25 sl22, RdS.idx hr25 sl22, R1.intB hr25 (Ext.pres eB), RdS.cells hr25, BoxAt.cellB hb0_0 eB, wrap_id, Int.add_sub_cancel]
        refine hK _ _ ?_
        clear hK K
        refine den_seq ?_
        have hq := (tableP_iff.1 (hP.tb k (by omega))).2.at (k := m) (by omega)
        refine den_region TTok ?_
        intro K hK
        simp -implicitDefEqProofs (disch := first | decide | assumption | omega) only [go_sem, ld33, RdS.len hd sl22, RdS.idx hd sl22, R1.intB hd (Ext.pres eB), RdS.cells hd, RdS.len hm sl23, RdS.idx hm sl23, RdS.cellB hm (Ext.pres eB), RdS.cells hm, RdS.len hr20 sl27, RdS.idx hr20 sl27, RdS.cellB hr20 (Ext.pres eB), RdS.cells hr20, RdS.len hr25 sl22, RdS.idx hr25 sl22, R1.intB hr25 (Ext.pres eB), RdS.cells hr25, BoxAt.cellB hb0_0 eB, wrap_id, Int.add_sub_cancel]
        try simp -implicitDefEqProofs (disch := first | decide | assumption | omega) only [go_sem, RdS.len hd sl22, RdS.idx hd sl22, R1.intB hd (Ext.pres eB), RdS.cells hd, RdS.len hm sl23, RdS.idx hm sl23, RdS.cellB hm (Ext.pres eB), RdS.cells hm, RdS.len hr20 sl27, RdS.idx hr20 sl27, RdS.cellB hr20 (Ext.pres eB), RdS.cells hr20, RdS.len hr25 sl22, RdS.idx hr25 sl22, R1.intB hr25 (Ext.pres eB), RdS.cells hr25, BoxAt.cellB hb0_0 eB, wrap_id, Int.add_sub_cancel]
        refine CallA.mono (diff_ok _ X _ _ _ _ ⟨_, _, rfl, (RdS.pres hd (Ext.pres eB)), (RdS.pres hm (Ext.pres eB))⟩ (RdS.pres hr25 (Ext.pres eB)) hP hq.2 (fun _ _ => by simpa using hq.1)) ?_
        intro v15_4 h15_4
        rintro ⟨f15_4, ho15_4, hf15_4, e15_4⟩
        have := Ext.size e15_4
        replace eB := Ext.trans eB e15_4
        have hlho15_4 := OS.lt ho15_4
        try simp -implicitDefEqProofs (disch := first | decide | assumption | omega) only [go_sem, RdS.len hd sl22, RdS.idx hd sl22, R1.intB hd (Ext.pres eB), RdS.cells hd, RdS.len hm sl23, RdS.idx hm sl23, RdS.cellB hm (Ext.pres eB), RdS.cells hm, RdS.len hr20 sl27, RdS.idx hr20 sl27, RdS.cellB hr20 (Ext.pres eB), RdS.cells hr20, RdS.len hr25 sl22, RdS.idx hr25 sl22, R1.intB hr25 (Ext.pres eB), RdS.cells hr25, RdS.len (OS.rd ho15_4) sl22, RdS.idx (OS.rd ho15_4) sl22, R1.intN (OS.rd ho15_4), RdS.cells (OS.rd ho15_4), BoxAt.cellB hb0_0 eB, wrap_id, Int.add_sub_cancel]
        try simp -implicitDefEqProofs (disch := first | decide | assumption | omega) only [go_sem, RdS.len hd sl22, RdS.idx hd sl22, R1.intB hd (Ext.pres eB), RdS.cells hd, RdS.len hm sl23, RdS.idx hm sl23, RdS.cellB hm (Ext.pres eB), RdS.cells hm, RdS.len hr20 sl27, RdS.idx hr20 sl27, RdS.cellB hr20 (Ext.pres eB), RdS.cells hr20, RdS.len hr25 sl22, RdS.idx hr25 sl22, R1.intB hr25 (Ext.pres eB), RdS.cells hr25, RdS.len (OS.rd ho15_4) sl22, RdS.idx (OS.rd ho15_4) sl22, R1.intN (OS.rd ho15_4), RdS.cells (OS.rd ho15_4), BoxAt.cellB hb0_0 eB, wrap_id, Int.add_sub_cancel]
        refine CallA.mono (isZero_ok _ _ _ (OS.rd ho15_4)) ?_
        intro v_ h15_5
        rintro ⟨rfl, e15_5⟩
        replace ho15_4 := OS.ext ho15_4 e15_5
        have := Ext.size e15_5
        replace eB := Ext.trans eB e15_5
        try simp -implicitDefEqProofs (disch := first | decide | assumption | omega) only [go_sem, RdS.len hd sl22, RdS.idx hd sl22, R1.intB hd (Ext.pres eB), RdS.cells hd, RdS.len hm sl23, RdS.idx hm sl23, RdS.cellB hm (Ext.pres eB), RdS.cells hm, RdS.len hr20 sl27, RdS.idx hr20 sl27, RdS.cellB hr20 (Ext.pres eB), RdS.cells hr20, RdS.len hr25 sl22, RdS.idx hr25 sl22, R1.intB hr25 (Ext.pres eB), RdS.cells hr25, RdS.len (OS.rd ho15_4) sl22, RdS.idx (OS.rd ho15_4) sl22, R1.intN (OS.rd ho15_4), RdS.cells (OS.rd ho15_4), BoxAt.cellB hb0_0 eB, wrap_id, Int.add_sub_cancel]
        refine hK _ _ ?_
        clear hK K
        refine den_cond rfl (fun c5 => ?_) (fun c5 => ?_)
        ·try simp only [decide_eq_true_eq, decide_eq_false_iff_not, beq_iff_eq, beq_eq_false_iff_ne, bne_iff_ne, ne_eq, Bool.not_eq_true', Bool.not_eq_false', Bool.and_eq_true, Bool.or_eq_true, bne_eq_false_iff_eq, Bool.or_eq_false_iff, Bool.and_eq_false_iff] at c5
         refine den_seq ?_
         refine den_region TTok ?_
         intro K hK
         simp -implicitDefEqProofs (disch := first | decide | assumption | omega) only [go_sem, RdS.len hd sl22, RdS.idx hd sl22, R1.intB hd (Ext.pres eB), RdS.cells hd, RdS.len hm sl23, RdS.idx hm sl23, RdS.cellB hm (Ext.pres eB), RdS.cells hm, RdS.len hr20 sl27, RdS.idx hr20 sl27, RdS.cellB hr20 (Ext.pres eB), RdS.cells hr20, RdS.len hr25 sl22, RdS.idx hr25 sl22, R1.intB hr25 (Ext.pres eB), RdS.cells hr25, RdS.len (OS.rd ho15_4) sl22, RdS.idx (OS.rd ho15_4) sl22, R1.intN (OS.rd ho15_4), RdS.cells (OS.rd ho15_4), BoxAt.cellB hb0_0 eB, wrap_id, Int.add_sub_cancel]
         refine hK _ _ ?_
         clear hK K
         refine den_ret ?_
         simp (disch := decide) only [resP_1, puts_same, puts_ne]
         exact ⟨vbool (isC_no fun hC => by have h := hC.sq k (by omega) (by omega) m (by omega); rw [diff_sqv (by omega) (by omega)] at c5; exact lead_some c5 h), (Ext.trans e0_0 eB)⟩
        ·try simp only [decide_eq_true_eq, decide_eq_false_iff_not, beq_iff_eq, beq_eq_false_iff_ne, bne_iff_ne, ne_eq, Bool.not_eq_true', Bool.not_eq_false', Bool.and_eq_true, Bool.or_eq_true, bne_eq_false_iff_eq, Bool.or_eq_false_iff, Bool.and_eq_false_iff] at c5
         refine den_skip ?_
         refine den_blk ?_
         refine den_region TTok ?_
         intro K hK
         simp -implicitDefEqProofs (disch := first | decide | assumption | omega) only [go_sem, RdS.len hd sl22, RdS.idx hd sl22, R1.intB hd (Ext.pres eB), RdS.cells hd, RdS.len hm sl23, RdS.idx hm sl23, RdS.cellB hm (Ext.pres eB), RdS.cells hm, RdS.len hr20 sl27, RdS.idx hr20 sl27, RdS.cellB hr20 (Ext.pres eB), RdS.cells hr20, RdS.len hr25 sl22, RdS.idx hr25 sl22, R1.intB hr25 (Ext.pres eB), RdS.cells hr25, RdS.len (OS.rd ho15_4) sl22, RdS.idx (OS.rd ho15_4) sl22, R1.intN (OS.rd ho15_4), RdS.cells (OS.rd ho15_4), BoxAt.cellB hb0_0 eB, wrap_id, Int.add_sub_cancel]
         refine hK _ _ ?_
         clear hK K
         refine den_stop ?_
         exact ⟨m + 1, by simp [HasL, puts_at], ⟨eB, by omega, fun i hi => by
          rcases Nat.lt_succ_iff_lt_or_eq.1 hi with h1 | h1
          ·exact hy i h1
          ·subst h1; rw [← diff_sqv (by omega) (by omega)]; exact lead_zero c5⟩, by omega⟩
       ·try simp only [decide_eq_true_eq, decide_eq_false_iff_not, beq_iff_eq, beq_eq_false_iff_ne, bne_iff_ne, ne_eq, Bool.not_eq_true', Bool.not_eq_false', Bool.and_eq_true, Bool.or_eq_true, bne_eq_false_iff_eq, Bool.or_eq_false_iff, Bool.and_eq_false_iff] at c4
        refine den_exit ?_
        refine denX_code ?_
        refine denX_stop ?_
        refine denX_hit ?_
        refine den_blk ?_
        refine den_region TTok ?_
        intro K hK
        simp -implicitDefEqProofs (disch := first | decide | assumption | omega) only [go_sem, RdS.len hd sl22, RdS.idx hd sl22, R1.intB hd (Ext.pres eB), RdS.cells hd, RdS.len hm sl23, RdS.idx hm sl23, RdS.cellB hm (Ext.pres eB), RdS.cells hm, RdS.len hr20 sl27, RdS.idx hr20 sl27, RdS.cellB hr20 (Ext.pres eB), RdS.cells hr20, BoxAt.cellB hb0_0 eB, wrap_id, Int.add_sub_cancel]
        refine hK _ _ ?_
        clear hK K
        refine den_stop ?_
        exact ⟨k + 1, by simp [HasL, puts_at], ⟨eB, by omega, fun j h0 hj => by
         rcases Nat.lt_succ_iff_lt_or_eq.1 hj with h1 | h1
         ·exact hs j h0 h1
         ·subst h1; exact fun i hi => hy i (by omega)⟩, by omega⟩
     ·try simp only [decide_eq_true_eq, decide_eq_false_iff_not, beq_iff_eq, beq_eq_false_iff_ne, bne_iff_ne, ne_eq, Bool.not_eq_true', Bool.not_eq_false', Bool.and_eq_true, Bool.or_eq_true, bne_eq_false_iff_eq, Bool.or_eq_false_iff, Bool.and_eq_false_iff] at c3
      refine den_exit ?_
      refine denX_code ?_
      refine denX_stop ?_
      refine denX_hit ?_
      refine den_seq ?_
      refine den_region TTok ?_
      intro K hK
      simp -implicitDefEqProofs (disch := first | decide | assumption | omega) only [go_sem, RdS.len hd sl22, RdS.idx hd sl22, R1.intB hd (Ext.pres eB), RdS.cells hd, RdS.len hm sl23, RdS.idx hm sl23, RdS.cellB hm (Ext.pres eB), RdS.cells hm, BoxAt.cellB hb0_0 eB, wrap_id, Int.add_sub_cancel]
      refine hK _ _ ?_
      clear hK K
      refine den_ret ?_
      simp (disch := decide) only [resP_1, puts_same, puts_ne]
      exact ⟨vbool (isC_yes ⟨c0.1.1.1, by omega, by omega, hda, hP.tb, fun j hj h0 => hs j h0 (by omega)⟩), (Ext.trans e0_0 eB)⟩
end Go.Proofs.Ytkdnnfkdgmblgaa

namespace Go.Proofs.Ytkdnnfkdgmblgaa
open Go
theorem dimP_bnd {X : Cx} (hC : IsC X) (n : Int) : 0 ≤ dimP X n ∧ dimP X n ≤ 8 := by
 unfold dimP
 split
 ·rename_i h
  rw [in3_iff] at h
  exact dm_at hC.dm (by omega)
 ·omega
end Go.Proofs.Ytkdnnfkdgmblgaa

namespace Go.Proofs.Ytkdnnfkdgmblgaa
open Go
theorem szI_ok {xs : List Int} {l : Int} (hl : l ≤ 1048576) (h : ¬ szI xs l < 0) : HM1 xs := by
 unfold szI at h
 unfold HM1
 split at h <;> omega
theorem szRows_ok {α : Type} {f : α → Int → Int} {P : α → Prop} (hle : ∀ x l, 0 ≤ l → -1 ≤ f x l ∧ f x l ≤ l) (hP : ∀ x l, 0 ≤ l → l ≤ 1048576 → ¬ f x l < 0 → P x) : ∀ (r : List α) (l : Int), 0 ≤ l → l ≤ 1048576 → ¬ szRows f r l < 0 → ∀ x ∈ r, P x
 | [], _, _, _, _, x, hx => by cases hx
 | y :: r, l, h0, h1, h, x, hx => by
  unfold szRows at h
  split at h
  ·omega
  ·rename_i hc
   have := hle y l h0
   rcases List.mem_cons.1 hx with rfl | hx
   ·exact hP _ l h0 h1 hc
   ·exact szRows_ok hle hP r (f y l) (by omega) (by omega) h x hx
theorem szL_ok {α : Type} {f : α → Int → Int} {P : α → Prop} (hle : ∀ x l, 0 ≤ l → -1 ≤ f x l ∧ f x l ≤ l) (hP : ∀ x l, 0 ≤ l → l ≤ 1048576 → ¬ f x l < 0 → P x) {r : List α} {l : Int} (h1 : l ≤ 1048576) (h : ¬ szL f r l < 0) : (r.length : Int) ≤ 1048576 ∧ ∀ x ∈ r, P x := by
 unfold szL at h
 split at h
 ·omega
 ·exact ⟨by omega, szRows_ok hle hP r _ (by omega) (by omega) h⟩
theorem sz2_ok {r : List (List Int)} {l : Int} (h0 : 0 ≤ l) (h1 : l ≤ 1048576) (h : ¬ sz2 r l < 0) : HM2 r := szL_ok szI_le (fun x l _ h1 h => szI_ok h1 h) h1 h
theorem sz3_ok {r : List (List (List Int))} {l : Int} (h0 : 0 ≤ l) (h1 : l ≤ 1048576) (h : ¬ sz3 r l < 0) : HM3 r := szL_ok sz2_le (fun x l h0 h1 h => sz2_ok h0 h1 h) h1 h
theorem szC_ok' {X : Cx} {l : Int} (h0 : 0 ≤ l) (h1 : l ≤ 1048576) (h : ¬ szC X l < 0) : HMC X := by
 unfold szC at h
 have hle := szI_le X.dims l h0
 split at h
 ·omega
 ·rename_i hc
  split at h
  ·omega
  ·rename_i hc2
   exact ⟨szI_ok h1 hc, sz3_ok (by omega) (by omega) hc2⟩
theorem Fresh.left {lo : Nat} {f1 f2 : List Nat} (h : Fresh lo (f1 ++ f2)) : Fresh lo f1 := ⟨(List.nodup_append.1 h.nodup).1, fun b hb => h.ge b (List.mem_append_left _ hb)⟩
theorem Fresh.right {lo : Nat} {f1 f2 : List Nat} (h : Fresh lo (f1 ++ f2)) : Fresh lo f2 := ⟨(List.nodup_append.1 h.nodup).2.1, fun b hb => h.ge b (List.mem_append_right _ hb)⟩
end Go.Proofs.Ytkdnnfkdgmblgaa

namespace Go.Proofs.Ytkdnnfkdgmblgaa
open Go
def markI : List Int → Int → List Int
 | [], _ => []
 | _ :: r, k => k :: markI r (k + 1)
def markL {α : Type} (mk : α → Int → α) (ct : α → Int) : List α → Int → List α
 | [], _ => []
 | x :: r, k => mk x k :: markL mk ct r (k + ct x)
def cntL {α : Type} (ct : α → Int) : List α → Int
 | [] => 0
 | x :: r => ct x + cntL ct r
def cnt1 (xs : List Int) : Int := xs.length
abbrev cnt2 : List (List Int) → Int := cntL cnt1
abbrev cnt3 : List (List (List Int)) → Int := cntL cnt2
abbrev mark2 : List (List Int) → Int → List (List Int) := markL markI cnt1
abbrev mark3 : List (List (List Int)) → Int → List (List (List Int)) := markL mark2 cnt2
theorem markI_len : ∀ (xs : List Int) (k : Int), (markI xs k).length = xs.length
 | [], _ => rfl
 | _ :: r, k => by simp [markI, markI_len r]
theorem markI_get : ∀ (xs : List Int) (k : Int) (i : Nat), i < xs.length → (markI xs k).getD i 0 = k + i
 | _ :: r, k, 0, _ => by simp [markI]
 | _ :: r, k, i + 1, h => by
  have := markI_get r (k + 1) i (by simpa using h)
  simp only [markI, List.getD_cons_succ, this]; omega
theorem mark_set {xs : List Int} {k : Int} {i : Nat} (h : i < xs.length) : (mix (markI xs k) xs i).set i (k + i) = mix (markI xs k) xs (i + 1) := by
 rw [← markI_get xs k i h, mix_set _ _ _ _ (markI_len xs k) h]
section
variable {α : Type} {mk : α → Int → α} {ct : α → Int}
theorem markL_len : ∀ (xs : List α) (k : Int), (markL mk ct xs k).length = xs.length
 | [], _ => rfl
 | _ :: r, k => by simp [markL, markL_len r]
theorem markL_get [Inhabited α] : ∀ (xs : List α) (k : Int) (i : Nat), i < xs.length → (markL mk ct xs k).getD i default = mk (xs.getD i default) (k + cntL ct (xs.take i))
 | x :: r, k, 0, _ => by simp [markL, cntL]
 | x :: r, k, i + 1, h => by
  have := markL_get r (k + ct x) i (by simpa using h)
  simp only [markL, List.getD_cons_succ, this, List.take_succ_cons, cntL]
  rw [Int.add_assoc]
theorem cntL_take [Inhabited α] : ∀ (xs : List α) (i : Nat), i < xs.length → cntL ct (xs.take (i + 1)) = cntL ct (xs.take i) + ct (xs.getD i default)
 | x :: r, 0, _ => by simp [cntL]
 | x :: r, i + 1, h => by
  have := cntL_take r i (by simpa using h)
  simp only [List.take_succ_cons, cntL, List.getD_cons_succ] at this ⊢
  omega
theorem cntL_nonneg (h : ∀ x, 0 ≤ ct x) : ∀ xs : List α, 0 ≤ cntL ct xs
 | [] => by simp [cntL]
 | x :: r => by have := h x; have := cntL_nonneg h r; simp only [cntL]; omega
theorem cntL_le (h : ∀ x, 0 ≤ ct x) : ∀ (xs : List α) (i : Nat), cntL ct (xs.take i) ≤ cntL ct xs
 | [], i => by simp
 | x :: r, 0 => by have := cntL_nonneg h (x :: r); simpa [cntL] using this
 | x :: r, i + 1 => by have := cntL_le h r i; simp only [List.take_succ_cons, cntL]; omega
theorem markL_set [Inhabited α] {xs : List α} {k : Int} {i : Nat} (h : i < xs.length) : (mix (markL mk ct xs k) xs i).set i (mk (xs.getD i default) (k + cntL ct (xs.take i))) = mix (markL mk ct xs k) xs (i + 1) := by
 rw [← markL_get (mk := mk) (ct := ct) xs k i h, mix_set _ _ _ _ (markL_len xs k) h]
end
theorem cnt1_nn (x : List Int) : 0 ≤ cnt1 x := by unfold cnt1; omega
theorem cnt2_nn (x : List (List Int)) : 0 ≤ cnt2 x := cntL_nonneg cnt1_nn x
theorem cnt3_nn (x : List (List (List Int))) : 0 ≤ cnt3 x := cntL_nonneg cnt2_nn x

set_option maxRecDepth 100000 in
theorem markS_ok (v : Value) (xs : List Int) (k : Int) (fp : List Nat) (h : Heap) (ho : O1 h v xs fp) (hn : fp.Nodup) (hk : 0 ≤ k ∧ k + cnt1 xs ≤ 4611686018427387904) : CallA Try.prog 29 #[v, .int .i64 k] h fun u h' => u = .int .i64 (k + cnt1 xs) ∧ O1 h' v (markI xs k) fp ∧ Chg fp h h' := by
 unfold cnt1 at *
 refine callA_intro TTok (args := [_, _]) Try.func29 (by kernel_rfl) rfl 19 rfl (by simp) [.tmp 4] rfl ?_
 simp only [idxs, Nat.reduceAdd]
 refine den_seq ?_
 refine den_region TTok ?_
 intro K hK
 simp -implicitDefEqProofs (disch := first | decide | assumption | omega) only [go_sem, RdS.len (OS.rd ho) sl22, RdS.idx (OS.rd ho) sl22, R1.intN (OS.rd ho), RdS.cells (OS.rd ho), wrap_id]
 refine hK _ _ ?_
 clear hK K
 refine den_seq ?_
 refine den_seq ?_
 refine den_region TTok ?_
 intro K hK
 simp -implicitDefEqProofs (disch := first | decide | assumption | omega) only [go_sem, RdS.len (OS.rd ho) sl22, RdS.idx (OS.rd ho) sl22, R1.intN (OS.rd ho), RdS.cells (OS.rd ho), wrap_id]
 refine hK _ _ ?_
 clear hK K
 refine den_block ?_
 refine den_sel [1, 5, 0] ?_
 intro env_1
 simp only [go_sem]
 refine den_loopS (σ := Nat × Int) (fun s => [(1, .int .i64 s.2), (5, .int .i64 (s.1 : Int))]) (fun s H => Chg fp h H ∧ s.1 ≤ xs.length ∧ s.2 = k + s.1 ∧ O1 H v (mix (markI xs k) xs s.1) fp) (fun s => xs.length - s.1) (0, k) ?_ ?_
 ·exact ⟨Chg.refl _ _, by simp, by simp, by rw [mix_zero]; exact ho⟩
 ·rintro ⟨i, q⟩ h4 ee3 ⟨hch, hi, hq, ho⟩
  simp only [List.cons_append, List.nil_append]
  dsimp only at hi hq ho
  refine den_seq ?_
  refine den_seq ?_
  have hml := mix_len (markI xs k) xs i (markI_len xs k)
  refine den_region TTok ?_
  intro K hK
  simp -implicitDefEqProofs (disch := first | decide | assumption | omega) only [go_sem, RdS.len (OS.rd ho) sl22, RdS.idx (OS.rd ho) sl22, R1.intN (OS.rd ho), RdS.cells (OS.rd ho), wrap_id]
  refine hK _ _ ?_
  clear hK K
  refine den_cond rfl (fun c0 => ?_) (fun c0 => ?_)
  ·try simp only [decide_eq_true_eq, decide_eq_false_iff_not, beq_iff_eq, beq_eq_false_iff_ne, bne_iff_ne, ne_eq, Bool.not_eq_true', Bool.not_eq_false', Bool.and_eq_true, Bool.or_eq_true, bne_eq_false_iff_eq] at c0
   refine den_skip ?_
   refine den_seq ?_
   refine den_block ?_
   refine den_seq ?_
   refine den_region TTok ?_
   intro K hK
   simp -implicitDefEqProofs (disch := first | decide | assumption | omega) only [go_sem, RdS.len (OS.rd ho) sl22, RdS.idx (OS.rd ho) sl22, R1.intN (OS.rd ho), RdS.cells (OS.rd ho), wrap_id]
   refine op_store1 (j := i) st2 ho hn (by omega) rfl rfl ?_
   intro h4 ho4 c4
   replace hch := hch.trans c4
   rw [hq, mark_set (by omega)] at ho4
   try simp -implicitDefEqProofs (disch := first | decide | assumption | omega) only [go_sem, RdS.len (OS.rd ho) sl22, RdS.idx (OS.rd ho) sl22, R1.intN (OS.rd ho), RdS.cells (OS.rd ho), wrap_id]
   refine hK _ _ ?_
   clear hK K
   refine den_region TTok ?_
   intro K hK
   simp -implicitDefEqProofs (disch := first | decide | assumption | omega) only [go_sem, RdS.len (OS.rd ho) sl22, RdS.idx (OS.rd ho) sl22, R1.intN (OS.rd ho), RdS.cells (OS.rd ho), wrap_id]
   refine hK _ _ ?_
   clear hK K
   refine den_blk ?_
   refine den_region TTok ?_
   intro K hK
   simp -implicitDefEqProofs (disch := first | decide | assumption | omega) only [go_sem, RdS.len (OS.rd ho) sl22, RdS.idx (OS.rd ho) sl22, R1.intN (OS.rd ho), RdS.cells (OS.rd ho), wrap_id]
   refine hK _ _ ?_
   clear hK K
   refine den_stop ?_
   exact ⟨(i + 1, q + 1), by simp [HasL, puts_at], ⟨hch, by dsimp only; omega, by dsimp only; omega, ho4⟩, by dsimp only; omega⟩
  ·try simp only [decide_eq_true_eq, decide_eq_false_iff_not, beq_iff_eq, beq_eq_false_iff_ne, bne_iff_ne, ne_eq, Bool.not_eq_true', Bool.not_eq_false', Bool.and_eq_true, Bool.or_eq_true, bne_eq_false_iff_eq] at c0
   refine den_exit ?_
   refine denX_code ?_
   refine denX_stop ?_
   refine denX_hit ?_
   refine den_seq ?_
   refine den_region TTok ?_
   intro K hK
   simp -implicitDefEqProofs (disch := first | decide | assumption | omega) only [go_sem, RdS.len (OS.rd ho) sl22, RdS.idx (OS.rd ho) sl22, R1.intN (OS.rd ho), RdS.cells (OS.rd ho), wrap_id]
   refine hK _ _ ?_
   clear hK K
   refine den_ret ?_
   simp (disch := decide) only [resP_1, puts_same, puts_ne]
   rw [mix_end _ _ _ (markI_len xs k) (by omega)] at ho
   exact ⟨vint (by omega), ho, hch⟩

set_option maxRecDepth 100000 in
theorem markSS_ok (v : Value) (R : List (List Int)) (k : Int) (fp : List Nat) (h : Heap) (ho : O2 h v R fp) (hn : fp.Nodup) (hk : 0 ≤ k ∧ k + cntL cnt1 R ≤ 4611686018427387904) : CallA Try.prog 31 #[v, .int .i64 k] h fun u h' => u = .int .i64 (k + cntL cnt1 R) ∧ O2 h' v (markL markI cnt1 R k) fp ∧ Chg fp h h' := by
 have hle := OS.len_le ho
 refine callA_intro TTok (args := [_, _]) Try.func31 (by kernel_rfl) rfl 19 rfl (by simp) [.tmp 4] rfl ?_
 simp only [idxs, Nat.reduceAdd]
 refine den_seq ?_
 refine den_region TTok ?_
 intro K hK
 simp -implicitDefEqProofs (disch := first | decide | assumption | omega) only [go_sem, RdS.len (OS.rd ho) sl27, RdS.idx (OS.rd ho) sl27, RdS.cellN (OS.rd ho), RdS.cells (OS.rd ho), wrap_id]
 refine hK _ _ ?_
 clear hK K
 refine den_seq ?_
 refine den_seq ?_
 refine den_region TTok ?_
 intro K hK
 simp -implicitDefEqProofs (disch := first | decide | assumption | omega) only [go_sem, RdS.len (OS.rd ho) sl27, RdS.idx (OS.rd ho) sl27, RdS.cellN (OS.rd ho), RdS.cells (OS.rd ho), wrap_id]
 refine hK _ _ ?_
 clear hK K
 refine den_block ?_
 refine den_sel [1, 5, 0] ?_
 intro env_1
 simp only [go_sem]
 refine den_loopS (σ := Nat × Int) (fun s => [(1, .int .i64 s.2), (5, .int .i64 (s.1 : Int))]) (fun s H => Chg fp h H ∧ s.1 ≤ R.length ∧ s.2 = k + cntL cnt1 (R.take s.1) ∧ O2 H v (mix (markL markI cnt1 R k) R s.1) fp) (fun s => R.length - s.1) (0, k) ?_ ?_
 ·exact ⟨Chg.refl _ _, by simp, by simp [cntL], by rw [mix_zero]; exact ho⟩
 ·rintro ⟨i, q⟩ h4 ee3 ⟨hch, hi, hq, ho⟩
  simp only [List.cons_append, List.nil_append]
  dsimp only at hi hq ho
  refine den_seq ?_
  refine den_seq ?_
  have hml := mix_len (markL markI cnt1 R k) R i (markL_len R k)
  refine den_region TTok ?_
  intro K hK
  simp -implicitDefEqProofs (disch := first | decide | assumption | omega) only [go_sem, RdS.len (OS.rd ho) sl27, RdS.idx (OS.rd ho) sl27, RdS.cellN (OS.rd ho), RdS.cells (OS.rd ho), wrap_id]
  refine hK _ _ ?_
  clear hK K
  refine den_cond rfl (fun c0 => ?_) (fun c0 => ?_)
  ·try simp only [decide_eq_true_eq, decide_eq_false_iff_not, beq_iff_eq, beq_eq_false_iff_ne, bne_iff_ne, ne_eq, Bool.not_eq_true', Bool.not_eq_false', Bool.and_eq_true, Bool.or_eq_true, bne_eq_false_iff_eq] at c0
   refine den_skip ?_
   refine den_seq ?_
   refine den_block ?_
   have hmg := mix_get (markL markI cnt1 R k) R i default (markL_len R k) (by omega)
   have hct := cntL_take (ct := cnt1) R i (by omega)
   have hcl := cntL_le cnt1_nn R (i + 1)
   have hcn := cnt1_nn (R.getD i default)
   have hcn2 := cntL_nonneg cnt1_nn (R.take i)
   refine den_region TTok ?_
   intro K hK
   simp -implicitDefEqProofs (disch := first | decide | assumption | omega) only [go_sem, ld22, RdS.len (OS.rd ho) sl27, RdS.idx (OS.rd ho) sl27, RdS.cellN (OS.rd ho), RdS.cells (OS.rd ho), wrap_id]
   try simp -implicitDefEqProofs (disch := first | decide | assumption | omega) only [go_sem, RdS.len (OS.rd ho) sl27, RdS.idx (OS.rd ho) sl27, RdS.cellN (OS.rd ho), RdS.cells (OS.rd ho), wrap_id]
   obtain ⟨f, hE, hsub, hnf, hbk⟩ := OS.elem ho hn i (by omega)
   rw [hmg] at hE
   refine CallA.mono (markS_ok _ _ q _ _ hE hnf (by have := cnt1_nn (R.getD i default); simp only [cnt1] at *; omega)) ?_
   intro v_ h4_5
   rintro ⟨rfl, hE2, c4⟩
   change O1 _ _ (markI (R.getD i default) q) _ at hE2
   have ho4 := hbk _ _ c4 hE2
   replace hch := hch.trans (c4.mono hsub)
   rw [hq, markL_set (mk := markI) (by omega)] at ho4
   try simp -implicitDefEqProofs (disch := first | decide | assumption | omega) only [go_sem, RdS.len (OS.rd ho) sl27, RdS.idx (OS.rd ho) sl27, RdS.cellN (OS.rd ho), RdS.cells (OS.rd ho), wrap_id]
   refine hK _ _ ?_
   clear hK K
   refine den_blk ?_
   refine den_region TTok ?_
   intro K hK
   simp -implicitDefEqProofs (disch := first | decide | assumption | omega) only [go_sem, RdS.len (OS.rd ho) sl27, RdS.idx (OS.rd ho) sl27, RdS.cellN (OS.rd ho), RdS.cells (OS.rd ho), wrap_id]
   refine hK _ _ ?_
   clear hK K
   refine den_stop ?_
   exact ⟨(i + 1, q + cnt1 (R.getD i default)), by simp [HasL, puts_at], ⟨hch, by dsimp only; omega, by dsimp only; omega, ho4⟩, by dsimp only; omega⟩
  ·try simp only [decide_eq_true_eq, decide_eq_false_iff_not, beq_iff_eq, beq_eq_false_iff_ne, bne_iff_ne, ne_eq, Bool.not_eq_true', Bool.not_eq_false', Bool.and_eq_true, Bool.or_eq_true, bne_eq_false_iff_eq] at c0
   refine den_exit ?_
   refine denX_code ?_
   refine denX_stop ?_
   refine denX_hit ?_
   refine den_seq ?_
   refine den_region TTok ?_
   intro K hK
   simp -implicitDefEqProofs (disch := first | decide | assumption | omega) only [go_sem, RdS.len (OS.rd ho) sl27, RdS.idx (OS.rd ho) sl27, RdS.cellN (OS.rd ho), RdS.cells (OS.rd ho), wrap_id]
   refine hK _ _ ?_
   clear hK K
   refine den_ret ?_
   simp (disch := decide) only [resP_1, puts_same, puts_ne]
   have ht : R.take i = R := List.take_of_length_le (by omega)
   rw [mix_end _ _ _ (markL_len R k) (by omega)] at ho
   rw [ht] at hq
   exact ⟨vint hq, ho, hch⟩

set_option maxRecDepth 100000 in
theorem markSSS_ok (v : Value) (R : List (List (List Int))) (k : Int) (fp : List Nat) (h : Heap) (ho : O3 h v R fp) (hn : fp.Nodup) (hk : 0 ≤ k ∧ k + cntL cnt2 R ≤ 4611686018427387904) : CallA Try.prog 30 #[v, .int .i64 k] h fun u h' => u = .int .i64 (k + cntL cnt2 R) ∧ O3 h' v (markL mark2 cnt2 R k) fp ∧ Chg fp h h' := by
 have hle := OS.len_le ho
 refine callA_intro TTok (args := [_, _]) Try.func30 (by kernel_rfl) rfl 19 rfl (by simp) [.tmp 4] rfl ?_
 simp only [idxs, Nat.reduceAdd]
 refine den_seq ?_
 refine den_region TTok ?_
 intro K hK
 simp -implicitDefEqProofs (disch := first | decide | assumption | omega) only [go_sem, RdS.len (OS.rd ho) sl23, RdS.idx (OS.rd ho) sl23, RdS.cellN (OS.rd ho), RdS.cells (OS.rd ho), wrap_id]
 refine hK _ _ ?_
 clear hK K
 refine den_seq ?_
 refine den_seq ?_
 refine den_region TTok ?_
 intro K hK
 simp -implicitDefEqProofs (disch := first | decide | assumption | omega) only [go_sem, RdS.len (OS.rd ho) sl23, RdS.idx (OS.rd ho) sl23, RdS.cellN (OS.rd ho), RdS.cells (OS.rd ho), wrap_id]
 refine hK _ _ ?_
 clear hK K
 refine den_block ?_
 refine den_sel [1, 5, 0] ?_
 intro env_1
 simp only [go_sem]
 refine den_loopS (σ := Nat × Int) (fun s => [(1, .int .i64 s.2), (5, .int .i64 (s.1 : Int))]) (fun s H => Chg fp h H ∧ s.1 ≤ R.length ∧ s.2 = k + cntL cnt2 (R.take s.1) ∧ O3 H v (mix (markL mark2 cnt2 R k) R s.1) fp) (fun s => R.length - s.1) (0, k) ?_ ?_
 ·exact ⟨Chg.refl _ _, by simp, by simp [cntL], by rw [mix_zero]; exact ho⟩
 ·rintro ⟨i, q⟩ h4 ee3 ⟨hch, hi, hq, ho⟩
  simp only [List.cons_append, List.nil_append]
  dsimp only at hi hq ho
  refine den_seq ?_
  refine den_seq ?_
  have hml := mix_len (markL mark2 cnt2 R k) R i (markL_len R k)
  refine den_region TTok ?_
  intro K hK
  simp -implicitDefEqProofs (disch := first | decide | assumption | omega) only [go_sem, RdS.len (OS.rd ho) sl23, RdS.idx (OS.rd ho) sl23, RdS.cellN (OS.rd ho), RdS.cells (OS.rd ho), wrap_id]
  refine hK _ _ ?_
  clear hK K
  refine den_cond rfl (fun c0 => ?_) (fun c0 => ?_)
  ·try simp only [decide_eq_true_eq, decide_eq_false_iff_not, beq_iff_eq, beq_eq_false_iff_ne, bne_iff_ne, ne_eq, Bool.not_eq_true', Bool.not_eq_false', Bool.and_eq_true, Bool.or_eq_true, bne_eq_false_iff_eq] at c0
   refine den_skip ?_
   refine den_seq ?_
   refine den_block ?_
   have hmg := mix_get (markL mark2 cnt2 R k) R i default (markL_len R k) (by omega)
   have hct := cntL_take (ct := cnt2) R i (by omega)
   have hcl := cntL_le cnt2_nn R (i + 1)
   have hcn := cnt2_nn (R.getD i default)
   have hcn2 := cntL_nonneg cnt2_nn (R.take i)
   refine den_region TTok ?_
   intro K hK
   simp -implicitDefEqProofs (disch := first | decide | assumption | omega) only [go_sem, ld27, RdS.len (OS.rd ho) sl23, RdS.idx (OS.rd ho) sl23, RdS.cellN (OS.rd ho), RdS.cells (OS.rd ho), wrap_id]
   try simp -implicitDefEqProofs (disch := first | decide | assumption | omega) only [go_sem, RdS.len (OS.rd ho) sl23, RdS.idx (OS.rd ho) sl23, RdS.cellN (OS.rd ho), RdS.cells (OS.rd ho), wrap_id]
   obtain ⟨f, hE, hsub, hnf, hbk⟩ := OS.elem ho hn i (by omega)
   rw [hmg] at hE
   refine CallA.mono (markSS_ok _ _ q _ _ hE hnf (by have := cnt2_nn (R.getD i default); simp only [cnt2] at *; omega)) ?_
   intro v_ h4_5
   rintro ⟨rfl, hE2, c4⟩
   change O2 _ _ (mark2 (R.getD i default) q) _ at hE2
   have ho4 := hbk _ _ c4 hE2
   replace hch := hch.trans (c4.mono hsub)
   rw [hq, markL_set (mk := mark2) (by omega)] at ho4
   try simp -implicitDefEqProofs (disch := first | decide | assumption | omega) only [go_sem, RdS.len (OS.rd ho) sl23, RdS.idx (OS.rd ho) sl23, RdS.cellN (OS.rd ho), RdS.cells (OS.rd ho), wrap_id]
   refine hK _ _ ?_
   clear hK K
   refine den_blk ?_
   refine den_region TTok ?_
   intro K hK
   simp -implicitDefEqProofs (disch := first | decide | assumption | omega) only [go_sem, RdS.len (OS.rd ho) sl23, RdS.idx (OS.rd ho) sl23, RdS.cellN (OS.rd ho), RdS.cells (OS.rd ho), wrap_id]
   refine hK _ _ ?_
   clear hK K
   refine den_stop ?_
   exact ⟨(i + 1, q + cnt2 (R.getD i default)), by simp [HasL, puts_at], ⟨hch, by dsimp only; omega, by dsimp only; omega, ho4⟩, by dsimp only; omega⟩
  ·try simp only [decide_eq_true_eq, decide_eq_false_iff_not, beq_iff_eq, beq_eq_false_iff_ne, bne_iff_ne, ne_eq, Bool.not_eq_true', Bool.not_eq_false', Bool.and_eq_true, Bool.or_eq_true, bne_eq_false_iff_eq] at c0
   refine den_exit ?_
   refine denX_code ?_
   refine denX_stop ?_
   refine denX_hit ?_
   refine den_seq ?_
   refine den_region TTok ?_
   intro K hK
   simp -implicitDefEqProofs (disch := first | decide | assumption | omega) only [go_sem, RdS.len (OS.rd ho) sl23, RdS.idx (OS.rd ho) sl23, RdS.cellN (OS.rd ho), RdS.cells (OS.rd ho), wrap_id]
   refine hK _ _ ?_
   clear hK K
   refine den_ret ?_
   simp (disch := decide) only [resP_1, puts_same, puts_ne]
   have ht : R.take i = R := List.take_of_length_le (by omega)
   rw [mix_end _ _ _ (markL_len R k) (by omega)] at ho
   rw [ht] at hq
   exact ⟨vint hq, ho, hch⟩
end Go.Proofs.Ytkdnnfkdgmblgaa

namespace Go.Proofs.Ytkdnnfkdgmblgaa
open Go
set_option maxRecDepth 100000 in
theorem heldS_ok (v : Value) (xs : List Int) (k : Int) (h : Heap) (hv : R1 h v (markI xs k)) (hk : 0 ≤ k ∧ k + cnt1 xs ≤ 4611686018427387904) : CallA Try.prog 62 #[v, .int .i64 k] h fun u h' => u = .int .i64 (k + cnt1 xs) ∧ h' = h := by
 unfold cnt1 at *
 have hml := markI_len xs k
 refine callA_intro TTok (args := [_, _]) Try.func62 (by kernel_rfl) rfl 21 rfl (by simp) [.tmp 4] rfl ?_
 simp only [idxs, Nat.reduceAdd]
 refine den_seq ?_
 refine den_region TTok ?_
 intro K hK
 simp -implicitDefEqProofs (disch := first | decide | assumption | omega) only [go_sem, RdS.len hv sl22, RdS.idx hv sl22, R1.intB hv (HPres.refl _), RdS.cells hv, wrap_id]
 refine hK _ _ ?_
 clear hK K
 refine den_seq ?_
 refine den_seq ?_
 refine den_region TTok ?_
 intro K hK
 simp -implicitDefEqProofs (disch := first | decide | assumption | omega) only [go_sem, RdS.len hv sl22, RdS.idx hv sl22, R1.intB hv (HPres.refl _), RdS.cells hv, wrap_id]
 refine hK _ _ ?_
 clear hK K
 refine den_block ?_
 refine den_sel [1, 5, 0] ?_
 intro env_1
 simp only [go_sem]
 refine den_loopP (σ := Nat × Int) (fun s => [(1, .int .i64 s.2), (5, .int .i64 (s.1 : Int))]) (fun s => s.1 ≤ xs.length ∧ s.2 = k + s.1) (fun s => xs.length - s.1) (0, k) ?_ ?_
 ·exact ⟨rfl, by simp, by simp⟩
 ·rintro ⟨i, q⟩ ee3 ⟨hi, hq⟩
  simp only [List.cons_append, List.nil_append]
  dsimp only at hi hq
  refine den_seq ?_
  refine den_seq ?_
  refine den_region TTok ?_
  intro K hK
  simp -implicitDefEqProofs (disch := first | decide | assumption | omega) only [go_sem, RdS.len hv sl22, RdS.idx hv sl22, R1.intB hv (HPres.refl _), RdS.cells hv, wrap_id]
  refine hK _ _ ?_
  clear hK K
  refine den_cond rfl (fun c0 => ?_) (fun c0 => ?_)
  ·try simp only [decide_eq_true_eq, decide_eq_false_iff_not, beq_iff_eq, beq_eq_false_iff_ne, bne_iff_ne, ne_eq, Bool.not_eq_true', Bool.not_eq_false', Bool.and_eq_true, Bool.or_eq_true, bne_eq_false_iff_eq] at c0
   refine den_skip ?_
   refine den_seq ?_
   refine den_block ?_
   refine den_seq ?_
   refine den_seq ?_
   refine den_region TTok ?_
   intro K hK
   simp -implicitDefEqProofs (disch := first | decide | assumption | omega) only [go_sem, ld2, RdS.len hv sl22, RdS.idx hv sl22, R1.intB hv (HPres.refl _), RdS.cells hv, wrap_id]
   refine hK _ _ ?_
   clear hK K
   refine den_cond rfl (fun c1 => ?_) (fun c1 => ?_)
   ·try simp only [decide_eq_true_eq, decide_eq_false_iff_not, beq_iff_eq, beq_eq_false_iff_ne, bne_iff_ne, ne_eq, Bool.not_eq_true', Bool.not_eq_false', Bool.and_eq_true, Bool.or_eq_true, bne_eq_false_iff_eq] at c1
    refine den_seq ?_
    refine den_region TTok ?_
    intro K hK
    simp -implicitDefEqProofs (disch := first | decide | assumption | omega) only [go_sem, RdS.len hv sl22, RdS.idx hv sl22, R1.intB hv (HPres.refl _), RdS.cells hv, wrap_id]
    refine hK _ _ ?_
    clear hK K
    refine den_ret ?_
    simp (disch := decide) only [resP_1, puts_same, puts_ne]
    exact absurd (markI_get xs k i (by omega)) (by omega)
   ·try simp only [decide_eq_true_eq, decide_eq_false_iff_not, beq_iff_eq, beq_eq_false_iff_ne, bne_iff_ne, ne_eq, Bool.not_eq_true', Bool.not_eq_false', Bool.and_eq_true, Bool.or_eq_true, bne_eq_false_iff_eq] at c1
    refine den_skip ?_
    refine den_region TTok ?_
    intro K hK
    simp -implicitDefEqProofs (disch := first | decide | assumption | omega) only [go_sem, RdS.len hv sl22, RdS.idx hv sl22, R1.intB hv (HPres.refl _), RdS.cells hv, wrap_id]
    refine hK _ _ ?_
    clear hK K
    refine den_blk ?_
    refine den_region TTok ?_
    intro K hK
    simp -implicitDefEqProofs (disch := first | decide | assumption | omega) only [go_sem, RdS.len hv sl22, RdS.idx hv sl22, R1.intB hv (HPres.refl _), RdS.cells hv, wrap_id]
    refine hK _ _ ?_
    clear hK K
    refine den_stop ?_
    exact ⟨(i + 1, q + 1), by simp [HasL, puts_at], ⟨rfl, by dsimp only; omega, by dsimp only; omega⟩, by dsimp only; omega⟩
  ·try simp only [decide_eq_true_eq, decide_eq_false_iff_not, beq_iff_eq, beq_eq_false_iff_ne, bne_iff_ne, ne_eq, Bool.not_eq_true', Bool.not_eq_false', Bool.and_eq_true, Bool.or_eq_true, bne_eq_false_iff_eq] at c0
   refine den_exit ?_
   refine denX_code ?_
   refine denX_stop ?_
   refine denX_hit ?_
   refine den_seq ?_
   refine den_region TTok ?_
   intro K hK
   simp -implicitDefEqProofs (disch := first | decide | assumption | omega) only [go_sem, RdS.len hv sl22, RdS.idx hv sl22, R1.intB hv (HPres.refl _), RdS.cells hv, wrap_id]
   refine hK _ _ ?_
   clear hK K
   refine den_ret ?_
   simp (disch := decide) only [resP_1, puts_same, puts_ne]
   exact ⟨vint (by omega), trivial⟩

set_option maxRecDepth 100000 in
theorem heldSS_ok (v : Value) (R : List (List Int)) (k : Int) (h : Heap) (hv : R2 h v (markL markI cnt1 R k)) (hk : 0 ≤ k ∧ k + cntL cnt1 R ≤ 4611686018427387904) : CallA Try.prog 33 #[v, .int .i64 k] h fun u h' => u = .int .i64 (k + cntL cnt1 R) ∧ h' = h := by
 have hle := RdS.le hv
 have hml := markL_len (mk := markI) (ct := cnt1) R k
 refine callA_intro TTok (args := [_, _]) Try.func33 (by kernel_rfl) rfl 21 rfl (by simp) [.tmp 4] rfl ?_
 simp only [idxs, Nat.reduceAdd]
 refine den_seq ?_
 refine den_region TTok ?_
 intro K hK
 simp -implicitDefEqProofs (disch := first | decide | assumption | omega) only [go_sem, RdS.len hv sl27, RdS.idx hv sl27, RdS.cellB hv (HPres.refl _), RdS.cells hv, wrap_id]
 refine hK _ _ ?_
 clear hK K
 refine den_seq ?_
 refine den_seq ?_
 refine den_region TTok ?_
 intro K hK
 simp -implicitDefEqProofs (disch := first | decide | assumption | omega) only [go_sem, RdS.len hv sl27, RdS.idx hv sl27, RdS.cellB hv (HPres.refl _), RdS.cells hv, wrap_id]
 refine hK _ _ ?_
 clear hK K
 refine den_block ?_
 refine den_sel [1, 5, 0] ?_
 intro env_1
 simp only [go_sem]
 refine den_loopP (σ := Nat × Int) (fun s => [(1, .int .i64 s.2), (5, .int .i64 (s.1 : Int))]) (fun s => s.1 ≤ R.length ∧ s.2 = k + cntL cnt1 (R.take s.1)) (fun s => R.length - s.1) (0, k) ?_ ?_
 ·exact ⟨rfl, by simp, by simp [cntL]⟩
 ·rintro ⟨i, q⟩ ee3 ⟨hi, hq⟩
  simp only [List.cons_append, List.nil_append]
  dsimp only at hi hq
  refine den_seq ?_
  refine den_seq ?_
  refine den_region TTok ?_
  intro K hK
  simp -implicitDefEqProofs (disch := first | decide | assumption | omega) only [go_sem, RdS.len hv sl27, RdS.idx hv sl27, RdS.cellB hv (HPres.refl _), RdS.cells hv, wrap_id]
  refine hK _ _ ?_
  clear hK K
  refine den_cond rfl (fun c0 => ?_) (fun c0 => ?_)
  ·try simp only [decide_eq_true_eq, decide_eq_false_iff_not, beq_iff_eq, beq_eq_false_iff_ne, bne_iff_ne, ne_eq, Bool.not_eq_true', Bool.not_eq_false', Bool.and_eq_true, Bool.or_eq_true, bne_eq_false_iff_eq] at c0
   refine den_skip ?_
   refine den_seq ?_
   refine den_block ?_
   refine den_seq ?_
   have hct := cntL_take (ct := cnt1) R i (by omega)
   have hcl := cntL_le cnt1_nn R (i + 1)
   have hcn := cnt1_nn (R.getD i default)
   have hcn2 := cntL_nonneg cnt1_nn (R.take i)
   refine den_region TTok ?_
   intro K hK
   have hr4 := RdS.rowN hv i (by omega)
   have hlhr4 := RdS.le hr4
   simp -implicitDefEqProofs (disch := first | decide | assumption | omega) only [go_sem, ld22, RdS.len hv sl27, RdS.idx hv sl27, RdS.cellB hv (HPres.refl _), RdS.cells hv, RdS.len hr4 sl22, RdS.idx hr4 sl22, R1.intB hr4 (HPres.refl _), RdS.cells hr4, wrap_id]
   try simp -implicitDefEqProofs (disch := first | decide | assumption | omega) only [go_sem, RdS.len hv sl27, RdS.idx hv sl27, RdS.cellB hv (HPres.refl _), RdS.cells hv, RdS.len hr4 sl22, RdS.idx hr4 sl22, R1.intB hr4 (HPres.refl _), RdS.cells hr4, wrap_id]
   have hr := RdS.rowN hv i (by omega)
   rw [markL_get R k i (by omega), ← hq] at hr
   refine CallA.pure (heldS_ok _ _ q _ hr (by have := cnt1_nn (R.getD i default); simp only [cnt1] at *; omega)) ?_
   try simp -implicitDefEqProofs (disch := first | decide | assumption | omega) only [go_sem, RdS.len hv sl27, RdS.idx hv sl27, RdS.cellB hv (HPres.refl _), RdS.cells hv, RdS.len hr4 sl22, RdS.idx hr4 sl22, R1.intB hr4 (HPres.refl _), RdS.cells hr4, wrap_id]
   refine hK _ _ ?_
   clear hK K
   refine den_seq ?_
   refine den_region TTok ?_
   intro K hK
   simp -implicitDefEqProofs (disch := first | decide | assumption | omega) only [go_sem, RdS.len hv sl27, RdS.idx hv sl27, RdS.cellB hv (HPres.refl _), RdS.cells hv, RdS.len hr4 sl22, RdS.idx hr4 sl22, R1.intB hr4 (HPres.refl _), RdS.cells hr4, wrap_id]
   refine hK _ _ ?_
   clear hK K
   refine den_cond rfl (fun c1 => ?_) (fun c1 => ?_)
   ·try simp only [decide_eq_true_eq, decide_eq_false_iff_not, beq_iff_eq, beq_eq_false_iff_ne, bne_iff_ne, ne_eq, Bool.not_eq_true', Bool.not_eq_false', Bool.and_eq_true, Bool.or_eq_true, bne_eq_false_iff_eq] at c1
    refine den_seq ?_
    refine den_region TTok ?_
    intro K hK
    simp -implicitDefEqProofs (disch := first | decide | assumption | omega) only [go_sem, RdS.len hv sl27, RdS.idx hv sl27, RdS.cellB hv (HPres.refl _), RdS.cells hv, RdS.len hr4 sl22, RdS.idx hr4 sl22, R1.intB hr4 (HPres.refl _), RdS.cells hr4, wrap_id]
    refine hK _ _ ?_
    clear hK K
    refine den_ret ?_
    simp (disch := decide) only [resP_1, puts_same, puts_ne]
    exact absurd c1 (by omega)
   ·try simp only [decide_eq_true_eq, decide_eq_false_iff_not, beq_iff_eq, beq_eq_false_iff_ne, bne_iff_ne, ne_eq, Bool.not_eq_true', Bool.not_eq_false', Bool.and_eq_true, Bool.or_eq_true, bne_eq_false_iff_eq] at c1
    refine den_skip ?_
    refine den_blk ?_
    refine den_region TTok ?_
    intro K hK
    simp -implicitDefEqProofs (disch := first | decide | assumption | omega) only [go_sem, RdS.len hv sl27, RdS.idx hv sl27, RdS.cellB hv (HPres.refl _), RdS.cells hv, RdS.len hr4 sl22, RdS.idx hr4 sl22, R1.intB hr4 (HPres.refl _), RdS.cells hr4, wrap_id]
    refine hK _ _ ?_
    clear hK K
    refine den_stop ?_
    exact ⟨(i + 1, q + cnt1 (R.getD i default)), by simp [HasL, puts_at], ⟨rfl, by dsimp only; omega, by dsimp only; omega⟩, by dsimp only; omega⟩
  ·try simp only [decide_eq_true_eq, decide_eq_false_iff_not, beq_iff_eq, beq_eq_false_iff_ne, bne_iff_ne, ne_eq, Bool.not_eq_true', Bool.not_eq_false', Bool.and_eq_true, Bool.or_eq_true, bne_eq_false_iff_eq] at c0
   refine den_exit ?_
   refine denX_code ?_
   refine denX_stop ?_
   refine denX_hit ?_
   refine den_seq ?_
   refine den_region TTok ?_
   intro K hK
   simp -implicitDefEqProofs (disch := first | decide | assumption | omega) only [go_sem, RdS.len hv sl27, RdS.idx hv sl27, RdS.cellB hv (HPres.refl _), RdS.cells hv, wrap_id]
   refine hK _ _ ?_
   clear hK K
   refine den_ret ?_
   simp (disch := decide) only [resP_1, puts_same, puts_ne]
   have ht : R.take i = R := List.take_of_length_le (by omega)
   rw [ht] at hq
   exact ⟨vint hq, trivial⟩

set_option maxRecDepth 100000 in
theorem heldSSS_ok (v : Value) (R : List (List (List Int))) (k : Int) (h : Heap) (hv : R3 h v (markL mark2 cnt2 R k)) (hk : 0 ≤ k ∧ k + cntL cnt2 R ≤ 4611686018427387904) : CallA Try.prog 63 #[v, .int .i64 k] h fun u h' => u = .int .i64 (k + cntL cnt2 R) ∧ h' = h := by
 have hle := RdS.le hv
 have hml := markL_len (mk := mark2) (ct := cnt2) R k
 refine callA_intro TTok (args := [_, _]) Try.func63 (by kernel_rfl) rfl 21 rfl (by simp) [.tmp 4] rfl ?_
 simp only [idxs, Nat.reduceAdd]
 refine den_seq ?_
 refine den_region TTok ?_
 intro K hK
 simp -implicitDefEqProofs (disch := first | decide | assumption | omega) only [go_sem, RdS.len hv sl23, RdS.idx hv sl23, RdS.cellB hv (HPres.refl _), RdS.cells hv, wrap_id]
 refine hK _ _ ?_
 clear hK K
 refine den_seq ?_
 refine den_seq ?_
 refine den_region TTok ?_
 intro K hK
 simp -implicitDefEqProofs (disch := first | decide | assumption | omega) only [go_sem, RdS.len hv sl23, RdS.idx hv sl23, RdS.cellB hv (HPres.refl _), RdS.cells hv, wrap_id]
 refine hK _ _ ?_
 clear hK K
 refine den_block ?_
 refine den_sel [1, 5, 0] ?_
 intro env_1
 simp only [go_sem]
 refine den_loopP (σ := Nat × Int) (fun s => [(1, .int .i64 s.2), (5, .int .i64 (s.1 : Int))]) (fun s => s.1 ≤ R.length ∧ s.2 = k + cntL cnt2 (R.take s.1)) (fun s => R.length - s.1) (0, k) ?_ ?_
 ·exact ⟨rfl, by simp, by simp [cntL]⟩
 ·rintro ⟨i, q⟩ ee3 ⟨hi, hq⟩
  simp only [List.cons_append, List.nil_append]
  dsimp only at hi hq
  refine den_seq ?_
  refine den_seq ?_
  refine den_region TTok ?_
  intro K hK
  simp -implicitDefEqProofs (disch := first | decide | assumption | omega) only [go_sem, RdS.len hv sl23, RdS.idx hv sl23, RdS.cellB hv (HPres.refl _), RdS.cells hv, wrap_id]
  refine hK _ _ ?_
  clear hK K
  refine den_cond rfl (fun c0 => ?_) (fun c0 => ?_)
  ·try simp only [decide_eq_true_eq, decide_eq_false_iff_not, beq_iff_eq, beq_eq_false_iff_ne, bne_iff_ne, ne_eq, Bool.not_eq_true', Bool.not_eq_false', Bool.and_eq_true, Bool.or_eq_true, bne_eq_false_iff_eq] at c0
   refine den_skip ?_
   refine den_seq ?_
   refine den_block ?_
   refine den_seq ?_
   have hct := cntL_take (ct := cnt2) R i (by omega)
   have hcl := cntL_le cnt2_nn R (i + 1)
   have hcn := cnt2_nn (R.getD i default)
   have hcn2 := cntL_nonneg cnt2_nn (R.take i)
   refine den_region TTok ?_
   intro K hK
   have hr4 := RdS.rowN hv i (by omega)
   have hlhr4 := RdS.le hr4
   simp -implicitDefEqProofs (disch := first | decide | assumption | omega) only [go_sem, ld27, RdS.len hv sl23, RdS.idx hv sl23, RdS.cellB hv (HPres.refl _), RdS.cells hv, RdS.len hr4 sl27, RdS.idx hr4 sl27, RdS.cellB hr4 (HPres.refl _), RdS.cells hr4, wrap_id]
   try simp -implicitDefEqProofs (disch := first | decide | assumption | omega) only [go_sem, RdS.len hv sl23, RdS.idx hv sl23, RdS.cellB hv (HPres.refl _), RdS.cells hv, RdS.len hr4 sl27, RdS.idx hr4 sl27, RdS.cellB hr4 (HPres.refl _), RdS.cells hr4, wrap_id]
   have hr := RdS.rowN hv i (by omega)
   rw [markL_get R k i (by omega), ← hq] at hr
   refine CallA.pure (heldSS_ok _ _ q _ hr (by have := cnt2_nn (R.getD i default); simp only [cnt2] at *; omega)) ?_
   try simp -implicitDefEqProofs (disch := first | decide | assumption | omega) only [go_sem, RdS.len hv sl23, RdS.idx hv sl23, RdS.cellB hv (HPres.refl _), RdS.cells hv, RdS.len hr4 sl27, RdS.idx hr4 sl27, RdS.cellB hr4 (HPres.refl _), RdS.cells hr4, wrap_id]
   refine hK _ _ ?_
   clear hK K
   refine den_seq ?_
   refine den_region TTok ?_
   intro K hK
   simp -implicitDefEqProofs (disch := first | decide | assumption | omega) only [go_sem, RdS.len hv sl23, RdS.idx hv sl23, RdS.cellB hv (HPres.refl _), RdS.cells hv, RdS.len hr4 sl27, RdS.idx hr4 sl27, RdS.cellB hr4 (HPres.refl _), RdS.cells hr4, wrap_id]
   refine hK _ _ ?_
   clear hK K
   refine den_cond rfl (fun c1 => ?_) (fun c1 => ?_)
   ·try simp only [decide_eq_true_eq, decide_eq_false_iff_not, beq_iff_eq, beq_eq_false_iff_ne, bne_iff_ne, ne_eq, Bool.not_eq_true', Bool.not_eq_false', Bool.and_eq_true, Bool.or_eq_true, bne_eq_false_iff_eq] at c1
    refine den_seq ?_
    refine den_region TTok ?_
    intro K hK
    simp -implicitDefEqProofs (disch := first | decide | assumption | omega) only [go_sem, RdS.len hv sl23, RdS.idx hv sl23, RdS.cellB hv (HPres.refl _), RdS.cells hv, RdS.len hr4 sl27, RdS.idx hr4 sl27, RdS.cellB hr4 (HPres.refl _), RdS.cells hr4, wrap_id]
    refine hK _ _ ?_
    clear hK K
    refine den_ret ?_
    simp (disch := decide) only [resP_1, puts_same, puts_ne]
    exact absurd c1 (by have e : cntL cnt1 (R.getD i default) = cnt2 (R.getD i default) := rfl; omega)
   ·try simp only [decide_eq_true_eq, decide_eq_false_iff_not, beq_iff_eq, beq_eq_false_iff_ne, bne_iff_ne, ne_eq, Bool.not_eq_true', Bool.not_eq_false', Bool.and_eq_true, Bool.or_eq_true, bne_eq_false_iff_eq] at c1
    refine den_skip ?_
    refine den_blk ?_
    refine den_region TTok ?_
    intro K hK
    simp -implicitDefEqProofs (disch := first | decide | assumption | omega) only [go_sem, RdS.len hv sl23, RdS.idx hv sl23, RdS.cellB hv (HPres.refl _), RdS.cells hv, RdS.len hr4 sl27, RdS.idx hr4 sl27, RdS.cellB hr4 (HPres.refl _), RdS.cells hr4, wrap_id]
    refine hK _ _ ?_
    clear hK K
    refine den_stop ?_
    exact ⟨(i + 1, q + cnt2 (R.getD i default)), by simp [HasL, puts_at], ⟨rfl, by dsimp only; omega, by dsimp only; omega⟩, by dsimp only; omega⟩
  ·try simp only [decide_eq_true_eq, decide_eq_false_iff_not, beq_iff_eq, beq_eq_false_iff_ne, bne_iff_ne, ne_eq, Bool.not_eq_true', Bool.not_eq_false', Bool.and_eq_true, Bool.or_eq_true, bne_eq_false_iff_eq] at c0
   refine den_exit ?_
   refine denX_code ?_
   refine denX_stop ?_
   refine denX_hit ?_
   refine den_seq ?_
   refine den_region TTok ?_
   intro K hK
   simp -implicitDefEqProofs (disch := first | decide | assumption | omega) only [go_sem, RdS.len hv sl23, RdS.idx hv sl23, RdS.cellB hv (HPres.refl _), RdS.cells hv, wrap_id]
   refine hK _ _ ?_
   clear hK K
   refine den_ret ?_
   simp (disch := decide) only [resP_1, puts_same, puts_ne]
   have ht : R.take i = R := List.take_of_length_le (by omega)
   rw [ht] at hq
   exact ⟨vint hq, trivial⟩
end Go.Proofs.Ytkdnnfkdgmblgaa

namespace Go.Proofs.Ytkdnnfkdgmblgaa
open Go
theorem szI_cntA {xs : List Int} {l : Int} (h : ¬ szI xs l < 0) : cnt1 xs ≤ l - szI xs l := by
 unfold szI at *
 unfold cnt1
 split at h
 ·omega
 ·rename_i hc; rw [if_neg hc]; omega
theorem szRows_cntA {α : Type} {f : α → Int → Int} {ct : α → Int} (hc : ∀ x l, ¬ f x l < 0 → ct x ≤ l - f x l) : ∀ (r : List α) (l : Int), ¬ szRows f r l < 0 → cntL ct r ≤ l - szRows f r l
 | [], l, _ => by simp [cntL, szRows]
 | x :: r, l, h => by
  unfold szRows at *
  split at h
  ·omega
  ·rename_i hx
   have h1 := hc x l hx
   have h2 := szRows_cntA hc r (f x l) h
   rw [if_neg hx, cntL]; omega
theorem szL_cntA {α : Type} {f : α → Int → Int} {ct : α → Int} (hc : ∀ x l, ¬ f x l < 0 → ct x ≤ l - f x l) (r : List α) (l : Int) (h : ¬ szL f r l < 0) : cntL ct r ≤ l - szL f r l := by
 unfold szL at *
 split at h
 ·omega
 ·rename_i hx
  have := szRows_cntA hc r _ h
  rw [if_neg hx]; omega
theorem szC_cntA {X : Cx} {l : Int} (h0 : 0 ≤ l) (h1 : l ≤ 1048576) (h : ¬ szC X l < 0) : 0 ≤ cnt1 X.dims ∧ 0 ≤ cntL cnt2 X.maps ∧ cnt1 X.dims + cntL cnt2 X.maps ≤ 1048576 := ⟨cnt1_nn _, cntL_nonneg cnt2_nn _, by
 unfold szC at h
 split at h
 ·omega
 ·rename_i h1
  split at h
  ·omega
  ·have a := szI_cntA h1
   have b := szL_cntA (f := sz2) (ct := cnt2) (fun x l hx => szL_cntA (f := szI) (ct := cnt1) (fun x l hx => szI_cntA hx) x l hx) X.maps _ (show ¬ szL sz2 X.maps (szI X.dims l) < 0 from by assumption)
   have e : szL sz2 X.maps (szI X.dims l) = sz3 X.maps (szI X.dims l) := rfl
   omega⟩
/-- A list whose elements count at most c each. -/
theorem cntL_bnd {α : Type} {ct : α → Int} {c : Int} (hc : 0 ≤ c) : ∀ {xs : List α} {m : Nat}, (∀ x ∈ xs, 0 ≤ ct x ∧ ct x ≤ c) → xs.length ≤ m → 0 ≤ cntL ct xs ∧ cntL ct xs ≤ m * c
 | [], m, _, _ => ⟨Int.le_refl _, Int.mul_nonneg (by omega) hc⟩
 | x :: r, m, h, hm => by
  have h1 := h x (by simp)
  simp only [List.length_cons] at hm
  obtain ⟨m', rfl⟩ : ∃ m', m = m' + 1 := ⟨m - 1, by omega⟩
  have h2 := cntL_bnd hc (xs := r) (m := m') (fun y hy => h y (List.mem_cons_of_mem _ hy)) (by omega)
  have e : ((m' + 1 : Nat) : Int) * c = (m' : Int) * c + c := by rw [Int.natCast_add, Int.add_mul]; simp
  rw [cntL, e]; omega

set_option maxRecDepth 100000 in
theorem markCx_ok (vd vm : Value) (X : Cx) (k : Int) (f1 f2 : List Nat) (h : Heap) (hod : O1 h vd X.dims f1) (hom : O3 h vm X.maps f2) (hf : (f1 ++ f2).Nodup) (hk : 0 ≤ k ∧ 0 ≤ cnt1 X.dims ∧ 0 ≤ cntL cnt2 X.maps ∧ k + cnt1 X.dims + cntL cnt2 X.maps ≤ 4611686018427387904) : CallA Try.prog 10 #[.agg #[.int .i64 X.p, vd, vm], .int .i64 k] h fun u h' => u = .int .i64 (k + cnt1 X.dims + cntL cnt2 X.maps) ∧ O1 h' vd (markI X.dims k) f1 ∧ O3 h' vm (mark3 X.maps (k + cnt1 X.dims)) f2 ∧ Chg (f1 ++ f2) h h' := by
 have hl1 := OS.lt hod
 have hn1 := (List.nodup_append.1 hf).1
 have hn2 := (List.nodup_append.1 hf).2.1
 have hap : ∀ b ∈ f2, b ∉ f1 := fun b hb hm => (List.nodup_append.1 hf).2.2 b hm b hb rfl
 refine callA_intro TTok (args := [_, _]) Try.func10 (by kernel_rfl) rfl 14 rfl (by simp) [.tmp 4] rfl ?_
 simp only [idxs, Nat.reduceAdd]
 refine den_seq ?_
 refine den_region TTok ?_
 intro K hK
 simp -implicitDefEqProofs (disch := first | decide | assumption | omega) only [go_sem, RdS.len (OS.rd hod) sl22, RdS.idx (OS.rd hod) sl22, R1.intN (OS.rd hod), RdS.cells (OS.rd hod), RdS.len (OS.rd hom) sl23, RdS.idx (OS.rd hom) sl23, RdS.cellN (OS.rd hom), RdS.cells (OS.rd hom)]
 refine op_box (cs := #[.int .i64 (X.p), vd, vm]) rfl ?_
 intro h0_0 e0_0 hb0_0 z0_0
 replace hod := OS.ext hod e0_0
 replace hom := OS.ext hom e0_0
 have := Ext.size e0_0
 have eB := e0_0
 try simp -implicitDefEqProofs (disch := first | decide | assumption | omega) only [go_sem, RdS.len (OS.rd hod) sl22, RdS.idx (OS.rd hod) sl22, R1.intN (OS.rd hod), RdS.cells (OS.rd hod), RdS.len (OS.rd hom) sl23, RdS.idx (OS.rd hom) sl23, RdS.cellN (OS.rd hom), RdS.cells (OS.rd hom), BoxAt.cell hb0_0]
 refine hK _ _ ?_
 clear hK K
 refine den_seq ?_
 refine den_region TTok ?_
 intro K hK
 simp -implicitDefEqProofs (disch := first | decide | assumption | omega) only [go_sem, fa33_1, ld22, RdS.len (OS.rd hod) sl22, RdS.idx (OS.rd hod) sl22, R1.intN (OS.rd hod), RdS.cells (OS.rd hod), RdS.len (OS.rd hom) sl23, RdS.idx (OS.rd hom) sl23, RdS.cellN (OS.rd hom), RdS.cells (OS.rd hom), BoxAt.cell hb0_0]
 try simp -implicitDefEqProofs (disch := first | decide | assumption | omega) only [go_sem, RdS.len (OS.rd hod) sl22, RdS.idx (OS.rd hod) sl22, R1.intN (OS.rd hod), RdS.cells (OS.rd hod), RdS.len (OS.rd hom) sl23, RdS.idx (OS.rd hom) sl23, RdS.cellN (OS.rd hom), RdS.cells (OS.rd hom), BoxAt.cell hb0_0]
 refine CallA.mono (markS_ok _ _ k _ _ hod hn1 (by omega)) ?_
 intro v_ h1_3
 rintro ⟨rfl, hod2, c1⟩
 replace hom := OS.chg hom c1 hap
 replace hb0_0 := BoxAt.chg hb0_0 c1 (fun hm => by have := hl1 _ hm; omega)
 try simp -implicitDefEqProofs (disch := first | decide | assumption | omega) only [go_sem, RdS.len (OS.rd hod) sl22, RdS.idx (OS.rd hod) sl22, R1.intN (OS.rd hod), RdS.cells (OS.rd hod), RdS.len (OS.rd hom) sl23, RdS.idx (OS.rd hom) sl23, RdS.cellN (OS.rd hom), RdS.cells (OS.rd hom), BoxAt.cell hb0_0]
 refine hK _ _ ?_
 clear hK K
 refine den_seq ?_
 refine den_region TTok ?_
 intro K hK
 simp -implicitDefEqProofs (disch := first | decide | assumption | omega) only [go_sem, fa33_2, ld23, RdS.len (OS.rd hod) sl22, RdS.idx (OS.rd hod) sl22, R1.intN (OS.rd hod), RdS.cells (OS.rd hod), RdS.len (OS.rd hom) sl23, RdS.idx (OS.rd hom) sl23, RdS.cellN (OS.rd hom), RdS.cells (OS.rd hom), BoxAt.cell hb0_0]
 try simp -implicitDefEqProofs (disch := first | decide | assumption | omega) only [go_sem, RdS.len (OS.rd hod) sl22, RdS.idx (OS.rd hod) sl22, R1.intN (OS.rd hod), RdS.cells (OS.rd hod), RdS.len (OS.rd hom) sl23, RdS.idx (OS.rd hom) sl23, RdS.cellN (OS.rd hom), RdS.cells (OS.rd hom), BoxAt.cell hb0_0]
 refine CallA.mono (markSSS_ok _ _ (k + cnt1 X.dims) _ _ hom hn2 (by omega)) ?_
 intro v_ h2_3
 rintro ⟨rfl, hom2, c2⟩
 try simp -implicitDefEqProofs (disch := first | decide | assumption | omega) only [go_sem, RdS.len (OS.rd hod) sl22, RdS.idx (OS.rd hod) sl22, R1.intN (OS.rd hod), RdS.cells (OS.rd hod), RdS.len (OS.rd hom) sl23, RdS.idx (OS.rd hom) sl23, RdS.cellN (OS.rd hom), RdS.cells (OS.rd hom), BoxAt.cell hb0_0]
 refine hK _ _ ?_
 clear hK K
 refine den_seq ?_
 refine den_region TTok ?_
 intro K hK
 simp -implicitDefEqProofs (disch := first | decide | assumption | omega) only [go_sem, RdS.len (OS.rd hod) sl22, RdS.idx (OS.rd hod) sl22, R1.intN (OS.rd hod), RdS.cells (OS.rd hod), RdS.len (OS.rd hom) sl23, RdS.idx (OS.rd hom) sl23, RdS.cellN (OS.rd hom), RdS.cells (OS.rd hom), BoxAt.cell hb0_0]
 refine hK _ _ ?_
 clear hK K
 refine den_ret ?_
 simp (disch := decide) only [resP_1, puts_same, puts_ne]
 exact ⟨by first | rfl | trivial, OS.chg hod2 c2 (Apart.symm hap), hom2, ((eB.chg _).trans (c1.mono (fun b hb => List.mem_append_left _ hb))).trans (c2.mono (fun b hb => List.mem_append_right _ hb))⟩

theorem eqSS_same (v w : Value) (xs : List (List Int)) (h : Heap) (hv : R2 h v xs) (hw : R2 h w xs) : CallA Try.prog 25 #[v, w] h fun u h' => u = .bool true ∧ h' = h := (eqSS_ok v w xs xs h hv hw).mono fun u h' e => ⟨by rw [e.1]; simp, e.2⟩
theorem eqC_same (v w : Value) (X : Cx) (h : Heap) (hv : RC h v X) (hw : RC h w X) : CallA Try.prog 9 #[v, w] h fun u h' => u = .bool true ∧ Ext h h' := (eqC_ok v w X X h hv hw).mono fun u h' e => ⟨by rw [e.1, eqC_self], e.2⟩
end Go.Proofs.Ytkdnnfkdgmblgaa

namespace Go.Proofs.Ytkdnnfkdgmblgaa
open Go
/-- A filtered complex, as data. -/
structure Fl where
 c : Cx
 lv : List (List Int)
def RF (h : Heap) (v : Value) (X : Fl) : Prop := ∃ vd vm vl, v = .agg #[.int .i64 X.c.p, vd, vm, vl] ∧ R1 h vd X.c.dims ∧ R3 h vm X.c.maps ∧ R2 h vl X.lv
instance : Mono RF := ⟨fun hp ⟨vd, vm, vl, e, h1, h2, h3⟩ => ⟨vd, vm, vl, e, h1.pres hp, h2.pres hp, h3.pres hp⟩⟩
theorem RF.pres {h h' : Heap} {v : Value} {X : Fl} (hv : RF h v X) (hp : HPres h h') : RF h' v X := Mono.mono hp hv
theorem Apart.lft {fp f1 f2 : List Nat} (h : Apart fp (f1 ++ f2)) : Apart fp f1 := fun b hb hq => h b hb (List.mem_append_left _ hq)
theorem Apart.rgt {fp f1 f2 : List Nat} (h : Apart fp (f1 ++ f2)) : Apart fp f2 := fun b hb hq => h b hb (List.mem_append_right _ hq)
structure HMF (X : Fl) : Prop where
 c : HMC X.c
 lv : HM2 X.lv
open Go.ChangeShapes Go.WideShapes Go.ChangeAt Go.RowKit Go.Joins
end Go.Proofs.Ytkdnnfkdgmblgaa

namespace Go.Proofs.Ytkdnnfkdgmblgaa
open Go
/-- A double complex, as data. -/
structure Db where
 p : Int
 dims : List (List Int)
 ac : List (List (List (List Int)))
 dn : List (List (List (List Int)))
def RD (h : Heap) (v : Value) (X : Db) : Prop := ∃ vd va vb, v = .agg #[.int .i64 X.p, vd, va, vb] ∧ R2 h vd X.dims ∧ R4 h va X.ac ∧ R4 h vb X.dn
instance : Mono RD := ⟨fun hp ⟨vd, vm, vl, e, h1, h2, h3⟩ => ⟨vd, vm, vl, e, h1.pres hp, h2.pres hp, h3.pres hp⟩⟩
theorem RD.pres {h h' : Heap} {v : Value} {X : Db} (hv : RD h v X) (hp : HPres h h') : RD h' v X := Mono.mono hp hv
abbrev mark4 : List (List (List (List Int))) → Int → List (List (List (List Int))) := markL mark3 cnt3

set_option maxRecDepth 100000 in
theorem eqSSSS_ok (v w : Value) (xs ys : List (List (List (List Int)))) (h : Heap) (hv : R4 h v xs) (hw : R4 h w ys) : CallA Try.prog 26 #[v, w] h fun v h' => v = .bool (decide (xs = ys)) ∧ h' = h := by
 have hle := RdS.le hv
 refine callA_intro TTok (args := [_, _]) Try.func26 (by kernel_rfl) rfl 27 rfl (by simp) [.tmp 4] rfl ?_
 simp only [idxs, Nat.reduceAdd]
 refine den_seq ?_
 refine den_region TTok ?_
 intro K hK
 simp -implicitDefEqProofs (disch := first | decide | assumption | omega) only [go_sem, wrap_id]
 refine hK _ _ ?_
 clear hK K
 refine den_seq ?_
 refine den_seq ?_
 refine den_region TTok ?_
 intro K hK
 simp -implicitDefEqProofs (disch := first | decide | assumption | omega) only [go_sem, RdS.len hv sl28, RdS.idx hv sl28, RdS.cellB hv (HPres.refl _), RdS.cells hv, RdS.len hw sl28, RdS.idx hw sl28, RdS.cellB hw (HPres.refl _), RdS.cells hw, wrap_id]
 refine hK _ _ ?_
 clear hK K
 refine den_cond rfl (fun c0 => ?_) (fun c0 => ?_)
 ·try simp only [decide_eq_true_eq, decide_eq_false_iff_not, beq_iff_eq, beq_eq_false_iff_ne, bne_iff_ne, ne_eq, Bool.not_eq_true', Bool.not_eq_false', Bool.and_eq_true, Bool.or_eq_true, bne_eq_false_iff_eq] at c0
  refine den_seq ?_
  refine den_region TTok ?_
  intro K hK
  simp -implicitDefEqProofs (disch := first | decide | assumption | omega) only [go_sem, wrap_id]
  refine hK _ _ ?_
  clear hK K
  refine den_ret ?_
  simp (disch := decide) only [resP_1, puts_same, puts_ne]
  exact ⟨vbool (by simp; intro he; rw [he] at c0; omega), trivial⟩
 ·try simp only [decide_eq_true_eq, decide_eq_false_iff_not, beq_iff_eq, beq_eq_false_iff_ne, bne_iff_ne, ne_eq, Bool.not_eq_true', Bool.not_eq_false', Bool.and_eq_true, Bool.or_eq_true, bne_eq_false_iff_eq] at c0
  refine den_skip ?_
  refine den_seq ?_
  refine den_seq ?_
  refine den_region TTok ?_
  intro K hK
  simp -implicitDefEqProofs (disch := first | decide | assumption | omega) only [go_sem, wrap_id]
  refine hK _ _ ?_
  clear hK K
  refine den_block ?_
  refine den_sel [5, 0, 1] ?_
  intro env_1
  simp only [go_sem]
  refine den_loopP (σ := Nat) (fun s => [(5, .int .i64 (s : Int))]) (fun s => s ≤ xs.length ∧ xs.take s = ys.take s) (fun s => xs.length - s) 0 ?_ ?_
  ·exact ⟨rfl, by omega, by simp⟩
  ·rintro k ee3 ⟨hk, heq⟩
   simp only [List.cons_append, List.nil_append]
   refine den_seq ?_
   refine den_seq ?_
   refine den_region TTok ?_
   intro K hK
   simp -implicitDefEqProofs (disch := first | decide | assumption | omega) only [go_sem, RdS.len hv sl28, RdS.idx hv sl28, RdS.cellB hv (HPres.refl _), RdS.cells hv, wrap_id]
   refine hK _ _ ?_
   clear hK K
   refine den_cond rfl (fun c1 => ?_) (fun c1 => ?_)
   ·try simp only [decide_eq_true_eq, decide_eq_false_iff_not, beq_iff_eq, beq_eq_false_iff_ne, bne_iff_ne, ne_eq, Bool.not_eq_true', Bool.not_eq_false', Bool.and_eq_true, Bool.or_eq_true, bne_eq_false_iff_eq] at c1
    refine den_skip ?_
    refine den_seq ?_
    refine den_block ?_
    refine den_seq ?_
    refine den_draw TTok mixed [] [(0, true), (1, true), (2, true), (3, true), (4, true), (5, true), (6, true), (7, true), (8, false), (9, true)] (by kernel_rfl) ?_
    intro K hK
    have hr4 := RdS.rowN hv k (by omega)
    have hlhr4 := RdS.le hr4
    have hr5 := RdS.rowN hw k (by omega)
    have hlhr5 := RdS.le hr5
    simp -implicitDefEqProofs (disch := first | decide | assumption | omega) only [go_sem, ld23, RdS.len hv sl28, RdS.idx hv sl28, RdS.cellB hv (HPres.refl _), RdS.cells hv, RdS.len hw sl28, RdS.idx hw sl28, RdS.cellB hw (HPres.refl _), RdS.cells hw, RdS.len hr4 sl23, RdS.idx hr4 sl23, RdS.cellB hr4 (HPres.refl _), RdS.cells hr4, RdS.len hr5 sl23, RdS.idx hr5 sl23, RdS.cellB hr5 (HPres.refl _), RdS.cells hr5, wrap_id]
    try simp -implicitDefEqProofs (disch := first | decide | assumption | omega) only [go_sem, wrap_id]
    refine CallA.pure (eqSSS_ok _ _ _ _ _ hr4 hr5) ?_
    try simp -implicitDefEqProofs (disch := first | decide | assumption | omega) only [go_sem, wrap_id]
    refine hK _ _ ?_
    clear hK K
    refine den_cond rfl (fun c2 => ?_) (fun c2 => ?_)
    ·try simp only [decide_eq_true_eq, decide_eq_false_iff_not, beq_iff_eq, beq_eq_false_iff_ne, bne_iff_ne, ne_eq, Bool.not_eq_true', Bool.not_eq_false', Bool.and_eq_true, Bool.or_eq_true, bne_eq_false_iff_eq] at c2
     refine den_seq ?_
     refine den_region TTok ?_
     intro K hK
     simp -implicitDefEqProofs (disch := first | decide | assumption | omega) only [go_sem, wrap_id]
     refine hK _ _ ?_
     clear hK K
     refine den_ret ?_
     simp (disch := decide) only [resP_1, puts_same, puts_ne]
     exact ⟨vbool (by simp; exact eq_stop (d := default) (by simpa using c2)), trivial⟩
    ·try simp only [decide_eq_true_eq, decide_eq_false_iff_not, beq_iff_eq, beq_eq_false_iff_ne, bne_iff_ne, ne_eq, Bool.not_eq_true', Bool.not_eq_false', Bool.and_eq_true, Bool.or_eq_true, bne_eq_false_iff_eq] at c2
     refine den_skip ?_
     refine den_blk ?_
     refine den_region TTok ?_
     intro K hK
     simp -implicitDefEqProofs (disch := first | decide | assumption | omega) only [go_sem, wrap_id]
     refine hK _ _ ?_
     clear hK K
     refine den_stop ?_
     exact ⟨k + 1, by simp [HasL, puts_at], ⟨rfl, by omega, eq_step (by omega) (by omega) heq (d := default) (d' := default) (by simpa using c2)⟩, by omega⟩
   ·try simp only [decide_eq_true_eq, decide_eq_false_iff_not, beq_iff_eq, beq_eq_false_iff_ne, bne_iff_ne, ne_eq, Bool.not_eq_true', Bool.not_eq_false', Bool.and_eq_true, Bool.or_eq_true, bne_eq_false_iff_eq] at c1
    refine den_exit ?_
    refine denX_code ?_
    refine denX_stop ?_
    refine denX_hit ?_
    refine den_seq ?_
    refine den_region TTok ?_
    intro K hK
    simp -implicitDefEqProofs (disch := first | decide | assumption | omega) only [go_sem, wrap_id]
    refine hK _ _ ?_
    clear hK K
    refine den_ret ?_
    simp (disch := decide) only [resP_1, puts_same, puts_ne]
    exact ⟨vbool (by simp; exact eq_end (by omega) (by omega) heq), trivial⟩

theorem eqSSSS_same (v w : Value) (xs : List (List (List (List Int)))) (h : Heap) (hv : R4 h v xs) (hw : R4 h w xs) : CallA Try.prog 26 #[v, w] h fun u h' => u = .bool true ∧ h' = h := (eqSSSS_ok v w xs xs h hv hw).mono fun u h' e => ⟨by rw [e.1]; simp, e.2⟩
set_option maxRecDepth 100000 in
theorem markSSSS_ok (v : Value) (R : List (List (List (List Int)))) (k : Int) (fp : List Nat) (h : Heap) (ho : O4 h v R fp) (hn : fp.Nodup) (hk : 0 ≤ k ∧ k + cntL cnt3 R ≤ 4611686018427387904) : CallA Try.prog 32 #[v, .int .i64 k] h fun u h' => u = .int .i64 (k + cntL cnt3 R) ∧ O4 h' v (markL mark3 cnt3 R k) fp ∧ Chg fp h h' := by
 have hle := OS.len_le ho
 refine callA_intro TTok (args := [_, _]) Try.func32 (by kernel_rfl) rfl 19 rfl (by simp) [.tmp 4] rfl ?_
 simp only [idxs, Nat.reduceAdd]
 refine den_seq ?_
 refine den_region TTok ?_
 intro K hK
 simp -implicitDefEqProofs (disch := first | decide | assumption | omega) only [go_sem, wrap_id]
 refine hK _ _ ?_
 clear hK K
 refine den_seq ?_
 refine den_seq ?_
 refine den_region TTok ?_
 intro K hK
 simp -implicitDefEqProofs (disch := first | decide | assumption | omega) only [go_sem, wrap_id]
 refine hK _ _ ?_
 clear hK K
 refine den_block ?_
 refine den_sel [1, 5, 0] ?_
 intro env_1
 simp only [go_sem]
 refine den_loopS (σ := Nat × Int) (fun s => [(1, .int .i64 s.2), (5, .int .i64 (s.1 : Int))]) (fun s H => Chg fp h H ∧ s.1 ≤ R.length ∧ s.2 = k + cntL cnt3 (R.take s.1) ∧ O4 H v (mix (markL mark3 cnt3 R k) R s.1) fp) (fun s => R.length - s.1) (0, k) ?_ ?_
 ·exact ⟨Chg.refl _ _, by simp, by simp [cntL], by rw [mix_zero]; exact ho⟩
 ·rintro ⟨i, q⟩ h4 ee3 ⟨hch, hi, hq, ho⟩
  simp only [List.cons_append, List.nil_append]
  dsimp only at hi hq ho
  refine den_seq ?_
  refine den_seq ?_
  have hml := mix_len (markL mark3 cnt3 R k) R i (markL_len R k)
  refine den_region TTok ?_
  intro K hK
  simp -implicitDefEqProofs (disch := first | decide | assumption | omega) only [go_sem, RdS.len (OS.rd ho) sl28, RdS.idx (OS.rd ho) sl28, RdS.cellN (OS.rd ho), RdS.cells (OS.rd ho), wrap_id]
  refine hK _ _ ?_
  clear hK K
  refine den_cond rfl (fun c0 => ?_) (fun c0 => ?_)
  ·try simp only [decide_eq_true_eq, decide_eq_false_iff_not, beq_iff_eq, beq_eq_false_iff_ne, bne_iff_ne, ne_eq, Bool.not_eq_true', Bool.not_eq_false', Bool.and_eq_true, Bool.or_eq_true, bne_eq_false_iff_eq] at c0
   refine den_skip ?_
   refine den_seq ?_
   refine den_block ?_
   have hmg := mix_get (markL mark3 cnt3 R k) R i default (markL_len R k) (by omega)
   have hct := cntL_take (ct := cnt3) R i (by omega)
   have hcl := cntL_le cnt3_nn R (i + 1)
   have hcn := cnt3_nn (R.getD i default)
   have hcn2 := cntL_nonneg cnt3_nn (R.take i)
   refine den_region TTok ?_
   intro K hK
   simp -implicitDefEqProofs (disch := first | decide | assumption | omega) only [go_sem, ld23, RdS.len (OS.rd ho) sl28, RdS.idx (OS.rd ho) sl28, RdS.cellN (OS.rd ho), RdS.cells (OS.rd ho), wrap_id]
   try simp -implicitDefEqProofs (disch := first | decide | assumption | omega) only [go_sem, wrap_id]
   obtain ⟨f, hE, hsub, hnf, hbk⟩ := OS.elem ho hn i (by omega)
   rw [hmg] at hE
   refine CallA.mono (markSSS_ok _ _ q _ _ hE hnf (by have := cnt3_nn (R.getD i default); simp only [cnt3] at *; omega)) ?_
   intro v_ h4_5
   rintro ⟨rfl, hE2, c4⟩
   change O3 _ _ (mark3 (R.getD i default) q) _ at hE2
   have ho4 := hbk _ _ c4 hE2
   replace hch := hch.trans (c4.mono hsub)
   rw [hq, markL_set (by omega)] at ho4
   try simp -implicitDefEqProofs (disch := first | decide | assumption | omega) only [go_sem, wrap_id]
   refine hK _ _ ?_
   clear hK K
   refine den_blk ?_
   refine den_region TTok ?_
   intro K hK
   simp -implicitDefEqProofs (disch := first | decide | assumption | omega) only [go_sem, wrap_id]
   refine hK _ _ ?_
   clear hK K
   refine den_stop ?_
   exact ⟨(i + 1, q + cnt3 (R.getD i default)), by simp [HasL, puts_at], ⟨hch, by dsimp only; omega, by dsimp only; omega, ho4⟩, by dsimp only; omega⟩
  ·try simp only [decide_eq_true_eq, decide_eq_false_iff_not, beq_iff_eq, beq_eq_false_iff_ne, bne_iff_ne, ne_eq, Bool.not_eq_true', Bool.not_eq_false', Bool.and_eq_true, Bool.or_eq_true, bne_eq_false_iff_eq] at c0
   refine den_exit ?_
   refine denX_code ?_
   refine denX_stop ?_
   refine denX_hit ?_
   refine den_seq ?_
   refine den_region TTok ?_
   intro K hK
   simp -implicitDefEqProofs (disch := first | decide | assumption | omega) only [go_sem, wrap_id]
   refine hK _ _ ?_
   clear hK K
   refine den_ret ?_
   simp (disch := decide) only [resP_1, puts_same, puts_ne]
   have ht : R.take i = R := List.take_of_length_le (by omega)
   rw [mix_end _ _ _ (markL_len R k) (by omega)] at ho
   rw [ht] at hq
   exact ⟨vint hq, ho, hch⟩

set_option maxRecDepth 100000 in
theorem heldSSSS_ok (v : Value) (R : List (List (List (List Int)))) (k : Int) (h : Heap) (hv : R4 h v (markL mark3 cnt3 R k)) (hk : 0 ≤ k ∧ k + cntL cnt3 R ≤ 4611686018427387904) : CallA Try.prog 34 #[v, .int .i64 k] h fun u h' => u = .int .i64 (k + cntL cnt3 R) ∧ h' = h := by
 have hle := RdS.le hv
 have hml := markL_len (mk := mark3) (ct := cnt3) R k
 refine callA_intro TTok (args := [_, _]) Try.func34 (by kernel_rfl) rfl 21 rfl (by simp) [.tmp 4] rfl ?_
 simp only [idxs, Nat.reduceAdd]
 refine den_seq ?_
 refine den_region TTok ?_
 intro K hK
 simp -implicitDefEqProofs (disch := first | decide | assumption | omega) only [go_sem, wrap_id]
 refine hK _ _ ?_
 clear hK K
 refine den_seq ?_
 refine den_seq ?_
 refine den_region TTok ?_
 intro K hK
 simp -implicitDefEqProofs (disch := first | decide | assumption | omega) only [go_sem, wrap_id]
 refine hK _ _ ?_
 clear hK K
 refine den_block ?_
 refine den_sel [1, 5, 0] ?_
 intro env_1
 simp only [go_sem]
 refine den_loopP (σ := Nat × Int) (fun s => [(1, .int .i64 s.2), (5, .int .i64 (s.1 : Int))]) (fun s => s.1 ≤ R.length ∧ s.2 = k + cntL cnt3 (R.take s.1)) (fun s => R.length - s.1) (0, k) ?_ ?_
 ·exact ⟨rfl, by simp, by simp [cntL]⟩
 ·rintro ⟨i, q⟩ ee3 ⟨hi, hq⟩
  simp only [List.cons_append, List.nil_append]
  dsimp only at hi hq
  refine den_seq ?_
  refine den_seq ?_
  refine den_region TTok ?_
  intro K hK
  simp -implicitDefEqProofs (disch := first | decide | assumption | omega) only [go_sem, RdS.len hv sl28, RdS.idx hv sl28, RdS.cellB hv (HPres.refl _), RdS.cells hv, wrap_id]
  refine hK _ _ ?_
  clear hK K
  refine den_cond rfl (fun c0 => ?_) (fun c0 => ?_)
  ·try simp only [decide_eq_true_eq, decide_eq_false_iff_not, beq_iff_eq, beq_eq_false_iff_ne, bne_iff_ne, ne_eq, Bool.not_eq_true', Bool.not_eq_false', Bool.and_eq_true, Bool.or_eq_true, bne_eq_false_iff_eq] at c0
   refine den_skip ?_
   refine den_seq ?_
   refine den_block ?_
   refine den_seq ?_
   have hct := cntL_take (ct := cnt3) R i (by omega)
   have hcl := cntL_le cnt3_nn R (i + 1)
   have hcn := cnt3_nn (R.getD i default)
   have hcn2 := cntL_nonneg cnt3_nn (R.take i)
   refine den_region TTok ?_
   intro K hK
   have hr4 := RdS.rowN hv i (by omega)
   have hlhr4 := RdS.le hr4
   simp -implicitDefEqProofs (disch := first | decide | assumption | omega) only [go_sem, ld23, RdS.len hv sl28, RdS.idx hv sl28, RdS.cellB hv (HPres.refl _), RdS.cells hv, RdS.len hr4 sl23, RdS.idx hr4 sl23, RdS.cellB hr4 (HPres.refl _), RdS.cells hr4, wrap_id]
   try simp -implicitDefEqProofs (disch := first | decide | assumption | omega) only [go_sem, wrap_id]
   have hr := RdS.rowN hv i (by omega)
   rw [markL_get R k i (by omega), ← hq] at hr
   refine CallA.pure (heldSSS_ok _ _ q _ hr (by have := cnt3_nn (R.getD i default); simp only [cnt3] at *; omega)) ?_
   try simp -implicitDefEqProofs (disch := first | decide | assumption | omega) only [go_sem, wrap_id]
   refine hK _ _ ?_
   clear hK K
   refine den_seq ?_
   refine den_region TTok ?_
   intro K hK
   simp -implicitDefEqProofs (disch := first | decide | assumption | omega) only [go_sem, wrap_id]
   refine hK _ _ ?_
   clear hK K
   refine den_cond rfl (fun c1 => ?_) (fun c1 => ?_)
   ·try simp only [decide_eq_true_eq, decide_eq_false_iff_not, beq_iff_eq, beq_eq_false_iff_ne, bne_iff_ne, ne_eq, Bool.not_eq_true', Bool.not_eq_false', Bool.and_eq_true, Bool.or_eq_true, bne_eq_false_iff_eq] at c1
    refine den_seq ?_
    refine den_region TTok ?_
    intro K hK
    simp -implicitDefEqProofs (disch := first | decide | assumption | omega) only [go_sem, wrap_id]
    refine hK _ _ ?_
    clear hK K
    refine den_ret ?_
    simp (disch := decide) only [resP_1, puts_same, puts_ne]
    exact absurd c1 (by have e : cntL cnt2 (R.getD i default) = cnt3 (R.getD i default) := rfl; omega)
   ·try simp only [decide_eq_true_eq, decide_eq_false_iff_not, beq_iff_eq, beq_eq_false_iff_ne, bne_iff_ne, ne_eq, Bool.not_eq_true', Bool.not_eq_false', Bool.and_eq_true, Bool.or_eq_true, bne_eq_false_iff_eq] at c1
    refine den_skip ?_
    refine den_blk ?_
    refine den_region TTok ?_
    intro K hK
    simp -implicitDefEqProofs (disch := first | decide | assumption | omega) only [go_sem, wrap_id]
    refine hK _ _ ?_
    clear hK K
    refine den_stop ?_
    exact ⟨(i + 1, q + cnt3 (R.getD i default)), by simp [HasL, puts_at], ⟨rfl, by dsimp only; omega, by dsimp only; omega⟩, by dsimp only; omega⟩
  ·try simp only [decide_eq_true_eq, decide_eq_false_iff_not, beq_iff_eq, beq_eq_false_iff_ne, bne_iff_ne, ne_eq, Bool.not_eq_true', Bool.not_eq_false', Bool.and_eq_true, Bool.or_eq_true, bne_eq_false_iff_eq] at c0
   refine den_exit ?_
   refine denX_code ?_
   refine denX_stop ?_
   refine denX_hit ?_
   refine den_seq ?_
   refine den_region TTok ?_
   intro K hK
   simp -implicitDefEqProofs (disch := first | decide | assumption | omega) only [go_sem, wrap_id]
   refine hK _ _ ?_
   clear hK K
   refine den_ret ?_
   simp (disch := decide) only [resP_1, puts_same, puts_ne]
   have ht : R.take i = R := List.take_of_length_le (by omega)
   rw [ht] at hq
   exact ⟨vint hq, trivial⟩

set_option maxRecDepth 100000 in
theorem eqD_same (v w : Value) (X : Db) (h : Heap) (rX : RD h v X) (rY : RD h w X) : CallA Try.prog 8 #[v, w] h fun u h' => u = .bool true ∧ Ext h h' := by
 obtain ⟨vdX, vaX, vbX, rfl, hdX, haX, hbX⟩ := rX
 obtain ⟨vdY, vaY, vbY, rfl, hdY, haY, hbY⟩ := rY
 refine callA_intro TTok (args := [_, _]) Try.func8 (by kernel_rfl) rfl 28 rfl (by simp) [.tmp 4] rfl ?_
 simp only [idxs, Nat.reduceAdd]
 refine den_seq ?_
 refine den_region TTok ?_
 intro K hK
 simp -implicitDefEqProofs (disch := first | decide | assumption | omega) only [go_sem, wrap_id]
 refine op_box (cs := #[.int .i64 (X.p), vdX, vaX, vbX]) rfl ?_
 intro h0_0 e0_0 hb0_0 z0_0
 have := Ext.size e0_0
 have eB := e0_0
 have hfhb0_0 : Fresh h.size [h.size] := Fresh.one _
 have hlhb0_0 := one_lt (show h.size < h0_0.size by omega)
 try simp -implicitDefEqProofs (disch := first | decide | assumption | omega) only [go_sem, wrap_id]
 refine op_box (cs := #[.int .i64 (X.p), vdY, vaY, vbY]) rfl ?_
 intro h0_1 e0_1 hb0_1 z0_1
 replace hb0_0 := BoxAt.ext hb0_0 e0_1
 have := Ext.size e0_1
 replace eB := Ext.trans eB e0_1
 have hfhb0_1 : Fresh h0_0.size [h0_0.size] := Fresh.one _
 have hlhb0_1 := one_lt (show h0_0.size < h0_1.size by omega)
 try simp -implicitDefEqProofs (disch := first | decide | assumption | omega) only [go_sem, wrap_id]
 refine hK _ _ ?_
 clear hK K
 refine den_seq ?_
 refine den_seq ?_
 refine den_region TTok ?_
 intro K hK
 simp -implicitDefEqProofs (disch := first | decide | assumption | omega) only [go_sem, fa30_0, ld2, RdS.len hdX sl27, RdS.idx hdX sl27, RdS.cellB hdX (Ext.pres eB), RdS.cells hdX, RdS.len haX sl28, RdS.idx haX sl28, RdS.cellB haX (Ext.pres eB), RdS.cells haX, RdS.len hbX sl28, RdS.idx hbX sl28, RdS.cellB hbX (Ext.pres eB), RdS.cells hbX, RdS.len hdY sl27, RdS.idx hdY sl27, RdS.cellB hdY (Ext.pres eB), RdS.cells hdY, RdS.len haY sl28, RdS.idx haY sl28, RdS.cellB haY (Ext.pres eB), RdS.cells haY, RdS.len hbY sl28, RdS.idx hbY sl28, RdS.cellB hbY (Ext.pres eB), RdS.cells hbY, BoxAt.cell hb0_0, BoxAt.cell hb0_1, wrap_id]
 refine hK _ _ ?_
 clear hK K
 refine den_cond rfl (fun c0 => ?_) (fun c0 => ?_)
 ·try simp only [decide_eq_true_eq, decide_eq_false_iff_not, beq_iff_eq, beq_eq_false_iff_ne, bne_iff_ne, ne_eq, Bool.not_eq_true', Bool.not_eq_false', Bool.and_eq_true, Bool.or_eq_true, bne_eq_false_iff_eq] at c0
  refine den_seq ?_
  refine den_region TTok ?_
  intro K hK
  simp -implicitDefEqProofs (disch := first | decide | assumption | omega) only [go_sem, wrap_id]
  refine hK _ _ ?_
  clear hK K
  refine den_ret ?_
  simp (disch := decide) only [resP_1, puts_same, puts_ne]
  exact absurd c0 (by simp)
 ·try simp only [decide_eq_true_eq, decide_eq_false_iff_not, beq_iff_eq, beq_eq_false_iff_ne, bne_iff_ne, ne_eq, Bool.not_eq_true', Bool.not_eq_false', Bool.and_eq_true, Bool.or_eq_true, bne_eq_false_iff_eq] at c0
  refine den_skip ?_
  refine den_seq ?_
  refine den_seq ?_
  refine den_region TTok ?_
  intro K hK
  simp -implicitDefEqProofs (disch := first | decide | assumption | omega) only [go_sem, fa30_1, ld27, RdS.len hdX sl27, RdS.idx hdX sl27, RdS.cellB hdX (Ext.pres eB), RdS.cells hdX, RdS.len haX sl28, RdS.idx haX sl28, RdS.cellB haX (Ext.pres eB), RdS.cells haX, RdS.len hbX sl28, RdS.idx hbX sl28, RdS.cellB hbX (Ext.pres eB), RdS.cells hbX, RdS.len hdY sl27, RdS.idx hdY sl27, RdS.cellB hdY (Ext.pres eB), RdS.cells hdY, RdS.len haY sl28, RdS.idx haY sl28, RdS.cellB haY (Ext.pres eB), RdS.cells haY, RdS.len hbY sl28, RdS.idx hbY sl28, RdS.cellB hbY (Ext.pres eB), RdS.cells hbY, BoxAt.cell hb0_0, BoxAt.cell hb0_1, wrap_id]
  try simp -implicitDefEqProofs (disch := first | decide | assumption | omega) only [go_sem, wrap_id]
  refine CallA.pure (eqSS_same _ _ _ _ (RdS.pres hdX (Ext.pres eB)) (RdS.pres hdY (Ext.pres eB))) ?_
  try simp -implicitDefEqProofs (disch := first | decide | assumption | omega) only [go_sem, wrap_id]
  refine hK _ _ ?_
  clear hK K
  refine den_cond rfl (fun c1 => ?_) (fun c1 => ?_)
  ·try simp only [decide_eq_true_eq, decide_eq_false_iff_not, beq_iff_eq, beq_eq_false_iff_ne, bne_iff_ne, ne_eq, Bool.not_eq_true', Bool.not_eq_false', Bool.and_eq_true, Bool.or_eq_true, bne_eq_false_iff_eq] at c1
   refine den_seq ?_
   refine den_region TTok ?_
   intro K hK
   simp -implicitDefEqProofs (disch := first | decide | assumption | omega) only [go_sem, wrap_id]
   refine hK _ _ ?_
   clear hK K
   refine den_ret ?_
   simp (disch := decide) only [resP_1, puts_same, puts_ne]
   exact absurd c1 (by simp)
  ·try simp only [decide_eq_true_eq, decide_eq_false_iff_not, beq_iff_eq, beq_eq_false_iff_ne, bne_iff_ne, ne_eq, Bool.not_eq_true', Bool.not_eq_false', Bool.and_eq_true, Bool.or_eq_true, bne_eq_false_iff_eq] at c1
   refine den_skip ?_
   refine den_seq ?_
   refine den_seq ?_
   refine den_region TTok ?_
   intro K hK
   simp -implicitDefEqProofs (disch := first | decide | assumption | omega) only [go_sem, fa30_2, ld28, RdS.len hdX sl27, RdS.idx hdX sl27, RdS.cellB hdX (Ext.pres eB), RdS.cells hdX, RdS.len haX sl28, RdS.idx haX sl28, RdS.cellB haX (Ext.pres eB), RdS.cells haX, RdS.len hbX sl28, RdS.idx hbX sl28, RdS.cellB hbX (Ext.pres eB), RdS.cells hbX, RdS.len hdY sl27, RdS.idx hdY sl27, RdS.cellB hdY (Ext.pres eB), RdS.cells hdY, RdS.len haY sl28, RdS.idx haY sl28, RdS.cellB haY (Ext.pres eB), RdS.cells haY, RdS.len hbY sl28, RdS.idx hbY sl28, RdS.cellB hbY (Ext.pres eB), RdS.cells hbY, BoxAt.cell hb0_0, BoxAt.cell hb0_1, wrap_id]
   try simp -implicitDefEqProofs (disch := first | decide | assumption | omega) only [go_sem, wrap_id]
   refine CallA.pure (eqSSSS_same _ _ _ _ (RdS.pres haX (Ext.pres eB)) (RdS.pres haY (Ext.pres eB))) ?_
   try simp -implicitDefEqProofs (disch := first | decide | assumption | omega) only [go_sem, wrap_id]
   refine hK _ _ ?_
   clear hK K
   refine den_cond rfl (fun c2 => ?_) (fun c2 => ?_)
   ·try simp only [decide_eq_true_eq, decide_eq_false_iff_not, beq_iff_eq, beq_eq_false_iff_ne, bne_iff_ne, ne_eq, Bool.not_eq_true', Bool.not_eq_false', Bool.and_eq_true, Bool.or_eq_true, bne_eq_false_iff_eq] at c2
    refine den_seq ?_
    refine den_region TTok ?_
    intro K hK
    simp -implicitDefEqProofs (disch := first | decide | assumption | omega) only [go_sem, wrap_id]
    refine hK _ _ ?_
    clear hK K
    refine den_ret ?_
    simp (disch := decide) only [resP_1, puts_same, puts_ne]
    exact absurd c2 (by simp)
   ·try simp only [decide_eq_true_eq, decide_eq_false_iff_not, beq_iff_eq, beq_eq_false_iff_ne, bne_iff_ne, ne_eq, Bool.not_eq_true', Bool.not_eq_false', Bool.and_eq_true, Bool.or_eq_true, bne_eq_false_iff_eq] at c2
    refine den_skip ?_
    refine den_seq ?_
    refine den_seq ?_
    refine den_region TTok ?_
    intro K hK
    simp -implicitDefEqProofs (disch := first | decide | assumption | omega) only [go_sem, fa30_3, ld28, RdS.len hdX sl27, RdS.idx hdX sl27, RdS.cellB hdX (Ext.pres eB), RdS.cells hdX, RdS.len haX sl28, RdS.idx haX sl28, RdS.cellB haX (Ext.pres eB), RdS.cells haX, RdS.len hbX sl28, RdS.idx hbX sl28, RdS.cellB hbX (Ext.pres eB), RdS.cells hbX, RdS.len hdY sl27, RdS.idx hdY sl27, RdS.cellB hdY (Ext.pres eB), RdS.cells hdY, RdS.len haY sl28, RdS.idx haY sl28, RdS.cellB haY (Ext.pres eB), RdS.cells haY, RdS.len hbY sl28, RdS.idx hbY sl28, RdS.cellB hbY (Ext.pres eB), RdS.cells hbY, BoxAt.cell hb0_0, BoxAt.cell hb0_1, wrap_id]
    try simp -implicitDefEqProofs (disch := first | decide | assumption | omega) only [go_sem, wrap_id]
    refine CallA.pure (eqSSSS_same _ _ _ _ (RdS.pres hbX (Ext.pres eB)) (RdS.pres hbY (Ext.pres eB))) ?_
    try simp -implicitDefEqProofs (disch := first | decide | assumption | omega) only [go_sem, wrap_id]
    refine hK _ _ ?_
    clear hK K
    refine den_cond rfl (fun c3 => ?_) (fun c3 => ?_)
    ·try simp only [decide_eq_true_eq, decide_eq_false_iff_not, beq_iff_eq, beq_eq_false_iff_ne, bne_iff_ne, ne_eq, Bool.not_eq_true', Bool.not_eq_false', Bool.and_eq_true, Bool.or_eq_true, bne_eq_false_iff_eq] at c3
     refine den_seq ?_
     refine den_region TTok ?_
     intro K hK
     simp -implicitDefEqProofs (disch := first | decide | assumption | omega) only [go_sem, wrap_id]
     refine hK _ _ ?_
     clear hK K
     refine den_ret ?_
     simp (disch := decide) only [resP_1, puts_same, puts_ne]
     exact absurd c3 (by simp)
    ·try simp only [decide_eq_true_eq, decide_eq_false_iff_not, beq_iff_eq, beq_eq_false_iff_ne, bne_iff_ne, ne_eq, Bool.not_eq_true', Bool.not_eq_false', Bool.and_eq_true, Bool.or_eq_true, bne_eq_false_iff_eq] at c3
     refine den_skip ?_
     refine den_seq ?_
     refine den_region TTok ?_
     intro K hK
     simp -implicitDefEqProofs (disch := first | decide | assumption | omega) only [go_sem, wrap_id]
     refine hK _ _ ?_
     clear hK K
     refine den_ret ?_
     simp (disch := decide) only [resP_1, puts_same, puts_ne]
     exact ⟨by first | rfl | trivial, eB⟩

set_option maxRecDepth 100000 in
theorem markD_ok (vd va vb : Value) (X : Db) (k : Int) (fd fa fb : List Nat) (h : Heap) (hod : O2 h vd X.dims fd) (hoa : O4 h va X.ac fa) (hob : O4 h vb X.dn fb) (hf : (fd ++ (fa ++ fb)).Nodup) (hk : 0 ≤ k ∧ 0 ≤ cntL cnt1 X.dims ∧ 0 ≤ cntL cnt3 X.ac ∧ 0 ≤ cntL cnt3 X.dn ∧ k + cntL cnt1 X.dims + cntL cnt3 X.ac + cntL cnt3 X.dn ≤ 4611686018427387904) : CallA Try.prog 11 #[.agg #[.int .i64 X.p, vd, va, vb], .int .i64 k] h fun u h' => u = .int .i64 (k + cntL cnt1 X.dims + cntL cnt3 X.ac + cntL cnt3 X.dn) ∧ O2 h' vd (mark2 X.dims (k)) fd ∧ O4 h' va (mark4 X.ac (k + cntL cnt1 X.dims)) fa ∧ O4 h' vb (mark4 X.dn (k + cntL cnt1 X.dims + cntL cnt3 X.ac)) fb ∧ Chg (fd ++ (fa ++ fb)) h h' := by
 have hF : Fresh 0 (fd ++ (fa ++ fb)) := ⟨hf, fun _ _ => Nat.zero_le _⟩
 have hfd := hF.left
 have hFr0 := hF.right
 have hfa := hFr0.left
 have hfb := hFr0.right
 have ap_d_a := Apart.lft (apart_nodup hF)
 have ap_d_b := Apart.rgt (apart_nodup hF)
 have ap_a_b := apart_nodup hFr0
 have hld := OS.lt hod
 have hla := OS.lt hoa
 have hlb := OS.lt hob
 refine callA_intro TTok (args := [_, _]) Try.func11 (by kernel_rfl) rfl 18 rfl (by simp) [.tmp 4] rfl ?_
 simp only [idxs, Nat.reduceAdd]
 refine den_seq ?_
 refine den_region TTok ?_
 intro K hK
 simp -implicitDefEqProofs (disch := first | decide | assumption | omega) only [go_sem, wrap_id]
 refine op_box (cs := #[.int .i64 (X.p), vd, va, vb]) rfl ?_
 intro h0_0 e0_0 hb0_0 z0_0
 replace hod := OS.ext hod e0_0
 replace hoa := OS.ext hoa e0_0
 replace hob := OS.ext hob e0_0
 have := Ext.size e0_0
 have eB := e0_0
 try simp -implicitDefEqProofs (disch := first | decide | assumption | omega) only [go_sem, wrap_id]
 refine hK _ _ ?_
 clear hK K
 refine den_seq ?_
 refine den_region TTok ?_
 intro K hK
 simp -implicitDefEqProofs (disch := first | decide | assumption | omega) only [go_sem, fa30_1, ld27, RdS.len (OS.rd hod) sl27, RdS.idx (OS.rd hod) sl27, RdS.cellN (OS.rd hod), RdS.cells (OS.rd hod), RdS.len (OS.rd hoa) sl28, RdS.idx (OS.rd hoa) sl28, RdS.cellN (OS.rd hoa), RdS.cells (OS.rd hoa), RdS.len (OS.rd hob) sl28, RdS.idx (OS.rd hob) sl28, RdS.cellN (OS.rd hob), RdS.cells (OS.rd hob), BoxAt.cell hb0_0, wrap_id]
 try simp -implicitDefEqProofs (disch := first | decide | assumption | omega) only [go_sem, wrap_id]
 refine CallA.mono (markSS_ok _ X.dims k _ _ hod hfd.nodup (by omega)) ?_
 intro v_ h1_3
 rintro ⟨rfl, hnd, cg0⟩
 replace hod := hnd
 replace hoa := OS.chg hoa cg0 (Apart.symm ap_d_a)
 replace hob := OS.chg hob cg0 (Apart.symm ap_d_b)
 replace hb0_0 := BoxAt.chg hb0_0 cg0 (fun hm => by have := hld _ hm; omega)
 have hsz0 := cg0.size
 try simp -implicitDefEqProofs (disch := first | decide | assumption | omega) only [go_sem, wrap_id]
 refine hK _ _ ?_
 clear hK K
 refine den_seq ?_
 refine den_region TTok ?_
 intro K hK
 simp -implicitDefEqProofs (disch := first | decide | assumption | omega) only [go_sem, fa30_2, ld28, RdS.len (OS.rd hod) sl27, RdS.idx (OS.rd hod) sl27, RdS.cellN (OS.rd hod), RdS.cells (OS.rd hod), RdS.len (OS.rd hoa) sl28, RdS.idx (OS.rd hoa) sl28, RdS.cellN (OS.rd hoa), RdS.cells (OS.rd hoa), RdS.len (OS.rd hob) sl28, RdS.idx (OS.rd hob) sl28, RdS.cellN (OS.rd hob), RdS.cells (OS.rd hob), BoxAt.cell hb0_0, wrap_id]
 try simp -implicitDefEqProofs (disch := first | decide | assumption | omega) only [go_sem, wrap_id]
 refine CallA.mono (markSSSS_ok _ X.ac (k + cntL cnt1 X.dims) _ _ hoa hfa.nodup (by omega)) ?_
 intro v_ h2_3
 rintro ⟨rfl, hna, cg1⟩
 replace hoa := hna
 replace hod := OS.chg hod cg1 ap_d_a
 replace hob := OS.chg hob cg1 (Apart.symm ap_a_b)
 replace hb0_0 := BoxAt.chg hb0_0 cg1 (fun hm => by have := hla _ hm; omega)
 have hsz1 := cg1.size
 try simp -implicitDefEqProofs (disch := first | decide | assumption | omega) only [go_sem, wrap_id]
 refine hK _ _ ?_
 clear hK K
 refine den_seq ?_
 refine den_region TTok ?_
 intro K hK
 simp -implicitDefEqProofs (disch := first | decide | assumption | omega) only [go_sem, fa30_3, ld28, RdS.len (OS.rd hod) sl27, RdS.idx (OS.rd hod) sl27, RdS.cellN (OS.rd hod), RdS.cells (OS.rd hod), RdS.len (OS.rd hoa) sl28, RdS.idx (OS.rd hoa) sl28, RdS.cellN (OS.rd hoa), RdS.cells (OS.rd hoa), RdS.len (OS.rd hob) sl28, RdS.idx (OS.rd hob) sl28, RdS.cellN (OS.rd hob), RdS.cells (OS.rd hob), BoxAt.cell hb0_0, wrap_id]
 try simp -implicitDefEqProofs (disch := first | decide | assumption | omega) only [go_sem, wrap_id]
 refine CallA.mono (markSSSS_ok _ X.dn (k + cntL cnt1 X.dims + cntL cnt3 X.ac) _ _ hob hfb.nodup (by omega)) ?_
 intro v_ h3_3
 rintro ⟨rfl, hnb, cg2⟩
 replace hob := hnb
 replace hod := OS.chg hod cg2 ap_d_b
 replace hoa := OS.chg hoa cg2 ap_a_b
 replace hb0_0 := BoxAt.chg hb0_0 cg2 (fun hm => by have := hlb _ hm; omega)
 have hsz2 := cg2.size
 try simp -implicitDefEqProofs (disch := first | decide | assumption | omega) only [go_sem, wrap_id]
 refine hK _ _ ?_
 clear hK K
 refine den_seq ?_
 refine den_region TTok ?_
 intro K hK
 simp -implicitDefEqProofs (disch := first | decide | assumption | omega) only [go_sem, wrap_id]
 refine hK _ _ ?_
 clear hK K
 refine den_ret ?_
 simp (disch := decide) only [resP_1, puts_same, puts_ne]
 exact ⟨by first | rfl | trivial, hod, hoa, hob, ((((eB.chg _).trans (cg0.mono (fun b hb => by grind))).trans (cg1.mono (fun b hb => by grind))).trans (cg2.mono (fun b hb => by grind)))⟩

set_option maxRecDepth 100000 in
theorem heldD_ok (vd va vb : Value) (X : Db) (k : Int) (h : Heap) (rd : R2 h vd (mark2 X.dims (k))) (ra : R4 h va (mark4 X.ac (k + cntL cnt1 X.dims))) (rb : R4 h vb (mark4 X.dn (k + cntL cnt1 X.dims + cntL cnt3 X.ac))) (hk : 0 ≤ k ∧ 0 ≤ cntL cnt1 X.dims ∧ 0 ≤ cntL cnt3 X.ac ∧ 0 ≤ cntL cnt3 X.dn ∧ k + cntL cnt1 X.dims + cntL cnt3 X.ac + cntL cnt3 X.dn ≤ 4611686018427387904) : CallA Try.prog 12 #[.agg #[.int .i64 X.p, vd, va, vb], .int .i64 k] h fun u h' => u = .int .i64 (k + cntL cnt1 X.dims + cntL cnt3 X.ac + cntL cnt3 X.dn) ∧ Ext h h' := by
 refine callA_intro TTok (args := [_, _]) Try.func12 (by kernel_rfl) rfl 24 rfl (by simp) [.tmp 4] rfl ?_
 simp only [idxs, Nat.reduceAdd]
 refine den_seq ?_
 refine den_region TTok ?_
 intro K hK
 simp -implicitDefEqProofs (disch := first | decide | assumption | omega) only [go_sem, wrap_id]
 refine op_box (cs := #[.int .i64 (X.p), vd, va, vb]) rfl ?_
 intro h0_0 e0_0 hb0_0 z0_0
 replace rd := RdS.pres rd (Ext.pres e0_0)
 replace ra := RdS.pres ra (Ext.pres e0_0)
 replace rb := RdS.pres rb (Ext.pres e0_0)
 try simp -implicitDefEqProofs (disch := first | decide | assumption | omega) only [go_sem, wrap_id]
 refine hK _ _ ?_
 clear hK K
 refine den_seq ?_
 refine den_region TTok ?_
 intro K hK
 simp -implicitDefEqProofs (disch := first | decide | assumption | omega) only [go_sem, fa30_1, ld27, RdS.len rd sl27, RdS.idx rd sl27, RdS.cellB rd (HPres.refl _), RdS.cells rd, RdS.len ra sl28, RdS.idx ra sl28, RdS.cellB ra (HPres.refl _), RdS.cells ra, RdS.len rb sl28, RdS.idx rb sl28, RdS.cellB rb (HPres.refl _), RdS.cells rb, BoxAt.cell hb0_0, wrap_id]
 try simp -implicitDefEqProofs (disch := first | decide | assumption | omega) only [go_sem, wrap_id]
 refine CallA.pure (heldSS_ok _ X.dims k _ rd (by omega)) ?_
 try simp -implicitDefEqProofs (disch := first | decide | assumption | omega) only [go_sem, wrap_id]
 refine hK _ _ ?_
 clear hK K
 refine den_seq ?_
 refine den_seq ?_
 refine den_region TTok ?_
 intro K hK
 simp -implicitDefEqProofs (disch := first | decide | assumption | omega) only [go_sem, wrap_id]
 refine hK _ _ ?_
 clear hK K
 refine den_cond rfl (fun c0 => ?_) (fun c0 => ?_)
 ·try simp only [decide_eq_true_eq, decide_eq_false_iff_not, beq_iff_eq, beq_eq_false_iff_ne, bne_iff_ne, ne_eq, Bool.not_eq_true', Bool.not_eq_false', Bool.and_eq_true, Bool.or_eq_true, bne_eq_false_iff_eq] at c0
  refine den_seq ?_
  refine den_region TTok ?_
  intro K hK
  simp -implicitDefEqProofs (disch := first | decide | assumption | omega) only [go_sem, wrap_id]
  refine hK _ _ ?_
  clear hK K
  refine den_ret ?_
  simp (disch := decide) only [resP_1, puts_same, puts_ne]
  exact absurd c0 (by omega)
 ·try simp only [decide_eq_true_eq, decide_eq_false_iff_not, beq_iff_eq, beq_eq_false_iff_ne, bne_iff_ne, ne_eq, Bool.not_eq_true', Bool.not_eq_false', Bool.and_eq_true, Bool.or_eq_true, bne_eq_false_iff_eq] at c0
  refine den_skip ?_
  refine den_seq ?_
  refine den_region TTok ?_
  intro K hK
  simp -implicitDefEqProofs (disch := first | decide | assumption | omega) only [go_sem, fa30_2, ld28, RdS.len rd sl27, RdS.idx rd sl27, RdS.cellB rd (HPres.refl _), RdS.cells rd, RdS.len ra sl28, RdS.idx ra sl28, RdS.cellB ra (HPres.refl _), RdS.cells ra, RdS.len rb sl28, RdS.idx rb sl28, RdS.cellB rb (HPres.refl _), RdS.cells rb, BoxAt.cell hb0_0, wrap_id]
  try simp -implicitDefEqProofs (disch := first | decide | assumption | omega) only [go_sem, wrap_id]
  refine CallA.pure (heldSSSS_ok _ X.ac (k + cntL cnt1 X.dims) _ ra (by omega)) ?_
  try simp -implicitDefEqProofs (disch := first | decide | assumption | omega) only [go_sem, wrap_id]
  refine hK _ _ ?_
  clear hK K
  refine den_seq ?_
  refine den_seq ?_
  refine den_region TTok ?_
  intro K hK
  simp -implicitDefEqProofs (disch := first | decide | assumption | omega) only [go_sem, wrap_id]
  refine hK _ _ ?_
  clear hK K
  refine den_cond rfl (fun c1 => ?_) (fun c1 => ?_)
  ·try simp only [decide_eq_true_eq, decide_eq_false_iff_not, beq_iff_eq, beq_eq_false_iff_ne, bne_iff_ne, ne_eq, Bool.not_eq_true', Bool.not_eq_false', Bool.and_eq_true, Bool.or_eq_true, bne_eq_false_iff_eq] at c1
   refine den_seq ?_
   refine den_region TTok ?_
   intro K hK
   simp -implicitDefEqProofs (disch := first | decide | assumption | omega) only [go_sem, wrap_id]
   refine hK _ _ ?_
   clear hK K
   refine den_ret ?_
   simp (disch := decide) only [resP_1, puts_same, puts_ne]
   exact absurd c1 (by omega)
  ·try simp only [decide_eq_true_eq, decide_eq_false_iff_not, beq_iff_eq, beq_eq_false_iff_ne, bne_iff_ne, ne_eq, Bool.not_eq_true', Bool.not_eq_false', Bool.and_eq_true, Bool.or_eq_true, bne_eq_false_iff_eq] at c1
   refine den_skip ?_
   refine den_seq ?_
   refine den_region TTok ?_
   intro K hK
   simp -implicitDefEqProofs (disch := first | decide | assumption | omega) only [go_sem, fa30_3, ld28, RdS.len rd sl27, RdS.idx rd sl27, RdS.cellB rd (HPres.refl _), RdS.cells rd, RdS.len ra sl28, RdS.idx ra sl28, RdS.cellB ra (HPres.refl _), RdS.cells ra, RdS.len rb sl28, RdS.idx rb sl28, RdS.cellB rb (HPres.refl _), RdS.cells rb, BoxAt.cell hb0_0, wrap_id]
   try simp -implicitDefEqProofs (disch := first | decide | assumption | omega) only [go_sem, wrap_id]
   refine CallA.pure (heldSSSS_ok _ X.dn (k + cntL cnt1 X.dims + cntL cnt3 X.ac) _ rb (by omega)) ?_
   try simp -implicitDefEqProofs (disch := first | decide | assumption | omega) only [go_sem, wrap_id]
   refine hK _ _ ?_
   clear hK K
   refine den_seq ?_
   refine den_seq ?_
   refine den_region TTok ?_
   intro K hK
   simp -implicitDefEqProofs (disch := first | decide | assumption | omega) only [go_sem, wrap_id]
   refine hK _ _ ?_
   clear hK K
   refine den_cond rfl (fun c2 => ?_) (fun c2 => ?_)
   ·try simp only [decide_eq_true_eq, decide_eq_false_iff_not, beq_iff_eq, beq_eq_false_iff_ne, bne_iff_ne, ne_eq, Bool.not_eq_true', Bool.not_eq_false', Bool.and_eq_true, Bool.or_eq_true, bne_eq_false_iff_eq] at c2
    refine den_seq ?_
    refine den_region TTok ?_
    intro K hK
    simp -implicitDefEqProofs (disch := first | decide | assumption | omega) only [go_sem, wrap_id]
    refine hK _ _ ?_
    clear hK K
    refine den_ret ?_
    simp (disch := decide) only [resP_1, puts_same, puts_ne]
    exact absurd c2 (by omega)
   ·try simp only [decide_eq_true_eq, decide_eq_false_iff_not, beq_iff_eq, beq_eq_false_iff_ne, bne_iff_ne, ne_eq, Bool.not_eq_true', Bool.not_eq_false', Bool.and_eq_true, Bool.or_eq_true, bne_eq_false_iff_eq] at c2
    refine den_skip ?_
    refine den_seq ?_
    refine den_region TTok ?_
    intro K hK
    simp -implicitDefEqProofs (disch := first | decide | assumption | omega) only [go_sem, wrap_id]
    refine hK _ _ ?_
    clear hK K
    refine den_ret ?_
    simp (disch := decide) only [resP_1, puts_same, puts_ne]
    exact ⟨by first | rfl | trivial, e0_0⟩
end Go.Proofs.Ytkdnnfkdgmblgaa

namespace Go.Proofs.Ytkdnnfkdgmblgaa
open Go
theorem dimP_at {X : Cx} {k : Nat} (h : k < X.dims.length) : dimP X (k : Int) = X.dims.getD k 0 := by
 rw [dimP, if_pos (in3_iff.2 ⟨by omega, by omega⟩)]; rfl
end Go.Proofs.Ytkdnnfkdgmblgaa

namespace Go.Proofs.Ytkdnnfkdgmblgaa
open Go
abbrev M3 := List (List (List Int))
def get3 (M : M3) (k r c : Nat) : Int := ((M.getD k default).getD r default).getD c 0
/-- How long a table of tables is, row by row. -/
structure Sh (L : Nat) (A B : Nat → Nat) (M : M3) : Prop where
 len : M.length = L
 rows : ∀ k, k < L → (M.getD k default).length = A k
 cols : ∀ k r, k < L → r < A k → ((M.getD k default).getD r default).length = B k
theorem Sh.ext {L : Nat} {A B : Nat → Nat} {M N : M3} (s : Sh L A B M) (t : Sh L A B N) (h : ∀ k r c, k < L → r < A k → c < B k → get3 M k r c = get3 N k r c) : M = N := by
 have g3 : ∀ {α : Type} [Inhabited α] {xs ys : List α}, xs.length = ys.length → (∀ i, i < xs.length → xs.getD i default = ys.getD i default) → xs = ys := by
  intro α _ xs ys hl hh
  apply List.ext_getElem hl
  intro i h1 h2
  have := hh i h1
  rwa [List.getD_eq_getElem?_getD, List.getD_eq_getElem?_getD, List.getElem?_eq_getElem h1, List.getElem?_eq_getElem h2] at this
 refine g3 (by rw [s.len, t.len]) (fun k hk => ?_)
 rw [s.len] at hk
 refine g3 (by rw [s.rows k hk, t.rows k hk]) (fun r hr => ?_)
 rw [s.rows k hk] at hr
 refine g3 (by rw [s.cols k r hk hr, t.cols k r hk hr]) (fun c hc => ?_)
 rw [s.cols k r hk hr] at hc
 exact h k r c hk hr hc
def In3 (p : Int) (L : Nat) (A B : Nat → Nat) (M : M3) : Prop := ∀ k r c, k < L → r < A k → c < B k → 0 ≤ get3 M k r c ∧ get3 M k r c < p
abbrev Upd := (Nat × Nat × Nat) × Int
-- the updates of all numbers of a complex's maps
abbrev UF := Nat → Nat → Nat → Int → List Upd
end Go.Proofs.Ytkdnnfkdgmblgaa

namespace Go.Proofs.Ytkdnnfkdgmblgaa
open Go
theorem OS.isSl {α : Type} {e : TypeId} {E : Heap → Value → α → List Nat → Prop} {h : Heap} {v : Value} {xs : List α} {fp : List Nat} (ho : OS e E h v xs fp) : ∃ A n c, v = .slice A n c := by
 rcases ho with ⟨rfl, _⟩ | ⟨b, c, cur, fps, rfl, r⟩
 ·exact ⟨_, _, _, rfl⟩
 ·exact ⟨_, _, _, r.val⟩
theorem getD_map_range {α : Type} [Inhabited α] (f : Nat → α) {n k : Nat} (h : k < n) : ((List.range n).map f).getD k default = f k := by
 rw [List.getD_eq_getElem?_getD, List.getElem?_eq_getElem (by simpa using h)]; simp
end Go.Proofs.Ytkdnnfkdgmblgaa

namespace Go.Proofs.Ytkdnnfkdgmblgaa
open Go
/-- A function that is called for each number updates a table of one's own. -/
structure ORel (p : Int) (h0 : Heap) (vw : Value) (fw : List Nat) (L : Nat) (A B : Nat → Nat) (Ot : Heap → Prop) (s : M3) (H : Heap) : Prop where
 o : O3 H vw s fw
 sh : Sh L A B s
 i3 : In3 p L A B s
 e : Ext h0 H
 ot : Ot H
section
variable {U : UF} {τ : Nat → Nat → Nat → Nat × Nat × Nat} {ω : Nat → Nat → Nat → Int → Int}
end
/-- Number j of row i of map k. -/
theorem IsC.num {X : Cx} (hC : IsC X) {k i j : Nat} (hk : k < X.maps.length) (hi : i < (X.maps.getD k default).length) (hj : j < ((X.maps.getD k default).getD i default).length) : 0 ≤ ((X.maps.getD k default).getD i default).getD j 0 ∧ ((X.maps.getD k default).getD i default).getD j 0 < X.p := ((tableP_iff.1 (hC.tb k hk)).2.at hi).2.at hj
theorem IsC.lens {X : Cx} (hC : IsC X) {k : Nat} (hk : k < X.maps.length) : ((X.maps.getD k default).length : Int) = X.dims.getD (k + 1) 0 ∧ ∀ i, i < (X.maps.getD k default).length → (((X.maps.getD k default).getD i default).length : Int) = X.dims.getD k 0 := by
 have t := tableP_iff.1 (hC.tb k hk)
 rw [show ((k : Int) + 1).toNat = k + 1 by omega] at t
 exact ⟨t.1, fun i hi => (t.2.at hi).1⟩
end Go.Proofs.Ytkdnnfkdgmblgaa

namespace Go.Proofs.Ytkdnnfkdgmblgaa
open Go
def mapP (X : Cx) (n : Int) : List (List Int) := if in3 n 1 ((X.dims.length : Int) - 1) = true then X.maps.getD (n - 1).toNat default else List.replicate (dimP X n).toNat []
set_option maxRecDepth 100000 in
theorem sMap_ok (vX : Value) (X : Cx) (n : Int) (h : Heap) (rX : RC h vX X) (hC : IsC X) : CallA Try.prog 42 #[vX, .int .i64 n] h fun v' h' => ∃ w0, v' = w0 ∧ R2 h' w0 (mapP X n) ∧ Ext h h' := by
 obtain ⟨vdX, vmX, rfl, hdX, hmX⟩ := rX
 have hledX := RdS.le hdX
 have hlemX := RdS.le hmX
 have hml := hC.ml
 have hdb := dimP_bnd hC n
 refine callA_intro TTok (args := [_, _]) Try.func42 (by kernel_rfl) rfl 32 rfl (by simp) [.tmp 4] rfl ?_
 simp only [idxs, Nat.reduceAdd]
 refine den_seq ?_
 refine den_region TTok ?_
 intro K hK
 simp -implicitDefEqProofs (disch := first | decide | assumption | omega) only [go_sem, RdS.len hdX sl22, RdS.idx hdX sl22, R1.intB hdX (HPres.refl _), RdS.cells hdX, RdS.len hmX sl23, RdS.idx hmX sl23, RdS.cellB hmX (HPres.refl _), RdS.cells hmX, wrap_id]
 refine op_box (cs := #[.int .i64 (X.p), vdX, vmX]) rfl ?_
 intro h0_0 e0_0 hb0_0 z0_0
 have := Ext.size e0_0
 have eB := e0_0
 have hfhb0_0 : Fresh h.size [h.size] := Fresh.one _
 have hlhb0_0 := one_lt (show h.size < h0_0.size by omega)
 try simp -implicitDefEqProofs (disch := first | decide | assumption | omega) only [go_sem, RdS.len hdX sl22, RdS.idx hdX sl22, R1.intB hdX (Ext.pres eB), RdS.cells hdX, RdS.len hmX sl23, RdS.idx hmX sl23, RdS.cellB hmX (Ext.pres eB), RdS.cells hmX, BoxAt.cell hb0_0, wrap_id]
 refine hK _ _ ?_
 clear hK K
 refine den_seq ?_
 refine den_seq ?_
 refine den_region TTok ?_
 intro K hK
 simp -implicitDefEqProofs (disch := first | decide | assumption | omega) only [go_sem, fa33_1, ld22, RdS.len hdX sl22, RdS.idx hdX sl22, R1.intB hdX (Ext.pres eB), RdS.cells hdX, RdS.len hmX sl23, RdS.idx hmX sl23, RdS.cellB hmX (Ext.pres eB), RdS.cells hmX, BoxAt.cell hb0_0, wrap_id]
 try simp -implicitDefEqProofs (disch := first | decide | assumption | omega) only [go_sem, RdS.len hdX sl22, RdS.idx hdX sl22, R1.intB hdX (Ext.pres eB), RdS.cells hdX, RdS.len hmX sl23, RdS.idx hmX sl23, RdS.cellB hmX (Ext.pres eB), RdS.cells hmX, BoxAt.cell hb0_0, wrap_id]
 refine CallA.pure (sIn_ok _ _ _ _) ?_
 try simp -implicitDefEqProofs (disch := first | decide | assumption | omega) only [go_sem, RdS.len hdX sl22, RdS.idx hdX sl22, R1.intB hdX (Ext.pres eB), RdS.cells hdX, RdS.len hmX sl23, RdS.idx hmX sl23, RdS.cellB hmX (Ext.pres eB), RdS.cells hmX, BoxAt.cell hb0_0, wrap_id]
 refine hK _ _ ?_
 clear hK K
 refine den_cond rfl (fun c0 => ?_) (fun c0 => ?_)
 ·try simp only [decide_eq_true_eq, decide_eq_false_iff_not, beq_iff_eq, beq_eq_false_iff_ne, bne_iff_ne, ne_eq, Bool.not_eq_true', Bool.not_eq_false', Bool.and_eq_true, Bool.or_eq_true, bne_eq_false_iff_eq, in3_iff, in3_f] at c0
  refine den_seq ?_
  refine den_region TTok ?_
  intro K hK
  have hr1 := RdS.rowN hmX ((n - (1 : Int))).toNat (by omega)
  have hlhr1 := RdS.le hr1
  simp -implicitDefEqProofs (disch := first | decide | assumption | omega) only [go_sem, fa33_2, ld23, ld27, RdS.len hdX sl22, RdS.idx hdX sl22, R1.intB hdX (Ext.pres eB), RdS.cells hdX, RdS.len hmX sl23, RdS.idx hmX sl23, RdS.cellB hmX (Ext.pres eB), RdS.cells hmX, RdS.len hr1 sl27, RdS.idx hr1 sl27, RdS.cellB hr1 (Ext.pres eB), RdS.cells hr1, BoxAt.cell hb0_0, wrap_id]
  refine hK _ _ ?_
  clear hK K
  refine den_ret ?_
  simp (disch := decide) only [resP_1, puts_same, puts_ne]
  exact ⟨_, rfl, by rw [mapP, if_pos (in3_iff.2 c0)]; exact RdS.pres (RdS.rowN hmX _ (by omega)) (Ext.pres eB), eB⟩
 ·try simp only [decide_eq_true_eq, decide_eq_false_iff_not, beq_iff_eq, beq_eq_false_iff_ne, bne_iff_ne, ne_eq, Bool.not_eq_true', Bool.not_eq_false', Bool.and_eq_true, Bool.or_eq_true, bne_eq_false_iff_eq, in3_iff, in3_f] at c0
  refine den_skip ?_
  refine den_seq ?_
  refine den_region TTok ?_
  intro K hK
  simp -implicitDefEqProofs (disch := first | decide | assumption | omega) only [go_sem, RdS.len hdX sl22, RdS.idx hdX sl22, R1.intB hdX (Ext.pres eB), RdS.cells hdX, RdS.len hmX sl23, RdS.idx hmX sl23, RdS.cellB hmX (Ext.pres eB), RdS.cells hmX, BoxAt.cell hb0_0, wrap_id]
  refine op_bs0 sz27 O1 ?_
  intro v3_0 h3_0 ho3_0 e3_0
  replace hb0_0 := BoxAt.ext hb0_0 e3_0
  have := Ext.size e3_0
  replace eB := Ext.trans eB e3_0
  have hfho3_0 : Fresh h0_0.size [h0_0.size] := Fresh.one _
  have hlho3_0 := OS.lt ho3_0
  try simp -implicitDefEqProofs (disch := first | decide | assumption | omega) only [go_sem, RdS.len hdX sl22, RdS.idx hdX sl22, R1.intB hdX (Ext.pres eB), RdS.cells hdX, RdS.len hmX sl23, RdS.idx hmX sl23, RdS.cellB hmX (Ext.pres eB), RdS.cells hmX, RdS.len (OS.rd ho3_0) sl27, RdS.idx (OS.rd ho3_0) sl27, RdS.cellN (OS.rd ho3_0), RdS.cells (OS.rd ho3_0), BoxAt.cell hb0_0, wrap_id]
  refine hK _ _ ?_
  clear hK K
  refine den_seq ?_
  refine den_seq ?_
  refine den_region TTok ?_
  intro K hK
  simp -implicitDefEqProofs (disch := first | decide | assumption | omega) only [go_sem, RdS.len hdX sl22, RdS.idx hdX sl22, R1.intB hdX (Ext.pres eB), RdS.cells hdX, RdS.len hmX sl23, RdS.idx hmX sl23, RdS.cellB hmX (Ext.pres eB), RdS.cells hmX, RdS.len (OS.rd ho3_0) sl27, RdS.idx (OS.rd ho3_0) sl27, RdS.cellN (OS.rd ho3_0), RdS.cells (OS.rd ho3_0), BoxAt.cell hb0_0, wrap_id]
  refine hK _ _ ?_
  clear hK K
  refine den_block ?_
  refine den_sel [5, 6, 1, 2] ?_
  intro env_2
  simp only [go_sem]
  refine den_loopS (σ := Nat × Value × List Nat) (fun st_ => [(5, st_.2.1), (6, .int .i64 (st_.1 : Int))]) (fun st_ H => ((st_.1 : Int) ≤ dimP X n) ∧ (O2 H st_.2.1 (List.replicate st_.1 []) st_.2.2) ∧ (Fresh (h0_0.size) st_.2.2) ∧ (Sub [h0_0.size] h3_0.size st_.2.2) ∧ (Chg [h0_0.size] h3_0 H)) (fun st_ => (dimP X n).toNat - st_.1) (0, v3_0, [h0_0.size]) ?_ ?_
  ·exact ⟨by first | (simp; done) | (dsimp only; omega) | (simp; omega), by simpa using ho3_0, hfho3_0, Sub.refl, Chg.refl _ _⟩
  ·rintro ⟨k, vhI, fphI⟩ h5 ee4 ⟨hi0, hI, hfhI, sbhI, cL3⟩
   dsimp only at hi0 hI hfhI sbhI cL3
   replace hb0_0 := BoxAt.chgA hb0_0 cL3 (apart_lt hlhb0_0 hfho3_0 (by omega))
   have := cL3.size
   replace eB := Ext.then eB cL3 (ge_of hfho3_0 (by omega))
   have hlhI := OS.lt hI
   simp only [List.cons_append, List.nil_append]
   have hlr : (List.replicate k ([] : List Int)).length = k := List.length_replicate
   refine den_seq ?_
   refine den_seq ?_
   refine den_region TTok ?_
   intro K hK
   simp -implicitDefEqProofs (disch := first | decide | assumption | omega) only [go_sem, ld33, RdS.len hdX sl22, RdS.idx hdX sl22, R1.intB hdX (Ext.pres eB), RdS.cells hdX, RdS.len hmX sl23, RdS.idx hmX sl23, RdS.cellB hmX (Ext.pres eB), RdS.cells hmX, RdS.len (OS.rd hI) sl27, RdS.idx (OS.rd hI) sl27, RdS.cellN (OS.rd hI), RdS.cells (OS.rd hI), BoxAt.cell hb0_0, wrap_id]
   try simp -implicitDefEqProofs (disch := first | decide | assumption | omega) only [go_sem, RdS.len hdX sl22, RdS.idx hdX sl22, R1.intB hdX (Ext.pres eB), RdS.cells hdX, RdS.len hmX sl23, RdS.idx hmX sl23, RdS.cellB hmX (Ext.pres eB), RdS.cells hmX, RdS.len (OS.rd hI) sl27, RdS.idx (OS.rd hI) sl27, RdS.cellN (OS.rd hI), RdS.cells (OS.rd hI), BoxAt.cell hb0_0, wrap_id]
   refine CallA.mono (sDim_ok _ X _ _ ⟨_, _, rfl, (RdS.pres hdX (Ext.pres eB)), (RdS.pres hmX (Ext.pres eB))⟩) ?_
   intro v_ h5_3
   rintro ⟨rfl, e5_3⟩
   replace hI := OS.ext hI e5_3
   replace hb0_0 := BoxAt.ext hb0_0 e5_3
   have := Ext.size e5_3
   replace eB := Ext.trans eB e5_3
   replace cL3 := Chg.stepE cL3 e5_3
   try simp -implicitDefEqProofs (disch := first | decide | assumption | omega) only [go_sem, RdS.len hdX sl22, RdS.idx hdX sl22, R1.intB hdX (Ext.pres eB), RdS.cells hdX, RdS.len hmX sl23, RdS.idx hmX sl23, RdS.cellB hmX (Ext.pres eB), RdS.cells hmX, RdS.len (OS.rd hI) sl27, RdS.idx (OS.rd hI) sl27, RdS.cellN (OS.rd hI), RdS.cells (OS.rd hI), BoxAt.cell hb0_0, wrap_id]
   refine hK _ _ ?_
   clear hK K
   refine den_cond rfl (fun c1 => ?_) (fun c1 => ?_)
   ·try simp only [decide_eq_true_eq, decide_eq_false_iff_not, beq_iff_eq, beq_eq_false_iff_ne, bne_iff_ne, ne_eq, Bool.not_eq_true', Bool.not_eq_false', Bool.and_eq_true, Bool.or_eq_true, bne_eq_false_iff_eq, in3_iff, in3_f] at c1
    refine den_skip ?_
    refine den_seq ?_
    refine den_block ?_
    refine den_region TTok ?_
    intro K hK
    simp -implicitDefEqProofs (disch := first | decide | assumption | omega) only [go_sem, RdS.len hdX sl22, RdS.idx hdX sl22, R1.intB hdX (Ext.pres eB), RdS.cells hdX, RdS.len hmX sl23, RdS.idx hmX sl23, RdS.cellB hmX (Ext.pres eB), RdS.cells hmX, RdS.len (OS.rd hI) sl27, RdS.idx (OS.rd hI) sl27, RdS.cellN (OS.rd hI), RdS.cells (OS.rd hI), BoxAt.cell hb0_0, wrap_id]
    refine op_bs0 sz22 OI ?_
    intro v7_1 h7_1 ho7_1 e7_1
    replace hI := OS.ext hI e7_1
    replace hb0_0 := BoxAt.ext hb0_0 e7_1
    have := Ext.size e7_1
    replace eB := Ext.trans eB e7_1
    replace cL3 := Chg.stepE cL3 e7_1
    have hfho7_1 : Fresh h5_3.size [h5_3.size] := Fresh.one _
    have hlho7_1 := OS.lt ho7_1
    try simp -implicitDefEqProofs (disch := first | decide | assumption | omega) only [go_sem, RdS.len hdX sl22, RdS.idx hdX sl22, R1.intB hdX (Ext.pres eB), RdS.cells hdX, RdS.len hmX sl23, RdS.idx hmX sl23, RdS.cellB hmX (Ext.pres eB), RdS.cells hmX, RdS.len (OS.rd hI) sl27, RdS.idx (OS.rd hI) sl27, RdS.cellN (OS.rd hI), RdS.cells (OS.rd hI), RdS.len (OS.rd ho7_1) sl22, RdS.idx (OS.rd ho7_1) sl22, R1.intN (OS.rd ho7_1), RdS.cells (OS.rd ho7_1), BoxAt.cell hb0_0, wrap_id]
    refine op_bs1 sz27 rfl (OS.one ho7_1).2 ?_
    try simp -implicitDefEqProofs (disch := first | decide | assumption | omega) only [go_sem, RdS.len hdX sl22, RdS.idx hdX sl22, R1.intB hdX (Ext.pres eB), RdS.cells hdX, RdS.len hmX sl23, RdS.idx hmX sl23, RdS.cellB hmX (Ext.pres eB), RdS.cells hmX, RdS.len (OS.rd hI) sl27, RdS.idx (OS.rd hI) sl27, RdS.cellN (OS.rd hI), RdS.cells (OS.rd hI), RdS.len (OS.rd ho7_1) sl22, RdS.idx (OS.rd ho7_1) sl22, R1.intN (OS.rd ho7_1), RdS.cells (OS.rd ho7_1), BoxAt.cell hb0_0, wrap_id]
    refine op_append1 sz27 hI hfhI.nodup ho7_1 hfho7_1.nodup (apart_lt hlhI hfho7_1 (by omega)) (by first | omega | (simp; omega)) rfl rfl ?_
    intro v7_3 h7_3 fp7_3 ho7_3 hn7_3 hs7_3 c7_3
    have hsz7_3 := c7_3.size
    have hfho7_3 : Fresh h0_0.size fp7_3 := Fresh.appd hfhI hfho7_1 (by omega) (by omega) hn7_3 hs7_3
    have sb6 : Sub [h0_0.size] h3_0.size fp7_3 := Sub.grow sbhI (Sub.fresh hfho7_1 (by omega)) (by omega) hs7_3
    replace hb0_0 := BoxAt.chgA hb0_0 c7_3 (apart_lt hlhb0_0 hfhI (by omega))
    have := c7_3.size
    replace eB := Ext.then eB c7_3 (ge_of hfhI (by omega))
    replace cL3 := Chg.step cL3 c7_3 sbhI
    have hlho7_3 := OS.lt ho7_3
    try simp -implicitDefEqProofs (disch := first | decide | assumption | omega) only [go_sem, RdS.len hdX sl22, RdS.idx hdX sl22, R1.intB hdX (Ext.pres eB), RdS.cells hdX, RdS.len hmX sl23, RdS.idx hmX sl23, RdS.cellB hmX (Ext.pres eB), RdS.cells hmX, RdS.len (OS.rd ho7_3) sl27, RdS.idx (OS.rd ho7_3) sl27, RdS.cellN (OS.rd ho7_3), RdS.cells (OS.rd ho7_3), BoxAt.cell hb0_0, wrap_id]
    refine hK _ _ ?_
    clear hK K
    refine den_blk ?_
    refine den_region TTok ?_
    intro K hK
    simp -implicitDefEqProofs (disch := first | decide | assumption | omega) only [go_sem, RdS.len hdX sl22, RdS.idx hdX sl22, R1.intB hdX (Ext.pres eB), RdS.cells hdX, RdS.len hmX sl23, RdS.idx hmX sl23, RdS.cellB hmX (Ext.pres eB), RdS.cells hmX, RdS.len (OS.rd ho7_3) sl27, RdS.idx (OS.rd ho7_3) sl27, RdS.cellN (OS.rd ho7_3), RdS.cells (OS.rd ho7_3), BoxAt.cell hb0_0, wrap_id]
    refine hK _ _ ?_
    clear hK K
    refine den_stop ?_
    rw [← List.replicate_succ'] at ho7_3
    exact ⟨(k + 1, v7_3, fp7_3), by simp [HasL, puts_at], ⟨by first | omega | (dsimp only; omega), ho7_3, hfho7_3, sb6, cL3⟩, by first | omega | (dsimp only; omega)⟩
   ·try simp only [decide_eq_true_eq, decide_eq_false_iff_not, beq_iff_eq, beq_eq_false_iff_ne, bne_iff_ne, ne_eq, Bool.not_eq_true', Bool.not_eq_false', Bool.and_eq_true, Bool.or_eq_true, bne_eq_false_iff_eq, in3_iff, in3_f] at c1
    refine den_exit ?_
    refine denX_code ?_
    refine denX_stop ?_
    refine denX_hit ?_
    refine den_seq ?_
    refine den_region TTok ?_
    intro K hK
    simp -implicitDefEqProofs (disch := first | decide | assumption | omega) only [go_sem, RdS.len hdX sl22, RdS.idx hdX sl22, R1.intB hdX (Ext.pres eB), RdS.cells hdX, RdS.len hmX sl23, RdS.idx hmX sl23, RdS.cellB hmX (Ext.pres eB), RdS.cells hmX, RdS.len (OS.rd hI) sl27, RdS.idx (OS.rd hI) sl27, RdS.cellN (OS.rd hI), RdS.cells (OS.rd hI), wrap_id]
    refine hK _ _ ?_
    clear hK K
    refine den_ret ?_
    simp (disch := decide) only [resP_1, puts_same, puts_ne]
    have e : (dimP X n).toNat = k := by omega
    exact ⟨_, rfl, by rw [mapP, if_neg (by rw [in3_iff]; omega), e]; exact OS.rd hI, eB⟩
end Go.Proofs.Ytkdnnfkdgmblgaa

namespace Go.Proofs.Ytkdnnfkdgmblgaa
open Go
set_option maxRecDepth 100000 in
theorem sMod_ok (p : Int) (x : Int) (h : Heap)  (hp : 0 < p ∧ p ≤ 7) (hx : -1000000 ≤ x ∧ x ≤ 1000000) : CallA Try.prog 64 #[.int .i64 p, .int .i64 x] h fun v' h' => v' = .int .i64 (x % p) ∧ Ext h h' := by
 have htm := tmod_in (x := x) hp.1
 refine callA_intro TTok (args := [_, _]) Try.func64 (by kernel_rfl) rfl 12 rfl (by simp) [.tmp 4] rfl ?_
 simp only [idxs, Nat.reduceAdd]
 refine den_seq ?_
 refine den_region TTok ?_
 intro K hK
 simp -implicitDefEqProofs (disch := first | decide | assumption | omega) only [go_sem, wrap_id]
 refine hK _ _ ?_
 clear hK K
 refine den_seq ?_
 refine den_region TTok ?_
 intro K hK
 simp -implicitDefEqProofs (disch := first | decide | assumption | omega) only [go_sem, wrap_id]
 refine hK _ _ ?_
 clear hK K
 refine den_ret ?_
 simp (disch := decide) only [resP_1, puts_same, puts_ne]
 exact ⟨vint (mod_twice hp.1), (Ext.refl _)⟩

set_option maxRecDepth 100000 in
theorem iSign_ok (k : Int) (h : Heap)  (hk : -1000 ≤ k ∧ k ≤ 1000) : CallA Try.prog 24 #[.int .i64 k] h fun v' h' => v' = .int .i64 (1 - k.tmod 2 * 2) ∧ Ext h h' := by
 have htm := tmod_in (p := 2) (x := k) (by decide)
 refine callA_intro TTok (args := [_]) Try.func24 (by kernel_rfl) rfl 7 rfl (by simp) [.tmp 2] rfl ?_
 simp only [idxs, Nat.reduceAdd]
 refine den_seq ?_
 refine den_region TTok ?_
 intro K hK
 simp -implicitDefEqProofs (disch := first | decide | assumption | omega) only [go_sem, wrap_id]
 refine hK _ _ ?_
 clear hK K
 refine den_seq ?_
 refine den_region TTok ?_
 intro K hK
 simp -implicitDefEqProofs (disch := first | decide | assumption | omega) only [go_sem, wrap_id]
 refine hK _ _ ?_
 clear hK K
 refine den_ret ?_
 simp (disch := decide) only [resP_1, puts_same, puts_ne]
 exact ⟨by first | rfl | trivial, (Ext.refl _)⟩
end Go.Proofs.Ytkdnnfkdgmblgaa

namespace Go.Proofs.Ytkdnnfkdgmblgaa
open Go
/-- A row whose places are set one after another. -/
def stR (z : List Int) (g f : Nat → Int) : Nat → List Int
 | 0 => z
 | c + 1 => (stR z g f c).set (g c).toNat (f c)
theorem stR_len {z : List Int} {g f : Nat → Int} : ∀ c, (stR z g f c).length = z.length
 | 0 => rfl
 | c + 1 => by rw [stR, List.length_set, stR_len c]
def roA (p sg : Int) (F : List (List Int)) (m below : Int) (a b : Nat) : Nat → List Int := stR (List.replicate (below * m).toNat 0) (fun c => (c : Int) * m + b) (fun c => (sg * (F.getD a default).getD c 0) % p)
def roB (p sg : Int) (F : List (List Int)) (m below : Int) (a b : Nat) : Nat → List Int := stR (List.replicate (m * below).toNat 0) (fun c => (a : Int) * below + c) (fun c => (sg * (F.getD b default).getD c 0) % p)
theorem roA_0 {p sg : Int} {F : List (List Int)} {m below : Int} {a b : Nat} : roA p sg F m below a b 0 = List.replicate (below * m).toNat 0 := rfl
theorem roB_0 {p sg : Int} {F : List (List Int)} {m below : Int} {a b : Nat} : roB p sg F m below a b 0 = List.replicate (m * below).toNat 0 := rfl
theorem roA_step {p sg : Int} {F : List (List Int)} {m below : Int} {a b c : Nat} : (roA p sg F m below a b c).set ((c : Int) * m + b).toNat ((sg * (F.getD a default).getD c 0) % p) = roA p sg F m below a b (c + 1) := rfl
theorem roB_step {p sg : Int} {F : List (List Int)} {m below : Int} {a b c : Nat} : (roB p sg F m below a b c).set ((a : Int) * below + c).toNat ((sg * (F.getD b default).getD c 0) % p) = roB p sg F m below a b (c + 1) := rfl
theorem roA_len {p sg : Int} {F : List (List Int)} {m below : Int} {a b : Nat} (c : Nat) : (roA p sg F m below a b c).length = (below * m).toNat := by rw [roA, stR_len, List.length_replicate]
theorem roB_len {p sg : Int} {F : List (List Int)} {m below : Int} {a b : Nat} (c : Nat) : (roB p sg F m below a b c).length = (m * below).toNat := by rw [roB, stR_len, List.length_replicate]
/-- The row of a pair a, b. -/
def spR (ah : Bool) (p sg : Int) (F : List (List Int)) (m below : Int) (a b : Nat) : List Int := if ah = true then roA p sg F m below a b below.toNat else roB p sg F m below a b below.toNat
theorem spR_t {p sg : Int} {F : List (List Int)} {m below : Int} {a b : Nat} {ah : Bool} (h : ah = true) : spR ah p sg F m below a b = roA p sg F m below a b below.toNat := if_pos h
theorem spR_f {p sg : Int} {F : List (List Int)} {m below : Int} {a b : Nat} {ah : Bool} (h : ah = false) : spR ah p sg F m below a b = roB p sg F m below a b below.toNat := if_neg (by rw [h]; decide)
/-- All rows of pairs, those of each a together. -/
def tbA (r : Nat → Nat → List Int) (M : Nat) : Nat → List (List Int)
 | 0 => []
 | a + 1 => tbA r M a ++ (List.range M).map (r a)
theorem tbA_len (r : Nat → Nat → List Int) (M : Nat) : ∀ a, (tbA r M a).length = a * M
 | 0 => by simp [tbA]
 | a + 1 => by rw [tbA, List.length_append, tbA_len r M a, List.length_map, List.length_range, Nat.add_mul, Nat.one_mul]
def spC (ah : Bool) (n m : Int) : Int := if ah = true then n else m
def spO (ah : Bool) (n m : Int) : Int := if ah = true then m else n
theorem spC_t {ah : Bool} {n m : Int} (h : ah = true) : spC ah n m = n := if_pos h
theorem spC_f {ah : Bool} {n m : Int} (h : ah = false) : spC ah n m = m := if_neg (by rw [h]; decide)
theorem spO_t {ah : Bool} {n m : Int} (h : ah = true) : spO ah n m = m := if_pos h
theorem spO_f {ah : Bool} {n m : Int} (h : ah = false) : spO ah n m = n := if_neg (by rw [h]; decide)
def spT (ah : Bool) (p sg : Int) (F : List (List Int)) (n below m : Int) : List (List Int) := tbA (spR ah p sg F m below) (spO ah n m).toNat (spC ah n m).toNat
theorem mul8 {x y a b : Int} (hx : 0 ≤ x ∧ x ≤ a) (hy : 0 ≤ y ∧ y ≤ b) : 0 ≤ x * y ∧ x * y ≤ a * b := by
 have h1 := Int.mul_nonneg hx.1 hy.1
 have h2 := Int.mul_le_mul hx.2 hy.2 hy.1 (by omega)
 omega
theorem mulR {c m n b : Int} (hc : 0 ≤ c ∧ c < n) (hb : 0 ≤ b ∧ b < m) : 0 ≤ c * m ∧ c * m + b < n * m := by
 have h1 := Int.mul_nonneg hc.1 (show 0 ≤ m by omega)
 have h2 : (c + 1) * m ≤ n * m := Int.mul_le_mul_of_nonneg_right (by omega) (by omega)
 rw [Int.add_mul, Int.one_mul] at h2
 omega
theorem sgm {sg x p : Int} (hs : -1 ≤ sg ∧ sg ≤ 1) (hx : 0 ≤ x ∧ x < p) (hp : p ≤ 7) : -7 ≤ sg * x ∧ sg * x ≤ 7 := by
 have : sg = -1 ∨ sg = 0 ∨ sg = 1 := by omega
 rcases this with rfl | rfl | rfl <;> omega
/-- The rows of a map. -/
structure IsRw (p n below : Int) (F : List (List Int)) : Prop where
 ln : (F.length : Int) = n
 rw_ : ∀ r, r < F.length → ((F.getD r default).length : Int) = below
 nm : ∀ r, r < F.length → ∀ c, c < (F.getD r default).length → 0 ≤ (F.getD r default).getD c 0 ∧ (F.getD r default).getD c 0 < p

set_option maxRecDepth 100000 in
theorem sSpr_ok (vF : Value) (p : Int) (F : List (List Int)) (n : Int) (below : Int) (m : Int) (ah : Bool) (sg : Int) (h : Heap) (rF : R2 h vF F) (hp : 0 < p ∧ p ≤ 7) (hn : 0 ≤ n ∧ n ≤ 8) (hm : 0 ≤ m ∧ m ≤ 8) (hb : 0 ≤ below ∧ below ≤ 8) (hs : -1 ≤ sg ∧ sg ≤ 1) (hF : IsRw p n below F) : CallA Try.prog 41 #[.int .i64 p, vF, .int .i64 n, .int .i64 below, .int .i64 m, .bool ah, .int .i64 sg] h fun v' h' => ∃ w0 f0, v' = w0 ∧ O2 h' w0 (spT ah p sg F n below m) f0 ∧ Fresh h.size f0 ∧ Ext h h' := by
 have hleF := RdS.le rF
 refine callA_intro TTok (args := [_, _, _, _, _, _, _]) Try.func41 (by kernel_rfl) rfl 100 rfl (by simp) [.tmp 14] rfl ?_
 simp only [idxs, Nat.reduceAdd]
 refine den_seq ?_
 refine den_region TTok ?_
 intro K hK
 simp -implicitDefEqProofs (disch := first | decide | assumption | omega) only [go_sem, wrap_id]
 refine hK _ _ ?_
 clear hK K
 refine den_seq ?_
 refine den_region TTok ?_
 intro K hK
 simp -implicitDefEqProofs (disch := first | decide | assumption | omega) only [go_sem, wrap_id]
 refine op_bs0 sz27 O1 ?_
 intro v1_0 h1_0 ho1_0 e1_0
 have := Ext.size e1_0
 have eB := e1_0
 have hfho1_0 : Fresh h.size [h.size] := Fresh.one _
 have hlho1_0 := OS.lt ho1_0
 try simp -implicitDefEqProofs (disch := first | decide | assumption | omega) only [go_sem, RdS.len (OS.rd ho1_0) sl27, RdS.idx (OS.rd ho1_0) sl27, RdS.cellN (OS.rd ho1_0), RdS.cells (OS.rd ho1_0), wrap_id]
 refine hK _ _ ?_
 clear hK K
 refine den_seq ?_
 refine den_region TTok ?_
 intro K hK
 simp -implicitDefEqProofs (disch := first | decide | assumption | omega) only [go_sem, wrap_id]
 refine hK _ _ ?_
 clear hK K
 refine den_seq ?_
 refine den_seq ?_
 refine den_region TTok ?_
 intro K hK
 simp -implicitDefEqProofs (disch := first | decide | assumption | omega) only [go_sem, wrap_id]
 refine hK _ _ ?_
 clear hK K
 refine den_cond rfl (fun c0 => ?_) (fun c0 => ?_)
 ·try simp only [decide_eq_true_eq, decide_eq_false_iff_not, beq_iff_eq, beq_eq_false_iff_ne, bne_iff_ne, ne_eq, Bool.not_eq_true', Bool.not_eq_false', Bool.and_eq_true, Bool.or_eq_true, bne_eq_false_iff_eq] at c0
  have eC := spC_f (n := n) (m := m) c0
  have eO := spO_f (n := n) (m := m) c0
  refine den_region TTok ?_
  intro K hK
  simp -implicitDefEqProofs (disch := first | decide | assumption | omega) only [go_sem, wrap_id]
  refine hK _ _ ?_
  clear hK K
  refine den_seq ?_
  refine den_seq ?_
  refine den_region TTok ?_
  intro K hK
  simp -implicitDefEqProofs (disch := first | decide | assumption | omega) only [go_sem, wrap_id]
  refine hK _ _ ?_
  clear hK K
  refine den_block ?_
  refine den_sel [15, 18, 0, 1, 3, 4, 5, 6, 16, 17] ?_
  intro env_1
  simp only [go_sem]
  refine den_loopS (σ := Nat × Value × List Nat) (fun st_ => [(15, st_.2.1), (18, .int .i64 (st_.1 : Int))]) (fun st_ H => ((st_.1 : Int) ≤ spC ah n m) ∧ (O2 H st_.2.1 (tbA (spR ah p sg F m below) (spO ah n m).toNat st_.1) st_.2.2) ∧ (Fresh (h.size) st_.2.2) ∧ (Sub [h.size] h1_0.size st_.2.2) ∧ (Chg [h.size] h1_0 H)) (fun st_ => (spC ah n m).toNat - st_.1) (0, v1_0, [h.size]) ?_ ?_
  ·exact ⟨by omega, by show O2 _ _ [] _; exact ho1_0, hfho1_0, Sub.refl, Chg.refl _ _⟩
  ·rintro ⟨a, vhO, fphO⟩ h4 ee3 ⟨hi0, hO, hfhO, sbhO, cL2⟩
   dsimp only at hi0 hO hfhO sbhO cL2
   have := cL2.size
   replace eB := Ext.then eB cL2 (ge_of hfho1_0 (by omega))
   have hlhO := OS.lt hO
   simp only [List.cons_append, List.nil_append]
   refine den_seq ?_
   refine den_seq ?_
   refine den_region TTok ?_
   intro K hK
   simp -implicitDefEqProofs (disch := first | decide | assumption | omega) only [go_sem, wrap_id]
   refine hK _ _ ?_
   clear hK K
   refine den_cond rfl (fun c1 => ?_) (fun c1 => ?_)
   ·try simp only [decide_eq_true_eq, decide_eq_false_iff_not, beq_iff_eq, beq_eq_false_iff_ne, bne_iff_ne, ne_eq, Bool.not_eq_true', Bool.not_eq_false', Bool.and_eq_true, Bool.or_eq_true, bne_eq_false_iff_eq] at c1
    refine den_skip ?_
    refine den_seq ?_
    refine den_block ?_
    refine den_seq ?_
    refine den_region TTok ?_
    intro K hK
    simp -implicitDefEqProofs (disch := first | decide | assumption | omega) only [go_sem, wrap_id]
    refine hK _ _ ?_
    clear hK K
    refine den_block ?_
    refine den_sel [15, 19, 0, 1, 3, 4, 5, 6, 16, 17, 18] ?_
    intro env_5
    simp only [go_sem]
    refine den_loopS (σ := Nat × Value × List Nat) (fun st_ => [(15, st_.2.1), (19, .int .i64 (st_.1 : Int))]) (fun st_ H => ((st_.1 : Int) ≤ spO ah n m) ∧ (O2 H st_.2.1 (tbA (spR ah p sg F m below) (spO ah n m).toNat a ++ (List.range st_.1).map (spR ah p sg F m below a)) st_.2.2) ∧ (Fresh (h.size) st_.2.2) ∧ (Sub fphO h4.size st_.2.2) ∧ (Chg fphO h4 H)) (fun st_ => (spO ah n m).toNat - st_.1) (0, vhO, fphO) ?_ ?_
    ·exact ⟨by omega, by simpa using hO, hfhO, Sub.refl, Chg.refl _ _⟩
    ·rintro ⟨b, vhP, fphP⟩ h8 ee7 ⟨hi0, hP, hfhP, sbhP, cL6⟩
     dsimp only at hi0 hP hfhP sbhP cL6
     have := cL6.size
     replace eB := Ext.then eB cL6 (ge_of hfhO (by omega))
     replace cL2 := Chg.step cL2 cL6 sbhO
     have sb9 : Sub [h.size] h1_0.size fphP := Sub.trans sbhP sbhO (by omega)
     have hlhP := OS.lt hP
     simp only [List.cons_append, List.nil_append]
     refine den_seq ?_
     refine den_seq ?_
     refine den_region TTok ?_
     intro K hK
     simp -implicitDefEqProofs (disch := first | decide | assumption | omega) only [go_sem, wrap_id]
     refine hK _ _ ?_
     clear hK K
     refine den_cond rfl (fun c2 => ?_) (fun c2 => ?_)
     ·try simp only [decide_eq_true_eq, decide_eq_false_iff_not, beq_iff_eq, beq_eq_false_iff_ne, bne_iff_ne, ne_eq, Bool.not_eq_true', Bool.not_eq_false', Bool.and_eq_true, Bool.or_eq_true, bne_eq_false_iff_eq] at c2
      refine den_skip ?_
      refine den_seq ?_
      refine den_block ?_
      refine den_seq ?_
      refine den_region TTok ?_
      intro K hK
      simp -implicitDefEqProofs (disch := first | decide | assumption | omega) only [go_sem, wrap_id]
      refine hK _ _ ?_
      clear hK K
      refine den_seq ?_
      refine den_seq ?_
      refine den_region TTok ?_
      intro K hK
      simp -implicitDefEqProofs (disch := first | decide | assumption | omega) only [go_sem, wrap_id]
      refine hK _ _ ?_
      clear hK K
      refine den_cond rfl (fun c3 => ?_) (fun c3 => ?_)
      ·try simp only [decide_eq_true_eq, decide_eq_false_iff_not, beq_iff_eq, beq_eq_false_iff_ne, bne_iff_ne, ne_eq, Bool.not_eq_true', Bool.not_eq_false', Bool.and_eq_true, Bool.or_eq_true, bne_eq_false_iff_eq] at c3
       exact absurd c3 (by rw [c0]; decide)
      ·try simp only [decide_eq_true_eq, decide_eq_false_iff_not, beq_iff_eq, beq_eq_false_iff_ne, bne_iff_ne, ne_eq, Bool.not_eq_true', Bool.not_eq_false', Bool.and_eq_true, Bool.or_eq_true, bne_eq_false_iff_eq] at c3
       refine den_seq ?_
       have hmb := mul8 hm hb
       refine den_region TTok ?_
       intro K hK
       simp -implicitDefEqProofs (disch := first | decide | assumption | omega) only [go_sem, wrap_id]
       refine op_make sz22 rfl rfl (by omega) (by omega) OI 0 (fun _ => ⟨rfl, rfl⟩) ?_
       intro v18_3 h18_3 ho18_3 e18_3
       replace hP := OS.ext hP e18_3
       have := Ext.size e18_3
       replace eB := Ext.trans eB e18_3
       replace cL2 := Chg.stepE cL2 e18_3
       replace cL6 := Chg.stepE cL6 e18_3
       have hfho18_3 : Fresh h8.size [h8.size] := Fresh.one _
       have hlenho18_3 : (List.replicate ((m * below)).toNat (0 : Int)).length = ((m * below)).toNat := List.length_replicate
       have hlho18_3 := OS.lt ho18_3
       try simp -implicitDefEqProofs (disch := first | decide | assumption | omega) only [go_sem, RdS.len (OS.rd ho18_3) sl22, RdS.idx (OS.rd ho18_3) sl22, R1.intN (OS.rd ho18_3), RdS.cells (OS.rd ho18_3), wrap_id]
       refine hK _ _ ?_
       clear hK K
       refine den_seq ?_
       refine den_region TTok ?_
       intro K hK
       simp -implicitDefEqProofs (disch := first | decide | assumption | omega) only [go_sem, wrap_id]
       refine hK _ _ ?_
       clear hK K
       refine den_block ?_
       refine den_sel [22, 0, 1, 3, 4, 5, 6, 15, 16, 17, 18, 19, 20] ?_
       intro env_10
       simp only [go_sem]
       refine den_loopS (σ := Nat) (fun st_ => [(22, .int .i64 (st_ : Int))]) (fun st_ H => ((st_ : Int) ≤ below) ∧ (O1 H v18_3 (roB p sg F m below a b st_) [h8.size]) ∧ (Chg [h8.size] h18_3 H)) (fun st_ => below.toNat - st_) 0 ?_ ?_
       ·exact ⟨by omega, by rw [roB_0]; exact ho18_3, Chg.refl _ _⟩
       ·rintro c h13 ee12 ⟨hi0, hV, cL11⟩
        replace hP := OS.chg hP cL11 (apart_lt hlhP hfho18_3 (by omega))
        have := cL11.size
        replace eB := Ext.then eB cL11 (ge_of hfho18_3 (by omega))
        replace cL2 := Chg.step cL2 cL11 (Sub.fresh hfho18_3 (by omega))
        replace cL6 := Chg.step cL6 cL11 (Sub.fresh hfho18_3 (by omega))
        have sbhV : Sub [h8.size] h18_3.size [h8.size] := Sub.refl
        have hfhV := hfho18_3
        have hlhV := hlho18_3
        simp only [List.cons_append, List.nil_append]
        have hlw : (roB p sg F m below a b c).length = (m * below).toNat := roB_len c
        refine den_seq ?_
        refine den_seq ?_
        refine den_region TTok ?_
        intro K hK
        simp -implicitDefEqProofs (disch := first | decide | assumption | omega) only [go_sem, wrap_id]
        refine hK _ _ ?_
        clear hK K
        refine den_cond rfl (fun c4 => ?_) (fun c4 => ?_)
        ·try simp only [decide_eq_true_eq, decide_eq_false_iff_not, beq_iff_eq, beq_eq_false_iff_ne, bne_iff_ne, ne_eq, Bool.not_eq_true', Bool.not_eq_false', Bool.and_eq_true, Bool.or_eq_true, bne_eq_false_iff_eq] at c4
         refine den_skip ?_
         refine den_seq ?_
         refine den_block ?_
         have hfl := hF.ln
         have hfr := hF.rw_ b (by omega)
         have hfn := hF.nm b (by omega) c (by omega)
         have hsg := sgm hs hfn hp.2
         have hmb := mul8 hm hb
         have hix := mulR (c := (a : Int)) (m := below) (n := m) (b := (c : Int)) ⟨by omega, by omega⟩ ⟨by omega, by omega⟩
         refine den_region TTok ?_
         intro K hK
         have hr14 := RdS.rowN rF b (by omega)
         have hlhr14 := RdS.le hr14
         simp -implicitDefEqProofs (disch := first | decide | assumption | omega) only [go_sem, ld22, ld2, RdS.len rF sl27, RdS.idx rF sl27, RdS.cellB rF (Ext.pres eB), RdS.cells rF, RdS.len hr14 sl22, RdS.idx hr14 sl22, R1.intB hr14 (Ext.pres eB), RdS.cells hr14, RdS.len (OS.rd hV) sl22, RdS.idx (OS.rd hV) sl22, R1.intN (OS.rd hV), RdS.cells (OS.rd hV), wrap_id]
         try simp -implicitDefEqProofs (disch := first | decide | assumption | omega) only [go_sem, wrap_id]
         refine CallA.mono (sMod_ok  p (sg * (((F).getD b default).getD c 0)) _  (by omega) (by omega)) ?_
         intro v_ h22_16
         rintro ⟨rfl, e22_16⟩
         replace hP := OS.ext hP e22_16
         replace hV := OS.ext hV e22_16
         have := Ext.size e22_16
         replace eB := Ext.trans eB e22_16
         replace cL2 := Chg.stepE cL2 e22_16
         replace cL6 := Chg.stepE cL6 e22_16
         replace cL11 := Chg.stepE cL11 e22_16
         try simp -implicitDefEqProofs (disch := first | decide | assumption | omega) only [go_sem, RdS.len (OS.rd hV) sl22, RdS.idx (OS.rd hV) sl22, R1.intN (OS.rd hV), RdS.cells (OS.rd hV), wrap_id]
         refine op_store1 (j := ((((a : Int) * below) + (c : Int))).toNat) st2 hV hfhV.nodup (by first | omega | (simp; omega)) rfl rfl ?_
         intro h22_18 ho22_18 c22_18
         have hsz22_18 := c22_18.size
         replace hP := OS.chg hP c22_18 (apart_lt hlhP hfhV (by omega))
         have := c22_18.size
         replace eB := Ext.then eB c22_18 (ge_of hfhV (by omega))
         replace cL2 := Chg.step cL2 c22_18 (Sub.fresh hfhV (by omega))
         replace cL6 := Chg.step cL6 c22_18 (Sub.fresh hfhV (by omega))
         replace cL11 := Chg.step cL11 c22_18 sbhV
         have hlho22_18 := hlhV
         have hlenho22_18 : ((roB p sg F m below a b c).set (((((a : Int) * below) + (c : Int))).toNat) ((sg * (((F).getD b default).getD c 0)) % p) : List Int).length = (roB p sg F m below a b c : List Int).length := List.length_set
         try simp -implicitDefEqProofs (disch := first | decide | assumption | omega) only [go_sem, wrap_id]
         refine hK _ _ ?_
         clear hK K
         refine den_blk ?_
         refine den_region TTok ?_
         intro K hK
         simp -implicitDefEqProofs (disch := first | decide | assumption | omega) only [go_sem, wrap_id]
         refine hK _ _ ?_
         clear hK K
         refine den_stop ?_
         rw [roB_step] at ho22_18
         exact ⟨c + 1, by simp [HasL, puts_at], ⟨by first | omega | (dsimp only; omega), ho22_18, cL11⟩, by first | omega | (dsimp only; omega)⟩
        ·try simp only [decide_eq_true_eq, decide_eq_false_iff_not, beq_iff_eq, beq_eq_false_iff_ne, bne_iff_ne, ne_eq, Bool.not_eq_true', Bool.not_eq_false', Bool.and_eq_true, Bool.or_eq_true, bne_eq_false_iff_eq] at c4
         refine den_exit ?_
         refine denX_code ?_
         refine denX_stop ?_
         refine denX_hit ?_
         have hlt : (tbA (spR ah p sg F m below) (spO ah n m).toNat a ++ (List.range b).map (spR ah p sg F m below a)).length = a * (spO ah n m).toNat + b := by rw [List.length_append, tbA_len, List.length_map, List.length_range]
         have hq8 := Nat.mul_le_mul (show a ≤ 8 by omega) (show (spO ah n m).toNat ≤ 8 by omega)
         refine den_region TTok ?_
         intro K hK
         simp -implicitDefEqProofs (disch := first | decide | assumption | omega) only [go_sem, RdS.len (OS.rd hP) sl27, RdS.idx (OS.rd hP) sl27, RdS.cellN (OS.rd hP), RdS.cells (OS.rd hP), RdS.len (OS.rd hV) sl22, RdS.idx (OS.rd hV) sl22, R1.intN (OS.rd hV), RdS.cells (OS.rd hV), wrap_id]
         refine op_bs1 sz27 rfl (OS.one hV).2 ?_
         try simp -implicitDefEqProofs (disch := first | decide | assumption | omega) only [go_sem, wrap_id]
         refine op_append1 sz27 hP hfhP.nodup hV hfhV.nodup (apart_lt hlhP hfhV (by omega)) (by first | omega | (simp; omega)) rfl rfl ?_
         intro v23_3 h23_3 fp23_3 ho23_3 hn23_3 hs23_3 c23_3
         have hsz23_3 := c23_3.size
         have hfho23_3 : Fresh h.size fp23_3 := Fresh.appd hfhP hfhV (by omega) (by omega) hn23_3 hs23_3
         have sb15 : Sub [h.size] h1_0.size fp23_3 := Sub.grow sb9 (Sub.fresh hfhV (by omega)) (by omega) hs23_3
         have sb16 : Sub fphO h4.size fp23_3 := Sub.grow sbhP (Sub.fresh hfhV (by omega)) (by omega) hs23_3
         have := c23_3.size
         replace eB := Ext.then eB c23_3 (ge_of hfhP (by omega))
         replace cL2 := Chg.step cL2 c23_3 sb9
         replace cL6 := Chg.step cL6 c23_3 sbhP
         have hlho23_3 := OS.lt ho23_3
         try simp -implicitDefEqProofs (disch := first | decide | assumption | omega) only [go_sem, RdS.len (OS.rd ho23_3) sl27, RdS.idx (OS.rd ho23_3) sl27, RdS.cellN (OS.rd ho23_3), RdS.cells (OS.rd ho23_3), wrap_id]
         refine hK _ _ ?_
         clear hK K
         refine den_blk ?_
         refine den_region TTok ?_
         intro K hK
         simp -implicitDefEqProofs (disch := first | decide | assumption | omega) only [go_sem, wrap_id]
         refine hK _ _ ?_
         clear hK K
         refine den_stop ?_
         first | rw [show c = below.toNat by omega, ← spR_t c0, List.append_assoc, range_step (spR ah p sg F m below a)] at ho23_3 | rw [show c = below.toNat by omega, ← spR_f c0, List.append_assoc, range_step (spR ah p sg F m below a)] at ho23_3
         exact ⟨(b + 1, v23_3, fp23_3), by simp [HasL, puts_at], ⟨by first | omega | (dsimp only; omega), ho23_3, hfho23_3, sb16, cL6⟩, by first | omega | (dsimp only; omega)⟩
     ·try simp only [decide_eq_true_eq, decide_eq_false_iff_not, beq_iff_eq, beq_eq_false_iff_ne, bne_iff_ne, ne_eq, Bool.not_eq_true', Bool.not_eq_false', Bool.and_eq_true, Bool.or_eq_true, bne_eq_false_iff_eq] at c2
      refine den_exit ?_
      refine denX_code ?_
      refine denX_stop ?_
      refine denX_hit ?_
      refine den_blk ?_
      refine den_region TTok ?_
      intro K hK
      simp -implicitDefEqProofs (disch := first | decide | assumption | omega) only [go_sem, wrap_id]
      refine hK _ _ ?_
      clear hK K
      refine den_stop ?_
      rw [show b = (spO ah n m).toNat by omega] at hP
      exact ⟨(a + 1, vhP, fphP), by simp [HasL, puts_at], ⟨by first | omega | (dsimp only; omega), hP, hfhP, sb9, cL2⟩, by first | omega | (dsimp only; omega)⟩
   ·try simp only [decide_eq_true_eq, decide_eq_false_iff_not, beq_iff_eq, beq_eq_false_iff_ne, bne_iff_ne, ne_eq, Bool.not_eq_true', Bool.not_eq_false', Bool.and_eq_true, Bool.or_eq_true, bne_eq_false_iff_eq] at c1
    refine den_exit ?_
    refine denX_code ?_
    refine denX_stop ?_
    refine denX_hit ?_
    refine den_seq ?_
    refine den_region TTok ?_
    intro K hK
    simp -implicitDefEqProofs (disch := first | decide | assumption | omega) only [go_sem, RdS.len (OS.rd hO) sl27, RdS.idx (OS.rd hO) sl27, RdS.cellN (OS.rd hO), RdS.cells (OS.rd hO), wrap_id]
    refine hK _ _ ?_
    clear hK K
    refine den_ret ?_
    simp (disch := decide) only [resP_1, puts_same, puts_ne]
    rw [show a = (spC ah n m).toNat by omega] at hO
    exact ⟨_, _, rfl, (by unfold spT; exact hO), hfhO.mono (by omega), eB⟩
 ·try simp only [decide_eq_true_eq, decide_eq_false_iff_not, beq_iff_eq, beq_eq_false_iff_ne, bne_iff_ne, ne_eq, Bool.not_eq_true', Bool.not_eq_false', Bool.and_eq_true, Bool.or_eq_true, bne_eq_false_iff_eq] at c0
  have eC := spC_t (n := n) (m := m) c0
  have eO := spO_t (n := n) (m := m) c0
  refine den_skip ?_
  refine den_seq ?_
  refine den_seq ?_
  refine den_region TTok ?_
  intro K hK
  simp -implicitDefEqProofs (disch := first | decide | assumption | omega) only [go_sem, wrap_id]
  refine hK _ _ ?_
  clear hK K
  refine den_block ?_
  refine den_sel [15, 18, 0, 1, 3, 4, 5, 6, 16, 17] ?_
  intro env_17
  simp only [go_sem]
  refine den_loopS (σ := Nat × Value × List Nat) (fun st_ => [(15, st_.2.1), (18, .int .i64 (st_.1 : Int))]) (fun st_ H => ((st_.1 : Int) ≤ spC ah n m) ∧ (O2 H st_.2.1 (tbA (spR ah p sg F m below) (spO ah n m).toNat st_.1) st_.2.2) ∧ (Fresh (h.size) st_.2.2) ∧ (Sub [h.size] h1_0.size st_.2.2) ∧ (Chg [h.size] h1_0 H)) (fun st_ => (spC ah n m).toNat - st_.1) (0, v1_0, [h.size]) ?_ ?_
  ·exact ⟨by omega, by show O2 _ _ [] _; exact ho1_0, hfho1_0, Sub.refl, Chg.refl _ _⟩
  ·rintro ⟨a, vhO, fphO⟩ h20 ee19 ⟨hi0, hO, hfhO, sbhO, cL18⟩
   dsimp only at hi0 hO hfhO sbhO cL18
   have := cL18.size
   replace eB := Ext.then eB cL18 (ge_of hfho1_0 (by omega))
   have hlhO := OS.lt hO
   simp only [List.cons_append, List.nil_append]
   refine den_seq ?_
   refine den_seq ?_
   refine den_region TTok ?_
   intro K hK
   simp -implicitDefEqProofs (disch := first | decide | assumption | omega) only [go_sem, wrap_id]
   refine hK _ _ ?_
   clear hK K
   refine den_cond rfl (fun c5 => ?_) (fun c5 => ?_)
   ·try simp only [decide_eq_true_eq, decide_eq_false_iff_not, beq_iff_eq, beq_eq_false_iff_ne, bne_iff_ne, ne_eq, Bool.not_eq_true', Bool.not_eq_false', Bool.and_eq_true, Bool.or_eq_true, bne_eq_false_iff_eq] at c5
    refine den_skip ?_
    refine den_seq ?_
    refine den_block ?_
    refine den_seq ?_
    refine den_region TTok ?_
    intro K hK
    simp -implicitDefEqProofs (disch := first | decide | assumption | omega) only [go_sem, wrap_id]
    refine hK _ _ ?_
    clear hK K
    refine den_block ?_
    refine den_sel [15, 19, 0, 1, 3, 4, 5, 6, 16, 17, 18] ?_
    intro env_21
    simp only [go_sem]
    refine den_loopS (σ := Nat × Value × List Nat) (fun st_ => [(15, st_.2.1), (19, .int .i64 (st_.1 : Int))]) (fun st_ H => ((st_.1 : Int) ≤ spO ah n m) ∧ (O2 H st_.2.1 (tbA (spR ah p sg F m below) (spO ah n m).toNat a ++ (List.range st_.1).map (spR ah p sg F m below a)) st_.2.2) ∧ (Fresh (h.size) st_.2.2) ∧ (Sub fphO h20.size st_.2.2) ∧ (Chg fphO h20 H)) (fun st_ => (spO ah n m).toNat - st_.1) (0, vhO, fphO) ?_ ?_
    ·exact ⟨by omega, by simpa using hO, hfhO, Sub.refl, Chg.refl _ _⟩
    ·rintro ⟨b, vhP, fphP⟩ h24 ee23 ⟨hi0, hP, hfhP, sbhP, cL22⟩
     dsimp only at hi0 hP hfhP sbhP cL22
     have := cL22.size
     replace eB := Ext.then eB cL22 (ge_of hfhO (by omega))
     replace cL18 := Chg.step cL18 cL22 sbhO
     have sb25 : Sub [h.size] h1_0.size fphP := Sub.trans sbhP sbhO (by omega)
     have hlhP := OS.lt hP
     simp only [List.cons_append, List.nil_append]
     refine den_seq ?_
     refine den_seq ?_
     refine den_region TTok ?_
     intro K hK
     simp -implicitDefEqProofs (disch := first | decide | assumption | omega) only [go_sem, wrap_id]
     refine hK _ _ ?_
     clear hK K
     refine den_cond rfl (fun c6 => ?_) (fun c6 => ?_)
     ·try simp only [decide_eq_true_eq, decide_eq_false_iff_not, beq_iff_eq, beq_eq_false_iff_ne, bne_iff_ne, ne_eq, Bool.not_eq_true', Bool.not_eq_false', Bool.and_eq_true, Bool.or_eq_true, bne_eq_false_iff_eq] at c6
      refine den_skip ?_
      refine den_seq ?_
      refine den_block ?_
      refine den_seq ?_
      refine den_region TTok ?_
      intro K hK
      simp -implicitDefEqProofs (disch := first | decide | assumption | omega) only [go_sem, wrap_id]
      refine hK _ _ ?_
      clear hK K
      refine den_seq ?_
      refine den_seq ?_
      refine den_region TTok ?_
      intro K hK
      simp -implicitDefEqProofs (disch := first | decide | assumption | omega) only [go_sem, wrap_id]
      refine hK _ _ ?_
      clear hK K
      refine den_cond rfl (fun c7 => ?_) (fun c7 => ?_)
      ·try simp only [decide_eq_true_eq, decide_eq_false_iff_not, beq_iff_eq, beq_eq_false_iff_ne, bne_iff_ne, ne_eq, Bool.not_eq_true', Bool.not_eq_false', Bool.and_eq_true, Bool.or_eq_true, bne_eq_false_iff_eq] at c7
       refine den_seq ?_
       have hmb := mul8 hb hm
       refine den_region TTok ?_
       intro K hK
       simp -implicitDefEqProofs (disch := first | decide | assumption | omega) only [go_sem, wrap_id]
       refine op_make sz22 rfl rfl (by omega) (by omega) OI 0 (fun _ => ⟨rfl, rfl⟩) ?_
       intro v13_3 h13_3 ho13_3 e13_3
       replace hP := OS.ext hP e13_3
       have := Ext.size e13_3
       replace eB := Ext.trans eB e13_3
       replace cL18 := Chg.stepE cL18 e13_3
       replace cL22 := Chg.stepE cL22 e13_3
       have hfho13_3 : Fresh h24.size [h24.size] := Fresh.one _
       have hlenho13_3 : (List.replicate ((below * m)).toNat (0 : Int)).length = ((below * m)).toNat := List.length_replicate
       have hlho13_3 := OS.lt ho13_3
       try simp -implicitDefEqProofs (disch := first | decide | assumption | omega) only [go_sem, RdS.len (OS.rd ho13_3) sl22, RdS.idx (OS.rd ho13_3) sl22, R1.intN (OS.rd ho13_3), RdS.cells (OS.rd ho13_3), wrap_id]
       refine hK _ _ ?_
       clear hK K
       refine den_seq ?_
       refine den_region TTok ?_
       intro K hK
       simp -implicitDefEqProofs (disch := first | decide | assumption | omega) only [go_sem, wrap_id]
       refine hK _ _ ?_
       clear hK K
       refine den_block ?_
       refine den_sel [21, 0, 1, 3, 4, 5, 6, 15, 16, 17, 18, 19, 20] ?_
       intro env_26
       simp only [go_sem]
       refine den_loopS (σ := Nat) (fun st_ => [(21, .int .i64 (st_ : Int))]) (fun st_ H => ((st_ : Int) ≤ below) ∧ (O1 H v13_3 (roA p sg F m below a b st_) [h24.size]) ∧ (Chg [h24.size] h13_3 H)) (fun st_ => below.toNat - st_) 0 ?_ ?_
       ·exact ⟨by omega, by rw [roA_0]; exact ho13_3, Chg.refl _ _⟩
       ·rintro c h29 ee28 ⟨hi0, hW, cL27⟩
        replace hP := OS.chg hP cL27 (apart_lt hlhP hfho13_3 (by omega))
        have := cL27.size
        replace eB := Ext.then eB cL27 (ge_of hfho13_3 (by omega))
        replace cL18 := Chg.step cL18 cL27 (Sub.fresh hfho13_3 (by omega))
        replace cL22 := Chg.step cL22 cL27 (Sub.fresh hfho13_3 (by omega))
        have sbhW : Sub [h24.size] h13_3.size [h24.size] := Sub.refl
        have hfhW := hfho13_3
        have hlhW := hlho13_3
        simp only [List.cons_append, List.nil_append]
        have hlw : (roA p sg F m below a b c).length = (below * m).toNat := roA_len c
        refine den_seq ?_
        refine den_seq ?_
        refine den_region TTok ?_
        intro K hK
        simp -implicitDefEqProofs (disch := first | decide | assumption | omega) only [go_sem, wrap_id]
        refine hK _ _ ?_
        clear hK K
        refine den_cond rfl (fun c8 => ?_) (fun c8 => ?_)
        ·try simp only [decide_eq_true_eq, decide_eq_false_iff_not, beq_iff_eq, beq_eq_false_iff_ne, bne_iff_ne, ne_eq, Bool.not_eq_true', Bool.not_eq_false', Bool.and_eq_true, Bool.or_eq_true, bne_eq_false_iff_eq] at c8
         refine den_skip ?_
         refine den_seq ?_
         refine den_block ?_
         have hfl := hF.ln
         have hfr := hF.rw_ a (by omega)
         have hfn := hF.nm a (by omega) c (by omega)
         have hsg := sgm hs hfn hp.2
         have hmb := mul8 hb hm
         have hix := mulR (c := (c : Int)) (m := m) (n := below) (b := (b : Int)) ⟨by omega, by omega⟩ ⟨by omega, by omega⟩
         refine den_region TTok ?_
         intro K hK
         have hr30 := RdS.rowN rF a (by omega)
         have hlhr30 := RdS.le hr30
         simp -implicitDefEqProofs (disch := first | decide | assumption | omega) only [go_sem, ld22, ld2, RdS.len rF sl27, RdS.idx rF sl27, RdS.cellB rF (Ext.pres eB), RdS.cells rF, RdS.len hr30 sl22, RdS.idx hr30 sl22, R1.intB hr30 (Ext.pres eB), RdS.cells hr30, RdS.len (OS.rd hW) sl22, RdS.idx (OS.rd hW) sl22, R1.intN (OS.rd hW), RdS.cells (OS.rd hW), wrap_id]
         try simp -implicitDefEqProofs (disch := first | decide | assumption | omega) only [go_sem, wrap_id]
         refine CallA.mono (sMod_ok  p (sg * (((F).getD a default).getD c 0)) _  (by omega) (by omega)) ?_
         intro v_ h17_16
         rintro ⟨rfl, e17_16⟩
         replace hP := OS.ext hP e17_16
         replace hW := OS.ext hW e17_16
         have := Ext.size e17_16
         replace eB := Ext.trans eB e17_16
         replace cL18 := Chg.stepE cL18 e17_16
         replace cL22 := Chg.stepE cL22 e17_16
         replace cL27 := Chg.stepE cL27 e17_16
         try simp -implicitDefEqProofs (disch := first | decide | assumption | omega) only [go_sem, RdS.len (OS.rd hW) sl22, RdS.idx (OS.rd hW) sl22, R1.intN (OS.rd hW), RdS.cells (OS.rd hW), wrap_id]
         refine op_store1 (j := ((((c : Int) * m) + (b : Int))).toNat) st2 hW hfhW.nodup (by first | omega | (simp; omega)) rfl rfl ?_
         intro h17_18 ho17_18 c17_18
         have hsz17_18 := c17_18.size
         replace hP := OS.chg hP c17_18 (apart_lt hlhP hfhW (by omega))
         have := c17_18.size
         replace eB := Ext.then eB c17_18 (ge_of hfhW (by omega))
         replace cL18 := Chg.step cL18 c17_18 (Sub.fresh hfhW (by omega))
         replace cL22 := Chg.step cL22 c17_18 (Sub.fresh hfhW (by omega))
         replace cL27 := Chg.step cL27 c17_18 sbhW
         have hlho17_18 := hlhW
         have hlenho17_18 : ((roA p sg F m below a b c).set (((((c : Int) * m) + (b : Int))).toNat) ((sg * (((F).getD a default).getD c 0)) % p) : List Int).length = (roA p sg F m below a b c : List Int).length := List.length_set
         try simp -implicitDefEqProofs (disch := first | decide | assumption | omega) only [go_sem, wrap_id]
         refine hK _ _ ?_
         clear hK K
         refine den_blk ?_
         refine den_region TTok ?_
         intro K hK
         simp -implicitDefEqProofs (disch := first | decide | assumption | omega) only [go_sem, wrap_id]
         refine hK _ _ ?_
         clear hK K
         refine den_stop ?_
         rw [roA_step] at ho17_18
         exact ⟨c + 1, by simp [HasL, puts_at], ⟨by first | omega | (dsimp only; omega), ho17_18, cL27⟩, by first | omega | (dsimp only; omega)⟩
        ·try simp only [decide_eq_true_eq, decide_eq_false_iff_not, beq_iff_eq, beq_eq_false_iff_ne, bne_iff_ne, ne_eq, Bool.not_eq_true', Bool.not_eq_false', Bool.and_eq_true, Bool.or_eq_true, bne_eq_false_iff_eq] at c8
         refine den_exit ?_
         refine denX_code ?_
         refine denX_stop ?_
         refine denX_hit ?_
         have hlt : (tbA (spR ah p sg F m below) (spO ah n m).toNat a ++ (List.range b).map (spR ah p sg F m below a)).length = a * (spO ah n m).toNat + b := by rw [List.length_append, tbA_len, List.length_map, List.length_range]
         have hq8 := Nat.mul_le_mul (show a ≤ 8 by omega) (show (spO ah n m).toNat ≤ 8 by omega)
         refine den_region TTok ?_
         intro K hK
         simp -implicitDefEqProofs (disch := first | decide | assumption | omega) only [go_sem, RdS.len (OS.rd hP) sl27, RdS.idx (OS.rd hP) sl27, RdS.cellN (OS.rd hP), RdS.cells (OS.rd hP), RdS.len (OS.rd hW) sl22, RdS.idx (OS.rd hW) sl22, R1.intN (OS.rd hW), RdS.cells (OS.rd hW), wrap_id]
         refine op_bs1 sz27 rfl (OS.one hW).2 ?_
         try simp -implicitDefEqProofs (disch := first | decide | assumption | omega) only [go_sem, wrap_id]
         refine op_append1 sz27 hP hfhP.nodup hW hfhW.nodup (apart_lt hlhP hfhW (by omega)) (by first | omega | (simp; omega)) rfl rfl ?_
         intro v23_3_1 h23_3_1 fp23_3_1 ho23_3_1 hn23_3_1 hs23_3_1 c23_3_1
         have hsz23_3_1 := c23_3_1.size
         have hfho23_3_1 : Fresh h.size fp23_3_1 := Fresh.appd hfhP hfhW (by omega) (by omega) hn23_3_1 hs23_3_1
         have sb31 : Sub [h.size] h1_0.size fp23_3_1 := Sub.grow sb25 (Sub.fresh hfhW (by omega)) (by omega) hs23_3_1
         have sb32 : Sub fphO h20.size fp23_3_1 := Sub.grow sbhP (Sub.fresh hfhW (by omega)) (by omega) hs23_3_1
         have := c23_3_1.size
         replace eB := Ext.then eB c23_3_1 (ge_of hfhP (by omega))
         replace cL18 := Chg.step cL18 c23_3_1 sb25
         replace cL22 := Chg.step cL22 c23_3_1 sbhP
         have hlho23_3_1 := OS.lt ho23_3_1
         try simp -implicitDefEqProofs (disch := first | decide | assumption | omega) only [go_sem, RdS.len (OS.rd ho23_3_1) sl27, RdS.idx (OS.rd ho23_3_1) sl27, RdS.cellN (OS.rd ho23_3_1), RdS.cells (OS.rd ho23_3_1), wrap_id]
         refine hK _ _ ?_
         clear hK K
         refine den_blk ?_
         refine den_region TTok ?_
         intro K hK
         simp -implicitDefEqProofs (disch := first | decide | assumption | omega) only [go_sem, wrap_id]
         refine hK _ _ ?_
         clear hK K
         refine den_stop ?_
         first | rw [show c = below.toNat by omega, ← spR_t c0, List.append_assoc, range_step (spR ah p sg F m below a)] at ho23_3_1 | rw [show c = below.toNat by omega, ← spR_f c0, List.append_assoc, range_step (spR ah p sg F m below a)] at ho23_3_1
         exact ⟨(b + 1, v23_3_1, fp23_3_1), by simp [HasL, puts_at], ⟨by first | omega | (dsimp only; omega), ho23_3_1, hfho23_3_1, sb32, cL22⟩, by first | omega | (dsimp only; omega)⟩
      ·try simp only [decide_eq_true_eq, decide_eq_false_iff_not, beq_iff_eq, beq_eq_false_iff_ne, bne_iff_ne, ne_eq, Bool.not_eq_true', Bool.not_eq_false', Bool.and_eq_true, Bool.or_eq_true, bne_eq_false_iff_eq] at c7
       exact absurd (c0.symm.trans c7) (by decide)
     ·try simp only [decide_eq_true_eq, decide_eq_false_iff_not, beq_iff_eq, beq_eq_false_iff_ne, bne_iff_ne, ne_eq, Bool.not_eq_true', Bool.not_eq_false', Bool.and_eq_true, Bool.or_eq_true, bne_eq_false_iff_eq] at c6
      refine den_exit ?_
      refine denX_code ?_
      refine denX_stop ?_
      refine denX_hit ?_
      refine den_blk ?_
      refine den_region TTok ?_
      intro K hK
      simp -implicitDefEqProofs (disch := first | decide | assumption | omega) only [go_sem, wrap_id]
      refine hK _ _ ?_
      clear hK K
      refine den_stop ?_
      rw [show b = (spO ah n m).toNat by omega] at hP
      exact ⟨(a + 1, vhP, fphP), by simp [HasL, puts_at], ⟨by first | omega | (dsimp only; omega), hP, hfhP, sb25, cL18⟩, by first | omega | (dsimp only; omega)⟩
   ·try simp only [decide_eq_true_eq, decide_eq_false_iff_not, beq_iff_eq, beq_eq_false_iff_ne, bne_iff_ne, ne_eq, Bool.not_eq_true', Bool.not_eq_false', Bool.and_eq_true, Bool.or_eq_true, bne_eq_false_iff_eq] at c5
    refine den_exit ?_
    refine denX_code ?_
    refine denX_stop ?_
    refine denX_hit ?_
    refine den_seq ?_
    refine den_region TTok ?_
    intro K hK
    simp -implicitDefEqProofs (disch := first | decide | assumption | omega) only [go_sem, RdS.len (OS.rd hO) sl27, RdS.idx (OS.rd hO) sl27, RdS.cellN (OS.rd hO), RdS.cells (OS.rd hO), wrap_id]
    refine hK _ _ ?_
    clear hK K
    refine den_ret ?_
    simp (disch := decide) only [resP_1, puts_same, puts_ne]
    rw [show a = (spC ah n m).toNat by omega] at hO
    exact ⟨_, _, rfl, (by unfold spT; exact hO), hfhO.mono (by omega), eB⟩
end Go.Proofs.Ytkdnnfkdgmblgaa

namespace Go.Proofs.Ytkdnnfkdgmblgaa
open Go
def dimQ (D : List (List Int)) (i j : Int) : Int := if (0 ≤ i ∧ i < D.length) ∧ 0 ≤ j ∧ j < ((D.getD 0 default).length : Int) then (D.getD i.toNat default).getD j.toNat 0 else 0
theorem dimQ_t {D : List (List Int)} {i j : Int} (h : (0 ≤ i ∧ i < D.length) ∧ 0 ≤ j ∧ j < ((D.getD 0 default).length : Int)) : dimQ D i j = (D.getD i.toNat default).getD j.toNat 0 := if_pos h
theorem dimQ_f {D : List (List Int)} {i j : Int} (h : ¬ ((0 ≤ i ∧ i < D.length) ∧ 0 ≤ j ∧ j < ((D.getD 0 default).length : Int))) : dimQ D i j = 0 := if_neg h

set_option maxRecDepth 100000 in
theorem iWide_ok (p : Int) (vd va vb : Value) (D : List (List Int)) (h : Heap) (hd : R2 h vd D) : CallA Try.prog 60 #[.agg #[.int .i64 p, vd, va, vb]] h fun v' h' => v' = .int .i64 (D.length : Int) ∧ Ext h h' := by
 have hle := RdS.le hd
 refine callA_intro TTok (args := [_]) Try.func60 (by kernel_rfl) rfl 6 rfl (by simp) [.tmp 2] rfl ?_
 simp only [idxs, Nat.reduceAdd]
 refine den_seq ?_
 refine den_region TTok ?_
 intro K hK
 simp -implicitDefEqProofs (disch := first | decide | assumption | omega) only [go_sem, wrap_id]
 refine op_box (cs := #[.int .i64 (p), vd, va, vb]) rfl ?_
 intro h0_0 e0_0 hb0_0 z0_0
 have := Ext.size e0_0
 have eB := e0_0
 have hfhb0_0 : Fresh h.size [h.size] := Fresh.one _
 have hlhb0_0 := one_lt (show h.size < h0_0.size by omega)
 try simp -implicitDefEqProofs (disch := first | decide | assumption | omega) only [go_sem, wrap_id]
 refine hK _ _ ?_
 clear hK K
 refine den_seq ?_
 refine den_region TTok ?_
 intro K hK
 simp -implicitDefEqProofs (disch := first | decide | assumption | omega) only [go_sem, fa30_1, ld27, RdS.len hd sl27, RdS.idx hd sl27, RdS.cellB hd (Ext.pres eB), RdS.cells hd, BoxAt.cell hb0_0, wrap_id]
 try simp -implicitDefEqProofs (disch := first | decide | assumption | omega) only [go_sem, wrap_id]
 refine CallA.pure (size2_ok _ _ _ (RdS.pres hd (Ext.pres eB))) ?_
 try simp -implicitDefEqProofs (disch := first | decide | assumption | omega) only [go_sem, wrap_id]
 refine hK _ _ ?_
 clear hK K
 refine den_ret ?_
 simp (disch := decide) only [resP_1, puts_same, puts_ne]
 exact ⟨by first | rfl | trivial, eB⟩

set_option maxRecDepth 100000 in
theorem iHigh_ok (p : Int) (vd va vb : Value) (D : List (List Int)) (h : Heap) (hd : R2 h vd D) (h1 : 1 ≤ D.length) : CallA Try.prog 61 #[.agg #[.int .i64 p, vd, va, vb]] h fun v' h' => v' = .int .i64 ((D.getD 0 default).length : Int) ∧ Ext h h' := by
 have hle := RdS.le hd
 refine callA_intro TTok (args := [_]) Try.func61 (by kernel_rfl) rfl 8 rfl (by simp) [.tmp 2] rfl ?_
 simp only [idxs, Nat.reduceAdd]
 refine den_seq ?_
 refine den_region TTok ?_
 intro K hK
 simp -implicitDefEqProofs (disch := first | decide | assumption | omega) only [go_sem, wrap_id]
 refine op_box (cs := #[.int .i64 (p), vd, va, vb]) rfl ?_
 intro h0_0 e0_0 hb0_0 z0_0
 have := Ext.size e0_0
 have eB := e0_0
 have hfhb0_0 : Fresh h.size [h.size] := Fresh.one _
 have hlhb0_0 := one_lt (show h.size < h0_0.size by omega)
 try simp -implicitDefEqProofs (disch := first | decide | assumption | omega) only [go_sem, wrap_id]
 refine hK _ _ ?_
 clear hK K
 refine den_seq ?_
 refine den_region TTok ?_
 intro K hK
 have hr1 := RdS.rowN hd 0 (by omega)
 have hlhr1 := RdS.le hr1
 simp -implicitDefEqProofs (disch := first | decide | assumption | omega) only [go_sem, fa30_1, ld27, ld22, RdS.len hd sl27, RdS.idx hd sl27, RdS.cellB hd (Ext.pres eB), RdS.cells hd, RdS.len hr1 sl22, RdS.idx hr1 sl22, R1.intB hr1 (Ext.pres eB), RdS.cells hr1, BoxAt.cell hb0_0, wrap_id]
 try simp -implicitDefEqProofs (disch := first | decide | assumption | omega) only [go_sem, wrap_id]
 refine CallA.pure (size1_ok _ _ _ (RdS.pres hr1 (Ext.pres eB))) ?_
 try simp -implicitDefEqProofs (disch := first | decide | assumption | omega) only [go_sem, wrap_id]
 refine hK _ _ ?_
 clear hK K
 refine den_ret ?_
 simp (disch := decide) only [resP_1, puts_same, puts_ne]
 exact ⟨by first | rfl | trivial, eB⟩

set_option maxRecDepth 100000 in
theorem iDimD_ok (p : Int) (vd va vb : Value) (D : List (List Int)) (h : Heap) (hd : R2 h vd D) (i j : Int) (hi : -100 ≤ i ∧ i ≤ 100 ∧ -100 ≤ j ∧ j ≤ 100) (hl : D.length ≤ 100 ∧ ∀ r, r < D.length → (D.getD r default).length ≤ 100) (hW : ∀ r, r < D.length → (D.getD r default).length = (D.getD 0 default).length) : CallA Try.prog 58 #[.agg #[.int .i64 p, vd, va, vb], .int .i64 i, .int .i64 j] h fun v' h' => v' = .int .i64 (dimQ D i j) ∧ Ext h h' := by
 have hle := RdS.le hd
 refine callA_intro TTok (args := [_, _, _]) Try.func58 (by kernel_rfl) rfl 29 rfl (by simp) [.tmp 6] rfl ?_
 simp only [idxs, Nat.reduceAdd]
 refine den_seq ?_
 refine den_region TTok ?_
 intro K hK
 simp -implicitDefEqProofs (disch := first | decide | assumption | omega) only [go_sem, wrap_id]
 refine op_box (cs := #[.int .i64 (p), vd, va, vb]) rfl ?_
 intro h0_0 e0_0 hb0_0 z0_0
 have := Ext.size e0_0
 have eB := e0_0
 have hfhb0_0 : Fresh h.size [h.size] := Fresh.one _
 have hlhb0_0 := one_lt (show h.size < h0_0.size by omega)
 try simp -implicitDefEqProofs (disch := first | decide | assumption | omega) only [go_sem, wrap_id]
 refine hK _ _ ?_
 clear hK K
 refine den_seq ?_
 refine den_seq ?_
 refine den_merge [(20, .bool (((!((in3 i (0 : Int) ((D.length : Int) - (1 : Int))))) || (!((in3 j (0 : Int) (((D.getD 0 default).length : Int) - (1 : Int))))))))] [1, 2, 3] (fun H => Ext h0_0 H) ?_ ?_
  -- a way
 ·refine den_region TTok ?_
  intro K hK
  simp -implicitDefEqProofs (disch := first | decide | assumption | (simp (disch := decide) only [slotOf_zero, slotOf_succ, Option.map_some, puts_same, puts_ne, gv_bool, gv_undef, tt, tf, ft, ff, eq_self, if_true, if_false, Bool.false_eq_true, Bool.not_true, Bool.not_false]; done) | omega) only [go_sem, ld30, RdS.len hd sl27, RdS.idx hd sl27, RdS.cellB hd (Ext.pres eB), RdS.cells hd, BoxAt.cell hb0_0, wrap_id]
  try simp -implicitDefEqProofs (disch := first | decide | assumption | omega) only [go_sem, wrap_id]
  refine CallA.mono (iWide_ok _ _ _ _ D _ (RdS.pres hd (Ext.pres eB))) ?_
  intro v_ h1_2
  rintro ⟨rfl, e1_2⟩
  replace hb0_0 := BoxAt.ext hb0_0 e1_2
  have := Ext.size e1_2
  replace eB := Ext.trans eB e1_2
  try simp -implicitDefEqProofs (disch := first | decide | assumption | (simp (disch := decide) only [slotOf_zero, slotOf_succ, Option.map_some, puts_same, puts_ne, gv_bool, gv_undef, tt, tf, ft, ff, eq_self, if_true, if_false, Bool.false_eq_true, Bool.not_true, Bool.not_false]; done) | omega) only [go_sem, wrap_id]
  try simp -implicitDefEqProofs (disch := first | decide | assumption | omega) only [go_sem, wrap_id]
  refine CallA.pure (iIn_ok _ _ _ _) ?_
  try simp -implicitDefEqProofs (disch := first | decide | assumption | (simp (disch := decide) only [slotOf_zero, slotOf_succ, Option.map_some, puts_same, puts_ne, gv_bool, gv_undef, tt, tf, ft, ff, eq_self, if_true, if_false, Bool.false_eq_true, Bool.not_true, Bool.not_false]; done) | omega) only [go_sem, wrap_id]
  refine opsP_F (by simp (disch := decide) only [slotOf_zero, slotOf_succ, Option.map_some, puts_same, puts_ne, gv_bool, gv_undef, tt, tf, ft, ff, eq_self, if_true, if_false, Bool.false_eq_true, Bool.not_true, Bool.not_false]; rfl) (fun g1 => ?_) (fun g1 => ?_)
  ·have hgi := in3_iff.1 (show in3 i 0 ((D.length : Int) - 1) = true by simpa using g1)
   have hD0 := hl.2 0 (by omega)
   try simp -implicitDefEqProofs (disch := first | decide | assumption | (simp (disch := decide) only [slotOf_zero, slotOf_succ, Option.map_some, puts_same, puts_ne, gv_bool, gv_undef, tt, tf, ft, ff, eq_self, if_true, if_false, Bool.false_eq_true, Bool.not_true, Bool.not_false, g1]; done) | omega) only [go_sem, ld30, RdS.len hd sl27, RdS.idx hd sl27, RdS.cellB hd (Ext.pres eB), RdS.cells hd, BoxAt.cell hb0_0, wrap_id, g1, eq_self, if_true, if_false, Bool.false_eq_true]
   try simp -implicitDefEqProofs (disch := first | decide | assumption | omega) only [go_sem, wrap_id]
   refine CallA.mono (iHigh_ok _ _ _ _ D _ (RdS.pres hd (Ext.pres eB)) (by omega)) ?_
   intro v_ h1_9
   rintro ⟨rfl, e1_9⟩
   replace hb0_0 := BoxAt.ext hb0_0 e1_9
   have := Ext.size e1_9
   replace eB := Ext.trans eB e1_9
   try simp -implicitDefEqProofs (disch := first | decide | assumption | (simp (disch := decide) only [slotOf_zero, slotOf_succ, Option.map_some, puts_same, puts_ne, gv_bool, gv_undef, tt, tf, ft, ff, eq_self, if_true, if_false, Bool.false_eq_true, Bool.not_true, Bool.not_false, g1]; done) | omega) only [go_sem, wrap_id, g1, eq_self, if_true, if_false, Bool.false_eq_true]
   try simp -implicitDefEqProofs (disch := first | decide | assumption | omega) only [go_sem, wrap_id]
   refine CallA.pure (iIn_ok _ _ _ _) ?_
   try simp -implicitDefEqProofs (disch := first | decide | assumption | (simp (disch := decide) only [slotOf_zero, slotOf_succ, Option.map_some, puts_same, puts_ne, gv_bool, gv_undef, tt, tf, ft, ff, eq_self, if_true, if_false, Bool.false_eq_true, Bool.not_true, Bool.not_false, g1]; done) | omega) only [go_sem, wrap_id, g1, eq_self, if_true, if_false, Bool.false_eq_true]
   refine hK _ _ ?_
   clear hK K
   refine den_stop ?_
   refine ⟨?_, (Ext.trans e1_2 e1_9)⟩
   first | (simp (disch := decide) only [go_sem, g1, eq_self, Bool.true_and, Bool.and_true, Bool.false_and, Bool.and_false, Bool.true_or, Bool.or_true, Bool.false_or, Bool.or_false, if_true, if_false, Bool.false_eq_true]; done) | simp [HasL, sel, puts_at, g1]
  ·try simp -implicitDefEqProofs (disch := first | decide | assumption | (simp (disch := decide) only [slotOf_zero, slotOf_succ, Option.map_some, puts_same, puts_ne, gv_bool, gv_undef, tt, tf, ft, ff, eq_self, if_true, if_false, Bool.false_eq_true, Bool.not_true, Bool.not_false, g1]; done) | omega) only [go_sem, wrap_id, g1, eq_self, if_true, if_false, Bool.false_eq_true]
   refine hK _ _ ?_
   clear hK K
   refine den_stop ?_
   refine ⟨?_, e1_2⟩
   first | (simp (disch := decide) only [go_sem, g1, eq_self, Bool.true_and, Bool.and_true, Bool.false_and, Bool.and_false, Bool.true_or, Bool.or_true, Bool.false_or, Bool.or_false, if_true, if_false, Bool.false_eq_true]; done) | simp [HasL, sel, puts_at, g1]
 intro en2 h3 e4
 replace hb0_0 := BoxAt.ext hb0_0 e4
 have := Ext.size e4
 replace eB := Ext.trans eB e4
 simp (disch := decide) only [go_sem]
 refine den_cond rfl (fun c0 => ?_) (fun c0 => ?_)
 ·try simp only [decide_eq_true_eq, decide_eq_false_iff_not, beq_iff_eq, beq_eq_false_iff_ne, bne_iff_ne, ne_eq, Bool.not_eq_true', Bool.not_eq_false', Bool.and_eq_true, Bool.or_eq_true, bne_eq_false_iff_eq] at c0
  have hN : ¬ ((0 ≤ i ∧ i < D.length) ∧ 0 ≤ j ∧ j < ((D.getD 0 default).length : Int)) := by
   rintro ⟨h1, h2⟩
   have a1 := in3_iff.2 (⟨h1.1, by omega⟩ : (0 : Int) ≤ i ∧ i ≤ (D.length : Int) - 1)
   have a2 := in3_iff.2 (⟨h2.1, by omega⟩ : (0 : Int) ≤ j ∧ j ≤ ((D.getD 0 default).length : Int) - 1)
   have q : (!in3 i 0 ((D.length : Int) - 1) || !in3 j 0 (((D.getD 0 default).length : Int) - 1)) = true := by simpa using c0
   rw [a1, a2] at q
   exact absurd q (by decide)
  refine den_seq ?_
  refine den_region TTok ?_
  intro K hK
  simp -implicitDefEqProofs (disch := first | decide | assumption | omega) only [go_sem, wrap_id]
  refine hK _ _ ?_
  clear hK K
  refine den_ret ?_
  simp (disch := decide) only [resP_1, puts_same, puts_ne]
  exact ⟨vint (dimQ_f hN).symm, eB⟩
 ·try simp only [decide_eq_true_eq, decide_eq_false_iff_not, beq_iff_eq, beq_eq_false_iff_ne, bne_iff_ne, ne_eq, Bool.not_eq_true', Bool.not_eq_false', Bool.and_eq_true, Bool.or_eq_true, bne_eq_false_iff_eq] at c0
  have hY2 : in3 i 0 ((D.length : Int) - 1) = true ∧ in3 j 0 (((D.getD 0 default).length : Int) - 1) = true := by simpa using c0
  have hYi := in3_iff.1 hY2.1
  have hYj := in3_iff.1 hY2.2
  have hY3 : (0 ≤ i ∧ i < D.length) ∧ 0 ≤ j ∧ j < ((D.getD 0 default).length : Int) := by omega
  refine den_skip ?_
  refine den_seq ?_
  have hwi := hW i.toNat (by omega)
  refine den_region TTok ?_
  intro K hK
  have hr5 := RdS.rowN hd (i).toNat (by omega)
  have hlhr5 := RdS.le hr5
  simp -implicitDefEqProofs (disch := first | decide | assumption | omega) only [go_sem, fa30_1, ld27, ld22, ld2, RdS.len hd sl27, RdS.idx hd sl27, RdS.cellB hd (Ext.pres eB), RdS.cells hd, RdS.len hr5 sl22, RdS.idx hr5 sl22, R1.intB hr5 (Ext.pres eB), RdS.cells hr5, BoxAt.cell hb0_0, wrap_id]
  refine hK _ _ ?_
  clear hK K
  refine den_ret ?_
  simp (disch := decide) only [resP_1, puts_same, puts_ne]
  exact ⟨vint (dimQ_t hY3).symm, eB⟩

set_option maxRecDepth 100000 in
theorem eachD_ok (p : Int) (Rel : Nat → Nat → Heap → Prop) (g : FuncId) (cs : Array Value) (D : List (List Int)) (W : Nat) (vd va vb : Value) (h0 : Heap) (hd : R2 h0 vd D) (hW : 1 ≤ D.length → (D.getD 0 default).length = W) (hWb : W ≤ 1000) (h : Heap) (hR : Rel 0 0 h) (hRe : ∀ i j H H', Rel i j H → Ext H H' → Rel i j H') (hR0 : ∀ i j H, Rel i j H → Ext h0 H) (hnx : ∀ i H, Rel i W H → Rel (i + 1) 0 H) (hst : ∀ i j H, i < D.length → j < W → h.size < H.size → Rel i j H → CallA Try.prog g (#[.int .i64 (i : Int), .int .i64 (j : Int)] ++ cs) H fun _ H' => Rel i (j + 1) H' ∧ ∃ f, Chg f H H' ∧ h.size ∉ f) : CallA Try.prog 21 #[.agg #[.int .i64 p, vd, va, vb], .func (.func g) #[] cs] h fun v' h' => v' = .tuple #[] ∧ Rel D.length 0 h' := by
 have hle := RdS.le hd
 have eB := hR0 _ _ _ hR
 refine callA_intro TTok (args := [_, _]) Try.func21 (by kernel_rfl) rfl 22 rfl (by simp) [] rfl ?_
 simp only [idxs, Nat.reduceAdd]
 refine den_seq ?_
 refine den_region TTok ?_
 intro K hK
 simp -implicitDefEqProofs (disch := first | decide | assumption | omega) only [go_sem, wrap_id]
 refine op_box (cs := #[.int .i64 (p), vd, va, vb]) rfl ?_
 intro h0_0 e0_0 hb0_0 z0_0
 have := Ext.size e0_0
 replace eB := Ext.trans eB e0_0
 try simp -implicitDefEqProofs (disch := first | decide | assumption | omega) only [go_sem, wrap_id]
 refine hK _ _ ?_
 clear hK K
 refine den_seq ?_
 refine den_region TTok ?_
 intro K hK
 simp -implicitDefEqProofs (disch := first | decide | assumption | omega) only [go_sem, ld30, RdS.len hd sl27, RdS.idx hd sl27, RdS.cellB hd (Ext.pres eB), RdS.cells hd, BoxAt.cell hb0_0, wrap_id]
 try simp -implicitDefEqProofs (disch := first | decide | assumption | omega) only [go_sem, wrap_id]
 refine CallA.mono (iWide_ok _ _ _ _ D _ (RdS.pres hd (Ext.pres eB))) ?_
 intro v_ h1_1
 rintro ⟨rfl, e1_1⟩
 replace hb0_0 := BoxAt.ext hb0_0 e1_1
 have := Ext.size e1_1
 replace eB := Ext.trans eB e1_1
 try simp -implicitDefEqProofs (disch := first | decide | assumption | omega) only [go_sem, wrap_id]
 refine hK _ _ ?_
 clear hK K
 refine den_block ?_
 refine den_sel [8, 1, 2, 7] ?_
 intro env_1
 simp only [go_sem]
 refine den_loopS (σ := Nat) (fun s => [(8, .int .i64 (s : Int))]) (fun s H => Ext h0 H ∧ s ≤ D.length ∧ Rel s 0 H ∧ BoxAt H h.size #[.int .i64 p, vd, va, vb] 30) (fun s => D.length - s) 0 ?_ ?_
 ·exact ⟨eB, by omega, hRe _ _ _ _ hR (by first | exact Ext.trans e0_0 e1_1 | assumption), hb0_0⟩
 ·rintro i h4 ee3 ⟨eB, hi, hR, hb0_0⟩
  simp only [List.cons_append, List.nil_append]
  have := Ext.size eB
  refine den_seq ?_
  refine den_region TTok ?_
  intro K hK
  simp -implicitDefEqProofs (disch := first | decide | assumption | omega) only [go_sem, wrap_id]
  refine hK _ _ ?_
  clear hK K
  refine den_seq ?_
  refine den_cond rfl (fun c0 => ?_) (fun c0 => ?_)
  ·try simp only [decide_eq_true_eq, decide_eq_false_iff_not, beq_iff_eq, beq_eq_false_iff_ne, bne_iff_ne, ne_eq, Bool.not_eq_true', Bool.not_eq_false', Bool.and_eq_true, Bool.or_eq_true, bne_eq_false_iff_eq] at c0
   refine den_skip ?_
   refine den_seq ?_
   refine den_block ?_
   refine den_seq ?_
   refine den_region TTok ?_
   intro K hK
   simp -implicitDefEqProofs (disch := first | decide | assumption | omega) only [go_sem, wrap_id]
   refine hK _ _ ?_
   clear hK K
   refine den_seq ?_
   have hWW := hW (by omega)
   refine den_region TTok ?_
   intro K hK
   simp -implicitDefEqProofs (disch := first | decide | assumption | omega) only [go_sem, ld30, RdS.len hd sl27, RdS.idx hd sl27, RdS.cellB hd (Ext.pres eB), RdS.cells hd, BoxAt.cell hb0_0, wrap_id]
   try simp -implicitDefEqProofs (disch := first | decide | assumption | omega) only [go_sem, wrap_id]
   refine CallA.mono (iHigh_ok _ _ _ _ D _ (RdS.pres hd (Ext.pres eB)) (by omega)) ?_
   intro v_ h4_1
   rintro ⟨rfl, e4_1⟩
   replace hb0_0 := BoxAt.ext hb0_0 e4_1
   have := Ext.size e4_1
   replace eB := Ext.trans eB e4_1
   try simp -implicitDefEqProofs (disch := first | decide | assumption | omega) only [go_sem, wrap_id]
   refine hK _ _ ?_
   clear hK K
   refine den_block ?_
   refine den_sel [13, 1, 2, 4, 7, 8, 12] ?_
   intro env_5
   simp only [go_sem]
   refine den_loopS (σ := Nat) (fun s => [(13, .int .i64 (s : Int))]) (fun s H => Ext h0 H ∧ s ≤ W ∧ Rel i s H ∧ BoxAt H h.size #[.int .i64 p, vd, va, vb] 30) (fun s => W - s) 0 ?_ ?_
   ·exact ⟨eB, by omega, hRe _ _ _ _ hR (by assumption), hb0_0⟩
   ·rintro j h8 ee7 ⟨eB, hj, hR, hb0_0⟩
    simp only [List.cons_append, List.nil_append]
    have := Ext.size eB
    refine den_seq ?_
    refine den_region TTok ?_
    intro K hK
    simp -implicitDefEqProofs (disch := first | decide | assumption | omega) only [go_sem, wrap_id]
    refine hK _ _ ?_
    clear hK K
    refine den_seq ?_
    refine den_cond rfl (fun c1 => ?_) (fun c1 => ?_)
    ·try simp only [decide_eq_true_eq, decide_eq_false_iff_not, beq_iff_eq, beq_eq_false_iff_ne, bne_iff_ne, ne_eq, Bool.not_eq_true', Bool.not_eq_false', Bool.and_eq_true, Bool.or_eq_true, bne_eq_false_iff_eq] at c1
     refine den_skip ?_
     refine den_seq ?_
     refine den_block ?_
     refine den_seq ?_
     refine den_region TTok ?_
     intro K hK
     simp -implicitDefEqProofs (disch := first | decide | assumption | omega) only [go_sem, wrap_id]
     refine hK _ _ ?_
     clear hK K
     refine den_region TTok ?_
     intro K hK
     simp -implicitDefEqProofs (disch := first | decide | assumption | omega) only [go_sem, wrap_id]
     try simp -implicitDefEqProofs (disch := first | decide | assumption | omega) only [go_sem, wrap_id]
     refine CallA.mono (hst i j _ (by omega) (by omega) hb0_0.lt hR) ?_
     intro u h7_3
     rintro ⟨hR2, fv, cv, hfv⟩
     replace hb0_0 := BoxAt.chg hb0_0 cv hfv
     replace eB := hR0 _ _ _ hR2
     try simp -implicitDefEqProofs (disch := first | decide | assumption | omega) only [go_sem, wrap_id]
     refine hK _ _ ?_
     clear hK K
     refine den_blk ?_
     refine den_region TTok ?_
     intro K hK
     simp -implicitDefEqProofs (disch := first | decide | assumption | omega) only [go_sem, wrap_id]
     refine hK _ _ ?_
     clear hK K
     refine den_stop ?_
     exact ⟨j + 1, by simp [HasL, puts_at], ⟨eB, by omega, hR2, hb0_0⟩, by omega⟩
    ·try simp only [decide_eq_true_eq, decide_eq_false_iff_not, beq_iff_eq, beq_eq_false_iff_ne, bne_iff_ne, ne_eq, Bool.not_eq_true', Bool.not_eq_false', Bool.and_eq_true, Bool.or_eq_true, bne_eq_false_iff_eq] at c1
     refine den_exit ?_
     refine denX_code ?_
     refine denX_stop ?_
     refine denX_hit ?_
     refine den_blk ?_
     refine den_region TTok ?_
     intro K hK
     simp -implicitDefEqProofs (disch := first | decide | assumption | omega) only [go_sem, wrap_id]
     refine hK _ _ ?_
     clear hK K
     refine den_stop ?_
     rw [show j = W by omega] at hR
     exact ⟨i + 1, by simp [HasL, puts_at], ⟨eB, by omega, hnx _ _ hR, hb0_0⟩, by omega⟩
  ·try simp only [decide_eq_true_eq, decide_eq_false_iff_not, beq_iff_eq, beq_eq_false_iff_ne, bne_iff_ne, ne_eq, Bool.not_eq_true', Bool.not_eq_false', Bool.and_eq_true, Bool.or_eq_true, bne_eq_false_iff_eq] at c0
   refine den_exit ?_
   refine denX_code ?_
   refine denX_stop ?_
   refine denX_hit ?_
   refine den_nil ?_
   simp (disch := decide) only [resP_0, puts_same, puts_ne]
   rw [show i = D.length by omega] at hR
   exact ⟨by first | rfl | trivial, hR⟩
end Go.Proofs.Ytkdnnfkdgmblgaa

namespace Go.Proofs.Ytkdnnfkdgmblgaa
open Go
theorem nodup_flatten_setH {l : List (List Nat)} {j : Nat} {f f' : List Nat} (hn : l.flatten.Nodup) (hf : f'.Nodup) (hj : l[j]? = some f) (hd : ∀ b ∈ f', b ∈ f ∨ b ∉ l.flatten) : ((l.set j f').flatten).Nodup := by
 obtain ⟨h1, h2⟩ := List.pairwise_flatten.1 hn
 obtain ⟨hjl, hjf⟩ := List.getElem?_eq_some_iff.1 hj
 refine List.pairwise_flatten.2 ⟨fun x hx => ?_, ?_⟩
 ·rcases List.mem_or_eq_of_mem_set hx with h | h
  ·exact h1 x h
  ·subst h; exact hf
 ·rw [List.pairwise_iff_getElem] at h2 ⊢
  intro a b ha hb hab p hp q hq
  rw [List.length_set] at ha hb
  by_cases e1 : j = a
  ·subst e1
   rw [List.getElem_set_self] at hp
   rw [List.getElem_set_ne (by omega)] at hq
   rcases hd p hp with h | h
   ·exact h2 j b hjl hb hab p (by rw [hjf]; exact h) q hq
   ·exact fun e => h (List.mem_flatten.2 ⟨_, List.getElem_mem hb, e ▸ hq⟩)
  ·rw [List.getElem_set_ne e1] at hp
   by_cases e2 : j = b
   ·subst e2
    rw [List.getElem_set_self] at hq
    rcases hd q hq with h | h
    ·exact h2 a j ha hjl hab p hp q (by rw [hjf]; exact h)
    ·exact fun e => h (List.mem_flatten.2 ⟨_, List.getElem_mem ha, e ▸ hp⟩)
   ·rw [List.getElem_set_ne e2] at hq
    exact h2 a b ha hb hab p hp q hq
/-- A list of one's own of which one element is out. -/
def Hole {α : Type} (e : TypeId) (E : Heap → Value → α → List Nat → Prop) (h : Heap) (v : Value) (xs : List α) (j : Nat) (f fp : List Nat) : Prop :=
 ∃ (b c : Nat) (cur : Array Value) (fps : List (List Nat)), fp = b :: fps.flatten ∧ v = .slice (some ⟨b, 0, none⟩) xs.length c ∧ BoxAt h b cur e ∧ cur.size = c ∧ c ≤ 9223372036854775807 ∧ xs.length ≤ c ∧ fps.length = xs.length ∧ fps[j]? = some f ∧ ∀ i (hi : i < xs.length), i ≠ j → ∃ u g, cur[i]? = some u ∧ fps[i]? = some g ∧ E h u xs[i] g
section
variable {α : Type} {e : TypeId} {E : Heap → Value → α → List Nat → Prop} [Own E] {h h' : Heap} {v : Value} {xs : List α} {fp f : List Nat} {j : Nat}
theorem OS.take [Inhabited α] (ho : OS e E h v xs fp) (hn : fp.Nodup) (j : Nat) (hj : j < xs.length) : ∃ f, Hole e E h v xs j f fp ∧ E h (rowV h v j) (xs.getD j default) f ∧ (∀ b ∈ f, b ∈ fp) ∧ f.Nodup := by
 obtain ⟨f, h1, h2, h3, _⟩ := OS.elem ho hn j hj
 rcases ho with ⟨_, rfl, _⟩ | ⟨b, c, cur, fps, rfl, r⟩
 ·simp at hj
 ·obtain ⟨u, g, k1, k2, k4⟩ := r.el j hj
  have hru : rowV h v j = u := by
   unfold rowV
   rw [r.val]
   simp only [sA]
   rw [addr_add, r.box.cell, Nat.zero_add, k1]; rfl
  have hx : xs.getD j default = xs[j] := by rw [List.getD_eq_getElem?_getD, List.getElem?_eq_getElem hj]; rfl
  have hgm : g ∈ fps := List.mem_of_getElem? k2
  refine ⟨g, ⟨b, c, cur, fps, rfl, r.val, r.box, r.size, r.max, r.le, r.len, k2, fun i hi _ => r.el i hi⟩, by rw [hru, hx]; exact k4, fun q hq => List.mem_cons_of_mem _ (List.mem_flatten.2 ⟨g, hgm, hq⟩), (List.pairwise_flatten.1 (List.nodup_cons.1 hn).2).1 g hgm⟩
theorem Hole.chg (ho : Hole e E h v xs j f fp) (hn : fp.Nodup) (hj : j < xs.length) {f0 : List Nat} (c : Chg f0 h h') (hs : ∀ b ∈ f0, b ∈ f ∨ b ∉ fp) : Hole e E h' v xs j f fp := by
 obtain ⟨b, cc, cur, fps, rfl, h1, h2, h3, h4, h5, h6, h7, h8⟩ := ho
 obtain ⟨hb, hfl⟩ := List.nodup_cons.1 hn
 have hfn := List.pairwise_flatten.1 hfl
 have hfm : f ∈ fps := List.mem_of_getElem? h7
 refine ⟨b, cc, cur, fps, rfl, h1, ?_, h3, h4, h5, h6, h7, fun i hi hij => ?_⟩
 ·have := c.block b h2.lt (fun hq => (hs b hq).elim (fun hq => hb (List.mem_flatten.2 ⟨f, hfm, hq⟩)) (fun hq => hq (by simp)))
  unfold BoxAt
  rw [this]; exact h2
 ·obtain ⟨u, g, k1, k2, k4⟩ := h8 i hi hij
  refine ⟨u, g, k1, k2, Own.loc (fun q hq => c.block q (Own.lt k4 q hq) fun hqf => ?_) k4⟩
  have hgm : g ∈ fps := List.mem_of_getElem? k2
  rcases hs q hqf with hqf | hqf
  ·obtain ⟨hjl, e1⟩ := List.getElem?_eq_some_iff.1 h7
   obtain ⟨hil, e2⟩ := List.getElem?_eq_some_iff.1 k2
   have hp := List.pairwise_iff_getElem.1 hfn.2
   rcases Nat.lt_or_gt_of_ne hij with hlt | hgt
   ·have := hp i j hil hjl hlt
    rw [e1, e2] at this
    exact this _ hq _ hqf rfl
   ·have := hp j i hjl hil hgt
    rw [e1, e2] at this
    exact this _ hqf _ hq rfl
  ·exact hqf (List.mem_cons_of_mem _ (List.mem_flatten.2 ⟨g, hgm, hq⟩))
theorem Hole.put (ho : Hole e E h v xs j f fp) (hn : fp.Nodup) (hj : j < xs.length) {u : Value} {x : α} {f' : List Nat} (hE : E h u x f') (hnx : f'.Nodup) (hd : ∀ b ∈ f', b ∈ f ∨ b ∉ fp) :
  (hcell h ((sA v).add j)).isSome = true ∧ hfrozen h ((sA v).add j) = false ∧ ∃ fp', OS e E (hset h ((sA v).add j) u) v (xs.set j x) fp' ∧ fp'.Nodup ∧ (∀ b ∈ fp', b ∈ fp ∨ b ∈ f') ∧ Chg fp h (hset h ((sA v).add j) u) := by
 obtain ⟨b, c, cur, fps, rfl, h1, h2, h3, h4, h5, h6, h7, h8⟩ := ho
 have ha : (sA v).add j = ⟨b, j, none⟩ := by rw [h1]; simp only [sA]; rw [addr_add, Nat.zero_add]
 have hjc : j < cur.size := by omega
 obtain ⟨hnb, hnf⟩ := List.nodup_cons.1 hn
 have hfm : f ∈ fps := List.mem_of_getElem? h7
 have hbf : b ∉ f' := fun hm => (hd b hm).elim (fun hq => hnb (List.mem_flatten.2 ⟨f, hfm, hq⟩)) (fun hq => hq (by simp))
 rw [ha]
 refine ⟨by rw [h2.cell, Array.getElem?_eq_getElem hjc]; rfl, h2.frozen _, b :: (fps.set j f').flatten, .inr ⟨b, c, cur.setIfInBounds j u, fps.set j f', rfl, ⟨by rw [List.length_set]; exact h1, h2.set, by rw [Array.size_setIfInBounds]; exact h3, h4, by rw [List.length_set]; exact h5, by rw [List.length_set, List.length_set]; exact h6, fun i hi => ?_⟩⟩, ?_, ?_, (hset_chg h b j u).mono (by simp)⟩
 ·rw [List.length_set] at hi
  by_cases hij : j = i
  ·subst hij
   refine ⟨u, f', by rw [Array.getElem?_setIfInBounds_self_of_lt hjc], by rw [List.getElem?_set_self (by rw [h6]; exact hj)], ?_⟩
   simp only [List.getElem_set_self]
   exact Own.loc (fun q hq => hset_other fun e => hbf (e ▸ hq)) hE
  ·obtain ⟨u', g, k1, k2, k4⟩ := h8 i hi (fun e => hij e.symm)
   refine ⟨u', g, by rw [Array.getElem?_setIfInBounds_ne hij]; exact k1, by rw [List.getElem?_set_ne hij]; exact k2, ?_⟩
   rw [List.getElem_set_ne hij]
   exact Own.loc (fun q hq => hset_other fun e => hnb (List.mem_flatten.2 ⟨g, List.mem_of_getElem? k2, e ▸ hq⟩)) k4
 ·refine List.nodup_cons.2 ⟨fun hm => ?_, nodup_flatten_setH hnf hnx h7 (fun q hq => (hd q hq).imp id (fun h1 h2 => h1 (List.mem_cons_of_mem _ h2)))⟩
  rcases mem_flatten_set hm with h1 | h1
  ·exact hnb h1
  ·exact hbf h1
 ·intro q hq
  rcases List.mem_cons.1 hq with rfl | hq
  ·exact .inl (by simp)
  ·rcases mem_flatten_set hq with h1 | h1
   ·exact .inl (List.mem_cons_of_mem _ h1)
   ·exact .inr h1
end
section
variable {P : Program} {T : Tab} {n : Nat} {K : Env → Heap → Prop} {env : Env} {h : Heap} {d : Option Tmp} {ty : TypeId} {p : String} {a : Array Edge} {g : Option (Nat × Bool)} {t e : TypeId}
theorem op_putH {α : Type} {E : Heap → Value → α → List Nat → Prop} [Own E] {v : Value} {xs : List α} {fp f : List Nat} {x y : Operand} {j : Nat} {u : Value} {w : α} {f' : List Nat} (hst : ∀ h a v, storeV T h t a v = if v.cells.size = 1 then hputs a h 0 v.cells.toList else none)
  (ho : Hole e E h v xs j f fp) (hn : fp.Nodup) (hj : j < xs.length) (hE : E h u w f') (hnx : f'.Nodup) (hd : ∀ b ∈ f', b ∈ f ∨ b ∉ fp) (hx : ev env x = .pointer (some ((sA v).add j))) (hy : ev env y = u)
  (hk : ∀ h' fp', OS e E h' v (xs.set j w) fp' → fp'.Nodup → (∀ b ∈ fp', b ∈ fp ∨ b ∈ f') → Chg fp h h' → outv n ⟨d, .store t x y, ty, p, a, g⟩ K env h' undef) : opP P T n ⟨d, .store t x y, ty, p, a, g⟩ K env h := by
 obtain ⟨h1, h2, fp', h3, h4, h5, h6⟩ := Hole.put ho hn hj hE hnx hd
 obtain ⟨one, cells⟩ := Own.one hE
 rw [opP_store, hx, hy, asAd_ptr, Bd_some, hst, cells]
 rw [if_pos (show #[u].size = 1 from rfl)]
 have ha : ((sA v).add j).add 0 = (sA v).add j := by
  unfold Addr.add; simp
 have : hputs ((sA v).add j) h 0 #[u].toList = some (hset h ((sA v).add j) u) := by
  show hputs ((sA v).add j) h 0 [u] = _
  simp only [hputs]
  rw [ha, if_pos ⟨h1, h2, one⟩]
 rw [this, Bd_some]
 exact hk _ _ h3 h4 h5 h6
end
end Go.Proofs.Ytkdnnfkdgmblgaa

namespace Go.Proofs.Ytkdnnfkdgmblgaa
open Go
set_option maxRecDepth 100000 in
theorem iWd2_ok (p : Int) (vd va vb : Value) (D : List (List Int)) (i j : Int) (b5 : Nat) (h0 h : Heap) (hd : R2 h0 vd D) (eB : Ext h0 h) (hb5 : BoxAt h b5 #[.int .i64 p, vd, va, vb] 30) (hij : 0 ≤ i ∧ i ≤ 50 ∧ 0 ≤ j ∧ j ≤ 50) (hlD : D.length ≤ 100 ∧ ∀ r, r < D.length → (D.getD r default).length ≤ 100) (hWD : ∀ r, r < D.length → (D.getD r default).length = (D.getD 0 default).length) : CallA Try.prog 57 #[.int .i64 i, .int .i64 j, .pointer (some ⟨b5, 0, none⟩)] h fun v' h' => v' = .int .i64 (dimQ D (i - 1) j) ∧ Ext h h' := by
 refine callA_intro TTok (args := [_, _, _]) Try.func57 (by kernel_rfl) rfl 11 rfl (by simp) [.tmp 5] rfl ?_
 simp only [idxs, Nat.reduceAdd]
 refine den_seq ?_
 refine den_region TTok ?_
 intro K hK
 simp -implicitDefEqProofs (disch := first | decide | assumption | omega) only [go_sem, wrap_id]
 refine hK _ _ ?_
 clear hK K
 refine den_seq ?_
 refine den_region TTok ?_
 intro K hK
 simp -implicitDefEqProofs (disch := first | decide | assumption | omega) only [go_sem, ld30, RdS.len hd sl27, RdS.idx hd sl27, RdS.cellB hd (Ext.pres eB), RdS.cells hd, BoxAt.cell hb5, wrap_id]
 try simp -implicitDefEqProofs (disch := first | decide | assumption | omega) only [go_sem, wrap_id]
 refine CallA.mono (iDimD_ok _ _ _ _ D _ (RdS.pres hd (Ext.pres eB)) (i - (1 : Int)) j (by omega) hlD hWD) ?_
 intro v_ h1_4
 rintro ⟨rfl, e1_4⟩
 replace hb5 := BoxAt.ext hb5 e1_4
 have := Ext.size e1_4
 replace eB := Ext.trans eB e1_4
 try simp -implicitDefEqProofs (disch := first | decide | assumption | omega) only [go_sem, wrap_id]
 refine hK _ _ ?_
 clear hK K
 refine den_ret ?_
 simp (disch := decide) only [resP_1, puts_same, puts_ne]
 exact ⟨by first | rfl | trivial, Ext.trans (Ext.refl _) (by first | assumption | (refine Ext.trans ?_ (by assumption); assumption))⟩

set_option maxRecDepth 100000 in
theorem iWd3_ok (p : Int) (vd va vb : Value) (D : List (List Int)) (i j : Int) (b5 : Nat) (h0 h : Heap) (hd : R2 h0 vd D) (eB : Ext h0 h) (hb5 : BoxAt h b5 #[.int .i64 p, vd, va, vb] 30) (hij : 0 ≤ i ∧ i ≤ 50 ∧ 0 ≤ j ∧ j ≤ 50) (hlD : D.length ≤ 100 ∧ ∀ r, r < D.length → (D.getD r default).length ≤ 100) (hWD : ∀ r, r < D.length → (D.getD r default).length = (D.getD 0 default).length) : CallA Try.prog 59 #[.int .i64 i, .int .i64 j, .pointer (some ⟨b5, 0, none⟩)] h fun v' h' => v' = .int .i64 (dimQ D i (j - 1)) ∧ Ext h h' := by
 refine callA_intro TTok (args := [_, _, _]) Try.func59 (by kernel_rfl) rfl 11 rfl (by simp) [.tmp 5] rfl ?_
 simp only [idxs, Nat.reduceAdd]
 refine den_seq ?_
 refine den_region TTok ?_
 intro K hK
 simp -implicitDefEqProofs (disch := first | decide | assumption | omega) only [go_sem, wrap_id]
 refine hK _ _ ?_
 clear hK K
 refine den_seq ?_
 refine den_region TTok ?_
 intro K hK
 simp -implicitDefEqProofs (disch := first | decide | assumption | omega) only [go_sem, ld30, RdS.len hd sl27, RdS.idx hd sl27, RdS.cellB hd (Ext.pres eB), RdS.cells hd, BoxAt.cell hb5, wrap_id]
 try simp -implicitDefEqProofs (disch := first | decide | assumption | omega) only [go_sem, wrap_id]
 refine CallA.mono (iDimD_ok _ _ _ _ D _ (RdS.pres hd (Ext.pres eB)) i (j - (1 : Int)) (by omega) hlD hWD) ?_
 intro v_ h1_4
 rintro ⟨rfl, e1_4⟩
 replace hb5 := BoxAt.ext hb5 e1_4
 have := Ext.size e1_4
 replace eB := Ext.trans eB e1_4
 try simp -implicitDefEqProofs (disch := first | decide | assumption | omega) only [go_sem, wrap_id]
 refine hK _ _ ?_
 clear hK K
 refine den_ret ?_
 simp (disch := decide) only [resP_1, puts_same, puts_ne]
 exact ⟨by first | rfl | trivial, Ext.trans (Ext.refl _) (by first | assumption | (refine Ext.trans ?_ (by assumption); assumption))⟩
end Go.Proofs.Ytkdnnfkdgmblgaa

namespace Go.Proofs.Ytkdnnfkdgmblgaa
open Go
def blR (d w : Int) : List (List Int) := List.replicate d.toNat (List.replicate w.toNat 0)
theorem blR_step {k : Nat} {w : Int} : List.replicate k (List.replicate w.toNat (0 : Int)) ++ [List.replicate w.toNat 0] = List.replicate (k + 1) (List.replicate w.toNat 0) := List.replicate_succ'.symm

set_option maxRecDepth 100000 in
theorem iBl11_ok (p w : Int) (vd va vb vT : Value) (D : List (List Int)) (T : List (List (List (List Int)))) (i j : Nat) (gw : FuncId) (b2 b3 b4 b5 : Nat) (fT : List Nat) (h : Heap) (hd : R2 h vd D) (hb2 : BoxAt h b2 #[vd] 27) (hb3 : BoxAt h b3 #[.func (.func gw) #[] #[.pointer (some ⟨b5, 0, none⟩)]] 72) (hb4 : BoxAt h b4 #[vT] 28) (hb5 : BoxAt h b5 #[.int .i64 p, vd, va, vb] 30) (hT : O4 h vT T fT) (hnT : fT.Nodup) (hnb : b2 ∉ fT ∧ b3 ∉ fT ∧ b4 ∉ fT ∧ b5 ∉ fT) (hi : i < D.length ∧ j < (D.getD i default).length ∧ D.length ≤ 100 ∧ (D.getD i default).length ≤ 100) (hdm : 0 ≤ (D.getD i default).getD j 0 ∧ (D.getD i default).getD j 0 ≤ 100) (hw0 : 0 ≤ w ∧ w ≤ 100) (hTl : T.length = D.length) (hTi : (T.getD i default).length ≤ 100) (hw : ∀ H, Ext h H → BoxAt H b5 #[.int .i64 p, vd, va, vb] 30 → CallA Try.prog gw #[.int .i64 (i : Int), .int .i64 (j : Int), .pointer (some ⟨b5, 0, none⟩)] H fun v' H' => v' = .int .i64 w ∧ Ext H H') : CallA Try.prog 56 #[.int .i64 (i : Int), .int .i64 (j : Int), .pointer (some ⟨b2, 0, none⟩), .pointer (some ⟨b3, 0, none⟩), .pointer (some ⟨b4, 0, none⟩)] h fun v' h' => v' = .tuple #[] ∧ (∃ fT', O4 h' vT (T.set i (T.getD i default ++ [blR ((D.getD i default).getD j 0) w])) fT' ∧ fT'.Nodup ∧ (∀ b ∈ fT', b ∈ fT ∨ h.size ≤ b)) ∧ Chg fT h h' := by
 have hfT : Fresh 0 fT := ⟨hnT, fun b _ => Nat.zero_le b⟩
 have hlhT := OS.lt hT
 have hlhb2 := one_lt hb2.lt
 have hlhb3 := one_lt hb3.lt
 have hlhb4 := one_lt hb4.lt
 have hlhb5 := one_lt hb5.lt
 have hle := RdS.le hd
 have hleT := OS.len_le hT
 refine callA_intro TTok (args := [_, _, _, _, _]) Try.func56 (by kernel_rfl) rfl 37 rfl (by simp) [] rfl ?_
 simp only [idxs, Nat.reduceAdd]
 refine den_seq ?_
 refine den_region TTok ?_
 intro K hK
 simp -implicitDefEqProofs (disch := first | decide | assumption | omega) only [go_sem, wrap_id]
 refine op_bs0 sz27 O1 ?_
 intro v0_0 h0_0 ho0_0 e0_0
 replace hT := OS.ext hT e0_0
 replace hb2 := BoxAt.ext hb2 e0_0
 replace hb3 := BoxAt.ext hb3 e0_0
 replace hb4 := BoxAt.ext hb4 e0_0
 replace hb5 := BoxAt.ext hb5 e0_0
 have := Ext.size e0_0
 have eB := e0_0
 have hfho0_0 : Fresh h.size [h.size] := Fresh.one _
 have hlho0_0 := OS.lt ho0_0
 try simp -implicitDefEqProofs (disch := first | decide | assumption | omega) only [go_sem, RdS.len (OS.rd ho0_0) sl27, RdS.idx (OS.rd ho0_0) sl27, RdS.cellN (OS.rd ho0_0), RdS.cells (OS.rd ho0_0), wrap_id]
 refine hK _ _ ?_
 clear hK K
 refine den_seq ?_
 refine den_seq ?_
 refine den_region TTok ?_
 intro K hK
 have hr1 := RdS.rowN hd i (by omega)
 have hlhr1 := RdS.le hr1
 simp -implicitDefEqProofs (disch := first | decide | assumption | omega) only [go_sem, ld27, ld22, ld2, RdS.len hd sl27, RdS.idx hd sl27, RdS.cellB hd (Ext.pres eB), RdS.cells hd, RdS.len hr1 sl22, RdS.idx hr1 sl22, R1.intB hr1 (Ext.pres eB), RdS.cells hr1, BoxAt.cell hb2, wrap_id]
 refine hK _ _ ?_
 clear hK K
 refine den_block ?_
 refine den_sel [7, 16, 0, 1, 3, 4, 15] ?_
 intro env_2
 simp only [go_sem]
 refine den_loopS (σ := Nat × Value × List Nat) (fun st_ => [(7, st_.2.1), (16, .int .i64 (st_.1 : Int))]) (fun st_ H => ((st_.1 : Int) ≤ (D.getD i default).getD j 0) ∧ (O2 H st_.2.1 (List.replicate st_.1 (List.replicate w.toNat 0)) st_.2.2) ∧ (Fresh (h.size) st_.2.2) ∧ (Sub [h.size] h0_0.size st_.2.2) ∧ (Chg [h.size] h0_0 H)) (fun st_ => ((D.getD i default).getD j 0).toNat - st_.1) (0, v0_0, [h.size]) ?_ ?_
 ·exact ⟨by omega, by show O2 _ _ [] _; exact ho0_0, hfho0_0, Sub.refl, Chg.refl _ _⟩
 ·rintro ⟨k, vhR, fphR⟩ h5 ee4 ⟨hi0, hR, hfhR, sbhR, cL3⟩
  dsimp only at hi0 hR hfhR sbhR cL3
  replace hT := OS.chg hT cL3 (apart_lt hlhT hfho0_0 (by omega))
  replace hb2 := BoxAt.chgA hb2 cL3 (apart_lt hlhb2 hfho0_0 (by omega))
  replace hb3 := BoxAt.chgA hb3 cL3 (apart_lt hlhb3 hfho0_0 (by omega))
  replace hb4 := BoxAt.chgA hb4 cL3 (apart_lt hlhb4 hfho0_0 (by omega))
  replace hb5 := BoxAt.chgA hb5 cL3 (apart_lt hlhb5 hfho0_0 (by omega))
  have := cL3.size
  replace eB := Ext.then eB cL3 (ge_of hfho0_0 (by omega))
  have hlhR := OS.lt hR
  simp only [List.cons_append, List.nil_append]
  have hlr : (List.replicate k (List.replicate w.toNat (0 : Int))).length = k := List.length_replicate
  refine den_seq ?_
  refine den_region TTok ?_
  intro K hK
  simp -implicitDefEqProofs (disch := first | decide | assumption | omega) only [go_sem, wrap_id]
  refine hK _ _ ?_
  clear hK K
  refine den_seq ?_
  refine den_cond rfl (fun c0 => ?_) (fun c0 => ?_)
  ·try simp only [decide_eq_true_eq, decide_eq_false_iff_not, beq_iff_eq, beq_eq_false_iff_ne, bne_iff_ne, ne_eq, Bool.not_eq_true', Bool.not_eq_false', Bool.and_eq_true, Bool.or_eq_true, bne_eq_false_iff_eq] at c0
   refine den_skip ?_
   refine den_seq ?_
   refine den_block ?_
   refine den_region TTok ?_
   intro K hK
   simp -implicitDefEqProofs (disch := first | decide | assumption | omega) only [go_sem, ld72, RdS.len (OS.rd hR) sl27, RdS.idx (OS.rd hR) sl27, RdS.cellN (OS.rd hR), RdS.cells (OS.rd hR), BoxAt.cell hb3, wrap_id]
   try simp -implicitDefEqProofs (disch := first | decide | assumption | omega) only [go_sem, wrap_id]
   refine CallA.mono (hw _ eB hb5) ?_
   intro v_ h3_4
   rintro ⟨rfl, e3_4⟩
   replace hT := OS.ext hT e3_4
   replace hR := OS.ext hR e3_4
   replace hb2 := BoxAt.ext hb2 e3_4
   replace hb3 := BoxAt.ext hb3 e3_4
   replace hb4 := BoxAt.ext hb4 e3_4
   replace hb5 := BoxAt.ext hb5 e3_4
   have := Ext.size e3_4
   replace eB := Ext.trans eB e3_4
   replace cL3 := Chg.stepE cL3 e3_4
   try simp -implicitDefEqProofs (disch := first | decide | assumption | omega) only [go_sem, wrap_id]
   refine op_make sz22 rfl rfl (by omega) (by omega) OI 0 (fun _ => ⟨rfl, rfl⟩) ?_
   intro v3_5 h3_5 ho3_5 e3_5
   replace hT := OS.ext hT e3_5
   replace hR := OS.ext hR e3_5
   replace hb2 := BoxAt.ext hb2 e3_5
   replace hb3 := BoxAt.ext hb3 e3_5
   replace hb4 := BoxAt.ext hb4 e3_5
   replace hb5 := BoxAt.ext hb5 e3_5
   have := Ext.size e3_5
   replace eB := Ext.trans eB e3_5
   replace cL3 := Chg.stepE cL3 e3_5
   have hfho3_5 : Fresh h3_4.size [h3_4.size] := Fresh.one _
   have hlenho3_5 : (List.replicate (w).toNat (0 : Int)).length = (w).toNat := List.length_replicate
   have hlho3_5 := OS.lt ho3_5
   try simp -implicitDefEqProofs (disch := first | decide | assumption | omega) only [go_sem, wrap_id]
   refine op_bs1 sz27 rfl (OS.one ho3_5).2 ?_
   try simp -implicitDefEqProofs (disch := first | decide | assumption | omega) only [go_sem, wrap_id]
   refine op_append1 sz27 hR hfhR.nodup ho3_5 hfho3_5.nodup (apart_lt hlhR hfho3_5 (by omega)) (by first | omega | (simp; omega)) rfl rfl ?_
   intro v3_7 h3_7 fp3_7 ho3_7 hn3_7 hs3_7 c3_7
   have hsz3_7 := c3_7.size
   have hfho3_7 : Fresh h.size fp3_7 := Fresh.appd hfhR hfho3_5 (by omega) (by omega) hn3_7 hs3_7
   have sb6 : Sub [h.size] h0_0.size fp3_7 := Sub.grow sbhR (Sub.fresh hfho3_5 (by omega)) (by omega) hs3_7
   replace hT := OS.chg hT c3_7 (apart_lt hlhT hfhR (by omega))
   replace hb2 := BoxAt.chgA hb2 c3_7 (apart_lt hlhb2 hfhR (by omega))
   replace hb3 := BoxAt.chgA hb3 c3_7 (apart_lt hlhb3 hfhR (by omega))
   replace hb4 := BoxAt.chgA hb4 c3_7 (apart_lt hlhb4 hfhR (by omega))
   replace hb5 := BoxAt.chgA hb5 c3_7 (apart_lt hlhb5 hfhR (by omega))
   have := c3_7.size
   replace eB := Ext.then eB c3_7 (ge_of hfhR (by omega))
   replace cL3 := Chg.step cL3 c3_7 sbhR
   have hlho3_7 := OS.lt ho3_7
   try simp -implicitDefEqProofs (disch := first | decide | assumption | omega) only [go_sem, RdS.len (OS.rd ho3_7) sl27, RdS.idx (OS.rd ho3_7) sl27, RdS.cellN (OS.rd ho3_7), RdS.cells (OS.rd ho3_7), wrap_id]
   refine hK _ _ ?_
   clear hK K
   refine den_blk ?_
   refine den_region TTok ?_
   intro K hK
   simp -implicitDefEqProofs (disch := first | decide | assumption | omega) only [go_sem, wrap_id]
   refine hK _ _ ?_
   clear hK K
   refine den_stop ?_
   rw [blR_step] at ho3_7
   exact ⟨(k + 1, v3_7, fp3_7), by simp [HasL, puts_at], ⟨by first | omega | (dsimp only; omega), ho3_7, hfho3_7, sb6, cL3⟩, by first | omega | (dsimp only; omega)⟩
  ·try simp only [decide_eq_true_eq, decide_eq_false_iff_not, beq_iff_eq, beq_eq_false_iff_ne, bne_iff_ne, ne_eq, Bool.not_eq_true', Bool.not_eq_false', Bool.and_eq_true, Bool.or_eq_true, bne_eq_false_iff_eq] at c0
   refine den_exit ?_
   refine denX_code ?_
   refine denX_stop ?_
   refine denX_hit ?_
   have hb4p := fun (o : Obj) (q : Nat) => BoxAt.cell (BoxAt.ext hb4 (Ext.push _ o)) q
   obtain ⟨fE, hH, hE, hsE, hnE⟩ := OS.take hT hnT i (by omega)
   refine den_drawT TTok mixed [8, 10] [(1, true), (2, true), (3, true), (4, true), (5, true), (6, true)] (.fork 0 [(7, false), (8, false), (9, true), (10, false)] .fin 7 [] (.fork 0 [(8, false), (9, true), (10, false)] .fin 8 [(0, true), (9, true), (10, false)] .fin)) (by kernel_rfl) ?_
   intro K hK
   have hr7 := RdS.rowN (OS.rd hT) i (by omega)
   have hlhr7 := RdS.le hr7
   have xr8 := Ext.refl h5
   simp -implicitDefEqProofs (disch := first | decide | assumption | omega) only [go_sem, ld28, ld23, RdS.len (OS.rd hT) sl28, RdS.idx (OS.rd hT) sl28, RdS.cellN (OS.rd hT), RdS.cells (OS.rd hT), RdS.len (OS.rd hR) sl27, RdS.idx (OS.rd hR) sl27, RdS.cellN (OS.rd hR), RdS.cells (OS.rd hR), BoxAt.cell hb4, RdS.len hr7 sl23, RdS.idx hr7 sl23, RdS.cellB hr7 (Ext.pres xr8), RdS.cells hr7, wrap_id, hb4p]
   refine And.intro ?_ ?_
   ·simp -implicitDefEqProofs (disch := first | decide | assumption | omega) only [go_sem, ld28, RdS.len (OS.rd hT) sl28, RdS.idx (OS.rd hT) sl28, RdS.cellN (OS.rd hT), RdS.cells (OS.rd hT), BoxAt.cell hb4, wrap_id, hb4p]
    refine op_bs1 sz23 rfl (OS.one hR).2 ?_
    try simp (disch := decide) only [outv_some, outv_none, put_puts]
    refine plK_pres (Ext.pres (Ext.push _ _)) ?_
    try simp -implicitDefEqProofs (disch := first | decide | assumption | omega) only [go_sem, wrap_id, hb4p]
    refine op_append1 sz23 hE hnE hR hfhR.nodup (fun b hb hm => (apart_lt hlhT hfhR (by omega)) b (hsE b hb) hm) (by first | omega | (simp; omega)) rfl rfl ?_
    intro v8 h5_8 fp8 ho8 hn8 hs8 c8
    have c8T := c8.mono hsE
    replace hb4 := BoxAt.chg hb4 c8T hnb.2.2.1
    have hc8 := c8T.size
    try simp (disch := decide) only [outv_some, outv_none, put_puts]
    refine plK_last (by decide) ?_
    try simp -implicitDefEqProofs (disch := first | decide | assumption | omega) only [go_sem, RdS.len (OS.rd hT) sl28, RdS.idx (OS.rd hT) sl28, RdS.cellN (OS.rd hT), RdS.cells (OS.rd hT), wrap_id, hb4p]
    have hH8 := Hole.chg hH hnT (by omega) c8 (fun b hb => .inl hb)
    refine op_putH (j := i) st23 hH8 hnT (by omega) ho8 hn8 (fun b hb => (hs8 b hb).elim .inl (fun h => .inr (fun hm => h.elim (fun h => (apart_lt hlhT hfhR (by omega)) b hm h) (fun h => by have := hlhT b hm; omega)))) rfl rfl ?_
    intro h5_10 fp10 ho10 hn10 hs10 c10
    try simp (disch := decide) only [outv_some, outv_none, put_puts]
    refine plK_last (by decide) ?_
    try simp -implicitDefEqProofs (disch := first | decide | assumption | omega) only [go_sem, wrap_id, hb4p]
    refine hK _ _ ?_
    clear hK K
    refine den_nil ?_
    simp (disch := decide) only [resP_0, puts_same, puts_ne]
    rw [show k = ((D.getD i default).getD j 0).toNat by omega] at ho10
    exact ⟨by first | rfl | trivial, ⟨fp10, ho10, hn10, fun b hb => (hs10 b hb).elim .inl (fun h => (hs8 b h).elim (fun h => .inl (hsE b h)) (fun h => .inr (h.elim (fun h => hfhR.ge b h) (fun h => by omega))))⟩, ((eB.chg _).trans c8T).trans c10⟩
   ·simp -implicitDefEqProofs (disch := first | decide | assumption | omega) only [go_sem, wrap_id, hb4p]
    refine op_bs1 sz23 rfl (OS.one hR).2 ?_
    try simp (disch := decide) only [outv_some, outv_none, put_puts]
    refine plK_pres (Ext.pres (Ext.push _ _)) ?_
    try simp -implicitDefEqProofs (disch := first | decide | assumption | omega) only [go_sem, wrap_id, hb4p]
    refine And.intro ?_ ?_
    ·simp -implicitDefEqProofs (disch := first | decide | assumption | omega) only [go_sem, ld28, RdS.len (OS.rd hT) sl28, RdS.idx (OS.rd hT) sl28, RdS.cellN (OS.rd hT), RdS.cells (OS.rd hT), BoxAt.cell hb4, wrap_id, hb4p]
     refine op_append1 sz23 hE hnE hR hfhR.nodup (fun b hb hm => (apart_lt hlhT hfhR (by omega)) b (hsE b hb) hm) (by first | omega | (simp; omega)) rfl rfl ?_
     intro v8 h5_8 fp8 ho8 hn8 hs8 c8
     have c8T := c8.mono hsE
     replace hb4 := BoxAt.chg hb4 c8T hnb.2.2.1
     have hc8 := c8T.size
     try simp (disch := decide) only [outv_some, outv_none, put_puts]
     refine plK_last (by decide) ?_
     try simp -implicitDefEqProofs (disch := first | decide | assumption | omega) only [go_sem, RdS.len (OS.rd hT) sl28, RdS.idx (OS.rd hT) sl28, RdS.cellN (OS.rd hT), RdS.cells (OS.rd hT), wrap_id, hb4p]
     have hH8 := Hole.chg hH hnT (by omega) c8 (fun b hb => .inl hb)
     refine op_putH (j := i) st23 hH8 hnT (by omega) ho8 hn8 (fun b hb => (hs8 b hb).elim .inl (fun h => .inr (fun hm => h.elim (fun h => (apart_lt hlhT hfhR (by omega)) b hm h) (fun h => by have := hlhT b hm; omega)))) rfl rfl ?_
     intro h5_10 fp10 ho10 hn10 hs10 c10
     try simp (disch := decide) only [outv_some, outv_none, put_puts]
     refine plK_last (by decide) ?_
     try simp -implicitDefEqProofs (disch := first | decide | assumption | omega) only [go_sem, wrap_id, hb4p]
     refine hK _ _ ?_
     clear hK K
     refine den_nil ?_
     simp (disch := decide) only [resP_0, puts_same, puts_ne]
     rw [show k = ((D.getD i default).getD j 0).toNat by omega] at ho10
     exact ⟨by first | rfl | trivial, ⟨fp10, ho10, hn10, fun b hb => (hs10 b hb).elim .inl (fun h => (hs8 b h).elim (fun h => .inl (hsE b h)) (fun h => .inr (h.elim (fun h => hfhR.ge b h) (fun h => by omega))))⟩, ((eB.chg _).trans c8T).trans c10⟩
    ·simp -implicitDefEqProofs (disch := first | decide | assumption | omega) only [go_sem, wrap_id, hb4p]
     refine op_append1 sz23 hE hnE hR hfhR.nodup (fun b hb hm => (apart_lt hlhT hfhR (by omega)) b (hsE b hb) hm) (by first | omega | (simp; omega)) rfl rfl ?_
     intro v8 h5_8 fp8 ho8 hn8 hs8 c8
     have c8T := c8.mono hsE
     replace hb4 := BoxAt.chg hb4 c8T hnb.2.2.1
     have hc8 := c8T.size
     try simp (disch := decide) only [outv_some, outv_none, put_puts]
     refine plK_last (by decide) ?_
     try simp -implicitDefEqProofs (disch := first | decide | assumption | omega) only [go_sem, ld28, RdS.len (OS.rd hT) sl28, RdS.idx (OS.rd hT) sl28, RdS.cellN (OS.rd hT), RdS.cells (OS.rd hT), BoxAt.cell hb4, wrap_id, hb4p]
     have hH8 := Hole.chg hH hnT (by omega) c8 (fun b hb => .inl hb)
     refine op_putH (j := i) st23 hH8 hnT (by omega) ho8 hn8 (fun b hb => (hs8 b hb).elim .inl (fun h => .inr (fun hm => h.elim (fun h => (apart_lt hlhT hfhR (by omega)) b hm h) (fun h => by have := hlhT b hm; omega)))) rfl rfl ?_
     intro h5_10 fp10 ho10 hn10 hs10 c10
     try simp (disch := decide) only [outv_some, outv_none, put_puts]
     refine plK_last (by decide) ?_
     try simp -implicitDefEqProofs (disch := first | decide | assumption | omega) only [go_sem, wrap_id, hb4p]
     refine hK _ _ ?_
     clear hK K
     refine den_nil ?_
     simp (disch := decide) only [resP_0, puts_same, puts_ne]
     rw [show k = ((D.getD i default).getD j 0).toNat by omega] at ho10
     exact ⟨by first | rfl | trivial, ⟨fp10, ho10, hn10, fun b hb => (hs10 b hb).elim .inl (fun h => (hs8 b h).elim (fun h => .inl (hsE b h)) (fun h => .inr (h.elim (fun h => hfhR.ge b h) (fun h => by omega))))⟩, ((eB.chg _).trans c8T).trans c10⟩
end Go.Proofs.Ytkdnnfkdgmblgaa

namespace Go.Proofs.Ytkdnnfkdgmblgaa
open Go
/-- Blank tables: the columns before i whole, j cells of column i. -/
def blT (D : List (List Int)) (W : Nat) (wf : Nat → Nat → Int) (i j : Nat) : List (List (List (List Int))) := (List.range D.length).map fun r : Nat => if r < i then (List.range W).map (fun c : Nat => blR ((D.getD r default).getD c 0) (wf r c)) else if r = i then (List.range j).map (fun c : Nat => blR ((D.getD r default).getD c 0) (wf r c)) else []
def blF (D : List (List Int)) (W : Nat) (wf : Nat → Nat → Int) : List (List (List (List Int))) := (List.range D.length).map fun r : Nat => (List.range W).map (fun c : Nat => blR ((D.getD r default).getD c 0) (wf r c))
section
variable {D : List (List Int)} {W : Nat} {wf : Nat → Nat → Int} {i j : Nat}
theorem blT_len : (blT D W wf i j).length = D.length := by simp [blT]
theorem blT_0 : blT D W wf 0 0 = List.replicate D.length [] := by
 unfold blT
 apply List.ext_getElem (by simp)
 intro r h1 h2
 simp only [List.getElem_map, List.getElem_range, List.getElem_replicate]
 rw [if_neg (by omega)]
 split <;> rfl
theorem blT_W : blT D W wf i W = blT D W wf (i + 1) 0 := by
 unfold blT
 apply List.map_congr_left
 intro r hr
 by_cases h1 : r < i
 ·rw [if_pos h1, if_pos (by omega)]
 ·by_cases h2 : r = i
  ·rw [if_neg h1, if_pos h2, if_pos (by omega)]
  ·rw [if_neg h1, if_neg h2, if_neg (by omega)]
   split <;> rfl
theorem blT_end : blT D W wf D.length 0 = blF D W wf := by
 unfold blT blF
 apply List.map_congr_left
 intro r hr
 rw [if_pos (List.mem_range.1 hr)]
theorem blT_el (hi : i < D.length) : (blT D W wf i j).getD i default = (List.range j).map (fun c : Nat => blR ((D.getD i default).getD c 0) (wf i c)) := by
 rw [blT, List.getD_eq_getElem?_getD, List.getElem?_eq_getElem (by simpa using hi)]
 simp only [List.getElem_map, List.getElem_range, Option.getD_some]
 rw [if_neg (by omega)]
 rfl
theorem blT_step (hi : i < D.length) : (blT D W wf i j).set i ((blT D W wf i j).getD i default ++ [blR ((D.getD i default).getD j 0) (wf i j)]) = blT D W wf i (j + 1) := by
 rw [blT_el hi]
 apply List.ext_getElem (by simp [blT])
 intro r h1 h2
 rw [List.getElem_set]
 by_cases hri : i = r
 ·subst hri
  rw [if_pos rfl]
  simp only [blT, List.getElem_map, List.getElem_range]
  rw [if_neg (by omega), if_pos trivial, List.range_succ, List.map_append]
  rfl
 ·rw [if_neg hri]
  simp only [blT, List.getElem_map, List.getElem_range]
  by_cases h3 : r < i
  ·rw [if_pos h3, if_pos h3]
  ·rw [if_neg h3, if_neg h3, if_neg (fun e => hri e.symm), if_neg (fun e => hri e.symm)]
end
structure BRel (h hs : Heap) (vd va vb vT : Value) (p : Int) (D : List (List Int)) (W : Nat) (wf : Nat → Nat → Int) (gw : FuncId) (b1 b3 b4 b5 bT : Nat) (i j : Nat) (H : Heap) : Prop where
 ex : ∃ fT, O4 H vT (blT D W wf i j) fT ∧ fT.Nodup ∧ ∀ b ∈ fT, b = bT ∨ hs.size < b
 e : Ext h H
 b1 : BoxAt H b1 #[vd] 27
 b3 : BoxAt H b3 #[.func (.func gw) #[] #[.pointer (some ⟨b5, 0, none⟩)]] 72
 b4 : BoxAt H b4 #[vT] 28
 b5 : BoxAt H b5 #[.int .i64 p, vd, va, vb] 30
theorem bl_each {h hs : Heap} {vd va vb vT : Value} {p : Int} {D : List (List Int)} {W : Nat} {wf : Nat → Nat → Int} {gw : FuncId} {b1 b3 b4 b5 bT : Nat} (hd : R2 h vd D) (hDl : D.length ≤ 100) (hWb : W ≤ 100) (hW : ∀ r, r < D.length → (D.getD r default).length = W)
  (hdm : ∀ r c, r < D.length → c < W → 0 ≤ (D.getD r default).getD c 0 ∧ (D.getD r default).getD c 0 ≤ 100) (hwb : ∀ r c, r < D.length → c < W → 0 ≤ wf r c ∧ wf r c ≤ 100)
  (hwf : ∀ r c, r < D.length → c < W → ∀ H, Ext h H → BoxAt H b5 #[.int .i64 p, vd, va, vb] 30 → CallA Try.prog gw #[.int .i64 (r : Int), .int .i64 (c : Int), .pointer (some ⟨b5, 0, none⟩)] H fun v' H' => v' = .int .i64 (wf r c) ∧ Ext H H')
  (hbl : b1 < hs.size ∧ b3 < hs.size ∧ b4 < hs.size ∧ b5 < hs.size ∧ bT < hs.size ∧ h.size ≤ bT) (hbn : b1 ≠ bT ∧ b3 ≠ bT ∧ b4 ≠ bT ∧ b5 ≠ bT) (r0 : BRel h hs vd va vb vT p D W wf gw b1 b3 b4 b5 bT 0 0 hs) :
  CallA Try.prog 21 #[.agg #[.int .i64 p, vd, va, vb], .func (.func 56) #[] #[.pointer (some ⟨b1, 0, none⟩), .pointer (some ⟨b3, 0, none⟩), .pointer (some ⟨b4, 0, none⟩)]] hs fun v' H' => v' = .tuple #[] ∧ BRel h hs vd va vb vT p D W wf gw b1 b3 b4 b5 bT D.length 0 H' := by
 refine eachD_ok p (BRel h hs vd va vb vT p D W wf gw b1 b3 b4 b5 bT) _ _ D W vd va vb h hd (fun h1 => hW 0 (by omega)) (by omega) hs r0 ?_ (fun i j H r => r.e) ?_ ?_
 ·intro i j H H' r e
  obtain ⟨fT, o, n, s⟩ := r.ex
  exact ⟨⟨fT, OS.ext o e, n, s⟩, r.e.trans e, r.b1.ext e, r.b3.ext e, r.b4.ext e, r.b5.ext e⟩
 ·intro i H r
  exact ⟨by rw [← blT_W]; exact r.ex, r.e, r.b1, r.b3, r.b4, r.b5⟩
 ·intro i j H hi hj hlt r
  obtain ⟨fT, o, n, s⟩ := r.ex
  have hz : ∀ b, b < hs.size → b ≠ bT → b ∉ fT := fun b h1 h2 hm => (s b hm).elim h2 (fun h3 => by omega)
  simp only [List.append_toArray, List.cons_append, List.nil_append]
  refine (iBl11_ok p (wf i j) vd va vb vT D (blT D W wf i j) i j gw b1 b3 b4 b5 fT H (RdS.pres hd (Ext.pres r.e)) r.b1 r.b3 r.b4 r.b5 o n ⟨hz _ hbl.1 hbn.1, hz _ hbl.2.1 hbn.2.1, hz _ hbl.2.2.1 hbn.2.2.1, hz _ hbl.2.2.2.1 hbn.2.2.2⟩ ⟨hi, by rw [hW i hi]; exact hj, hDl, by rw [hW i hi]; exact hWb⟩ (hdm i j hi hj) (hwb i j hi hj) blT_len (by rw [blT_el hi, List.length_map, List.length_range]; omega) (fun H' e b => hwf i j hi hj H' (r.e.trans e) b)).mono ?_
  rintro u H' ⟨_, ⟨f', o', n', s'⟩, c⟩
  refine ⟨⟨⟨f', by rw [← blT_step hi]; exact o', n', fun b hb => ?_⟩, Ext.then r.e c (fun b hb => ?_), r.b1.chg c (hz _ hbl.1 hbn.1), r.b3.chg c (hz _ hbl.2.1 hbn.2.1), r.b4.chg c (hz _ hbl.2.2.1 hbn.2.2.1), r.b5.chg c (hz _ hbl.2.2.2.1 hbn.2.2.2)⟩, fT, c, fun hm => ?_⟩
  ·rcases s' b hb with h1 | h1
   ·exact s b h1
   ·exact .inr (by omega)
  ·have := r.e.size
   rcases s b hb with h1 | h1
   ·omega
   ·have := hbl; have := Ext.size r0.e; omega
  ·rcases s _ hm with h1 | h1 <;> omega
end Go.Proofs.Ytkdnnfkdgmblgaa

namespace Go.Proofs.Ytkdnnfkdgmblgaa
open Go
set_option maxRecDepth 100000 in
theorem iBl1_ok (p : Int) (vd va vb : Value) (D : List (List Int)) (W : Nat) (wf : Nat → Nat → Int) (gw : FuncId) (b1 b5 : Nat) (h : Heap) (hd : R2 h vd D) (hb1 : BoxAt h b1 #[vd] 27) (hb5 : BoxAt h b5 #[.int .i64 p, vd, va, vb] 30) (hDl : D.length ≤ 100) (hWb : W ≤ 100) (hW : ∀ r, r < D.length → (D.getD r default).length = W) (hdm : ∀ r c, r < D.length → c < W → 0 ≤ (D.getD r default).getD c 0 ∧ (D.getD r default).getD c 0 ≤ 100) (hwb : ∀ r c, r < D.length → c < W → 0 ≤ wf r c ∧ wf r c ≤ 100) (hwf : ∀ r c, r < D.length → c < W → ∀ H, Ext h H → BoxAt H b5 #[.int .i64 p, vd, va, vb] 30 → CallA Try.prog gw #[.int .i64 (r : Int), .int .i64 (c : Int), .pointer (some ⟨b5, 0, none⟩)] H fun v' H' => v' = .int .i64 (wf r c) ∧ Ext H H') : CallA Try.prog 55 #[.func (.func gw) #[] #[.pointer (some ⟨b5, 0, none⟩)], .pointer (some ⟨b1, 0, none⟩), .pointer (some ⟨b5, 0, none⟩)] h fun v' h' => ∃ w f, v' = w ∧ O4 h' w (blF D W wf) f ∧ Fresh h.size f ∧ Ext h h' := by
 have hlhb1 := one_lt hb1.lt
 have hlhb5 := one_lt hb5.lt
 have hle := RdS.le hd
 refine callA_intro TTok (args := [_, _, _]) Try.func55 (by kernel_rfl) rfl 13 rfl (by simp) [.tmp 4] rfl ?_
 simp only [idxs, Nat.reduceAdd]
 refine den_seq ?_
 refine den_region TTok ?_
 intro K hK
 simp -implicitDefEqProofs (disch := first | decide | assumption | omega) only [go_sem, wrap_id]
 refine op_box (cs := #[(.func (.func gw) #[] #[.pointer (some ⟨b5, 0, none⟩)])]) rfl ?_
 intro h0_0 e0_0 hb0_0 z0_0
 replace hb1 := BoxAt.ext hb1 e0_0
 replace hb5 := BoxAt.ext hb5 e0_0
 have := Ext.size e0_0
 have eB := e0_0
 have hfhb0_0 : Fresh h.size [h.size] := Fresh.one _
 have hlhb0_0 := one_lt (show h.size < h0_0.size by omega)
 try simp -implicitDefEqProofs (disch := first | decide | assumption | omega) only [go_sem, wrap_id]
 refine hK _ _ ?_
 clear hK K
 refine den_seq ?_
 refine den_region TTok ?_
 intro K hK
 simp -implicitDefEqProofs (disch := first | decide | assumption | omega) only [go_sem, ld27, RdS.len hd sl27, RdS.idx hd sl27, RdS.cellB hd (Ext.pres eB), RdS.cells hd, BoxAt.cell hb1, wrap_id]
 refine op_make sz28 rfl rfl (by omega) (by omega) O3 [] (fun _ => OS.nil) ?_
 intro v1_2 h1_2 ho1_2 e1_2
 replace hb1 := BoxAt.ext hb1 e1_2
 replace hb5 := BoxAt.ext hb5 e1_2
 replace hb0_0 := BoxAt.ext hb0_0 e1_2
 have := Ext.size e1_2
 replace eB := Ext.trans eB e1_2
 have hfho1_2 : Fresh h0_0.size [h0_0.size] := Fresh.one _
 have hlenho1_2 : (List.replicate (((D).length : Int)).toNat ([] : List (List (List Int)))).length = (((D).length : Int)).toNat := List.length_replicate
 have hlho1_2 := OS.lt ho1_2
 try simp -implicitDefEqProofs (disch := first | decide | assumption | omega) only [go_sem, wrap_id]
 refine op_alloc (cs := #[.slice none 0 0]) (by kernel_rfl) ?_
 intro h1_3 e1_3 hb1_3 z1_3
 replace ho1_2 := OS.ext ho1_2 e1_3
 replace hb1 := BoxAt.ext hb1 e1_3
 replace hb5 := BoxAt.ext hb5 e1_3
 replace hb0_0 := BoxAt.ext hb0_0 e1_3
 have := Ext.size e1_3
 replace eB := Ext.trans eB e1_3
 have hfhb1_3 : Fresh h1_2.size [h1_2.size] := Fresh.one _
 have hlhb1_3 := one_lt (show h1_2.size < h1_3.size by omega)
 try simp -implicitDefEqProofs (disch := first | decide | assumption | omega) only [go_sem, wrap_id]
 refine op_storeB (cs' := #[v1_2]) st28 hb1_3 rfl (OS.one ho1_2).2 rfl (by simp) (allOne_mem (l := [v1_2]) ⟨(OS.one ho1_2).1, trivial⟩) rfl ?_
 intro h1_4 hb1_3 c1_4
 replace ho1_2 := OS.chg ho1_2 c1_4 (apart_lt hlho1_2 hfhb1_3 (by omega))
 replace hb1 := BoxAt.chgA hb1 c1_4 (apart_lt hlhb1 hfhb1_3 (by omega))
 replace hb5 := BoxAt.chgA hb5 c1_4 (apart_lt hlhb5 hfhb1_3 (by omega))
 replace hb0_0 := BoxAt.chgA hb0_0 c1_4 (apart_lt hlhb0_0 hfhb1_3 (by omega))
 have := c1_4.size
 replace eB := Ext.then eB c1_4 (ge_of hfhb1_3 (by omega))
 try simp -implicitDefEqProofs (disch := first | decide | assumption | omega) only [go_sem, wrap_id]
 refine hK _ _ ?_
 clear hK K
 refine den_seq ?_
 skip
 refine den_region TTok ?_
 intro K hK
 simp -implicitDefEqProofs (disch := first | decide | assumption | omega) only [go_sem, ld30, RdS.len hd sl27, RdS.idx hd sl27, RdS.cellB hd (Ext.pres eB), RdS.cells hd, RdS.len (OS.rd ho1_2) sl28, RdS.idx (OS.rd ho1_2) sl28, RdS.cellN (OS.rd ho1_2), RdS.cells (OS.rd ho1_2), BoxAt.cell hb1, BoxAt.cell hb5, BoxAt.cell hb0_0, BoxAt.cell hb1_3, wrap_id]
 try simp -implicitDefEqProofs (disch := first | decide | assumption | omega) only [go_sem, wrap_id]
 refine CallA.mono (bl_each (W := W) (wf := wf) (bT := h0_0.size) hd hDl hWb hW hdm hwb hwf ⟨by have := hb1.lt; omega, by have := hb0_0.lt; omega, by have := hb1_3.lt; omega, by have := hb5.lt; omega, by have := hlho1_2 h0_0.size (by simp); omega, by omega⟩ ⟨by have := hlhb1 b1 (by simp); omega, by omega, by have := hlho1_2 h0_0.size (by simp); omega, by have := hlhb5 b5 (by simp); omega⟩ ⟨⟨_, by rw [blT_0]; exact ho1_2, by simp, fun b hb => .inl (by simpa using hb)⟩, eB, hb1, hb0_0, hb1_3, hb5⟩) ?_
 intro v_ h2_2
 rintro ⟨rfl, hRel⟩
 obtain ⟨⟨fE, hE, hnE, hsE⟩, eB, hb1, hb3_, hb4_, hb5⟩ := hRel
 replace hb1_3 := hb4_
 rw [blT_end] at hE
 try simp -implicitDefEqProofs (disch := first | decide | assumption | omega) only [go_sem, wrap_id]
 refine hK _ _ ?_
 clear hK K
 refine den_seq ?_
 refine den_region TTok ?_
 intro K hK
 simp -implicitDefEqProofs (disch := first | decide | assumption | omega) only [go_sem, ld28, RdS.len (OS.rd ho1_2) sl28, RdS.idx (OS.rd ho1_2) sl28, RdS.cellN (OS.rd ho1_2), RdS.cells (OS.rd ho1_2), BoxAt.cell hb1_3, wrap_id]
 refine hK _ _ ?_
 clear hK K
 refine den_ret ?_
 simp (disch := decide) only [resP_1, puts_same, puts_ne]
 exact ⟨_, fE, rfl, hE, ⟨hnE, fun b hb => (hsE b hb).elim (fun h => by omega) (fun h => by omega)⟩, eB⟩
end Go.Proofs.Ytkdnnfkdgmblgaa
