/-
  What the statement FnExactRankBetween uses of the walks, part 2.
  Conditions: each theorem's own.
-/
import Derived.Test.YtjjjgllbocgkbaaG16
import Derived.Test.YtjjjgllbocgkbaaG17
import Derived.Test.YtjjjgllbocgkbaaG14
import Derived.Test.YtjjjgllbocgkbaaG13
import Derived.Test.YtjjjgllbocgkbaaG15
import Derived.Test.YtjjjgllbocgkbaaG18
import Derived.Test.YtjjjgllbocgkbaaG19
import Derived.Test.YtjjjgllbocgkbaaZRankBetween1
set_option linter.unusedVariables false
set_option linter.unusedSimpArgs false
namespace Go.Proofs.Ytjjjgllbocgkbaa
open Go
structure PreC (X : Cx) : Prop where
 p : 0 < X.p ∧ X.p ≤ 7
 ml : X.maps.length + 1 = X.dims.length
 dm : X.dims.all (fun x => in3 x 0 8) = true
 tb : ∀ k, k < X.maps.length → tbAt X k
theorem IsC.pre {X : Cx} (h : IsC X) : PreC X := ⟨isP_bnd h.p, h.ml, h.dm, h.tb⟩
def diffP (X : Cx) (n : Int) (v : List Int) : List Int := if n ≤ 0 ∨ (X.dims.length : Int) - 1 < n then [] else accP X.p v (X.maps.getD (n - 1).toNat default) (List.replicate (X.dims.getD (n - 1).toNat 0).toNat 0)
theorem PreC.app {X : Cx} (h : PreC X) {n : Int} (h0 : 0 < n) (h1 : n ≤ (X.dims.length : Int) - 1) : (0 ≤ X.dims.getD (n - 1).toNat 0 ∧ X.dims.getD (n - 1).toNat 0 ≤ 8) ∧ ((X.maps.getD (n - 1).toNat default).length : Int) = X.dims.getD n.toNat 0 ∧ Tbl X.p (X.dims.getD (n - 1).toNat 0) (X.maps.getD (n - 1).toNat default) := by
 have hm := h.ml
 have t := tableP_iff.1 (h.tb (n - 1).toNat (by omega))
 have e : ((((n - 1).toNat : Nat) : Int) + 1).toNat = n.toNat := by omega
 rw [e] at t
 exact ⟨dm_at h.dm (by omega), t⟩
theorem zero_lead {xs : List Int} : (!(xs.any fun x => x != 0)) = true ↔ leadP xs < 0 := by
 rw [leadP_idx, ← idxP_any]
 simp
theorem any_all {α : Type} {f : α → Bool} {xs : List α} (h : (xs.any fun x => !f x) = false) : xs.all f = true := by rw [List.all_eq_not_any_not, h]; rfl
theorem diff_sqv {X : Cx} {k i : Nat} (h0 : 0 < k) (h1 : (k : Int) ≤ (X.dims.length : Int) - 1) : diffP X (k : Int) ((X.maps.getD k default).getD i default) = sqv X k i := by
 rw [diffP, if_neg (by omega)]; rfl
theorem lead_zero {xs : List Int} (h : xs.any (fun x => x != 0) = false) : leadP xs < 0 := zero_lead.1 (by rw [h]; rfl)
theorem lead_some {xs : List Int} (h : xs.any (fun x => x != 0) = true) : ¬ leadP xs < 0 := fun hn => by
 have := zero_lead.2 hn
 rw [h] at this; cases this
theorem tbAt_iff {X : Cx} {k : Nat} : tbAt X k ↔ ((X.maps.getD k default).length : Int) = X.dims.getD ((k : Int) + 1).toNat 0 ∧ (X.maps.getD k default).all (isRow X.p (X.dims.getD k 0)) = true := by
 simp only [tbAt, tableP, Bool.and_eq_true, decide_eq_true_eq]

set_option maxRecDepth 100000 in
theorem diff_ok (vx : Value) (X : Cx) (n : Int) (v : Value) (xs : List Int) (h : Heap) (hx : RC h vx X) (hv : R1 h v xs) (hP : PreC X) (hv0 : Bnd X.p xs) (hl : 0 < n → n ≤ (X.dims.length : Int) - 1 → (xs.length : Int) = X.dims.getD n.toNat 0) : CallA Try.prog 140 #[vx, .int .i64 n, v] h fun v' h' => ∃ f, O1 h' v' (diffP X n xs) f ∧ Fresh h.size f ∧ Ext h h' := by
 obtain ⟨vd, vm, rfl, hd, hm⟩ := hx
 have hle := RdS.le hd
 have hml := hP.ml
 refine callA_intro TTok (args := [_, _, _]) Try.func140 (by kernel_rfl) rfl 31 rfl (by simp) [.tmp 6] rfl ?_
 simp only [idxs, Nat.reduceAdd]
 refine den_seq ?_
 refine den_region TTok ?_
 intro K hK
 simp -implicitDefEqProofs (disch := first | decide | assumption | omega) only [go_sem, RdS.len hd sl22, RdS.idx hd sl22, R1.intB hd (HPres.refl _), RdS.cells hd, RdS.len hm sl23, RdS.idx hm sl23, RdS.cellB hm (HPres.refl _), RdS.cells hm, RdS.len hv sl22, RdS.idx hv sl22, R1.intB hv (HPres.refl _), RdS.cells hv, wrap_id]
 refine op_box (cs := #[.int .i64 (X.p), vd, vm]) rfl ?_
 intro h0_0 e0_0 hb0_0 z0_0
 replace hd := RdS.pres hd (Ext.pres e0_0)
 replace hm := RdS.pres hm (Ext.pres e0_0)
 replace hv := RdS.pres hv (Ext.pres e0_0)
 try simp -implicitDefEqProofs (disch := first | decide | assumption | omega) only [go_sem, RdS.len hd sl22, RdS.idx hd sl22, R1.intB hd (HPres.refl _), RdS.cells hd, RdS.len hm sl23, RdS.idx hm sl23, RdS.cellB hm (HPres.refl _), RdS.cells hm, RdS.len hv sl22, RdS.idx hv sl22, R1.intB hv (HPres.refl _), RdS.cells hv, BoxAt.cell hb0_0, wrap_id]
 refine hK _ _ ?_
 clear hK K
 refine den_seq ?_
 refine den_seq ?_
 refine den_merge [(14, .bool (((decide (n ≤ (0 : Int))) || (decide ((((X.dims).length : Int) - 1) < n)))))] [1, 2, 3] (fun H => Ext h0_0 H) ?_ ?_
  -- a way
 ·refine den_region TTok ?_
  intro K hK
  simp -implicitDefEqProofs (disch := first | decide | assumption | (simp (disch := decide) only [slotOf_zero, slotOf_succ, Option.map_some, puts_same, puts_ne, gv_bool, gv_undef, tt, tf, ft, ff, eq_self, if_true, if_false, Bool.false_eq_true, Bool.not_true, Bool.not_false]; done) | omega) only [go_sem, RdS.len hd sl22, RdS.idx hd sl22, R1.intB hd (HPres.refl _), RdS.cells hd, RdS.len hm sl23, RdS.idx hm sl23, RdS.cellB hm (HPres.refl _), RdS.cells hm, RdS.len hv sl22, RdS.idx hv sl22, R1.intB hv (HPres.refl _), RdS.cells hv, BoxAt.cell hb0_0, wrap_id]
  refine opsP_F (by simp (disch := decide) only [slotOf_zero, slotOf_succ, Option.map_some, puts_same, puts_ne, gv_bool, gv_undef, tt, tf, ft, ff, eq_self, if_true, if_false, Bool.false_eq_true, Bool.not_true, Bool.not_false]; rfl) (fun g1 => ?_) (fun g1 => ?_)
  ·try simp -implicitDefEqProofs (disch := first | decide | assumption | (simp (disch := decide) only [slotOf_zero, slotOf_succ, Option.map_some, puts_same, puts_ne, gv_bool, gv_undef, tt, tf, ft, ff, eq_self, if_true, if_false, Bool.false_eq_true, Bool.not_true, Bool.not_false, g1]; done) | omega) only [go_sem, ld31, RdS.len hd sl22, RdS.idx hd sl22, R1.intB hd (HPres.refl _), RdS.cells hd, RdS.len hm sl23, RdS.idx hm sl23, RdS.cellB hm (HPres.refl _), RdS.cells hm, RdS.len hv sl22, RdS.idx hv sl22, R1.intB hv (HPres.refl _), RdS.cells hv, BoxAt.cell hb0_0, wrap_id, g1, eq_self, if_true, if_false, Bool.false_eq_true]
   try simp -implicitDefEqProofs (disch := first | decide | assumption | omega) only [go_sem, RdS.len hd sl22, RdS.idx hd sl22, R1.intB hd (HPres.refl _), RdS.cells hd, RdS.len hm sl23, RdS.idx hm sl23, RdS.cellB hm (HPres.refl _), RdS.cells hm, RdS.len hv sl22, RdS.idx hv sl22, R1.intB hv (HPres.refl _), RdS.cells hv, BoxAt.cell hb0_0, wrap_id]
   refine CallA.mono (top_ok _ X _ ⟨_, _, rfl, hd, hm⟩) ?_
   intro v_ h1_5
   rintro ⟨rfl, e1_5⟩
   have := Ext.size e1_5
   have eB := e1_5
   try simp -implicitDefEqProofs (disch := first | decide | assumption | (simp (disch := decide) only [slotOf_zero, slotOf_succ, Option.map_some, puts_same, puts_ne, gv_bool, gv_undef, tt, tf, ft, ff, eq_self, if_true, if_false, Bool.false_eq_true, Bool.not_true, Bool.not_false, g1]; done) | omega) only [go_sem, RdS.len hd sl22, RdS.idx hd sl22, R1.intB hd (Ext.pres eB), RdS.cells hd, RdS.len hm sl23, RdS.idx hm sl23, RdS.cellB hm (Ext.pres eB), RdS.cells hm, RdS.len hv sl22, RdS.idx hv sl22, R1.intB hv (Ext.pres eB), RdS.cells hv, BoxAt.cellB hb0_0 eB, wrap_id, g1, eq_self, if_true, if_false, Bool.false_eq_true]
   refine hK _ _ ?_
   clear hK K
   refine den_stop ?_
   refine ⟨?_, e1_5⟩
   first | (simp (disch := decide) only [go_sem, g1, eq_self, Bool.true_and, Bool.and_true, Bool.false_and, Bool.and_false, Bool.true_or, Bool.or_true, Bool.false_or, Bool.or_false, if_true, if_false, Bool.false_eq_true]; done) | simp [HasL, sel, puts_at, g1]
  ·try simp -implicitDefEqProofs (disch := first | decide | assumption | (simp (disch := decide) only [slotOf_zero, slotOf_succ, Option.map_some, puts_same, puts_ne, gv_bool, gv_undef, tt, tf, ft, ff, eq_self, if_true, if_false, Bool.false_eq_true, Bool.not_true, Bool.not_false, g1]; done) | omega) only [go_sem, RdS.len hd sl22, RdS.idx hd sl22, R1.intB hd (HPres.refl _), RdS.cells hd, RdS.len hm sl23, RdS.idx hm sl23, RdS.cellB hm (HPres.refl _), RdS.cells hm, RdS.len hv sl22, RdS.idx hv sl22, R1.intB hv (HPres.refl _), RdS.cells hv, BoxAt.cell hb0_0, wrap_id, g1, eq_self, if_true, if_false, Bool.false_eq_true]
   refine hK _ _ ?_
   clear hK K
   refine den_stop ?_
   refine ⟨?_, Ext.refl _⟩
   first | (simp (disch := decide) only [go_sem, g1, eq_self, Bool.true_and, Bool.and_true, Bool.false_and, Bool.and_false, Bool.true_or, Bool.or_true, Bool.false_or, Bool.or_false, if_true, if_false, Bool.false_eq_true]; done) | simp [HasL, sel, puts_at, g1]
 intro en2 h3 e4
 have := Ext.size e4
 have eB := e4
 simp (disch := decide) only [go_sem]
 refine den_cond rfl (fun c0 => ?_) (fun c0 => ?_)
 ·try simp only [decide_eq_true_eq, decide_eq_false_iff_not, beq_iff_eq, beq_eq_false_iff_ne, bne_iff_ne, ne_eq, Bool.not_eq_true', Bool.not_eq_false', Bool.and_eq_true, Bool.or_eq_true, bne_eq_false_iff_eq, Bool.or_eq_false_iff, Bool.and_eq_false_iff] at c0
  refine den_seq ?_
  refine den_region TTok ?_
  intro K hK
  simp -implicitDefEqProofs (disch := first | decide | assumption | omega) only [go_sem, RdS.len hd sl22, RdS.idx hd sl22, R1.intB hd (Ext.pres eB), RdS.cells hd, RdS.len hm sl23, RdS.idx hm sl23, RdS.cellB hm (Ext.pres eB), RdS.cells hm, RdS.len hv sl22, RdS.idx hv sl22, R1.intB hv (Ext.pres eB), RdS.cells hv, BoxAt.cellB hb0_0 eB, wrap_id]
  refine hK _ _ ?_
  clear hK K
  refine den_ret ?_
  simp (disch := decide) only [resP_1, puts_same, puts_ne]
  exact ⟨[], by rw [diffP, if_pos (by omega)]; exact OS.nil, Fresh.nil _, (Ext.trans e0_0 eB)⟩
 ·try simp only [decide_eq_true_eq, decide_eq_false_iff_not, beq_iff_eq, beq_eq_false_iff_ne, bne_iff_ne, ne_eq, Bool.not_eq_true', Bool.not_eq_false', Bool.and_eq_true, Bool.or_eq_true, bne_eq_false_iff_eq, Bool.or_eq_false_iff, Bool.and_eq_false_iff] at c0
  refine den_skip ?_
  refine den_seq ?_
  have hq := hP.app (n := n) (by omega) (by omega)
  refine den_draw TTok mixed [] [(0, true), (1, true), (2, true), (3, true), (4, true), (5, true), (6, true), (7, true), (8, true), (9, true), (10, true), (11, true), (12, true), (13, true), (14, true), (15, false), (16, true)] (by kernel_rfl) ?_
  intro K hK
  have hr5 := RdS.rowN hm ((n - (1 : Int))).toNat (by omega)
  have hlhr5 := RdS.le hr5
  simp -implicitDefEqProofs (disch := first | decide | assumption | omega) only [go_sem, fa31_0, fa31_1, fa31_2, ld23, ld26, ld22, ld2, RdS.len hd sl22, RdS.idx hd sl22, R1.intB hd (Ext.pres eB), RdS.cells hd, RdS.len hm sl23, RdS.idx hm sl23, RdS.cellB hm (Ext.pres eB), RdS.cells hm, RdS.len hv sl22, RdS.idx hv sl22, R1.intB hv (Ext.pres eB), RdS.cells hv, RdS.len hr5 sl26, RdS.idx hr5 sl26, RdS.cellB hr5 (Ext.pres eB), RdS.cells hr5, BoxAt.cellB hb0_0 eB, wrap_id]
  try simp -implicitDefEqProofs (disch := first | decide | assumption | omega) only [go_sem, RdS.len hd sl22, RdS.idx hd sl22, R1.intB hd (Ext.pres eB), RdS.cells hd, RdS.len hm sl23, RdS.idx hm sl23, RdS.cellB hm (Ext.pres eB), RdS.cells hm, RdS.len hv sl22, RdS.idx hv sl22, R1.intB hv (Ext.pres eB), RdS.cells hv, RdS.len hr5 sl26, RdS.idx hr5 sl26, RdS.cellB hr5 (Ext.pres eB), RdS.cells hr5, BoxAt.cellB hb0_0 eB, wrap_id]
  refine CallA.mono (iApply_ok _ _ _ _ _ _ _ (RdS.pres hv (Ext.pres eB)) (RdS.pres hr5 (Ext.pres eB)) hP.p (by omega) (by have := hl (by omega) (by omega); omega) hv0 hq.2.2) ?_
  intro v3_15 h3_15
  rintro ⟨f3_15, ho3_15, hf3_15, e3_15⟩
  have := Ext.size e3_15
  replace eB := Ext.trans eB e3_15
  have hlho3_15 := OS.lt ho3_15
  try simp (disch := decide) only [outv_some, outv_none, put_puts]
  refine plK_pres (Ext.pres e3_15) ?_
  try simp -implicitDefEqProofs (disch := first | decide | assumption | omega) only [go_sem, RdS.len hd sl22, RdS.idx hd sl22, R1.intB hd (Ext.pres eB), RdS.cells hd, RdS.len hm sl23, RdS.idx hm sl23, RdS.cellB hm (Ext.pres eB), RdS.cells hm, RdS.len hv sl22, RdS.idx hv sl22, R1.intB hv (Ext.pres eB), RdS.cells hv, RdS.len hr5 sl26, RdS.idx hr5 sl26, RdS.cellB hr5 (Ext.pres eB), RdS.cells hr5, RdS.len (OS.rd ho3_15) sl22, RdS.idx (OS.rd ho3_15) sl22, R1.intN (OS.rd ho3_15), RdS.cells (OS.rd ho3_15), BoxAt.cellB hb0_0 eB, wrap_id]
  refine hK _ _ ?_
  clear hK K
  refine den_ret ?_
  simp (disch := decide) only [resP_1, puts_same, puts_ne]
  exact ⟨_, by rw [diffP, if_neg (by omega)]; exact ho3_15, hf3_15.mono (by omega), (Ext.trans e0_0 eB)⟩

set_option maxRecDepth 100000 in
theorem iIs_ok (v : Value) (X : Cx) (h : Heap) (hv : RC h v X) : CallA Try.prog 70 #[v] h fun v' h' => v' = .bool (isC X) ∧ Ext h h' := by
 obtain ⟨vd, vm, rfl, hd, hm⟩ := hv
 have hle := RdS.le hd
 have hlm := RdS.le hm
 refine callA_intro TTok (args := [_]) Try.func70 (by kernel_rfl) rfl 86 rfl (by simp) [.tmp 2] rfl ?_
 simp only [idxs, Nat.reduceAdd]
 refine den_seq ?_
 refine den_region TTok ?_
 intro K hK
 simp -implicitDefEqProofs (disch := first | decide | assumption | omega) only [go_sem, RdS.len hd sl22, RdS.idx hd sl22, R1.intB hd (HPres.refl _), RdS.cells hd, RdS.len hm sl23, RdS.idx hm sl23, RdS.cellB hm (HPres.refl _), RdS.cells hm, wrap_id, Int.add_sub_cancel]
 refine op_box (cs := #[.int .i64 (X.p), vd, vm]) rfl ?_
 intro h0_0 e0_0 hb0_0 z0_0
 replace hd := RdS.pres hd (Ext.pres e0_0)
 replace hm := RdS.pres hm (Ext.pres e0_0)
 try simp -implicitDefEqProofs (disch := first | decide | assumption | omega) only [go_sem, RdS.len hd sl22, RdS.idx hd sl22, R1.intB hd (HPres.refl _), RdS.cells hd, RdS.len hm sl23, RdS.idx hm sl23, RdS.cellB hm (HPres.refl _), RdS.cells hm, BoxAt.cell hb0_0, wrap_id, Int.add_sub_cancel]
 refine hK _ _ ?_
 clear hK K
 refine den_seq ?_
 refine den_seq ?_
 refine den_merge [(30, .bool (((((!((isP X.p))) || (!((in3 (((X.dims).length : Int) - 1) (0 : Int) (5 : Int))))) || (((X.maps).length : Int) != (((X.dims).length : Int) - 1))) || (X.dims.any (fun x => !in3 x 0 8)))))] [1] (fun H => Ext h0_0 H) ?_ ?_
  -- a way
 ·refine den_draw TTok mixed [] [(0, true), (1, true), (2, false), (3, true), (4, true), (5, true), (6, false), (7, false), (8, true), (9, true), (10, true), (11, true), (12, true), (14, true), (13, false), (15, false), (16, true), (17, true), (18, true), (19, true), (20, true), (21, false), (22, true)] (by kernel_rfl) ?_
  intro K hK
  simp -implicitDefEqProofs (disch := first | decide | assumption | (simp (disch := decide) only [slotOf_zero, slotOf_succ, Option.map_some, puts_same, puts_ne, gv_bool, gv_undef, tt, tf, ft, ff, eq_self, if_true, if_false, Bool.false_eq_true, Bool.not_true, Bool.not_false]; done) | omega) only [go_sem, fa31_0, ld2, RdS.len hd sl22, RdS.idx hd sl22, R1.intB hd (HPres.refl _), RdS.cells hd, RdS.len hm sl23, RdS.idx hm sl23, RdS.cellB hm (HPres.refl _), RdS.cells hm, BoxAt.cell hb0_0, wrap_id, Int.add_sub_cancel]
  try simp -implicitDefEqProofs (disch := first | decide | assumption | omega) only [go_sem, RdS.len hd sl22, RdS.idx hd sl22, R1.intB hd (HPres.refl _), RdS.cells hd, RdS.len hm sl23, RdS.idx hm sl23, RdS.cellB hm (HPres.refl _), RdS.cells hm, BoxAt.cell hb0_0, wrap_id, Int.add_sub_cancel]
  refine CallA.pure (iPrime_ok _ _) ?_
  try simp -implicitDefEqProofs (disch := first | decide | assumption | (simp (disch := decide) only [slotOf_zero, slotOf_succ, Option.map_some, puts_same, puts_ne, gv_bool, gv_undef, tt, tf, ft, ff, eq_self, if_true, if_false, Bool.false_eq_true, Bool.not_true, Bool.not_false]; done) | omega) only [go_sem, RdS.len hd sl22, RdS.idx hd sl22, R1.intB hd (HPres.refl _), RdS.cells hd, RdS.len hm sl23, RdS.idx hm sl23, RdS.cellB hm (HPres.refl _), RdS.cells hm, BoxAt.cell hb0_0, wrap_id, Int.add_sub_cancel]
  refine plG_F (by simp (disch := decide) only [slotOf_zero, slotOf_succ, Option.map_some, puts_same, puts_ne, gv_bool, gv_undef, tt, tf, ft, ff, eq_self, if_true, if_false, Bool.false_eq_true, Bool.not_true, Bool.not_false]; rfl) (fun g1 => ?_) (fun g1 => ?_)
  ·try simp -implicitDefEqProofs (disch := first | decide | assumption | (simp (disch := decide) only [slotOf_zero, slotOf_succ, Option.map_some, puts_same, puts_ne, gv_bool, gv_undef, tt, tf, ft, ff, eq_self, if_true, if_false, Bool.false_eq_true, Bool.not_true, Bool.not_false, g1]; done) | omega) only [go_sem, ld31, RdS.len hd sl22, RdS.idx hd sl22, R1.intB hd (HPres.refl _), RdS.cells hd, RdS.len hm sl23, RdS.idx hm sl23, RdS.cellB hm (HPres.refl _), RdS.cells hm, BoxAt.cell hb0_0, wrap_id, Int.add_sub_cancel, g1, eq_self, if_true, if_false, Bool.false_eq_true]
   try simp -implicitDefEqProofs (disch := first | decide | assumption | omega) only [go_sem, RdS.len hd sl22, RdS.idx hd sl22, R1.intB hd (HPres.refl _), RdS.cells hd, RdS.len hm sl23, RdS.idx hm sl23, RdS.cellB hm (HPres.refl _), RdS.cells hm, BoxAt.cell hb0_0, wrap_id, Int.add_sub_cancel]
   refine CallA.mono (top_ok _ X _ ⟨_, _, rfl, hd, hm⟩) ?_
   intro v_ h1_6
   rintro ⟨rfl, e1_6⟩
   have := Ext.size e1_6
   have eB := e1_6
   try simp (disch := decide) only [outv_some, outv_none, put_puts]
   refine plK_pres (Ext.pres e1_6) ?_
   try simp -implicitDefEqProofs (disch := first | decide | assumption | (simp (disch := decide) only [slotOf_zero, slotOf_succ, Option.map_some, puts_same, puts_ne, gv_bool, gv_undef, tt, tf, ft, ff, eq_self, if_true, if_false, Bool.false_eq_true, Bool.not_true, Bool.not_false, g1]; done) | omega) only [go_sem, RdS.len hd sl22, RdS.idx hd sl22, R1.intB hd (Ext.pres eB), RdS.cells hd, RdS.len hm sl23, RdS.idx hm sl23, RdS.cellB hm (Ext.pres eB), RdS.cells hm, BoxAt.cellB hb0_0 eB, wrap_id, Int.add_sub_cancel, g1, eq_self, if_true, if_false, Bool.false_eq_true]
   try simp -implicitDefEqProofs (disch := first | decide | assumption | omega) only [go_sem, RdS.len hd sl22, RdS.idx hd sl22, R1.intB hd (Ext.pres eB), RdS.cells hd, RdS.len hm sl23, RdS.idx hm sl23, RdS.cellB hm (Ext.pres eB), RdS.cells hm, BoxAt.cellB hb0_0 eB, wrap_id, Int.add_sub_cancel]
   refine CallA.pure (iIn_ok _ _ _ _) ?_
   try simp -implicitDefEqProofs (disch := first | decide | assumption | (simp (disch := decide) only [slotOf_zero, slotOf_succ, Option.map_some, puts_same, puts_ne, gv_bool, gv_undef, tt, tf, ft, ff, eq_self, if_true, if_false, Bool.false_eq_true, Bool.not_true, Bool.not_false, g1]; done) | omega) only [go_sem, RdS.len hd sl22, RdS.idx hd sl22, R1.intB hd (Ext.pres eB), RdS.cells hd, RdS.len hm sl23, RdS.idx hm sl23, RdS.cellB hm (Ext.pres eB), RdS.cells hm, BoxAt.cellB hb0_0 eB, wrap_id, Int.add_sub_cancel, g1, eq_self, if_true, if_false, Bool.false_eq_true]
   refine plG_F (by simp (disch := decide) only [slotOf_zero, slotOf_succ, Option.map_some, puts_same, puts_ne, gv_bool, gv_undef, tt, tf, ft, ff, eq_self, if_true, if_false, Bool.false_eq_true, Bool.not_true, Bool.not_false, g1]; rfl) (fun g2 => ?_) (fun g2 => ?_)
   ·try simp -implicitDefEqProofs (disch := first | decide | assumption | (simp (disch := decide) only [slotOf_zero, slotOf_succ, Option.map_some, puts_same, puts_ne, gv_bool, gv_undef, tt, tf, ft, ff, eq_self, if_true, if_false, Bool.false_eq_true, Bool.not_true, Bool.not_false, g1, g2]; done) | omega) only [go_sem, fa31_2, ld23, ld31, RdS.len hd sl22, RdS.idx hd sl22, R1.intB hd (Ext.pres eB), RdS.cells hd, RdS.len hm sl23, RdS.idx hm sl23, RdS.cellB hm (Ext.pres eB), RdS.cells hm, BoxAt.cellB hb0_0 eB, wrap_id, Int.add_sub_cancel, g1, g2, eq_self, if_true, if_false, Bool.false_eq_true]
    try simp -implicitDefEqProofs (disch := first | decide | assumption | omega) only [go_sem, RdS.len hd sl22, RdS.idx hd sl22, R1.intB hd (Ext.pres eB), RdS.cells hd, RdS.len hm sl23, RdS.idx hm sl23, RdS.cellB hm (Ext.pres eB), RdS.cells hm, BoxAt.cellB hb0_0 eB, wrap_id, Int.add_sub_cancel]
    refine CallA.pure (size3_ok _ _ _ (RdS.pres hm (Ext.pres eB))) ?_
    try simp -implicitDefEqProofs (disch := first | decide | assumption | (simp (disch := decide) only [slotOf_zero, slotOf_succ, Option.map_some, puts_same, puts_ne, gv_bool, gv_undef, tt, tf, ft, ff, eq_self, if_true, if_false, Bool.false_eq_true, Bool.not_true, Bool.not_false, g1, g2]; done) | omega) only [go_sem, RdS.len hd sl22, RdS.idx hd sl22, R1.intB hd (Ext.pres eB), RdS.cells hd, RdS.len hm sl23, RdS.idx hm sl23, RdS.cellB hm (Ext.pres eB), RdS.cells hm, BoxAt.cellB hb0_0 eB, wrap_id, Int.add_sub_cancel, g1, g2, eq_self, if_true, if_false, Bool.false_eq_true]
    try simp -implicitDefEqProofs (disch := first | decide | assumption | omega) only [go_sem, RdS.len hd sl22, RdS.idx hd sl22, R1.intB hd (Ext.pres eB), RdS.cells hd, RdS.len hm sl23, RdS.idx hm sl23, RdS.cellB hm (Ext.pres eB), RdS.cells hm, BoxAt.cellB hb0_0 eB, wrap_id, Int.add_sub_cancel]
    refine CallA.mono (top_ok _ X _ ⟨_, _, rfl, (RdS.pres hd (Ext.pres eB)), (RdS.pres hm (Ext.pres eB))⟩) ?_
    intro v_ h1_15
    rintro ⟨rfl, e1_15⟩
    have := Ext.size e1_15
    replace eB := Ext.trans eB e1_15
    try simp (disch := decide) only [outv_some, outv_none, put_puts]
    refine plK_pres (Ext.pres e1_15) ?_
    try simp -implicitDefEqProofs (disch := first | decide | assumption | (simp (disch := decide) only [slotOf_zero, slotOf_succ, Option.map_some, puts_same, puts_ne, gv_bool, gv_undef, tt, tf, ft, ff, eq_self, if_true, if_false, Bool.false_eq_true, Bool.not_true, Bool.not_false, g1, g2]; done) | omega) only [go_sem, RdS.len hd sl22, RdS.idx hd sl22, R1.intB hd (Ext.pres eB), RdS.cells hd, RdS.len hm sl23, RdS.idx hm sl23, RdS.cellB hm (Ext.pres eB), RdS.cells hm, BoxAt.cellB hb0_0 eB, wrap_id, Int.add_sub_cancel, g1, g2, eq_self, if_true, if_false, Bool.false_eq_true]
    refine plG_F (by simp (disch := decide) only [slotOf_zero, slotOf_succ, Option.map_some, puts_same, puts_ne, gv_bool, gv_undef, tt, tf, ft, ff, eq_self, if_true, if_false, Bool.false_eq_true, Bool.not_true, Bool.not_false, g1, g2]; rfl) (fun g3 => ?_) (fun g3 => ?_)
    ·try simp -implicitDefEqProofs (disch := first | decide | assumption | (simp (disch := decide) only [slotOf_zero, slotOf_succ, Option.map_some, puts_same, puts_ne, gv_bool, gv_undef, tt, tf, ft, ff, eq_self, if_true, if_false, Bool.false_eq_true, Bool.not_true, Bool.not_false, g1, g2, g3]; done) | omega) only [go_sem, fa31_1, ld22, RdS.len hd sl22, RdS.idx hd sl22, R1.intB hd (Ext.pres eB), RdS.cells hd, RdS.len hm sl23, RdS.idx hm sl23, RdS.cellB hm (Ext.pres eB), RdS.cells hm, BoxAt.cellB hb0_0 eB, wrap_id, Int.add_sub_cancel, g1, g2, g3, eq_self, if_true, if_false, Bool.false_eq_true]
     try simp -implicitDefEqProofs (disch := first | decide | assumption | omega) only [go_sem, RdS.len hd sl22, RdS.idx hd sl22, R1.intB hd (Ext.pres eB), RdS.cells hd, RdS.len hm sl23, RdS.idx hm sl23, RdS.cellB hm (Ext.pres eB), RdS.cells hm, BoxAt.cellB hb0_0 eB, wrap_id, Int.add_sub_cancel]
     refine CallA.mono (has1_ok _ X.dims _ _ (fun x => !in3 x 0 8) _ (RdS.pres hd (Ext.pres eB)) (fun j hj h' e => by
    simp only [List.append_toArray, List.cons_append, List.nil_append]
    exact CallA.mono (isC1_ok _ _) (fun _ _ ⟨e1, e2⟩ => ⟨e1, e2 ▸ Ext.refl _⟩))) ?_
     intro v_ h1_21
     rintro ⟨rfl, e1_21⟩
     have := Ext.size e1_21
     replace eB := Ext.trans eB e1_21
     try simp (disch := decide) only [outv_some, outv_none, put_puts]
     refine plK_pres (Ext.pres e1_21) ?_
     try simp -implicitDefEqProofs (disch := first | decide | assumption | (simp (disch := decide) only [slotOf_zero, slotOf_succ, Option.map_some, puts_same, puts_ne, gv_bool, gv_undef, tt, tf, ft, ff, eq_self, if_true, if_false, Bool.false_eq_true, Bool.not_true, Bool.not_false, g1, g2, g3]; done) | omega) only [go_sem, RdS.len hd sl22, RdS.idx hd sl22, R1.intB hd (Ext.pres eB), RdS.cells hd, RdS.len hm sl23, RdS.idx hm sl23, RdS.cellB hm (Ext.pres eB), RdS.cells hm, BoxAt.cellB hb0_0 eB, wrap_id, Int.add_sub_cancel, g1, g2, g3, eq_self, if_true, if_false, Bool.false_eq_true]
     refine hK _ _ ?_
     clear hK K
     refine den_stop ?_
     refine ⟨?_, (Ext.trans (Ext.trans e1_6 e1_15) e1_21)⟩
     first | (simp (disch := decide) only [go_sem, g1, g2, g3, eq_self, Bool.true_and, Bool.and_true, Bool.false_and, Bool.and_false, Bool.true_or, Bool.or_true, Bool.false_or, Bool.or_false, if_true, if_false, Bool.false_eq_true]; done) | simp [HasL, sel, puts_at, g1, g2, g3]
    ·try simp -implicitDefEqProofs (disch := first | decide | assumption | (simp (disch := decide) only [slotOf_zero, slotOf_succ, Option.map_some, puts_same, puts_ne, gv_bool, gv_undef, tt, tf, ft, ff, eq_self, if_true, if_false, Bool.false_eq_true, Bool.not_true, Bool.not_false, g1, g2, g3]; done) | omega) only [go_sem, RdS.len hd sl22, RdS.idx hd sl22, R1.intB hd (Ext.pres eB), RdS.cells hd, RdS.len hm sl23, RdS.idx hm sl23, RdS.cellB hm (Ext.pres eB), RdS.cells hm, BoxAt.cellB hb0_0 eB, wrap_id, Int.add_sub_cancel, g1, g2, g3, eq_self, if_true, if_false, Bool.false_eq_true]
     refine hK _ _ ?_
     clear hK K
     refine den_stop ?_
     refine ⟨?_, (Ext.trans e1_6 e1_15)⟩
     first | (simp (disch := decide) only [go_sem, g1, g2, g3, eq_self, Bool.true_and, Bool.and_true, Bool.false_and, Bool.and_false, Bool.true_or, Bool.or_true, Bool.false_or, Bool.or_false, if_true, if_false, Bool.false_eq_true]; done) | simp [HasL, sel, puts_at, g1, g2, g3]
   ·try simp -implicitDefEqProofs (disch := first | decide | assumption | (simp (disch := decide) only [slotOf_zero, slotOf_succ, Option.map_some, puts_same, puts_ne, gv_bool, gv_undef, tt, tf, ft, ff, eq_self, if_true, if_false, Bool.false_eq_true, Bool.not_true, Bool.not_false, g1, g2]; done) | omega) only [go_sem, RdS.len hd sl22, RdS.idx hd sl22, R1.intB hd (Ext.pres eB), RdS.cells hd, RdS.len hm sl23, RdS.idx hm sl23, RdS.cellB hm (Ext.pres eB), RdS.cells hm, BoxAt.cellB hb0_0 eB, wrap_id, Int.add_sub_cancel, g1, g2, eq_self, if_true, if_false, Bool.false_eq_true]
    try simp -implicitDefEqProofs (disch := first | decide | assumption | (simp (disch := decide) only [slotOf_zero, slotOf_succ, Option.map_some, puts_same, puts_ne, gv_bool, gv_undef, tt, tf, ft, ff, eq_self, if_true, if_false, Bool.false_eq_true, Bool.not_true, Bool.not_false, g1, g2]; done) | omega) only [go_sem, RdS.len hd sl22, RdS.idx hd sl22, R1.intB hd (Ext.pres eB), RdS.cells hd, RdS.len hm sl23, RdS.idx hm sl23, RdS.cellB hm (Ext.pres eB), RdS.cells hm, BoxAt.cellB hb0_0 eB, wrap_id, Int.add_sub_cancel, g1, g2, eq_self, if_true, if_false, Bool.false_eq_true]
    refine hK _ _ ?_
    clear hK K
    refine den_stop ?_
    refine ⟨?_, e1_6⟩
    first | (simp (disch := decide) only [go_sem, g1, g2, eq_self, Bool.true_and, Bool.and_true, Bool.false_and, Bool.and_false, Bool.true_or, Bool.or_true, Bool.false_or, Bool.or_false, if_true, if_false, Bool.false_eq_true]; done) | simp [HasL, sel, puts_at, g1, g2]
  ·try simp -implicitDefEqProofs (disch := first | decide | assumption | (simp (disch := decide) only [slotOf_zero, slotOf_succ, Option.map_some, puts_same, puts_ne, gv_bool, gv_undef, tt, tf, ft, ff, eq_self, if_true, if_false, Bool.false_eq_true, Bool.not_true, Bool.not_false, g1]; done) | omega) only [go_sem, RdS.len hd sl22, RdS.idx hd sl22, R1.intB hd (HPres.refl _), RdS.cells hd, RdS.len hm sl23, RdS.idx hm sl23, RdS.cellB hm (HPres.refl _), RdS.cells hm, BoxAt.cell hb0_0, wrap_id, Int.add_sub_cancel, g1, eq_self, if_true, if_false, Bool.false_eq_true]
   try simp -implicitDefEqProofs (disch := first | decide | assumption | (simp (disch := decide) only [slotOf_zero, slotOf_succ, Option.map_some, puts_same, puts_ne, gv_bool, gv_undef, tt, tf, ft, ff, eq_self, if_true, if_false, Bool.false_eq_true, Bool.not_true, Bool.not_false, g1]; done) | omega) only [go_sem, RdS.len hd sl22, RdS.idx hd sl22, R1.intB hd (HPres.refl _), RdS.cells hd, RdS.len hm sl23, RdS.idx hm sl23, RdS.cellB hm (HPres.refl _), RdS.cells hm, BoxAt.cell hb0_0, wrap_id, Int.add_sub_cancel, g1, eq_self, if_true, if_false, Bool.false_eq_true]
   try simp -implicitDefEqProofs (disch := first | decide | assumption | (simp (disch := decide) only [slotOf_zero, slotOf_succ, Option.map_some, puts_same, puts_ne, gv_bool, gv_undef, tt, tf, ft, ff, eq_self, if_true, if_false, Bool.false_eq_true, Bool.not_true, Bool.not_false, g1]; done) | omega) only [go_sem, RdS.len hd sl22, RdS.idx hd sl22, R1.intB hd (HPres.refl _), RdS.cells hd, RdS.len hm sl23, RdS.idx hm sl23, RdS.cellB hm (HPres.refl _), RdS.cells hm, BoxAt.cell hb0_0, wrap_id, Int.add_sub_cancel, g1, eq_self, if_true, if_false, Bool.false_eq_true]
   refine hK _ _ ?_
   clear hK K
   refine den_stop ?_
   refine ⟨?_, Ext.refl _⟩
   first | (simp (disch := decide) only [go_sem, g1, eq_self, Bool.true_and, Bool.and_true, Bool.false_and, Bool.and_false, Bool.true_or, Bool.or_true, Bool.false_or, Bool.or_false, if_true, if_false, Bool.false_eq_true]; done) | simp [HasL, sel, puts_at, g1]
 intro en4 h5 e6
 have := Ext.size e6
 have eB := e6
 simp (disch := decide) only [go_sem]
 refine den_cond rfl (fun c0 => ?_) (fun c0 => ?_)
 ·try simp only [decide_eq_true_eq, decide_eq_false_iff_not, beq_iff_eq, beq_eq_false_iff_ne, bne_iff_ne, ne_eq, Bool.not_eq_true', Bool.not_eq_false', Bool.and_eq_true, Bool.or_eq_true, bne_eq_false_iff_eq, Bool.or_eq_false_iff, Bool.and_eq_false_iff] at c0
  refine den_seq ?_
  refine den_region TTok ?_
  intro K hK
  simp -implicitDefEqProofs (disch := first | decide | assumption | omega) only [go_sem, RdS.len hd sl22, RdS.idx hd sl22, R1.intB hd (Ext.pres eB), RdS.cells hd, RdS.len hm sl23, RdS.idx hm sl23, RdS.cellB hm (Ext.pres eB), RdS.cells hm, BoxAt.cellB hb0_0 eB, wrap_id, Int.add_sub_cancel]
  refine hK _ _ ?_
  clear hK K
  refine den_ret ?_
  simp (disch := decide) only [resP_1, puts_same, puts_ne]
  exact ⟨vbool (isC_no fun hC => by
   have h1 := hC.p; have h2 := hC.len; have h3 := hC.ml
   rcases c0 with ((c | c) | c) | c
   ·rw [h1] at c; cases c
   ·rw [in3_f] at c; omega
   ·omega
   ·have := hC.dm; rw [List.all_eq_not_any_not, c] at this; cases this), (Ext.trans e0_0 eB)⟩
 ·try simp only [decide_eq_true_eq, decide_eq_false_iff_not, beq_iff_eq, beq_eq_false_iff_ne, bne_iff_ne, ne_eq, Bool.not_eq_true', Bool.not_eq_false', Bool.and_eq_true, Bool.or_eq_true, bne_eq_false_iff_eq, Bool.or_eq_false_iff, Bool.and_eq_false_iff] at c0
  refine den_skip ?_
  refine den_seq ?_
  refine den_seq ?_
  have hp7 := isP_bnd c0.1.1.1
  have hdl := in3_iff.1 c0.1.1.2
  have hda := any_all c0.2
  refine den_region TTok ?_
  intro K hK
  simp -implicitDefEqProofs (disch := first | decide | assumption | omega) only [go_sem, fa31_2, ld23, RdS.len hd sl22, RdS.idx hd sl22, R1.intB hd (Ext.pres eB), RdS.cells hd, RdS.len hm sl23, RdS.idx hm sl23, RdS.cellB hm (Ext.pres eB), RdS.cells hm, BoxAt.cellB hb0_0 eB, wrap_id, Int.add_sub_cancel]
  refine hK _ _ ?_
  clear hK K
  refine den_block ?_
  refine den_sel [34, 1, 32, 33] ?_
  intro env_7
  simp only [go_sem]
  refine den_loopS (σ := Nat) (fun s => [(34, .int .i64 (s : Int))]) (fun s H => Ext h0_0 H ∧ s ≤ X.maps.length ∧ ∀ j, j < s → tbAt X j) (fun s => X.maps.length - s) 0 ?_ ?_
  ·exact ⟨eB, by omega, fun j hj => by omega⟩
  ·rintro k h10 ee9 ⟨eB, hk, hz⟩
   simp only [List.cons_append, List.nil_append]
   have := Ext.size eB
   refine den_seq ?_
   refine den_region TTok ?_
   intro K hK
   simp -implicitDefEqProofs (disch := first | decide | assumption | omega) only [go_sem, RdS.len hd sl22, RdS.idx hd sl22, R1.intB hd (Ext.pres eB), RdS.cells hd, RdS.len hm sl23, RdS.idx hm sl23, RdS.cellB hm (Ext.pres eB), RdS.cells hm, BoxAt.cellB hb0_0 eB, wrap_id, Int.add_sub_cancel]
   refine hK _ _ ?_
   clear hK K
   refine den_seq ?_
   refine den_cond rfl (fun c1 => ?_) (fun c1 => ?_)
   ·try simp only [decide_eq_true_eq, decide_eq_false_iff_not, beq_iff_eq, beq_eq_false_iff_ne, bne_iff_ne, ne_eq, Bool.not_eq_true', Bool.not_eq_false', Bool.and_eq_true, Bool.or_eq_true, bne_eq_false_iff_eq, Bool.or_eq_false_iff, Bool.and_eq_false_iff] at c1
    refine den_skip ?_
    refine den_seq ?_
    refine den_block ?_
    refine den_seq ?_
    refine den_region TTok ?_
    intro K hK
    have hr11 := RdS.rowN hm k (by omega)
    have hlhr11 := RdS.le hr11
    simp -implicitDefEqProofs (disch := first | decide | assumption | omega) only [go_sem, ld26, RdS.len hd sl22, RdS.idx hd sl22, R1.intB hd (Ext.pres eB), RdS.cells hd, RdS.len hm sl23, RdS.idx hm sl23, RdS.cellB hm (Ext.pres eB), RdS.cells hm, RdS.len hr11 sl26, RdS.idx hr11 sl26, RdS.cellB hr11 (Ext.pres eB), RdS.cells hr11, BoxAt.cellB hb0_0 eB, wrap_id, Int.add_sub_cancel]
    refine hK _ _ ?_
    clear hK K
    refine den_seq ?_
    refine den_merge [(59, .bool ((((((X.maps).getD k default).length : Int) != ((X.dims).getD (((k : Int) + (1 : Int))).toNat 0)) || (!((((X.maps).getD k default).all (isRow X.p ((X.dims).getD k 0))))))))] [1, 32, 33, 34] (fun H => Ext h10 H) ?_ ?_
     -- a way
    ·refine den_draw TTok mixed [] [(0, true), (2, true), (3, true), (4, true), (5, true), (6, true), (7, true), (1, false), (8, true), (9, true), (10, true), (11, true), (12, true), (13, true), (14, true), (15, true), (16, true), (17, true), (18, false), (19, true), (20, true)] (by kernel_rfl) ?_
     intro K hK
     simp -implicitDefEqProofs (disch := first | decide | assumption | (simp (disch := decide) only [slotOf_zero, slotOf_succ, Option.map_some, puts_same, puts_ne, gv_bool, gv_undef, tt, tf, ft, ff, eq_self, if_true, if_false, Bool.false_eq_true, Bool.not_true, Bool.not_false]; done) | omega) only [go_sem, fa31_1, ld22, ld2, RdS.len hd sl22, RdS.idx hd sl22, R1.intB hd (Ext.pres eB), RdS.cells hd, RdS.len hm sl23, RdS.idx hm sl23, RdS.cellB hm (Ext.pres eB), RdS.cells hm, RdS.len hr11 sl26, RdS.idx hr11 sl26, RdS.cellB hr11 (Ext.pres eB), RdS.cells hr11, BoxAt.cellB hb0_0 eB, wrap_id, Int.add_sub_cancel]
     try simp -implicitDefEqProofs (disch := first | decide | assumption | omega) only [go_sem, RdS.len hd sl22, RdS.idx hd sl22, R1.intB hd (Ext.pres eB), RdS.cells hd, RdS.len hm sl23, RdS.idx hm sl23, RdS.cellB hm (Ext.pres eB), RdS.cells hm, RdS.len hr11 sl26, RdS.idx hr11 sl26, RdS.cellB hr11 (Ext.pres eB), RdS.cells hr11, BoxAt.cellB hb0_0 eB, wrap_id, Int.add_sub_cancel]
     refine CallA.pure (size2_ok _ _ _ (RdS.pres hr11 (Ext.pres eB))) ?_
     try simp -implicitDefEqProofs (disch := first | decide | assumption | (simp (disch := decide) only [slotOf_zero, slotOf_succ, Option.map_some, puts_same, puts_ne, gv_bool, gv_undef, tt, tf, ft, ff, eq_self, if_true, if_false, Bool.false_eq_true, Bool.not_true, Bool.not_false]; done) | omega) only [go_sem, RdS.len hd sl22, RdS.idx hd sl22, R1.intB hd (Ext.pres eB), RdS.cells hd, RdS.len hm sl23, RdS.idx hm sl23, RdS.cellB hm (Ext.pres eB), RdS.cells hm, RdS.len hr11 sl26, RdS.idx hr11 sl26, RdS.cellB hr11 (Ext.pres eB), RdS.cells hr11, BoxAt.cellB hb0_0 eB, wrap_id, Int.add_sub_cancel]
     refine plG_F (by simp (disch := decide) only [slotOf_zero, slotOf_succ, Option.map_some, puts_same, puts_ne, gv_bool, gv_undef, tt, tf, ft, ff, eq_self, if_true, if_false, Bool.false_eq_true, Bool.not_true, Bool.not_false]; rfl) (fun g12 => ?_) (fun g12 => ?_)
     ·try simp -implicitDefEqProofs (disch := first | decide | assumption | (simp (disch := decide) only [slotOf_zero, slotOf_succ, Option.map_some, puts_same, puts_ne, gv_bool, gv_undef, tt, tf, ft, ff, eq_self, if_true, if_false, Bool.false_eq_true, Bool.not_true, Bool.not_false, g12]; done) | omega) only [go_sem, fa31_0, fa31_1, ld22, ld2, RdS.len hd sl22, RdS.idx hd sl22, R1.intB hd (Ext.pres eB), RdS.cells hd, RdS.len hm sl23, RdS.idx hm sl23, RdS.cellB hm (Ext.pres eB), RdS.cells hm, RdS.len hr11 sl26, RdS.idx hr11 sl26, RdS.cellB hr11 (Ext.pres eB), RdS.cells hr11, BoxAt.cellB hb0_0 eB, wrap_id, Int.add_sub_cancel, g12, eq_self, if_true, if_false, Bool.false_eq_true]
      try simp -implicitDefEqProofs (disch := first | decide | assumption | omega) only [go_sem, RdS.len hd sl22, RdS.idx hd sl22, R1.intB hd (Ext.pres eB), RdS.cells hd, RdS.len hm sl23, RdS.idx hm sl23, RdS.cellB hm (Ext.pres eB), RdS.cells hm, RdS.len hr11 sl26, RdS.idx hr11 sl26, RdS.cellB hr11 (Ext.pres eB), RdS.cells hr11, BoxAt.cellB hb0_0 eB, wrap_id, Int.add_sub_cancel]
      refine CallA.mono (areRows_ok _ _ _ _ _ (RdS.pres hr11 (Ext.pres eB)) (by omega)) ?_
      intro v_ h6_18
      rintro ⟨rfl, e6_18⟩
      have := Ext.size e6_18
      replace eB := Ext.trans eB e6_18
      try simp (disch := decide) only [outv_some, outv_none, put_puts]
      refine plK_pres (Ext.pres e6_18) ?_
      try simp -implicitDefEqProofs (disch := first | decide | assumption | (simp (disch := decide) only [slotOf_zero, slotOf_succ, Option.map_some, puts_same, puts_ne, gv_bool, gv_undef, tt, tf, ft, ff, eq_self, if_true, if_false, Bool.false_eq_true, Bool.not_true, Bool.not_false, g12]; done) | omega) only [go_sem, RdS.len hd sl22, RdS.idx hd sl22, R1.intB hd (Ext.pres eB), RdS.cells hd, RdS.len hm sl23, RdS.idx hm sl23, RdS.cellB hm (Ext.pres eB), RdS.cells hm, RdS.len hr11 sl26, RdS.idx hr11 sl26, RdS.cellB hr11 (Ext.pres eB), RdS.cells hr11, BoxAt.cellB hb0_0 eB, wrap_id, Int.add_sub_cancel, g12, eq_self, if_true, if_false, Bool.false_eq_true]
      refine hK _ _ ?_
      clear hK K
      refine den_stop ?_
      refine ⟨?_, e6_18⟩
      first | (simp (disch := decide) only [go_sem, g12, eq_self, Bool.true_and, Bool.and_true, Bool.false_and, Bool.and_false, Bool.true_or, Bool.or_true, Bool.false_or, Bool.or_false, if_true, if_false, Bool.false_eq_true]; done) | simp [HasL, sel, puts_at, g12]
     ·try simp -implicitDefEqProofs (disch := first | decide | assumption | (simp (disch := decide) only [slotOf_zero, slotOf_succ, Option.map_some, puts_same, puts_ne, gv_bool, gv_undef, tt, tf, ft, ff, eq_self, if_true, if_false, Bool.false_eq_true, Bool.not_true, Bool.not_false, g12]; done) | omega) only [go_sem, RdS.len hd sl22, RdS.idx hd sl22, R1.intB hd (Ext.pres eB), RdS.cells hd, RdS.len hm sl23, RdS.idx hm sl23, RdS.cellB hm (Ext.pres eB), RdS.cells hm, RdS.len hr11 sl26, RdS.idx hr11 sl26, RdS.cellB hr11 (Ext.pres eB), RdS.cells hr11, BoxAt.cellB hb0_0 eB, wrap_id, Int.add_sub_cancel, g12, eq_self, if_true, if_false, Bool.false_eq_true]
      refine hK _ _ ?_
      clear hK K
      refine den_stop ?_
      refine ⟨?_, Ext.refl _⟩
      first | (simp (disch := decide) only [go_sem, g12, eq_self, Bool.true_and, Bool.and_true, Bool.false_and, Bool.and_false, Bool.true_or, Bool.or_true, Bool.false_or, Bool.or_false, if_true, if_false, Bool.false_eq_true]; done) | simp [HasL, sel, puts_at, g12]
    intro en13 h14 e15
    have := Ext.size e15
    replace eB := Ext.trans eB e15
    simp (disch := decide) only [go_sem]
    refine den_cond rfl (fun c2 => ?_) (fun c2 => ?_)
    ·try simp only [decide_eq_true_eq, decide_eq_false_iff_not, beq_iff_eq, beq_eq_false_iff_ne, bne_iff_ne, ne_eq, Bool.not_eq_true', Bool.not_eq_false', Bool.and_eq_true, Bool.or_eq_true, bne_eq_false_iff_eq, Bool.or_eq_false_iff, Bool.and_eq_false_iff] at c2
     refine den_seq ?_
     refine den_region TTok ?_
     intro K hK
     simp -implicitDefEqProofs (disch := first | decide | assumption | omega) only [go_sem, RdS.len hd sl22, RdS.idx hd sl22, R1.intB hd (Ext.pres eB), RdS.cells hd, RdS.len hm sl23, RdS.idx hm sl23, RdS.cellB hm (Ext.pres eB), RdS.cells hm, RdS.len hr11 sl26, RdS.idx hr11 sl26, RdS.cellB hr11 (Ext.pres eB), RdS.cells hr11, BoxAt.cellB hb0_0 eB, wrap_id, Int.add_sub_cancel]
     refine hK _ _ ?_
     clear hK K
     refine den_ret ?_
     simp (disch := decide) only [resP_1, puts_same, puts_ne]
     exact ⟨vbool (isC_no fun hC => by
      have h := tbAt_iff.1 (hC.tb k (by omega))
      rcases c2 with c | c
      ·exact c h.1
      ·rw [h.2] at c; cases c), (Ext.trans e0_0 eB)⟩
    ·try simp only [decide_eq_true_eq, decide_eq_false_iff_not, beq_iff_eq, beq_eq_false_iff_ne, bne_iff_ne, ne_eq, Bool.not_eq_true', Bool.not_eq_false', Bool.and_eq_true, Bool.or_eq_true, bne_eq_false_iff_eq, Bool.or_eq_false_iff, Bool.and_eq_false_iff] at c2
     refine den_skip ?_
     refine den_blk ?_
     refine den_region TTok ?_
     intro K hK
     simp -implicitDefEqProofs (disch := first | decide | assumption | omega) only [go_sem, RdS.len hd sl22, RdS.idx hd sl22, R1.intB hd (Ext.pres eB), RdS.cells hd, RdS.len hm sl23, RdS.idx hm sl23, RdS.cellB hm (Ext.pres eB), RdS.cells hm, RdS.len hr11 sl26, RdS.idx hr11 sl26, RdS.cellB hr11 (Ext.pres eB), RdS.cells hr11, BoxAt.cellB hb0_0 eB, wrap_id, Int.add_sub_cancel]
     refine hK _ _ ?_
     clear hK K
     refine den_stop ?_
     exact ⟨k + 1, by simp [HasL, puts_at], ⟨eB, by omega, fun j hj => by
      rcases Nat.lt_succ_iff_lt_or_eq.1 hj with h1 | h1
      ·exact hz j h1
      ·subst h1; exact tbAt_iff.2 c2⟩, by omega⟩
   ·try simp only [decide_eq_true_eq, decide_eq_false_iff_not, beq_iff_eq, beq_eq_false_iff_ne, bne_iff_ne, ne_eq, Bool.not_eq_true', Bool.not_eq_false', Bool.and_eq_true, Bool.or_eq_true, bne_eq_false_iff_eq, Bool.or_eq_false_iff, Bool.and_eq_false_iff] at c1
    refine den_exit ?_
    refine denX_code ?_
    refine denX_stop ?_
    refine denX_hit ?_
    refine den_seq ?_
    refine den_seq ?_
    have hP : PreC X := ⟨hp7, by omega, hda, fun j hj => hz j (by omega)⟩
    refine den_region TTok ?_
    intro K hK
    simp -implicitDefEqProofs (disch := first | decide | assumption | omega) only [go_sem, RdS.len hd sl22, RdS.idx hd sl22, R1.intB hd (Ext.pres eB), RdS.cells hd, RdS.len hm sl23, RdS.idx hm sl23, RdS.cellB hm (Ext.pres eB), RdS.cells hm, BoxAt.cellB hb0_0 eB, wrap_id, Int.add_sub_cancel]
    refine hK _ _ ?_
    clear hK K
    refine den_block ?_
    refine den_sel [5, 1] ?_
    intro env_16
    simp only [go_sem]
    refine den_loopS (σ := Nat) (fun s => [(5, .int .i64 ((s : Int) + 1))]) (fun s H => Ext h0_0 H ∧ 0 < s ∧ ∀ j, 0 < j → j < s → ∀ i, i < (X.maps.getD j default).length → leadP (sqv X j i) < 0) (fun s => X.maps.length - s) 1 ?_ ?_
    ·exact ⟨eB, by omega, fun j h0 hj => by omega⟩
    ·rintro k h19 ee18 ⟨eB, hk, hs⟩
     simp only [List.cons_append, List.nil_append]
     have := Ext.size eB
     refine den_seq ?_
     refine den_seq ?_
     refine den_region TTok ?_
     intro K hK
     simp -implicitDefEqProofs (disch := first | decide | assumption | omega) only [go_sem, ld31, RdS.len hd sl22, RdS.idx hd sl22, R1.intB hd (Ext.pres eB), RdS.cells hd, RdS.len hm sl23, RdS.idx hm sl23, RdS.cellB hm (Ext.pres eB), RdS.cells hm, BoxAt.cellB hb0_0 eB, wrap_id, Int.add_sub_cancel]
     try simp -implicitDefEqProofs (disch := first | decide | assumption | omega) only [go_sem, RdS.len hd sl22, RdS.idx hd sl22, R1.intB hd (Ext.pres eB), RdS.cells hd, RdS.len hm sl23, RdS.idx hm sl23, RdS.cellB hm (Ext.pres eB), RdS.cells hm, BoxAt.cellB hb0_0 eB, wrap_id, Int.add_sub_cancel]
     refine CallA.mono (top_ok _ X _ ⟨_, _, rfl, (RdS.pres hd (Ext.pres eB)), (RdS.pres hm (Ext.pres eB))⟩) ?_
     intro v_ h10_2
     rintro ⟨rfl, e10_2⟩
     have := Ext.size e10_2
     replace eB := Ext.trans eB e10_2
     try simp -implicitDefEqProofs (disch := first | decide | assumption | omega) only [go_sem, RdS.len hd sl22, RdS.idx hd sl22, R1.intB hd (Ext.pres eB), RdS.cells hd, RdS.len hm sl23, RdS.idx hm sl23, RdS.cellB hm (Ext.pres eB), RdS.cells hm, BoxAt.cellB hb0_0 eB, wrap_id, Int.add_sub_cancel]
     refine hK _ _ ?_
     clear hK K
     refine den_cond rfl (fun c3 => ?_) (fun c3 => ?_)
     ·try simp only [decide_eq_true_eq, decide_eq_false_iff_not, beq_iff_eq, beq_eq_false_iff_ne, bne_iff_ne, ne_eq, Bool.not_eq_true', Bool.not_eq_false', Bool.and_eq_true, Bool.or_eq_true, bne_eq_false_iff_eq, Bool.or_eq_false_iff, Bool.and_eq_false_iff] at c3
      refine den_skip ?_
      refine den_seq ?_
      refine den_block ?_
      refine den_seq ?_
      refine den_region TTok ?_
      intro K hK
      have hr20 := RdS.rowN hm k (by omega)
      have hlhr20 := RdS.le hr20
      simp -implicitDefEqProofs (disch := first | decide | assumption | omega) only [go_sem, fa31_2, ld23, ld26, RdS.len hd sl22, RdS.idx hd sl22, R1.intB hd (Ext.pres eB), RdS.cells hd, RdS.len hm sl23, RdS.idx hm sl23, RdS.cellB hm (Ext.pres eB), RdS.cells hm, RdS.len hr20 sl26, RdS.idx hr20 sl26, RdS.cellB hr20 (Ext.pres eB), RdS.cells hr20, BoxAt.cellB hb0_0 eB, wrap_id, Int.add_sub_cancel]
      refine hK _ _ ?_
      clear hK K
      refine den_block ?_
      refine den_sel [74, 1, 5, 72, 73] ?_
      intro env_21
      simp only [go_sem]
      refine den_loopS (σ := Nat) (fun s => [(74, .int .i64 (s : Int))]) (fun s H => Ext h0_0 H ∧ s ≤ (X.maps.getD k default).length ∧ ∀ i, i < s → leadP (sqv X k i) < 0) (fun s => (X.maps.getD k default).length - s) 0 ?_ ?_
      ·exact ⟨eB, by omega, fun j hj => by omega⟩
      ·rintro m h24 ee23 ⟨eB, hm2, hy⟩
       simp only [List.cons_append, List.nil_append]
       have := Ext.size eB
       refine den_seq ?_
       refine den_region TTok ?_
       intro K hK
       simp -implicitDefEqProofs (disch := first | decide | assumption | omega) only [go_sem, RdS.len hd sl22, RdS.idx hd sl22, R1.intB hd (Ext.pres eB), RdS.cells hd, RdS.len hm sl23, RdS.idx hm sl23, RdS.cellB hm (Ext.pres eB), RdS.cells hm, RdS.len hr20 sl26, RdS.idx hr20 sl26, RdS.cellB hr20 (Ext.pres eB), RdS.cells hr20, BoxAt.cellB hb0_0 eB, wrap_id, Int.add_sub_cancel]
       refine hK _ _ ?_
       clear hK K
       refine den_seq ?_
       refine den_cond rfl (fun c4 => ?_) (fun c4 => ?_)
       ·try simp only [decide_eq_true_eq, decide_eq_false_iff_not, beq_iff_eq, beq_eq_false_iff_ne, bne_iff_ne, ne_eq, Bool.not_eq_true', Bool.not_eq_false', Bool.and_eq_true, Bool.or_eq_true, bne_eq_false_iff_eq, Bool.or_eq_false_iff, Bool.and_eq_false_iff] at c4
        refine den_skip ?_
        refine den_seq ?_
        refine den_block ?_
        refine den_seq ?_
        refine den_region TTok ?_
        intro K hK
        have hr25 := RdS.rowN hr20 m (by omega)
        have hlhr25 := RdS.le hr25
        simp -implicitDefEqProofs (disch := first | decide | assumption | omega) only [go_sem, ld22, RdS.len hd sl22, RdS.idx hd sl22, R1.intB hd (Ext.pres eB), RdS.cells hd, RdS.len hm sl23, RdS.idx hm sl23, RdS.cellB hm (Ext.pres eB), RdS.cells hm, RdS.len hr20 sl26, RdS.idx hr20 sl26, RdS.cellB hr20 (Ext.pres eB), RdS.cells hr20, RdS.len hr25 sl22, RdS.idx hr25 sl22, R1.intB hr25 (Ext.pres eB), RdS.cells hr25, BoxAt.cellB hb0_0 eB, wrap_id, Int.add_sub_cancel]
        refine hK _ _ ?_
        clear hK K
        refine den_seq ?_
        have hq := (tableP_iff.1 (hP.tb k (by omega))).2.at (k := m) (by omega)
        refine den_region TTok ?_
        intro K hK
        simp -implicitDefEqProofs (disch := first | decide | assumption | omega) only [go_sem, ld31, RdS.len hd sl22, RdS.idx hd sl22, R1.intB hd (Ext.pres eB), RdS.cells hd, RdS.len hm sl23, RdS.idx hm sl23, RdS.cellB hm (Ext.pres eB), RdS.cells hm, RdS.len hr20 sl26, RdS.idx hr20 sl26, RdS.cellB hr20 (Ext.pres eB), RdS.cells hr20, RdS.len hr25 sl22, RdS.idx hr25 sl22, R1.intB hr25 (Ext.pres eB), RdS.cells hr25, BoxAt.cellB hb0_0 eB, wrap_id, Int.add_sub_cancel]
        try simp -implicitDefEqProofs (disch := first | decide | assumption | omega) only [go_sem, RdS.len hd sl22, RdS.idx hd sl22, R1.intB hd (Ext.pres eB), RdS.cells hd, RdS.len hm sl23, RdS.idx hm sl23, RdS.cellB hm (Ext.pres eB), RdS.cells hm, RdS.len hr20 sl26, RdS.idx hr20 sl26, RdS.cellB hr20 (Ext.pres eB), RdS.cells hr20, RdS.len hr25 sl22, RdS.idx hr25 sl22, R1.intB hr25 (Ext.pres eB), RdS.cells hr25, BoxAt.cellB hb0_0 eB, wrap_id, Int.add_sub_cancel]
        refine CallA.mono (diff_ok _ X _ _ _ _ ⟨_, _, rfl, (RdS.pres hd (Ext.pres eB)), (RdS.pres hm (Ext.pres eB))⟩ (RdS.pres hr25 (Ext.pres eB)) hP hq.2 (fun _ _ => by simpa using hq.1)) ?_
        intro v15_4 h15_4
        rintro ⟨f15_4, ho15_4, hf15_4, e15_4⟩
        have := Ext.size e15_4
        replace eB := Ext.trans eB e15_4
        have hlho15_4 := OS.lt ho15_4
        try simp -implicitDefEqProofs (disch := first | decide | assumption | omega) only [go_sem, RdS.len hd sl22, RdS.idx hd sl22, R1.intB hd (Ext.pres eB), RdS.cells hd, RdS.len hm sl23, RdS.idx hm sl23, RdS.cellB hm (Ext.pres eB), RdS.cells hm, RdS.len hr20 sl26, RdS.idx hr20 sl26, RdS.cellB hr20 (Ext.pres eB), RdS.cells hr20, RdS.len hr25 sl22, RdS.idx hr25 sl22, R1.intB hr25 (Ext.pres eB), RdS.cells hr25, RdS.len (OS.rd ho15_4) sl22, RdS.idx (OS.rd ho15_4) sl22, R1.intN (OS.rd ho15_4), RdS.cells (OS.rd ho15_4), BoxAt.cellB hb0_0 eB, wrap_id, Int.add_sub_cancel]
        try simp -implicitDefEqProofs (disch := first | decide | assumption | omega) only [go_sem, RdS.len hd sl22, RdS.idx hd sl22, R1.intB hd (Ext.pres eB), RdS.cells hd, RdS.len hm sl23, RdS.idx hm sl23, RdS.cellB hm (Ext.pres eB), RdS.cells hm, RdS.len hr20 sl26, RdS.idx hr20 sl26, RdS.cellB hr20 (Ext.pres eB), RdS.cells hr20, RdS.len hr25 sl22, RdS.idx hr25 sl22, R1.intB hr25 (Ext.pres eB), RdS.cells hr25, RdS.len (OS.rd ho15_4) sl22, RdS.idx (OS.rd ho15_4) sl22, R1.intN (OS.rd ho15_4), RdS.cells (OS.rd ho15_4), BoxAt.cellB hb0_0 eB, wrap_id, Int.add_sub_cancel]
        refine CallA.mono (isZero_ok _ _ _ (OS.rd ho15_4)) ?_
        intro v_ h15_5
        rintro ⟨rfl, e15_5⟩
        replace ho15_4 := OS.ext ho15_4 e15_5
        have := Ext.size e15_5
        replace eB := Ext.trans eB e15_5
        try simp -implicitDefEqProofs (disch := first | decide | assumption | omega) only [go_sem, RdS.len hd sl22, RdS.idx hd sl22, R1.intB hd (Ext.pres eB), RdS.cells hd, RdS.len hm sl23, RdS.idx hm sl23, RdS.cellB hm (Ext.pres eB), RdS.cells hm, RdS.len hr20 sl26, RdS.idx hr20 sl26, RdS.cellB hr20 (Ext.pres eB), RdS.cells hr20, RdS.len hr25 sl22, RdS.idx hr25 sl22, R1.intB hr25 (Ext.pres eB), RdS.cells hr25, RdS.len (OS.rd ho15_4) sl22, RdS.idx (OS.rd ho15_4) sl22, R1.intN (OS.rd ho15_4), RdS.cells (OS.rd ho15_4), BoxAt.cellB hb0_0 eB, wrap_id, Int.add_sub_cancel]
        refine hK _ _ ?_
        clear hK K
        refine den_cond rfl (fun c5 => ?_) (fun c5 => ?_)
        ·try simp only [decide_eq_true_eq, decide_eq_false_iff_not, beq_iff_eq, beq_eq_false_iff_ne, bne_iff_ne, ne_eq, Bool.not_eq_true', Bool.not_eq_false', Bool.and_eq_true, Bool.or_eq_true, bne_eq_false_iff_eq, Bool.or_eq_false_iff, Bool.and_eq_false_iff] at c5
         refine den_seq ?_
         refine den_region TTok ?_
         intro K hK
         simp -implicitDefEqProofs (disch := first | decide | assumption | omega) only [go_sem, RdS.len hd sl22, RdS.idx hd sl22, R1.intB hd (Ext.pres eB), RdS.cells hd, RdS.len hm sl23, RdS.idx hm sl23, RdS.cellB hm (Ext.pres eB), RdS.cells hm, RdS.len hr20 sl26, RdS.idx hr20 sl26, RdS.cellB hr20 (Ext.pres eB), RdS.cells hr20, RdS.len hr25 sl22, RdS.idx hr25 sl22, R1.intB hr25 (Ext.pres eB), RdS.cells hr25, RdS.len (OS.rd ho15_4) sl22, RdS.idx (OS.rd ho15_4) sl22, R1.intN (OS.rd ho15_4), RdS.cells (OS.rd ho15_4), BoxAt.cellB hb0_0 eB, wrap_id, Int.add_sub_cancel]
         refine hK _ _ ?_
         clear hK K
         refine den_ret ?_
         simp (disch := decide) only [resP_1, puts_same, puts_ne]
         exact ⟨vbool (isC_no fun hC => by have h := hC.sq k (by omega) (by omega) m (by omega); rw [diff_sqv (by omega) (by omega)] at c5; exact lead_some c5 h), (Ext.trans e0_0 eB)⟩
        ·try simp only [decide_eq_true_eq, decide_eq_false_iff_not, beq_iff_eq, beq_eq_false_iff_ne, bne_iff_ne, ne_eq, Bool.not_eq_true', Bool.not_eq_false', Bool.and_eq_true, Bool.or_eq_true, bne_eq_false_iff_eq, Bool.or_eq_false_iff, Bool.and_eq_false_iff] at c5
         refine den_skip ?_
         refine den_blk ?_
         refine den_region TTok ?_
         intro K hK
         simp -implicitDefEqProofs (disch := first | decide | assumption | omega) only [go_sem, RdS.len hd sl22, RdS.idx hd sl22, R1.intB hd (Ext.pres eB), RdS.cells hd, RdS.len hm sl23, RdS.idx hm sl23, RdS.cellB hm (Ext.pres eB), RdS.cells hm, RdS.len hr20 sl26, RdS.idx hr20 sl26, RdS.cellB hr20 (Ext.pres eB), RdS.cells hr20, RdS.len hr25 sl22, RdS.idx hr25 sl22, R1.intB hr25 (Ext.pres eB), RdS.cells hr25, RdS.len (OS.rd ho15_4) sl22, RdS.idx (OS.rd ho15_4) sl22, R1.intN (OS.rd ho15_4), RdS.cells (OS.rd ho15_4), BoxAt.cellB hb0_0 eB, wrap_id, Int.add_sub_cancel]
         refine hK _ _ ?_
         clear hK K
         refine den_stop ?_
         exact ⟨m + 1, by simp [HasL, puts_at], ⟨eB, by omega, fun i hi => by
          rcases Nat.lt_succ_iff_lt_or_eq.1 hi with h1 | h1
          ·exact hy i h1
          ·subst h1; rw [← diff_sqv (by omega) (by omega)]; exact lead_zero c5⟩, by omega⟩
       ·try simp only [decide_eq_true_eq, decide_eq_false_iff_not, beq_iff_eq, beq_eq_false_iff_ne, bne_iff_ne, ne_eq, Bool.not_eq_true', Bool.not_eq_false', Bool.and_eq_true, Bool.or_eq_true, bne_eq_false_iff_eq, Bool.or_eq_false_iff, Bool.and_eq_false_iff] at c4
        refine den_exit ?_
        refine denX_code ?_
        refine denX_stop ?_
        refine denX_hit ?_
        refine den_blk ?_
        refine den_region TTok ?_
        intro K hK
        simp -implicitDefEqProofs (disch := first | decide | assumption | omega) only [go_sem, RdS.len hd sl22, RdS.idx hd sl22, R1.intB hd (Ext.pres eB), RdS.cells hd, RdS.len hm sl23, RdS.idx hm sl23, RdS.cellB hm (Ext.pres eB), RdS.cells hm, RdS.len hr20 sl26, RdS.idx hr20 sl26, RdS.cellB hr20 (Ext.pres eB), RdS.cells hr20, BoxAt.cellB hb0_0 eB, wrap_id, Int.add_sub_cancel]
        refine hK _ _ ?_
        clear hK K
        refine den_stop ?_
        exact ⟨k + 1, by simp [HasL, puts_at], ⟨eB, by omega, fun j h0 hj => by
         rcases Nat.lt_succ_iff_lt_or_eq.1 hj with h1 | h1
         ·exact hs j h0 h1
         ·subst h1; exact fun i hi => hy i (by omega)⟩, by omega⟩
     ·try simp only [decide_eq_true_eq, decide_eq_false_iff_not, beq_iff_eq, beq_eq_false_iff_ne, bne_iff_ne, ne_eq, Bool.not_eq_true', Bool.not_eq_false', Bool.and_eq_true, Bool.or_eq_true, bne_eq_false_iff_eq, Bool.or_eq_false_iff, Bool.and_eq_false_iff] at c3
      refine den_exit ?_
      refine denX_code ?_
      refine denX_stop ?_
      refine denX_hit ?_
      refine den_seq ?_
      refine den_region TTok ?_
      intro K hK
      simp -implicitDefEqProofs (disch := first | decide | assumption | omega) only [go_sem, RdS.len hd sl22, RdS.idx hd sl22, R1.intB hd (Ext.pres eB), RdS.cells hd, RdS.len hm sl23, RdS.idx hm sl23, RdS.cellB hm (Ext.pres eB), RdS.cells hm, BoxAt.cellB hb0_0 eB, wrap_id, Int.add_sub_cancel]
      refine hK _ _ ?_
      clear hK K
      refine den_ret ?_
      simp (disch := decide) only [resP_1, puts_same, puts_ne]
      exact ⟨vbool (isC_yes ⟨c0.1.1.1, by omega, by omega, hda, hP.tb, fun j hj h0 => hs j h0 (by omega)⟩), (Ext.trans e0_0 eB)⟩
end Go.Proofs.Ytjjjgllbocgkbaa

namespace Go.Proofs.Ytjjjgllbocgkbaa
open Go
theorem dimP_bnd {X : Cx} (hC : IsC X) (n : Int) : 0 ≤ dimP X n ∧ dimP X n ≤ 8 := by
 unfold dimP
 split
 ·rename_i h
  rw [in3_iff] at h
  exact dm_at hC.dm (by omega)
 ·omega
theorem dimP_out {X : Cx} {n : Int} (h : ¬ (0 ≤ n ∧ n ≤ (X.dims.length : Int) - 1)) : dimP X n = 0 := by
 rw [dimP, if_neg (by rw [in3_iff]; exact h)]
end Go.Proofs.Ytjjjgllbocgkbaa

namespace Go.Proofs.Ytjjjgllbocgkbaa
open Go
theorem szI_ok {xs : List Int} {l : Int} (hl : l ≤ 1048576) (h : ¬ szI xs l < 0) : HM1 xs := by
 unfold szI at h
 unfold HM1
 split at h <;> omega
theorem szRows_ok {α : Type} {f : α → Int → Int} {P : α → Prop} (hle : ∀ x l, 0 ≤ l → -1 ≤ f x l ∧ f x l ≤ l) (hP : ∀ x l, 0 ≤ l → l ≤ 1048576 → ¬ f x l < 0 → P x) : ∀ (r : List α) (l : Int), 0 ≤ l → l ≤ 1048576 → ¬ szRows f r l < 0 → ∀ x ∈ r, P x
 | [], _, _, _, _, x, hx => by cases hx
 | y :: r, l, h0, h1, h, x, hx => by
  unfold szRows at h
  split at h
  ·omega
  ·rename_i hc
   have := hle y l h0
   rcases List.mem_cons.1 hx with rfl | hx
   ·exact hP _ l h0 h1 hc
   ·exact szRows_ok hle hP r (f y l) (by omega) (by omega) h x hx
theorem szL_ok {α : Type} {f : α → Int → Int} {P : α → Prop} (hle : ∀ x l, 0 ≤ l → -1 ≤ f x l ∧ f x l ≤ l) (hP : ∀ x l, 0 ≤ l → l ≤ 1048576 → ¬ f x l < 0 → P x) {r : List α} {l : Int} (h1 : l ≤ 1048576) (h : ¬ szL f r l < 0) : (r.length : Int) ≤ 1048576 ∧ ∀ x ∈ r, P x := by
 unfold szL at h
 split at h
 ·omega
 ·exact ⟨by omega, szRows_ok hle hP r _ (by omega) (by omega) h⟩
theorem sz2_ok {r : List (List Int)} {l : Int} (h0 : 0 ≤ l) (h1 : l ≤ 1048576) (h : ¬ sz2 r l < 0) : HM2 r := szL_ok szI_le (fun x l _ h1 h => szI_ok h1 h) h1 h
theorem sz3_ok {r : List (List (List Int))} {l : Int} (h0 : 0 ≤ l) (h1 : l ≤ 1048576) (h : ¬ sz3 r l < 0) : HM3 r := szL_ok sz2_le (fun x l h0 h1 h => sz2_ok h0 h1 h) h1 h
theorem szC_ok' {X : Cx} {l : Int} (h0 : 0 ≤ l) (h1 : l ≤ 1048576) (h : ¬ szC X l < 0) : HMC X := by
 unfold szC at h
 have hle := szI_le X.dims l h0
 split at h
 ·omega
 ·rename_i hc
  split at h
  ·omega
  ·rename_i hc2
   exact ⟨szI_ok h1 hc, sz3_ok (by omega) (by omega) hc2⟩
theorem Fresh.left {lo : Nat} {f1 f2 : List Nat} (h : Fresh lo (f1 ++ f2)) : Fresh lo f1 := ⟨(List.nodup_append.1 h.nodup).1, fun b hb => h.ge b (List.mem_append_left _ hb)⟩
theorem Fresh.right {lo : Nat} {f1 f2 : List Nat} (h : Fresh lo (f1 ++ f2)) : Fresh lo f2 := ⟨(List.nodup_append.1 h.nodup).2.1, fun b hb => h.ge b (List.mem_append_right _ hb)⟩
end Go.Proofs.Ytjjjgllbocgkbaa

namespace Go.Proofs.Ytjjjgllbocgkbaa
open Go
def cntL {α : Type} (ct : α → Int) : List α → Int
 | [] => 0
 | x :: r => ct x + cntL ct r
def cnt1 (xs : List Int) : Int := xs.length
abbrev cnt2 : List (List Int) → Int := cntL cnt1
section
variable {α : Type} {mk : α → Int → α} {ct : α → Int}
theorem cntL_nonneg (h : ∀ x, 0 ≤ ct x) : ∀ xs : List α, 0 ≤ cntL ct xs
 | [] => by simp [cntL]
 | x :: r => by have := h x; have := cntL_nonneg h r; simp only [cntL]; omega
end
theorem cnt1_nn (x : List Int) : 0 ≤ cnt1 x := by unfold cnt1; omega
theorem cnt2_nn (x : List (List Int)) : 0 ≤ cnt2 x := cntL_nonneg cnt1_nn x
end Go.Proofs.Ytjjjgllbocgkbaa

namespace Go.Proofs.Ytjjjgllbocgkbaa
open Go
theorem szI_cntA {xs : List Int} {l : Int} (h : ¬ szI xs l < 0) : cnt1 xs ≤ l - szI xs l := by
 unfold szI at *
 unfold cnt1
 split at h
 ·omega
 ·rename_i hc; rw [if_neg hc]; omega
theorem szRows_cntA {α : Type} {f : α → Int → Int} {ct : α → Int} (hc : ∀ x l, ¬ f x l < 0 → ct x ≤ l - f x l) : ∀ (r : List α) (l : Int), ¬ szRows f r l < 0 → cntL ct r ≤ l - szRows f r l
 | [], l, _ => by simp [cntL, szRows]
 | x :: r, l, h => by
  unfold szRows at *
  split at h
  ·omega
  ·rename_i hx
   have h1 := hc x l hx
   have h2 := szRows_cntA hc r (f x l) h
   rw [if_neg hx, cntL]; omega
theorem szL_cntA {α : Type} {f : α → Int → Int} {ct : α → Int} (hc : ∀ x l, ¬ f x l < 0 → ct x ≤ l - f x l) (r : List α) (l : Int) (h : ¬ szL f r l < 0) : cntL ct r ≤ l - szL f r l := by
 unfold szL at *
 split at h
 ·omega
 ·rename_i hx
  have := szRows_cntA hc r _ h
  rw [if_neg hx]; omega
theorem eqSS_same (v w : Value) (xs : List (List Int)) (h : Heap) (hv : R2 h v xs) (hw : R2 h w xs) : CallA Try.prog 26 #[v, w] h fun u h' => u = .bool true ∧ h' = h := (eqSS_ok v w xs xs h hv hw).mono fun u h' e => ⟨by rw [e.1]; simp, e.2⟩
theorem eqC_same (v w : Value) (X : Cx) (h : Heap) (hv : RC h v X) (hw : RC h w X) : CallA Try.prog 56 #[v, w] h fun u h' => u = .bool true ∧ Ext h h' := (eqC_ok v w X X h hv hw).mono fun u h' e => ⟨by rw [e.1, eqC_self], e.2⟩
end Go.Proofs.Ytjjjgllbocgkbaa

namespace Go.Proofs.Ytjjjgllbocgkbaa
open Go
/-- A filtered complex, as data. -/
structure Fl where
 c : Cx
 lv : List (List Int)
def RF (h : Heap) (v : Value) (X : Fl) : Prop := ∃ vd vm vl, v = .agg #[.int .i64 X.c.p, vd, vm, vl] ∧ R1 h vd X.c.dims ∧ R3 h vm X.c.maps ∧ R2 h vl X.lv
instance : Mono RF := ⟨fun hp ⟨vd, vm, vl, e, h1, h2, h3⟩ => ⟨vd, vm, vl, e, h1.pres hp, h2.pres hp, h3.pres hp⟩⟩
theorem RF.pres {h h' : Heap} {v : Value} {X : Fl} (hv : RF h v X) (hp : HPres h h') : RF h' v X := Mono.mono hp hv
theorem Apart.lft {fp f1 f2 : List Nat} (h : Apart fp (f1 ++ f2)) : Apart fp f1 := fun b hb hq => h b hb (List.mem_append_left _ hq)
theorem Apart.rgt {fp f1 f2 : List Nat} (h : Apart fp (f1 ++ f2)) : Apart fp f2 := fun b hb hq => h b hb (List.mem_append_right _ hq)
theorem szC_cntB {X : Cx} {l : Int} (h0 : 0 ≤ l) (h : ¬ szC X l < 0) : cnt1 X.dims + cntL cnt2 X.maps ≤ l - szC X l := by
 unfold szC at h ⊢
 split at h
 ·omega
 rename_i h1
 split at h
 ·omega
 have a := szI_cntA h1
 have b := szL_cntA (f := sz2) (ct := cnt2) (fun x l hx => szL_cntA (f := szI) (ct := cnt1) (fun x l hx => szI_cntA hx) x l hx) X.maps _ (show ¬ szL sz2 X.maps (szI X.dims l) < 0 from by assumption)
 have e : szL sz2 X.maps (szI X.dims l) = sz3 X.maps (szI X.dims l) := rfl
 rw [if_neg h1, if_neg (by assumption)]
 omega

def szF (X : Fl) (l : Int) : Int := if szC X.c l < 0 then -1 else if sz2 X.lv (szC X.c l) < 0 then -1 else sz2 X.lv (szC X.c l)
theorem szF_le (X : Fl) (l : Int) (h : 0 ≤ l) : -1 ≤ szF X l ∧ szF X l ≤ l := by
 unfold szF
 have h0 := szC_le X.c l h
 split
 ·omega
 have h1 := sz2_le X.lv (szC X.c l) (by omega)
 split
 ·omega
 omega
structure HMF (X : Fl) : Prop where
 c : HMC X.c
 lv : HM2 X.lv
theorem szF_ok' {X : Fl} {l : Int} (h0 : 0 ≤ l) (h1 : l ≤ 1048576) (h : ¬ szF X l < 0) : HMF X := by
 unfold szF at h
 have g0 := szC_le X.c l (by omega)
 split at h
 ·omega
 rename_i c0
 have g1 := sz2_le X.lv (szC X.c l) (by omega)
 split at h
 ·omega
 rename_i c1
 exact ⟨szC_ok' (by omega) (by omega) c0, sz2_ok (by omega) (by omega) c1⟩
theorem szF_cntA {X : Fl} {l : Int} (h0 : 0 ≤ l) (h1 : l ≤ 1048576) (h : ¬ szF X l < 0) : 0 ≤ cnt1 X.c.dims ∧ 0 ≤ cntL cnt2 X.c.maps ∧ 0 ≤ cntL cnt1 X.lv ∧ cnt1 X.c.dims + cntL cnt2 X.c.maps + cntL cnt1 X.lv ≤ 1048576 := by
 unfold szF at h
 have g0 := szC_le X.c l (by omega)
 split at h
 ·omega
 rename_i c0
 have a0 := szC_cntB h0 c0
 have g1 := sz2_le X.lv (szC X.c l) (by omega)
 split at h
 ·omega
 rename_i c1
 have a1 := szL_cntA (f := szI) (ct := cnt1) (fun x l hx => szI_cntA hx) X.lv (szC X.c l) c1
 have e1 : szL szI X.lv (szC X.c l) = sz2 X.lv (szC X.c l) := rfl
 exact ⟨cnt1_nn _, cntL_nonneg cnt2_nn _, cntL_nonneg cnt1_nn _, by omega⟩
set_option maxRecDepth 100000 in
theorem szF_ok (vX : Value) (X : Fl) (left : Int) (h : Heap) (rX : RF h vX X) (h0 : 0 ≤ left) (h1 : left ≤ 1048576) : CallA Try.prog 15 #[vX, .int .i64 left] h fun v' h' => v' = .int .i64 (szF X left) ∧ Ext h h' := by
 obtain ⟨vdX, vmX, vvX, rfl, hdX, hmX, hvX⟩ := rX
 have hledX := RdS.le hdX
 have hlemX := RdS.le hmX
 have hlevX := RdS.le hvX
 refine callA_intro TTok (args := [_, _]) Try.func15 (by kernel_rfl) rfl 18 rfl (by simp) [.tmp 4] rfl ?_
 simp only [idxs, Nat.reduceAdd]
 refine den_seq ?_
 refine den_region TTok ?_
 intro K hK
 simp -implicitDefEqProofs (disch := first | decide | assumption | omega) only [go_sem, RdS.len hdX sl22, RdS.idx hdX sl22, R1.intB hdX (HPres.refl _), RdS.cells hdX, RdS.len hmX sl23, RdS.idx hmX sl23, RdS.cellB hmX (HPres.refl _), RdS.cells hmX, RdS.len hvX sl26, RdS.idx hvX sl26, RdS.cellB hvX (HPres.refl _), RdS.cells hvX, wrap_id]
 refine op_box (cs := #[.int .i64 (X.c.p), vdX, vmX, vvX]) rfl ?_
 intro h0_0 e0_0 hb0_0 z0_0
 have := Ext.size e0_0
 have eB := e0_0
 have hfhb0_0 : Fresh h.size [h.size] := Fresh.one _
 have hlhb0_0 := one_lt (show h.size < h0_0.size by omega)
 try simp -implicitDefEqProofs (disch := first | decide | assumption | omega) only [go_sem, RdS.len hdX sl22, RdS.idx hdX sl22, R1.intB hdX (Ext.pres eB), RdS.cells hdX, RdS.len hmX sl23, RdS.idx hmX sl23, RdS.cellB hmX (Ext.pres eB), RdS.cells hmX, RdS.len hvX sl26, RdS.idx hvX sl26, RdS.cellB hvX (Ext.pres eB), RdS.cells hvX, BoxAt.cell hb0_0, wrap_id]
 refine hK _ _ ?_
 clear hK K
 refine den_seq ?_
 refine den_region TTok ?_
 intro K hK
 simp -implicitDefEqProofs (disch := first | decide | assumption | omega) only [go_sem, fa28_0, ld25, RdS.len hdX sl22, RdS.idx hdX sl22, R1.intB hdX (Ext.pres eB), RdS.cells hdX, RdS.len hmX sl23, RdS.idx hmX sl23, RdS.cellB hmX (Ext.pres eB), RdS.cells hmX, RdS.len hvX sl26, RdS.idx hvX sl26, RdS.cellB hvX (Ext.pres eB), RdS.cells hvX, BoxAt.cell hb0_0, wrap_id]
 try simp -implicitDefEqProofs (disch := first | decide | assumption | omega) only [go_sem, RdS.len hdX sl22, RdS.idx hdX sl22, R1.intB hdX (Ext.pres eB), RdS.cells hdX, RdS.len hmX sl23, RdS.idx hmX sl23, RdS.cellB hmX (Ext.pres eB), RdS.cells hmX, RdS.len hvX sl26, RdS.idx hvX sl26, RdS.cellB hvX (Ext.pres eB), RdS.cells hvX, BoxAt.cell hb0_0, wrap_id]
 refine CallA.mono (szC_ok _ X.c _ _ ⟨_, _, rfl, (RdS.pres hdX (Ext.pres eB)), (RdS.pres hmX (Ext.pres eB))⟩ (by omega) (by omega)) ?_
 intro v_ h1_3
 rintro ⟨rfl, e1_3⟩
 replace hb0_0 := BoxAt.ext hb0_0 e1_3
 have := Ext.size e1_3
 replace eB := Ext.trans eB e1_3
 have := szC_le X.c left (by omega)
 try simp -implicitDefEqProofs (disch := first | decide | assumption | omega) only [go_sem, RdS.len hdX sl22, RdS.idx hdX sl22, R1.intB hdX (Ext.pres eB), RdS.cells hdX, RdS.len hmX sl23, RdS.idx hmX sl23, RdS.cellB hmX (Ext.pres eB), RdS.cells hmX, RdS.len hvX sl26, RdS.idx hvX sl26, RdS.cellB hvX (Ext.pres eB), RdS.cells hvX, BoxAt.cell hb0_0, wrap_id]
 refine hK _ _ ?_
 clear hK K
 refine den_seq ?_
 refine den_seq ?_
 refine den_region TTok ?_
 intro K hK
 simp -implicitDefEqProofs (disch := first | decide | assumption | omega) only [go_sem, RdS.len hdX sl22, RdS.idx hdX sl22, R1.intB hdX (Ext.pres eB), RdS.cells hdX, RdS.len hmX sl23, RdS.idx hmX sl23, RdS.cellB hmX (Ext.pres eB), RdS.cells hmX, RdS.len hvX sl26, RdS.idx hvX sl26, RdS.cellB hvX (Ext.pres eB), RdS.cells hvX, BoxAt.cell hb0_0, wrap_id]
 refine hK _ _ ?_
 clear hK K
 refine den_cond rfl (fun c0 => ?_) (fun c0 => ?_)
 ·try simp only [decide_eq_true_eq, decide_eq_false_iff_not, beq_iff_eq, beq_eq_false_iff_ne, bne_iff_ne, ne_eq, Bool.not_eq_true', Bool.not_eq_false', Bool.and_eq_true, Bool.or_eq_true, bne_eq_false_iff_eq] at c0
  refine den_seq ?_
  refine den_region TTok ?_
  intro K hK
  simp -implicitDefEqProofs (disch := first | decide | assumption | omega) only [go_sem, RdS.len hdX sl22, RdS.idx hdX sl22, R1.intB hdX (Ext.pres eB), RdS.cells hdX, RdS.len hmX sl23, RdS.idx hmX sl23, RdS.cellB hmX (Ext.pres eB), RdS.cells hmX, RdS.len hvX sl26, RdS.idx hvX sl26, RdS.cellB hvX (Ext.pres eB), RdS.cells hvX, wrap_id]
  refine hK _ _ ?_
  clear hK K
  refine den_ret ?_
  simp (disch := decide) only [resP_1, puts_same, puts_ne]
  exact ⟨vint (by rw [szF, if_pos c0]), eB⟩
 ·try simp only [decide_eq_true_eq, decide_eq_false_iff_not, beq_iff_eq, beq_eq_false_iff_ne, bne_iff_ne, ne_eq, Bool.not_eq_true', Bool.not_eq_false', Bool.and_eq_true, Bool.or_eq_true, bne_eq_false_iff_eq] at c0
  refine den_skip ?_
  refine den_seq ?_
  refine den_region TTok ?_
  intro K hK
  simp -implicitDefEqProofs (disch := first | decide | assumption | omega) only [go_sem, fa28_1, ld26, RdS.len hdX sl22, RdS.idx hdX sl22, R1.intB hdX (Ext.pres eB), RdS.cells hdX, RdS.len hmX sl23, RdS.idx hmX sl23, RdS.cellB hmX (Ext.pres eB), RdS.cells hmX, RdS.len hvX sl26, RdS.idx hvX sl26, RdS.cellB hvX (Ext.pres eB), RdS.cells hvX, BoxAt.cell hb0_0, wrap_id]
  try simp -implicitDefEqProofs (disch := first | decide | assumption | omega) only [go_sem, RdS.len hdX sl22, RdS.idx hdX sl22, R1.intB hdX (Ext.pres eB), RdS.cells hdX, RdS.len hmX sl23, RdS.idx hmX sl23, RdS.cellB hmX (Ext.pres eB), RdS.cells hmX, RdS.len hvX sl26, RdS.idx hvX sl26, RdS.cellB hvX (Ext.pres eB), RdS.cells hvX, BoxAt.cell hb0_0, wrap_id]
  refine CallA.pure (szSS_ok _ X.lv _ _ (RdS.pres hvX (Ext.pres eB)) (by omega) (by omega)) ?_
  have := sz2_le X.lv (szC X.c left) (by omega)
  try simp -implicitDefEqProofs (disch := first | decide | assumption | omega) only [go_sem, RdS.len hdX sl22, RdS.idx hdX sl22, R1.intB hdX (Ext.pres eB), RdS.cells hdX, RdS.len hmX sl23, RdS.idx hmX sl23, RdS.cellB hmX (Ext.pres eB), RdS.cells hmX, RdS.len hvX sl26, RdS.idx hvX sl26, RdS.cellB hvX (Ext.pres eB), RdS.cells hvX, BoxAt.cell hb0_0, wrap_id]
  refine hK _ _ ?_
  clear hK K
  refine den_seq ?_
  refine den_seq ?_
  refine den_region TTok ?_
  intro K hK
  simp -implicitDefEqProofs (disch := first | decide | assumption | omega) only [go_sem, RdS.len hdX sl22, RdS.idx hdX sl22, R1.intB hdX (Ext.pres eB), RdS.cells hdX, RdS.len hmX sl23, RdS.idx hmX sl23, RdS.cellB hmX (Ext.pres eB), RdS.cells hmX, RdS.len hvX sl26, RdS.idx hvX sl26, RdS.cellB hvX (Ext.pres eB), RdS.cells hvX, wrap_id]
  refine hK _ _ ?_
  clear hK K
  refine den_cond rfl (fun c1 => ?_) (fun c1 => ?_)
  ·try simp only [decide_eq_true_eq, decide_eq_false_iff_not, beq_iff_eq, beq_eq_false_iff_ne, bne_iff_ne, ne_eq, Bool.not_eq_true', Bool.not_eq_false', Bool.and_eq_true, Bool.or_eq_true, bne_eq_false_iff_eq] at c1
   refine den_seq ?_
   refine den_region TTok ?_
   intro K hK
   simp -implicitDefEqProofs (disch := first | decide | assumption | omega) only [go_sem, RdS.len hdX sl22, RdS.idx hdX sl22, R1.intB hdX (Ext.pres eB), RdS.cells hdX, RdS.len hmX sl23, RdS.idx hmX sl23, RdS.cellB hmX (Ext.pres eB), RdS.cells hmX, RdS.len hvX sl26, RdS.idx hvX sl26, RdS.cellB hvX (Ext.pres eB), RdS.cells hvX, wrap_id]
   refine hK _ _ ?_
   clear hK K
   refine den_ret ?_
   simp (disch := decide) only [resP_1, puts_same, puts_ne]
   exact ⟨vint (by rw [szF, if_neg c0, if_pos c1]), eB⟩
  ·try simp only [decide_eq_true_eq, decide_eq_false_iff_not, beq_iff_eq, beq_eq_false_iff_ne, bne_iff_ne, ne_eq, Bool.not_eq_true', Bool.not_eq_false', Bool.and_eq_true, Bool.or_eq_true, bne_eq_false_iff_eq] at c1
   refine den_skip ?_
   refine den_seq ?_
   refine den_region TTok ?_
   intro K hK
   simp -implicitDefEqProofs (disch := first | decide | assumption | omega) only [go_sem, RdS.len hdX sl22, RdS.idx hdX sl22, R1.intB hdX (Ext.pres eB), RdS.cells hdX, RdS.len hmX sl23, RdS.idx hmX sl23, RdS.cellB hmX (Ext.pres eB), RdS.cells hmX, RdS.len hvX sl26, RdS.idx hvX sl26, RdS.cellB hvX (Ext.pres eB), RdS.cells hvX, wrap_id]
   refine hK _ _ ?_
   clear hK K
   refine den_ret ?_
   simp (disch := decide) only [resP_1, puts_same, puts_ne]
   exact ⟨vint (by rw [szF, if_neg c0, if_neg c1]), eB⟩

set_option maxRecDepth 100000 in
theorem toF_ok (vX : Value) (X : Fl) (h : Heap) (rX : RF h vX X) (hMX : HMF X) : CallA Try.prog 17 #[vX] h fun v' h' => ∃ wd0 wm0 wv0 fd0 fm0 fv0, v' = .agg #[.int .i64 (X).c.p, wd0, wm0, wv0] ∧ O1 h' wd0 (X).c.dims fd0 ∧ O3 h' wm0 (X).c.maps fm0 ∧ O2 h' wv0 (X).lv fv0 ∧ Fresh h.size (fd0 ++ (fm0 ++ fv0)) ∧ Ext h h' := by
 obtain ⟨vdX, vmX, vvX, rfl, hdX, hmX, hvX⟩ := rX
 have hledX := RdS.le hdX
 have hlemX := RdS.le hmX
 have hlevX := RdS.le hvX
 refine callA_intro TTok (args := [_]) Try.func17 (by kernel_rfl) rfl 13 rfl (by simp) [.cell 2 33] rfl ?_
 simp only [idxs, Nat.reduceAdd]
 refine den_seq ?_
 refine den_region TTok ?_
 intro K hK
 simp -implicitDefEqProofs (disch := first | decide | assumption | omega) only [go_sem, RdS.len hdX sl22, RdS.idx hdX sl22, R1.intB hdX (HPres.refl _), RdS.cells hdX, RdS.len hmX sl23, RdS.idx hmX sl23, RdS.cellB hmX (HPres.refl _), RdS.cells hmX, RdS.len hvX sl26, RdS.idx hvX sl26, RdS.cellB hvX (HPres.refl _), RdS.cells hvX, wrap_id]
 refine op_box (cs := #[.int .i64 (X.c.p), vdX, vmX, vvX]) rfl ?_
 intro h0_0 e0_0 hb0_0 z0_0
 have := Ext.size e0_0
 have eB := e0_0
 have hfhb0_0 : Fresh h.size [h.size] := Fresh.one _
 have hlhb0_0 := one_lt (show h.size < h0_0.size by omega)
 try simp -implicitDefEqProofs (disch := first | decide | assumption | omega) only [go_sem, RdS.len hdX sl22, RdS.idx hdX sl22, R1.intB hdX (Ext.pres eB), RdS.cells hdX, RdS.len hmX sl23, RdS.idx hmX sl23, RdS.cellB hmX (Ext.pres eB), RdS.cells hmX, RdS.len hvX sl26, RdS.idx hvX sl26, RdS.cellB hvX (Ext.pres eB), RdS.cells hvX, BoxAt.cell hb0_0, wrap_id]
 refine op_alloc (cs := #[.int .i64 0, .slice none 0 0, .slice none 0 0, .slice none 0 0]) (by kernel_rfl) ?_
 intro h0_1 e0_1 hb0_1 z0_1
 replace hb0_0 := BoxAt.ext hb0_0 e0_1
 have := Ext.size e0_1
 replace eB := Ext.trans eB e0_1
 have hfhb0_1 : Fresh h0_0.size [h0_0.size] := Fresh.one _
 have hlhb0_1 := one_lt (show h0_0.size < h0_1.size by omega)
 try simp -implicitDefEqProofs (disch := first | decide | assumption | omega) only [go_sem, RdS.len hdX sl22, RdS.idx hdX sl22, R1.intB hdX (Ext.pres eB), RdS.cells hdX, RdS.len hmX sl23, RdS.idx hmX sl23, RdS.cellB hmX (Ext.pres eB), RdS.cells hmX, RdS.len hvX sl26, RdS.idx hvX sl26, RdS.cellB hvX (Ext.pres eB), RdS.cells hvX, BoxAt.cell hb0_0, BoxAt.cell hb0_1, wrap_id]
 refine hK _ _ ?_
 clear hK K
 refine den_seq ?_
 refine den_region TTok ?_
 intro K hK
 simp -implicitDefEqProofs (disch := first | decide | assumption | omega) only [go_sem, RdS.len hdX sl22, RdS.idx hdX sl22, R1.intB hdX (Ext.pres eB), RdS.cells hdX, RdS.len hmX sl23, RdS.idx hmX sl23, RdS.cellB hmX (Ext.pres eB), RdS.cells hmX, RdS.len hvX sl26, RdS.idx hvX sl26, RdS.cellB hvX (Ext.pres eB), RdS.cells hvX, BoxAt.cell hb0_0, BoxAt.cell hb0_1, wrap_id]
 refine op_alloc (cs := #[.int .i64 0, .slice none 0 0, .slice none 0 0, .slice none 0 0]) (by kernel_rfl) ?_
 intro h1_0 e1_0 hb1_0 z1_0
 replace hb0_0 := BoxAt.ext hb0_0 e1_0
 replace hb0_1 := BoxAt.ext hb0_1 e1_0
 have := Ext.size e1_0
 replace eB := Ext.trans eB e1_0
 have hfhb1_0 : Fresh h0_1.size [h0_1.size] := Fresh.one _
 have hlhb1_0 := one_lt (show h0_1.size < h1_0.size by omega)
 try simp -implicitDefEqProofs (disch := first | decide | assumption | omega) only [go_sem, RdS.len hdX sl22, RdS.idx hdX sl22, R1.intB hdX (Ext.pres eB), RdS.cells hdX, RdS.len hmX sl23, RdS.idx hmX sl23, RdS.cellB hmX (Ext.pres eB), RdS.cells hmX, RdS.len hvX sl26, RdS.idx hvX sl26, RdS.cellB hvX (Ext.pres eB), RdS.cells hvX, BoxAt.cell hb0_0, BoxAt.cell hb0_1, BoxAt.cell hb1_0, wrap_id]
 refine hK _ _ ?_
 clear hK K
 refine den_seq ?_
 refine den_region TTok ?_
 intro K hK
 simp -implicitDefEqProofs (disch := first | decide | assumption | omega) only [go_sem, fa28_0, ld25, RdS.len hdX sl22, RdS.idx hdX sl22, R1.intB hdX (Ext.pres eB), RdS.cells hdX, RdS.len hmX sl23, RdS.idx hmX sl23, RdS.cellB hmX (Ext.pres eB), RdS.cells hmX, RdS.len hvX sl26, RdS.idx hvX sl26, RdS.cellB hvX (Ext.pres eB), RdS.cells hvX, BoxAt.cell hb0_0, BoxAt.cell hb0_1, BoxAt.cell hb1_0, wrap_id]
 try simp -implicitDefEqProofs (disch := first | decide | assumption | omega) only [go_sem, RdS.len hdX sl22, RdS.idx hdX sl22, R1.intB hdX (Ext.pres eB), RdS.cells hdX, RdS.len hmX sl23, RdS.idx hmX sl23, RdS.cellB hmX (Ext.pres eB), RdS.cells hmX, RdS.len hvX sl26, RdS.idx hvX sl26, RdS.cellB hvX (Ext.pres eB), RdS.cells hvX, BoxAt.cell hb0_0, BoxAt.cell hb0_1, BoxAt.cell hb1_0, wrap_id]
 refine CallA.mono (toC_ok _ X.c _ ⟨_, _, rfl, (RdS.pres hdX (Ext.pres eB)), (RdS.pres hmX (Ext.pres eB))⟩ hMX.c) ?_
 intro v_ h2_2
 rintro ⟨vd2_2, vm2_2, fd2_2, fm2_2, rfl, hod2_2, hom2_2, hf2_2, e2_2⟩
 replace hb0_0 := BoxAt.ext hb0_0 e2_2
 replace hb0_1 := BoxAt.ext hb0_1 e2_2
 replace hb1_0 := BoxAt.ext hb1_0 e2_2
 have := Ext.size e2_2
 replace eB := Ext.trans eB e2_2
 have hfd2_2 := hf2_2.left
 have hfm2_2 := hf2_2.right
 have hlhod2_2 := OS.lt hod2_2
 have hlhom2_2 := OS.lt hom2_2
 have ap1 : Apart fd2_2 fm2_2 := apart_nodup hf2_2
 try simp -implicitDefEqProofs (disch := first | decide | assumption | omega) only [go_sem, fa33_0, RdS.len hdX sl22, RdS.idx hdX sl22, R1.intB hdX (Ext.pres eB), RdS.cells hdX, RdS.len hmX sl23, RdS.idx hmX sl23, RdS.cellB hmX (Ext.pres eB), RdS.cells hmX, RdS.len hvX sl26, RdS.idx hvX sl26, RdS.cellB hvX (Ext.pres eB), RdS.cells hvX, RdS.len (OS.rd hod2_2) sl22, RdS.idx (OS.rd hod2_2) sl22, R1.intN (OS.rd hod2_2), RdS.cells (OS.rd hod2_2), RdS.len (OS.rd hom2_2) sl23, RdS.idx (OS.rd hom2_2) sl23, RdS.cellN (OS.rd hom2_2), RdS.cells (OS.rd hom2_2), BoxAt.cell hb0_0, BoxAt.cell hb0_1, BoxAt.cell hb1_0, wrap_id]
 refine op_storeB (cs' := #[.int .i64 (X.c.p), vd2_2, vm2_2, .slice none 0 0]) st31 hb1_0 rfl rfl rfl (by simp) (allOne_mem (l := [.int .i64 (X.c.p), vd2_2, vm2_2]) ⟨rfl, (OS.one hod2_2).1, (OS.one hom2_2).1, trivial⟩) rfl ?_
 intro h2_4 hb1_0 c2_4
 replace hod2_2 := OS.chg hod2_2 c2_4 (apart_gt hfd2_2 hlhb1_0 (by omega))
 replace hom2_2 := OS.chg hom2_2 c2_4 (apart_gt hfm2_2 hlhb1_0 (by omega))
 replace hb0_0 := BoxAt.chgA hb0_0 c2_4 (apart_lt hlhb0_0 hfhb1_0 (by omega))
 replace hb0_1 := BoxAt.chgA hb0_1 c2_4 (apart_lt hlhb0_1 hfhb1_0 (by omega))
 have := c2_4.size
 replace eB := Ext.then eB c2_4 (ge_of hfhb1_0 (by omega))
 try simp -implicitDefEqProofs (disch := first | decide | assumption | omega) only [go_sem, RdS.len hdX sl22, RdS.idx hdX sl22, R1.intB hdX (Ext.pres eB), RdS.cells hdX, RdS.len hmX sl23, RdS.idx hmX sl23, RdS.cellB hmX (Ext.pres eB), RdS.cells hmX, RdS.len hvX sl26, RdS.idx hvX sl26, RdS.cellB hvX (Ext.pres eB), RdS.cells hvX, RdS.len (OS.rd hod2_2) sl22, RdS.idx (OS.rd hod2_2) sl22, R1.intN (OS.rd hod2_2), RdS.cells (OS.rd hod2_2), RdS.len (OS.rd hom2_2) sl23, RdS.idx (OS.rd hom2_2) sl23, RdS.cellN (OS.rd hom2_2), RdS.cells (OS.rd hom2_2), BoxAt.cell hb0_0, BoxAt.cell hb0_1, BoxAt.cell hb1_0, wrap_id]
 refine hK _ _ ?_
 clear hK K
 refine den_seq ?_
 refine den_region TTok ?_
 intro K hK
 simp -implicitDefEqProofs (disch := first | decide | assumption | omega) only [go_sem, fa28_1, ld26, RdS.len hdX sl22, RdS.idx hdX sl22, R1.intB hdX (Ext.pres eB), RdS.cells hdX, RdS.len hmX sl23, RdS.idx hmX sl23, RdS.cellB hmX (Ext.pres eB), RdS.cells hmX, RdS.len hvX sl26, RdS.idx hvX sl26, RdS.cellB hvX (Ext.pres eB), RdS.cells hvX, RdS.len (OS.rd hod2_2) sl22, RdS.idx (OS.rd hod2_2) sl22, R1.intN (OS.rd hod2_2), RdS.cells (OS.rd hod2_2), RdS.len (OS.rd hom2_2) sl23, RdS.idx (OS.rd hom2_2) sl23, RdS.cellN (OS.rd hom2_2), RdS.cells (OS.rd hom2_2), BoxAt.cell hb0_0, BoxAt.cell hb0_1, BoxAt.cell hb1_0, wrap_id]
 try simp -implicitDefEqProofs (disch := first | decide | assumption | omega) only [go_sem, RdS.len hdX sl22, RdS.idx hdX sl22, R1.intB hdX (Ext.pres eB), RdS.cells hdX, RdS.len hmX sl23, RdS.idx hmX sl23, RdS.cellB hmX (Ext.pres eB), RdS.cells hmX, RdS.len hvX sl26, RdS.idx hvX sl26, RdS.cellB hvX (Ext.pres eB), RdS.cells hvX, RdS.len (OS.rd hod2_2) sl22, RdS.idx (OS.rd hod2_2) sl22, R1.intN (OS.rd hod2_2), RdS.cells (OS.rd hod2_2), RdS.len (OS.rd hom2_2) sl23, RdS.idx (OS.rd hom2_2) sl23, RdS.cellN (OS.rd hom2_2), RdS.cells (OS.rd hom2_2), BoxAt.cell hb0_0, BoxAt.cell hb0_1, BoxAt.cell hb1_0, wrap_id]
 refine CallA.mono (toSS_ok _ X.lv _ (RdS.pres hvX (Ext.pres eB)) hMX.lv) ?_
 intro v3_2 h3_2
 rintro ⟨f3_2, ho3_2, hf3_2, e3_2⟩
 replace hod2_2 := OS.ext hod2_2 e3_2
 replace hom2_2 := OS.ext hom2_2 e3_2
 replace hb0_0 := BoxAt.ext hb0_0 e3_2
 replace hb0_1 := BoxAt.ext hb0_1 e3_2
 replace hb1_0 := BoxAt.ext hb1_0 e3_2
 have := Ext.size e3_2
 replace eB := Ext.trans eB e3_2
 have hlho3_2 := OS.lt ho3_2
 try simp -implicitDefEqProofs (disch := first | decide | assumption | omega) only [go_sem, fa33_1, RdS.len hdX sl22, RdS.idx hdX sl22, R1.intB hdX (Ext.pres eB), RdS.cells hdX, RdS.len hmX sl23, RdS.idx hmX sl23, RdS.cellB hmX (Ext.pres eB), RdS.cells hmX, RdS.len hvX sl26, RdS.idx hvX sl26, RdS.cellB hvX (Ext.pres eB), RdS.cells hvX, RdS.len (OS.rd hod2_2) sl22, RdS.idx (OS.rd hod2_2) sl22, R1.intN (OS.rd hod2_2), RdS.cells (OS.rd hod2_2), RdS.len (OS.rd hom2_2) sl23, RdS.idx (OS.rd hom2_2) sl23, RdS.cellN (OS.rd hom2_2), RdS.cells (OS.rd hom2_2), RdS.len (OS.rd ho3_2) sl26, RdS.idx (OS.rd ho3_2) sl26, RdS.cellN (OS.rd ho3_2), RdS.cells (OS.rd ho3_2), BoxAt.cell hb0_0, BoxAt.cell hb0_1, BoxAt.cell hb1_0, wrap_id]
 refine op_storeB (cs' := #[.int .i64 (X.c.p), vd2_2, vm2_2, v3_2]) st26 hb1_0 rfl (OS.one ho3_2).2 rfl (by simp) (allOne_mem (l := [v3_2]) ⟨(OS.one ho3_2).1, trivial⟩) rfl ?_
 intro h3_4 hb1_0 c3_4
 replace hod2_2 := OS.chg hod2_2 c3_4 (apart_gt hfd2_2 hlhb1_0 (by omega))
 replace hom2_2 := OS.chg hom2_2 c3_4 (apart_gt hfm2_2 hlhb1_0 (by omega))
 replace ho3_2 := OS.chg ho3_2 c3_4 (apart_gt hf3_2 hlhb1_0 (by omega))
 replace hb0_0 := BoxAt.chgA hb0_0 c3_4 (apart_lt hlhb0_0 hfhb1_0 (by omega))
 replace hb0_1 := BoxAt.chgA hb0_1 c3_4 (apart_lt hlhb0_1 hfhb1_0 (by omega))
 have := c3_4.size
 replace eB := Ext.then eB c3_4 (ge_of hfhb1_0 (by omega))
 try simp -implicitDefEqProofs (disch := first | decide | assumption | omega) only [go_sem, RdS.len hdX sl22, RdS.idx hdX sl22, R1.intB hdX (Ext.pres eB), RdS.cells hdX, RdS.len hmX sl23, RdS.idx hmX sl23, RdS.cellB hmX (Ext.pres eB), RdS.cells hmX, RdS.len hvX sl26, RdS.idx hvX sl26, RdS.cellB hvX (Ext.pres eB), RdS.cells hvX, RdS.len (OS.rd hod2_2) sl22, RdS.idx (OS.rd hod2_2) sl22, R1.intN (OS.rd hod2_2), RdS.cells (OS.rd hod2_2), RdS.len (OS.rd hom2_2) sl23, RdS.idx (OS.rd hom2_2) sl23, RdS.cellN (OS.rd hom2_2), RdS.cells (OS.rd hom2_2), RdS.len (OS.rd ho3_2) sl26, RdS.idx (OS.rd ho3_2) sl26, RdS.cellN (OS.rd ho3_2), RdS.cells (OS.rd ho3_2), BoxAt.cell hb0_0, BoxAt.cell hb0_1, BoxAt.cell hb1_0, wrap_id]
 refine hK _ _ ?_
 clear hK K
 refine den_seq ?_
 refine den_region TTok ?_
 intro K hK
 simp -implicitDefEqProofs (disch := first | decide | assumption | omega) only [go_sem, ld33, RdS.len hdX sl22, RdS.idx hdX sl22, R1.intB hdX (Ext.pres eB), RdS.cells hdX, RdS.len hmX sl23, RdS.idx hmX sl23, RdS.cellB hmX (Ext.pres eB), RdS.cells hmX, RdS.len hvX sl26, RdS.idx hvX sl26, RdS.cellB hvX (Ext.pres eB), RdS.cells hvX, RdS.len (OS.rd hod2_2) sl22, RdS.idx (OS.rd hod2_2) sl22, R1.intN (OS.rd hod2_2), RdS.cells (OS.rd hod2_2), RdS.len (OS.rd hom2_2) sl23, RdS.idx (OS.rd hom2_2) sl23, RdS.cellN (OS.rd hom2_2), RdS.cells (OS.rd hom2_2), RdS.len (OS.rd ho3_2) sl26, RdS.idx (OS.rd ho3_2) sl26, RdS.cellN (OS.rd ho3_2), RdS.cells (OS.rd ho3_2), BoxAt.cell hb0_1, BoxAt.cell hb1_0, wrap_id]
 refine op_storeB (cs' := #[.int .i64 (X.c.p), vd2_2, vm2_2, v3_2]) st33 hb0_1 rfl rfl rfl (by simp) (allOne_mem (l := [.int .i64 (X.c.p), vd2_2, vm2_2, v3_2]) ⟨rfl, (OS.one hod2_2).1, (OS.one hom2_2).1, (OS.one ho3_2).1, trivial⟩) rfl ?_
 intro h4_1 hb0_1 c4_1
 replace hod2_2 := OS.chg hod2_2 c4_1 (apart_gt hfd2_2 hlhb0_1 (by omega))
 replace hom2_2 := OS.chg hom2_2 c4_1 (apart_gt hfm2_2 hlhb0_1 (by omega))
 replace ho3_2 := OS.chg ho3_2 c4_1 (apart_gt hf3_2 hlhb0_1 (by omega))
 replace hb1_0 := BoxAt.chgA hb1_0 c4_1 (apart_gt hfhb1_0 hlhb0_1 (by omega))
 have := c4_1.size
 replace eB := Ext.then eB c4_1 (ge_of hfhb0_1 (by omega))
 try simp -implicitDefEqProofs (disch := first | decide | assumption | omega) only [go_sem, RdS.len hdX sl22, RdS.idx hdX sl22, R1.intB hdX (Ext.pres eB), RdS.cells hdX, RdS.len hmX sl23, RdS.idx hmX sl23, RdS.cellB hmX (Ext.pres eB), RdS.cells hmX, RdS.len hvX sl26, RdS.idx hvX sl26, RdS.cellB hvX (Ext.pres eB), RdS.cells hvX, RdS.len (OS.rd hod2_2) sl22, RdS.idx (OS.rd hod2_2) sl22, R1.intN (OS.rd hod2_2), RdS.cells (OS.rd hod2_2), RdS.len (OS.rd hom2_2) sl23, RdS.idx (OS.rd hom2_2) sl23, RdS.cellN (OS.rd hom2_2), RdS.cells (OS.rd hom2_2), RdS.len (OS.rd ho3_2) sl26, RdS.idx (OS.rd ho3_2) sl26, RdS.cellN (OS.rd ho3_2), RdS.cells (OS.rd ho3_2), BoxAt.cell hb0_1, BoxAt.cell hb1_0, wrap_id]
 refine hK _ _ ?_
 clear hK K
 refine den_ret ?_
 simp -implicitDefEqProofs (disch := first | decide | assumption | omega) only [go_sem, RdS.len hdX sl22, RdS.idx hdX sl22, R1.intB hdX (Ext.pres eB), RdS.cells hdX, RdS.len hmX sl23, RdS.idx hmX sl23, RdS.cellB hmX (Ext.pres eB), RdS.cells hmX, RdS.len hvX sl26, RdS.idx hvX sl26, RdS.cellB hvX (Ext.pres eB), RdS.cells hvX, RdS.len (OS.rd hod2_2) sl22, RdS.idx (OS.rd hod2_2) sl22, R1.intN (OS.rd hod2_2), RdS.cells (OS.rd hod2_2), RdS.len (OS.rd hom2_2) sl23, RdS.idx (OS.rd hom2_2) sl23, RdS.cellN (OS.rd hom2_2), RdS.cells (OS.rd hom2_2), RdS.len (OS.rd ho3_2) sl26, RdS.idx (OS.rd ho3_2) sl26, RdS.cellN (OS.rd ho3_2), RdS.cells (OS.rd ho3_2), BoxAt.cell hb0_1, BoxAt.cell hb1_0, wrap_id, resP_c1, ld33]
 exact ⟨_, _, _, _, _, _, rfl, hod2_2, hom2_2, ho3_2, (Fresh.two (lo := h.size) hfd2_2 (Fresh.two (lo := h.size) hfm2_2 hf3_2 (apart_lt hlhom2_2 hf3_2 (by omega)) (by omega) (by omega)) (Apart.app ap1 (apart_lt hlhod2_2 hf3_2 (by omega))) (by omega) (by omega)), eB⟩

set_option maxRecDepth 100000 in
theorem eqF_same (v w : Value) (X : Fl) (h : Heap) (rX : RF h v X) (rY : RF h w X) : CallA Try.prog 19 #[v, w] h fun u h' => u = .bool true ∧ Ext h h' := by
 obtain ⟨vdX, vmX, vvX, rfl, hdX, hmX, hvX⟩ := rX
 obtain ⟨vdY, vmY, vvY, rfl, hdY, hmY, hvY⟩ := rY
 refine callA_intro TTok (args := [_, _]) Try.func19 (by kernel_rfl) rfl 17 rfl (by simp) [.tmp 4] rfl ?_
 simp only [idxs, Nat.reduceAdd]
 refine den_seq ?_
 refine den_region TTok ?_
 intro K hK
 simp -implicitDefEqProofs (disch := first | decide | assumption | omega) only [go_sem, RdS.len hdX sl22, RdS.idx hdX sl22, R1.intB hdX (HPres.refl _), RdS.cells hdX, RdS.len hmX sl23, RdS.idx hmX sl23, RdS.cellB hmX (HPres.refl _), RdS.cells hmX, RdS.len hvX sl26, RdS.idx hvX sl26, RdS.cellB hvX (HPres.refl _), RdS.cells hvX, RdS.len hdY sl22, RdS.idx hdY sl22, R1.intB hdY (HPres.refl _), RdS.cells hdY, RdS.len hmY sl23, RdS.idx hmY sl23, RdS.cellB hmY (HPres.refl _), RdS.cells hmY, RdS.len hvY sl26, RdS.idx hvY sl26, RdS.cellB hvY (HPres.refl _), RdS.cells hvY, wrap_id]
 refine op_box (cs := #[.int .i64 (X.c.p), vdX, vmX, vvX]) rfl ?_
 intro h0_0 e0_0 hb0_0 z0_0
 have := Ext.size e0_0
 have eB := e0_0
 have hfhb0_0 : Fresh h.size [h.size] := Fresh.one _
 have hlhb0_0 := one_lt (show h.size < h0_0.size by omega)
 try simp -implicitDefEqProofs (disch := first | decide | assumption | omega) only [go_sem, RdS.len hdX sl22, RdS.idx hdX sl22, R1.intB hdX (Ext.pres eB), RdS.cells hdX, RdS.len hmX sl23, RdS.idx hmX sl23, RdS.cellB hmX (Ext.pres eB), RdS.cells hmX, RdS.len hvX sl26, RdS.idx hvX sl26, RdS.cellB hvX (Ext.pres eB), RdS.cells hvX, RdS.len hdY sl22, RdS.idx hdY sl22, R1.intB hdY (Ext.pres eB), RdS.cells hdY, RdS.len hmY sl23, RdS.idx hmY sl23, RdS.cellB hmY (Ext.pres eB), RdS.cells hmY, RdS.len hvY sl26, RdS.idx hvY sl26, RdS.cellB hvY (Ext.pres eB), RdS.cells hvY, BoxAt.cell hb0_0, wrap_id]
 refine op_box (cs := #[.int .i64 (X.c.p), vdY, vmY, vvY]) rfl ?_
 intro h0_1 e0_1 hb0_1 z0_1
 replace hb0_0 := BoxAt.ext hb0_0 e0_1
 have := Ext.size e0_1
 replace eB := Ext.trans eB e0_1
 have hfhb0_1 : Fresh h0_0.size [h0_0.size] := Fresh.one _
 have hlhb0_1 := one_lt (show h0_0.size < h0_1.size by omega)
 try simp -implicitDefEqProofs (disch := first | decide | assumption | omega) only [go_sem, RdS.len hdX sl22, RdS.idx hdX sl22, R1.intB hdX (Ext.pres eB), RdS.cells hdX, RdS.len hmX sl23, RdS.idx hmX sl23, RdS.cellB hmX (Ext.pres eB), RdS.cells hmX, RdS.len hvX sl26, RdS.idx hvX sl26, RdS.cellB hvX (Ext.pres eB), RdS.cells hvX, RdS.len hdY sl22, RdS.idx hdY sl22, R1.intB hdY (Ext.pres eB), RdS.cells hdY, RdS.len hmY sl23, RdS.idx hmY sl23, RdS.cellB hmY (Ext.pres eB), RdS.cells hmY, RdS.len hvY sl26, RdS.idx hvY sl26, RdS.cellB hvY (Ext.pres eB), RdS.cells hvY, BoxAt.cell hb0_0, BoxAt.cell hb0_1, wrap_id]
 refine hK _ _ ?_
 clear hK K
 refine den_seq ?_
 refine den_seq ?_
 refine den_region TTok ?_
 intro K hK
 simp -implicitDefEqProofs (disch := first | decide | assumption | omega) only [go_sem, fa33_0, ld31, RdS.len hdX sl22, RdS.idx hdX sl22, R1.intB hdX (Ext.pres eB), RdS.cells hdX, RdS.len hmX sl23, RdS.idx hmX sl23, RdS.cellB hmX (Ext.pres eB), RdS.cells hmX, RdS.len hvX sl26, RdS.idx hvX sl26, RdS.cellB hvX (Ext.pres eB), RdS.cells hvX, RdS.len hdY sl22, RdS.idx hdY sl22, R1.intB hdY (Ext.pres eB), RdS.cells hdY, RdS.len hmY sl23, RdS.idx hmY sl23, RdS.cellB hmY (Ext.pres eB), RdS.cells hmY, RdS.len hvY sl26, RdS.idx hvY sl26, RdS.cellB hvY (Ext.pres eB), RdS.cells hvY, BoxAt.cell hb0_0, BoxAt.cell hb0_1, wrap_id]
 try simp -implicitDefEqProofs (disch := first | decide | assumption | omega) only [go_sem, RdS.len hdX sl22, RdS.idx hdX sl22, R1.intB hdX (Ext.pres eB), RdS.cells hdX, RdS.len hmX sl23, RdS.idx hmX sl23, RdS.cellB hmX (Ext.pres eB), RdS.cells hmX, RdS.len hvX sl26, RdS.idx hvX sl26, RdS.cellB hvX (Ext.pres eB), RdS.cells hvX, RdS.len hdY sl22, RdS.idx hdY sl22, R1.intB hdY (Ext.pres eB), RdS.cells hdY, RdS.len hmY sl23, RdS.idx hmY sl23, RdS.cellB hmY (Ext.pres eB), RdS.cells hmY, RdS.len hvY sl26, RdS.idx hvY sl26, RdS.cellB hvY (Ext.pres eB), RdS.cells hvY, BoxAt.cell hb0_0, BoxAt.cell hb0_1, wrap_id]
 refine CallA.mono (eqC_same _ _ X.c _ ⟨_, _, rfl, (RdS.pres hdX (Ext.pres eB)), (RdS.pres hmX (Ext.pres eB))⟩ ⟨_, _, rfl, (RdS.pres hdY (Ext.pres eB)), (RdS.pres hmY (Ext.pres eB))⟩) ?_
 intro v_ h1_4
 rintro ⟨rfl, e1_4⟩
 replace hb0_0 := BoxAt.ext hb0_0 e1_4
 replace hb0_1 := BoxAt.ext hb0_1 e1_4
 have := Ext.size e1_4
 replace eB := Ext.trans eB e1_4
 try simp -implicitDefEqProofs (disch := first | decide | assumption | omega) only [go_sem, RdS.len hdX sl22, RdS.idx hdX sl22, R1.intB hdX (Ext.pres eB), RdS.cells hdX, RdS.len hmX sl23, RdS.idx hmX sl23, RdS.cellB hmX (Ext.pres eB), RdS.cells hmX, RdS.len hvX sl26, RdS.idx hvX sl26, RdS.cellB hvX (Ext.pres eB), RdS.cells hvX, RdS.len hdY sl22, RdS.idx hdY sl22, R1.intB hdY (Ext.pres eB), RdS.cells hdY, RdS.len hmY sl23, RdS.idx hmY sl23, RdS.cellB hmY (Ext.pres eB), RdS.cells hmY, RdS.len hvY sl26, RdS.idx hvY sl26, RdS.cellB hvY (Ext.pres eB), RdS.cells hvY, BoxAt.cell hb0_0, BoxAt.cell hb0_1, wrap_id]
 refine hK _ _ ?_
 clear hK K
 refine den_cond rfl (fun c0 => ?_) (fun c0 => ?_)
 ·try simp only [decide_eq_true_eq, decide_eq_false_iff_not, beq_iff_eq, beq_eq_false_iff_ne, bne_iff_ne, ne_eq, Bool.not_eq_true', Bool.not_eq_false', Bool.and_eq_true, Bool.or_eq_true, bne_eq_false_iff_eq] at c0
  refine den_seq ?_
  refine den_region TTok ?_
  intro K hK
  simp -implicitDefEqProofs (disch := first | decide | assumption | omega) only [go_sem, RdS.len hdX sl22, RdS.idx hdX sl22, R1.intB hdX (Ext.pres eB), RdS.cells hdX, RdS.len hmX sl23, RdS.idx hmX sl23, RdS.cellB hmX (Ext.pres eB), RdS.cells hmX, RdS.len hvX sl26, RdS.idx hvX sl26, RdS.cellB hvX (Ext.pres eB), RdS.cells hvX, RdS.len hdY sl22, RdS.idx hdY sl22, R1.intB hdY (Ext.pres eB), RdS.cells hdY, RdS.len hmY sl23, RdS.idx hmY sl23, RdS.cellB hmY (Ext.pres eB), RdS.cells hmY, RdS.len hvY sl26, RdS.idx hvY sl26, RdS.cellB hvY (Ext.pres eB), RdS.cells hvY, wrap_id]
  refine hK _ _ ?_
  clear hK K
  refine den_ret ?_
  simp (disch := decide) only [resP_1, puts_same, puts_ne]
  exact absurd c0 (by simp)
 ·try simp only [decide_eq_true_eq, decide_eq_false_iff_not, beq_iff_eq, beq_eq_false_iff_ne, bne_iff_ne, ne_eq, Bool.not_eq_true', Bool.not_eq_false', Bool.and_eq_true, Bool.or_eq_true, bne_eq_false_iff_eq] at c0
  refine den_skip ?_
  refine den_seq ?_
  refine den_seq ?_
  refine den_region TTok ?_
  intro K hK
  simp -implicitDefEqProofs (disch := first | decide | assumption | omega) only [go_sem, fa33_1, ld26, RdS.len hdX sl22, RdS.idx hdX sl22, R1.intB hdX (Ext.pres eB), RdS.cells hdX, RdS.len hmX sl23, RdS.idx hmX sl23, RdS.cellB hmX (Ext.pres eB), RdS.cells hmX, RdS.len hvX sl26, RdS.idx hvX sl26, RdS.cellB hvX (Ext.pres eB), RdS.cells hvX, RdS.len hdY sl22, RdS.idx hdY sl22, R1.intB hdY (Ext.pres eB), RdS.cells hdY, RdS.len hmY sl23, RdS.idx hmY sl23, RdS.cellB hmY (Ext.pres eB), RdS.cells hmY, RdS.len hvY sl26, RdS.idx hvY sl26, RdS.cellB hvY (Ext.pres eB), RdS.cells hvY, BoxAt.cell hb0_0, BoxAt.cell hb0_1, wrap_id]
  try simp -implicitDefEqProofs (disch := first | decide | assumption | omega) only [go_sem, RdS.len hdX sl22, RdS.idx hdX sl22, R1.intB hdX (Ext.pres eB), RdS.cells hdX, RdS.len hmX sl23, RdS.idx hmX sl23, RdS.cellB hmX (Ext.pres eB), RdS.cells hmX, RdS.len hvX sl26, RdS.idx hvX sl26, RdS.cellB hvX (Ext.pres eB), RdS.cells hvX, RdS.len hdY sl22, RdS.idx hdY sl22, R1.intB hdY (Ext.pres eB), RdS.cells hdY, RdS.len hmY sl23, RdS.idx hmY sl23, RdS.cellB hmY (Ext.pres eB), RdS.cells hmY, RdS.len hvY sl26, RdS.idx hvY sl26, RdS.cellB hvY (Ext.pres eB), RdS.cells hvY, BoxAt.cell hb0_0, BoxAt.cell hb0_1, wrap_id]
  refine CallA.pure (eqSS_same _ _ _ _ (RdS.pres hvX (Ext.pres eB)) (RdS.pres hvY (Ext.pres eB))) ?_
  try simp -implicitDefEqProofs (disch := first | decide | assumption | omega) only [go_sem, RdS.len hdX sl22, RdS.idx hdX sl22, R1.intB hdX (Ext.pres eB), RdS.cells hdX, RdS.len hmX sl23, RdS.idx hmX sl23, RdS.cellB hmX (Ext.pres eB), RdS.cells hmX, RdS.len hvX sl26, RdS.idx hvX sl26, RdS.cellB hvX (Ext.pres eB), RdS.cells hvX, RdS.len hdY sl22, RdS.idx hdY sl22, R1.intB hdY (Ext.pres eB), RdS.cells hdY, RdS.len hmY sl23, RdS.idx hmY sl23, RdS.cellB hmY (Ext.pres eB), RdS.cells hmY, RdS.len hvY sl26, RdS.idx hvY sl26, RdS.cellB hvY (Ext.pres eB), RdS.cells hvY, BoxAt.cell hb0_0, BoxAt.cell hb0_1, wrap_id]
  refine hK _ _ ?_
  clear hK K
  refine den_cond rfl (fun c1 => ?_) (fun c1 => ?_)
  ·try simp only [decide_eq_true_eq, decide_eq_false_iff_not, beq_iff_eq, beq_eq_false_iff_ne, bne_iff_ne, ne_eq, Bool.not_eq_true', Bool.not_eq_false', Bool.and_eq_true, Bool.or_eq_true, bne_eq_false_iff_eq] at c1
   refine den_seq ?_
   refine den_region TTok ?_
   intro K hK
   simp -implicitDefEqProofs (disch := first | decide | assumption | omega) only [go_sem, RdS.len hdX sl22, RdS.idx hdX sl22, R1.intB hdX (Ext.pres eB), RdS.cells hdX, RdS.len hmX sl23, RdS.idx hmX sl23, RdS.cellB hmX (Ext.pres eB), RdS.cells hmX, RdS.len hvX sl26, RdS.idx hvX sl26, RdS.cellB hvX (Ext.pres eB), RdS.cells hvX, RdS.len hdY sl22, RdS.idx hdY sl22, R1.intB hdY (Ext.pres eB), RdS.cells hdY, RdS.len hmY sl23, RdS.idx hmY sl23, RdS.cellB hmY (Ext.pres eB), RdS.cells hmY, RdS.len hvY sl26, RdS.idx hvY sl26, RdS.cellB hvY (Ext.pres eB), RdS.cells hvY, wrap_id]
   refine hK _ _ ?_
   clear hK K
   refine den_ret ?_
   simp (disch := decide) only [resP_1, puts_same, puts_ne]
   exact absurd c1 (by simp)
  ·try simp only [decide_eq_true_eq, decide_eq_false_iff_not, beq_iff_eq, beq_eq_false_iff_ne, bne_iff_ne, ne_eq, Bool.not_eq_true', Bool.not_eq_false', Bool.and_eq_true, Bool.or_eq_true, bne_eq_false_iff_eq] at c1
   refine den_skip ?_
   refine den_seq ?_
   refine den_region TTok ?_
   intro K hK
   simp -implicitDefEqProofs (disch := first | decide | assumption | omega) only [go_sem, RdS.len hdX sl22, RdS.idx hdX sl22, R1.intB hdX (Ext.pres eB), RdS.cells hdX, RdS.len hmX sl23, RdS.idx hmX sl23, RdS.cellB hmX (Ext.pres eB), RdS.cells hmX, RdS.len hvX sl26, RdS.idx hvX sl26, RdS.cellB hvX (Ext.pres eB), RdS.cells hvX, RdS.len hdY sl22, RdS.idx hdY sl22, R1.intB hdY (Ext.pres eB), RdS.cells hdY, RdS.len hmY sl23, RdS.idx hmY sl23, RdS.cellB hmY (Ext.pres eB), RdS.cells hmY, RdS.len hvY sl26, RdS.idx hvY sl26, RdS.cellB hvY (Ext.pres eB), RdS.cells hvY, wrap_id]
   refine hK _ _ ?_
   clear hK K
   refine den_ret ?_
   simp (disch := decide) only [resP_1, puts_same, puts_ne]
   exact ⟨by first | rfl | trivial, eB⟩

open Go.ChangeShapes Go.WideShapes Go.ChangeAt Go.RowKit Go.Joins
set_option maxRecDepth 100000 in
theorem open_fl {H : Type} {enc : TypeId × Value → H} {w : World} {base : Nat} {spare : Nat → Bool} {held : Bool} {r : Reach} {b0 : Nat} {v : Value} {d : DataW H} {p : List MemPlace}
  (hv : Value.okWide Try.prog w r b0 28 v) (h : DataW.Trod enc Try.prog w base spare held 28 v d p) : ∃ X, RF w.heap v X := by
 obtain ⟨cs, rfl, hsz⟩ := okWide_struct Try.underlying28 hv
 have hc : Try.prog.cellsOf 28 = 4 := by kernel_rfl
 obtain ⟨c0, c1, c2, c3, rfl⟩ := array4 (hsz.trans hc)
 obtain ⟨fuel, hf⟩ := h
 obtain ⟨y0, y1, n, _, _, h0, h1⟩ := trod_struct2 Try.underlying28 hf
 have kc : Try.prog.cellsOf 25 = 3 := by kernel_rfl
 have ki : Try.prog.cellsOf 2 = 1 := by kernel_rfl
 have k1 : Try.prog.cellsOf 22 = 1 := by kernel_rfl
 have k2 : Try.prog.cellsOf 26 = 1 := by kernel_rfl
 have k3 : Try.prog.cellsOf 23 = 1 := by kernel_rfl
 simp only [kc, k2, Value.cells, List.drop_zero, List.drop_succ_cons, List.take_succ_cons, List.take_zero] at h0 h1
 obtain ⟨z0, z1, z2, m, _, _, g0, g1, g2⟩ := Go.Deep.trod_struct3 Try.underlying25 h0
 simp only [ki, k1, k3, List.drop_zero, List.drop_succ_cons, List.take_succ_cons, List.take_zero] at g0 g1 g2
 obtain ⟨u0, a0, e0, q0⟩ := opens_int Try.underlying2 _ _ _ _ _ _ _ _ _ g0
 obtain ⟨u1, a1, e1, q1⟩ := opens1 _ _ _ _ _ _ _ _ _ g1
 obtain ⟨u2, a2, e2, q2⟩ := opens3 _ _ _ _ _ _ _ _ _ g2
 obtain ⟨u3, a3, e3, q3⟩ := opens2 _ _ _ _ _ _ _ _ _ h1
 injection e0 with e0
 injection e1 with e1
 injection e2 with e2
 injection e3 with e3
 subst e0; subst e1; subst e2; subst e3
 exact ⟨⟨⟨a0, a1, a2⟩, a3⟩, _, _, _, by rw [show c0 = .int .i64 a0 from q0], q1, q2, q3⟩
end Go.Proofs.Ytjjjgllbocgkbaa

namespace Go.Proofs.Ytjjjgllbocgkbaa
open Go
def unitP (n i : Nat) : List Int := (List.replicate n 0).set i 1
end Go.Proofs.Ytjjjgllbocgkbaa

namespace Go.Proofs.Ytjjjgllbocgkbaa
open Go
/-- A code, and another one where the first is 0. -/
def cadd (c e : Int) (b : Bool) : Int := if ((c == 0) && b) = true then e else c
theorem cadd_0 {c e : Int} {b : Bool} (he : e ≠ 0) : cadd c e b = 0 ↔ c = 0 ∧ b = false := by
 unfold cadd
 by_cases h : c = 0 <;> cases b <;> simp [h, he]
theorem caddT {c e : Int} {b : Bool} (h : ((c == 0) && b) = true) : cadd c e b = e := if_pos h
theorem caddF {c e : Int} {b : Bool} (h : ((c == 0) && b) = false) : cadd c e b = c := if_neg (by rw [h]; decide)
end Go.Proofs.Ytjjjgllbocgkbaa

namespace Go.Proofs.Ytjjjgllbocgkbaa
open Go
abbrev M3 := List (List (List Int))
def get3 (M : M3) (k r c : Nat) : Int := ((M.getD k default).getD r default).getD c 0
/-- How long a table of tables is, row by row. -/
structure Sh (L : Nat) (A B : Nat → Nat) (M : M3) : Prop where
 len : M.length = L
 rows : ∀ k, k < L → (M.getD k default).length = A k
 cols : ∀ k r, k < L → r < A k → ((M.getD k default).getD r default).length = B k
theorem getD_set {α : Type} {xs : List α} {k j : Nat} {x d : α} (h : k < xs.length) : (xs.set k x).getD j d = if k = j then x else xs.getD j d := by
 simp only [List.getD_eq_getElem?_getD, List.getElem?_set]
 split
 ·rename_i e; subst e; first | rfl | (rw [if_pos h]; rfl)
 ·rfl
theorem Sh.ext {L : Nat} {A B : Nat → Nat} {M N : M3} (s : Sh L A B M) (t : Sh L A B N) (h : ∀ k r c, k < L → r < A k → c < B k → get3 M k r c = get3 N k r c) : M = N := by
 have g3 : ∀ {α : Type} [Inhabited α] {xs ys : List α}, xs.length = ys.length → (∀ i, i < xs.length → xs.getD i default = ys.getD i default) → xs = ys := by
  intro α _ xs ys hl hh
  apply List.ext_getElem hl
  intro i h1 h2
  have := hh i h1
  rwa [List.getD_eq_getElem?_getD, List.getD_eq_getElem?_getD, List.getElem?_eq_getElem h1, List.getElem?_eq_getElem h2] at this
 refine g3 (by rw [s.len, t.len]) (fun k hk => ?_)
 rw [s.len] at hk
 refine g3 (by rw [s.rows k hk, t.rows k hk]) (fun r hr => ?_)
 rw [s.rows k hk] at hr
 refine g3 (by rw [s.cols k r hk hr, t.cols k r hk hr]) (fun c hc => ?_)
 rw [s.cols k r hk hr] at hc
 exact h k r c hk hr hc
def In3 (p : Int) (L : Nat) (A B : Nat → Nat) (M : M3) : Prop := ∀ k r c, k < L → r < A k → c < B k → 0 ≤ get3 M k r c ∧ get3 M k r c < p
abbrev Upd := (Nat × Nat × Nat) × Int
-- the updates of all numbers of a complex's maps
abbrev UF := Nat → Nat → Nat → Int → List Upd
end Go.Proofs.Ytjjjgllbocgkbaa

namespace Go.Proofs.Ytjjjgllbocgkbaa
open Go
theorem getD_map_range {α : Type} [Inhabited α] (f : Nat → α) {n k : Nat} (h : k < n) : ((List.range n).map f).getD k default = f k := by
 rw [List.getD_eq_getElem?_getD, List.getElem?_eq_getElem (by simpa using h)]; simp
theorem getD_repl {α : Type} {x d : α} {n k : Nat} (h : k < n) : (List.replicate n x).getD k d = x := by
 rw [List.getD_eq_getElem?_getD, List.getElem?_eq_getElem (by simpa using h)]; simp
end Go.Proofs.Ytjjjgllbocgkbaa

namespace Go.Proofs.Ytjjjgllbocgkbaa
open Go
/-- A function that is called for each number updates a table of one's own. -/
structure ORel (p : Int) (h0 : Heap) (vw : Value) (fw : List Nat) (L : Nat) (A B : Nat → Nat) (Ot : Heap → Prop) (s : M3) (H : Heap) : Prop where
 o : O3 H vw s fw
 sh : Sh L A B s
 i3 : In3 p L A B s
 e : Ext h0 H
 ot : Ot H
section
variable {U : UF} {τ : Nat → Nat → Nat → Nat × Nat × Nat} {ω : Nat → Nat → Nat → Int → Int}
end
theorem IsC.lens {X : Cx} (hC : IsC X) {k : Nat} (hk : k < X.maps.length) : ((X.maps.getD k default).length : Int) = X.dims.getD (k + 1) 0 ∧ ∀ i, i < (X.maps.getD k default).length → (((X.maps.getD k default).getD i default).length : Int) = X.dims.getD k 0 := by
 have t := tableP_iff.1 (hC.tb k hk)
 rw [show ((k : Int) + 1).toNat = k + 1 by omega] at t
 exact ⟨t.1, fun i hi => (t.2.at hi).1⟩

set_option maxRecDepth 100000 in
theorem clone1_ok (vu : Value) (u : List Int) (h : Heap) (ru : R1 h vu u) (hl : (u.length : Int) ≤ 1048576) : CallA Try.prog 170 #[vu] h fun v' h' => ∃ w0 f0, v' = w0 ∧ O1 h' w0 (u) f0 ∧ Fresh h.size f0 ∧ Ext h h' := by
 have hleu := RdS.le ru
 have ru' := ru
 obtain ⟨A, cc, rfl, hA, _⟩ := ru'
 refine callA_intro TTok (args := [_]) Try.func170 (by kernel_rfl) rfl 8 rfl (by simp) [.tmp 2] rfl ?_
 simp only [idxs, Nat.reduceAdd]
 refine den_seq ?_
 refine den_region TTok ?_
 intro K hK
 simp -implicitDefEqProofs (disch := first | decide | assumption | omega) only [go_sem, RdS.len ru sl22, RdS.idx ru sl22, R1.intB ru (HPres.refl _), RdS.cells ru, wrap_id]
 refine hK _ _ ?_
 clear hK K
 refine den_seq ?_
 refine den_seq ?_
 refine den_region TTok ?_
 intro K hK
 simp -implicitDefEqProofs (disch := first | decide | assumption | omega) only [go_sem, RdS.len ru sl22, RdS.idx ru sl22, R1.intB ru (HPres.refl _), RdS.cells ru, wrap_id]
 refine hK _ _ ?_
 clear hK K
 refine den_cond rfl (fun c0 => ?_) (fun c0 => ?_)
 ·try simp only [decide_eq_true_eq, decide_eq_false_iff_not, beq_iff_eq, beq_eq_false_iff_ne, bne_iff_ne, ne_eq, Bool.not_eq_true', Bool.not_eq_false', Bool.and_eq_true, Bool.or_eq_true, bne_eq_false_iff_eq] at c0
  refine den_seq ?_
  refine den_region TTok ?_
  intro K hK
  simp -implicitDefEqProofs (disch := first | decide | assumption | omega) only [go_sem, RdS.len ru sl22, RdS.idx ru sl22, R1.intB ru (HPres.refl _), RdS.cells ru, wrap_id]
  refine hK _ _ ?_
  clear hK K
  refine den_ret ?_
  simp (disch := decide) only [resP_1, puts_same, puts_ne]
  have e : u = [] := List.length_eq_zero_iff.1 (hA.resolve_left (by rw [Option.isNone_iff_eq_none.1 c0]; decide))
  subst e
  exact ⟨_, [], rfl, OS.nil, Fresh.nil _, (Ext.refl _)⟩
 ·try simp only [decide_eq_true_eq, decide_eq_false_iff_not, beq_iff_eq, beq_eq_false_iff_ne, bne_iff_ne, ne_eq, Bool.not_eq_true', Bool.not_eq_false', Bool.and_eq_true, Bool.or_eq_true, bne_eq_false_iff_eq] at c0
  refine den_skip ?_
  refine den_seq ?_
  refine den_region TTok ?_
  intro K hK
  simp -implicitDefEqProofs (disch := first | decide | assumption | omega) only [go_sem, RdS.len ru sl22, RdS.idx ru sl22, R1.intB ru (HPres.refl _), RdS.cells ru, wrap_id]
  refine op_bs0 sz22 OI ?_
  intro v3_0 h3_0 ho3_0 e3_0
  have := Ext.size e3_0
  have eB := e3_0
  have hfho3_0 : Fresh h.size [h.size] := Fresh.one _
  have hlho3_0 := OS.lt ho3_0
  try simp -implicitDefEqProofs (disch := first | decide | assumption | omega) only [go_sem, RdS.len ru sl22, RdS.idx ru sl22, R1.intB ru (Ext.pres eB), RdS.cells ru, RdS.len (OS.rd ho3_0) sl22, RdS.idx (OS.rd ho3_0) sl22, R1.intN (OS.rd ho3_0), RdS.cells (OS.rd ho3_0), wrap_id]
  refine op_appendR ho3_0 (RdS.pres ru (Ext.pres eB)) (by first | omega | (simp; omega)) rfl ?_
  intro v3_2 h3_2 fp3_2 ho3_2 hn3_2 hs3_2 c3_2
  have hsz3_2 := c3_2.size
  have hfho3_2 : Fresh h.size fp3_2 := Fresh.appd hfho3_0 (Fresh.nil h3_0.size) (by omega) (by omega) hn3_2 hs3_2
  have := c3_2.size
  replace eB := Ext.then eB c3_2 (ge_of hfho3_0 (by omega))
  have hlho3_2 := OS.lt ho3_2
  try simp -implicitDefEqProofs (disch := first | decide | assumption | omega) only [go_sem, RdS.len ru sl22, RdS.idx ru sl22, R1.intB ru (Ext.pres eB), RdS.cells ru, RdS.len (OS.rd ho3_2) sl22, RdS.idx (OS.rd ho3_2) sl22, R1.intN (OS.rd ho3_2), RdS.cells (OS.rd ho3_2), wrap_id]
  refine hK _ _ ?_
  clear hK K
  refine den_ret ?_
  simp (disch := decide) only [resP_1, puts_same, puts_ne]
  exact ⟨_, _, rfl, ho3_2, hfho3_2.mono (by omega), eB⟩
end Go.Proofs.Ytjjjgllbocgkbaa

namespace Go.Proofs.Ytjjjgllbocgkbaa
open Go
def lvP (X : Fl) (n i : Int) : Int := (X.lv.getD n.toNat default).getD i.toNat 0
def goodP (X : Fl) (k i j : Nat) (v : Int) : Bool := (v == 0) || decide (lvP X (k : Int) (j : Int) ≤ lvP X ((k : Int) + 1) (i : Int))
def upJ (X : Fl) (k i : Nat) (row : List Int) (m : Nat) : Bool := (List.range m).all fun j => goodP X k i j (row.getD j 0)
def upI (X : Fl) (k : Nat) (R : List (List Int)) (m : Nat) : Bool := (List.range m).all fun i => upJ X k i (R.getD i default) (R.getD i default).length
def upK (X : Fl) (M : List (List (List Int))) (m : Nat) : Bool := (List.range m).all fun k => upI X k (M.getD k default) (M.getD k default).length
theorem all_range_succ {f : Nat → Bool} {m : Nat} : (List.range (m + 1)).all f = ((List.range m).all f && f m) := by
 rw [List.range_succ, List.all_append]; simp
theorem all_range_t {f : Nat → Bool} {m : Nat} : (List.range m).all f = true ↔ ∀ q, q < m → f q = true := by
 rw [List.all_eq_true]
 exact ⟨fun h q hq => h q (List.mem_range.2 hq), fun h q hq => h q (List.mem_range.1 hq)⟩
structure IsF (X : Fl) : Prop where
 c : IsC X.c
 ln : X.lv.length = X.c.dims.length
 rl : ∀ n, n < X.lv.length → ((X.lv.getD n default).length : Int) = X.c.dims.getD n 0
 rr : ∀ n, n < X.lv.length → (X.lv.getD n default).all (fun q => in3 q 0 5) = true
 up : upK X X.c.maps X.c.maps.length = true
noncomputable def isF (X : Fl) : Bool := @decide (IsF X) (Classical.propDecidable _)
theorem isF_t {X : Fl} : isF X = true ↔ IsF X := by
 unfold isF
 exact @decide_eq_true_iff _ (Classical.propDecidable _)
theorem isF_no {X : Fl} (h : ¬ IsF X) : false = isF X := by
 cases e : isF X
 ·rfl
 ·exact absurd (isF_t.1 e) h
theorem isF_yes {X : Fl} (h : IsF X) : true = isF X := (isF_t.2 h).symm
/-- What the lengths of maps say of those of the levels. -/
theorem up_lens {X : Fl} (hC : IsC X.c) (ln : X.lv.length = X.c.dims.length) (rl : ∀ n, n < X.lv.length → ((X.lv.getD n default).length : Int) = X.c.dims.getD n 0) {k i j : Nat} (hk : k < X.c.maps.length) (hi : i < (X.c.maps.getD k default).length) (hj : j < ((X.c.maps.getD k default).getD i default).length) : k + 1 < X.lv.length ∧ i < (X.lv.getD (k + 1) default).length ∧ j < (X.lv.getD k default).length := by
 have hm := hC.ml
 have l := hC.lens hk
 have l2 := l.2 i hi
 have r1 := rl (k + 1) (by omega)
 have r2 := rl k (by omega)
 exact ⟨by omega, by omega, by omega⟩

set_option maxRecDepth 100000 in
theorem eachG_ok (Rel : Nat → Nat → Nat → Heap → Prop) (fpC : List Nat) (g : FuncId) (cs : Array Value) (X : Cx) (vd vm : Value) (h0 : Heap) (hd : R1 h0 vd X.dims) (hm : R3 h0 vm X.maps) (h : Heap) (hR : Rel 0 0 0 h) (hRe : ∀ k i j H H', Rel k i j H → Ext H H' → Rel k i j H') (hR0 : ∀ k i j H, Rel k i j H → Ext h0 H) (hK : ∀ k H, k < X.maps.length → Rel k (X.maps.getD k default).length 0 H → Rel (k + 1) 0 0 H) (hI : ∀ k i H, k < X.maps.length → i < (X.maps.getD k default).length → Rel k i ((X.maps.getD k default).getD i default).length H → Rel k (i + 1) 0 H) (hfp : ∀ b ∈ fpC, b < h.size) (hst : ∀ H k i j, k < X.maps.length → i < (X.maps.getD k default).length → j < ((X.maps.getD k default).getD i default).length → Rel k i j H → CallA Try.prog g (#[.int .i64 ((k : Int) + 1), .int .i64 (i : Int), .int .i64 (j : Int), .int .i64 (((X.maps.getD k default).getD i default).getD j 0)] ++ cs) H fun u H' => Rel k i (j + 1) H' ∧ Chg fpC H H') : CallA Try.prog 75 #[.agg #[.int .i64 X.p, vd, vm], .func (.func g) #[] cs] h fun v' h' => v' = .tuple #[] ∧ Rel X.maps.length 0 0 h' ∧ Chg fpC h h' := by
 have hle := RdS.le hd
 have hlm := RdS.le hm
 have eB := hR0 _ _ _ _ hR
 refine callA_intro TTok (args := [_, _]) Try.func75 (by kernel_rfl) rfl 42 rfl (by simp) [] rfl ?_
 simp only [idxs, Nat.reduceAdd]
 refine den_seq ?_
 refine den_region TTok ?_
 intro K hK
 simp -implicitDefEqProofs (disch := first | decide | assumption | omega) only [go_sem, RdS.len hd sl22, RdS.idx hd sl22, R1.intB hd (Ext.pres eB), RdS.cells hd, RdS.len hm sl23, RdS.idx hm sl23, RdS.cellB hm (Ext.pres eB), RdS.cells hm, wrap_id]
 refine op_box (cs := #[.int .i64 (X.p), vd, vm]) rfl ?_
 intro h0_0 e0_0 hb0_0 z0_0
 have := Ext.size e0_0
 replace eB := Ext.trans eB e0_0
 try simp -implicitDefEqProofs (disch := first | decide | assumption | omega) only [go_sem, RdS.len hd sl22, RdS.idx hd sl22, R1.intB hd (Ext.pres eB), RdS.cells hd, RdS.len hm sl23, RdS.idx hm sl23, RdS.cellB hm (Ext.pres eB), RdS.cells hm, BoxAt.cell hb0_0, wrap_id]
 refine hK _ _ ?_
 clear hK K
 refine den_seq ?_
 refine den_region TTok ?_
 intro K hK
 simp -implicitDefEqProofs (disch := first | decide | assumption | omega) only [go_sem, fa31_2, ld23, RdS.len hd sl22, RdS.idx hd sl22, R1.intB hd (Ext.pres eB), RdS.cells hd, RdS.len hm sl23, RdS.idx hm sl23, RdS.cellB hm (Ext.pres eB), RdS.cells hm, BoxAt.cell hb0_0, wrap_id]
 refine hK _ _ ?_
 clear hK K
 refine den_block ?_
 refine den_sel [13, 1, 11, 12] ?_
 intro env_1
 simp only [go_sem]
 refine den_loopS (σ := Nat) (fun s => [(13, .int .i64 (s : Int))]) (fun s H => Ext h0 H ∧ s ≤ X.maps.length ∧ Rel s 0 0 H ∧ Chg fpC h H ∧ BoxAt H h.size #[.int .i64 X.p, vd, vm] 31) (fun s => X.maps.length - s) 0 ?_ ?_
 ·exact ⟨eB, by omega, hRe _ _ _ _ _ hR e0_0, Ext.chg e0_0 _, hb0_0⟩
 ·rintro k h4 ee3 ⟨eB, hk, hR, hch, hb⟩
  simp only [List.cons_append, List.nil_append]
  have := Ext.size eB
  refine den_seq ?_
  refine den_region TTok ?_
  intro K hK
  simp -implicitDefEqProofs (disch := first | decide | assumption | omega) only [go_sem, RdS.len hd sl22, RdS.idx hd sl22, R1.intB hd (Ext.pres eB), RdS.cells hd, RdS.len hm sl23, RdS.idx hm sl23, RdS.cellB hm (Ext.pres eB), RdS.cells hm, BoxAt.cell hb, wrap_id]
  refine hK _ _ ?_
  clear hK K
  refine den_seq ?_
  refine den_cond rfl (fun c0 => ?_) (fun c0 => ?_)
  ·try simp only [decide_eq_true_eq, decide_eq_false_iff_not, beq_iff_eq, beq_eq_false_iff_ne, bne_iff_ne, ne_eq, Bool.not_eq_true', Bool.not_eq_false', Bool.and_eq_true, Bool.or_eq_true, bne_eq_false_iff_eq] at c0
   refine den_skip ?_
   refine den_seq ?_
   refine den_block ?_
   refine den_seq ?_
   refine den_region TTok ?_
   intro K hK
   have hr5 := RdS.rowN hm k (by omega)
   have hlhr5 := RdS.le hr5
   simp -implicitDefEqProofs (disch := first | decide | assumption | omega) only [go_sem, ld26, RdS.len hd sl22, RdS.idx hd sl22, R1.intB hd (Ext.pres eB), RdS.cells hd, RdS.len hm sl23, RdS.idx hm sl23, RdS.cellB hm (Ext.pres eB), RdS.cells hm, RdS.len hr5 sl26, RdS.idx hr5 sl26, RdS.cellB hr5 (Ext.pres eB), RdS.cells hr5, BoxAt.cell hb, wrap_id]
   refine hK _ _ ?_
   clear hK K
   refine den_seq ?_
   refine den_region TTok ?_
   intro K hK
   simp -implicitDefEqProofs (disch := first | decide | assumption | omega) only [go_sem, RdS.len hd sl22, RdS.idx hd sl22, R1.intB hd (Ext.pres eB), RdS.cells hd, RdS.len hm sl23, RdS.idx hm sl23, RdS.cellB hm (Ext.pres eB), RdS.cells hm, RdS.len hr5 sl26, RdS.idx hr5 sl26, RdS.cellB hr5 (Ext.pres eB), RdS.cells hr5, BoxAt.cell hb, wrap_id]
   refine hK _ _ ?_
   clear hK K
   refine den_block ?_
   refine den_sel [20, 1, 4, 11, 12, 13, 18, 19] ?_
   intro env_6
   simp only [go_sem]
   refine den_loopS (σ := Nat) (fun s => [(20, .int .i64 (s : Int))]) (fun s H => Ext h0 H ∧ s ≤ (X.maps.getD k default).length ∧ Rel k s 0 H ∧ Chg fpC h H ∧ BoxAt H h.size #[.int .i64 X.p, vd, vm] 31) (fun s => (X.maps.getD k default).length - s) 0 ?_ ?_
   ·exact ⟨eB, by omega, hR, hch, hb⟩
   ·rintro i h9 ee8 ⟨eB, hi, hR, hch, hb⟩
    simp only [List.cons_append, List.nil_append]
    have := Ext.size eB
    refine den_seq ?_
    refine den_region TTok ?_
    intro K hK
    simp -implicitDefEqProofs (disch := first | decide | assumption | omega) only [go_sem, RdS.len hd sl22, RdS.idx hd sl22, R1.intB hd (Ext.pres eB), RdS.cells hd, RdS.len hm sl23, RdS.idx hm sl23, RdS.cellB hm (Ext.pres eB), RdS.cells hm, RdS.len hr5 sl26, RdS.idx hr5 sl26, RdS.cellB hr5 (Ext.pres eB), RdS.cells hr5, BoxAt.cell hb, wrap_id]
    refine hK _ _ ?_
    clear hK K
    refine den_seq ?_
    refine den_cond rfl (fun c1 => ?_) (fun c1 => ?_)
    ·try simp only [decide_eq_true_eq, decide_eq_false_iff_not, beq_iff_eq, beq_eq_false_iff_ne, bne_iff_ne, ne_eq, Bool.not_eq_true', Bool.not_eq_false', Bool.and_eq_true, Bool.or_eq_true, bne_eq_false_iff_eq] at c1
     refine den_skip ?_
     refine den_seq ?_
     refine den_block ?_
     refine den_seq ?_
     refine den_region TTok ?_
     intro K hK
     have hr10 := RdS.rowN hr5 i (by omega)
     have hlhr10 := RdS.le hr10
     simp -implicitDefEqProofs (disch := first | decide | assumption | omega) only [go_sem, ld22, RdS.len hd sl22, RdS.idx hd sl22, R1.intB hd (Ext.pres eB), RdS.cells hd, RdS.len hm sl23, RdS.idx hm sl23, RdS.cellB hm (Ext.pres eB), RdS.cells hm, RdS.len hr5 sl26, RdS.idx hr5 sl26, RdS.cellB hr5 (Ext.pres eB), RdS.cells hr5, RdS.len hr10 sl22, RdS.idx hr10 sl22, R1.intB hr10 (Ext.pres eB), RdS.cells hr10, BoxAt.cell hb, wrap_id]
     refine hK _ _ ?_
     clear hK K
     refine den_seq ?_
     refine den_region TTok ?_
     intro K hK
     simp -implicitDefEqProofs (disch := first | decide | assumption | omega) only [go_sem, RdS.len hd sl22, RdS.idx hd sl22, R1.intB hd (Ext.pres eB), RdS.cells hd, RdS.len hm sl23, RdS.idx hm sl23, RdS.cellB hm (Ext.pres eB), RdS.cells hm, RdS.len hr5 sl26, RdS.idx hr5 sl26, RdS.cellB hr5 (Ext.pres eB), RdS.cells hr5, RdS.len hr10 sl22, RdS.idx hr10 sl22, R1.intB hr10 (Ext.pres eB), RdS.cells hr10, BoxAt.cell hb, wrap_id]
     refine hK _ _ ?_
     clear hK K
     refine den_block ?_
     refine den_sel [27, 1, 4, 6, 11, 12, 13, 18, 19, 20, 25, 26] ?_
     intro env_11
     simp only [go_sem]
     refine den_loopS (σ := Nat) (fun s => [(27, .int .i64 (s : Int))]) (fun s H => Ext h0 H ∧ s ≤ ((X.maps.getD k default).getD i default).length ∧ Rel k i s H ∧ Chg fpC h H ∧ BoxAt H h.size #[.int .i64 X.p, vd, vm] 31) (fun s => ((X.maps.getD k default).getD i default).length - s) 0 ?_ ?_
     ·exact ⟨eB, by omega, hR, hch, hb⟩
     ·rintro j h14 ee13 ⟨eB, hj, hR, hch, hb⟩
      simp only [List.cons_append, List.nil_append]
      have := Ext.size eB
      refine den_seq ?_
      refine den_region TTok ?_
      intro K hK
      simp -implicitDefEqProofs (disch := first | decide | assumption | omega) only [go_sem, RdS.len hd sl22, RdS.idx hd sl22, R1.intB hd (Ext.pres eB), RdS.cells hd, RdS.len hm sl23, RdS.idx hm sl23, RdS.cellB hm (Ext.pres eB), RdS.cells hm, RdS.len hr5 sl26, RdS.idx hr5 sl26, RdS.cellB hr5 (Ext.pres eB), RdS.cells hr5, RdS.len hr10 sl22, RdS.idx hr10 sl22, R1.intB hr10 (Ext.pres eB), RdS.cells hr10, BoxAt.cell hb, wrap_id]
      refine hK _ _ ?_
      clear hK K
      refine den_seq ?_
      refine den_cond rfl (fun c2 => ?_) (fun c2 => ?_)
      ·try simp only [decide_eq_true_eq, decide_eq_false_iff_not, beq_iff_eq, beq_eq_false_iff_ne, bne_iff_ne, ne_eq, Bool.not_eq_true', Bool.not_eq_false', Bool.and_eq_true, Bool.or_eq_true, bne_eq_false_iff_eq] at c2
       refine den_skip ?_
       refine den_seq ?_
       refine den_block ?_
       refine den_seq ?_
       refine den_region TTok ?_
       intro K hK
       simp -implicitDefEqProofs (disch := first | decide | assumption | omega) only [go_sem, ld2, RdS.len hd sl22, RdS.idx hd sl22, R1.intB hd (Ext.pres eB), RdS.cells hd, RdS.len hm sl23, RdS.idx hm sl23, RdS.cellB hm (Ext.pres eB), RdS.cells hm, RdS.len hr5 sl26, RdS.idx hr5 sl26, RdS.cellB hr5 (Ext.pres eB), RdS.cells hr5, RdS.len hr10 sl22, RdS.idx hr10 sl22, R1.intB hr10 (Ext.pres eB), RdS.cells hr10, BoxAt.cell hb, wrap_id]
       refine hK _ _ ?_
       clear hK K
       refine den_region TTok ?_
       intro K hK
       simp -implicitDefEqProofs (disch := first | decide | assumption | omega) only [go_sem, RdS.len hd sl22, RdS.idx hd sl22, R1.intB hd (Ext.pres eB), RdS.cells hd, RdS.len hm sl23, RdS.idx hm sl23, RdS.cellB hm (Ext.pres eB), RdS.cells hm, RdS.len hr5 sl26, RdS.idx hr5 sl26, RdS.cellB hr5 (Ext.pres eB), RdS.cells hr5, RdS.len hr10 sl22, RdS.idx hr10 sl22, R1.intB hr10 (Ext.pres eB), RdS.cells hr10, BoxAt.cell hb, wrap_id]
       try simp -implicitDefEqProofs (disch := first | decide | assumption | omega) only [go_sem, RdS.len hd sl22, RdS.idx hd sl22, R1.intB hd (Ext.pres eB), RdS.cells hd, RdS.len hm sl23, RdS.idx hm sl23, RdS.cellB hm (Ext.pres eB), RdS.cells hm, RdS.len hr5 sl26, RdS.idx hr5 sl26, RdS.cellB hr5 (Ext.pres eB), RdS.cells hr5, RdS.len hr10 sl22, RdS.idx hr10 sl22, R1.intB hr10 (Ext.pres eB), RdS.cells hr10, BoxAt.cell hb, wrap_id]
       refine CallA.mono (hst _ k i j (by omega) (by omega) (by omega) hR) ?_
       intro u h10_6
       rintro ⟨hR2, cv⟩
       have hbl := hb.lt
       replace hb := BoxAt.chg hb cv (fun hm => by have := hfp _ hm; omega)
       replace hch := hch.trans cv
       replace eB := hR0 _ _ _ _ hR2
       try simp -implicitDefEqProofs (disch := first | decide | assumption | omega) only [go_sem, RdS.len hd sl22, RdS.idx hd sl22, R1.intB hd (Ext.pres eB), RdS.cells hd, RdS.len hm sl23, RdS.idx hm sl23, RdS.cellB hm (Ext.pres eB), RdS.cells hm, RdS.len hr5 sl26, RdS.idx hr5 sl26, RdS.cellB hr5 (Ext.pres eB), RdS.cells hr5, RdS.len hr10 sl22, RdS.idx hr10 sl22, R1.intB hr10 (Ext.pres eB), RdS.cells hr10, BoxAt.cell hb, wrap_id]
       refine hK _ _ ?_
       clear hK K
       refine den_blk ?_
       refine den_region TTok ?_
       intro K hK
       simp -implicitDefEqProofs (disch := first | decide | assumption | omega) only [go_sem, RdS.len hd sl22, RdS.idx hd sl22, R1.intB hd (Ext.pres eB), RdS.cells hd, RdS.len hm sl23, RdS.idx hm sl23, RdS.cellB hm (Ext.pres eB), RdS.cells hm, RdS.len hr5 sl26, RdS.idx hr5 sl26, RdS.cellB hr5 (Ext.pres eB), RdS.cells hr5, RdS.len hr10 sl22, RdS.idx hr10 sl22, R1.intB hr10 (Ext.pres eB), RdS.cells hr10, BoxAt.cell hb, wrap_id]
       refine hK _ _ ?_
       clear hK K
       refine den_stop ?_
       exact ⟨j + 1, by simp [HasL, puts_at], ⟨eB, by omega, hR2, hch, hb⟩, by omega⟩
      ·try simp only [decide_eq_true_eq, decide_eq_false_iff_not, beq_iff_eq, beq_eq_false_iff_ne, bne_iff_ne, ne_eq, Bool.not_eq_true', Bool.not_eq_false', Bool.and_eq_true, Bool.or_eq_true, bne_eq_false_iff_eq] at c2
       refine den_exit ?_
       refine denX_code ?_
       refine denX_stop ?_
       refine denX_hit ?_
       refine den_blk ?_
       refine den_region TTok ?_
       intro K hK
       simp -implicitDefEqProofs (disch := first | decide | assumption | omega) only [go_sem, RdS.len hd sl22, RdS.idx hd sl22, R1.intB hd (Ext.pres eB), RdS.cells hd, RdS.len hm sl23, RdS.idx hm sl23, RdS.cellB hm (Ext.pres eB), RdS.cells hm, RdS.len hr5 sl26, RdS.idx hr5 sl26, RdS.cellB hr5 (Ext.pres eB), RdS.cells hr5, RdS.len hr10 sl22, RdS.idx hr10 sl22, R1.intB hr10 (Ext.pres eB), RdS.cells hr10, BoxAt.cell hb, wrap_id]
       refine hK _ _ ?_
       clear hK K
       refine den_stop ?_
       refine ⟨i + 1, by simp [HasL, puts_at], ⟨eB, by omega, hI _ _ _ (by omega) (by omega) ?_, hch, hb⟩, by omega⟩
       rw [show ((X.maps.getD k default).getD i default).length = j by omega]
       exact hR
    ·try simp only [decide_eq_true_eq, decide_eq_false_iff_not, beq_iff_eq, beq_eq_false_iff_ne, bne_iff_ne, ne_eq, Bool.not_eq_true', Bool.not_eq_false', Bool.and_eq_true, Bool.or_eq_true, bne_eq_false_iff_eq] at c1
     refine den_exit ?_
     refine denX_code ?_
     refine denX_stop ?_
     refine denX_hit ?_
     refine den_blk ?_
     refine den_region TTok ?_
     intro K hK
     simp -implicitDefEqProofs (disch := first | decide | assumption | omega) only [go_sem, RdS.len hd sl22, RdS.idx hd sl22, R1.intB hd (Ext.pres eB), RdS.cells hd, RdS.len hm sl23, RdS.idx hm sl23, RdS.cellB hm (Ext.pres eB), RdS.cells hm, RdS.len hr5 sl26, RdS.idx hr5 sl26, RdS.cellB hr5 (Ext.pres eB), RdS.cells hr5, BoxAt.cell hb, wrap_id]
     refine hK _ _ ?_
     clear hK K
     refine den_stop ?_
     refine ⟨k + 1, by simp [HasL, puts_at], ⟨eB, by omega, hK _ _ (by omega) ?_, hch, hb⟩, by omega⟩
     rw [show (X.maps.getD k default).length = i by omega]
     exact hR
  ·try simp only [decide_eq_true_eq, decide_eq_false_iff_not, beq_iff_eq, beq_eq_false_iff_ne, bne_iff_ne, ne_eq, Bool.not_eq_true', Bool.not_eq_false', Bool.and_eq_true, Bool.or_eq_true, bne_eq_false_iff_eq] at c0
   refine den_exit ?_
   refine denX_code ?_
   refine denX_stop ?_
   refine denX_hit ?_
   refine den_nil ?_
   simp (disch := decide) only [resP_0, puts_same, puts_ne]
   rw [show X.maps.length = k by omega]
   exact ⟨by first | rfl | trivial, hR, hch⟩

set_option maxRecDepth 100000 in
theorem isF1_ok (x : Int) (h : Heap) : CallA Try.prog 73 #[.int .i64 x] h fun v h' => v = .bool (!in3 x 0 5) ∧ h' = h := by
 refine callA_intro TTok (args := [_]) Try.func73 (by kernel_rfl) rfl 6 rfl (by simp) [.tmp 2] rfl ?_
 simp only [idxs, Nat.reduceAdd]
 refine den_seq ?_
 refine den_region TTok ?_
 intro K hK
 simp -implicitDefEqProofs (disch := first | decide | assumption | omega) only [go_sem]
 refine hK _ _ ?_
 clear hK K
 refine den_seq ?_
 refine den_region TTok ?_
 intro K hK
 simp -implicitDefEqProofs (disch := first | decide | assumption | omega) only [go_sem]
 try simp -implicitDefEqProofs (disch := first | decide | assumption | omega) only [go_sem]
 refine CallA.pure (iIn_ok _ _ _ _) ?_
 try simp -implicitDefEqProofs (disch := first | decide | assumption | omega) only [go_sem]
 refine hK _ _ ?_
 clear hK K
 refine den_ret ?_
 simp (disch := decide) only [resP_1, puts_same, puts_ne]
 exact ⟨by first | rfl | trivial, trivial⟩

set_option maxRecDepth 100000 in
theorem isF2_ok (X : Fl) (vdX vmX vvX : Value) (k i j : Nat) (x : Int) (b : Bool) (bB bX : Nat) (h0 h : Heap) (hdX : R1 h0 vdX X.c.dims) (hmX : R3 h0 vmX X.c.maps) (hvX : R2 h0 vvX X.lv) (eB : Ext h0 h) (hbB : BoxAt h bB #[.bool b] 4) (hbX : BoxAt h bX #[.int .i64 X.c.p, vdX, vmX, vvX] 33) (hne : bB ≠ bX) (hB0 : h0.size ≤ bB) (hk : k + 1 < X.lv.length) (hi : i < (X.lv.getD (k + 1) default).length) (hj : j < (X.lv.getD k default).length) : CallA Try.prog 76 #[.int .i64 ((k : Int) + 1), .int .i64 (i : Int), .int .i64 (j : Int), .int .i64 x, .pointer (some ⟨bB, 0, none⟩), .pointer (some ⟨bX, 0, none⟩)] h fun v' h' => v' = .tuple #[] ∧ BoxAt h' bB #[.bool (b && goodP X k i j x)] 4 ∧ Chg [bB] h h' := by
 have hlv := RdS.le hvX
 have hj' : j < (X.lv.getD ((k : Int) + 1 - 1).toNat default).length := by rw [show ((k : Int) + 1 - 1).toNat = k by omega]; exact hj
 have hi' : i < (X.lv.getD ((k : Int) + 1).toNat default).length := by rw [show ((k : Int) + 1).toNat = k + 1 by omega]; exact hi
 have ek : ((k : Int) + 1).toNat = k + 1 := by omega
 refine callA_intro TTok (args := [_, _, _, _, _, _]) Try.func76 (by kernel_rfl) rfl 35 rfl (by simp) [] rfl ?_
 simp only [idxs, Nat.reduceAdd]
 refine den_draw TTok mixed [25] [(0, true), (1, true), (2, true), (3, true), (4, true), (5, true), (6, true), (7, true), (8, true), (9, true), (10, true), (11, true), (12, true), (13, true), (14, true), (15, true), (16, true), (17, true), (18, true), (19, true), (20, true), (21, true), (22, true), (23, true), (24, true), (25, false)] (by kernel_rfl) ?_
 intro K hK
 simp -implicitDefEqProofs (disch := first | decide | assumption | (simp (disch := decide) only [slotOf_zero, slotOf_succ, Option.map_some, puts_same, puts_ne, gv_bool, gv_undef, tt, tf, ft, ff, eq_self, if_true, if_false, Bool.false_eq_true, Bool.not_true, Bool.not_false]; done) | omega) only [go_sem, ld4, RdS.len hdX sl22, RdS.idx hdX sl22, R1.intB hdX (Ext.pres eB), RdS.cells hdX, RdS.len hmX sl23, RdS.idx hmX sl23, RdS.cellB hmX (Ext.pres eB), RdS.cells hmX, RdS.len hvX sl26, RdS.idx hvX sl26, RdS.cellB hvX (Ext.pres eB), RdS.cells hvX, BoxAt.cell hbB, BoxAt.cell hbX, wrap_id]
 refine plG_T (by simp (disch := decide) only [slotOf_zero, slotOf_succ, Option.map_some, puts_same, puts_ne, gv_bool, gv_undef, tt, tf, ft, ff, eq_self, if_true, if_false, Bool.false_eq_true, Bool.not_true, Bool.not_false]; rfl) (fun g1 => ?_) (fun g1 => ?_)
 ·try simp -implicitDefEqProofs (disch := first | decide | assumption | (simp (disch := decide) only [slotOf_zero, slotOf_succ, Option.map_some, puts_same, puts_ne, gv_bool, gv_undef, tt, tf, ft, ff, eq_self, if_true, if_false, Bool.false_eq_true, Bool.not_true, Bool.not_false, g1]; done) | omega) only [go_sem, RdS.len hdX sl22, RdS.idx hdX sl22, R1.intB hdX (Ext.pres eB), RdS.cells hdX, RdS.len hmX sl23, RdS.idx hmX sl23, RdS.cellB hmX (Ext.pres eB), RdS.cells hmX, RdS.len hvX sl26, RdS.idx hvX sl26, RdS.cellB hvX (Ext.pres eB), RdS.cells hvX, BoxAt.cell hbB, BoxAt.cell hbX, wrap_id, g1, eq_self, if_true, if_false, Bool.false_eq_true]
  refine plG_F (by simp (disch := decide) only [slotOf_zero, slotOf_succ, Option.map_some, puts_same, puts_ne, gv_bool, gv_undef, tt, tf, ft, ff, eq_self, if_true, if_false, Bool.false_eq_true, Bool.not_true, Bool.not_false, g1]; rfl) (fun g2 => ?_) (fun g2 => ?_)
  ·have hr3 := RdS.rowN hvX ((((k : Int) + 1) - (1 : Int))).toNat (by omega)
   have hlhr3 := RdS.le hr3
   have hr4 := RdS.rowN hvX (((k : Int) + 1)).toNat (by omega)
   have hlhr4 := RdS.le hr4
   try simp -implicitDefEqProofs (disch := first | decide | assumption | (simp (disch := decide) only [slotOf_zero, slotOf_succ, Option.map_some, puts_same, puts_ne, gv_bool, gv_undef, tt, tf, ft, ff, eq_self, if_true, if_false, Bool.false_eq_true, Bool.not_true, Bool.not_false, g1, g2]; done) | omega) only [go_sem, fa33_1, ld26, ld22, ld2, RdS.len hdX sl22, RdS.idx hdX sl22, R1.intB hdX (Ext.pres eB), RdS.cells hdX, RdS.len hmX sl23, RdS.idx hmX sl23, RdS.cellB hmX (Ext.pres eB), RdS.cells hmX, RdS.len hvX sl26, RdS.idx hvX sl26, RdS.cellB hvX (Ext.pres eB), RdS.cells hvX, RdS.len hr3 sl22, RdS.idx hr3 sl22, R1.intB hr3 (Ext.pres eB), RdS.cells hr3, RdS.len hr4 sl22, RdS.idx hr4 sl22, R1.intB hr4 (Ext.pres eB), RdS.cells hr4, BoxAt.cell hbB, BoxAt.cell hbX, wrap_id, g1, g2, eq_self, if_true, if_false, Bool.false_eq_true]
   refine op_storeB (o := 0) (vs := #[.bool ((b && goodP X k i j x))]) (cs' := #[.bool ((b && goodP X k i j x))]) st4 hbB ?_ ?_ rfl (by simp) (allOne_mem (l := [.bool ((b && goodP X k i j x))]) ⟨rfl, trivial⟩) rfl ?_
   ·rfl
   ·simp (disch := decide) [go_sem, goodP, lvP, ek, g1, g2]
   intro h0_25 hbB c0_25
   replace hbX := BoxAt.chg hbX c0_25 (by simp; omega)
   have := c0_25.size
   replace eB := Ext.then eB c0_25 (fun b hb => by simp at hb; omega)
   try simp (disch := decide) only [outv_some, outv_none, put_puts]
   refine plK_last (by decide) ?_
   try simp -implicitDefEqProofs (disch := first | decide | assumption | (simp (disch := decide) only [slotOf_zero, slotOf_succ, Option.map_some, puts_same, puts_ne, gv_bool, gv_undef, tt, tf, ft, ff, eq_self, if_true, if_false, Bool.false_eq_true, Bool.not_true, Bool.not_false, g1, g2]; done) | omega) only [go_sem, RdS.len hdX sl22, RdS.idx hdX sl22, R1.intB hdX (Ext.pres eB), RdS.cells hdX, RdS.len hmX sl23, RdS.idx hmX sl23, RdS.cellB hmX (Ext.pres eB), RdS.cells hmX, RdS.len hvX sl26, RdS.idx hvX sl26, RdS.cellB hvX (Ext.pres eB), RdS.cells hvX, RdS.len hr3 sl22, RdS.idx hr3 sl22, R1.intB hr3 (Ext.pres eB), RdS.cells hr3, RdS.len hr4 sl22, RdS.idx hr4 sl22, R1.intB hr4 (Ext.pres eB), RdS.cells hr4, BoxAt.cell hbB, BoxAt.cell hbX, wrap_id, g1, g2, eq_self, if_true, if_false, Bool.false_eq_true]
   refine hK _ _ ?_
   clear hK K
   refine den_nil ?_
   simp (disch := decide) only [resP_0, puts_same, puts_ne]
   exact ⟨by first | rfl | trivial, hbB, c0_25⟩
  ·try simp -implicitDefEqProofs (disch := first | decide | assumption | (simp (disch := decide) only [slotOf_zero, slotOf_succ, Option.map_some, puts_same, puts_ne, gv_bool, gv_undef, tt, tf, ft, ff, eq_self, if_true, if_false, Bool.false_eq_true, Bool.not_true, Bool.not_false, g1, g2]; done) | omega) only [go_sem, RdS.len hdX sl22, RdS.idx hdX sl22, R1.intB hdX (Ext.pres eB), RdS.cells hdX, RdS.len hmX sl23, RdS.idx hmX sl23, RdS.cellB hmX (Ext.pres eB), RdS.cells hmX, RdS.len hvX sl26, RdS.idx hvX sl26, RdS.cellB hvX (Ext.pres eB), RdS.cells hvX, BoxAt.cell hbB, BoxAt.cell hbX, wrap_id, g1, g2, eq_self, if_true, if_false, Bool.false_eq_true]
   refine op_storeB (o := 0) (vs := #[.bool ((b && goodP X k i j x))]) (cs' := #[.bool ((b && goodP X k i j x))]) st4 hbB ?_ ?_ rfl (by simp) (allOne_mem (l := [.bool ((b && goodP X k i j x))]) ⟨rfl, trivial⟩) rfl ?_
   ·rfl
   ·simp (disch := decide) [go_sem, goodP, lvP, ek, g1, g2]
   intro h0_25_1 hbB c0_25_1
   replace hbX := BoxAt.chg hbX c0_25_1 (by simp; omega)
   have := c0_25_1.size
   replace eB := Ext.then eB c0_25_1 (fun b hb => by simp at hb; omega)
   try simp (disch := decide) only [outv_some, outv_none, put_puts]
   refine plK_last (by decide) ?_
   try simp -implicitDefEqProofs (disch := first | decide | assumption | (simp (disch := decide) only [slotOf_zero, slotOf_succ, Option.map_some, puts_same, puts_ne, gv_bool, gv_undef, tt, tf, ft, ff, eq_self, if_true, if_false, Bool.false_eq_true, Bool.not_true, Bool.not_false, g1, g2]; done) | omega) only [go_sem, RdS.len hdX sl22, RdS.idx hdX sl22, R1.intB hdX (Ext.pres eB), RdS.cells hdX, RdS.len hmX sl23, RdS.idx hmX sl23, RdS.cellB hmX (Ext.pres eB), RdS.cells hmX, RdS.len hvX sl26, RdS.idx hvX sl26, RdS.cellB hvX (Ext.pres eB), RdS.cells hvX, BoxAt.cell hbB, BoxAt.cell hbX, wrap_id, g1, g2, eq_self, if_true, if_false, Bool.false_eq_true]
   refine hK _ _ ?_
   clear hK K
   refine den_nil ?_
   simp (disch := decide) only [resP_0, puts_same, puts_ne]
   exact ⟨by first | rfl | trivial, hbB, c0_25_1⟩
 ·try simp -implicitDefEqProofs (disch := first | decide | assumption | (simp (disch := decide) only [slotOf_zero, slotOf_succ, Option.map_some, puts_same, puts_ne, gv_bool, gv_undef, tt, tf, ft, ff, eq_self, if_true, if_false, Bool.false_eq_true, Bool.not_true, Bool.not_false, g1]; done) | omega) only [go_sem, RdS.len hdX sl22, RdS.idx hdX sl22, R1.intB hdX (Ext.pres eB), RdS.cells hdX, RdS.len hmX sl23, RdS.idx hmX sl23, RdS.cellB hmX (Ext.pres eB), RdS.cells hmX, RdS.len hvX sl26, RdS.idx hvX sl26, RdS.cellB hvX (Ext.pres eB), RdS.cells hvX, BoxAt.cell hbB, BoxAt.cell hbX, wrap_id, g1, eq_self, if_true, if_false, Bool.false_eq_true]
  try simp -implicitDefEqProofs (disch := first | decide | assumption | (simp (disch := decide) only [slotOf_zero, slotOf_succ, Option.map_some, puts_same, puts_ne, gv_bool, gv_undef, tt, tf, ft, ff, eq_self, if_true, if_false, Bool.false_eq_true, Bool.not_true, Bool.not_false, g1]; done) | omega) only [go_sem, RdS.len hdX sl22, RdS.idx hdX sl22, R1.intB hdX (Ext.pres eB), RdS.cells hdX, RdS.len hmX sl23, RdS.idx hmX sl23, RdS.cellB hmX (Ext.pres eB), RdS.cells hmX, RdS.len hvX sl26, RdS.idx hvX sl26, RdS.cellB hvX (Ext.pres eB), RdS.cells hvX, BoxAt.cell hbB, BoxAt.cell hbX, wrap_id, g1, eq_self, if_true, if_false, Bool.false_eq_true]
  refine op_storeB (o := 0) (vs := #[.bool ((b && goodP X k i j x))]) (cs' := #[.bool ((b && goodP X k i j x))]) st4 hbB ?_ ?_ rfl (by simp) (allOne_mem (l := [.bool ((b && goodP X k i j x))]) ⟨rfl, trivial⟩) rfl ?_
  ·rfl
  ·simp (disch := decide) [go_sem, goodP, lvP, ek, g1]
  intro h0_25_2 hbB c0_25_2
  replace hbX := BoxAt.chg hbX c0_25_2 (by simp; omega)
  have := c0_25_2.size
  replace eB := Ext.then eB c0_25_2 (fun b hb => by simp at hb; omega)
  try simp (disch := decide) only [outv_some, outv_none, put_puts]
  refine plK_last (by decide) ?_
  try simp -implicitDefEqProofs (disch := first | decide | assumption | (simp (disch := decide) only [slotOf_zero, slotOf_succ, Option.map_some, puts_same, puts_ne, gv_bool, gv_undef, tt, tf, ft, ff, eq_self, if_true, if_false, Bool.false_eq_true, Bool.not_true, Bool.not_false, g1]; done) | omega) only [go_sem, RdS.len hdX sl22, RdS.idx hdX sl22, R1.intB hdX (Ext.pres eB), RdS.cells hdX, RdS.len hmX sl23, RdS.idx hmX sl23, RdS.cellB hmX (Ext.pres eB), RdS.cells hmX, RdS.len hvX sl26, RdS.idx hvX sl26, RdS.cellB hvX (Ext.pres eB), RdS.cells hvX, BoxAt.cell hbB, BoxAt.cell hbX, wrap_id, g1, eq_self, if_true, if_false, Bool.false_eq_true]
  refine hK _ _ ?_
  clear hK K
  refine den_nil ?_
  simp (disch := decide) only [resP_0, puts_same, puts_ne]
  exact ⟨by first | rfl | trivial, hbB, c0_25_2⟩
end Go.Proofs.Ytjjjgllbocgkbaa

namespace Go.Proofs.Ytjjjgllbocgkbaa
open Go
theorem upJ_succ (X : Fl) (k i : Nat) (row : List Int) (j : Nat) : upJ X k i row (j + 1) = (upJ X k i row j && goodP X k i j (row.getD j 0)) := all_range_succ
theorem upI_succ (X : Fl) (k : Nat) (R : List (List Int)) (i : Nat) : upI X k R (i + 1) = (upI X k R i && upJ X k i (R.getD i default) (R.getD i default).length) := all_range_succ
theorem upK_succ (X : Fl) (M : List (List (List Int))) (k : Nat) : upK X M (k + 1) = (upK X M k && upI X k (M.getD k default) (M.getD k default).length) := all_range_succ
/-- How far all is well. -/
def upA (X : Fl) (k i j : Nat) : Bool := upK X X.c.maps k && upI X k (X.c.maps.getD k default) i && upJ X k i ((X.c.maps.getD k default).getD i default) j
theorem upA_j (X : Fl) (k i j : Nat) : upA X k i (j + 1) = (upA X k i j && goodP X k i j (((X.c.maps.getD k default).getD i default).getD j 0)) := by
 unfold upA
 rw [upJ_succ, ← Bool.and_assoc]
theorem upA_i (X : Fl) (k i : Nat) : upA X k (i + 1) 0 = upA X k i ((X.c.maps.getD k default).getD i default).length := by
 unfold upA
 rw [upI_succ, show ∀ R, upJ X k (i + 1) R 0 = true from fun R => rfl, Bool.and_true, Bool.and_assoc]
theorem upA_k (X : Fl) (k : Nat) : upA X (k + 1) 0 0 = upA X k (X.c.maps.getD k default).length 0 := by
 unfold upA
 rw [upK_succ, show ∀ i R, upJ X (k + 1) i R 0 = true from fun i R => rfl, show ∀ R, upI X (k + 1) R 0 = true from fun R => rfl, show ∀ i R, upJ X k i R 0 = true from fun i R => rfl, Bool.and_true, Bool.and_true]
theorem upA_end (X : Fl) (k : Nat) : upA X k 0 0 = upK X X.c.maps k := by
 unfold upA
 rw [show ∀ i R, upJ X k i R 0 = true from fun i R => rfl, show ∀ R, upI X k R 0 = true from fun R => rfl, Bool.and_true, Bool.and_true]
theorem upA_0 (X : Fl) : upA X 0 0 0 = true := rfl
theorem isF_eq {X : Fl} (h : IsC X.c) (h1 : X.lv.length = X.c.dims.length) (h2 : ∀ n, n < X.lv.length → ((X.lv.getD n default).length : Int) = X.c.dims.getD n 0 ∧ (X.lv.getD n default).all (fun q => in3 q 0 5) = true) : upA X X.c.maps.length 0 0 = isF X := by
 rw [upA_end]
 cases e : upK X X.c.maps X.c.maps.length
 ·exact isF_no (fun q => by rw [q.up] at e; cases e)
 ·exact isF_yes ⟨h, h1, fun n hn => (h2 n hn).1, fun n hn => (h2 n hn).2, e⟩
theorem any_in3 {xs : List Int} {a b : Int} (h : xs.any (fun x => !in3 x a b) = false) : xs.all (fun x => in3 x a b) = true := by
 rw [List.any_eq_false] at h
 rw [List.all_eq_true]
 intro x hx
 have := h x hx
 simpa using this
theorem any_in3F {xs : List Int} {a b : Int} (h : xs.any (fun x => !in3 x a b) = true) : ¬ xs.all (fun x => in3 x a b) = true := by
 intro h2
 obtain ⟨x, hx, h3⟩ := List.any_eq_true.1 h
 rw [List.all_eq_true.1 h2 x hx] at h3
 cases h3

set_option maxRecDepth 100000 in
theorem iIsF_ok (vX : Value) (X : Fl) (h : Heap) (rX : RF h vX X)  : CallA Try.prog 18 #[vX] h fun v' h' => v' = .bool (isF X) ∧ Ext h h' := by
 obtain ⟨vdX, vmX, vvX, rfl, hdX, hmX, hvX⟩ := rX
 have hledX := RdS.le hdX
 have hlemX := RdS.le hmX
 have hlevX := RdS.le hvX
 refine callA_intro TTok (args := [_]) Try.func18 (by kernel_rfl) rfl 46 rfl (by simp) [.tmp 2] rfl ?_
 simp only [idxs, Nat.reduceAdd]
 refine den_seq ?_
 refine den_region TTok ?_
 intro K hK
 simp -implicitDefEqProofs (disch := first | decide | assumption | omega) only [go_sem, RdS.len hdX sl22, RdS.idx hdX sl22, R1.intB hdX (HPres.refl _), RdS.cells hdX, RdS.len hmX sl23, RdS.idx hmX sl23, RdS.cellB hmX (HPres.refl _), RdS.cells hmX, RdS.len hvX sl26, RdS.idx hvX sl26, RdS.cellB hvX (HPres.refl _), RdS.cells hvX, wrap_id]
 refine op_box (cs := #[.int .i64 (X.c.p), vdX, vmX, vvX]) rfl ?_
 intro h0_0 e0_0 hb0_0 z0_0
 have := Ext.size e0_0
 have eB := e0_0
 have hfhb0_0 : Fresh h.size [h.size] := Fresh.one _
 have hlhb0_0 := one_lt (show h.size < h0_0.size by omega)
 try simp -implicitDefEqProofs (disch := first | decide | assumption | omega) only [go_sem, RdS.len hdX sl22, RdS.idx hdX sl22, R1.intB hdX (Ext.pres eB), RdS.cells hdX, RdS.len hmX sl23, RdS.idx hmX sl23, RdS.cellB hmX (Ext.pres eB), RdS.cells hmX, RdS.len hvX sl26, RdS.idx hvX sl26, RdS.cellB hvX (Ext.pres eB), RdS.cells hvX, BoxAt.cell hb0_0, wrap_id]
 refine hK _ _ ?_
 clear hK K
 refine den_seq ?_
 refine den_region TTok ?_
 intro K hK
 simp -implicitDefEqProofs (disch := first | decide | assumption | omega) only [go_sem, fa33_0, ld31, RdS.len hdX sl22, RdS.idx hdX sl22, R1.intB hdX (Ext.pres eB), RdS.cells hdX, RdS.len hmX sl23, RdS.idx hmX sl23, RdS.cellB hmX (Ext.pres eB), RdS.cells hmX, RdS.len hvX sl26, RdS.idx hvX sl26, RdS.cellB hvX (Ext.pres eB), RdS.cells hvX, BoxAt.cell hb0_0, wrap_id]
 refine op_alloc (cs := #[.int .i64 0, .slice none 0 0, .slice none 0 0]) (by kernel_rfl) ?_
 intro h1_2 e1_2 hb1_2 z1_2
 replace hb0_0 := BoxAt.ext hb0_0 e1_2
 have := Ext.size e1_2
 replace eB := Ext.trans eB e1_2
 have hfhb1_2 : Fresh h0_0.size [h0_0.size] := Fresh.one _
 have hlhb1_2 := one_lt (show h0_0.size < h1_2.size by omega)
 try simp -implicitDefEqProofs (disch := first | decide | assumption | omega) only [go_sem, RdS.len hdX sl22, RdS.idx hdX sl22, R1.intB hdX (Ext.pres eB), RdS.cells hdX, RdS.len hmX sl23, RdS.idx hmX sl23, RdS.cellB hmX (Ext.pres eB), RdS.cells hmX, RdS.len hvX sl26, RdS.idx hvX sl26, RdS.cellB hvX (Ext.pres eB), RdS.cells hvX, BoxAt.cell hb0_0, BoxAt.cell hb1_2, wrap_id]
 refine op_storeB (cs' := #[.int .i64 (X.c.p), vdX, vmX]) st31 hb1_2 rfl rfl rfl (by simp) (allOne_mem (l := [.int .i64 (X.c.p), vdX, vmX]) ⟨rfl, (RdS.one hdX), (RdS.one hmX), trivial⟩) rfl ?_
 intro h1_3 hb1_2 c1_3
 replace hb0_0 := BoxAt.chgA hb0_0 c1_3 (apart_lt hlhb0_0 hfhb1_2 (by omega))
 have := c1_3.size
 replace eB := Ext.then eB c1_3 (ge_of hfhb1_2 (by omega))
 try simp -implicitDefEqProofs (disch := first | decide | assumption | omega) only [go_sem, RdS.len hdX sl22, RdS.idx hdX sl22, R1.intB hdX (Ext.pres eB), RdS.cells hdX, RdS.len hmX sl23, RdS.idx hmX sl23, RdS.cellB hmX (Ext.pres eB), RdS.cells hmX, RdS.len hvX sl26, RdS.idx hvX sl26, RdS.cellB hvX (Ext.pres eB), RdS.cells hvX, BoxAt.cell hb0_0, BoxAt.cell hb1_2, wrap_id]
 refine hK _ _ ?_
 clear hK K
 refine den_seq ?_
 refine den_seq ?_
 refine den_merge [(20, .bool (((!((isC X.c))) || (((X.lv).length : Int) != ((X.c.dims).length : Int)))))] [1, 3] (fun H => Ext h1_3 H) ?_ ?_
  -- a way
 ·refine den_region TTok ?_
  intro K hK
  simp -implicitDefEqProofs (disch := first | decide | assumption | (simp (disch := decide) only [slotOf_zero, slotOf_succ, Option.map_some, puts_same, puts_ne, gv_bool, gv_undef, tt, tf, ft, ff, eq_self, if_true, if_false, Bool.false_eq_true, Bool.not_true, Bool.not_false]; done) | omega) only [go_sem, ld31, RdS.len hdX sl22, RdS.idx hdX sl22, R1.intB hdX (Ext.pres eB), RdS.cells hdX, RdS.len hmX sl23, RdS.idx hmX sl23, RdS.cellB hmX (Ext.pres eB), RdS.cells hmX, RdS.len hvX sl26, RdS.idx hvX sl26, RdS.cellB hvX (Ext.pres eB), RdS.cells hvX, BoxAt.cell hb0_0, BoxAt.cell hb1_2, wrap_id]
  try simp -implicitDefEqProofs (disch := first | decide | assumption | omega) only [go_sem, RdS.len hdX sl22, RdS.idx hdX sl22, R1.intB hdX (Ext.pres eB), RdS.cells hdX, RdS.len hmX sl23, RdS.idx hmX sl23, RdS.cellB hmX (Ext.pres eB), RdS.cells hmX, RdS.len hvX sl26, RdS.idx hvX sl26, RdS.cellB hvX (Ext.pres eB), RdS.cells hvX, BoxAt.cell hb0_0, BoxAt.cell hb1_2, wrap_id]
  refine CallA.mono (iIs_ok _ X.c _ ⟨_, _, rfl, (RdS.pres hdX (Ext.pres eB)), (RdS.pres hmX (Ext.pres eB))⟩) ?_
  intro v_ h2_1
  rintro ⟨rfl, e2_1⟩
  replace hb0_0 := BoxAt.ext hb0_0 e2_1
  replace hb1_2 := BoxAt.ext hb1_2 e2_1
  have := Ext.size e2_1
  replace eB := Ext.trans eB e2_1
  try simp -implicitDefEqProofs (disch := first | decide | assumption | (simp (disch := decide) only [slotOf_zero, slotOf_succ, Option.map_some, puts_same, puts_ne, gv_bool, gv_undef, tt, tf, ft, ff, eq_self, if_true, if_false, Bool.false_eq_true, Bool.not_true, Bool.not_false]; done) | omega) only [go_sem, RdS.len hdX sl22, RdS.idx hdX sl22, R1.intB hdX (Ext.pres eB), RdS.cells hdX, RdS.len hmX sl23, RdS.idx hmX sl23, RdS.cellB hmX (Ext.pres eB), RdS.cells hmX, RdS.len hvX sl26, RdS.idx hvX sl26, RdS.cellB hvX (Ext.pres eB), RdS.cells hvX, BoxAt.cell hb0_0, BoxAt.cell hb1_2, wrap_id]
  refine opsP_F (by simp (disch := decide) only [slotOf_zero, slotOf_succ, Option.map_some, puts_same, puts_ne, gv_bool, gv_undef, tt, tf, ft, ff, eq_self, if_true, if_false, Bool.false_eq_true, Bool.not_true, Bool.not_false]; rfl) (fun g1 => ?_) (fun g1 => ?_)
  ·try simp -implicitDefEqProofs (disch := first | decide | assumption | (simp (disch := decide) only [slotOf_zero, slotOf_succ, Option.map_some, puts_same, puts_ne, gv_bool, gv_undef, tt, tf, ft, ff, eq_self, if_true, if_false, Bool.false_eq_true, Bool.not_true, Bool.not_false, g1]; done) | omega) only [go_sem, fa31_1, fa33_1, ld26, ld22, RdS.len hdX sl22, RdS.idx hdX sl22, R1.intB hdX (Ext.pres eB), RdS.cells hdX, RdS.len hmX sl23, RdS.idx hmX sl23, RdS.cellB hmX (Ext.pres eB), RdS.cells hmX, RdS.len hvX sl26, RdS.idx hvX sl26, RdS.cellB hvX (Ext.pres eB), RdS.cells hvX, BoxAt.cell hb0_0, BoxAt.cell hb1_2, wrap_id, g1, eq_self, if_true, if_false, Bool.false_eq_true]
   refine hK _ _ ?_
   clear hK K
   refine den_stop ?_
   refine ⟨?_, e2_1⟩
   first | (simp (disch := decide) only [go_sem, g1, eq_self, Bool.true_and, Bool.and_true, Bool.false_and, Bool.and_false, Bool.true_or, Bool.or_true, Bool.false_or, Bool.or_false, if_true, if_false, Bool.false_eq_true]; done) | simp [HasL, sel, puts_at, g1]
  ·try simp -implicitDefEqProofs (disch := first | decide | assumption | (simp (disch := decide) only [slotOf_zero, slotOf_succ, Option.map_some, puts_same, puts_ne, gv_bool, gv_undef, tt, tf, ft, ff, eq_self, if_true, if_false, Bool.false_eq_true, Bool.not_true, Bool.not_false, g1]; done) | omega) only [go_sem, RdS.len hdX sl22, RdS.idx hdX sl22, R1.intB hdX (Ext.pres eB), RdS.cells hdX, RdS.len hmX sl23, RdS.idx hmX sl23, RdS.cellB hmX (Ext.pres eB), RdS.cells hmX, RdS.len hvX sl26, RdS.idx hvX sl26, RdS.cellB hvX (Ext.pres eB), RdS.cells hvX, BoxAt.cell hb0_0, BoxAt.cell hb1_2, wrap_id, g1, eq_self, if_true, if_false, Bool.false_eq_true]
   refine hK _ _ ?_
   clear hK K
   refine den_stop ?_
   refine ⟨?_, e2_1⟩
   first | (simp (disch := decide) only [go_sem, g1, eq_self, Bool.true_and, Bool.and_true, Bool.false_and, Bool.and_false, Bool.true_or, Bool.or_true, Bool.false_or, Bool.or_false, if_true, if_false, Bool.false_eq_true]; done) | simp [HasL, sel, puts_at, g1]
 intro en2 h3 e4
 replace hb0_0 := BoxAt.ext hb0_0 e4
 replace hb1_2 := BoxAt.ext hb1_2 e4
 have := Ext.size e4
 replace eB := Ext.trans eB e4
 simp (disch := decide) only [go_sem]
 refine den_cond rfl (fun c0 => ?_) (fun c0 => ?_)
 ·try simp only [decide_eq_true_eq, decide_eq_false_iff_not, beq_iff_eq, beq_eq_false_iff_ne, bne_iff_ne, ne_eq, Bool.not_eq_true', Bool.not_eq_false', Bool.and_eq_true, Bool.or_eq_true, bne_eq_false_iff_eq, Bool.or_eq_false_iff, Bool.and_eq_false_iff] at c0
  refine den_seq ?_
  refine den_region TTok ?_
  intro K hK
  simp -implicitDefEqProofs (disch := first | decide | assumption | omega) only [go_sem, RdS.len hdX sl22, RdS.idx hdX sl22, R1.intB hdX (Ext.pres eB), RdS.cells hdX, RdS.len hmX sl23, RdS.idx hmX sl23, RdS.cellB hmX (Ext.pres eB), RdS.cells hmX, RdS.len hvX sl26, RdS.idx hvX sl26, RdS.cellB hvX (Ext.pres eB), RdS.cells hvX, wrap_id]
  refine hK _ _ ?_
  clear hK K
  refine den_ret ?_
  simp (disch := decide) only [resP_1, puts_same, puts_ne]
  exact ⟨vbool (isF_no (fun q => by simp [isC_t.2 q.c, q.ln] at c0)), eB⟩
 ·try simp only [decide_eq_true_eq, decide_eq_false_iff_not, beq_iff_eq, beq_eq_false_iff_ne, bne_iff_ne, ne_eq, Bool.not_eq_true', Bool.not_eq_false', Bool.and_eq_true, Bool.or_eq_true, bne_eq_false_iff_eq, Bool.or_eq_false_iff, Bool.and_eq_false_iff] at c0
  have hC := isC_t.1 c0.1
  have hlC := hC.len
  have hml := hC.ml
  refine den_skip ?_
  refine den_seq ?_
  refine den_seq ?_
  refine den_region TTok ?_
  intro K hK
  simp -implicitDefEqProofs (disch := first | decide | assumption | omega) only [go_sem, fa33_1, ld26, RdS.len hdX sl22, RdS.idx hdX sl22, R1.intB hdX (Ext.pres eB), RdS.cells hdX, RdS.len hmX sl23, RdS.idx hmX sl23, RdS.cellB hmX (Ext.pres eB), RdS.cells hmX, RdS.len hvX sl26, RdS.idx hvX sl26, RdS.cellB hvX (Ext.pres eB), RdS.cells hvX, BoxAt.cell hb0_0, BoxAt.cell hb1_2, wrap_id]
  refine hK _ _ ?_
  clear hK K
  refine den_block ?_
  refine den_sel [24, 1, 3, 22, 23] ?_
  intro env_5
  simp only [go_sem]
  refine den_loopS (σ := Nat) (fun st_ => [(24, .int .i64 (st_ : Int))]) (fun st_ H => (st_ ≤ X.lv.length) ∧ (∀ q, q < st_ → ((X.lv.getD q default).length : Int) = X.c.dims.getD q 0 ∧ (X.lv.getD q default).all (fun z => in3 z 0 5) = true) ∧ (Ext h3 H)) (fun st_ => X.lv.length - st_) 0 ?_ ?_
  ·exact ⟨by first | (simp; done) | (dsimp only; omega) | (simp; omega), by first | (simp; done) | (dsimp only; omega) | (simp; omega), Ext.refl _⟩
  ·rintro n h8 ee7 ⟨hi0, hrow, cL6⟩
   replace hb0_0 := BoxAt.ext hb0_0 cL6
   replace hb1_2 := BoxAt.ext hb1_2 cL6
   have := Ext.size cL6
   replace eB := Ext.trans eB cL6
   simp only [List.cons_append, List.nil_append]
   refine den_seq ?_
   refine den_region TTok ?_
   intro K hK
   simp -implicitDefEqProofs (disch := first | decide | assumption | omega) only [go_sem, RdS.len hdX sl22, RdS.idx hdX sl22, R1.intB hdX (Ext.pres eB), RdS.cells hdX, RdS.len hmX sl23, RdS.idx hmX sl23, RdS.cellB hmX (Ext.pres eB), RdS.cells hmX, RdS.len hvX sl26, RdS.idx hvX sl26, RdS.cellB hvX (Ext.pres eB), RdS.cells hvX, BoxAt.cell hb0_0, BoxAt.cell hb1_2, wrap_id]
   refine hK _ _ ?_
   clear hK K
   refine den_seq ?_
   refine den_cond rfl (fun c1 => ?_) (fun c1 => ?_)
   ·try simp only [decide_eq_true_eq, decide_eq_false_iff_not, beq_iff_eq, beq_eq_false_iff_ne, bne_iff_ne, ne_eq, Bool.not_eq_true', Bool.not_eq_false', Bool.and_eq_true, Bool.or_eq_true, bne_eq_false_iff_eq, Bool.or_eq_false_iff, Bool.and_eq_false_iff] at c1
    refine den_skip ?_
    refine den_seq ?_
    refine den_block ?_
    refine den_seq ?_
    refine den_region TTok ?_
    intro K hK
    have hr9 := RdS.rowN hvX n (by omega)
    have hlhr9 := RdS.le hr9
    simp -implicitDefEqProofs (disch := first | decide | assumption | omega) only [go_sem, ld22, RdS.len hdX sl22, RdS.idx hdX sl22, R1.intB hdX (Ext.pres eB), RdS.cells hdX, RdS.len hmX sl23, RdS.idx hmX sl23, RdS.cellB hmX (Ext.pres eB), RdS.cells hmX, RdS.len hvX sl26, RdS.idx hvX sl26, RdS.cellB hvX (Ext.pres eB), RdS.cells hvX, RdS.len hr9 sl22, RdS.idx hr9 sl22, R1.intB hr9 (Ext.pres eB), RdS.cells hr9, BoxAt.cell hb0_0, BoxAt.cell hb1_2, wrap_id]
    refine hK _ _ ?_
    clear hK K
    refine den_seq ?_
    refine den_merge [(40, .bool ((((((X.lv).getD n default).length : Int) != ((X.c.dims).getD n 0)) || ((X.lv.getD n default).any (fun x => !in3 x 0 5)))))] [1, 3, 22, 23, 24] (fun H => Ext h8 H) ?_ ?_
     -- a way
    ·refine den_draw TTok mixed [] [(0, true), (2, true), (3, true), (4, true), (5, true), (6, true), (1, false), (7, true), (8, true), (9, true), (10, false), (11, true)] (by kernel_rfl) ?_
     intro K hK
     simp -implicitDefEqProofs (disch := first | decide | assumption | (simp (disch := decide) only [slotOf_zero, slotOf_succ, Option.map_some, puts_same, puts_ne, gv_bool, gv_undef, tt, tf, ft, ff, eq_self, if_true, if_false, Bool.false_eq_true, Bool.not_true, Bool.not_false]; done) | omega) only [go_sem, fa31_1, ld22, ld2, RdS.len hdX sl22, RdS.idx hdX sl22, R1.intB hdX (Ext.pres eB), RdS.cells hdX, RdS.len hmX sl23, RdS.idx hmX sl23, RdS.cellB hmX (Ext.pres eB), RdS.cells hmX, RdS.len hvX sl26, RdS.idx hvX sl26, RdS.cellB hvX (Ext.pres eB), RdS.cells hvX, RdS.len hr9 sl22, RdS.idx hr9 sl22, R1.intB hr9 (Ext.pres eB), RdS.cells hr9, BoxAt.cell hb0_0, BoxAt.cell hb1_2, wrap_id]
     try simp -implicitDefEqProofs (disch := first | decide | assumption | omega) only [go_sem, RdS.len hdX sl22, RdS.idx hdX sl22, R1.intB hdX (Ext.pres eB), RdS.cells hdX, RdS.len hmX sl23, RdS.idx hmX sl23, RdS.cellB hmX (Ext.pres eB), RdS.cells hmX, RdS.len hvX sl26, RdS.idx hvX sl26, RdS.cellB hvX (Ext.pres eB), RdS.cells hvX, RdS.len hr9 sl22, RdS.idx hr9 sl22, R1.intB hr9 (Ext.pres eB), RdS.cells hr9, BoxAt.cell hb0_0, BoxAt.cell hb1_2, wrap_id]
     refine CallA.pure (size1_ok _ _ _ (RdS.pres hr9 (Ext.pres eB))) ?_
     try simp -implicitDefEqProofs (disch := first | decide | assumption | (simp (disch := decide) only [slotOf_zero, slotOf_succ, Option.map_some, puts_same, puts_ne, gv_bool, gv_undef, tt, tf, ft, ff, eq_self, if_true, if_false, Bool.false_eq_true, Bool.not_true, Bool.not_false]; done) | omega) only [go_sem, RdS.len hdX sl22, RdS.idx hdX sl22, R1.intB hdX (Ext.pres eB), RdS.cells hdX, RdS.len hmX sl23, RdS.idx hmX sl23, RdS.cellB hmX (Ext.pres eB), RdS.cells hmX, RdS.len hvX sl26, RdS.idx hvX sl26, RdS.cellB hvX (Ext.pres eB), RdS.cells hvX, RdS.len hr9 sl22, RdS.idx hr9 sl22, R1.intB hr9 (Ext.pres eB), RdS.cells hr9, BoxAt.cell hb0_0, BoxAt.cell hb1_2, wrap_id]
     refine plG_F (by simp (disch := decide) only [slotOf_zero, slotOf_succ, Option.map_some, puts_same, puts_ne, gv_bool, gv_undef, tt, tf, ft, ff, eq_self, if_true, if_false, Bool.false_eq_true, Bool.not_true, Bool.not_false]; rfl) (fun g10 => ?_) (fun g10 => ?_)
     ·try simp -implicitDefEqProofs (disch := first | decide | assumption | (simp (disch := decide) only [slotOf_zero, slotOf_succ, Option.map_some, puts_same, puts_ne, gv_bool, gv_undef, tt, tf, ft, ff, eq_self, if_true, if_false, Bool.false_eq_true, Bool.not_true, Bool.not_false, g10]; done) | omega) only [go_sem, RdS.len hdX sl22, RdS.idx hdX sl22, R1.intB hdX (Ext.pres eB), RdS.cells hdX, RdS.len hmX sl23, RdS.idx hmX sl23, RdS.cellB hmX (Ext.pres eB), RdS.cells hmX, RdS.len hvX sl26, RdS.idx hvX sl26, RdS.cellB hvX (Ext.pres eB), RdS.cells hvX, RdS.len hr9 sl22, RdS.idx hr9 sl22, R1.intB hr9 (Ext.pres eB), RdS.cells hr9, BoxAt.cell hb0_0, BoxAt.cell hb1_2, wrap_id, g10, eq_self, if_true, if_false, Bool.false_eq_true]
      try simp -implicitDefEqProofs (disch := first | decide | assumption | omega) only [go_sem, RdS.len hdX sl22, RdS.idx hdX sl22, R1.intB hdX (Ext.pres eB), RdS.cells hdX, RdS.len hmX sl23, RdS.idx hmX sl23, RdS.cellB hmX (Ext.pres eB), RdS.cells hmX, RdS.len hvX sl26, RdS.idx hvX sl26, RdS.cellB hvX (Ext.pres eB), RdS.cells hvX, RdS.len hr9 sl22, RdS.idx hr9 sl22, R1.intB hr9 (Ext.pres eB), RdS.cells hr9, BoxAt.cell hb0_0, BoxAt.cell hb1_2, wrap_id]
      refine CallA.mono (has1_ok _ (X.lv.getD n default) _ _ (fun x => !in3 x 0 5) _ (RdS.pres hr9 (Ext.pres eB)) (fun j hj h' e => by
   simp only [List.append_toArray, List.cons_append, List.nil_append]
   exact CallA.mono (isF1_ok _ _) (fun _ _ ⟨e1, e2⟩ => ⟨e1, e2 ▸ Ext.refl _⟩))) ?_
      intro v_ h7_10
      rintro ⟨rfl, e7_10⟩
      replace hb0_0 := BoxAt.ext hb0_0 e7_10
      replace hb1_2 := BoxAt.ext hb1_2 e7_10
      have := Ext.size e7_10
      replace eB := Ext.trans eB e7_10
      replace cL6 := Ext.trans cL6 e7_10
      try simp (disch := decide) only [outv_some, outv_none, put_puts]
      refine plK_pres (Ext.pres e7_10) ?_
      try simp -implicitDefEqProofs (disch := first | decide | assumption | (simp (disch := decide) only [slotOf_zero, slotOf_succ, Option.map_some, puts_same, puts_ne, gv_bool, gv_undef, tt, tf, ft, ff, eq_self, if_true, if_false, Bool.false_eq_true, Bool.not_true, Bool.not_false, g10]; done) | omega) only [go_sem, RdS.len hdX sl22, RdS.idx hdX sl22, R1.intB hdX (Ext.pres eB), RdS.cells hdX, RdS.len hmX sl23, RdS.idx hmX sl23, RdS.cellB hmX (Ext.pres eB), RdS.cells hmX, RdS.len hvX sl26, RdS.idx hvX sl26, RdS.cellB hvX (Ext.pres eB), RdS.cells hvX, RdS.len hr9 sl22, RdS.idx hr9 sl22, R1.intB hr9 (Ext.pres eB), RdS.cells hr9, BoxAt.cell hb0_0, BoxAt.cell hb1_2, wrap_id, g10, eq_self, if_true, if_false, Bool.false_eq_true]
      refine hK _ _ ?_
      clear hK K
      refine den_stop ?_
      refine ⟨?_, e7_10⟩
      first | (simp (disch := decide) only [go_sem, g10, eq_self, Bool.true_and, Bool.and_true, Bool.false_and, Bool.and_false, Bool.true_or, Bool.or_true, Bool.false_or, Bool.or_false, if_true, if_false, Bool.false_eq_true]; done) | simp [HasL, sel, puts_at, g10]
     ·try simp -implicitDefEqProofs (disch := first | decide | assumption | (simp (disch := decide) only [slotOf_zero, slotOf_succ, Option.map_some, puts_same, puts_ne, gv_bool, gv_undef, tt, tf, ft, ff, eq_self, if_true, if_false, Bool.false_eq_true, Bool.not_true, Bool.not_false, g10]; done) | omega) only [go_sem, RdS.len hdX sl22, RdS.idx hdX sl22, R1.intB hdX (Ext.pres eB), RdS.cells hdX, RdS.len hmX sl23, RdS.idx hmX sl23, RdS.cellB hmX (Ext.pres eB), RdS.cells hmX, RdS.len hvX sl26, RdS.idx hvX sl26, RdS.cellB hvX (Ext.pres eB), RdS.cells hvX, RdS.len hr9 sl22, RdS.idx hr9 sl22, R1.intB hr9 (Ext.pres eB), RdS.cells hr9, BoxAt.cell hb0_0, BoxAt.cell hb1_2, wrap_id, g10, eq_self, if_true, if_false, Bool.false_eq_true]
      refine hK _ _ ?_
      clear hK K
      refine den_stop ?_
      refine ⟨?_, Ext.refl _⟩
      first | (simp (disch := decide) only [go_sem, g10, eq_self, Bool.true_and, Bool.and_true, Bool.false_and, Bool.and_false, Bool.true_or, Bool.or_true, Bool.false_or, Bool.or_false, if_true, if_false, Bool.false_eq_true]; done) | simp [HasL, sel, puts_at, g10]
    intro en11 h12 e13
    replace hb0_0 := BoxAt.ext hb0_0 e13
    replace hb1_2 := BoxAt.ext hb1_2 e13
    have := Ext.size e13
    replace eB := Ext.trans eB e13
    replace cL6 := Ext.trans cL6 e13
    simp (disch := decide) only [go_sem]
    refine den_cond rfl (fun c2 => ?_) (fun c2 => ?_)
    ·try simp only [decide_eq_true_eq, decide_eq_false_iff_not, beq_iff_eq, beq_eq_false_iff_ne, bne_iff_ne, ne_eq, Bool.not_eq_true', Bool.not_eq_false', Bool.and_eq_true, Bool.or_eq_true, bne_eq_false_iff_eq, Bool.or_eq_false_iff, Bool.and_eq_false_iff] at c2
     refine den_seq ?_
     refine den_region TTok ?_
     intro K hK
     simp -implicitDefEqProofs (disch := first | decide | assumption | omega) only [go_sem, RdS.len hdX sl22, RdS.idx hdX sl22, R1.intB hdX (Ext.pres eB), RdS.cells hdX, RdS.len hmX sl23, RdS.idx hmX sl23, RdS.cellB hmX (Ext.pres eB), RdS.cells hmX, RdS.len hvX sl26, RdS.idx hvX sl26, RdS.cellB hvX (Ext.pres eB), RdS.cells hvX, RdS.len hr9 sl22, RdS.idx hr9 sl22, R1.intB hr9 (Ext.pres eB), RdS.cells hr9, wrap_id]
     refine hK _ _ ?_
     clear hK K
     refine den_ret ?_
     simp (disch := decide) only [resP_1, puts_same, puts_ne]
     exact ⟨vbool (isF_no (fun q => c2.elim (fun h => h (q.rl n (by omega))) (fun h => any_in3F h (q.rr n (by omega))))), eB⟩
    ·try simp only [decide_eq_true_eq, decide_eq_false_iff_not, beq_iff_eq, beq_eq_false_iff_ne, bne_iff_ne, ne_eq, Bool.not_eq_true', Bool.not_eq_false', Bool.and_eq_true, Bool.or_eq_true, bne_eq_false_iff_eq, Bool.or_eq_false_iff, Bool.and_eq_false_iff] at c2
     refine den_skip ?_
     refine den_blk ?_
     refine den_region TTok ?_
     intro K hK
     simp -implicitDefEqProofs (disch := first | decide | assumption | omega) only [go_sem, RdS.len hdX sl22, RdS.idx hdX sl22, R1.intB hdX (Ext.pres eB), RdS.cells hdX, RdS.len hmX sl23, RdS.idx hmX sl23, RdS.cellB hmX (Ext.pres eB), RdS.cells hmX, RdS.len hvX sl26, RdS.idx hvX sl26, RdS.cellB hvX (Ext.pres eB), RdS.cells hvX, RdS.len hr9 sl22, RdS.idx hr9 sl22, R1.intB hr9 (Ext.pres eB), RdS.cells hr9, BoxAt.cell hb0_0, BoxAt.cell hb1_2, wrap_id]
     refine hK _ _ ?_
     clear hK K
     refine den_stop ?_
     exact ⟨n + 1, by simp [HasL, puts_at], ⟨by first | omega | (dsimp only; omega), fun q hq => by
 by_cases hqn : q < n
 ·exact hrow q hqn
 ·rw [show q = n by omega]; exact ⟨c2.1, any_in3 c2.2⟩, cL6⟩, by first | omega | (dsimp only; omega)⟩
   ·try simp only [decide_eq_true_eq, decide_eq_false_iff_not, beq_iff_eq, beq_eq_false_iff_ne, bne_iff_ne, ne_eq, Bool.not_eq_true', Bool.not_eq_false', Bool.and_eq_true, Bool.or_eq_true, bne_eq_false_iff_eq, Bool.or_eq_false_iff, Bool.and_eq_false_iff] at c1
    refine den_exit ?_
    refine denX_code ?_
    refine denX_stop ?_
    refine denX_hit ?_
    refine den_seq ?_
    refine den_region TTok ?_
    intro K hK
    simp -implicitDefEqProofs (disch := first | decide | assumption | omega) only [go_sem, RdS.len hdX sl22, RdS.idx hdX sl22, R1.intB hdX (Ext.pres eB), RdS.cells hdX, RdS.len hmX sl23, RdS.idx hmX sl23, RdS.cellB hmX (Ext.pres eB), RdS.cells hmX, RdS.len hvX sl26, RdS.idx hvX sl26, RdS.cellB hvX (Ext.pres eB), RdS.cells hvX, BoxAt.cell hb0_0, BoxAt.cell hb1_2, wrap_id]
    refine op_alloc (cs := #[.bool false]) (by kernel_rfl) ?_
    intro h10_0 e10_0 hb10_0 z10_0
    replace hb0_0 := BoxAt.ext hb0_0 e10_0
    replace hb1_2 := BoxAt.ext hb1_2 e10_0
    have := Ext.size e10_0
    replace eB := Ext.trans eB e10_0
    have hfhb10_0 : Fresh h8.size [h8.size] := Fresh.one _
    have hlhb10_0 := one_lt (show h8.size < h10_0.size by omega)
    try simp -implicitDefEqProofs (disch := first | decide | assumption | omega) only [go_sem, RdS.len hdX sl22, RdS.idx hdX sl22, R1.intB hdX (Ext.pres eB), RdS.cells hdX, RdS.len hmX sl23, RdS.idx hmX sl23, RdS.cellB hmX (Ext.pres eB), RdS.cells hmX, RdS.len hvX sl26, RdS.idx hvX sl26, RdS.cellB hvX (Ext.pres eB), RdS.cells hvX, BoxAt.cell hb0_0, BoxAt.cell hb1_2, BoxAt.cell hb10_0, wrap_id]
    refine op_storeB (cs' := #[.bool (true)]) st4 hb10_0 rfl rfl rfl (by simp) (allOne_mem (l := [.bool (true)]) ⟨rfl, trivial⟩) rfl ?_
    intro h10_1 hb10_0 c10_1
    replace hb0_0 := BoxAt.chgA hb0_0 c10_1 (apart_lt hlhb0_0 hfhb10_0 (by omega))
    replace hb1_2 := BoxAt.chgA hb1_2 c10_1 (apart_lt hlhb1_2 hfhb10_0 (by omega))
    have := c10_1.size
    replace eB := Ext.then eB c10_1 (ge_of hfhb10_0 (by omega))
    try simp -implicitDefEqProofs (disch := first | decide | assumption | omega) only [go_sem, RdS.len hdX sl22, RdS.idx hdX sl22, R1.intB hdX (Ext.pres eB), RdS.cells hdX, RdS.len hmX sl23, RdS.idx hmX sl23, RdS.cellB hmX (Ext.pres eB), RdS.cells hmX, RdS.len hvX sl26, RdS.idx hvX sl26, RdS.cellB hvX (Ext.pres eB), RdS.cells hvX, BoxAt.cell hb0_0, BoxAt.cell hb1_2, BoxAt.cell hb10_0, wrap_id]
    refine hK _ _ ?_
    clear hK K
    refine den_seq ?_
    refine den_region TTok ?_
    intro K hK
    simp -implicitDefEqProofs (disch := first | decide | assumption | omega) only [go_sem, ld31, RdS.len hdX sl22, RdS.idx hdX sl22, R1.intB hdX (Ext.pres eB), RdS.cells hdX, RdS.len hmX sl23, RdS.idx hmX sl23, RdS.cellB hmX (Ext.pres eB), RdS.cells hmX, RdS.len hvX sl26, RdS.idx hvX sl26, RdS.cellB hvX (Ext.pres eB), RdS.cells hvX, BoxAt.cell hb0_0, BoxAt.cell hb1_2, BoxAt.cell hb10_0, wrap_id]
    try simp -implicitDefEqProofs (disch := first | decide | assumption | omega) only [go_sem, RdS.len hdX sl22, RdS.idx hdX sl22, R1.intB hdX (Ext.pres eB), RdS.cells hdX, RdS.len hmX sl23, RdS.idx hmX sl23, RdS.cellB hmX (Ext.pres eB), RdS.cells hmX, RdS.len hvX sl26, RdS.idx hvX sl26, RdS.cellB hvX (Ext.pres eB), RdS.cells hvX, BoxAt.cell hb0_0, BoxAt.cell hb1_2, BoxAt.cell hb10_0, wrap_id]
    refine CallA.mono (eachG_ok (fun k i j H => Ext h H ∧ BoxAt H (h8.size) #[.bool (upA X k i j)] 4 ∧ BoxAt H (h.size) #[.int .i64 (X.c.p), vdX, vmX, vvX] 33) [h8.size] _ _ X.c _ _ h hdX hmX _ ⟨eB, by rw [upA_0]; exact hb10_0, hb0_0⟩ (fun k i j H H' r e => ⟨r.1.trans e, BoxAt.ext r.2.1 e, BoxAt.ext r.2.2 e⟩) (fun k i j H r => r.1) (fun k H hk r => by rw [upA_k]; exact r) (fun k i H hk hi r => by rw [upA_i]; exact r) (fun b hb => by simp at hb; omega) (fun H k i j hk hi hj r => by
  simp only [List.append_toArray, List.cons_append, List.nil_append]
  have hl := up_lens hC (by omega) (fun n hn => (hrow n (by omega)).1) hk hi hj
  refine (isF2_ok X _ _ _ k i j _ _ _ _ h H hdX hmX hvX r.1 r.2.1 r.2.2 (by omega) (by omega) hl.1 hl.2.1 hl.2.2).mono (fun u H' q => ⟨⟨Ext.then r.1 q.2.2 (fun b hb => by simp at hb; omega), by rw [upA_j]; exact q.2.1, BoxAt.chgA r.2.2 q.2.2 (apart_lt hlhb0_0 hfhb10_0 (by omega))⟩, q.2.2⟩))) ?_
    intro v_ h11_2
    rintro ⟨rfl, ⟨_, hb10_0, _⟩, cg11_2⟩
    replace hb0_0 := BoxAt.chgA hb0_0 cg11_2 (apart_lt hlhb0_0 hfhb10_0 (by omega))
    replace hb1_2 := BoxAt.chgA hb1_2 cg11_2 (apart_lt hlhb1_2 hfhb10_0 (by omega))
    have := cg11_2.size
    replace eB := Ext.then eB cg11_2 (ge_of hfhb10_0 (by omega))
    try simp -implicitDefEqProofs (disch := first | decide | assumption | omega) only [go_sem, RdS.len hdX sl22, RdS.idx hdX sl22, R1.intB hdX (Ext.pres eB), RdS.cells hdX, RdS.len hmX sl23, RdS.idx hmX sl23, RdS.cellB hmX (Ext.pres eB), RdS.cells hmX, RdS.len hvX sl26, RdS.idx hvX sl26, RdS.cellB hvX (Ext.pres eB), RdS.cells hvX, BoxAt.cell hb0_0, BoxAt.cell hb1_2, BoxAt.cell hb10_0, wrap_id]
    refine hK _ _ ?_
    clear hK K
    refine den_seq ?_
    refine den_region TTok ?_
    intro K hK
    simp -implicitDefEqProofs (disch := first | decide | assumption | omega) only [go_sem, ld4, RdS.len hdX sl22, RdS.idx hdX sl22, R1.intB hdX (Ext.pres eB), RdS.cells hdX, RdS.len hmX sl23, RdS.idx hmX sl23, RdS.cellB hmX (Ext.pres eB), RdS.cells hmX, RdS.len hvX sl26, RdS.idx hvX sl26, RdS.cellB hvX (Ext.pres eB), RdS.cells hvX, BoxAt.cell hb10_0, wrap_id]
    refine hK _ _ ?_
    clear hK K
    refine den_ret ?_
    simp (disch := decide) only [resP_1, puts_same, puts_ne]
    rw [isF_eq hC (by omega) (fun n hn => hrow n (by omega))]
    exact ⟨by first | rfl | trivial, eB⟩
end Go.Proofs.Ytjjjgllbocgkbaa

namespace Go.Proofs.Ytjjjgllbocgkbaa
open Go
def mapP (X : Cx) (n : Int) : List (List Int) := if in3 n 1 ((X.dims.length : Int) - 1) = true then X.maps.getD (n - 1).toNat default else List.replicate (dimP X n).toNat []
theorem mapP_ok {X : Cx} (hC : IsC X) {n : Int} (h0 : 0 ≤ n) (h1 : n ≤ (X.dims.length : Int) - 1) : ((mapP X n).length : Int) = X.dims.getD n.toNat 0 ∧ Tbl X.p (dimP X (n - 1)) (mapP X n) := by
 by_cases hn : 1 ≤ n
 ·obtain ⟨d, l, t⟩ := hC.pre.app (n := n) (by omega) h1
  rw [mapP, if_pos (in3_iff.2 ⟨hn, h1⟩), dimP, if_pos (in3_iff.2 ⟨by omega, by omega⟩)]
  exact ⟨l, t⟩
 ·have e : n = 0 := by omega
  subst e
  have d := dimP_bnd hC 0
  have d0 : dimP X 0 = X.dims.getD (0 : Int).toNat 0 := by rw [dimP, if_pos (in3_iff.2 ⟨by omega, by omega⟩)]
  rw [mapP, if_neg (by rw [in3_iff]; omega), dimP_out (n := 0 - 1) (by omega)]
  refine ⟨by rw [List.length_replicate]; omega, fun r hr => ?_⟩
  rw [List.eq_of_mem_replicate hr]
  exact ⟨rfl, fun x hx => by cases hx⟩
set_option maxRecDepth 100000 in
theorem sMap_ok (vX : Value) (X : Cx) (n : Int) (h : Heap) (rX : RC h vX X) (hC : IsC X) : CallA Try.prog 80 #[vX, .int .i64 n] h fun v' h' => ∃ w0, v' = w0 ∧ R2 h' w0 (mapP X n) ∧ Ext h h' := by
 obtain ⟨vdX, vmX, rfl, hdX, hmX⟩ := rX
 have hledX := RdS.le hdX
 have hlemX := RdS.le hmX
 have hml := hC.ml
 have hdb := dimP_bnd hC n
 refine callA_intro TTok (args := [_, _]) Try.func80 (by kernel_rfl) rfl 32 rfl (by simp) [.tmp 4] rfl ?_
 simp only [idxs, Nat.reduceAdd]
 refine den_seq ?_
 refine den_region TTok ?_
 intro K hK
 simp -implicitDefEqProofs (disch := first | decide | assumption | omega) only [go_sem, RdS.len hdX sl22, RdS.idx hdX sl22, R1.intB hdX (HPres.refl _), RdS.cells hdX, RdS.len hmX sl23, RdS.idx hmX sl23, RdS.cellB hmX (HPres.refl _), RdS.cells hmX, wrap_id]
 refine op_box (cs := #[.int .i64 (X.p), vdX, vmX]) rfl ?_
 intro h0_0 e0_0 hb0_0 z0_0
 have := Ext.size e0_0
 have eB := e0_0
 have hfhb0_0 : Fresh h.size [h.size] := Fresh.one _
 have hlhb0_0 := one_lt (show h.size < h0_0.size by omega)
 try simp -implicitDefEqProofs (disch := first | decide | assumption | omega) only [go_sem, RdS.len hdX sl22, RdS.idx hdX sl22, R1.intB hdX (Ext.pres eB), RdS.cells hdX, RdS.len hmX sl23, RdS.idx hmX sl23, RdS.cellB hmX (Ext.pres eB), RdS.cells hmX, BoxAt.cell hb0_0, wrap_id]
 refine hK _ _ ?_
 clear hK K
 refine den_seq ?_
 refine den_seq ?_
 refine den_region TTok ?_
 intro K hK
 simp -implicitDefEqProofs (disch := first | decide | assumption | omega) only [go_sem, fa31_1, ld22, RdS.len hdX sl22, RdS.idx hdX sl22, R1.intB hdX (Ext.pres eB), RdS.cells hdX, RdS.len hmX sl23, RdS.idx hmX sl23, RdS.cellB hmX (Ext.pres eB), RdS.cells hmX, BoxAt.cell hb0_0, wrap_id]
 try simp -implicitDefEqProofs (disch := first | decide | assumption | omega) only [go_sem, RdS.len hdX sl22, RdS.idx hdX sl22, R1.intB hdX (Ext.pres eB), RdS.cells hdX, RdS.len hmX sl23, RdS.idx hmX sl23, RdS.cellB hmX (Ext.pres eB), RdS.cells hmX, BoxAt.cell hb0_0, wrap_id]
 refine CallA.pure (sIn_ok _ _ _ _) ?_
 try simp -implicitDefEqProofs (disch := first | decide | assumption | omega) only [go_sem, RdS.len hdX sl22, RdS.idx hdX sl22, R1.intB hdX (Ext.pres eB), RdS.cells hdX, RdS.len hmX sl23, RdS.idx hmX sl23, RdS.cellB hmX (Ext.pres eB), RdS.cells hmX, BoxAt.cell hb0_0, wrap_id]
 refine hK _ _ ?_
 clear hK K
 refine den_cond rfl (fun c0 => ?_) (fun c0 => ?_)
 ·try simp only [decide_eq_true_eq, decide_eq_false_iff_not, beq_iff_eq, beq_eq_false_iff_ne, bne_iff_ne, ne_eq, Bool.not_eq_true', Bool.not_eq_false', Bool.and_eq_true, Bool.or_eq_true, bne_eq_false_iff_eq, in3_iff, in3_f] at c0
  refine den_seq ?_
  refine den_region TTok ?_
  intro K hK
  have hr1 := RdS.rowN hmX ((n - (1 : Int))).toNat (by omega)
  have hlhr1 := RdS.le hr1
  simp -implicitDefEqProofs (disch := first | decide | assumption | omega) only [go_sem, fa31_2, ld23, ld26, RdS.len hdX sl22, RdS.idx hdX sl22, R1.intB hdX (Ext.pres eB), RdS.cells hdX, RdS.len hmX sl23, RdS.idx hmX sl23, RdS.cellB hmX (Ext.pres eB), RdS.cells hmX, RdS.len hr1 sl26, RdS.idx hr1 sl26, RdS.cellB hr1 (Ext.pres eB), RdS.cells hr1, BoxAt.cell hb0_0, wrap_id]
  refine hK _ _ ?_
  clear hK K
  refine den_ret ?_
  simp (disch := decide) only [resP_1, puts_same, puts_ne]
  exact ⟨_, rfl, by rw [mapP, if_pos (in3_iff.2 c0)]; exact RdS.pres (RdS.rowN hmX _ (by omega)) (Ext.pres eB), eB⟩
 ·try simp only [decide_eq_true_eq, decide_eq_false_iff_not, beq_iff_eq, beq_eq_false_iff_ne, bne_iff_ne, ne_eq, Bool.not_eq_true', Bool.not_eq_false', Bool.and_eq_true, Bool.or_eq_true, bne_eq_false_iff_eq, in3_iff, in3_f] at c0
  refine den_skip ?_
  refine den_seq ?_
  refine den_region TTok ?_
  intro K hK
  simp -implicitDefEqProofs (disch := first | decide | assumption | omega) only [go_sem, RdS.len hdX sl22, RdS.idx hdX sl22, R1.intB hdX (Ext.pres eB), RdS.cells hdX, RdS.len hmX sl23, RdS.idx hmX sl23, RdS.cellB hmX (Ext.pres eB), RdS.cells hmX, BoxAt.cell hb0_0, wrap_id]
  refine op_bs0 sz26 O1 ?_
  intro v3_0 h3_0 ho3_0 e3_0
  replace hb0_0 := BoxAt.ext hb0_0 e3_0
  have := Ext.size e3_0
  replace eB := Ext.trans eB e3_0
  have hfho3_0 : Fresh h0_0.size [h0_0.size] := Fresh.one _
  have hlho3_0 := OS.lt ho3_0
  try simp -implicitDefEqProofs (disch := first | decide | assumption | omega) only [go_sem, RdS.len hdX sl22, RdS.idx hdX sl22, R1.intB hdX (Ext.pres eB), RdS.cells hdX, RdS.len hmX sl23, RdS.idx hmX sl23, RdS.cellB hmX (Ext.pres eB), RdS.cells hmX, RdS.len (OS.rd ho3_0) sl26, RdS.idx (OS.rd ho3_0) sl26, RdS.cellN (OS.rd ho3_0), RdS.cells (OS.rd ho3_0), BoxAt.cell hb0_0, wrap_id]
  refine hK _ _ ?_
  clear hK K
  refine den_seq ?_
  refine den_seq ?_
  refine den_region TTok ?_
  intro K hK
  simp -implicitDefEqProofs (disch := first | decide | assumption | omega) only [go_sem, RdS.len hdX sl22, RdS.idx hdX sl22, R1.intB hdX (Ext.pres eB), RdS.cells hdX, RdS.len hmX sl23, RdS.idx hmX sl23, RdS.cellB hmX (Ext.pres eB), RdS.cells hmX, RdS.len (OS.rd ho3_0) sl26, RdS.idx (OS.rd ho3_0) sl26, RdS.cellN (OS.rd ho3_0), RdS.cells (OS.rd ho3_0), BoxAt.cell hb0_0, wrap_id]
  refine hK _ _ ?_
  clear hK K
  refine den_block ?_
  refine den_sel [5, 6, 1, 2] ?_
  intro env_2
  simp only [go_sem]
  refine den_loopS (σ := Nat × Value × List Nat) (fun st_ => [(5, st_.2.1), (6, .int .i64 (st_.1 : Int))]) (fun st_ H => ((st_.1 : Int) ≤ dimP X n) ∧ (O2 H st_.2.1 (List.replicate st_.1 []) st_.2.2) ∧ (Fresh (h0_0.size) st_.2.2) ∧ (Sub [h0_0.size] h3_0.size st_.2.2) ∧ (Chg [h0_0.size] h3_0 H)) (fun st_ => (dimP X n).toNat - st_.1) (0, v3_0, [h0_0.size]) ?_ ?_
  ·exact ⟨by first | (simp; done) | (dsimp only; omega) | (simp; omega), by simpa using ho3_0, hfho3_0, Sub.refl, Chg.refl _ _⟩
  ·rintro ⟨k, vhI, fphI⟩ h5 ee4 ⟨hi0, hI, hfhI, sbhI, cL3⟩
   dsimp only at hi0 hI hfhI sbhI cL3
   replace hb0_0 := BoxAt.chgA hb0_0 cL3 (apart_lt hlhb0_0 hfho3_0 (by omega))
   have := cL3.size
   replace eB := Ext.then eB cL3 (ge_of hfho3_0 (by omega))
   have hlhI := OS.lt hI
   simp only [List.cons_append, List.nil_append]
   have hlr : (List.replicate k ([] : List Int)).length = k := List.length_replicate
   refine den_seq ?_
   refine den_seq ?_
   refine den_region TTok ?_
   intro K hK
   simp -implicitDefEqProofs (disch := first | decide | assumption | omega) only [go_sem, ld31, RdS.len hdX sl22, RdS.idx hdX sl22, R1.intB hdX (Ext.pres eB), RdS.cells hdX, RdS.len hmX sl23, RdS.idx hmX sl23, RdS.cellB hmX (Ext.pres eB), RdS.cells hmX, RdS.len (OS.rd hI) sl26, RdS.idx (OS.rd hI) sl26, RdS.cellN (OS.rd hI), RdS.cells (OS.rd hI), BoxAt.cell hb0_0, wrap_id]
   try simp -implicitDefEqProofs (disch := first | decide | assumption | omega) only [go_sem, RdS.len hdX sl22, RdS.idx hdX sl22, R1.intB hdX (Ext.pres eB), RdS.cells hdX, RdS.len hmX sl23, RdS.idx hmX sl23, RdS.cellB hmX (Ext.pres eB), RdS.cells hmX, RdS.len (OS.rd hI) sl26, RdS.idx (OS.rd hI) sl26, RdS.cellN (OS.rd hI), RdS.cells (OS.rd hI), BoxAt.cell hb0_0, wrap_id]
   refine CallA.mono (sDim_ok _ X _ _ ⟨_, _, rfl, (RdS.pres hdX (Ext.pres eB)), (RdS.pres hmX (Ext.pres eB))⟩) ?_
   intro v_ h5_3
   rintro ⟨rfl, e5_3⟩
   replace hI := OS.ext hI e5_3
   replace hb0_0 := BoxAt.ext hb0_0 e5_3
   have := Ext.size e5_3
   replace eB := Ext.trans eB e5_3
   replace cL3 := Chg.stepE cL3 e5_3
   try simp -implicitDefEqProofs (disch := first | decide | assumption | omega) only [go_sem, RdS.len hdX sl22, RdS.idx hdX sl22, R1.intB hdX (Ext.pres eB), RdS.cells hdX, RdS.len hmX sl23, RdS.idx hmX sl23, RdS.cellB hmX (Ext.pres eB), RdS.cells hmX, RdS.len (OS.rd hI) sl26, RdS.idx (OS.rd hI) sl26, RdS.cellN (OS.rd hI), RdS.cells (OS.rd hI), BoxAt.cell hb0_0, wrap_id]
   refine hK _ _ ?_
   clear hK K
   refine den_cond rfl (fun c1 => ?_) (fun c1 => ?_)
   ·try simp only [decide_eq_true_eq, decide_eq_false_iff_not, beq_iff_eq, beq_eq_false_iff_ne, bne_iff_ne, ne_eq, Bool.not_eq_true', Bool.not_eq_false', Bool.and_eq_true, Bool.or_eq_true, bne_eq_false_iff_eq, in3_iff, in3_f] at c1
    refine den_skip ?_
    refine den_seq ?_
    refine den_block ?_
    refine den_region TTok ?_
    intro K hK
    simp -implicitDefEqProofs (disch := first | decide | assumption | omega) only [go_sem, RdS.len hdX sl22, RdS.idx hdX sl22, R1.intB hdX (Ext.pres eB), RdS.cells hdX, RdS.len hmX sl23, RdS.idx hmX sl23, RdS.cellB hmX (Ext.pres eB), RdS.cells hmX, RdS.len (OS.rd hI) sl26, RdS.idx (OS.rd hI) sl26, RdS.cellN (OS.rd hI), RdS.cells (OS.rd hI), BoxAt.cell hb0_0, wrap_id]
    refine op_bs0 sz22 OI ?_
    intro v7_1 h7_1 ho7_1 e7_1
    replace hI := OS.ext hI e7_1
    replace hb0_0 := BoxAt.ext hb0_0 e7_1
    have := Ext.size e7_1
    replace eB := Ext.trans eB e7_1
    replace cL3 := Chg.stepE cL3 e7_1
    have hfho7_1 : Fresh h5_3.size [h5_3.size] := Fresh.one _
    have hlho7_1 := OS.lt ho7_1
    try simp -implicitDefEqProofs (disch := first | decide | assumption | omega) only [go_sem, RdS.len hdX sl22, RdS.idx hdX sl22, R1.intB hdX (Ext.pres eB), RdS.cells hdX, RdS.len hmX sl23, RdS.idx hmX sl23, RdS.cellB hmX (Ext.pres eB), RdS.cells hmX, RdS.len (OS.rd hI) sl26, RdS.idx (OS.rd hI) sl26, RdS.cellN (OS.rd hI), RdS.cells (OS.rd hI), RdS.len (OS.rd ho7_1) sl22, RdS.idx (OS.rd ho7_1) sl22, R1.intN (OS.rd ho7_1), RdS.cells (OS.rd ho7_1), BoxAt.cell hb0_0, wrap_id]
    refine op_bs1 sz26 rfl (OS.one ho7_1).2 ?_
    try simp -implicitDefEqProofs (disch := first | decide | assumption | omega) only [go_sem, RdS.len hdX sl22, RdS.idx hdX sl22, R1.intB hdX (Ext.pres eB), RdS.cells hdX, RdS.len hmX sl23, RdS.idx hmX sl23, RdS.cellB hmX (Ext.pres eB), RdS.cells hmX, RdS.len (OS.rd hI) sl26, RdS.idx (OS.rd hI) sl26, RdS.cellN (OS.rd hI), RdS.cells (OS.rd hI), RdS.len (OS.rd ho7_1) sl22, RdS.idx (OS.rd ho7_1) sl22, R1.intN (OS.rd ho7_1), RdS.cells (OS.rd ho7_1), BoxAt.cell hb0_0, wrap_id]
    refine op_append1 sz26 hI hfhI.nodup ho7_1 hfho7_1.nodup (apart_lt hlhI hfho7_1 (by omega)) (by first | omega | (simp; omega)) rfl rfl ?_
    intro v7_3 h7_3 fp7_3 ho7_3 hn7_3 hs7_3 c7_3
    have hsz7_3 := c7_3.size
    have hfho7_3 : Fresh h0_0.size fp7_3 := Fresh.appd hfhI hfho7_1 (by omega) (by omega) hn7_3 hs7_3
    have sb6 : Sub [h0_0.size] h3_0.size fp7_3 := Sub.grow sbhI (Sub.fresh hfho7_1 (by omega)) (by omega) hs7_3
    replace hb0_0 := BoxAt.chgA hb0_0 c7_3 (apart_lt hlhb0_0 hfhI (by omega))
    have := c7_3.size
    replace eB := Ext.then eB c7_3 (ge_of hfhI (by omega))
    replace cL3 := Chg.step cL3 c7_3 sbhI
    have hlho7_3 := OS.lt ho7_3
    try simp -implicitDefEqProofs (disch := first | decide | assumption | omega) only [go_sem, RdS.len hdX sl22, RdS.idx hdX sl22, R1.intB hdX (Ext.pres eB), RdS.cells hdX, RdS.len hmX sl23, RdS.idx hmX sl23, RdS.cellB hmX (Ext.pres eB), RdS.cells hmX, RdS.len (OS.rd ho7_3) sl26, RdS.idx (OS.rd ho7_3) sl26, RdS.cellN (OS.rd ho7_3), RdS.cells (OS.rd ho7_3), BoxAt.cell hb0_0, wrap_id]
    refine hK _ _ ?_
    clear hK K
    refine den_blk ?_
    refine den_region TTok ?_
    intro K hK
    simp -implicitDefEqProofs (disch := first | decide | assumption | omega) only [go_sem, RdS.len hdX sl22, RdS.idx hdX sl22, R1.intB hdX (Ext.pres eB), RdS.cells hdX, RdS.len hmX sl23, RdS.idx hmX sl23, RdS.cellB hmX (Ext.pres eB), RdS.cells hmX, RdS.len (OS.rd ho7_3) sl26, RdS.idx (OS.rd ho7_3) sl26, RdS.cellN (OS.rd ho7_3), RdS.cells (OS.rd ho7_3), BoxAt.cell hb0_0, wrap_id]
    refine hK _ _ ?_
    clear hK K
    refine den_stop ?_
    rw [← List.replicate_succ'] at ho7_3
    exact ⟨(k + 1, v7_3, fp7_3), by simp [HasL, puts_at], ⟨by first | omega | (dsimp only; omega), ho7_3, hfho7_3, sb6, cL3⟩, by first | omega | (dsimp only; omega)⟩
   ·try simp only [decide_eq_true_eq, decide_eq_false_iff_not, beq_iff_eq, beq_eq_false_iff_ne, bne_iff_ne, ne_eq, Bool.not_eq_true', Bool.not_eq_false', Bool.and_eq_true, Bool.or_eq_true, bne_eq_false_iff_eq, in3_iff, in3_f] at c1
    refine den_exit ?_
    refine denX_code ?_
    refine denX_stop ?_
    refine denX_hit ?_
    refine den_seq ?_
    refine den_region TTok ?_
    intro K hK
    simp -implicitDefEqProofs (disch := first | decide | assumption | omega) only [go_sem, RdS.len hdX sl22, RdS.idx hdX sl22, R1.intB hdX (Ext.pres eB), RdS.cells hdX, RdS.len hmX sl23, RdS.idx hmX sl23, RdS.cellB hmX (Ext.pres eB), RdS.cells hmX, RdS.len (OS.rd hI) sl26, RdS.idx (OS.rd hI) sl26, RdS.cellN (OS.rd hI), RdS.cells (OS.rd hI), wrap_id]
    refine hK _ _ ?_
    clear hK K
    refine den_ret ?_
    simp (disch := decide) only [resP_1, puts_same, puts_ne]
    have e : (dimP X n).toNat = k := by omega
    exact ⟨_, rfl, by rw [mapP, if_neg (by rw [in3_iff]; omega), e]; exact OS.rd hI, eB⟩
end Go.Proofs.Ytjjjgllbocgkbaa

namespace Go.Proofs.Ytjjjgllbocgkbaa
open Go
/-- What stands at an entry within the whole. -/
theorem up_at {X : Fl} (h : upK X X.c.maps X.c.maps.length = true) {k i j : Nat} (hk : k < X.c.maps.length) (hi : i < (X.c.maps.getD k default).length) (hj : j < ((X.c.maps.getD k default).getD i default).length) : goodP X k i j (((X.c.maps.getD k default).getD i default).getD j 0) = true :=
 all_range_t.1 (all_range_t.1 (all_range_t.1 h k hk) i hi) j hj
theorem up_all {X : Fl} (h : ∀ k i j, k < X.c.maps.length → i < (X.c.maps.getD k default).length → j < ((X.c.maps.getD k default).getD i default).length → goodP X k i j (((X.c.maps.getD k default).getD i default).getD j 0) = true) : upK X X.c.maps X.c.maps.length = true :=
 all_range_t.2 fun k hk => all_range_t.2 fun i hi => all_range_t.2 fun j hj => h k i j hk hi hj
theorem mapP_q {X : Cx} (hC : IsC X) {n : Nat} (h1 : 1 ≤ n) (h2 : n < X.dims.length) : mapP X (n : Int) = X.maps.getD (n - 1) default := by
 have hm := hC.ml
 rw [mapP, if_pos (in3_iff.2 ⟨by omega, by omega⟩), show ((n : Int) - 1).toNat = n - 1 by omega]
/-- Entry j of row i of the map of degree n is no fault. -/
def gdN (X : Fl) (n i j : Nat) : Prop := ((mapP X.c (n : Int)).getD i default).getD j 0 = 0 ∨ lvP X ((n : Int) - 1) (j : Int) ≤ lvP X (n : Int) (i : Int)
theorem gdN_good {X : Fl} (hC : IsC X.c) {k i j : Nat} (h : k + 1 < X.c.dims.length) (g : gdN X (k + 1) i j) : goodP X k i j (((X.c.maps.getD k default).getD i default).getD j 0) = true := by
 unfold gdN at g
 rw [mapP_q hC (by omega) h, show ((k + 1 : Nat) : Int) - 1 = (k : Int) by omega, show k + 1 - 1 = k by omega, show ((k + 1 : Nat) : Int) = (k : Int) + 1 by omega] at g
 unfold goodP
 rw [Bool.or_eq_true, beq_iff_eq, decide_eq_true_eq]
 exact g
theorem isF_sp {X : Fl} (h : IsC X.c) (h1 : X.lv.length = X.c.dims.length) (h2 : ∀ n, n < X.lv.length → ((X.lv.getD n default).length : Int) = X.c.dims.getD n 0 ∧ (X.lv.getD n default).all (fun q => in3 q 0 5) = true) (h3 : ∀ n : Nat, 1 ≤ n → n < X.lv.length → ∀ i, i < (mapP X.c (n : Int)).length → ∀ j, j < ((mapP X.c (n : Int)).getD i default).length → gdN X n i j) : IsF X :=
 ⟨h, h1, fun n hn => (h2 n hn).1, fun n hn => (h2 n hn).2, up_all fun k i j hk hi hj => by
  have hm := h.ml
  have e := mapP_q h (n := k + 1) (by omega) (by omega)
  rw [show k + 1 - 1 = k by omega] at e
  exact gdN_good h (by omega) (h3 (k + 1) (by omega) (by omega) i (by rw [e]; exact hi) j (by rw [e]; exact hj))⟩
theorem isF_gd {X : Fl} (h : IsF X) {n i j : Nat} (h1 : 1 ≤ n) (h2 : n < X.lv.length) (hi : i < (mapP X.c (n : Int)).length) (hj : j < ((mapP X.c (n : Int)).getD i default).length) : gdN X n i j := by
 have hm := h.c.ml
 have hl := h.ln
 have e := mapP_q h.c (n := n) (by omega) (by omega)
 rw [e] at hi hj
 have g := up_at h.up (k := n - 1) (i := i) (j := j) (by omega) hi hj
 unfold gdN
 unfold goodP at g
 rw [Bool.or_eq_true, beq_iff_eq, decide_eq_true_eq, show ((n - 1 : Nat) : Int) = (n : Int) - 1 by omega, show (n : Int) - 1 + 1 = n by omega] at g
 rw [e]
 exact g

set_option maxRecDepth 100000 in
theorem sLev_ok (vX : Value) (X : Fl) (n : Int) (i : Int) (h : Heap) (rX : RF h vX X) (hn : 0 ≤ n ∧ n < X.lv.length) (hi : 0 ≤ i ∧ i < (X.lv.getD n.toNat default).length) : CallA Try.prog 79 #[vX, .int .i64 n, .int .i64 i] h fun v' h' => v' = .int .i64 (lvP X n i) ∧ Ext h h' := by
 obtain ⟨vdX, vmX, vvX, rfl, hdX, hmX, hvX⟩ := rX
 have hledX := RdS.le hdX
 have hlemX := RdS.le hmX
 have hlevX := RdS.le hvX
 refine callA_intro TTok (args := [_, _, _]) Try.func79 (by kernel_rfl) rfl 15 rfl (by simp) [.tmp 6] rfl ?_
 simp only [idxs, Nat.reduceAdd]
 refine den_seq ?_
 refine den_region TTok ?_
 intro K hK
 simp -implicitDefEqProofs (disch := first | decide | assumption | omega) only [go_sem, RdS.len hdX sl22, RdS.idx hdX sl22, R1.intB hdX (HPres.refl _), RdS.cells hdX, RdS.len hmX sl23, RdS.idx hmX sl23, RdS.cellB hmX (HPres.refl _), RdS.cells hmX, RdS.len hvX sl26, RdS.idx hvX sl26, RdS.cellB hvX (HPres.refl _), RdS.cells hvX, wrap_id]
 refine op_box (cs := #[.int .i64 (X.c.p), vdX, vmX, vvX]) rfl ?_
 intro h0_0 e0_0 hb0_0 z0_0
 have := Ext.size e0_0
 have eB := e0_0
 have hfhb0_0 : Fresh h.size [h.size] := Fresh.one _
 have hlhb0_0 := one_lt (show h.size < h0_0.size by omega)
 try simp -implicitDefEqProofs (disch := first | decide | assumption | omega) only [go_sem, RdS.len hdX sl22, RdS.idx hdX sl22, R1.intB hdX (Ext.pres eB), RdS.cells hdX, RdS.len hmX sl23, RdS.idx hmX sl23, RdS.cellB hmX (Ext.pres eB), RdS.cells hmX, RdS.len hvX sl26, RdS.idx hvX sl26, RdS.cellB hvX (Ext.pres eB), RdS.cells hvX, BoxAt.cell hb0_0, wrap_id]
 refine hK _ _ ?_
 clear hK K
 refine den_seq ?_
 refine den_region TTok ?_
 intro K hK
 have hr1 := RdS.rowN hvX (n).toNat (by omega)
 have hlhr1 := RdS.le hr1
 simp -implicitDefEqProofs (disch := first | decide | assumption | omega) only [go_sem, fa33_1, ld26, ld22, ld2, RdS.len hdX sl22, RdS.idx hdX sl22, R1.intB hdX (Ext.pres eB), RdS.cells hdX, RdS.len hmX sl23, RdS.idx hmX sl23, RdS.cellB hmX (Ext.pres eB), RdS.cells hmX, RdS.len hvX sl26, RdS.idx hvX sl26, RdS.cellB hvX (Ext.pres eB), RdS.cells hvX, RdS.len hr1 sl22, RdS.idx hr1 sl22, R1.intB hr1 (Ext.pres eB), RdS.cells hr1, BoxAt.cell hb0_0, wrap_id]
 refine hK _ _ ?_
 clear hK K
 refine den_ret ?_
 simp (disch := decide) only [resP_1, puts_same, puts_ne]
 exact ⟨by first | rfl | trivial, eB⟩

set_option maxRecDepth 100000 in
set_option maxHeartbeats 4000000 in
theorem sIsF_ok (vX : Value) (X : Fl) (h : Heap) (rX : RF h vX X)  : CallA Try.prog 68 #[vX] h fun v' h' => v' = .bool (isF X) ∧ Ext h h' := by
 obtain ⟨vdX, vmX, vvX, rfl, hdX, hmX, hvX⟩ := rX
 have hledX := RdS.le hdX
 have hlemX := RdS.le hmX
 have hlevX := RdS.le hvX
 refine callA_intro TTok (args := [_]) Try.func68 (by kernel_rfl) rfl 109 rfl (by simp) [.tmp 2] rfl ?_
 simp only [idxs, Nat.reduceAdd]
 refine den_seq ?_
 refine den_region TTok ?_
 intro K hK
 simp -implicitDefEqProofs (disch := first | decide | assumption | omega) only [go_sem, RdS.len hdX sl22, RdS.idx hdX sl22, R1.intB hdX (HPres.refl _), RdS.cells hdX, RdS.len hmX sl23, RdS.idx hmX sl23, RdS.cellB hmX (HPres.refl _), RdS.cells hmX, RdS.len hvX sl26, RdS.idx hvX sl26, RdS.cellB hvX (HPres.refl _), RdS.cells hvX, wrap_id]
 refine op_box (cs := #[.int .i64 (X.c.p), vdX, vmX, vvX]) rfl ?_
 intro h0_0 e0_0 hb0_0 z0_0
 have := Ext.size e0_0
 have eB := e0_0
 have hfhb0_0 : Fresh h.size [h.size] := Fresh.one _
 have hlhb0_0 := one_lt (show h.size < h0_0.size by omega)
 try simp -implicitDefEqProofs (disch := first | decide | assumption | omega) only [go_sem, RdS.len hdX sl22, RdS.idx hdX sl22, R1.intB hdX (Ext.pres eB), RdS.cells hdX, RdS.len hmX sl23, RdS.idx hmX sl23, RdS.cellB hmX (Ext.pres eB), RdS.cells hmX, RdS.len hvX sl26, RdS.idx hvX sl26, RdS.cellB hvX (Ext.pres eB), RdS.cells hvX, BoxAt.cell hb0_0, wrap_id]
 refine hK _ _ ?_
 clear hK K
 refine den_seq ?_
 refine den_seq ?_
 refine den_merge [(22, .bool (((!((isC X.c))) || (((X.lv).length : Int) != ((X.c.dims).length : Int)))))] [1] (fun H => Ext h0_0 H) ?_ ?_
  -- a way
 ·refine den_region TTok ?_
  intro K hK
  simp -implicitDefEqProofs (disch := first | decide | assumption | (simp (disch := decide) only [slotOf_zero, slotOf_succ, Option.map_some, puts_same, puts_ne, gv_bool, gv_undef, tt, tf, ft, ff, eq_self, if_true, if_false, Bool.false_eq_true, Bool.not_true, Bool.not_false]; done) | omega) only [go_sem, fa33_0, ld31, RdS.len hdX sl22, RdS.idx hdX sl22, R1.intB hdX (Ext.pres eB), RdS.cells hdX, RdS.len hmX sl23, RdS.idx hmX sl23, RdS.cellB hmX (Ext.pres eB), RdS.cells hmX, RdS.len hvX sl26, RdS.idx hvX sl26, RdS.cellB hvX (Ext.pres eB), RdS.cells hvX, BoxAt.cell hb0_0, wrap_id]
  try simp -implicitDefEqProofs (disch := first | decide | assumption | omega) only [go_sem, RdS.len hdX sl22, RdS.idx hdX sl22, R1.intB hdX (Ext.pres eB), RdS.cells hdX, RdS.len hmX sl23, RdS.idx hmX sl23, RdS.cellB hmX (Ext.pres eB), RdS.cells hmX, RdS.len hvX sl26, RdS.idx hvX sl26, RdS.cellB hvX (Ext.pres eB), RdS.cells hvX, BoxAt.cell hb0_0, wrap_id]
  refine CallA.mono (sIs_ok _ X.c _ ⟨_, _, rfl, (RdS.pres hdX (Ext.pres eB)), (RdS.pres hmX (Ext.pres eB))⟩) ?_
  intro v_ h1_2
  rintro ⟨rfl, e1_2⟩
  replace hb0_0 := BoxAt.ext hb0_0 e1_2
  have := Ext.size e1_2
  replace eB := Ext.trans eB e1_2
  try simp -implicitDefEqProofs (disch := first | decide | assumption | (simp (disch := decide) only [slotOf_zero, slotOf_succ, Option.map_some, puts_same, puts_ne, gv_bool, gv_undef, tt, tf, ft, ff, eq_self, if_true, if_false, Bool.false_eq_true, Bool.not_true, Bool.not_false]; done) | omega) only [go_sem, RdS.len hdX sl22, RdS.idx hdX sl22, R1.intB hdX (Ext.pres eB), RdS.cells hdX, RdS.len hmX sl23, RdS.idx hmX sl23, RdS.cellB hmX (Ext.pres eB), RdS.cells hmX, RdS.len hvX sl26, RdS.idx hvX sl26, RdS.cellB hvX (Ext.pres eB), RdS.cells hvX, BoxAt.cell hb0_0, wrap_id]
  refine opsP_F (by simp (disch := decide) only [slotOf_zero, slotOf_succ, Option.map_some, puts_same, puts_ne, gv_bool, gv_undef, tt, tf, ft, ff, eq_self, if_true, if_false, Bool.false_eq_true, Bool.not_true, Bool.not_false]; rfl) (fun g1 => ?_) (fun g1 => ?_)
  ·try simp -implicitDefEqProofs (disch := first | decide | assumption | (simp (disch := decide) only [slotOf_zero, slotOf_succ, Option.map_some, puts_same, puts_ne, gv_bool, gv_undef, tt, tf, ft, ff, eq_self, if_true, if_false, Bool.false_eq_true, Bool.not_true, Bool.not_false, g1]; done) | omega) only [go_sem, fa31_1, fa33_0, fa33_1, ld26, ld22, RdS.len hdX sl22, RdS.idx hdX sl22, R1.intB hdX (Ext.pres eB), RdS.cells hdX, RdS.len hmX sl23, RdS.idx hmX sl23, RdS.cellB hmX (Ext.pres eB), RdS.cells hmX, RdS.len hvX sl26, RdS.idx hvX sl26, RdS.cellB hvX (Ext.pres eB), RdS.cells hvX, BoxAt.cell hb0_0, wrap_id, g1, eq_self, if_true, if_false, Bool.false_eq_true]
   refine hK _ _ ?_
   clear hK K
   refine den_stop ?_
   refine ⟨?_, e1_2⟩
   first | (simp (disch := decide) only [go_sem, g1, eq_self, Bool.true_and, Bool.and_true, Bool.false_and, Bool.and_false, Bool.true_or, Bool.or_true, Bool.false_or, Bool.or_false, if_true, if_false, Bool.false_eq_true]; done) | simp [HasL, sel, puts_at, g1]
  ·try simp -implicitDefEqProofs (disch := first | decide | assumption | (simp (disch := decide) only [slotOf_zero, slotOf_succ, Option.map_some, puts_same, puts_ne, gv_bool, gv_undef, tt, tf, ft, ff, eq_self, if_true, if_false, Bool.false_eq_true, Bool.not_true, Bool.not_false, g1]; done) | omega) only [go_sem, RdS.len hdX sl22, RdS.idx hdX sl22, R1.intB hdX (Ext.pres eB), RdS.cells hdX, RdS.len hmX sl23, RdS.idx hmX sl23, RdS.cellB hmX (Ext.pres eB), RdS.cells hmX, RdS.len hvX sl26, RdS.idx hvX sl26, RdS.cellB hvX (Ext.pres eB), RdS.cells hvX, BoxAt.cell hb0_0, wrap_id, g1, eq_self, if_true, if_false, Bool.false_eq_true]
   refine hK _ _ ?_
   clear hK K
   refine den_stop ?_
   refine ⟨?_, e1_2⟩
   first | (simp (disch := decide) only [go_sem, g1, eq_self, Bool.true_and, Bool.and_true, Bool.false_and, Bool.and_false, Bool.true_or, Bool.or_true, Bool.false_or, Bool.or_false, if_true, if_false, Bool.false_eq_true]; done) | simp [HasL, sel, puts_at, g1]
 intro en2 h3 e4
 replace hb0_0 := BoxAt.ext hb0_0 e4
 have := Ext.size e4
 replace eB := Ext.trans eB e4
 simp (disch := decide) only [go_sem]
 refine den_cond rfl (fun c0 => ?_) (fun c0 => ?_)
 ·try simp only [decide_eq_true_eq, decide_eq_false_iff_not, beq_iff_eq, beq_eq_false_iff_ne, bne_iff_ne, ne_eq, Bool.not_eq_true', Bool.not_eq_false', Bool.and_eq_true, Bool.or_eq_true, bne_eq_false_iff_eq, Bool.or_eq_false_iff, Bool.and_eq_false_iff] at c0
  refine den_seq ?_
  refine den_region TTok ?_
  intro K hK
  simp -implicitDefEqProofs (disch := first | decide | assumption | omega) only [go_sem, RdS.len hdX sl22, RdS.idx hdX sl22, R1.intB hdX (Ext.pres eB), RdS.cells hdX, RdS.len hmX sl23, RdS.idx hmX sl23, RdS.cellB hmX (Ext.pres eB), RdS.cells hmX, RdS.len hvX sl26, RdS.idx hvX sl26, RdS.cellB hvX (Ext.pres eB), RdS.cells hvX, wrap_id]
  refine hK _ _ ?_
  clear hK K
  refine den_ret ?_
  simp (disch := decide) only [resP_1, puts_same, puts_ne]
  exact ⟨vbool (isF_no (fun q => by simp [isC_t.2 q.c, q.ln] at c0)), eB⟩
 ·try simp only [decide_eq_true_eq, decide_eq_false_iff_not, beq_iff_eq, beq_eq_false_iff_ne, bne_iff_ne, ne_eq, Bool.not_eq_true', Bool.not_eq_false', Bool.and_eq_true, Bool.or_eq_true, bne_eq_false_iff_eq, Bool.or_eq_false_iff, Bool.and_eq_false_iff] at c0
  have hC := isC_t.1 c0.1
  have hlC := hC.len
  have hml := hC.ml
  refine den_skip ?_
  refine den_seq ?_
  refine den_seq ?_
  refine den_region TTok ?_
  intro K hK
  simp -implicitDefEqProofs (disch := first | decide | assumption | omega) only [go_sem, RdS.len hdX sl22, RdS.idx hdX sl22, R1.intB hdX (Ext.pres eB), RdS.cells hdX, RdS.len hmX sl23, RdS.idx hmX sl23, RdS.cellB hmX (Ext.pres eB), RdS.cells hmX, RdS.len hvX sl26, RdS.idx hvX sl26, RdS.cellB hvX (Ext.pres eB), RdS.cells hvX, BoxAt.cell hb0_0, wrap_id]
  refine hK _ _ ?_
  clear hK K
  refine den_block ?_
  refine den_sel [3, 1] ?_
  intro env_5
  simp only [go_sem]
  refine den_loopS (σ := Nat) (fun st_ => [(3, .int .i64 (st_ : Int))]) (fun st_ H => (st_ ≤ X.lv.length) ∧ (∀ q, q < st_ → ((X.lv.getD q default).length : Int) = X.c.dims.getD q 0 ∧ (X.lv.getD q default).all (fun z => in3 z 0 5) = true) ∧ (Ext h3 H)) (fun st_ => X.lv.length - st_) 0 ?_ ?_
  ·exact ⟨by first | (simp; done) | (dsimp only; omega) | (simp; omega), by first | (simp; done) | (dsimp only; omega) | (simp; omega), Ext.refl _⟩
  ·rintro n h8 ee7 ⟨hi0, hrow, cL6⟩
   replace hb0_0 := BoxAt.ext hb0_0 cL6
   have := Ext.size cL6
   replace eB := Ext.trans eB cL6
   simp only [List.cons_append, List.nil_append]
   refine den_seq ?_
   refine den_seq ?_
   refine den_region TTok ?_
   intro K hK
   simp -implicitDefEqProofs (disch := first | decide | assumption | omega) only [go_sem, fa33_1, ld26, RdS.len hdX sl22, RdS.idx hdX sl22, R1.intB hdX (Ext.pres eB), RdS.cells hdX, RdS.len hmX sl23, RdS.idx hmX sl23, RdS.cellB hmX (Ext.pres eB), RdS.cells hmX, RdS.len hvX sl26, RdS.idx hvX sl26, RdS.cellB hvX (Ext.pres eB), RdS.cells hvX, BoxAt.cell hb0_0, wrap_id]
   refine hK _ _ ?_
   clear hK K
   refine den_cond rfl (fun c1 => ?_) (fun c1 => ?_)
   ·try simp only [decide_eq_true_eq, decide_eq_false_iff_not, beq_iff_eq, beq_eq_false_iff_ne, bne_iff_ne, ne_eq, Bool.not_eq_true', Bool.not_eq_false', Bool.and_eq_true, Bool.or_eq_true, bne_eq_false_iff_eq, Bool.or_eq_false_iff, Bool.and_eq_false_iff] at c1
    refine den_skip ?_
    refine den_seq ?_
    refine den_block ?_
    refine den_seq ?_
    refine den_seq ?_
    refine den_draw TTok mixed [] [(0, true), (1, true), (2, true), (3, true), (4, true), (5, true), (6, true), (7, true), (8, true), (9, true), (10, true), (11, true), (12, true)] (by kernel_rfl) ?_
    intro K hK
    have hr9 := RdS.rowN hvX n (by omega)
    have hlhr9 := RdS.le hr9
    simp -implicitDefEqProofs (disch := first | decide | assumption | omega) only [go_sem, fa31_1, fa33_0, fa33_1, ld26, ld22, ld2, RdS.len hdX sl22, RdS.idx hdX sl22, R1.intB hdX (Ext.pres eB), RdS.cells hdX, RdS.len hmX sl23, RdS.idx hmX sl23, RdS.cellB hmX (Ext.pres eB), RdS.cells hmX, RdS.len hvX sl26, RdS.idx hvX sl26, RdS.cellB hvX (Ext.pres eB), RdS.cells hvX, RdS.len hr9 sl22, RdS.idx hr9 sl22, R1.intB hr9 (Ext.pres eB), RdS.cells hr9, BoxAt.cell hb0_0, wrap_id]
    refine hK _ _ ?_
    clear hK K
    refine den_cond rfl (fun c2 => ?_) (fun c2 => ?_)
    ·try simp only [decide_eq_true_eq, decide_eq_false_iff_not, beq_iff_eq, beq_eq_false_iff_ne, bne_iff_ne, ne_eq, Bool.not_eq_true', Bool.not_eq_false', Bool.and_eq_true, Bool.or_eq_true, bne_eq_false_iff_eq, Bool.or_eq_false_iff, Bool.and_eq_false_iff] at c2
     refine den_seq ?_
     refine den_region TTok ?_
     intro K hK
     simp -implicitDefEqProofs (disch := first | decide | assumption | omega) only [go_sem, RdS.len hdX sl22, RdS.idx hdX sl22, R1.intB hdX (Ext.pres eB), RdS.cells hdX, RdS.len hmX sl23, RdS.idx hmX sl23, RdS.cellB hmX (Ext.pres eB), RdS.cells hmX, RdS.len hvX sl26, RdS.idx hvX sl26, RdS.cellB hvX (Ext.pres eB), RdS.cells hvX, RdS.len hr9 sl22, RdS.idx hr9 sl22, R1.intB hr9 (Ext.pres eB), RdS.cells hr9, wrap_id]
     refine hK _ _ ?_
     clear hK K
     refine den_ret ?_
     simp (disch := decide) only [resP_1, puts_same, puts_ne]
     exact ⟨vbool (isF_no (fun q => c2 (q.rl n (by omega)))), eB⟩
    ·try simp only [decide_eq_true_eq, decide_eq_false_iff_not, beq_iff_eq, beq_eq_false_iff_ne, bne_iff_ne, ne_eq, Bool.not_eq_true', Bool.not_eq_false', Bool.and_eq_true, Bool.or_eq_true, bne_eq_false_iff_eq, Bool.or_eq_false_iff, Bool.and_eq_false_iff] at c2
     refine den_skip ?_
     refine den_seq ?_
     refine den_region TTok ?_
     intro K hK
     simp -implicitDefEqProofs (disch := first | decide | assumption | omega) only [go_sem, RdS.len hdX sl22, RdS.idx hdX sl22, R1.intB hdX (Ext.pres eB), RdS.cells hdX, RdS.len hmX sl23, RdS.idx hmX sl23, RdS.cellB hmX (Ext.pres eB), RdS.cells hmX, RdS.len hvX sl26, RdS.idx hvX sl26, RdS.cellB hvX (Ext.pres eB), RdS.cells hvX, RdS.len hr9 sl22, RdS.idx hr9 sl22, R1.intB hr9 (Ext.pres eB), RdS.cells hr9, BoxAt.cell hb0_0, wrap_id]
     refine hK _ _ ?_
     clear hK K
     refine den_block ?_
     refine den_sel [4, 1, 3] ?_
     intro env_10
     simp only [go_sem]
     refine den_loopS (σ := Nat) (fun st_ => [(4, .int .i64 (st_ : Int))]) (fun st_ H => (st_ ≤ (X.lv.getD n default).length) ∧ (((X.lv.getD n default).take st_).all (fun q => in3 q 0 5) = true) ∧ (Ext h8 H)) (fun st_ => (X.lv.getD n default).length - st_) 0 ?_ ?_
     ·exact ⟨by first | (simp; done) | (dsimp only; omega) | (simp; omega), by first | (simp; done) | (dsimp only; omega) | (simp; omega), Ext.refl _⟩
     ·rintro i h13 ee12 ⟨hi1, hal, cL11⟩
      replace hb0_0 := BoxAt.ext hb0_0 cL11
      have := Ext.size cL11
      replace eB := Ext.trans eB cL11
      replace cL6 := Ext.trans cL6 cL11
      simp only [List.cons_append, List.nil_append]
      refine den_seq ?_
      refine den_seq ?_
      refine den_region TTok ?_
      intro K hK
      have hr14 := RdS.rowN hvX n (by omega)
      have hlhr14 := RdS.le hr14
      simp -implicitDefEqProofs (disch := first | decide | assumption | omega) only [go_sem, fa33_1, ld26, ld22, RdS.len hdX sl22, RdS.idx hdX sl22, R1.intB hdX (Ext.pres eB), RdS.cells hdX, RdS.len hmX sl23, RdS.idx hmX sl23, RdS.cellB hmX (Ext.pres eB), RdS.cells hmX, RdS.len hvX sl26, RdS.idx hvX sl26, RdS.cellB hvX (Ext.pres eB), RdS.cells hvX, RdS.len hr9 sl22, RdS.idx hr9 sl22, R1.intB hr9 (Ext.pres eB), RdS.cells hr9, RdS.len hr14 sl22, RdS.idx hr14 sl22, R1.intB hr14 (Ext.pres eB), RdS.cells hr14, BoxAt.cell hb0_0, wrap_id]
      refine hK _ _ ?_
      clear hK K
      refine den_cond rfl (fun c3 => ?_) (fun c3 => ?_)
      ·try simp only [decide_eq_true_eq, decide_eq_false_iff_not, beq_iff_eq, beq_eq_false_iff_ne, bne_iff_ne, ne_eq, Bool.not_eq_true', Bool.not_eq_false', Bool.and_eq_true, Bool.or_eq_true, bne_eq_false_iff_eq, Bool.or_eq_false_iff, Bool.and_eq_false_iff] at c3
       refine den_skip ?_
       refine den_seq ?_
       refine den_block ?_
       refine den_seq ?_
       refine den_region TTok ?_
       intro K hK
       have hr15 := RdS.rowN hvX n (by omega)
       have hlhr15 := RdS.le hr15
       simp -implicitDefEqProofs (disch := first | decide | assumption | omega) only [go_sem, fa33_1, ld26, ld22, ld2, RdS.len hdX sl22, RdS.idx hdX sl22, R1.intB hdX (Ext.pres eB), RdS.cells hdX, RdS.len hmX sl23, RdS.idx hmX sl23, RdS.cellB hmX (Ext.pres eB), RdS.cells hmX, RdS.len hvX sl26, RdS.idx hvX sl26, RdS.cellB hvX (Ext.pres eB), RdS.cells hvX, RdS.len hr9 sl22, RdS.idx hr9 sl22, R1.intB hr9 (Ext.pres eB), RdS.cells hr9, RdS.len hr14 sl22, RdS.idx hr14 sl22, R1.intB hr14 (Ext.pres eB), RdS.cells hr14, RdS.len hr15 sl22, RdS.idx hr15 sl22, R1.intB hr15 (Ext.pres eB), RdS.cells hr15, BoxAt.cell hb0_0, wrap_id]
       try simp -implicitDefEqProofs (disch := first | decide | assumption | omega) only [go_sem, RdS.len hdX sl22, RdS.idx hdX sl22, R1.intB hdX (Ext.pres eB), RdS.cells hdX, RdS.len hmX sl23, RdS.idx hmX sl23, RdS.cellB hmX (Ext.pres eB), RdS.cells hmX, RdS.len hvX sl26, RdS.idx hvX sl26, RdS.cellB hvX (Ext.pres eB), RdS.cells hvX, RdS.len hr9 sl22, RdS.idx hr9 sl22, R1.intB hr9 (Ext.pres eB), RdS.cells hr9, RdS.len hr14 sl22, RdS.idx hr14 sl22, R1.intB hr14 (Ext.pres eB), RdS.cells hr14, RdS.len hr15 sl22, RdS.idx hr15 sl22, R1.intB hr15 (Ext.pres eB), RdS.cells hr15, BoxAt.cell hb0_0, wrap_id]
       refine CallA.pure (sIn_ok _ _ _ _) ?_
       try simp -implicitDefEqProofs (disch := first | decide | assumption | omega) only [go_sem, RdS.len hdX sl22, RdS.idx hdX sl22, R1.intB hdX (Ext.pres eB), RdS.cells hdX, RdS.len hmX sl23, RdS.idx hmX sl23, RdS.cellB hmX (Ext.pres eB), RdS.cells hmX, RdS.len hvX sl26, RdS.idx hvX sl26, RdS.cellB hvX (Ext.pres eB), RdS.cells hvX, RdS.len hr9 sl22, RdS.idx hr9 sl22, R1.intB hr9 (Ext.pres eB), RdS.cells hr9, RdS.len hr14 sl22, RdS.idx hr14 sl22, R1.intB hr14 (Ext.pres eB), RdS.cells hr14, RdS.len hr15 sl22, RdS.idx hr15 sl22, R1.intB hr15 (Ext.pres eB), RdS.cells hr15, BoxAt.cell hb0_0, wrap_id]
       refine hK _ _ ?_
       clear hK K
       refine den_cond rfl (fun c4 => ?_) (fun c4 => ?_)
       ·try simp only [decide_eq_true_eq, decide_eq_false_iff_not, beq_iff_eq, beq_eq_false_iff_ne, bne_iff_ne, ne_eq, Bool.not_eq_true', Bool.not_eq_false', Bool.and_eq_true, Bool.or_eq_true, bne_eq_false_iff_eq, Bool.or_eq_false_iff, Bool.and_eq_false_iff] at c4
        refine den_seq ?_
        refine den_region TTok ?_
        intro K hK
        simp -implicitDefEqProofs (disch := first | decide | assumption | omega) only [go_sem, RdS.len hdX sl22, RdS.idx hdX sl22, R1.intB hdX (Ext.pres eB), RdS.cells hdX, RdS.len hmX sl23, RdS.idx hmX sl23, RdS.cellB hmX (Ext.pres eB), RdS.cells hmX, RdS.len hvX sl26, RdS.idx hvX sl26, RdS.cellB hvX (Ext.pres eB), RdS.cells hvX, RdS.len hr9 sl22, RdS.idx hr9 sl22, R1.intB hr9 (Ext.pres eB), RdS.cells hr9, RdS.len hr14 sl22, RdS.idx hr14 sl22, R1.intB hr14 (Ext.pres eB), RdS.cells hr14, RdS.len hr15 sl22, RdS.idx hr15 sl22, R1.intB hr15 (Ext.pres eB), RdS.cells hr15, wrap_id]
        refine hK _ _ ?_
        clear hK K
        refine den_ret ?_
        simp (disch := decide) only [resP_1, puts_same, puts_ne]
        exact ⟨vbool (isF_no (fun q => by have := all_at (d := 0) (q.rr n (by omega)) (k := i) (by omega); rw [this] at c4; cases c4)), eB⟩
       ·try simp only [decide_eq_true_eq, decide_eq_false_iff_not, beq_iff_eq, beq_eq_false_iff_ne, bne_iff_ne, ne_eq, Bool.not_eq_true', Bool.not_eq_false', Bool.and_eq_true, Bool.or_eq_true, bne_eq_false_iff_eq, Bool.or_eq_false_iff, Bool.and_eq_false_iff] at c4
        refine den_skip ?_
        refine den_blk ?_
        refine den_region TTok ?_
        intro K hK
        simp -implicitDefEqProofs (disch := first | decide | assumption | omega) only [go_sem, RdS.len hdX sl22, RdS.idx hdX sl22, R1.intB hdX (Ext.pres eB), RdS.cells hdX, RdS.len hmX sl23, RdS.idx hmX sl23, RdS.cellB hmX (Ext.pres eB), RdS.cells hmX, RdS.len hvX sl26, RdS.idx hvX sl26, RdS.cellB hvX (Ext.pres eB), RdS.cells hvX, RdS.len hr9 sl22, RdS.idx hr9 sl22, R1.intB hr9 (Ext.pres eB), RdS.cells hr9, RdS.len hr14 sl22, RdS.idx hr14 sl22, R1.intB hr14 (Ext.pres eB), RdS.cells hr14, RdS.len hr15 sl22, RdS.idx hr15 sl22, R1.intB hr15 (Ext.pres eB), RdS.cells hr15, BoxAt.cell hb0_0, wrap_id]
        refine hK _ _ ?_
        clear hK K
        refine den_stop ?_
        exact ⟨i + 1, by simp [HasL, puts_at], ⟨by first | omega | (dsimp only; omega), all_step (d := 0) (by omega) hal c4, cL11⟩, by first | omega | (dsimp only; omega)⟩
      ·try simp only [decide_eq_true_eq, decide_eq_false_iff_not, beq_iff_eq, beq_eq_false_iff_ne, bne_iff_ne, ne_eq, Bool.not_eq_true', Bool.not_eq_false', Bool.and_eq_true, Bool.or_eq_true, bne_eq_false_iff_eq, Bool.or_eq_false_iff, Bool.and_eq_false_iff] at c3
       refine den_exit ?_
       refine denX_code ?_
       refine denX_stop ?_
       refine denX_hit ?_
       refine den_blk ?_
       refine den_region TTok ?_
       intro K hK
       simp -implicitDefEqProofs (disch := first | decide | assumption | omega) only [go_sem, RdS.len hdX sl22, RdS.idx hdX sl22, R1.intB hdX (Ext.pres eB), RdS.cells hdX, RdS.len hmX sl23, RdS.idx hmX sl23, RdS.cellB hmX (Ext.pres eB), RdS.cells hmX, RdS.len hvX sl26, RdS.idx hvX sl26, RdS.cellB hvX (Ext.pres eB), RdS.cells hvX, RdS.len hr9 sl22, RdS.idx hr9 sl22, R1.intB hr9 (Ext.pres eB), RdS.cells hr9, RdS.len hr14 sl22, RdS.idx hr14 sl22, R1.intB hr14 (Ext.pres eB), RdS.cells hr14, BoxAt.cell hb0_0, wrap_id]
       refine hK _ _ ?_
       clear hK K
       refine den_stop ?_
       exact ⟨n + 1, by simp [HasL, puts_at], ⟨by first | omega | (dsimp only; omega), fun q hq => by
 by_cases hqn : q < n
 ·exact hrow q hqn
 ·rw [show q = n by omega]; exact ⟨by omega, all_end (by omega) hal⟩, cL6⟩, by first | omega | (dsimp only; omega)⟩
   ·try simp only [decide_eq_true_eq, decide_eq_false_iff_not, beq_iff_eq, beq_eq_false_iff_ne, bne_iff_ne, ne_eq, Bool.not_eq_true', Bool.not_eq_false', Bool.and_eq_true, Bool.or_eq_true, bne_eq_false_iff_eq, Bool.or_eq_false_iff, Bool.and_eq_false_iff] at c1
    refine den_exit ?_
    refine denX_code ?_
    refine denX_stop ?_
    refine denX_hit ?_
    refine den_seq ?_
    refine den_seq ?_
    refine den_region TTok ?_
    intro K hK
    simp -implicitDefEqProofs (disch := first | decide | assumption | omega) only [go_sem, RdS.len hdX sl22, RdS.idx hdX sl22, R1.intB hdX (Ext.pres eB), RdS.cells hdX, RdS.len hmX sl23, RdS.idx hmX sl23, RdS.cellB hmX (Ext.pres eB), RdS.cells hmX, RdS.len hvX sl26, RdS.idx hvX sl26, RdS.cellB hvX (Ext.pres eB), RdS.cells hvX, BoxAt.cell hb0_0, wrap_id]
    refine hK _ _ ?_
    clear hK K
    refine den_block ?_
    refine den_sel [5, 1] ?_
    intro env_16
    simp only [go_sem]
    refine den_loopS (σ := Nat) (fun st_ => [(5, .int .i64 (st_ : Int))]) (fun st_ H => (1 ≤ st_ ∧ (st_ ≤ X.lv.length ∨ st_ = 1)) ∧ (∀ m, 1 ≤ m → m < st_ → ∀ a, a < (mapP X.c (m : Int)).length → ∀ b, b < ((mapP X.c (m : Int)).getD a default).length → gdN X m a b) ∧ (Ext h8 H)) (fun st_ => X.lv.length - st_) 1 ?_ ?_
    ·exact ⟨by omega, fun m h1 h2 => by omega, Ext.refl _⟩
    ·rintro n h19 ee18 ⟨hi2, hR1, cL17⟩
     replace hb0_0 := BoxAt.ext hb0_0 cL17
     have := Ext.size cL17
     replace eB := Ext.trans eB cL17
     simp only [List.cons_append, List.nil_append]
     refine den_seq ?_
     refine den_seq ?_
     refine den_region TTok ?_
     intro K hK
     simp -implicitDefEqProofs (disch := first | decide | assumption | omega) only [go_sem, fa33_1, ld26, RdS.len hdX sl22, RdS.idx hdX sl22, R1.intB hdX (Ext.pres eB), RdS.cells hdX, RdS.len hmX sl23, RdS.idx hmX sl23, RdS.cellB hmX (Ext.pres eB), RdS.cells hmX, RdS.len hvX sl26, RdS.idx hvX sl26, RdS.cellB hvX (Ext.pres eB), RdS.cells hvX, BoxAt.cell hb0_0, wrap_id]
     refine hK _ _ ?_
     clear hK K
     refine den_cond rfl (fun c5 => ?_) (fun c5 => ?_)
     ·try simp only [decide_eq_true_eq, decide_eq_false_iff_not, beq_iff_eq, beq_eq_false_iff_ne, bne_iff_ne, ne_eq, Bool.not_eq_true', Bool.not_eq_false', Bool.and_eq_true, Bool.or_eq_true, bne_eq_false_iff_eq, Bool.or_eq_false_iff, Bool.and_eq_false_iff] at c5
      refine den_skip ?_
      refine den_seq ?_
      refine den_block ?_
      refine den_seq ?_
      have hmo := mapP_ok hC (n := (n : Int)) (by omega) (by omega)
      have hdn := dm_at hC.dm (k := n) (by omega)
      rw [Int.toNat_natCast] at hmo
      have hdw := dimP_bnd hC ((n : Int) - 1)
      have hrn := (hrow n (by omega)).1
      have hrm := (hrow (n - 1) (by omega)).1
      have hdm : dimP X.c ((n : Int) - 1) = X.c.dims.getD (n - 1) 0 := by rw [dimP, if_pos (in3_iff.2 ⟨by omega, by omega⟩), show ((n : Int) - 1).toNat = n - 1 by omega]
      refine den_region TTok ?_
      intro K hK
      simp -implicitDefEqProofs (disch := first | decide | assumption | omega) only [go_sem, fa33_0, ld31, RdS.len hdX sl22, RdS.idx hdX sl22, R1.intB hdX (Ext.pres eB), RdS.cells hdX, RdS.len hmX sl23, RdS.idx hmX sl23, RdS.cellB hmX (Ext.pres eB), RdS.cells hmX, RdS.len hvX sl26, RdS.idx hvX sl26, RdS.cellB hvX (Ext.pres eB), RdS.cells hvX, BoxAt.cell hb0_0, wrap_id]
      try simp -implicitDefEqProofs (disch := first | decide | assumption | omega) only [go_sem, RdS.len hdX sl22, RdS.idx hdX sl22, R1.intB hdX (Ext.pres eB), RdS.cells hdX, RdS.len hmX sl23, RdS.idx hmX sl23, RdS.cellB hmX (Ext.pres eB), RdS.cells hmX, RdS.len hvX sl26, RdS.idx hvX sl26, RdS.cellB hvX (Ext.pres eB), RdS.cells hvX, BoxAt.cell hb0_0, wrap_id]
      refine CallA.mono (sMap_ok _ X.c (n : Int) _ ⟨_, _, rfl, (RdS.pres hdX (Ext.pres eB)), (RdS.pres hmX (Ext.pres eB))⟩ hC) ?_
      intro vw16_3_0 h16_3
      rintro ⟨zvw16_3_0, rfl, hrw16_3_0, e16_3⟩
      replace hb0_0 := BoxAt.ext hb0_0 e16_3
      have := Ext.size e16_3
      replace eB := Ext.trans eB e16_3
      replace cL17 := Ext.trans cL17 e16_3
      have xrw16_3_0 := Ext.refl h16_3
      have hlrw16_3_0 := RdS.le hrw16_3_0
      try simp -implicitDefEqProofs (disch := first | decide | assumption | omega) only [go_sem, RdS.len hdX sl22, RdS.idx hdX sl22, R1.intB hdX (Ext.pres eB), RdS.cells hdX, RdS.len hmX sl23, RdS.idx hmX sl23, RdS.cellB hmX (Ext.pres eB), RdS.cells hmX, RdS.len hvX sl26, RdS.idx hvX sl26, RdS.cellB hvX (Ext.pres eB), RdS.cells hvX, BoxAt.cell hb0_0, RdS.len hrw16_3_0 sl26, RdS.idx hrw16_3_0 sl26, RdS.cellB hrw16_3_0 (Ext.pres xrw16_3_0), RdS.cells hrw16_3_0, wrap_id]
      refine hK _ _ ?_
      clear hK K
      refine den_seq ?_
      refine den_region TTok ?_
      intro K hK
      simp -implicitDefEqProofs (disch := first | decide | assumption | omega) only [go_sem, RdS.len hdX sl22, RdS.idx hdX sl22, R1.intB hdX (Ext.pres eB), RdS.cells hdX, RdS.len hmX sl23, RdS.idx hmX sl23, RdS.cellB hmX (Ext.pres eB), RdS.cells hmX, RdS.len hvX sl26, RdS.idx hvX sl26, RdS.cellB hvX (Ext.pres eB), RdS.cells hvX, BoxAt.cell hb0_0, RdS.len hrw16_3_0 sl26, RdS.idx hrw16_3_0 sl26, RdS.cellB hrw16_3_0 (Ext.pres xrw16_3_0), RdS.cells hrw16_3_0, wrap_id]
      refine hK _ _ ?_
      clear hK K
      refine den_block ?_
      refine den_sel [7, 1, 5, 6] ?_
      intro env_20
      simp only [go_sem]
      refine den_loopS (σ := Nat) (fun st_ => [(7, .int .i64 (st_ : Int))]) (fun st_ H => (st_ ≤ (mapP X.c (n : Int)).length) ∧ (∀ a, a < st_ → ∀ b, b < ((mapP X.c (n : Int)).getD a default).length → gdN X n a b) ∧ (Ext h16_3 H)) (fun st_ => (mapP X.c (n : Int)).length - st_) 0 ?_ ?_
      ·exact ⟨by omega, fun a h => by omega, Ext.refl _⟩
      ·rintro i h23 ee22 ⟨hi3, hR2, cL21⟩
       replace hb0_0 := BoxAt.ext hb0_0 cL21
       have := Ext.size cL21
       replace eB := Ext.trans eB cL21
       replace xrw16_3_0 := Ext.trans xrw16_3_0 cL21
       replace cL17 := Ext.trans cL17 cL21
       simp only [List.cons_append, List.nil_append]
       refine den_seq ?_
       refine den_seq ?_
       refine den_region TTok ?_
       intro K hK
       simp -implicitDefEqProofs (disch := first | decide | assumption | omega) only [go_sem, RdS.len hdX sl22, RdS.idx hdX sl22, R1.intB hdX (Ext.pres eB), RdS.cells hdX, RdS.len hmX sl23, RdS.idx hmX sl23, RdS.cellB hmX (Ext.pres eB), RdS.cells hmX, RdS.len hvX sl26, RdS.idx hvX sl26, RdS.cellB hvX (Ext.pres eB), RdS.cells hvX, BoxAt.cell hb0_0, RdS.len hrw16_3_0 sl26, RdS.idx hrw16_3_0 sl26, RdS.cellB hrw16_3_0 (Ext.pres xrw16_3_0), RdS.cells hrw16_3_0, wrap_id]
       refine hK _ _ ?_
       clear hK K
       refine den_cond rfl (fun c6 => ?_) (fun c6 => ?_)
       ·try simp only [decide_eq_true_eq, decide_eq_false_iff_not, beq_iff_eq, beq_eq_false_iff_ne, bne_iff_ne, ne_eq, Bool.not_eq_true', Bool.not_eq_false', Bool.and_eq_true, Bool.or_eq_true, bne_eq_false_iff_eq, Bool.or_eq_false_iff, Bool.and_eq_false_iff] at c6
        refine den_skip ?_
        refine den_seq ?_
        refine den_block ?_
        refine den_seq ?_
        have hmi := hmo.2.at (k := i) (by omega)
        refine den_region TTok ?_
        intro K hK
        simp -implicitDefEqProofs (disch := first | decide | assumption | omega) only [go_sem, RdS.len hdX sl22, RdS.idx hdX sl22, R1.intB hdX (Ext.pres eB), RdS.cells hdX, RdS.len hmX sl23, RdS.idx hmX sl23, RdS.cellB hmX (Ext.pres eB), RdS.cells hmX, RdS.len hvX sl26, RdS.idx hvX sl26, RdS.cellB hvX (Ext.pres eB), RdS.cells hvX, BoxAt.cell hb0_0, RdS.len hrw16_3_0 sl26, RdS.idx hrw16_3_0 sl26, RdS.cellB hrw16_3_0 (Ext.pres xrw16_3_0), RdS.cells hrw16_3_0, wrap_id]
        refine hK _ _ ?_
        clear hK K
        refine den_block ?_
        refine den_sel [8, 1, 5, 6, 7] ?_
        intro env_24
        simp only [go_sem]
        refine den_loopS (σ := Nat) (fun st_ => [(8, .int .i64 (st_ : Int))]) (fun st_ H => (st_ ≤ ((mapP X.c (n : Int)).getD i default).length) ∧ (∀ b, b < st_ → gdN X n i b) ∧ (Ext h23 H)) (fun st_ => ((mapP X.c (n : Int)).getD i default).length - st_) 0 ?_ ?_
        ·exact ⟨by omega, fun b h => by omega, Ext.refl _⟩
        ·rintro j h27 ee26 ⟨hi4, hR3, cL25⟩
         replace hb0_0 := BoxAt.ext hb0_0 cL25
         have := Ext.size cL25
         replace eB := Ext.trans eB cL25
         replace xrw16_3_0 := Ext.trans xrw16_3_0 cL25
         replace cL17 := Ext.trans cL17 cL25
         replace cL21 := Ext.trans cL21 cL25
         simp only [List.cons_append, List.nil_append]
         refine den_seq ?_
         refine den_seq ?_
         refine den_region TTok ?_
         intro K hK
         have hr28 := RdS.rowN hrw16_3_0 i (by omega)
         have hlhr28 := RdS.le hr28
         have xr29 := xrw16_3_0
         simp -implicitDefEqProofs (disch := first | decide | assumption | omega) only [go_sem, ld22, RdS.len hdX sl22, RdS.idx hdX sl22, R1.intB hdX (Ext.pres eB), RdS.cells hdX, RdS.len hmX sl23, RdS.idx hmX sl23, RdS.cellB hmX (Ext.pres eB), RdS.cells hmX, RdS.len hvX sl26, RdS.idx hvX sl26, RdS.cellB hvX (Ext.pres eB), RdS.cells hvX, BoxAt.cell hb0_0, RdS.len hrw16_3_0 sl26, RdS.idx hrw16_3_0 sl26, RdS.cellB hrw16_3_0 (Ext.pres xrw16_3_0), RdS.cells hrw16_3_0, RdS.len hr28 sl22, RdS.idx hr28 sl22, R1.intB hr28 (Ext.pres xr29), RdS.cells hr28, wrap_id]
         refine hK _ _ ?_
         clear hK K
         refine den_cond rfl (fun c7 => ?_) (fun c7 => ?_)
         ·try simp only [decide_eq_true_eq, decide_eq_false_iff_not, beq_iff_eq, beq_eq_false_iff_ne, bne_iff_ne, ne_eq, Bool.not_eq_true', Bool.not_eq_false', Bool.and_eq_true, Bool.or_eq_true, bne_eq_false_iff_eq, Bool.or_eq_false_iff, Bool.and_eq_false_iff] at c7
          refine den_skip ?_
          refine den_seq ?_
          refine den_block ?_
          refine den_seq ?_
          have hlv0 : 0 ≤ (j : Int) ∧ (j : Int) < ((X.lv.getD ((n : Int) - 1).toNat default).length : Int) := by rw [show ((n : Int) - 1).toNat = n - 1 by omega]; omega
          have hlv1 : 0 ≤ (i : Int) ∧ (i : Int) < ((X.lv.getD (n : Int).toNat default).length : Int) := by rw [Int.toNat_natCast]; omega
          refine den_merge [(108, .bool ((((((mapP X.c (n : Int)).getD i default).getD j 0) != (0 : Int)) && (decide ((lvP X (n : Int) (i : Int)) < (lvP X ((n : Int) - (1 : Int)) (j : Int)))))))] [1, 5, 6, 7, 8] (fun H => Ext h27 H) ?_ ?_
           -- a way
          ·refine den_draw TTok mixed [] [(0, true), (1, true), (2, true), (3, true), (4, true), (5, true), (6, true), (7, true), (8, true), (9, true), (10, true), (11, true), (12, true), (14, true), (15, true), (16, true), (13, false), (17, false), (18, true), (19, true)] (by kernel_rfl) ?_
           intro K hK
           have hr30 := RdS.rowN hrw16_3_0 i (by omega)
           have hlhr30 := RdS.le hr30
           have xr31 := xrw16_3_0
           simp -implicitDefEqProofs (disch := first | decide | assumption | (simp (disch := decide) only [slotOf_zero, slotOf_succ, Option.map_some, puts_same, puts_ne, gv_bool, gv_undef, tt, tf, ft, ff, eq_self, if_true, if_false, Bool.false_eq_true, Bool.not_true, Bool.not_false]; done) | omega) only [go_sem, ld22, ld2, RdS.len hdX sl22, RdS.idx hdX sl22, R1.intB hdX (Ext.pres eB), RdS.cells hdX, RdS.len hmX sl23, RdS.idx hmX sl23, RdS.cellB hmX (Ext.pres eB), RdS.cells hmX, RdS.len hvX sl26, RdS.idx hvX sl26, RdS.cellB hvX (Ext.pres eB), RdS.cells hvX, BoxAt.cell hb0_0, RdS.len hrw16_3_0 sl26, RdS.idx hrw16_3_0 sl26, RdS.cellB hrw16_3_0 (Ext.pres xrw16_3_0), RdS.cells hrw16_3_0, RdS.len hr28 sl22, RdS.idx hr28 sl22, R1.intB hr28 (Ext.pres xr29), RdS.cells hr28, RdS.len hr30 sl22, RdS.idx hr30 sl22, R1.intB hr30 (Ext.pres xr31), RdS.cells hr30, wrap_id]
           refine plG_T (by simp (disch := decide) only [slotOf_zero, slotOf_succ, Option.map_some, puts_same, puts_ne, gv_bool, gv_undef, tt, tf, ft, ff, eq_self, if_true, if_false, Bool.false_eq_true, Bool.not_true, Bool.not_false]; rfl) (fun g32 => ?_) (fun g32 => ?_)
           ·try simp -implicitDefEqProofs (disch := first | decide | assumption | (simp (disch := decide) only [slotOf_zero, slotOf_succ, Option.map_some, puts_same, puts_ne, gv_bool, gv_undef, tt, tf, ft, ff, eq_self, if_true, if_false, Bool.false_eq_true, Bool.not_true, Bool.not_false, g32]; done) | omega) only [go_sem, ld33, RdS.len hdX sl22, RdS.idx hdX sl22, R1.intB hdX (Ext.pres eB), RdS.cells hdX, RdS.len hmX sl23, RdS.idx hmX sl23, RdS.cellB hmX (Ext.pres eB), RdS.cells hmX, RdS.len hvX sl26, RdS.idx hvX sl26, RdS.cellB hvX (Ext.pres eB), RdS.cells hvX, BoxAt.cell hb0_0, RdS.len hrw16_3_0 sl26, RdS.idx hrw16_3_0 sl26, RdS.cellB hrw16_3_0 (Ext.pres xrw16_3_0), RdS.cells hrw16_3_0, RdS.len hr28 sl22, RdS.idx hr28 sl22, R1.intB hr28 (Ext.pres xr29), RdS.cells hr28, RdS.len hr30 sl22, RdS.idx hr30 sl22, R1.intB hr30 (Ext.pres xr31), RdS.cells hr30, wrap_id, g32, eq_self, if_true, if_false, Bool.false_eq_true]
            try simp -implicitDefEqProofs (disch := first | decide | assumption | omega) only [go_sem, RdS.len hdX sl22, RdS.idx hdX sl22, R1.intB hdX (Ext.pres eB), RdS.cells hdX, RdS.len hmX sl23, RdS.idx hmX sl23, RdS.cellB hmX (Ext.pres eB), RdS.cells hmX, RdS.len hvX sl26, RdS.idx hvX sl26, RdS.cellB hvX (Ext.pres eB), RdS.cells hvX, BoxAt.cell hb0_0, RdS.len hrw16_3_0 sl26, RdS.idx hrw16_3_0 sl26, RdS.cellB hrw16_3_0 (Ext.pres xrw16_3_0), RdS.cells hrw16_3_0, RdS.len hr28 sl22, RdS.idx hr28 sl22, R1.intB hr28 (Ext.pres xr29), RdS.cells hr28, RdS.len hr30 sl22, RdS.idx hr30 sl22, R1.intB hr30 (Ext.pres xr31), RdS.cells hr30, wrap_id]
            refine CallA.mono (sLev_ok _ X ((n : Int) - (1 : Int)) (j : Int) _ ⟨_, _, _, rfl, (RdS.pres hdX (Ext.pres eB)), (RdS.pres hmX (Ext.pres eB)), (RdS.pres hvX (Ext.pres eB))⟩ (by omega) hlv0) ?_
            intro v_ h23_13
            rintro ⟨rfl, e23_13⟩
            replace hb0_0 := BoxAt.ext hb0_0 e23_13
            have := Ext.size e23_13
            replace eB := Ext.trans eB e23_13
            replace xrw16_3_0 := Ext.trans xrw16_3_0 e23_13
            replace xr29 := Ext.trans xr29 e23_13
            replace xr31 := Ext.trans xr31 e23_13
            replace cL17 := Ext.trans cL17 e23_13
            replace cL21 := Ext.trans cL21 e23_13
            replace cL25 := Ext.trans cL25 e23_13
            try simp (disch := decide) only [outv_some, outv_none, put_puts]
            refine plK_pres (Ext.pres e23_13) ?_
            try simp -implicitDefEqProofs (disch := first | decide | assumption | (simp (disch := decide) only [slotOf_zero, slotOf_succ, Option.map_some, puts_same, puts_ne, gv_bool, gv_undef, tt, tf, ft, ff, eq_self, if_true, if_false, Bool.false_eq_true, Bool.not_true, Bool.not_false, g32]; done) | omega) only [go_sem, RdS.len hdX sl22, RdS.idx hdX sl22, R1.intB hdX (Ext.pres eB), RdS.cells hdX, RdS.len hmX sl23, RdS.idx hmX sl23, RdS.cellB hmX (Ext.pres eB), RdS.cells hmX, RdS.len hvX sl26, RdS.idx hvX sl26, RdS.cellB hvX (Ext.pres eB), RdS.cells hvX, BoxAt.cell hb0_0, RdS.len hrw16_3_0 sl26, RdS.idx hrw16_3_0 sl26, RdS.cellB hrw16_3_0 (Ext.pres xrw16_3_0), RdS.cells hrw16_3_0, RdS.len hr28 sl22, RdS.idx hr28 sl22, R1.intB hr28 (Ext.pres xr29), RdS.cells hr28, RdS.len hr30 sl22, RdS.idx hr30 sl22, R1.intB hr30 (Ext.pres xr31), RdS.cells hr30, wrap_id, g32, eq_self, if_true, if_false, Bool.false_eq_true]
            try simp -implicitDefEqProofs (disch := first | decide | assumption | omega) only [go_sem, RdS.len hdX sl22, RdS.idx hdX sl22, R1.intB hdX (Ext.pres eB), RdS.cells hdX, RdS.len hmX sl23, RdS.idx hmX sl23, RdS.cellB hmX (Ext.pres eB), RdS.cells hmX, RdS.len hvX sl26, RdS.idx hvX sl26, RdS.cellB hvX (Ext.pres eB), RdS.cells hvX, BoxAt.cell hb0_0, RdS.len hrw16_3_0 sl26, RdS.idx hrw16_3_0 sl26, RdS.cellB hrw16_3_0 (Ext.pres xrw16_3_0), RdS.cells hrw16_3_0, RdS.len hr28 sl22, RdS.idx hr28 sl22, R1.intB hr28 (Ext.pres xr29), RdS.cells hr28, RdS.len hr30 sl22, RdS.idx hr30 sl22, R1.intB hr30 (Ext.pres xr31), RdS.cells hr30, wrap_id]
            refine CallA.mono (sLev_ok _ X (n : Int) (i : Int) _ ⟨_, _, _, rfl, (RdS.pres hdX (Ext.pres eB)), (RdS.pres hmX (Ext.pres eB)), (RdS.pres hvX (Ext.pres eB))⟩ (by omega) hlv1) ?_
            intro v_ h23_17
            rintro ⟨rfl, e23_17⟩
            replace hb0_0 := BoxAt.ext hb0_0 e23_17
            have := Ext.size e23_17
            replace eB := Ext.trans eB e23_17
            replace xrw16_3_0 := Ext.trans xrw16_3_0 e23_17
            replace xr29 := Ext.trans xr29 e23_17
            replace xr31 := Ext.trans xr31 e23_17
            replace cL17 := Ext.trans cL17 e23_17
            replace cL21 := Ext.trans cL21 e23_17
            replace cL25 := Ext.trans cL25 e23_17
            try simp (disch := decide) only [outv_some, outv_none, put_puts]
            refine plK_pres (Ext.pres e23_17) ?_
            try simp -implicitDefEqProofs (disch := first | decide | assumption | (simp (disch := decide) only [slotOf_zero, slotOf_succ, Option.map_some, puts_same, puts_ne, gv_bool, gv_undef, tt, tf, ft, ff, eq_self, if_true, if_false, Bool.false_eq_true, Bool.not_true, Bool.not_false, g32]; done) | omega) only [go_sem, RdS.len hdX sl22, RdS.idx hdX sl22, R1.intB hdX (Ext.pres eB), RdS.cells hdX, RdS.len hmX sl23, RdS.idx hmX sl23, RdS.cellB hmX (Ext.pres eB), RdS.cells hmX, RdS.len hvX sl26, RdS.idx hvX sl26, RdS.cellB hvX (Ext.pres eB), RdS.cells hvX, BoxAt.cell hb0_0, RdS.len hrw16_3_0 sl26, RdS.idx hrw16_3_0 sl26, RdS.cellB hrw16_3_0 (Ext.pres xrw16_3_0), RdS.cells hrw16_3_0, RdS.len hr28 sl22, RdS.idx hr28 sl22, R1.intB hr28 (Ext.pres xr29), RdS.cells hr28, RdS.len hr30 sl22, RdS.idx hr30 sl22, R1.intB hr30 (Ext.pres xr31), RdS.cells hr30, wrap_id, g32, eq_self, if_true, if_false, Bool.false_eq_true]
            refine hK _ _ ?_
            clear hK K
            refine den_stop ?_
            refine ⟨?_, (Ext.trans e23_13 e23_17)⟩
            first | (simp (disch := decide) only [go_sem, g32, eq_self, Bool.true_and, Bool.and_true, Bool.false_and, Bool.and_false, Bool.true_or, Bool.or_true, Bool.false_or, Bool.or_false, if_true, if_false, Bool.false_eq_true]; done) | simp [HasL, sel, puts_at, g32]
           ·try simp -implicitDefEqProofs (disch := first | decide | assumption | (simp (disch := decide) only [slotOf_zero, slotOf_succ, Option.map_some, puts_same, puts_ne, gv_bool, gv_undef, tt, tf, ft, ff, eq_self, if_true, if_false, Bool.false_eq_true, Bool.not_true, Bool.not_false, g32]; done) | omega) only [go_sem, RdS.len hdX sl22, RdS.idx hdX sl22, R1.intB hdX (Ext.pres eB), RdS.cells hdX, RdS.len hmX sl23, RdS.idx hmX sl23, RdS.cellB hmX (Ext.pres eB), RdS.cells hmX, RdS.len hvX sl26, RdS.idx hvX sl26, RdS.cellB hvX (Ext.pres eB), RdS.cells hvX, BoxAt.cell hb0_0, RdS.len hrw16_3_0 sl26, RdS.idx hrw16_3_0 sl26, RdS.cellB hrw16_3_0 (Ext.pres xrw16_3_0), RdS.cells hrw16_3_0, RdS.len hr28 sl22, RdS.idx hr28 sl22, R1.intB hr28 (Ext.pres xr29), RdS.cells hr28, RdS.len hr30 sl22, RdS.idx hr30 sl22, R1.intB hr30 (Ext.pres xr31), RdS.cells hr30, wrap_id, g32, eq_self, if_true, if_false, Bool.false_eq_true]
            refine hK _ _ ?_
            clear hK K
            refine den_stop ?_
            refine ⟨?_, Ext.refl _⟩
            first | (simp (disch := decide) only [go_sem, g32, eq_self, Bool.true_and, Bool.and_true, Bool.false_and, Bool.and_false, Bool.true_or, Bool.or_true, Bool.false_or, Bool.or_false, if_true, if_false, Bool.false_eq_true]; done) | simp [HasL, sel, puts_at, g32]
          intro en33 h34 e35
          replace hb0_0 := BoxAt.ext hb0_0 e35
          have := Ext.size e35
          replace eB := Ext.trans eB e35
          replace xrw16_3_0 := Ext.trans xrw16_3_0 e35
          replace xr29 := Ext.trans xr29 e35
          replace cL17 := Ext.trans cL17 e35
          replace cL21 := Ext.trans cL21 e35
          replace cL25 := Ext.trans cL25 e35
          simp (disch := decide) only [go_sem]
          refine den_cond rfl (fun c8 => ?_) (fun c8 => ?_)
          ·try simp only [decide_eq_true_eq, decide_eq_false_iff_not, beq_iff_eq, beq_eq_false_iff_ne, bne_iff_ne, ne_eq, Bool.not_eq_true', Bool.not_eq_false', Bool.and_eq_true, Bool.or_eq_true, bne_eq_false_iff_eq, Bool.or_eq_false_iff, Bool.and_eq_false_iff] at c8
           refine den_seq ?_
           refine den_region TTok ?_
           intro K hK
           simp -implicitDefEqProofs (disch := first | decide | assumption | omega) only [go_sem, RdS.len hdX sl22, RdS.idx hdX sl22, R1.intB hdX (Ext.pres eB), RdS.cells hdX, RdS.len hmX sl23, RdS.idx hmX sl23, RdS.cellB hmX (Ext.pres eB), RdS.cells hmX, RdS.len hvX sl26, RdS.idx hvX sl26, RdS.cellB hvX (Ext.pres eB), RdS.cells hvX, RdS.len hrw16_3_0 sl26, RdS.idx hrw16_3_0 sl26, RdS.cellB hrw16_3_0 (Ext.pres xrw16_3_0), RdS.cells hrw16_3_0, RdS.len hr28 sl22, RdS.idx hr28 sl22, R1.intB hr28 (Ext.pres xr29), RdS.cells hr28, wrap_id]
           refine hK _ _ ?_
           clear hK K
           refine den_ret ?_
           simp (disch := decide) only [resP_1, puts_same, puts_ne]
           exact ⟨vbool (isF_no (fun q => (isF_gd q (n := n) (i := i) (j := j) (by omega) (by omega) (by omega) (by omega)).elim c8.1 (fun h => by have := c8.2; omega))), eB⟩
          ·try simp only [decide_eq_true_eq, decide_eq_false_iff_not, beq_iff_eq, beq_eq_false_iff_ne, bne_iff_ne, ne_eq, Bool.not_eq_true', Bool.not_eq_false', Bool.and_eq_true, Bool.or_eq_true, bne_eq_false_iff_eq, Bool.or_eq_false_iff, Bool.and_eq_false_iff] at c8
           refine den_skip ?_
           refine den_blk ?_
           refine den_region TTok ?_
           intro K hK
           simp -implicitDefEqProofs (disch := first | decide | assumption | omega) only [go_sem, RdS.len hdX sl22, RdS.idx hdX sl22, R1.intB hdX (Ext.pres eB), RdS.cells hdX, RdS.len hmX sl23, RdS.idx hmX sl23, RdS.cellB hmX (Ext.pres eB), RdS.cells hmX, RdS.len hvX sl26, RdS.idx hvX sl26, RdS.cellB hvX (Ext.pres eB), RdS.cells hvX, BoxAt.cell hb0_0, RdS.len hrw16_3_0 sl26, RdS.idx hrw16_3_0 sl26, RdS.cellB hrw16_3_0 (Ext.pres xrw16_3_0), RdS.cells hrw16_3_0, RdS.len hr28 sl22, RdS.idx hr28 sl22, R1.intB hr28 (Ext.pres xr29), RdS.cells hr28, wrap_id]
           refine hK _ _ ?_
           clear hK K
           refine den_stop ?_
           exact ⟨j + 1, by simp [HasL, puts_at], ⟨by first | omega | (dsimp only; omega), fun b h1 => by
 by_cases hqn : b < j
 ·exact hR3 b hqn
 ·rw [show b = j by omega]; exact c8.imp id (fun h => by omega), cL25⟩, by first | omega | (dsimp only; omega)⟩
         ·try simp only [decide_eq_true_eq, decide_eq_false_iff_not, beq_iff_eq, beq_eq_false_iff_ne, bne_iff_ne, ne_eq, Bool.not_eq_true', Bool.not_eq_false', Bool.and_eq_true, Bool.or_eq_true, bne_eq_false_iff_eq, Bool.or_eq_false_iff, Bool.and_eq_false_iff] at c7
          refine den_exit ?_
          refine denX_code ?_
          refine denX_stop ?_
          refine denX_hit ?_
          refine den_blk ?_
          refine den_region TTok ?_
          intro K hK
          simp -implicitDefEqProofs (disch := first | decide | assumption | omega) only [go_sem, RdS.len hdX sl22, RdS.idx hdX sl22, R1.intB hdX (Ext.pres eB), RdS.cells hdX, RdS.len hmX sl23, RdS.idx hmX sl23, RdS.cellB hmX (Ext.pres eB), RdS.cells hmX, RdS.len hvX sl26, RdS.idx hvX sl26, RdS.cellB hvX (Ext.pres eB), RdS.cells hvX, BoxAt.cell hb0_0, RdS.len hrw16_3_0 sl26, RdS.idx hrw16_3_0 sl26, RdS.cellB hrw16_3_0 (Ext.pres xrw16_3_0), RdS.cells hrw16_3_0, RdS.len hr28 sl22, RdS.idx hr28 sl22, R1.intB hr28 (Ext.pres xr29), RdS.cells hr28, wrap_id]
          refine hK _ _ ?_
          clear hK K
          refine den_stop ?_
          exact ⟨i + 1, by simp [HasL, puts_at], ⟨by first | omega | (dsimp only; omega), fun a h1 => by
 by_cases hqn : a < i
 ·exact hR2 a hqn
 ·rw [show a = i by omega]; intro b hb; exact hR3 b (by omega), cL21⟩, by first | omega | (dsimp only; omega)⟩
       ·try simp only [decide_eq_true_eq, decide_eq_false_iff_not, beq_iff_eq, beq_eq_false_iff_ne, bne_iff_ne, ne_eq, Bool.not_eq_true', Bool.not_eq_false', Bool.and_eq_true, Bool.or_eq_true, bne_eq_false_iff_eq, Bool.or_eq_false_iff, Bool.and_eq_false_iff] at c6
        refine den_exit ?_
        refine denX_code ?_
        refine denX_stop ?_
        refine denX_hit ?_
        refine den_blk ?_
        refine den_region TTok ?_
        intro K hK
        simp -implicitDefEqProofs (disch := first | decide | assumption | omega) only [go_sem, RdS.len hdX sl22, RdS.idx hdX sl22, R1.intB hdX (Ext.pres eB), RdS.cells hdX, RdS.len hmX sl23, RdS.idx hmX sl23, RdS.cellB hmX (Ext.pres eB), RdS.cells hmX, RdS.len hvX sl26, RdS.idx hvX sl26, RdS.cellB hvX (Ext.pres eB), RdS.cells hvX, BoxAt.cell hb0_0, RdS.len hrw16_3_0 sl26, RdS.idx hrw16_3_0 sl26, RdS.cellB hrw16_3_0 (Ext.pres xrw16_3_0), RdS.cells hrw16_3_0, wrap_id]
        refine hK _ _ ?_
        clear hK K
        refine den_stop ?_
        exact ⟨n + 1, by simp [HasL, puts_at], ⟨by first | omega | (dsimp only; omega), fun m h1 h2 => by
 by_cases hqn : m < n
 ·exact hR1 m h1 hqn
 ·rw [show m = n by omega]; intro i hi; exact hR2 i (by omega), cL17⟩, by first | omega | (dsimp only; omega)⟩
     ·try simp only [decide_eq_true_eq, decide_eq_false_iff_not, beq_iff_eq, beq_eq_false_iff_ne, bne_iff_ne, ne_eq, Bool.not_eq_true', Bool.not_eq_false', Bool.and_eq_true, Bool.or_eq_true, bne_eq_false_iff_eq, Bool.or_eq_false_iff, Bool.and_eq_false_iff] at c5
      refine den_exit ?_
      refine denX_code ?_
      refine denX_stop ?_
      refine denX_hit ?_
      refine den_seq ?_
      refine den_region TTok ?_
      intro K hK
      simp -implicitDefEqProofs (disch := first | decide | assumption | omega) only [go_sem, RdS.len hdX sl22, RdS.idx hdX sl22, R1.intB hdX (Ext.pres eB), RdS.cells hdX, RdS.len hmX sl23, RdS.idx hmX sl23, RdS.cellB hmX (Ext.pres eB), RdS.cells hmX, RdS.len hvX sl26, RdS.idx hvX sl26, RdS.cellB hvX (Ext.pres eB), RdS.cells hvX, wrap_id]
      refine hK _ _ ?_
      clear hK K
      refine den_ret ?_
      simp (disch := decide) only [resP_1, puts_same, puts_ne]
      exact ⟨vbool (isF_yes (isF_sp hC (by omega) (fun n hn => hrow n (by omega)) (fun m h1 h2 => hR1 m h1 (by omega)))), eB⟩
end Go.Proofs.Ytjjjgllbocgkbaa

namespace Go.Proofs.Ytjjjgllbocgkbaa
open Go
def keptT (X : Fl) (n q : Int) (m : Nat) : List Int := ((List.range m).filter fun i : Nat => decide (lvP X n (i : Int) ≤ q)).map fun i : Nat => (i : Int)
def keptP (X : Fl) (n q : Int) : List Int := keptT X n q (dimP X.c n).toNat
theorem keptT_yes {X : Fl} {n q : Int} {m : Nat} (h : lvP X n (m : Int) ≤ q) : keptT X n q m ++ [(m : Int)] = keptT X n q (m + 1) := by
 unfold keptT
 rw [List.range_succ, List.filter_append, List.map_append]
 simp [h]
theorem keptT_no {X : Fl} {n q : Int} {m : Nat} (h : ¬ lvP X n (m : Int) ≤ q) : keptT X n q m = keptT X n q (m + 1) := by
 unfold keptT
 rw [List.range_succ, List.filter_append, List.map_append]
 simp [h]
theorem keptT_len (X : Fl) (n q : Int) (m : Nat) : (keptT X n q m).length ≤ m := by
 unfold keptT
 rw [List.length_map]
 exact Nat.le_trans (List.length_filter_le _ _) (by simp)
theorem keptT_at {X : Fl} {n q : Int} {m k : Nat} (hk : k < (keptT X n q m).length) : ∃ i : Nat, (keptT X n q m).getD k 0 = (i : Int) ∧ i < m ∧ lvP X n (i : Int) ≤ q := by
 have h : (keptT X n q m)[k] ∈ keptT X n q m := List.getElem_mem hk
 obtain ⟨i, hi, e⟩ := List.mem_map.1 h
 rw [List.mem_filter, List.mem_range, decide_eq_true_eq] at hi
 exact ⟨i, by rw [List.getD_eq_getElem?_getD, List.getElem?_eq_getElem hk]; exact e.symm, hi.1, hi.2⟩
theorem keptT_mem {X : Fl} {n q : Int} {m i : Nat} : (i : Int) ∈ keptT X n q m ↔ i < m ∧ lvP X n (i : Int) ≤ q := by
 unfold keptT
 rw [List.mem_map]
 constructor
 ·rintro ⟨j, hj, e⟩
  rw [List.mem_filter, List.mem_range, decide_eq_true_eq] at hj
  rw [show i = j by omega]
  exact hj
 ·rintro ⟨h1, h2⟩
  exact ⟨i, by rw [List.mem_filter, List.mem_range, decide_eq_true_eq]; exact ⟨h1, h2⟩, rfl⟩
theorem IsF.dim {X : Fl} (h : IsF X) {n : Int} (h0 : 0 ≤ n) (h1 : n < X.c.dims.length) : ((X.lv.getD n.toNat default).length : Int) = dimP X.c n := by
 have l := h.ln
 rw [dimP, if_pos (in3_iff.2 ⟨h0, by omega⟩), h.rl n.toNat (by omega)]
theorem keptP_len {X : Fl} (h : IsF X) (n q : Int) : (keptP X n q).length ≤ 8 := by
 have := dimP_bnd h.c n
 have := keptT_len X n q (dimP X.c n).toNat
 unfold keptP; omega
theorem keptP_out {X : Fl} {n q : Int} (h : n < 0 ∨ (X.c.dims.length : Int) ≤ n) : keptP X n q = [] := by
 unfold keptP
 rw [dimP_out (by omega)]; rfl

set_option maxRecDepth 100000 in
theorem iKept_ok (vX : Value) (X : Fl) (n : Int) (q : Int) (h : Heap) (rX : RF h vX X) (hF : IsF X) (hn : -1000 ≤ n ∧ n ≤ 1000) : CallA Try.prog 82 #[vX, .int .i64 n, .int .i64 q] h fun v' h' => ∃ w0 f0, v' = w0 ∧ O1 h' w0 (keptP X n q) f0 ∧ Fresh h.size f0 ∧ Ext h h' := by
 obtain ⟨vdX, vmX, vvX, rfl, hdX, hmX, hvX⟩ := rX
 have hledX := RdS.le hdX
 have hlemX := RdS.le hmX
 have hlevX := RdS.le hvX
 have hC := hF.c
 have hlC := hC.len
 have hln := hF.ln
 have hdb := dimP_bnd hC n
 refine callA_intro TTok (args := [_, _, _]) Try.func82 (by kernel_rfl) rfl 38 rfl (by simp) [.tmp 6] rfl ?_
 simp only [idxs, Nat.reduceAdd]
 refine den_seq ?_
 refine den_region TTok ?_
 intro K hK
 simp -implicitDefEqProofs (disch := first | decide | assumption | omega) only [go_sem, RdS.len hdX sl22, RdS.idx hdX sl22, R1.intB hdX (HPres.refl _), RdS.cells hdX, RdS.len hmX sl23, RdS.idx hmX sl23, RdS.cellB hmX (HPres.refl _), RdS.cells hmX, RdS.len hvX sl26, RdS.idx hvX sl26, RdS.cellB hvX (HPres.refl _), RdS.cells hvX, wrap_id]
 refine op_box (cs := #[.int .i64 (X.c.p), vdX, vmX, vvX]) rfl ?_
 intro h0_0 e0_0 hb0_0 z0_0
 have := Ext.size e0_0
 have eB := e0_0
 have hfhb0_0 : Fresh h.size [h.size] := Fresh.one _
 have hlhb0_0 := one_lt (show h.size < h0_0.size by omega)
 try simp -implicitDefEqProofs (disch := first | decide | assumption | omega) only [go_sem, RdS.len hdX sl22, RdS.idx hdX sl22, R1.intB hdX (Ext.pres eB), RdS.cells hdX, RdS.len hmX sl23, RdS.idx hmX sl23, RdS.cellB hmX (Ext.pres eB), RdS.cells hmX, RdS.len hvX sl26, RdS.idx hvX sl26, RdS.cellB hvX (Ext.pres eB), RdS.cells hvX, BoxAt.cell hb0_0, wrap_id]
 refine hK _ _ ?_
 clear hK K
 refine den_seq ?_
 refine den_region TTok ?_
 intro K hK
 simp -implicitDefEqProofs (disch := first | decide | assumption | omega) only [go_sem, RdS.len hdX sl22, RdS.idx hdX sl22, R1.intB hdX (Ext.pres eB), RdS.cells hdX, RdS.len hmX sl23, RdS.idx hmX sl23, RdS.cellB hmX (Ext.pres eB), RdS.cells hmX, RdS.len hvX sl26, RdS.idx hvX sl26, RdS.cellB hvX (Ext.pres eB), RdS.cells hvX, BoxAt.cell hb0_0, wrap_id]
 refine op_bs0 sz22 OI ?_
 intro v1_0 h1_0 ho1_0 e1_0
 replace hb0_0 := BoxAt.ext hb0_0 e1_0
 have := Ext.size e1_0
 replace eB := Ext.trans eB e1_0
 have hfho1_0 : Fresh h0_0.size [h0_0.size] := Fresh.one _
 have hlho1_0 := OS.lt ho1_0
 try simp -implicitDefEqProofs (disch := first | decide | assumption | omega) only [go_sem, RdS.len hdX sl22, RdS.idx hdX sl22, R1.intB hdX (Ext.pres eB), RdS.cells hdX, RdS.len hmX sl23, RdS.idx hmX sl23, RdS.cellB hmX (Ext.pres eB), RdS.cells hmX, RdS.len hvX sl26, RdS.idx hvX sl26, RdS.cellB hvX (Ext.pres eB), RdS.cells hvX, RdS.len (OS.rd ho1_0) sl22, RdS.idx (OS.rd ho1_0) sl22, R1.intN (OS.rd ho1_0), RdS.cells (OS.rd ho1_0), BoxAt.cell hb0_0, wrap_id]
 refine hK _ _ ?_
 clear hK K
 refine den_seq ?_
 refine den_seq ?_
 refine den_region TTok ?_
 intro K hK
 simp -implicitDefEqProofs (disch := first | decide | assumption | omega) only [go_sem, fa33_0, ld31, RdS.len hdX sl22, RdS.idx hdX sl22, R1.intB hdX (Ext.pres eB), RdS.cells hdX, RdS.len hmX sl23, RdS.idx hmX sl23, RdS.cellB hmX (Ext.pres eB), RdS.cells hmX, RdS.len hvX sl26, RdS.idx hvX sl26, RdS.cellB hvX (Ext.pres eB), RdS.cells hvX, RdS.len (OS.rd ho1_0) sl22, RdS.idx (OS.rd ho1_0) sl22, R1.intN (OS.rd ho1_0), RdS.cells (OS.rd ho1_0), BoxAt.cell hb0_0, wrap_id]
 try simp -implicitDefEqProofs (disch := first | decide | assumption | omega) only [go_sem, RdS.len hdX sl22, RdS.idx hdX sl22, R1.intB hdX (Ext.pres eB), RdS.cells hdX, RdS.len hmX sl23, RdS.idx hmX sl23, RdS.cellB hmX (Ext.pres eB), RdS.cells hmX, RdS.len hvX sl26, RdS.idx hvX sl26, RdS.cellB hvX (Ext.pres eB), RdS.cells hvX, RdS.len (OS.rd ho1_0) sl22, RdS.idx (OS.rd ho1_0) sl22, R1.intN (OS.rd ho1_0), RdS.cells (OS.rd ho1_0), BoxAt.cell hb0_0, wrap_id]
 refine CallA.mono (top_ok _ X.c _ ⟨_, _, rfl, (RdS.pres hdX (Ext.pres eB)), (RdS.pres hmX (Ext.pres eB))⟩) ?_
 intro v_ h2_3
 rintro ⟨rfl, e2_3⟩
 replace ho1_0 := OS.ext ho1_0 e2_3
 replace hb0_0 := BoxAt.ext hb0_0 e2_3
 have := Ext.size e2_3
 replace eB := Ext.trans eB e2_3
 try simp -implicitDefEqProofs (disch := first | decide | assumption | omega) only [go_sem, RdS.len hdX sl22, RdS.idx hdX sl22, R1.intB hdX (Ext.pres eB), RdS.cells hdX, RdS.len hmX sl23, RdS.idx hmX sl23, RdS.cellB hmX (Ext.pres eB), RdS.cells hmX, RdS.len hvX sl26, RdS.idx hvX sl26, RdS.cellB hvX (Ext.pres eB), RdS.cells hvX, RdS.len (OS.rd ho1_0) sl22, RdS.idx (OS.rd ho1_0) sl22, R1.intN (OS.rd ho1_0), RdS.cells (OS.rd ho1_0), BoxAt.cell hb0_0, wrap_id]
 try simp -implicitDefEqProofs (disch := first | decide | assumption | omega) only [go_sem, RdS.len hdX sl22, RdS.idx hdX sl22, R1.intB hdX (Ext.pres eB), RdS.cells hdX, RdS.len hmX sl23, RdS.idx hmX sl23, RdS.cellB hmX (Ext.pres eB), RdS.cells hmX, RdS.len hvX sl26, RdS.idx hvX sl26, RdS.cellB hvX (Ext.pres eB), RdS.cells hvX, RdS.len (OS.rd ho1_0) sl22, RdS.idx (OS.rd ho1_0) sl22, R1.intN (OS.rd ho1_0), RdS.cells (OS.rd ho1_0), BoxAt.cell hb0_0, wrap_id]
 refine CallA.pure (iIn_ok _ _ _ _) ?_
 try simp -implicitDefEqProofs (disch := first | decide | assumption | omega) only [go_sem, RdS.len hdX sl22, RdS.idx hdX sl22, R1.intB hdX (Ext.pres eB), RdS.cells hdX, RdS.len hmX sl23, RdS.idx hmX sl23, RdS.cellB hmX (Ext.pres eB), RdS.cells hmX, RdS.len hvX sl26, RdS.idx hvX sl26, RdS.cellB hvX (Ext.pres eB), RdS.cells hvX, RdS.len (OS.rd ho1_0) sl22, RdS.idx (OS.rd ho1_0) sl22, R1.intN (OS.rd ho1_0), RdS.cells (OS.rd ho1_0), BoxAt.cell hb0_0, wrap_id]
 refine hK _ _ ?_
 clear hK K
 refine den_cond rfl (fun c0 => ?_) (fun c0 => ?_)
 ·try simp only [decide_eq_true_eq, decide_eq_false_iff_not, beq_iff_eq, beq_eq_false_iff_ne, bne_iff_ne, ne_eq, Bool.not_eq_true', Bool.not_eq_false', Bool.and_eq_true, Bool.or_eq_true, bne_eq_false_iff_eq, in3_iff, in3_f] at c0
  refine den_seq ?_
  refine den_region TTok ?_
  intro K hK
  simp -implicitDefEqProofs (disch := first | decide | assumption | omega) only [go_sem, RdS.len hdX sl22, RdS.idx hdX sl22, R1.intB hdX (Ext.pres eB), RdS.cells hdX, RdS.len hmX sl23, RdS.idx hmX sl23, RdS.cellB hmX (Ext.pres eB), RdS.cells hmX, RdS.len hvX sl26, RdS.idx hvX sl26, RdS.cellB hvX (Ext.pres eB), RdS.cells hvX, RdS.len (OS.rd ho1_0) sl22, RdS.idx (OS.rd ho1_0) sl22, R1.intN (OS.rd ho1_0), RdS.cells (OS.rd ho1_0), wrap_id]
  refine hK _ _ ?_
  clear hK K
  refine den_ret ?_
  simp (disch := decide) only [resP_1, puts_same, puts_ne]
  rw [keptP_out (by omega)]
  exact ⟨_, _, rfl, ho1_0, hfho1_0.mono (by omega), eB⟩
 ·try simp only [decide_eq_true_eq, decide_eq_false_iff_not, beq_iff_eq, beq_eq_false_iff_ne, bne_iff_ne, ne_eq, Bool.not_eq_true', Bool.not_eq_false', Bool.and_eq_true, Bool.or_eq_true, bne_eq_false_iff_eq, in3_iff, in3_f] at c0
  have hdm := hF.dim (n := n) (by omega) (by omega)
  have hdn : n.toNat < X.lv.length := by omega
  refine den_skip ?_
  refine den_seq ?_
  refine den_seq ?_
  refine den_region TTok ?_
  intro K hK
  have hr1 := RdS.rowN hvX (n).toNat (by omega)
  have hlhr1 := RdS.le hr1
  simp -implicitDefEqProofs (disch := first | decide | assumption | omega) only [go_sem, fa33_1, ld26, ld22, RdS.len hdX sl22, RdS.idx hdX sl22, R1.intB hdX (Ext.pres eB), RdS.cells hdX, RdS.len hmX sl23, RdS.idx hmX sl23, RdS.cellB hmX (Ext.pres eB), RdS.cells hmX, RdS.len hvX sl26, RdS.idx hvX sl26, RdS.cellB hvX (Ext.pres eB), RdS.cells hvX, RdS.len hr1 sl22, RdS.idx hr1 sl22, R1.intB hr1 (Ext.pres eB), RdS.cells hr1, RdS.len (OS.rd ho1_0) sl22, RdS.idx (OS.rd ho1_0) sl22, R1.intN (OS.rd ho1_0), RdS.cells (OS.rd ho1_0), BoxAt.cell hb0_0, wrap_id]
  refine hK _ _ ?_
  clear hK K
  refine den_block ?_
  refine den_sel [7, 24, 2, 22, 23] ?_
  intro env_2
  simp only [go_sem]
  refine den_loopS (σ := Nat × Value × List Nat) (fun st_ => [(7, st_.2.1), (24, .int .i64 (st_.1 : Int))]) (fun st_ H => (st_.1 ≤ (X.lv.getD n.toNat default).length) ∧ (O1 H st_.2.1 (keptT X n q st_.1) st_.2.2) ∧ (Fresh (h0_0.size) st_.2.2) ∧ (Sub [h0_0.size] h2_3.size st_.2.2) ∧ (Chg [h0_0.size] h2_3 H)) (fun st_ => (X.lv.getD n.toNat default).length - st_.1) (0, v1_0, [h0_0.size]) ?_ ?_
  ·exact ⟨by first | (simp; done) | (dsimp only; omega) | (simp; omega), by show O1 _ _ [] _; exact ho1_0, hfho1_0, Sub.refl, Chg.refl _ _⟩
  ·rintro ⟨i, vhO, fphO⟩ h5 ee4 ⟨hi0, hO, hfhO, sbhO, cL3⟩
   dsimp only at hi0 hO hfhO sbhO cL3
   replace hb0_0 := BoxAt.chgA hb0_0 cL3 (apart_lt hlhb0_0 hfho1_0 (by omega))
   have := cL3.size
   replace eB := Ext.then eB cL3 (ge_of hfho1_0 (by omega))
   have hlhO := OS.lt hO
   simp only [List.cons_append, List.nil_append]
   have hkl := keptT_len X n q i
   refine den_seq ?_
   refine den_region TTok ?_
   intro K hK
   simp -implicitDefEqProofs (disch := first | decide | assumption | omega) only [go_sem, RdS.len hdX sl22, RdS.idx hdX sl22, R1.intB hdX (Ext.pres eB), RdS.cells hdX, RdS.len hmX sl23, RdS.idx hmX sl23, RdS.cellB hmX (Ext.pres eB), RdS.cells hmX, RdS.len hvX sl26, RdS.idx hvX sl26, RdS.cellB hvX (Ext.pres eB), RdS.cells hvX, RdS.len hr1 sl22, RdS.idx hr1 sl22, R1.intB hr1 (Ext.pres eB), RdS.cells hr1, RdS.len (OS.rd hO) sl22, RdS.idx (OS.rd hO) sl22, R1.intN (OS.rd hO), RdS.cells (OS.rd hO), wrap_id]
   refine hK _ _ ?_
   clear hK K
   refine den_seq ?_
   refine den_cond rfl (fun c1 => ?_) (fun c1 => ?_)
   ·try simp only [decide_eq_true_eq, decide_eq_false_iff_not, beq_iff_eq, beq_eq_false_iff_ne, bne_iff_ne, ne_eq, Bool.not_eq_true', Bool.not_eq_false', Bool.and_eq_true, Bool.or_eq_true, bne_eq_false_iff_eq, in3_iff, in3_f] at c1
    refine den_skip ?_
    refine den_seq ?_
    refine den_block ?_
    refine den_seq ?_
    refine den_region TTok ?_
    intro K hK
    simp -implicitDefEqProofs (disch := first | decide | assumption | omega) only [go_sem, ld2, RdS.len hdX sl22, RdS.idx hdX sl22, R1.intB hdX (Ext.pres eB), RdS.cells hdX, RdS.len hmX sl23, RdS.idx hmX sl23, RdS.cellB hmX (Ext.pres eB), RdS.cells hmX, RdS.len hvX sl26, RdS.idx hvX sl26, RdS.cellB hvX (Ext.pres eB), RdS.cells hvX, RdS.len hr1 sl22, RdS.idx hr1 sl22, R1.intB hr1 (Ext.pres eB), RdS.cells hr1, RdS.len (OS.rd hO) sl22, RdS.idx (OS.rd hO) sl22, R1.intN (OS.rd hO), RdS.cells (OS.rd hO), wrap_id]
    refine hK _ _ ?_
    clear hK K
    refine den_seq ?_
    refine den_region TTok ?_
    intro K hK
    simp -implicitDefEqProofs (disch := first | decide | assumption | omega) only [go_sem, RdS.len hdX sl22, RdS.idx hdX sl22, R1.intB hdX (Ext.pres eB), RdS.cells hdX, RdS.len hmX sl23, RdS.idx hmX sl23, RdS.cellB hmX (Ext.pres eB), RdS.cells hmX, RdS.len hvX sl26, RdS.idx hvX sl26, RdS.cellB hvX (Ext.pres eB), RdS.cells hvX, RdS.len hr1 sl22, RdS.idx hr1 sl22, R1.intB hr1 (Ext.pres eB), RdS.cells hr1, RdS.len (OS.rd hO) sl22, RdS.idx (OS.rd hO) sl22, R1.intN (OS.rd hO), RdS.cells (OS.rd hO), wrap_id]
    refine hK _ _ ?_
    clear hK K
    refine den_cond rfl (fun c2 => ?_) (fun c2 => ?_)
    ·try simp only [decide_eq_true_eq, decide_eq_false_iff_not, beq_iff_eq, beq_eq_false_iff_ne, bne_iff_ne, ne_eq, Bool.not_eq_true', Bool.not_eq_false', Bool.and_eq_true, Bool.or_eq_true, bne_eq_false_iff_eq, in3_iff, in3_f] at c2
     refine den_region TTok ?_
     intro K hK
     simp -implicitDefEqProofs (disch := first | decide | assumption | omega) only [go_sem, RdS.len hdX sl22, RdS.idx hdX sl22, R1.intB hdX (Ext.pres eB), RdS.cells hdX, RdS.len hmX sl23, RdS.idx hmX sl23, RdS.cellB hmX (Ext.pres eB), RdS.cells hmX, RdS.len hvX sl26, RdS.idx hvX sl26, RdS.cellB hvX (Ext.pres eB), RdS.cells hvX, RdS.len hr1 sl22, RdS.idx hr1 sl22, R1.intB hr1 (Ext.pres eB), RdS.cells hr1, RdS.len (OS.rd hO) sl22, RdS.idx (OS.rd hO) sl22, R1.intN (OS.rd hO), RdS.cells (OS.rd hO), wrap_id]
     refine op_bs1 sz22 rfl rfl ?_
     try simp -implicitDefEqProofs (disch := first | decide | assumption | omega) only [go_sem, RdS.len hdX sl22, RdS.idx hdX sl22, R1.intB hdX (Ext.pres eB), RdS.cells hdX, RdS.len hmX sl23, RdS.idx hmX sl23, RdS.cellB hmX (Ext.pres eB), RdS.cells hmX, RdS.len hvX sl26, RdS.idx hvX sl26, RdS.cellB hvX (Ext.pres eB), RdS.cells hvX, RdS.len hr1 sl22, RdS.idx hr1 sl22, R1.intB hr1 (Ext.pres eB), RdS.cells hr1, RdS.len (OS.rd hO) sl22, RdS.idx (OS.rd hO) sl22, R1.intN (OS.rd hO), RdS.cells (OS.rd hO), wrap_id]
     refine op_append1 sz22 hO hfhO.nodup ⟨rfl, rfl⟩ List.nodup_nil (Apart.nil _) (by first | omega | (simp; omega)) rfl rfl ?_
     intro v8_3 h8_3 fp8_3 ho8_3 hn8_3 hs8_3 c8_3
     have hsz8_3 := c8_3.size
     have hfho8_3 : Fresh h0_0.size fp8_3 := Fresh.appd hfhO (Fresh.nil h5.size) (by omega) (by omega) hn8_3 hs8_3
     have sb6 : Sub [h0_0.size] h2_3.size fp8_3 := Sub.grow sbhO Sub.nil (by omega) hs8_3
     have := c8_3.size
     replace eB := Ext.then eB c8_3 (ge_of hfhO (by omega))
     replace cL3 := Chg.step cL3 c8_3 sbhO
     have hlho8_3 := OS.lt ho8_3
     try simp -implicitDefEqProofs (disch := first | decide | assumption | omega) only [go_sem, RdS.len hdX sl22, RdS.idx hdX sl22, R1.intB hdX (Ext.pres eB), RdS.cells hdX, RdS.len hmX sl23, RdS.idx hmX sl23, RdS.cellB hmX (Ext.pres eB), RdS.cells hmX, RdS.len hvX sl26, RdS.idx hvX sl26, RdS.cellB hvX (Ext.pres eB), RdS.cells hvX, RdS.len hr1 sl22, RdS.idx hr1 sl22, R1.intB hr1 (Ext.pres eB), RdS.cells hr1, RdS.len (OS.rd ho8_3) sl22, RdS.idx (OS.rd ho8_3) sl22, R1.intN (OS.rd ho8_3), RdS.cells (OS.rd ho8_3), wrap_id]
     refine hK _ _ ?_
     clear hK K
     refine den_blk ?_
     refine den_region TTok ?_
     intro K hK
     simp -implicitDefEqProofs (disch := first | decide | assumption | omega) only [go_sem, RdS.len hdX sl22, RdS.idx hdX sl22, R1.intB hdX (Ext.pres eB), RdS.cells hdX, RdS.len hmX sl23, RdS.idx hmX sl23, RdS.cellB hmX (Ext.pres eB), RdS.cells hmX, RdS.len hvX sl26, RdS.idx hvX sl26, RdS.cellB hvX (Ext.pres eB), RdS.cells hvX, RdS.len hr1 sl22, RdS.idx hr1 sl22, R1.intB hr1 (Ext.pres eB), RdS.cells hr1, RdS.len (OS.rd ho8_3) sl22, RdS.idx (OS.rd ho8_3) sl22, R1.intN (OS.rd ho8_3), RdS.cells (OS.rd ho8_3), wrap_id]
     refine hK _ _ ?_
     clear hK K
     refine den_stop ?_
     first | rw [keptT_yes (show lvP X n (i : Int) ≤ q by unfold lvP; rw [Int.toNat_natCast]; exact c2)] at ho8_3 | rw [keptT_no (show ¬ lvP X n (i : Int) ≤ q by unfold lvP; rw [Int.toNat_natCast]; exact c2)] at ho8_3
     exact ⟨(i + 1, v8_3, fp8_3), by simp [HasL, puts_at], ⟨by first | omega | (dsimp only; omega), ho8_3, hfho8_3, sb6, cL3⟩, by first | omega | (dsimp only; omega)⟩
    ·try simp only [decide_eq_true_eq, decide_eq_false_iff_not, beq_iff_eq, beq_eq_false_iff_ne, bne_iff_ne, ne_eq, Bool.not_eq_true', Bool.not_eq_false', Bool.and_eq_true, Bool.or_eq_true, bne_eq_false_iff_eq, in3_iff, in3_f] at c2
     refine den_skip ?_
     refine den_blk ?_
     refine den_region TTok ?_
     intro K hK
     simp -implicitDefEqProofs (disch := first | decide | assumption | omega) only [go_sem, RdS.len hdX sl22, RdS.idx hdX sl22, R1.intB hdX (Ext.pres eB), RdS.cells hdX, RdS.len hmX sl23, RdS.idx hmX sl23, RdS.cellB hmX (Ext.pres eB), RdS.cells hmX, RdS.len hvX sl26, RdS.idx hvX sl26, RdS.cellB hvX (Ext.pres eB), RdS.cells hvX, RdS.len hr1 sl22, RdS.idx hr1 sl22, R1.intB hr1 (Ext.pres eB), RdS.cells hr1, RdS.len (OS.rd hO) sl22, RdS.idx (OS.rd hO) sl22, R1.intN (OS.rd hO), RdS.cells (OS.rd hO), wrap_id]
     refine hK _ _ ?_
     clear hK K
     refine den_stop ?_
     first | rw [keptT_yes (show lvP X n (i : Int) ≤ q by unfold lvP; rw [Int.toNat_natCast]; exact c2)] at hO | rw [keptT_no (show ¬ lvP X n (i : Int) ≤ q by unfold lvP; rw [Int.toNat_natCast]; exact c2)] at hO
     exact ⟨(i + 1, vhO, fphO), by simp [HasL, puts_at], ⟨by first | omega | (dsimp only; omega), hO, hfhO, sbhO, cL3⟩, by first | omega | (dsimp only; omega)⟩
   ·try simp only [decide_eq_true_eq, decide_eq_false_iff_not, beq_iff_eq, beq_eq_false_iff_ne, bne_iff_ne, ne_eq, Bool.not_eq_true', Bool.not_eq_false', Bool.and_eq_true, Bool.or_eq_true, bne_eq_false_iff_eq, in3_iff, in3_f] at c1
    refine den_exit ?_
    refine denX_code ?_
    refine denX_stop ?_
    refine denX_hit ?_
    refine den_seq ?_
    refine den_region TTok ?_
    intro K hK
    simp -implicitDefEqProofs (disch := first | decide | assumption | omega) only [go_sem, RdS.len hdX sl22, RdS.idx hdX sl22, R1.intB hdX (Ext.pres eB), RdS.cells hdX, RdS.len hmX sl23, RdS.idx hmX sl23, RdS.cellB hmX (Ext.pres eB), RdS.cells hmX, RdS.len hvX sl26, RdS.idx hvX sl26, RdS.cellB hvX (Ext.pres eB), RdS.cells hvX, RdS.len hr1 sl22, RdS.idx hr1 sl22, R1.intB hr1 (Ext.pres eB), RdS.cells hr1, RdS.len (OS.rd hO) sl22, RdS.idx (OS.rd hO) sl22, R1.intN (OS.rd hO), RdS.cells (OS.rd hO), wrap_id]
    refine hK _ _ ?_
    clear hK K
    refine den_ret ?_
    simp (disch := decide) only [resP_1, puts_same, puts_ne]
    rw [show i = (dimP X.c n).toNat by omega] at hO
    exact ⟨_, _, rfl, hO, hfhO.mono (by omega), eB⟩
end Go.Proofs.Ytjjjgllbocgkbaa

namespace Go.Proofs.Ytjjjgllbocgkbaa
open Go
/-- A row times k, modulo p. -/
def sclRow (p k : Int) (r : List Int) : List Int := (List.range r.length).map fun q : Nat => (k * r.getD q 0) % p
def lessRow (p k : Int) (a b : List Int) : List Int := (List.range a.length).map fun q : Nat => (a.getD q 0 - k * b.getD q 0) % p
theorem mul42A {k y p : Int} (hk : -6 ≤ k ∧ k ≤ 6) (hy : 0 ≤ y ∧ y < p) (hp : p ≤ 7) : -36 ≤ k * y ∧ k * y ≤ 36 := by
 have h1 : k * y ≤ 6 * y := Int.mul_le_mul_of_nonneg_right hk.2 hy.1
 have h2 : (-6) * y ≤ k * y := Int.mul_le_mul_of_nonneg_right hk.1 hy.1
 omega

set_option maxRecDepth 100000 in
theorem sMod_ok (p : Int) (x : Int) (h : Heap)  (hp : 0 < p ∧ p ≤ 7) (hx : -1000000 ≤ x ∧ x ≤ 1000000) : CallA Try.prog 209 #[.int .i64 p, .int .i64 x] h fun v' h' => v' = .int .i64 (x % p) ∧ Ext h h' := by
 have htm := tmod_in (x := x) hp.1
 refine callA_intro TTok (args := [_, _]) Try.func209 (by kernel_rfl) rfl 12 rfl (by simp) [.tmp 4] rfl ?_
 simp only [idxs, Nat.reduceAdd]
 refine den_seq ?_
 refine den_region TTok ?_
 intro K hK
 simp -implicitDefEqProofs (disch := first | decide | assumption | omega) only [go_sem, wrap_id]
 refine hK _ _ ?_
 clear hK K
 refine den_seq ?_
 refine den_region TTok ?_
 intro K hK
 simp -implicitDefEqProofs (disch := first | decide | assumption | omega) only [go_sem, wrap_id]
 refine hK _ _ ?_
 clear hK K
 refine den_ret ?_
 simp (disch := decide) only [resP_1, puts_same, puts_ne]
 exact ⟨vint (mod_twice hp.1), (Ext.refl _)⟩

set_option maxRecDepth 100000 in
theorem sOwn_ok (vu : Value) (u : List Int) (h : Heap) (ru : R1 h vu u) (hl : (u.length : Int) ≤ 1048576) : CallA Try.prog 207 #[vu] h fun v' h' => ∃ w0 f0, v' = w0 ∧ O1 h' w0 (u) f0 ∧ Fresh h.size f0 ∧ Ext h h' := by
 have hleu := RdS.le ru
 refine callA_intro TTok (args := [_]) Try.func207 (by kernel_rfl) rfl 6 rfl (by simp) [.tmp 2] rfl ?_
 simp only [idxs, Nat.reduceAdd]
 refine den_seq ?_
 refine den_region TTok ?_
 intro K hK
 simp -implicitDefEqProofs (disch := first | decide | assumption | omega) only [go_sem, RdS.len ru sl22, RdS.idx ru sl22, R1.intB ru (HPres.refl _), RdS.cells ru, wrap_id]
 refine hK _ _ ?_
 clear hK K
 refine den_seq ?_
 refine den_region TTok ?_
 intro K hK
 simp -implicitDefEqProofs (disch := first | decide | assumption | omega) only [go_sem, RdS.len ru sl22, RdS.idx ru sl22, R1.intB ru (HPres.refl _), RdS.cells ru, wrap_id]
 refine op_bs0 sz22 OI ?_
 intro v1_0 h1_0 ho1_0 e1_0
 have := Ext.size e1_0
 have eB := e1_0
 have hfho1_0 : Fresh h.size [h.size] := Fresh.one _
 have hlho1_0 := OS.lt ho1_0
 try simp -implicitDefEqProofs (disch := first | decide | assumption | omega) only [go_sem, RdS.len ru sl22, RdS.idx ru sl22, R1.intB ru (Ext.pres eB), RdS.cells ru, RdS.len (OS.rd ho1_0) sl22, RdS.idx (OS.rd ho1_0) sl22, R1.intN (OS.rd ho1_0), RdS.cells (OS.rd ho1_0), wrap_id]
 refine op_appendR ho1_0 (RdS.pres ru (Ext.pres eB)) (by first | omega | (simp; omega)) rfl ?_
 intro v1_2 h1_2 fp1_2 ho1_2 hn1_2 hs1_2 c1_2
 have hsz1_2 := c1_2.size
 have hfho1_2 : Fresh h.size fp1_2 := Fresh.appd hfho1_0 (Fresh.nil h1_0.size) (by omega) (by omega) hn1_2 hs1_2
 have := c1_2.size
 replace eB := Ext.then eB c1_2 (ge_of hfho1_0 (by omega))
 have hlho1_2 := OS.lt ho1_2
 try simp -implicitDefEqProofs (disch := first | decide | assumption | omega) only [go_sem, RdS.len ru sl22, RdS.idx ru sl22, R1.intB ru (Ext.pres eB), RdS.cells ru, RdS.len (OS.rd ho1_2) sl22, RdS.idx (OS.rd ho1_2) sl22, R1.intN (OS.rd ho1_2), RdS.cells (OS.rd ho1_2), wrap_id]
 refine hK _ _ ?_
 clear hK K
 refine den_ret ?_
 simp (disch := decide) only [resP_1, puts_same, puts_ne]
 exact ⟨_, _, rfl, ho1_2, hfho1_2.mono (by omega), eB⟩

set_option maxRecDepth 100000 in
theorem sLess_ok (va vb : Value) (p : Int) (a : List Int) (b : List Int) (k : Int) (h : Heap) (ra : R1 h va a) (rb : R1 h vb b) (hp : 0 < p ∧ p ≤ 7) (hl : a.length ≤ b.length ∧ a.length ≤ 1000) (ha : Bnd p a) (hb : Bnd p b) (hk : -6 ≤ k ∧ k ≤ 6) : CallA Try.prog 205 #[.int .i64 p, va, vb, .int .i64 k] h fun v' h' => ∃ w0 f0, v' = w0 ∧ O1 h' w0 (lessRow p k a b) f0 ∧ Fresh h.size f0 ∧ Ext h h' := by
 have hlea := RdS.le ra
 have hleb := RdS.le rb
 refine callA_intro TTok (args := [_, _, _, _]) Try.func205 (by kernel_rfl) rfl 35 rfl (by simp) [.tmp 8] rfl ?_
 simp only [idxs, Nat.reduceAdd]
 refine den_seq ?_
 refine den_region TTok ?_
 intro K hK
 simp -implicitDefEqProofs (disch := first | decide | assumption | omega) only [go_sem, RdS.len ra sl22, RdS.idx ra sl22, R1.intB ra (HPres.refl _), RdS.cells ra, RdS.len rb sl22, RdS.idx rb sl22, R1.intB rb (HPres.refl _), RdS.cells rb, wrap_id]
 refine hK _ _ ?_
 clear hK K
 refine den_seq ?_
 refine den_region TTok ?_
 intro K hK
 simp -implicitDefEqProofs (disch := first | decide | assumption | omega) only [go_sem, RdS.len ra sl22, RdS.idx ra sl22, R1.intB ra (HPres.refl _), RdS.cells ra, RdS.len rb sl22, RdS.idx rb sl22, R1.intB rb (HPres.refl _), RdS.cells rb, wrap_id]
 refine op_bs0 sz22 OI ?_
 intro v1_0 h1_0 ho1_0 e1_0
 have := Ext.size e1_0
 have eB := e1_0
 have hfho1_0 : Fresh h.size [h.size] := Fresh.one _
 have hlho1_0 := OS.lt ho1_0
 try simp -implicitDefEqProofs (disch := first | decide | assumption | omega) only [go_sem, RdS.len ra sl22, RdS.idx ra sl22, R1.intB ra (Ext.pres eB), RdS.cells ra, RdS.len rb sl22, RdS.idx rb sl22, R1.intB rb (Ext.pres eB), RdS.cells rb, RdS.len (OS.rd ho1_0) sl22, RdS.idx (OS.rd ho1_0) sl22, R1.intN (OS.rd ho1_0), RdS.cells (OS.rd ho1_0), wrap_id]
 refine hK _ _ ?_
 clear hK K
 refine den_seq ?_
 refine den_seq ?_
 refine den_region TTok ?_
 intro K hK
 simp -implicitDefEqProofs (disch := first | decide | assumption | omega) only [go_sem, RdS.len ra sl22, RdS.idx ra sl22, R1.intB ra (Ext.pres eB), RdS.cells ra, RdS.len rb sl22, RdS.idx rb sl22, R1.intB rb (Ext.pres eB), RdS.cells rb, RdS.len (OS.rd ho1_0) sl22, RdS.idx (OS.rd ho1_0) sl22, R1.intN (OS.rd ho1_0), RdS.cells (OS.rd ho1_0), wrap_id]
 refine hK _ _ ?_
 clear hK K
 refine den_block ?_
 refine den_sel [9, 10, 0, 1, 2, 3] ?_
 intro env_1
 simp only [go_sem]
 refine den_loopS (σ := Nat × Value × List Nat) (fun st_ => [(9, st_.2.1), (10, .int .i64 (st_.1 : Int))]) (fun st_ H => (st_.1 ≤ a.length) ∧ (O1 H st_.2.1 ((List.range st_.1).map fun q : Nat => (a.getD q 0 - k * b.getD q 0) % p) st_.2.2) ∧ (Fresh (h.size) st_.2.2) ∧ (Sub [h.size] h1_0.size st_.2.2) ∧ (Chg [h.size] h1_0 H)) (fun st_ => a.length - st_.1) (0, v1_0, [h.size]) ?_ ?_
 ·exact ⟨by first | (simp; done) | (dsimp only; omega) | (simp; omega), by simpa using ho1_0, hfho1_0, Sub.refl, Chg.refl _ _⟩
 ·rintro ⟨i, vhO, fphO⟩ h4 ee3 ⟨hi0, hO, hfhO, sbhO, cL2⟩
  dsimp only at hi0 hO hfhO sbhO cL2
  have := cL2.size
  replace eB := Ext.then eB cL2 (ge_of hfho1_0 (by omega))
  have hlhO := OS.lt hO
  simp only [List.cons_append, List.nil_append]
  have hlo : ((List.range i).map fun q : Nat => (a.getD q 0 - k * b.getD q 0) % p).length = i := by simp
  refine den_seq ?_
  refine den_seq ?_
  refine den_region TTok ?_
  intro K hK
  simp -implicitDefEqProofs (disch := first | decide | assumption | omega) only [go_sem, RdS.len ra sl22, RdS.idx ra sl22, R1.intB ra (Ext.pres eB), RdS.cells ra, RdS.len rb sl22, RdS.idx rb sl22, R1.intB rb (Ext.pres eB), RdS.cells rb, RdS.len (OS.rd hO) sl22, RdS.idx (OS.rd hO) sl22, R1.intN (OS.rd hO), RdS.cells (OS.rd hO), wrap_id]
  refine hK _ _ ?_
  clear hK K
  refine den_cond rfl (fun c0 => ?_) (fun c0 => ?_)
  ·try simp only [decide_eq_true_eq, decide_eq_false_iff_not, beq_iff_eq, beq_eq_false_iff_ne, bne_iff_ne, ne_eq, Bool.not_eq_true', Bool.not_eq_false', Bool.and_eq_true, Bool.or_eq_true, bne_eq_false_iff_eq] at c0
   refine den_skip ?_
   refine den_seq ?_
   refine den_block ?_
   have hxa := ha.at (k := i) (by omega)
   have hxb := hb.at (k := i) (by omega)
   have hky := mul42A hk hxb hp.2
   refine den_draw TTok mixed [15] [(0, true), (1, true), (2, true), (3, true), (4, true), (5, true), (6, true), (7, true), (8, true), (9, true), (10, true), (11, true), (12, true), (13, false), (14, false), (15, false), (16, true)] (by kernel_rfl) ?_
   intro K hK
   simp -implicitDefEqProofs (disch := first | decide | assumption | omega) only [go_sem, ld2, RdS.len ra sl22, RdS.idx ra sl22, R1.intB ra (Ext.pres eB), RdS.cells ra, RdS.len rb sl22, RdS.idx rb sl22, R1.intB rb (Ext.pres eB), RdS.cells rb, RdS.len (OS.rd hO) sl22, RdS.idx (OS.rd hO) sl22, R1.intN (OS.rd hO), RdS.cells (OS.rd hO), wrap_id]
   try simp -implicitDefEqProofs (disch := first | decide | assumption | omega) only [go_sem, RdS.len ra sl22, RdS.idx ra sl22, R1.intB ra (Ext.pres eB), RdS.cells ra, RdS.len rb sl22, RdS.idx rb sl22, R1.intB rb (Ext.pres eB), RdS.cells rb, RdS.len (OS.rd hO) sl22, RdS.idx (OS.rd hO) sl22, R1.intN (OS.rd hO), RdS.cells (OS.rd hO), wrap_id]
   refine CallA.mono (sMod_ok  p (((a).getD i 0) - (k * ((b).getD i 0))) _  (by omega) (by omega)) ?_
   intro v_ h5_13
   rintro ⟨rfl, e5_13⟩
   replace hO := OS.ext hO e5_13
   have := Ext.size e5_13
   replace eB := Ext.trans eB e5_13
   replace cL2 := Chg.stepE cL2 e5_13
   try simp (disch := decide) only [outv_some, outv_none, put_puts]
   refine plK_pres (Ext.pres e5_13) ?_
   try simp -implicitDefEqProofs (disch := first | decide | assumption | omega) only [go_sem, RdS.len ra sl22, RdS.idx ra sl22, R1.intB ra (Ext.pres eB), RdS.cells ra, RdS.len rb sl22, RdS.idx rb sl22, R1.intB rb (Ext.pres eB), RdS.cells rb, RdS.len (OS.rd hO) sl22, RdS.idx (OS.rd hO) sl22, R1.intN (OS.rd hO), RdS.cells (OS.rd hO), wrap_id]
   refine op_bs1 sz22 rfl rfl ?_
   try simp (disch := decide) only [outv_some, outv_none, put_puts]
   refine plK_pres (Ext.pres (Ext.push _ _)) ?_
   try simp -implicitDefEqProofs (disch := first | decide | assumption | omega) only [go_sem, RdS.len ra sl22, RdS.idx ra sl22, R1.intB ra (Ext.pres eB), RdS.cells ra, RdS.len rb sl22, RdS.idx rb sl22, R1.intB rb (Ext.pres eB), RdS.cells rb, RdS.len (OS.rd hO) sl22, RdS.idx (OS.rd hO) sl22, R1.intN (OS.rd hO), RdS.cells (OS.rd hO), wrap_id]
   refine op_append1 sz22 hO hfhO.nodup ⟨rfl, rfl⟩ List.nodup_nil (Apart.nil _) (by first | omega | (simp; omega)) rfl rfl ?_
   intro v5_15 h5_15 fp5_15 ho5_15 hn5_15 hs5_15 c5_15
   have hsz5_15 := c5_15.size
   have hfho5_15 : Fresh h.size fp5_15 := Fresh.appd hfhO (Fresh.nil h5_13.size) (by omega) (by omega) hn5_15 hs5_15
   have sb5 : Sub [h.size] h1_0.size fp5_15 := Sub.grow sbhO Sub.nil (by omega) hs5_15
   have := c5_15.size
   replace eB := Ext.then eB c5_15 (ge_of hfhO (by omega))
   replace cL2 := Chg.step cL2 c5_15 sbhO
   have hlho5_15 := OS.lt ho5_15
   try simp (disch := decide) only [outv_some, outv_none, put_puts]
   refine plK_last (by decide) ?_
   try simp -implicitDefEqProofs (disch := first | decide | assumption | omega) only [go_sem, RdS.len ra sl22, RdS.idx ra sl22, R1.intB ra (Ext.pres eB), RdS.cells ra, RdS.len rb sl22, RdS.idx rb sl22, R1.intB rb (Ext.pres eB), RdS.cells rb, RdS.len (OS.rd ho5_15) sl22, RdS.idx (OS.rd ho5_15) sl22, R1.intN (OS.rd ho5_15), RdS.cells (OS.rd ho5_15), wrap_id]
   refine hK _ _ ?_
   clear hK K
   refine den_blk ?_
   refine den_region TTok ?_
   intro K hK
   simp -implicitDefEqProofs (disch := first | decide | assumption | omega) only [go_sem, RdS.len ra sl22, RdS.idx ra sl22, R1.intB ra (Ext.pres eB), RdS.cells ra, RdS.len rb sl22, RdS.idx rb sl22, R1.intB rb (Ext.pres eB), RdS.cells rb, RdS.len (OS.rd ho5_15) sl22, RdS.idx (OS.rd ho5_15) sl22, R1.intN (OS.rd ho5_15), RdS.cells (OS.rd ho5_15), wrap_id]
   refine hK _ _ ?_
   clear hK K
   refine den_stop ?_
   rw [range_step (fun q : Nat => (a.getD q 0 - k * b.getD q 0) % p)] at ho5_15
   exact ⟨(i + 1, v5_15, fp5_15), by simp [HasL, puts_at], ⟨by first | omega | (dsimp only; omega), ho5_15, hfho5_15, sb5, cL2⟩, by first | omega | (dsimp only; omega)⟩
  ·try simp only [decide_eq_true_eq, decide_eq_false_iff_not, beq_iff_eq, beq_eq_false_iff_ne, bne_iff_ne, ne_eq, Bool.not_eq_true', Bool.not_eq_false', Bool.and_eq_true, Bool.or_eq_true, bne_eq_false_iff_eq] at c0
   refine den_exit ?_
   refine denX_code ?_
   refine denX_stop ?_
   refine denX_hit ?_
   refine den_seq ?_
   refine den_region TTok ?_
   intro K hK
   simp -implicitDefEqProofs (disch := first | decide | assumption | omega) only [go_sem, RdS.len ra sl22, RdS.idx ra sl22, R1.intB ra (Ext.pres eB), RdS.cells ra, RdS.len rb sl22, RdS.idx rb sl22, R1.intB rb (Ext.pres eB), RdS.cells rb, RdS.len (OS.rd hO) sl22, RdS.idx (OS.rd hO) sl22, R1.intN (OS.rd hO), RdS.cells (OS.rd hO), wrap_id]
   refine hK _ _ ?_
   clear hK K
   refine den_ret ?_
   simp (disch := decide) only [resP_1, puts_same, puts_ne]
   rw [show i = a.length by omega] at hO
   exact ⟨_, _, rfl, hO, hfhO.mono (by omega), eB⟩
end Go.Proofs.Ytjjjgllbocgkbaa
