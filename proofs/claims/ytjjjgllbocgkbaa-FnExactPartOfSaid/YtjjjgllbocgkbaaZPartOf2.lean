/-
  What the statement FnExactPartOf uses of the walks, part 2.
  Conditions: each theorem's own.
-/
import Derived.Test.YtjjjgllbocgkbaaG16
import Derived.Test.YtjjjgllbocgkbaaG17
import Derived.Test.YtjjjgllbocgkbaaG14
import Derived.Test.YtjjjgllbocgkbaaG13
import Derived.Test.YtjjjgllbocgkbaaG15
import Derived.Test.YtjjjgllbocgkbaaG18
import Derived.Test.YtjjjgllbocgkbaaG19
import Derived.Test.YtjjjgllbocgkbaaZPartOf1
set_option linter.unusedVariables false
set_option linter.unusedSimpArgs false
namespace Go.Proofs.Ytjjjgllbocgkbaa
open Go
structure PreC (X : Cx) : Prop where
 p : 0 < X.p ∧ X.p ≤ 7
 ml : X.maps.length + 1 = X.dims.length
 dm : X.dims.all (fun x => in3 x 0 8) = true
 tb : ∀ k, k < X.maps.length → tbAt X k
theorem IsC.pre {X : Cx} (h : IsC X) : PreC X := ⟨isP_bnd h.p, h.ml, h.dm, h.tb⟩
def diffP (X : Cx) (n : Int) (v : List Int) : List Int := if n ≤ 0 ∨ (X.dims.length : Int) - 1 < n then [] else accP X.p v (X.maps.getD (n - 1).toNat default) (List.replicate (X.dims.getD (n - 1).toNat 0).toNat 0)
theorem PreC.app {X : Cx} (h : PreC X) {n : Int} (h0 : 0 < n) (h1 : n ≤ (X.dims.length : Int) - 1) : (0 ≤ X.dims.getD (n - 1).toNat 0 ∧ X.dims.getD (n - 1).toNat 0 ≤ 8) ∧ ((X.maps.getD (n - 1).toNat default).length : Int) = X.dims.getD n.toNat 0 ∧ Tbl X.p (X.dims.getD (n - 1).toNat 0) (X.maps.getD (n - 1).toNat default) := by
 have hm := h.ml
 have t := tableP_iff.1 (h.tb (n - 1).toNat (by omega))
 have e : ((((n - 1).toNat : Nat) : Int) + 1).toNat = n.toNat := by omega
 rw [e] at t
 exact ⟨dm_at h.dm (by omega), t⟩
theorem zero_lead {xs : List Int} : (!(xs.any fun x => x != 0)) = true ↔ leadP xs < 0 := by
 rw [leadP_idx, ← idxP_any]
 simp
theorem any_all {α : Type} {f : α → Bool} {xs : List α} (h : (xs.any fun x => !f x) = false) : xs.all f = true := by rw [List.all_eq_not_any_not, h]; rfl
theorem diff_sqv {X : Cx} {k i : Nat} (h0 : 0 < k) (h1 : (k : Int) ≤ (X.dims.length : Int) - 1) : diffP X (k : Int) ((X.maps.getD k default).getD i default) = sqv X k i := by
 rw [diffP, if_neg (by omega)]; rfl
theorem lead_zero {xs : List Int} (h : xs.any (fun x => x != 0) = false) : leadP xs < 0 := zero_lead.1 (by rw [h]; rfl)
theorem lead_some {xs : List Int} (h : xs.any (fun x => x != 0) = true) : ¬ leadP xs < 0 := fun hn => by
 have := zero_lead.2 hn
 rw [h] at this; cases this
theorem tbAt_iff {X : Cx} {k : Nat} : tbAt X k ↔ ((X.maps.getD k default).length : Int) = X.dims.getD ((k : Int) + 1).toNat 0 ∧ (X.maps.getD k default).all (isRow X.p (X.dims.getD k 0)) = true := by
 simp only [tbAt, tableP, Bool.and_eq_true, decide_eq_true_eq]

set_option maxRecDepth 100000 in
theorem diff_ok (vx : Value) (X : Cx) (n : Int) (v : Value) (xs : List Int) (h : Heap) (hx : RC h vx X) (hv : R1 h v xs) (hP : PreC X) (hv0 : Bnd X.p xs) (hl : 0 < n → n ≤ (X.dims.length : Int) - 1 → (xs.length : Int) = X.dims.getD n.toNat 0) : CallA Try.prog 140 #[vx, .int .i64 n, v] h fun v' h' => ∃ f, O1 h' v' (diffP X n xs) f ∧ Fresh h.size f ∧ Ext h h' := by
 obtain ⟨vd, vm, rfl, hd, hm⟩ := hx
 have hle := RdS.le hd
 have hml := hP.ml
 refine callA_intro TTok (args := [_, _, _]) Try.func140 (by kernel_rfl) rfl 31 rfl (by simp) [.tmp 6] rfl ?_
 simp only [idxs, Nat.reduceAdd]
 refine den_seq ?_
 refine den_region TTok ?_
 intro K hK
 simp -implicitDefEqProofs (disch := first | decide | assumption | omega) only [go_sem, RdS.len hd sl22, RdS.idx hd sl22, R1.intB hd (HPres.refl _), RdS.cells hd, RdS.len hm sl23, RdS.idx hm sl23, RdS.cellB hm (HPres.refl _), RdS.cells hm, RdS.len hv sl22, RdS.idx hv sl22, R1.intB hv (HPres.refl _), RdS.cells hv, wrap_id]
 refine op_box (cs := #[.int .i64 (X.p), vd, vm]) rfl ?_
 intro h0_0 e0_0 hb0_0 z0_0
 replace hd := RdS.pres hd (Ext.pres e0_0)
 replace hm := RdS.pres hm (Ext.pres e0_0)
 replace hv := RdS.pres hv (Ext.pres e0_0)
 try simp -implicitDefEqProofs (disch := first | decide | assumption | omega) only [go_sem, RdS.len hd sl22, RdS.idx hd sl22, R1.intB hd (HPres.refl _), RdS.cells hd, RdS.len hm sl23, RdS.idx hm sl23, RdS.cellB hm (HPres.refl _), RdS.cells hm, RdS.len hv sl22, RdS.idx hv sl22, R1.intB hv (HPres.refl _), RdS.cells hv, BoxAt.cell hb0_0, wrap_id]
 refine hK _ _ ?_
 clear hK K
 refine den_seq ?_
 refine den_seq ?_
 refine den_merge [(14, .bool (((decide (n ≤ (0 : Int))) || (decide ((((X.dims).length : Int) - 1) < n)))))] [1, 2, 3] (fun H => Ext h0_0 H) ?_ ?_
  -- a way
 ·refine den_region TTok ?_
  intro K hK
  simp -implicitDefEqProofs (disch := first | decide | assumption | (simp (disch := decide) only [slotOf_zero, slotOf_succ, Option.map_some, puts_same, puts_ne, gv_bool, gv_undef, tt, tf, ft, ff, eq_self, if_true, if_false, Bool.false_eq_true, Bool.not_true, Bool.not_false]; done) | omega) only [go_sem, RdS.len hd sl22, RdS.idx hd sl22, R1.intB hd (HPres.refl _), RdS.cells hd, RdS.len hm sl23, RdS.idx hm sl23, RdS.cellB hm (HPres.refl _), RdS.cells hm, RdS.len hv sl22, RdS.idx hv sl22, R1.intB hv (HPres.refl _), RdS.cells hv, BoxAt.cell hb0_0, wrap_id]
  refine opsP_F (by simp (disch := decide) only [slotOf_zero, slotOf_succ, Option.map_some, puts_same, puts_ne, gv_bool, gv_undef, tt, tf, ft, ff, eq_self, if_true, if_false, Bool.false_eq_true, Bool.not_true, Bool.not_false]; rfl) (fun g1 => ?_) (fun g1 => ?_)
  ·try simp -implicitDefEqProofs (disch := first | decide | assumption | (simp (disch := decide) only [slotOf_zero, slotOf_succ, Option.map_some, puts_same, puts_ne, gv_bool, gv_undef, tt, tf, ft, ff, eq_self, if_true, if_false, Bool.false_eq_true, Bool.not_true, Bool.not_false, g1]; done) | omega) only [go_sem, ld31, RdS.len hd sl22, RdS.idx hd sl22, R1.intB hd (HPres.refl _), RdS.cells hd, RdS.len hm sl23, RdS.idx hm sl23, RdS.cellB hm (HPres.refl _), RdS.cells hm, RdS.len hv sl22, RdS.idx hv sl22, R1.intB hv (HPres.refl _), RdS.cells hv, BoxAt.cell hb0_0, wrap_id, g1, eq_self, if_true, if_false, Bool.false_eq_true]
   try simp -implicitDefEqProofs (disch := first | decide | assumption | omega) only [go_sem, RdS.len hd sl22, RdS.idx hd sl22, R1.intB hd (HPres.refl _), RdS.cells hd, RdS.len hm sl23, RdS.idx hm sl23, RdS.cellB hm (HPres.refl _), RdS.cells hm, RdS.len hv sl22, RdS.idx hv sl22, R1.intB hv (HPres.refl _), RdS.cells hv, BoxAt.cell hb0_0, wrap_id]
   refine CallA.mono (top_ok _ X _ ⟨_, _, rfl, hd, hm⟩) ?_
   intro v_ h1_5
   rintro ⟨rfl, e1_5⟩
   have := Ext.size e1_5
   have eB := e1_5
   try simp -implicitDefEqProofs (disch := first | decide | assumption | (simp (disch := decide) only [slotOf_zero, slotOf_succ, Option.map_some, puts_same, puts_ne, gv_bool, gv_undef, tt, tf, ft, ff, eq_self, if_true, if_false, Bool.false_eq_true, Bool.not_true, Bool.not_false, g1]; done) | omega) only [go_sem, RdS.len hd sl22, RdS.idx hd sl22, R1.intB hd (Ext.pres eB), RdS.cells hd, RdS.len hm sl23, RdS.idx hm sl23, RdS.cellB hm (Ext.pres eB), RdS.cells hm, RdS.len hv sl22, RdS.idx hv sl22, R1.intB hv (Ext.pres eB), RdS.cells hv, BoxAt.cellB hb0_0 eB, wrap_id, g1, eq_self, if_true, if_false, Bool.false_eq_true]
   refine hK _ _ ?_
   clear hK K
   refine den_stop ?_
   refine ⟨?_, e1_5⟩
   first | (simp (disch := decide) only [go_sem, g1, eq_self, Bool.true_and, Bool.and_true, Bool.false_and, Bool.and_false, Bool.true_or, Bool.or_true, Bool.false_or, Bool.or_false, if_true, if_false, Bool.false_eq_true]; done) | simp [HasL, sel, puts_at, g1]
  ·try simp -implicitDefEqProofs (disch := first | decide | assumption | (simp (disch := decide) only [slotOf_zero, slotOf_succ, Option.map_some, puts_same, puts_ne, gv_bool, gv_undef, tt, tf, ft, ff, eq_self, if_true, if_false, Bool.false_eq_true, Bool.not_true, Bool.not_false, g1]; done) | omega) only [go_sem, RdS.len hd sl22, RdS.idx hd sl22, R1.intB hd (HPres.refl _), RdS.cells hd, RdS.len hm sl23, RdS.idx hm sl23, RdS.cellB hm (HPres.refl _), RdS.cells hm, RdS.len hv sl22, RdS.idx hv sl22, R1.intB hv (HPres.refl _), RdS.cells hv, BoxAt.cell hb0_0, wrap_id, g1, eq_self, if_true, if_false, Bool.false_eq_true]
   refine hK _ _ ?_
   clear hK K
   refine den_stop ?_
   refine ⟨?_, Ext.refl _⟩
   first | (simp (disch := decide) only [go_sem, g1, eq_self, Bool.true_and, Bool.and_true, Bool.false_and, Bool.and_false, Bool.true_or, Bool.or_true, Bool.false_or, Bool.or_false, if_true, if_false, Bool.false_eq_true]; done) | simp [HasL, sel, puts_at, g1]
 intro en2 h3 e4
 have := Ext.size e4
 have eB := e4
 simp (disch := decide) only [go_sem]
 refine den_cond rfl (fun c0 => ?_) (fun c0 => ?_)
 ·try simp only [decide_eq_true_eq, decide_eq_false_iff_not, beq_iff_eq, beq_eq_false_iff_ne, bne_iff_ne, ne_eq, Bool.not_eq_true', Bool.not_eq_false', Bool.and_eq_true, Bool.or_eq_true, bne_eq_false_iff_eq, Bool.or_eq_false_iff, Bool.and_eq_false_iff] at c0
  refine den_seq ?_
  refine den_region TTok ?_
  intro K hK
  simp -implicitDefEqProofs (disch := first | decide | assumption | omega) only [go_sem, RdS.len hd sl22, RdS.idx hd sl22, R1.intB hd (Ext.pres eB), RdS.cells hd, RdS.len hm sl23, RdS.idx hm sl23, RdS.cellB hm (Ext.pres eB), RdS.cells hm, RdS.len hv sl22, RdS.idx hv sl22, R1.intB hv (Ext.pres eB), RdS.cells hv, BoxAt.cellB hb0_0 eB, wrap_id]
  refine hK _ _ ?_
  clear hK K
  refine den_ret ?_
  simp (disch := decide) only [resP_1, puts_same, puts_ne]
  exact ⟨[], by rw [diffP, if_pos (by omega)]; exact OS.nil, Fresh.nil _, (Ext.trans e0_0 eB)⟩
 ·try simp only [decide_eq_true_eq, decide_eq_false_iff_not, beq_iff_eq, beq_eq_false_iff_ne, bne_iff_ne, ne_eq, Bool.not_eq_true', Bool.not_eq_false', Bool.and_eq_true, Bool.or_eq_true, bne_eq_false_iff_eq, Bool.or_eq_false_iff, Bool.and_eq_false_iff] at c0
  refine den_skip ?_
  refine den_seq ?_
  have hq := hP.app (n := n) (by omega) (by omega)
  refine den_draw TTok mixed [] [(0, true), (1, true), (2, true), (3, true), (4, true), (5, true), (6, true), (7, true), (8, true), (9, true), (10, true), (11, true), (12, true), (13, true), (14, true), (15, false), (16, true)] (by kernel_rfl) ?_
  intro K hK
  have hr5 := RdS.rowN hm ((n - (1 : Int))).toNat (by omega)
  have hlhr5 := RdS.le hr5
  simp -implicitDefEqProofs (disch := first | decide | assumption | omega) only [go_sem, fa31_0, fa31_1, fa31_2, ld23, ld26, ld22, ld2, RdS.len hd sl22, RdS.idx hd sl22, R1.intB hd (Ext.pres eB), RdS.cells hd, RdS.len hm sl23, RdS.idx hm sl23, RdS.cellB hm (Ext.pres eB), RdS.cells hm, RdS.len hv sl22, RdS.idx hv sl22, R1.intB hv (Ext.pres eB), RdS.cells hv, RdS.len hr5 sl26, RdS.idx hr5 sl26, RdS.cellB hr5 (Ext.pres eB), RdS.cells hr5, BoxAt.cellB hb0_0 eB, wrap_id]
  try simp -implicitDefEqProofs (disch := first | decide | assumption | omega) only [go_sem, RdS.len hd sl22, RdS.idx hd sl22, R1.intB hd (Ext.pres eB), RdS.cells hd, RdS.len hm sl23, RdS.idx hm sl23, RdS.cellB hm (Ext.pres eB), RdS.cells hm, RdS.len hv sl22, RdS.idx hv sl22, R1.intB hv (Ext.pres eB), RdS.cells hv, RdS.len hr5 sl26, RdS.idx hr5 sl26, RdS.cellB hr5 (Ext.pres eB), RdS.cells hr5, BoxAt.cellB hb0_0 eB, wrap_id]
  refine CallA.mono (iApply_ok _ _ _ _ _ _ _ (RdS.pres hv (Ext.pres eB)) (RdS.pres hr5 (Ext.pres eB)) hP.p (by omega) (by have := hl (by omega) (by omega); omega) hv0 hq.2.2) ?_
  intro v3_15 h3_15
  rintro ⟨f3_15, ho3_15, hf3_15, e3_15⟩
  have := Ext.size e3_15
  replace eB := Ext.trans eB e3_15
  have hlho3_15 := OS.lt ho3_15
  try simp (disch := decide) only [outv_some, outv_none, put_puts]
  refine plK_pres (Ext.pres e3_15) ?_
  try simp -implicitDefEqProofs (disch := first | decide | assumption | omega) only [go_sem, RdS.len hd sl22, RdS.idx hd sl22, R1.intB hd (Ext.pres eB), RdS.cells hd, RdS.len hm sl23, RdS.idx hm sl23, RdS.cellB hm (Ext.pres eB), RdS.cells hm, RdS.len hv sl22, RdS.idx hv sl22, R1.intB hv (Ext.pres eB), RdS.cells hv, RdS.len hr5 sl26, RdS.idx hr5 sl26, RdS.cellB hr5 (Ext.pres eB), RdS.cells hr5, RdS.len (OS.rd ho3_15) sl22, RdS.idx (OS.rd ho3_15) sl22, R1.intN (OS.rd ho3_15), RdS.cells (OS.rd ho3_15), BoxAt.cellB hb0_0 eB, wrap_id]
  refine hK _ _ ?_
  clear hK K
  refine den_ret ?_
  simp (disch := decide) only [resP_1, puts_same, puts_ne]
  exact ⟨_, by rw [diffP, if_neg (by omega)]; exact ho3_15, hf3_15.mono (by omega), (Ext.trans e0_0 eB)⟩

set_option maxRecDepth 100000 in
theorem iIs_ok (v : Value) (X : Cx) (h : Heap) (hv : RC h v X) : CallA Try.prog 70 #[v] h fun v' h' => v' = .bool (isC X) ∧ Ext h h' := by
 obtain ⟨vd, vm, rfl, hd, hm⟩ := hv
 have hle := RdS.le hd
 have hlm := RdS.le hm
 refine callA_intro TTok (args := [_]) Try.func70 (by kernel_rfl) rfl 86 rfl (by simp) [.tmp 2] rfl ?_
 simp only [idxs, Nat.reduceAdd]
 refine den_seq ?_
 refine den_region TTok ?_
 intro K hK
 simp -implicitDefEqProofs (disch := first | decide | assumption | omega) only [go_sem, RdS.len hd sl22, RdS.idx hd sl22, R1.intB hd (HPres.refl _), RdS.cells hd, RdS.len hm sl23, RdS.idx hm sl23, RdS.cellB hm (HPres.refl _), RdS.cells hm, wrap_id, Int.add_sub_cancel]
 refine op_box (cs := #[.int .i64 (X.p), vd, vm]) rfl ?_
 intro h0_0 e0_0 hb0_0 z0_0
 replace hd := RdS.pres hd (Ext.pres e0_0)
 replace hm := RdS.pres hm (Ext.pres e0_0)
 try simp -implicitDefEqProofs (disch := first | decide | assumption | omega) only [go_sem, RdS.len hd sl22, RdS.idx hd sl22, R1.intB hd (HPres.refl _), RdS.cells hd, RdS.len hm sl23, RdS.idx hm sl23, RdS.cellB hm (HPres.refl _), RdS.cells hm, BoxAt.cell hb0_0, wrap_id, Int.add_sub_cancel]
 refine hK _ _ ?_
 clear hK K
 refine den_seq ?_
 refine den_seq ?_
 refine den_merge [(30, .bool (((((!((isP X.p))) || (!((in3 (((X.dims).length : Int) - 1) (0 : Int) (5 : Int))))) || (((X.maps).length : Int) != (((X.dims).length : Int) - 1))) || (X.dims.any (fun x => !in3 x 0 8)))))] [1] (fun H => Ext h0_0 H) ?_ ?_
  -- a way
 ·refine den_draw TTok mixed [] [(0, true), (1, true), (2, false), (3, true), (4, true), (5, true), (6, false), (7, false), (8, true), (9, true), (10, true), (11, true), (12, true), (14, true), (13, false), (15, false), (16, true), (17, true), (18, true), (19, true), (20, true), (21, false), (22, true)] (by kernel_rfl) ?_
  intro K hK
  simp -implicitDefEqProofs (disch := first | decide | assumption | (simp (disch := decide) only [slotOf_zero, slotOf_succ, Option.map_some, puts_same, puts_ne, gv_bool, gv_undef, tt, tf, ft, ff, eq_self, if_true, if_false, Bool.false_eq_true, Bool.not_true, Bool.not_false]; done) | omega) only [go_sem, fa31_0, ld2, RdS.len hd sl22, RdS.idx hd sl22, R1.intB hd (HPres.refl _), RdS.cells hd, RdS.len hm sl23, RdS.idx hm sl23, RdS.cellB hm (HPres.refl _), RdS.cells hm, BoxAt.cell hb0_0, wrap_id, Int.add_sub_cancel]
  try simp -implicitDefEqProofs (disch := first | decide | assumption | omega) only [go_sem, RdS.len hd sl22, RdS.idx hd sl22, R1.intB hd (HPres.refl _), RdS.cells hd, RdS.len hm sl23, RdS.idx hm sl23, RdS.cellB hm (HPres.refl _), RdS.cells hm, BoxAt.cell hb0_0, wrap_id, Int.add_sub_cancel]
  refine CallA.pure (iPrime_ok _ _) ?_
  try simp -implicitDefEqProofs (disch := first | decide | assumption | (simp (disch := decide) only [slotOf_zero, slotOf_succ, Option.map_some, puts_same, puts_ne, gv_bool, gv_undef, tt, tf, ft, ff, eq_self, if_true, if_false, Bool.false_eq_true, Bool.not_true, Bool.not_false]; done) | omega) only [go_sem, RdS.len hd sl22, RdS.idx hd sl22, R1.intB hd (HPres.refl _), RdS.cells hd, RdS.len hm sl23, RdS.idx hm sl23, RdS.cellB hm (HPres.refl _), RdS.cells hm, BoxAt.cell hb0_0, wrap_id, Int.add_sub_cancel]
  refine plG_F (by simp (disch := decide) only [slotOf_zero, slotOf_succ, Option.map_some, puts_same, puts_ne, gv_bool, gv_undef, tt, tf, ft, ff, eq_self, if_true, if_false, Bool.false_eq_true, Bool.not_true, Bool.not_false]; rfl) (fun g1 => ?_) (fun g1 => ?_)
  ·try simp -implicitDefEqProofs (disch := first | decide | assumption | (simp (disch := decide) only [slotOf_zero, slotOf_succ, Option.map_some, puts_same, puts_ne, gv_bool, gv_undef, tt, tf, ft, ff, eq_self, if_true, if_false, Bool.false_eq_true, Bool.not_true, Bool.not_false, g1]; done) | omega) only [go_sem, ld31, RdS.len hd sl22, RdS.idx hd sl22, R1.intB hd (HPres.refl _), RdS.cells hd, RdS.len hm sl23, RdS.idx hm sl23, RdS.cellB hm (HPres.refl _), RdS.cells hm, BoxAt.cell hb0_0, wrap_id, Int.add_sub_cancel, g1, eq_self, if_true, if_false, Bool.false_eq_true]
   try simp -implicitDefEqProofs (disch := first | decide | assumption | omega) only [go_sem, RdS.len hd sl22, RdS.idx hd sl22, R1.intB hd (HPres.refl _), RdS.cells hd, RdS.len hm sl23, RdS.idx hm sl23, RdS.cellB hm (HPres.refl _), RdS.cells hm, BoxAt.cell hb0_0, wrap_id, Int.add_sub_cancel]
   refine CallA.mono (top_ok _ X _ ⟨_, _, rfl, hd, hm⟩) ?_
   intro v_ h1_6
   rintro ⟨rfl, e1_6⟩
   have := Ext.size e1_6
   have eB := e1_6
   try simp (disch := decide) only [outv_some, outv_none, put_puts]
   refine plK_pres (Ext.pres e1_6) ?_
   try simp -implicitDefEqProofs (disch := first | decide | assumption | (simp (disch := decide) only [slotOf_zero, slotOf_succ, Option.map_some, puts_same, puts_ne, gv_bool, gv_undef, tt, tf, ft, ff, eq_self, if_true, if_false, Bool.false_eq_true, Bool.not_true, Bool.not_false, g1]; done) | omega) only [go_sem, RdS.len hd sl22, RdS.idx hd sl22, R1.intB hd (Ext.pres eB), RdS.cells hd, RdS.len hm sl23, RdS.idx hm sl23, RdS.cellB hm (Ext.pres eB), RdS.cells hm, BoxAt.cellB hb0_0 eB, wrap_id, Int.add_sub_cancel, g1, eq_self, if_true, if_false, Bool.false_eq_true]
   try simp -implicitDefEqProofs (disch := first | decide | assumption | omega) only [go_sem, RdS.len hd sl22, RdS.idx hd sl22, R1.intB hd (Ext.pres eB), RdS.cells hd, RdS.len hm sl23, RdS.idx hm sl23, RdS.cellB hm (Ext.pres eB), RdS.cells hm, BoxAt.cellB hb0_0 eB, wrap_id, Int.add_sub_cancel]
   refine CallA.pure (iIn_ok _ _ _ _) ?_
   try simp -implicitDefEqProofs (disch := first | decide | assumption | (simp (disch := decide) only [slotOf_zero, slotOf_succ, Option.map_some, puts_same, puts_ne, gv_bool, gv_undef, tt, tf, ft, ff, eq_self, if_true, if_false, Bool.false_eq_true, Bool.not_true, Bool.not_false, g1]; done) | omega) only [go_sem, RdS.len hd sl22, RdS.idx hd sl22, R1.intB hd (Ext.pres eB), RdS.cells hd, RdS.len hm sl23, RdS.idx hm sl23, RdS.cellB hm (Ext.pres eB), RdS.cells hm, BoxAt.cellB hb0_0 eB, wrap_id, Int.add_sub_cancel, g1, eq_self, if_true, if_false, Bool.false_eq_true]
   refine plG_F (by simp (disch := decide) only [slotOf_zero, slotOf_succ, Option.map_some, puts_same, puts_ne, gv_bool, gv_undef, tt, tf, ft, ff, eq_self, if_true, if_false, Bool.false_eq_true, Bool.not_true, Bool.not_false, g1]; rfl) (fun g2 => ?_) (fun g2 => ?_)
   ·try simp -implicitDefEqProofs (disch := first | decide | assumption | (simp (disch := decide) only [slotOf_zero, slotOf_succ, Option.map_some, puts_same, puts_ne, gv_bool, gv_undef, tt, tf, ft, ff, eq_self, if_true, if_false, Bool.false_eq_true, Bool.not_true, Bool.not_false, g1, g2]; done) | omega) only [go_sem, fa31_2, ld23, ld31, RdS.len hd sl22, RdS.idx hd sl22, R1.intB hd (Ext.pres eB), RdS.cells hd, RdS.len hm sl23, RdS.idx hm sl23, RdS.cellB hm (Ext.pres eB), RdS.cells hm, BoxAt.cellB hb0_0 eB, wrap_id, Int.add_sub_cancel, g1, g2, eq_self, if_true, if_false, Bool.false_eq_true]
    try simp -implicitDefEqProofs (disch := first | decide | assumption | omega) only [go_sem, RdS.len hd sl22, RdS.idx hd sl22, R1.intB hd (Ext.pres eB), RdS.cells hd, RdS.len hm sl23, RdS.idx hm sl23, RdS.cellB hm (Ext.pres eB), RdS.cells hm, BoxAt.cellB hb0_0 eB, wrap_id, Int.add_sub_cancel]
    refine CallA.pure (size3_ok _ _ _ (RdS.pres hm (Ext.pres eB))) ?_
    try simp -implicitDefEqProofs (disch := first | decide | assumption | (simp (disch := decide) only [slotOf_zero, slotOf_succ, Option.map_some, puts_same, puts_ne, gv_bool, gv_undef, tt, tf, ft, ff, eq_self, if_true, if_false, Bool.false_eq_true, Bool.not_true, Bool.not_false, g1, g2]; done) | omega) only [go_sem, RdS.len hd sl22, RdS.idx hd sl22, R1.intB hd (Ext.pres eB), RdS.cells hd, RdS.len hm sl23, RdS.idx hm sl23, RdS.cellB hm (Ext.pres eB), RdS.cells hm, BoxAt.cellB hb0_0 eB, wrap_id, Int.add_sub_cancel, g1, g2, eq_self, if_true, if_false, Bool.false_eq_true]
    try simp -implicitDefEqProofs (disch := first | decide | assumption | omega) only [go_sem, RdS.len hd sl22, RdS.idx hd sl22, R1.intB hd (Ext.pres eB), RdS.cells hd, RdS.len hm sl23, RdS.idx hm sl23, RdS.cellB hm (Ext.pres eB), RdS.cells hm, BoxAt.cellB hb0_0 eB, wrap_id, Int.add_sub_cancel]
    refine CallA.mono (top_ok _ X _ ⟨_, _, rfl, (RdS.pres hd (Ext.pres eB)), (RdS.pres hm (Ext.pres eB))⟩) ?_
    intro v_ h1_15
    rintro ⟨rfl, e1_15⟩
    have := Ext.size e1_15
    replace eB := Ext.trans eB e1_15
    try simp (disch := decide) only [outv_some, outv_none, put_puts]
    refine plK_pres (Ext.pres e1_15) ?_
    try simp -implicitDefEqProofs (disch := first | decide | assumption | (simp (disch := decide) only [slotOf_zero, slotOf_succ, Option.map_some, puts_same, puts_ne, gv_bool, gv_undef, tt, tf, ft, ff, eq_self, if_true, if_false, Bool.false_eq_true, Bool.not_true, Bool.not_false, g1, g2]; done) | omega) only [go_sem, RdS.len hd sl22, RdS.idx hd sl22, R1.intB hd (Ext.pres eB), RdS.cells hd, RdS.len hm sl23, RdS.idx hm sl23, RdS.cellB hm (Ext.pres eB), RdS.cells hm, BoxAt.cellB hb0_0 eB, wrap_id, Int.add_sub_cancel, g1, g2, eq_self, if_true, if_false, Bool.false_eq_true]
    refine plG_F (by simp (disch := decide) only [slotOf_zero, slotOf_succ, Option.map_some, puts_same, puts_ne, gv_bool, gv_undef, tt, tf, ft, ff, eq_self, if_true, if_false, Bool.false_eq_true, Bool.not_true, Bool.not_false, g1, g2]; rfl) (fun g3 => ?_) (fun g3 => ?_)
    ·try simp -implicitDefEqProofs (disch := first | decide | assumption | (simp (disch := decide) only [slotOf_zero, slotOf_succ, Option.map_some, puts_same, puts_ne, gv_bool, gv_undef, tt, tf, ft, ff, eq_self, if_true, if_false, Bool.false_eq_true, Bool.not_true, Bool.not_false, g1, g2, g3]; done) | omega) only [go_sem, fa31_1, ld22, RdS.len hd sl22, RdS.idx hd sl22, R1.intB hd (Ext.pres eB), RdS.cells hd, RdS.len hm sl23, RdS.idx hm sl23, RdS.cellB hm (Ext.pres eB), RdS.cells hm, BoxAt.cellB hb0_0 eB, wrap_id, Int.add_sub_cancel, g1, g2, g3, eq_self, if_true, if_false, Bool.false_eq_true]
     try simp -implicitDefEqProofs (disch := first | decide | assumption | omega) only [go_sem, RdS.len hd sl22, RdS.idx hd sl22, R1.intB hd (Ext.pres eB), RdS.cells hd, RdS.len hm sl23, RdS.idx hm sl23, RdS.cellB hm (Ext.pres eB), RdS.cells hm, BoxAt.cellB hb0_0 eB, wrap_id, Int.add_sub_cancel]
     refine CallA.mono (has1_ok _ X.dims _ _ (fun x => !in3 x 0 8) _ (RdS.pres hd (Ext.pres eB)) (fun j hj h' e => by
    simp only [List.append_toArray, List.cons_append, List.nil_append]
    exact CallA.mono (isC1_ok _ _) (fun _ _ ⟨e1, e2⟩ => ⟨e1, e2 ▸ Ext.refl _⟩))) ?_
     intro v_ h1_21
     rintro ⟨rfl, e1_21⟩
     have := Ext.size e1_21
     replace eB := Ext.trans eB e1_21
     try simp (disch := decide) only [outv_some, outv_none, put_puts]
     refine plK_pres (Ext.pres e1_21) ?_
     try simp -implicitDefEqProofs (disch := first | decide | assumption | (simp (disch := decide) only [slotOf_zero, slotOf_succ, Option.map_some, puts_same, puts_ne, gv_bool, gv_undef, tt, tf, ft, ff, eq_self, if_true, if_false, Bool.false_eq_true, Bool.not_true, Bool.not_false, g1, g2, g3]; done) | omega) only [go_sem, RdS.len hd sl22, RdS.idx hd sl22, R1.intB hd (Ext.pres eB), RdS.cells hd, RdS.len hm sl23, RdS.idx hm sl23, RdS.cellB hm (Ext.pres eB), RdS.cells hm, BoxAt.cellB hb0_0 eB, wrap_id, Int.add_sub_cancel, g1, g2, g3, eq_self, if_true, if_false, Bool.false_eq_true]
     refine hK _ _ ?_
     clear hK K
     refine den_stop ?_
     refine ⟨?_, (Ext.trans (Ext.trans e1_6 e1_15) e1_21)⟩
     first | (simp (disch := decide) only [go_sem, g1, g2, g3, eq_self, Bool.true_and, Bool.and_true, Bool.false_and, Bool.and_false, Bool.true_or, Bool.or_true, Bool.false_or, Bool.or_false, if_true, if_false, Bool.false_eq_true]; done) | simp [HasL, sel, puts_at, g1, g2, g3]
    ·try simp -implicitDefEqProofs (disch := first | decide | assumption | (simp (disch := decide) only [slotOf_zero, slotOf_succ, Option.map_some, puts_same, puts_ne, gv_bool, gv_undef, tt, tf, ft, ff, eq_self, if_true, if_false, Bool.false_eq_true, Bool.not_true, Bool.not_false, g1, g2, g3]; done) | omega) only [go_sem, RdS.len hd sl22, RdS.idx hd sl22, R1.intB hd (Ext.pres eB), RdS.cells hd, RdS.len hm sl23, RdS.idx hm sl23, RdS.cellB hm (Ext.pres eB), RdS.cells hm, BoxAt.cellB hb0_0 eB, wrap_id, Int.add_sub_cancel, g1, g2, g3, eq_self, if_true, if_false, Bool.false_eq_true]
     refine hK _ _ ?_
     clear hK K
     refine den_stop ?_
     refine ⟨?_, (Ext.trans e1_6 e1_15)⟩
     first | (simp (disch := decide) only [go_sem, g1, g2, g3, eq_self, Bool.true_and, Bool.and_true, Bool.false_and, Bool.and_false, Bool.true_or, Bool.or_true, Bool.false_or, Bool.or_false, if_true, if_false, Bool.false_eq_true]; done) | simp [HasL, sel, puts_at, g1, g2, g3]
   ·try simp -implicitDefEqProofs (disch := first | decide | assumption | (simp (disch := decide) only [slotOf_zero, slotOf_succ, Option.map_some, puts_same, puts_ne, gv_bool, gv_undef, tt, tf, ft, ff, eq_self, if_true, if_false, Bool.false_eq_true, Bool.not_true, Bool.not_false, g1, g2]; done) | omega) only [go_sem, RdS.len hd sl22, RdS.idx hd sl22, R1.intB hd (Ext.pres eB), RdS.cells hd, RdS.len hm sl23, RdS.idx hm sl23, RdS.cellB hm (Ext.pres eB), RdS.cells hm, BoxAt.cellB hb0_0 eB, wrap_id, Int.add_sub_cancel, g1, g2, eq_self, if_true, if_false, Bool.false_eq_true]
    try simp -implicitDefEqProofs (disch := first | decide | assumption | (simp (disch := decide) only [slotOf_zero, slotOf_succ, Option.map_some, puts_same, puts_ne, gv_bool, gv_undef, tt, tf, ft, ff, eq_self, if_true, if_false, Bool.false_eq_true, Bool.not_true, Bool.not_false, g1, g2]; done) | omega) only [go_sem, RdS.len hd sl22, RdS.idx hd sl22, R1.intB hd (Ext.pres eB), RdS.cells hd, RdS.len hm sl23, RdS.idx hm sl23, RdS.cellB hm (Ext.pres eB), RdS.cells hm, BoxAt.cellB hb0_0 eB, wrap_id, Int.add_sub_cancel, g1, g2, eq_self, if_true, if_false, Bool.false_eq_true]
    refine hK _ _ ?_
    clear hK K
    refine den_stop ?_
    refine ⟨?_, e1_6⟩
    first | (simp (disch := decide) only [go_sem, g1, g2, eq_self, Bool.true_and, Bool.and_true, Bool.false_and, Bool.and_false, Bool.true_or, Bool.or_true, Bool.false_or, Bool.or_false, if_true, if_false, Bool.false_eq_true]; done) | simp [HasL, sel, puts_at, g1, g2]
  ·try simp -implicitDefEqProofs (disch := first | decide | assumption | (simp (disch := decide) only [slotOf_zero, slotOf_succ, Option.map_some, puts_same, puts_ne, gv_bool, gv_undef, tt, tf, ft, ff, eq_self, if_true, if_false, Bool.false_eq_true, Bool.not_true, Bool.not_false, g1]; done) | omega) only [go_sem, RdS.len hd sl22, RdS.idx hd sl22, R1.intB hd (HPres.refl _), RdS.cells hd, RdS.len hm sl23, RdS.idx hm sl23, RdS.cellB hm (HPres.refl _), RdS.cells hm, BoxAt.cell hb0_0, wrap_id, Int.add_sub_cancel, g1, eq_self, if_true, if_false, Bool.false_eq_true]
   try simp -implicitDefEqProofs (disch := first | decide | assumption | (simp (disch := decide) only [slotOf_zero, slotOf_succ, Option.map_some, puts_same, puts_ne, gv_bool, gv_undef, tt, tf, ft, ff, eq_self, if_true, if_false, Bool.false_eq_true, Bool.not_true, Bool.not_false, g1]; done) | omega) only [go_sem, RdS.len hd sl22, RdS.idx hd sl22, R1.intB hd (HPres.refl _), RdS.cells hd, RdS.len hm sl23, RdS.idx hm sl23, RdS.cellB hm (HPres.refl _), RdS.cells hm, BoxAt.cell hb0_0, wrap_id, Int.add_sub_cancel, g1, eq_self, if_true, if_false, Bool.false_eq_true]
   try simp -implicitDefEqProofs (disch := first | decide | assumption | (simp (disch := decide) only [slotOf_zero, slotOf_succ, Option.map_some, puts_same, puts_ne, gv_bool, gv_undef, tt, tf, ft, ff, eq_self, if_true, if_false, Bool.false_eq_true, Bool.not_true, Bool.not_false, g1]; done) | omega) only [go_sem, RdS.len hd sl22, RdS.idx hd sl22, R1.intB hd (HPres.refl _), RdS.cells hd, RdS.len hm sl23, RdS.idx hm sl23, RdS.cellB hm (HPres.refl _), RdS.cells hm, BoxAt.cell hb0_0, wrap_id, Int.add_sub_cancel, g1, eq_self, if_true, if_false, Bool.false_eq_true]
   refine hK _ _ ?_
   clear hK K
   refine den_stop ?_
   refine ⟨?_, Ext.refl _⟩
   first | (simp (disch := decide) only [go_sem, g1, eq_self, Bool.true_and, Bool.and_true, Bool.false_and, Bool.and_false, Bool.true_or, Bool.or_true, Bool.false_or, Bool.or_false, if_true, if_false, Bool.false_eq_true]; done) | simp [HasL, sel, puts_at, g1]
 intro en4 h5 e6
 have := Ext.size e6
 have eB := e6
 simp (disch := decide) only [go_sem]
 refine den_cond rfl (fun c0 => ?_) (fun c0 => ?_)
 ·try simp only [decide_eq_true_eq, decide_eq_false_iff_not, beq_iff_eq, beq_eq_false_iff_ne, bne_iff_ne, ne_eq, Bool.not_eq_true', Bool.not_eq_false', Bool.and_eq_true, Bool.or_eq_true, bne_eq_false_iff_eq, Bool.or_eq_false_iff, Bool.and_eq_false_iff] at c0
  refine den_seq ?_
  refine den_region TTok ?_
  intro K hK
  simp -implicitDefEqProofs (disch := first | decide | assumption | omega) only [go_sem, RdS.len hd sl22, RdS.idx hd sl22, R1.intB hd (Ext.pres eB), RdS.cells hd, RdS.len hm sl23, RdS.idx hm sl23, RdS.cellB hm (Ext.pres eB), RdS.cells hm, BoxAt.cellB hb0_0 eB, wrap_id, Int.add_sub_cancel]
  refine hK _ _ ?_
  clear hK K
  refine den_ret ?_
  simp (disch := decide) only [resP_1, puts_same, puts_ne]
  exact ⟨vbool (isC_no fun hC => by
   have h1 := hC.p; have h2 := hC.len; have h3 := hC.ml
   rcases c0 with ((c | c) | c) | c
   ·rw [h1] at c; cases c
   ·rw [in3_f] at c; omega
   ·omega
   ·have := hC.dm; rw [List.all_eq_not_any_not, c] at this; cases this), (Ext.trans e0_0 eB)⟩
 ·try simp only [decide_eq_true_eq, decide_eq_false_iff_not, beq_iff_eq, beq_eq_false_iff_ne, bne_iff_ne, ne_eq, Bool.not_eq_true', Bool.not_eq_false', Bool.and_eq_true, Bool.or_eq_true, bne_eq_false_iff_eq, Bool.or_eq_false_iff, Bool.and_eq_false_iff] at c0
  refine den_skip ?_
  refine den_seq ?_
  refine den_seq ?_
  have hp7 := isP_bnd c0.1.1.1
  have hdl := in3_iff.1 c0.1.1.2
  have hda := any_all c0.2
  refine den_region TTok ?_
  intro K hK
  simp -implicitDefEqProofs (disch := first | decide | assumption | omega) only [go_sem, fa31_2, ld23, RdS.len hd sl22, RdS.idx hd sl22, R1.intB hd (Ext.pres eB), RdS.cells hd, RdS.len hm sl23, RdS.idx hm sl23, RdS.cellB hm (Ext.pres eB), RdS.cells hm, BoxAt.cellB hb0_0 eB, wrap_id, Int.add_sub_cancel]
  refine hK _ _ ?_
  clear hK K
  refine den_block ?_
  refine den_sel [34, 1, 32, 33] ?_
  intro env_7
  simp only [go_sem]
  refine den_loopS (σ := Nat) (fun s => [(34, .int .i64 (s : Int))]) (fun s H => Ext h0_0 H ∧ s ≤ X.maps.length ∧ ∀ j, j < s → tbAt X j) (fun s => X.maps.length - s) 0 ?_ ?_
  ·exact ⟨eB, by omega, fun j hj => by omega⟩
  ·rintro k h10 ee9 ⟨eB, hk, hz⟩
   simp only [List.cons_append, List.nil_append]
   have := Ext.size eB
   refine den_seq ?_
   refine den_region TTok ?_
   intro K hK
   simp -implicitDefEqProofs (disch := first | decide | assumption | omega) only [go_sem, RdS.len hd sl22, RdS.idx hd sl22, R1.intB hd (Ext.pres eB), RdS.cells hd, RdS.len hm sl23, RdS.idx hm sl23, RdS.cellB hm (Ext.pres eB), RdS.cells hm, BoxAt.cellB hb0_0 eB, wrap_id, Int.add_sub_cancel]
   refine hK _ _ ?_
   clear hK K
   refine den_seq ?_
   refine den_cond rfl (fun c1 => ?_) (fun c1 => ?_)
   ·try simp only [decide_eq_true_eq, decide_eq_false_iff_not, beq_iff_eq, beq_eq_false_iff_ne, bne_iff_ne, ne_eq, Bool.not_eq_true', Bool.not_eq_false', Bool.and_eq_true, Bool.or_eq_true, bne_eq_false_iff_eq, Bool.or_eq_false_iff, Bool.and_eq_false_iff] at c1
    refine den_skip ?_
    refine den_seq ?_
    refine den_block ?_
    refine den_seq ?_
    refine den_region TTok ?_
    intro K hK
    have hr11 := RdS.rowN hm k (by omega)
    have hlhr11 := RdS.le hr11
    simp -implicitDefEqProofs (disch := first | decide | assumption | omega) only [go_sem, ld26, RdS.len hd sl22, RdS.idx hd sl22, R1.intB hd (Ext.pres eB), RdS.cells hd, RdS.len hm sl23, RdS.idx hm sl23, RdS.cellB hm (Ext.pres eB), RdS.cells hm, RdS.len hr11 sl26, RdS.idx hr11 sl26, RdS.cellB hr11 (Ext.pres eB), RdS.cells hr11, BoxAt.cellB hb0_0 eB, wrap_id, Int.add_sub_cancel]
    refine hK _ _ ?_
    clear hK K
    refine den_seq ?_
    refine den_merge [(59, .bool ((((((X.maps).getD k default).length : Int) != ((X.dims).getD (((k : Int) + (1 : Int))).toNat 0)) || (!((((X.maps).getD k default).all (isRow X.p ((X.dims).getD k 0))))))))] [1, 32, 33, 34] (fun H => Ext h10 H) ?_ ?_
     -- a way
    ·refine den_draw TTok mixed [] [(0, true), (2, true), (3, true), (4, true), (5, true), (6, true), (7, true), (1, false), (8, true), (9, true), (10, true), (11, true), (12, true), (13, true), (14, true), (15, true), (16, true), (17, true), (18, false), (19, true), (20, true)] (by kernel_rfl) ?_
     intro K hK
     simp -implicitDefEqProofs (disch := first | decide | assumption | (simp (disch := decide) only [slotOf_zero, slotOf_succ, Option.map_some, puts_same, puts_ne, gv_bool, gv_undef, tt, tf, ft, ff, eq_self, if_true, if_false, Bool.false_eq_true, Bool.not_true, Bool.not_false]; done) | omega) only [go_sem, fa31_1, ld22, ld2, RdS.len hd sl22, RdS.idx hd sl22, R1.intB hd (Ext.pres eB), RdS.cells hd, RdS.len hm sl23, RdS.idx hm sl23, RdS.cellB hm (Ext.pres eB), RdS.cells hm, RdS.len hr11 sl26, RdS.idx hr11 sl26, RdS.cellB hr11 (Ext.pres eB), RdS.cells hr11, BoxAt.cellB hb0_0 eB, wrap_id, Int.add_sub_cancel]
     try simp -implicitDefEqProofs (disch := first | decide | assumption | omega) only [go_sem, RdS.len hd sl22, RdS.idx hd sl22, R1.intB hd (Ext.pres eB), RdS.cells hd, RdS.len hm sl23, RdS.idx hm sl23, RdS.cellB hm (Ext.pres eB), RdS.cells hm, RdS.len hr11 sl26, RdS.idx hr11 sl26, RdS.cellB hr11 (Ext.pres eB), RdS.cells hr11, BoxAt.cellB hb0_0 eB, wrap_id, Int.add_sub_cancel]
     refine CallA.pure (size2_ok _ _ _ (RdS.pres hr11 (Ext.pres eB))) ?_
     try simp -implicitDefEqProofs (disch := first | decide | assumption | (simp (disch := decide) only [slotOf_zero, slotOf_succ, Option.map_some, puts_same, puts_ne, gv_bool, gv_undef, tt, tf, ft, ff, eq_self, if_true, if_false, Bool.false_eq_true, Bool.not_true, Bool.not_false]; done) | omega) only [go_sem, RdS.len hd sl22, RdS.idx hd sl22, R1.intB hd (Ext.pres eB), RdS.cells hd, RdS.len hm sl23, RdS.idx hm sl23, RdS.cellB hm (Ext.pres eB), RdS.cells hm, RdS.len hr11 sl26, RdS.idx hr11 sl26, RdS.cellB hr11 (Ext.pres eB), RdS.cells hr11, BoxAt.cellB hb0_0 eB, wrap_id, Int.add_sub_cancel]
     refine plG_F (by simp (disch := decide) only [slotOf_zero, slotOf_succ, Option.map_some, puts_same, puts_ne, gv_bool, gv_undef, tt, tf, ft, ff, eq_self, if_true, if_false, Bool.false_eq_true, Bool.not_true, Bool.not_false]; rfl) (fun g12 => ?_) (fun g12 => ?_)
     ·try simp -implicitDefEqProofs (disch := first | decide | assumption | (simp (disch := decide) only [slotOf_zero, slotOf_succ, Option.map_some, puts_same, puts_ne, gv_bool, gv_undef, tt, tf, ft, ff, eq_self, if_true, if_false, Bool.false_eq_true, Bool.not_true, Bool.not_false, g12]; done) | omega) only [go_sem, fa31_0, fa31_1, ld22, ld2, RdS.len hd sl22, RdS.idx hd sl22, R1.intB hd (Ext.pres eB), RdS.cells hd, RdS.len hm sl23, RdS.idx hm sl23, RdS.cellB hm (Ext.pres eB), RdS.cells hm, RdS.len hr11 sl26, RdS.idx hr11 sl26, RdS.cellB hr11 (Ext.pres eB), RdS.cells hr11, BoxAt.cellB hb0_0 eB, wrap_id, Int.add_sub_cancel, g12, eq_self, if_true, if_false, Bool.false_eq_true]
      try simp -implicitDefEqProofs (disch := first | decide | assumption | omega) only [go_sem, RdS.len hd sl22, RdS.idx hd sl22, R1.intB hd (Ext.pres eB), RdS.cells hd, RdS.len hm sl23, RdS.idx hm sl23, RdS.cellB hm (Ext.pres eB), RdS.cells hm, RdS.len hr11 sl26, RdS.idx hr11 sl26, RdS.cellB hr11 (Ext.pres eB), RdS.cells hr11, BoxAt.cellB hb0_0 eB, wrap_id, Int.add_sub_cancel]
      refine CallA.mono (areRows_ok _ _ _ _ _ (RdS.pres hr11 (Ext.pres eB)) (by omega)) ?_
      intro v_ h6_18
      rintro ⟨rfl, e6_18⟩
      have := Ext.size e6_18
      replace eB := Ext.trans eB e6_18
      try simp (disch := decide) only [outv_some, outv_none, put_puts]
      refine plK_pres (Ext.pres e6_18) ?_
      try simp -implicitDefEqProofs (disch := first | decide | assumption | (simp (disch := decide) only [slotOf_zero, slotOf_succ, Option.map_some, puts_same, puts_ne, gv_bool, gv_undef, tt, tf, ft, ff, eq_self, if_true, if_false, Bool.false_eq_true, Bool.not_true, Bool.not_false, g12]; done) | omega) only [go_sem, RdS.len hd sl22, RdS.idx hd sl22, R1.intB hd (Ext.pres eB), RdS.cells hd, RdS.len hm sl23, RdS.idx hm sl23, RdS.cellB hm (Ext.pres eB), RdS.cells hm, RdS.len hr11 sl26, RdS.idx hr11 sl26, RdS.cellB hr11 (Ext.pres eB), RdS.cells hr11, BoxAt.cellB hb0_0 eB, wrap_id, Int.add_sub_cancel, g12, eq_self, if_true, if_false, Bool.false_eq_true]
      refine hK _ _ ?_
      clear hK K
      refine den_stop ?_
      refine ⟨?_, e6_18⟩
      first | (simp (disch := decide) only [go_sem, g12, eq_self, Bool.true_and, Bool.and_true, Bool.false_and, Bool.and_false, Bool.true_or, Bool.or_true, Bool.false_or, Bool.or_false, if_true, if_false, Bool.false_eq_true]; done) | simp [HasL, sel, puts_at, g12]
     ·try simp -implicitDefEqProofs (disch := first | decide | assumption | (simp (disch := decide) only [slotOf_zero, slotOf_succ, Option.map_some, puts_same, puts_ne, gv_bool, gv_undef, tt, tf, ft, ff, eq_self, if_true, if_false, Bool.false_eq_true, Bool.not_true, Bool.not_false, g12]; done) | omega) only [go_sem, RdS.len hd sl22, RdS.idx hd sl22, R1.intB hd (Ext.pres eB), RdS.cells hd, RdS.len hm sl23, RdS.idx hm sl23, RdS.cellB hm (Ext.pres eB), RdS.cells hm, RdS.len hr11 sl26, RdS.idx hr11 sl26, RdS.cellB hr11 (Ext.pres eB), RdS.cells hr11, BoxAt.cellB hb0_0 eB, wrap_id, Int.add_sub_cancel, g12, eq_self, if_true, if_false, Bool.false_eq_true]
      refine hK _ _ ?_
      clear hK K
      refine den_stop ?_
      refine ⟨?_, Ext.refl _⟩
      first | (simp (disch := decide) only [go_sem, g12, eq_self, Bool.true_and, Bool.and_true, Bool.false_and, Bool.and_false, Bool.true_or, Bool.or_true, Bool.false_or, Bool.or_false, if_true, if_false, Bool.false_eq_true]; done) | simp [HasL, sel, puts_at, g12]
    intro en13 h14 e15
    have := Ext.size e15
    replace eB := Ext.trans eB e15
    simp (disch := decide) only [go_sem]
    refine den_cond rfl (fun c2 => ?_) (fun c2 => ?_)
    ·try simp only [decide_eq_true_eq, decide_eq_false_iff_not, beq_iff_eq, beq_eq_false_iff_ne, bne_iff_ne, ne_eq, Bool.not_eq_true', Bool.not_eq_false', Bool.and_eq_true, Bool.or_eq_true, bne_eq_false_iff_eq, Bool.or_eq_false_iff, Bool.and_eq_false_iff] at c2
     refine den_seq ?_
     refine den_region TTok ?_
     intro K hK
     simp -implicitDefEqProofs (disch := first | decide | assumption | omega) only [go_sem, RdS.len hd sl22, RdS.idx hd sl22, R1.intB hd (Ext.pres eB), RdS.cells hd, RdS.len hm sl23, RdS.idx hm sl23, RdS.cellB hm (Ext.pres eB), RdS.cells hm, RdS.len hr11 sl26, RdS.idx hr11 sl26, RdS.cellB hr11 (Ext.pres eB), RdS.cells hr11, BoxAt.cellB hb0_0 eB, wrap_id, Int.add_sub_cancel]
     refine hK _ _ ?_
     clear hK K
     refine den_ret ?_
     simp (disch := decide) only [resP_1, puts_same, puts_ne]
     exact ⟨vbool (isC_no fun hC => by
      have h := tbAt_iff.1 (hC.tb k (by omega))
      rcases c2 with c | c
      ·exact c h.1
      ·rw [h.2] at c; cases c), (Ext.trans e0_0 eB)⟩
    ·try simp only [decide_eq_true_eq, decide_eq_false_iff_not, beq_iff_eq, beq_eq_false_iff_ne, bne_iff_ne, ne_eq, Bool.not_eq_true', Bool.not_eq_false', Bool.and_eq_true, Bool.or_eq_true, bne_eq_false_iff_eq, Bool.or_eq_false_iff, Bool.and_eq_false_iff] at c2
     refine den_skip ?_
     refine den_blk ?_
     refine den_region TTok ?_
     intro K hK
     simp -implicitDefEqProofs (disch := first | decide | assumption | omega) only [go_sem, RdS.len hd sl22, RdS.idx hd sl22, R1.intB hd (Ext.pres eB), RdS.cells hd, RdS.len hm sl23, RdS.idx hm sl23, RdS.cellB hm (Ext.pres eB), RdS.cells hm, RdS.len hr11 sl26, RdS.idx hr11 sl26, RdS.cellB hr11 (Ext.pres eB), RdS.cells hr11, BoxAt.cellB hb0_0 eB, wrap_id, Int.add_sub_cancel]
     refine hK _ _ ?_
     clear hK K
     refine den_stop ?_
     exact ⟨k + 1, by simp [HasL, puts_at], ⟨eB, by omega, fun j hj => by
      rcases Nat.lt_succ_iff_lt_or_eq.1 hj with h1 | h1
      ·exact hz j h1
      ·subst h1; exact tbAt_iff.2 c2⟩, by omega⟩
   ·try simp only [decide_eq_true_eq, decide_eq_false_iff_not, beq_iff_eq, beq_eq_false_iff_ne, bne_iff_ne, ne_eq, Bool.not_eq_true', Bool.not_eq_false', Bool.and_eq_true, Bool.or_eq_true, bne_eq_false_iff_eq, Bool.or_eq_false_iff, Bool.and_eq_false_iff] at c1
    refine den_exit ?_
    refine denX_code ?_
    refine denX_stop ?_
    refine denX_hit ?_
    refine den_seq ?_
    refine den_seq ?_
    have hP : PreC X := ⟨hp7, by omega, hda, fun j hj => hz j (by omega)⟩
    refine den_region TTok ?_
    intro K hK
    simp -implicitDefEqProofs (disch := first | decide | assumption | omega) only [go_sem, RdS.len hd sl22, RdS.idx hd sl22, R1.intB hd (Ext.pres eB), RdS.cells hd, RdS.len hm sl23, RdS.idx hm sl23, RdS.cellB hm (Ext.pres eB), RdS.cells hm, BoxAt.cellB hb0_0 eB, wrap_id, Int.add_sub_cancel]
    refine hK _ _ ?_
    clear hK K
    refine den_block ?_
    refine den_sel [5, 1] ?_
    intro env_16
    simp only [go_sem]
    refine den_loopS (σ := Nat) (fun s => [(5, .int .i64 ((s : Int) + 1))]) (fun s H => Ext h0_0 H ∧ 0 < s ∧ ∀ j, 0 < j → j < s → ∀ i, i < (X.maps.getD j default).length → leadP (sqv X j i) < 0) (fun s => X.maps.length - s) 1 ?_ ?_
    ·exact ⟨eB, by omega, fun j h0 hj => by omega⟩
    ·rintro k h19 ee18 ⟨eB, hk, hs⟩
     simp only [List.cons_append, List.nil_append]
     have := Ext.size eB
     refine den_seq ?_
     refine den_seq ?_
     refine den_region TTok ?_
     intro K hK
     simp -implicitDefEqProofs (disch := first | decide | assumption | omega) only [go_sem, ld31, RdS.len hd sl22, RdS.idx hd sl22, R1.intB hd (Ext.pres eB), RdS.cells hd, RdS.len hm sl23, RdS.idx hm sl23, RdS.cellB hm (Ext.pres eB), RdS.cells hm, BoxAt.cellB hb0_0 eB, wrap_id, Int.add_sub_cancel]
     try simp -implicitDefEqProofs (disch := first | decide | assumption | omega) only [go_sem, RdS.len hd sl22, RdS.idx hd sl22, R1.intB hd (Ext.pres eB), RdS.cells hd, RdS.len hm sl23, RdS.idx hm sl23, RdS.cellB hm (Ext.pres eB), RdS.cells hm, BoxAt.cellB hb0_0 eB, wrap_id, Int.add_sub_cancel]
     refine CallA.mono (top_ok _ X _ ⟨_, _, rfl, (RdS.pres hd (Ext.pres eB)), (RdS.pres hm (Ext.pres eB))⟩) ?_
     intro v_ h10_2
     rintro ⟨rfl, e10_2⟩
     have := Ext.size e10_2
     replace eB := Ext.trans eB e10_2
     try simp -implicitDefEqProofs (disch := first | decide | assumption | omega) only [go_sem, RdS.len hd sl22, RdS.idx hd sl22, R1.intB hd (Ext.pres eB), RdS.cells hd, RdS.len hm sl23, RdS.idx hm sl23, RdS.cellB hm (Ext.pres eB), RdS.cells hm, BoxAt.cellB hb0_0 eB, wrap_id, Int.add_sub_cancel]
     refine hK _ _ ?_
     clear hK K
     refine den_cond rfl (fun c3 => ?_) (fun c3 => ?_)
     ·try simp only [decide_eq_true_eq, decide_eq_false_iff_not, beq_iff_eq, beq_eq_false_iff_ne, bne_iff_ne, ne_eq, Bool.not_eq_true', Bool.not_eq_false', Bool.and_eq_true, Bool.or_eq_true, bne_eq_false_iff_eq, Bool.or_eq_false_iff, Bool.and_eq_false_iff] at c3
      refine den_skip ?_
      refine den_seq ?_
      refine den_block ?_
      refine den_seq ?_
      refine den_region TTok ?_
      intro K hK
      have hr20 := RdS.rowN hm k (by omega)
      have hlhr20 := RdS.le hr20
      simp -implicitDefEqProofs (disch := first | decide | assumption | omega) only [go_sem, fa31_2, ld23, ld26, RdS.len hd sl22, RdS.idx hd sl22, R1.intB hd (Ext.pres eB), RdS.cells hd, RdS.len hm sl23, RdS.idx hm sl23, RdS.cellB hm (Ext.pres eB), RdS.cells hm, RdS.len hr20 sl26, RdS.idx hr20 sl26, RdS.cellB hr20 (Ext.pres eB), RdS.cells hr20, BoxAt.cellB hb0_0 eB, wrap_id, Int.add_sub_cancel]
      refine hK _ _ ?_
      clear hK K
      refine den_block ?_
      refine den_sel [74, 1, 5, 72, 73] ?_
      intro env_21
      simp only [go_sem]
      refine den_loopS (σ := Nat) (fun s => [(74, .int .i64 (s : Int))]) (fun s H => Ext h0_0 H ∧ s ≤ (X.maps.getD k default).length ∧ ∀ i, i < s → leadP (sqv X k i) < 0) (fun s => (X.maps.getD k default).length - s) 0 ?_ ?_
      ·exact ⟨eB, by omega, fun j hj => by omega⟩
      ·rintro m h24 ee23 ⟨eB, hm2, hy⟩
       simp only [List.cons_append, List.nil_append]
       have := Ext.size eB
       refine den_seq ?_
       refine den_region TTok ?_
       intro K hK
       simp -implicitDefEqProofs (disch := first | decide | assumption | omega) only [go_sem, RdS.len hd sl22, RdS.idx hd sl22, R1.intB hd (Ext.pres eB), RdS.cells hd, RdS.len hm sl23, RdS.idx hm sl23, RdS.cellB hm (Ext.pres eB), RdS.cells hm, RdS.len hr20 sl26, RdS.idx hr20 sl26, RdS.cellB hr20 (Ext.pres eB), RdS.cells hr20, BoxAt.cellB hb0_0 eB, wrap_id, Int.add_sub_cancel]
       refine hK _ _ ?_
       clear hK K
       refine den_seq ?_
       refine den_cond rfl (fun c4 => ?_) (fun c4 => ?_)
       ·try simp only [decide_eq_true_eq, decide_eq_false_iff_not, beq_iff_eq, beq_eq_false_iff_ne, bne_iff_ne, ne_eq, Bool.not_eq_true', Bool.not_eq_false', Bool.and_eq_true, Bool.or_eq_true, bne_eq_false_iff_eq, Bool.or_eq_false_iff, Bool.and_eq_false_iff] at c4
        refine den_skip ?_
        refine den_seq ?_
        refine den_block ?_
        refine den_seq ?_
        refine den_region TTok ?_
        intro K hK
        have hr25 := RdS.rowN hr20 m (by omega)
        have hlhr25 := RdS.le hr25
        simp -implicitDefEqProofs (disch := first | decide | assumption | omega) only [go_sem, ld22, RdS.len hd sl22, RdS.idx hd sl22, R1.intB hd (Ext.pres eB), RdS.cells hd, RdS.len hm sl23, RdS.idx hm sl23, RdS.cellB hm (Ext.pres eB), RdS.cells hm, RdS.len hr20 sl26, RdS.idx hr20 sl26, RdS.cellB hr20 (Ext.pres eB), RdS.cells hr20, RdS.len hr25 sl22, RdS.idx hr25 sl22, R1.intB hr25 (Ext.pres eB), RdS.cells hr25, BoxAt.cellB hb0_0 eB, wrap_id, Int.add_sub_cancel]
        refine hK _ _ ?_
        clear hK K
        refine den_seq ?_
        have hq := (tableP_iff.1 (hP.tb k (by omega))).2.at (k := m) (by omega)
        refine den_region TTok ?_
        intro K hK
        simp -implicitDefEqProofs (disch := first | decide | assumption | omega) only [go_sem, ld31, RdS.len hd sl22, RdS.idx hd sl22, R1.intB hd (Ext.pres eB), RdS.cells hd, RdS.len hm sl23, RdS.idx hm sl23, RdS.cellB hm (Ext.pres eB), RdS.cells hm, RdS.len hr20 sl26, RdS.idx hr20 sl26, RdS.cellB hr20 (Ext.pres eB), RdS.cells hr20, RdS.len hr25 sl22, RdS.idx hr25 sl22, R1.intB hr25 (Ext.pres eB), RdS.cells hr25, BoxAt.cellB hb0_0 eB, wrap_id, Int.add_sub_cancel]
        try simp -implicitDefEqProofs (disch := first | decide | assumption | omega) only [go_sem, RdS.len hd sl22, RdS.idx hd sl22, R1.intB hd (Ext.pres eB), RdS.cells hd, RdS.len hm sl23, RdS.idx hm sl23, RdS.cellB hm (Ext.pres eB), RdS.cells hm, RdS.len hr20 sl26, RdS.idx hr20 sl26, RdS.cellB hr20 (Ext.pres eB), RdS.cells hr20, RdS.len hr25 sl22, RdS.idx hr25 sl22, R1.intB hr25 (Ext.pres eB), RdS.cells hr25, BoxAt.cellB hb0_0 eB, wrap_id, Int.add_sub_cancel]
        refine CallA.mono (diff_ok _ X _ _ _ _ ⟨_, _, rfl, (RdS.pres hd (Ext.pres eB)), (RdS.pres hm (Ext.pres eB))⟩ (RdS.pres hr25 (Ext.pres eB)) hP hq.2 (fun _ _ => by simpa using hq.1)) ?_
        intro v15_4 h15_4
        rintro ⟨f15_4, ho15_4, hf15_4, e15_4⟩
        have := Ext.size e15_4
        replace eB := Ext.trans eB e15_4
        have hlho15_4 := OS.lt ho15_4
        try simp -implicitDefEqProofs (disch := first | decide | assumption | omega) only [go_sem, RdS.len hd sl22, RdS.idx hd sl22, R1.intB hd (Ext.pres eB), RdS.cells hd, RdS.len hm sl23, RdS.idx hm sl23, RdS.cellB hm (Ext.pres eB), RdS.cells hm, RdS.len hr20 sl26, RdS.idx hr20 sl26, RdS.cellB hr20 (Ext.pres eB), RdS.cells hr20, RdS.len hr25 sl22, RdS.idx hr25 sl22, R1.intB hr25 (Ext.pres eB), RdS.cells hr25, RdS.len (OS.rd ho15_4) sl22, RdS.idx (OS.rd ho15_4) sl22, R1.intN (OS.rd ho15_4), RdS.cells (OS.rd ho15_4), BoxAt.cellB hb0_0 eB, wrap_id, Int.add_sub_cancel]
        try simp -implicitDefEqProofs (disch := first | decide | assumption | omega) only [go_sem, RdS.len hd sl22, RdS.idx hd sl22, R1.intB hd (Ext.pres eB), RdS.cells hd, RdS.len hm sl23, RdS.idx hm sl23, RdS.cellB hm (Ext.pres eB), RdS.cells hm, RdS.len hr20 sl26, RdS.idx hr20 sl26, RdS.cellB hr20 (Ext.pres eB), RdS.cells hr20, RdS.len hr25 sl22, RdS.idx hr25 sl22, R1.intB hr25 (Ext.pres eB), RdS.cells hr25, RdS.len (OS.rd ho15_4) sl22, RdS.idx (OS.rd ho15_4) sl22, R1.intN (OS.rd ho15_4), RdS.cells (OS.rd ho15_4), BoxAt.cellB hb0_0 eB, wrap_id, Int.add_sub_cancel]
        refine CallA.mono (isZero_ok _ _ _ (OS.rd ho15_4)) ?_
        intro v_ h15_5
        rintro ⟨rfl, e15_5⟩
        replace ho15_4 := OS.ext ho15_4 e15_5
        have := Ext.size e15_5
        replace eB := Ext.trans eB e15_5
        try simp -implicitDefEqProofs (disch := first | decide | assumption | omega) only [go_sem, RdS.len hd sl22, RdS.idx hd sl22, R1.intB hd (Ext.pres eB), RdS.cells hd, RdS.len hm sl23, RdS.idx hm sl23, RdS.cellB hm (Ext.pres eB), RdS.cells hm, RdS.len hr20 sl26, RdS.idx hr20 sl26, RdS.cellB hr20 (Ext.pres eB), RdS.cells hr20, RdS.len hr25 sl22, RdS.idx hr25 sl22, R1.intB hr25 (Ext.pres eB), RdS.cells hr25, RdS.len (OS.rd ho15_4) sl22, RdS.idx (OS.rd ho15_4) sl22, R1.intN (OS.rd ho15_4), RdS.cells (OS.rd ho15_4), BoxAt.cellB hb0_0 eB, wrap_id, Int.add_sub_cancel]
        refine hK _ _ ?_
        clear hK K
        refine den_cond rfl (fun c5 => ?_) (fun c5 => ?_)
        ·try simp only [decide_eq_true_eq, decide_eq_false_iff_not, beq_iff_eq, beq_eq_false_iff_ne, bne_iff_ne, ne_eq, Bool.not_eq_true', Bool.not_eq_false', Bool.and_eq_true, Bool.or_eq_true, bne_eq_false_iff_eq, Bool.or_eq_false_iff, Bool.and_eq_false_iff] at c5
         refine den_seq ?_
         refine den_region TTok ?_
         intro K hK
         simp -implicitDefEqProofs (disch := first | decide | assumption | omega) only [go_sem, RdS.len hd sl22, RdS.idx hd sl22, R1.intB hd (Ext.pres eB), RdS.cells hd, RdS.len hm sl23, RdS.idx hm sl23, RdS.cellB hm (Ext.pres eB), RdS.cells hm, RdS.len hr20 sl26, RdS.idx hr20 sl26, RdS.cellB hr20 (Ext.pres eB), RdS.cells hr20, RdS.len hr25 sl22, RdS.idx hr25 sl22, R1.intB hr25 (Ext.pres eB), RdS.cells hr25, RdS.len (OS.rd ho15_4) sl22, RdS.idx (OS.rd ho15_4) sl22, R1.intN (OS.rd ho15_4), RdS.cells (OS.rd ho15_4), BoxAt.cellB hb0_0 eB, wrap_id, Int.add_sub_cancel]
         refine hK _ _ ?_
         clear hK K
         refine den_ret ?_
         simp (disch := decide) only [resP_1, puts_same, puts_ne]
         exact ⟨vbool (isC_no fun hC => by have h := hC.sq k (by omega) (by omega) m (by omega); rw [diff_sqv (by omega) (by omega)] at c5; exact lead_some c5 h), (Ext.trans e0_0 eB)⟩
        ·try simp only [decide_eq_true_eq, decide_eq_false_iff_not, beq_iff_eq, beq_eq_false_iff_ne, bne_iff_ne, ne_eq, Bool.not_eq_true', Bool.not_eq_false', Bool.and_eq_true, Bool.or_eq_true, bne_eq_false_iff_eq, Bool.or_eq_false_iff, Bool.and_eq_false_iff] at c5
         refine den_skip ?_
         refine den_blk ?_
         refine den_region TTok ?_
         intro K hK
         simp -implicitDefEqProofs (disch := first | decide | assumption | omega) only [go_sem, RdS.len hd sl22, RdS.idx hd sl22, R1.intB hd (Ext.pres eB), RdS.cells hd, RdS.len hm sl23, RdS.idx hm sl23, RdS.cellB hm (Ext.pres eB), RdS.cells hm, RdS.len hr20 sl26, RdS.idx hr20 sl26, RdS.cellB hr20 (Ext.pres eB), RdS.cells hr20, RdS.len hr25 sl22, RdS.idx hr25 sl22, R1.intB hr25 (Ext.pres eB), RdS.cells hr25, RdS.len (OS.rd ho15_4) sl22, RdS.idx (OS.rd ho15_4) sl22, R1.intN (OS.rd ho15_4), RdS.cells (OS.rd ho15_4), BoxAt.cellB hb0_0 eB, wrap_id, Int.add_sub_cancel]
         refine hK _ _ ?_
         clear hK K
         refine den_stop ?_
         exact ⟨m + 1, by simp [HasL, puts_at], ⟨eB, by omega, fun i hi => by
          rcases Nat.lt_succ_iff_lt_or_eq.1 hi with h1 | h1
          ·exact hy i h1
          ·subst h1; rw [← diff_sqv (by omega) (by omega)]; exact lead_zero c5⟩, by omega⟩
       ·try simp only [decide_eq_true_eq, decide_eq_false_iff_not, beq_iff_eq, beq_eq_false_iff_ne, bne_iff_ne, ne_eq, Bool.not_eq_true', Bool.not_eq_false', Bool.and_eq_true, Bool.or_eq_true, bne_eq_false_iff_eq, Bool.or_eq_false_iff, Bool.and_eq_false_iff] at c4
        refine den_exit ?_
        refine denX_code ?_
        refine denX_stop ?_
        refine denX_hit ?_
        refine den_blk ?_
        refine den_region TTok ?_
        intro K hK
        simp -implicitDefEqProofs (disch := first | decide | assumption | omega) only [go_sem, RdS.len hd sl22, RdS.idx hd sl22, R1.intB hd (Ext.pres eB), RdS.cells hd, RdS.len hm sl23, RdS.idx hm sl23, RdS.cellB hm (Ext.pres eB), RdS.cells hm, RdS.len hr20 sl26, RdS.idx hr20 sl26, RdS.cellB hr20 (Ext.pres eB), RdS.cells hr20, BoxAt.cellB hb0_0 eB, wrap_id, Int.add_sub_cancel]
        refine hK _ _ ?_
        clear hK K
        refine den_stop ?_
        exact ⟨k + 1, by simp [HasL, puts_at], ⟨eB, by omega, fun j h0 hj => by
         rcases Nat.lt_succ_iff_lt_or_eq.1 hj with h1 | h1
         ·exact hs j h0 h1
         ·subst h1; exact fun i hi => hy i (by omega)⟩, by omega⟩
     ·try simp only [decide_eq_true_eq, decide_eq_false_iff_not, beq_iff_eq, beq_eq_false_iff_ne, bne_iff_ne, ne_eq, Bool.not_eq_true', Bool.not_eq_false', Bool.and_eq_true, Bool.or_eq_true, bne_eq_false_iff_eq, Bool.or_eq_false_iff, Bool.and_eq_false_iff] at c3
      refine den_exit ?_
      refine denX_code ?_
      refine denX_stop ?_
      refine denX_hit ?_
      refine den_seq ?_
      refine den_region TTok ?_
      intro K hK
      simp -implicitDefEqProofs (disch := first | decide | assumption | omega) only [go_sem, RdS.len hd sl22, RdS.idx hd sl22, R1.intB hd (Ext.pres eB), RdS.cells hd, RdS.len hm sl23, RdS.idx hm sl23, RdS.cellB hm (Ext.pres eB), RdS.cells hm, BoxAt.cellB hb0_0 eB, wrap_id, Int.add_sub_cancel]
      refine hK _ _ ?_
      clear hK K
      refine den_ret ?_
      simp (disch := decide) only [resP_1, puts_same, puts_ne]
      exact ⟨vbool (isC_yes ⟨c0.1.1.1, by omega, by omega, hda, hP.tb, fun j hj h0 => hs j h0 (by omega)⟩), (Ext.trans e0_0 eB)⟩
end Go.Proofs.Ytjjjgllbocgkbaa

namespace Go.Proofs.Ytjjjgllbocgkbaa
open Go
theorem dimP_bnd {X : Cx} (hC : IsC X) (n : Int) : 0 ≤ dimP X n ∧ dimP X n ≤ 8 := by
 unfold dimP
 split
 ·rename_i h
  rw [in3_iff] at h
  exact dm_at hC.dm (by omega)
 ·omega
theorem dimP_out {X : Cx} {n : Int} (h : ¬ (0 ≤ n ∧ n ≤ (X.dims.length : Int) - 1)) : dimP X n = 0 := by
 rw [dimP, if_neg (by rw [in3_iff]; exact h)]
end Go.Proofs.Ytjjjgllbocgkbaa

namespace Go.Proofs.Ytjjjgllbocgkbaa
open Go
theorem szI_ok {xs : List Int} {l : Int} (hl : l ≤ 1048576) (h : ¬ szI xs l < 0) : HM1 xs := by
 unfold szI at h
 unfold HM1
 split at h <;> omega
theorem szRows_ok {α : Type} {f : α → Int → Int} {P : α → Prop} (hle : ∀ x l, 0 ≤ l → -1 ≤ f x l ∧ f x l ≤ l) (hP : ∀ x l, 0 ≤ l → l ≤ 1048576 → ¬ f x l < 0 → P x) : ∀ (r : List α) (l : Int), 0 ≤ l → l ≤ 1048576 → ¬ szRows f r l < 0 → ∀ x ∈ r, P x
 | [], _, _, _, _, x, hx => by cases hx
 | y :: r, l, h0, h1, h, x, hx => by
  unfold szRows at h
  split at h
  ·omega
  ·rename_i hc
   have := hle y l h0
   rcases List.mem_cons.1 hx with rfl | hx
   ·exact hP _ l h0 h1 hc
   ·exact szRows_ok hle hP r (f y l) (by omega) (by omega) h x hx
theorem szL_ok {α : Type} {f : α → Int → Int} {P : α → Prop} (hle : ∀ x l, 0 ≤ l → -1 ≤ f x l ∧ f x l ≤ l) (hP : ∀ x l, 0 ≤ l → l ≤ 1048576 → ¬ f x l < 0 → P x) {r : List α} {l : Int} (h1 : l ≤ 1048576) (h : ¬ szL f r l < 0) : (r.length : Int) ≤ 1048576 ∧ ∀ x ∈ r, P x := by
 unfold szL at h
 split at h
 ·omega
 ·exact ⟨by omega, szRows_ok hle hP r _ (by omega) (by omega) h⟩
theorem sz2_ok {r : List (List Int)} {l : Int} (h0 : 0 ≤ l) (h1 : l ≤ 1048576) (h : ¬ sz2 r l < 0) : HM2 r := szL_ok szI_le (fun x l _ h1 h => szI_ok h1 h) h1 h
theorem sz3_ok {r : List (List (List Int))} {l : Int} (h0 : 0 ≤ l) (h1 : l ≤ 1048576) (h : ¬ sz3 r l < 0) : HM3 r := szL_ok sz2_le (fun x l h0 h1 h => sz2_ok h0 h1 h) h1 h
theorem szC_ok' {X : Cx} {l : Int} (h0 : 0 ≤ l) (h1 : l ≤ 1048576) (h : ¬ szC X l < 0) : HMC X := by
 unfold szC at h
 have hle := szI_le X.dims l h0
 split at h
 ·omega
 ·rename_i hc
  split at h
  ·omega
  ·rename_i hc2
   exact ⟨szI_ok h1 hc, sz3_ok (by omega) (by omega) hc2⟩
theorem Fresh.left {lo : Nat} {f1 f2 : List Nat} (h : Fresh lo (f1 ++ f2)) : Fresh lo f1 := ⟨(List.nodup_append.1 h.nodup).1, fun b hb => h.ge b (List.mem_append_left _ hb)⟩
theorem Fresh.right {lo : Nat} {f1 f2 : List Nat} (h : Fresh lo (f1 ++ f2)) : Fresh lo f2 := ⟨(List.nodup_append.1 h.nodup).2.1, fun b hb => h.ge b (List.mem_append_right _ hb)⟩
end Go.Proofs.Ytjjjgllbocgkbaa

namespace Go.Proofs.Ytjjjgllbocgkbaa
open Go
def markI : List Int → Int → List Int
 | [], _ => []
 | _ :: r, k => k :: markI r (k + 1)
def markL {α : Type} (mk : α → Int → α) (ct : α → Int) : List α → Int → List α
 | [], _ => []
 | x :: r, k => mk x k :: markL mk ct r (k + ct x)
def cntL {α : Type} (ct : α → Int) : List α → Int
 | [] => 0
 | x :: r => ct x + cntL ct r
def cnt1 (xs : List Int) : Int := xs.length
abbrev cnt2 : List (List Int) → Int := cntL cnt1
abbrev mark2 : List (List Int) → Int → List (List Int) := markL markI cnt1
abbrev mark3 : List (List (List Int)) → Int → List (List (List Int)) := markL mark2 cnt2
theorem markI_len : ∀ (xs : List Int) (k : Int), (markI xs k).length = xs.length
 | [], _ => rfl
 | _ :: r, k => by simp [markI, markI_len r]
theorem markI_get : ∀ (xs : List Int) (k : Int) (i : Nat), i < xs.length → (markI xs k).getD i 0 = k + i
 | _ :: r, k, 0, _ => by simp [markI]
 | _ :: r, k, i + 1, h => by
  have := markI_get r (k + 1) i (by simpa using h)
  simp only [markI, List.getD_cons_succ, this]; omega
theorem mark_set {xs : List Int} {k : Int} {i : Nat} (h : i < xs.length) : (mix (markI xs k) xs i).set i (k + i) = mix (markI xs k) xs (i + 1) := by
 rw [← markI_get xs k i h, mix_set _ _ _ _ (markI_len xs k) h]
section
variable {α : Type} {mk : α → Int → α} {ct : α → Int}
theorem markL_len : ∀ (xs : List α) (k : Int), (markL mk ct xs k).length = xs.length
 | [], _ => rfl
 | _ :: r, k => by simp [markL, markL_len r]
theorem markL_get [Inhabited α] : ∀ (xs : List α) (k : Int) (i : Nat), i < xs.length → (markL mk ct xs k).getD i default = mk (xs.getD i default) (k + cntL ct (xs.take i))
 | x :: r, k, 0, _ => by simp [markL, cntL]
 | x :: r, k, i + 1, h => by
  have := markL_get r (k + ct x) i (by simpa using h)
  simp only [markL, List.getD_cons_succ, this, List.take_succ_cons, cntL]
  rw [Int.add_assoc]
theorem cntL_take [Inhabited α] : ∀ (xs : List α) (i : Nat), i < xs.length → cntL ct (xs.take (i + 1)) = cntL ct (xs.take i) + ct (xs.getD i default)
 | x :: r, 0, _ => by simp [cntL]
 | x :: r, i + 1, h => by
  have := cntL_take r i (by simpa using h)
  simp only [List.take_succ_cons, cntL, List.getD_cons_succ] at this ⊢
  omega
theorem cntL_nonneg (h : ∀ x, 0 ≤ ct x) : ∀ xs : List α, 0 ≤ cntL ct xs
 | [] => by simp [cntL]
 | x :: r => by have := h x; have := cntL_nonneg h r; simp only [cntL]; omega
theorem cntL_le (h : ∀ x, 0 ≤ ct x) : ∀ (xs : List α) (i : Nat), cntL ct (xs.take i) ≤ cntL ct xs
 | [], i => by simp
 | x :: r, 0 => by have := cntL_nonneg h (x :: r); simpa [cntL] using this
 | x :: r, i + 1 => by have := cntL_le h r i; simp only [List.take_succ_cons, cntL]; omega
theorem markL_set [Inhabited α] {xs : List α} {k : Int} {i : Nat} (h : i < xs.length) : (mix (markL mk ct xs k) xs i).set i (mk (xs.getD i default) (k + cntL ct (xs.take i))) = mix (markL mk ct xs k) xs (i + 1) := by
 rw [← markL_get (mk := mk) (ct := ct) xs k i h, mix_set _ _ _ _ (markL_len xs k) h]
end
theorem cnt1_nn (x : List Int) : 0 ≤ cnt1 x := by unfold cnt1; omega
theorem cnt2_nn (x : List (List Int)) : 0 ≤ cnt2 x := cntL_nonneg cnt1_nn x
set_option maxRecDepth 100000 in
theorem markS_ok (v : Value) (xs : List Int) (k : Int) (fp : List Nat) (h : Heap) (ho : O1 h v xs fp) (hn : fp.Nodup) (hk : 0 ≤ k ∧ k + cnt1 xs ≤ 4611686018427387904) : CallA Try.prog 49 #[v, .int .i64 k] h fun u h' => u = .int .i64 (k + cnt1 xs) ∧ O1 h' v (markI xs k) fp ∧ Chg fp h h' := by
 unfold cnt1 at *
 refine callA_intro TTok (args := [_, _]) Try.func49 (by kernel_rfl) rfl 19 rfl (by simp) [.tmp 4] rfl ?_
 simp only [idxs, Nat.reduceAdd]
 refine den_seq ?_
 refine den_region TTok ?_
 intro K hK
 simp -implicitDefEqProofs (disch := first | decide | assumption | omega) only [go_sem, RdS.len (OS.rd ho) sl22, RdS.idx (OS.rd ho) sl22, R1.intN (OS.rd ho), RdS.cells (OS.rd ho), wrap_id]
 refine hK _ _ ?_
 clear hK K
 refine den_seq ?_
 refine den_seq ?_
 refine den_region TTok ?_
 intro K hK
 simp -implicitDefEqProofs (disch := first | decide | assumption | omega) only [go_sem, RdS.len (OS.rd ho) sl22, RdS.idx (OS.rd ho) sl22, R1.intN (OS.rd ho), RdS.cells (OS.rd ho), wrap_id]
 refine hK _ _ ?_
 clear hK K
 refine den_block ?_
 refine den_sel [1, 5, 0] ?_
 intro env_1
 simp only [go_sem]
 refine den_loopS (σ := Nat × Int) (fun s => [(1, .int .i64 s.2), (5, .int .i64 (s.1 : Int))]) (fun s H => Chg fp h H ∧ s.1 ≤ xs.length ∧ s.2 = k + s.1 ∧ O1 H v (mix (markI xs k) xs s.1) fp) (fun s => xs.length - s.1) (0, k) ?_ ?_
 ·exact ⟨Chg.refl _ _, by simp, by simp, by rw [mix_zero]; exact ho⟩
 ·rintro ⟨i, q⟩ h4 ee3 ⟨hch, hi, hq, ho⟩
  simp only [List.cons_append, List.nil_append]
  dsimp only at hi hq ho
  refine den_seq ?_
  refine den_seq ?_
  have hml := mix_len (markI xs k) xs i (markI_len xs k)
  refine den_region TTok ?_
  intro K hK
  simp -implicitDefEqProofs (disch := first | decide | assumption | omega) only [go_sem, RdS.len (OS.rd ho) sl22, RdS.idx (OS.rd ho) sl22, R1.intN (OS.rd ho), RdS.cells (OS.rd ho), wrap_id]
  refine hK _ _ ?_
  clear hK K
  refine den_cond rfl (fun c0 => ?_) (fun c0 => ?_)
  ·try simp only [decide_eq_true_eq, decide_eq_false_iff_not, beq_iff_eq, beq_eq_false_iff_ne, bne_iff_ne, ne_eq, Bool.not_eq_true', Bool.not_eq_false', Bool.and_eq_true, Bool.or_eq_true, bne_eq_false_iff_eq] at c0
   refine den_skip ?_
   refine den_seq ?_
   refine den_block ?_
   refine den_seq ?_
   refine den_region TTok ?_
   intro K hK
   simp -implicitDefEqProofs (disch := first | decide | assumption | omega) only [go_sem, RdS.len (OS.rd ho) sl22, RdS.idx (OS.rd ho) sl22, R1.intN (OS.rd ho), RdS.cells (OS.rd ho), wrap_id]
   refine op_store1 (j := i) st2 ho hn (by omega) rfl rfl ?_
   intro h4 ho4 c4
   replace hch := hch.trans c4
   rw [hq, mark_set (by omega)] at ho4
   try simp -implicitDefEqProofs (disch := first | decide | assumption | omega) only [go_sem, RdS.len (OS.rd ho) sl22, RdS.idx (OS.rd ho) sl22, R1.intN (OS.rd ho), RdS.cells (OS.rd ho), wrap_id]
   refine hK _ _ ?_
   clear hK K
   refine den_region TTok ?_
   intro K hK
   simp -implicitDefEqProofs (disch := first | decide | assumption | omega) only [go_sem, RdS.len (OS.rd ho) sl22, RdS.idx (OS.rd ho) sl22, R1.intN (OS.rd ho), RdS.cells (OS.rd ho), wrap_id]
   refine hK _ _ ?_
   clear hK K
   refine den_blk ?_
   refine den_region TTok ?_
   intro K hK
   simp -implicitDefEqProofs (disch := first | decide | assumption | omega) only [go_sem, RdS.len (OS.rd ho) sl22, RdS.idx (OS.rd ho) sl22, R1.intN (OS.rd ho), RdS.cells (OS.rd ho), wrap_id]
   refine hK _ _ ?_
   clear hK K
   refine den_stop ?_
   exact ⟨(i + 1, q + 1), by simp [HasL, puts_at], ⟨hch, by dsimp only; omega, by dsimp only; omega, ho4⟩, by dsimp only; omega⟩
  ·try simp only [decide_eq_true_eq, decide_eq_false_iff_not, beq_iff_eq, beq_eq_false_iff_ne, bne_iff_ne, ne_eq, Bool.not_eq_true', Bool.not_eq_false', Bool.and_eq_true, Bool.or_eq_true, bne_eq_false_iff_eq] at c0
   refine den_exit ?_
   refine denX_code ?_
   refine denX_stop ?_
   refine denX_hit ?_
   refine den_seq ?_
   refine den_region TTok ?_
   intro K hK
   simp -implicitDefEqProofs (disch := first | decide | assumption | omega) only [go_sem, RdS.len (OS.rd ho) sl22, RdS.idx (OS.rd ho) sl22, R1.intN (OS.rd ho), RdS.cells (OS.rd ho), wrap_id]
   refine hK _ _ ?_
   clear hK K
   refine den_ret ?_
   simp (disch := decide) only [resP_1, puts_same, puts_ne]
   rw [mix_end _ _ _ (markI_len xs k) (by omega)] at ho
   exact ⟨vint (by omega), ho, hch⟩

set_option maxRecDepth 100000 in
theorem markSS_ok (v : Value) (R : List (List Int)) (k : Int) (fp : List Nat) (h : Heap) (ho : O2 h v R fp) (hn : fp.Nodup) (hk : 0 ≤ k ∧ k + cntL cnt1 R ≤ 4611686018427387904) : CallA Try.prog 27 #[v, .int .i64 k] h fun u h' => u = .int .i64 (k + cntL cnt1 R) ∧ O2 h' v (markL markI cnt1 R k) fp ∧ Chg fp h h' := by
 have hle := OS.len_le ho
 refine callA_intro TTok (args := [_, _]) Try.func27 (by kernel_rfl) rfl 19 rfl (by simp) [.tmp 4] rfl ?_
 simp only [idxs, Nat.reduceAdd]
 refine den_seq ?_
 refine den_region TTok ?_
 intro K hK
 simp -implicitDefEqProofs (disch := first | decide | assumption | omega) only [go_sem, RdS.len (OS.rd ho) sl26, RdS.idx (OS.rd ho) sl26, RdS.cellN (OS.rd ho), RdS.cells (OS.rd ho), wrap_id]
 refine hK _ _ ?_
 clear hK K
 refine den_seq ?_
 refine den_seq ?_
 refine den_region TTok ?_
 intro K hK
 simp -implicitDefEqProofs (disch := first | decide | assumption | omega) only [go_sem, RdS.len (OS.rd ho) sl26, RdS.idx (OS.rd ho) sl26, RdS.cellN (OS.rd ho), RdS.cells (OS.rd ho), wrap_id]
 refine hK _ _ ?_
 clear hK K
 refine den_block ?_
 refine den_sel [1, 5, 0] ?_
 intro env_1
 simp only [go_sem]
 refine den_loopS (σ := Nat × Int) (fun s => [(1, .int .i64 s.2), (5, .int .i64 (s.1 : Int))]) (fun s H => Chg fp h H ∧ s.1 ≤ R.length ∧ s.2 = k + cntL cnt1 (R.take s.1) ∧ O2 H v (mix (markL markI cnt1 R k) R s.1) fp) (fun s => R.length - s.1) (0, k) ?_ ?_
 ·exact ⟨Chg.refl _ _, by simp, by simp [cntL], by rw [mix_zero]; exact ho⟩
 ·rintro ⟨i, q⟩ h4 ee3 ⟨hch, hi, hq, ho⟩
  simp only [List.cons_append, List.nil_append]
  dsimp only at hi hq ho
  refine den_seq ?_
  refine den_seq ?_
  have hml := mix_len (markL markI cnt1 R k) R i (markL_len R k)
  refine den_region TTok ?_
  intro K hK
  simp -implicitDefEqProofs (disch := first | decide | assumption | omega) only [go_sem, RdS.len (OS.rd ho) sl26, RdS.idx (OS.rd ho) sl26, RdS.cellN (OS.rd ho), RdS.cells (OS.rd ho), wrap_id]
  refine hK _ _ ?_
  clear hK K
  refine den_cond rfl (fun c0 => ?_) (fun c0 => ?_)
  ·try simp only [decide_eq_true_eq, decide_eq_false_iff_not, beq_iff_eq, beq_eq_false_iff_ne, bne_iff_ne, ne_eq, Bool.not_eq_true', Bool.not_eq_false', Bool.and_eq_true, Bool.or_eq_true, bne_eq_false_iff_eq] at c0
   refine den_skip ?_
   refine den_seq ?_
   refine den_block ?_
   have hmg := mix_get (markL markI cnt1 R k) R i default (markL_len R k) (by omega)
   have hct := cntL_take (ct := cnt1) R i (by omega)
   have hcl := cntL_le cnt1_nn R (i + 1)
   have hcn := cnt1_nn (R.getD i default)
   have hcn2 := cntL_nonneg cnt1_nn (R.take i)
   refine den_region TTok ?_
   intro K hK
   simp -implicitDefEqProofs (disch := first | decide | assumption | omega) only [go_sem, ld22, RdS.len (OS.rd ho) sl26, RdS.idx (OS.rd ho) sl26, RdS.cellN (OS.rd ho), RdS.cells (OS.rd ho), wrap_id]
   try simp -implicitDefEqProofs (disch := first | decide | assumption | omega) only [go_sem, RdS.len (OS.rd ho) sl26, RdS.idx (OS.rd ho) sl26, RdS.cellN (OS.rd ho), RdS.cells (OS.rd ho), wrap_id]
   obtain ⟨f, hE, hsub, hnf, hbk⟩ := OS.elem ho hn i (by omega)
   rw [hmg] at hE
   refine CallA.mono (markS_ok _ _ q _ _ hE hnf (by have := cnt1_nn (R.getD i default); simp only [cnt1] at *; omega)) ?_
   intro v_ h4_5
   rintro ⟨rfl, hE2, c4⟩
   change O1 _ _ (markI (R.getD i default) q) _ at hE2
   have ho4 := hbk _ _ c4 hE2
   replace hch := hch.trans (c4.mono hsub)
   rw [hq, markL_set (mk := markI) (by omega)] at ho4
   try simp -implicitDefEqProofs (disch := first | decide | assumption | omega) only [go_sem, RdS.len (OS.rd ho) sl26, RdS.idx (OS.rd ho) sl26, RdS.cellN (OS.rd ho), RdS.cells (OS.rd ho), wrap_id]
   refine hK _ _ ?_
   clear hK K
   refine den_blk ?_
   refine den_region TTok ?_
   intro K hK
   simp -implicitDefEqProofs (disch := first | decide | assumption | omega) only [go_sem, RdS.len (OS.rd ho) sl26, RdS.idx (OS.rd ho) sl26, RdS.cellN (OS.rd ho), RdS.cells (OS.rd ho), wrap_id]
   refine hK _ _ ?_
   clear hK K
   refine den_stop ?_
   exact ⟨(i + 1, q + cnt1 (R.getD i default)), by simp [HasL, puts_at], ⟨hch, by dsimp only; omega, by dsimp only; omega, ho4⟩, by dsimp only; omega⟩
  ·try simp only [decide_eq_true_eq, decide_eq_false_iff_not, beq_iff_eq, beq_eq_false_iff_ne, bne_iff_ne, ne_eq, Bool.not_eq_true', Bool.not_eq_false', Bool.and_eq_true, Bool.or_eq_true, bne_eq_false_iff_eq] at c0
   refine den_exit ?_
   refine denX_code ?_
   refine denX_stop ?_
   refine denX_hit ?_
   refine den_seq ?_
   refine den_region TTok ?_
   intro K hK
   simp -implicitDefEqProofs (disch := first | decide | assumption | omega) only [go_sem, RdS.len (OS.rd ho) sl26, RdS.idx (OS.rd ho) sl26, RdS.cellN (OS.rd ho), RdS.cells (OS.rd ho), wrap_id]
   refine hK _ _ ?_
   clear hK K
   refine den_ret ?_
   simp (disch := decide) only [resP_1, puts_same, puts_ne]
   have ht : R.take i = R := List.take_of_length_le (by omega)
   rw [mix_end _ _ _ (markL_len R k) (by omega)] at ho
   rw [ht] at hq
   exact ⟨vint hq, ho, hch⟩

set_option maxRecDepth 100000 in
theorem markSSS_ok (v : Value) (R : List (List (List Int))) (k : Int) (fp : List Nat) (h : Heap) (ho : O3 h v R fp) (hn : fp.Nodup) (hk : 0 ≤ k ∧ k + cntL cnt2 R ≤ 4611686018427387904) : CallA Try.prog 65 #[v, .int .i64 k] h fun u h' => u = .int .i64 (k + cntL cnt2 R) ∧ O3 h' v (markL mark2 cnt2 R k) fp ∧ Chg fp h h' := by
 have hle := OS.len_le ho
 refine callA_intro TTok (args := [_, _]) Try.func65 (by kernel_rfl) rfl 19 rfl (by simp) [.tmp 4] rfl ?_
 simp only [idxs, Nat.reduceAdd]
 refine den_seq ?_
 refine den_region TTok ?_
 intro K hK
 simp -implicitDefEqProofs (disch := first | decide | assumption | omega) only [go_sem, RdS.len (OS.rd ho) sl23, RdS.idx (OS.rd ho) sl23, RdS.cellN (OS.rd ho), RdS.cells (OS.rd ho), wrap_id]
 refine hK _ _ ?_
 clear hK K
 refine den_seq ?_
 refine den_seq ?_
 refine den_region TTok ?_
 intro K hK
 simp -implicitDefEqProofs (disch := first | decide | assumption | omega) only [go_sem, RdS.len (OS.rd ho) sl23, RdS.idx (OS.rd ho) sl23, RdS.cellN (OS.rd ho), RdS.cells (OS.rd ho), wrap_id]
 refine hK _ _ ?_
 clear hK K
 refine den_block ?_
 refine den_sel [1, 5, 0] ?_
 intro env_1
 simp only [go_sem]
 refine den_loopS (σ := Nat × Int) (fun s => [(1, .int .i64 s.2), (5, .int .i64 (s.1 : Int))]) (fun s H => Chg fp h H ∧ s.1 ≤ R.length ∧ s.2 = k + cntL cnt2 (R.take s.1) ∧ O3 H v (mix (markL mark2 cnt2 R k) R s.1) fp) (fun s => R.length - s.1) (0, k) ?_ ?_
 ·exact ⟨Chg.refl _ _, by simp, by simp [cntL], by rw [mix_zero]; exact ho⟩
 ·rintro ⟨i, q⟩ h4 ee3 ⟨hch, hi, hq, ho⟩
  simp only [List.cons_append, List.nil_append]
  dsimp only at hi hq ho
  refine den_seq ?_
  refine den_seq ?_
  have hml := mix_len (markL mark2 cnt2 R k) R i (markL_len R k)
  refine den_region TTok ?_
  intro K hK
  simp -implicitDefEqProofs (disch := first | decide | assumption | omega) only [go_sem, RdS.len (OS.rd ho) sl23, RdS.idx (OS.rd ho) sl23, RdS.cellN (OS.rd ho), RdS.cells (OS.rd ho), wrap_id]
  refine hK _ _ ?_
  clear hK K
  refine den_cond rfl (fun c0 => ?_) (fun c0 => ?_)
  ·try simp only [decide_eq_true_eq, decide_eq_false_iff_not, beq_iff_eq, beq_eq_false_iff_ne, bne_iff_ne, ne_eq, Bool.not_eq_true', Bool.not_eq_false', Bool.and_eq_true, Bool.or_eq_true, bne_eq_false_iff_eq] at c0
   refine den_skip ?_
   refine den_seq ?_
   refine den_block ?_
   have hmg := mix_get (markL mark2 cnt2 R k) R i default (markL_len R k) (by omega)
   have hct := cntL_take (ct := cnt2) R i (by omega)
   have hcl := cntL_le cnt2_nn R (i + 1)
   have hcn := cnt2_nn (R.getD i default)
   have hcn2 := cntL_nonneg cnt2_nn (R.take i)
   refine den_region TTok ?_
   intro K hK
   simp -implicitDefEqProofs (disch := first | decide | assumption | omega) only [go_sem, ld26, RdS.len (OS.rd ho) sl23, RdS.idx (OS.rd ho) sl23, RdS.cellN (OS.rd ho), RdS.cells (OS.rd ho), wrap_id]
   try simp -implicitDefEqProofs (disch := first | decide | assumption | omega) only [go_sem, RdS.len (OS.rd ho) sl23, RdS.idx (OS.rd ho) sl23, RdS.cellN (OS.rd ho), RdS.cells (OS.rd ho), wrap_id]
   obtain ⟨f, hE, hsub, hnf, hbk⟩ := OS.elem ho hn i (by omega)
   rw [hmg] at hE
   refine CallA.mono (markSS_ok _ _ q _ _ hE hnf (by have := cnt2_nn (R.getD i default); simp only [cnt2] at *; omega)) ?_
   intro v_ h4_5
   rintro ⟨rfl, hE2, c4⟩
   change O2 _ _ (mark2 (R.getD i default) q) _ at hE2
   have ho4 := hbk _ _ c4 hE2
   replace hch := hch.trans (c4.mono hsub)
   rw [hq, markL_set (mk := mark2) (by omega)] at ho4
   try simp -implicitDefEqProofs (disch := first | decide | assumption | omega) only [go_sem, RdS.len (OS.rd ho) sl23, RdS.idx (OS.rd ho) sl23, RdS.cellN (OS.rd ho), RdS.cells (OS.rd ho), wrap_id]
   refine hK _ _ ?_
   clear hK K
   refine den_blk ?_
   refine den_region TTok ?_
   intro K hK
   simp -implicitDefEqProofs (disch := first | decide | assumption | omega) only [go_sem, RdS.len (OS.rd ho) sl23, RdS.idx (OS.rd ho) sl23, RdS.cellN (OS.rd ho), RdS.cells (OS.rd ho), wrap_id]
   refine hK _ _ ?_
   clear hK K
   refine den_stop ?_
   exact ⟨(i + 1, q + cnt2 (R.getD i default)), by simp [HasL, puts_at], ⟨hch, by dsimp only; omega, by dsimp only; omega, ho4⟩, by dsimp only; omega⟩
  ·try simp only [decide_eq_true_eq, decide_eq_false_iff_not, beq_iff_eq, beq_eq_false_iff_ne, bne_iff_ne, ne_eq, Bool.not_eq_true', Bool.not_eq_false', Bool.and_eq_true, Bool.or_eq_true, bne_eq_false_iff_eq] at c0
   refine den_exit ?_
   refine denX_code ?_
   refine denX_stop ?_
   refine denX_hit ?_
   refine den_seq ?_
   refine den_region TTok ?_
   intro K hK
   simp -implicitDefEqProofs (disch := first | decide | assumption | omega) only [go_sem, RdS.len (OS.rd ho) sl23, RdS.idx (OS.rd ho) sl23, RdS.cellN (OS.rd ho), RdS.cells (OS.rd ho), wrap_id]
   refine hK _ _ ?_
   clear hK K
   refine den_ret ?_
   simp (disch := decide) only [resP_1, puts_same, puts_ne]
   have ht : R.take i = R := List.take_of_length_le (by omega)
   rw [mix_end _ _ _ (markL_len R k) (by omega)] at ho
   rw [ht] at hq
   exact ⟨vint hq, ho, hch⟩
end Go.Proofs.Ytjjjgllbocgkbaa

namespace Go.Proofs.Ytjjjgllbocgkbaa
open Go
set_option maxRecDepth 100000 in
theorem heldS_ok (v : Value) (xs : List Int) (k : Int) (h : Heap) (hv : R1 h v (markI xs k)) (hk : 0 ≤ k ∧ k + cnt1 xs ≤ 4611686018427387904) : CallA Try.prog 50 #[v, .int .i64 k] h fun u h' => u = .int .i64 (k + cnt1 xs) ∧ h' = h := by
 unfold cnt1 at *
 have hml := markI_len xs k
 refine callA_intro TTok (args := [_, _]) Try.func50 (by kernel_rfl) rfl 21 rfl (by simp) [.tmp 4] rfl ?_
 simp only [idxs, Nat.reduceAdd]
 refine den_seq ?_
 refine den_region TTok ?_
 intro K hK
 simp -implicitDefEqProofs (disch := first | decide | assumption | omega) only [go_sem, RdS.len hv sl22, RdS.idx hv sl22, R1.intB hv (HPres.refl _), RdS.cells hv, wrap_id]
 refine hK _ _ ?_
 clear hK K
 refine den_seq ?_
 refine den_seq ?_
 refine den_region TTok ?_
 intro K hK
 simp -implicitDefEqProofs (disch := first | decide | assumption | omega) only [go_sem, RdS.len hv sl22, RdS.idx hv sl22, R1.intB hv (HPres.refl _), RdS.cells hv, wrap_id]
 refine hK _ _ ?_
 clear hK K
 refine den_block ?_
 refine den_sel [1, 5, 0] ?_
 intro env_1
 simp only [go_sem]
 refine den_loopP (σ := Nat × Int) (fun s => [(1, .int .i64 s.2), (5, .int .i64 (s.1 : Int))]) (fun s => s.1 ≤ xs.length ∧ s.2 = k + s.1) (fun s => xs.length - s.1) (0, k) ?_ ?_
 ·exact ⟨rfl, by simp, by simp⟩
 ·rintro ⟨i, q⟩ ee3 ⟨hi, hq⟩
  simp only [List.cons_append, List.nil_append]
  dsimp only at hi hq
  refine den_seq ?_
  refine den_seq ?_
  refine den_region TTok ?_
  intro K hK
  simp -implicitDefEqProofs (disch := first | decide | assumption | omega) only [go_sem, RdS.len hv sl22, RdS.idx hv sl22, R1.intB hv (HPres.refl _), RdS.cells hv, wrap_id]
  refine hK _ _ ?_
  clear hK K
  refine den_cond rfl (fun c0 => ?_) (fun c0 => ?_)
  ·try simp only [decide_eq_true_eq, decide_eq_false_iff_not, beq_iff_eq, beq_eq_false_iff_ne, bne_iff_ne, ne_eq, Bool.not_eq_true', Bool.not_eq_false', Bool.and_eq_true, Bool.or_eq_true, bne_eq_false_iff_eq] at c0
   refine den_skip ?_
   refine den_seq ?_
   refine den_block ?_
   refine den_seq ?_
   refine den_seq ?_
   refine den_region TTok ?_
   intro K hK
   simp -implicitDefEqProofs (disch := first | decide | assumption | omega) only [go_sem, ld2, RdS.len hv sl22, RdS.idx hv sl22, R1.intB hv (HPres.refl _), RdS.cells hv, wrap_id]
   refine hK _ _ ?_
   clear hK K
   refine den_cond rfl (fun c1 => ?_) (fun c1 => ?_)
   ·try simp only [decide_eq_true_eq, decide_eq_false_iff_not, beq_iff_eq, beq_eq_false_iff_ne, bne_iff_ne, ne_eq, Bool.not_eq_true', Bool.not_eq_false', Bool.and_eq_true, Bool.or_eq_true, bne_eq_false_iff_eq] at c1
    refine den_seq ?_
    refine den_region TTok ?_
    intro K hK
    simp -implicitDefEqProofs (disch := first | decide | assumption | omega) only [go_sem, RdS.len hv sl22, RdS.idx hv sl22, R1.intB hv (HPres.refl _), RdS.cells hv, wrap_id]
    refine hK _ _ ?_
    clear hK K
    refine den_ret ?_
    simp (disch := decide) only [resP_1, puts_same, puts_ne]
    exact absurd (markI_get xs k i (by omega)) (by omega)
   ·try simp only [decide_eq_true_eq, decide_eq_false_iff_not, beq_iff_eq, beq_eq_false_iff_ne, bne_iff_ne, ne_eq, Bool.not_eq_true', Bool.not_eq_false', Bool.and_eq_true, Bool.or_eq_true, bne_eq_false_iff_eq] at c1
    refine den_skip ?_
    refine den_region TTok ?_
    intro K hK
    simp -implicitDefEqProofs (disch := first | decide | assumption | omega) only [go_sem, RdS.len hv sl22, RdS.idx hv sl22, R1.intB hv (HPres.refl _), RdS.cells hv, wrap_id]
    refine hK _ _ ?_
    clear hK K
    refine den_blk ?_
    refine den_region TTok ?_
    intro K hK
    simp -implicitDefEqProofs (disch := first | decide | assumption | omega) only [go_sem, RdS.len hv sl22, RdS.idx hv sl22, R1.intB hv (HPres.refl _), RdS.cells hv, wrap_id]
    refine hK _ _ ?_
    clear hK K
    refine den_stop ?_
    exact ⟨(i + 1, q + 1), by simp [HasL, puts_at], ⟨rfl, by dsimp only; omega, by dsimp only; omega⟩, by dsimp only; omega⟩
  ·try simp only [decide_eq_true_eq, decide_eq_false_iff_not, beq_iff_eq, beq_eq_false_iff_ne, bne_iff_ne, ne_eq, Bool.not_eq_true', Bool.not_eq_false', Bool.and_eq_true, Bool.or_eq_true, bne_eq_false_iff_eq] at c0
   refine den_exit ?_
   refine denX_code ?_
   refine denX_stop ?_
   refine denX_hit ?_
   refine den_seq ?_
   refine den_region TTok ?_
   intro K hK
   simp -implicitDefEqProofs (disch := first | decide | assumption | omega) only [go_sem, RdS.len hv sl22, RdS.idx hv sl22, R1.intB hv (HPres.refl _), RdS.cells hv, wrap_id]
   refine hK _ _ ?_
   clear hK K
   refine den_ret ?_
   simp (disch := decide) only [resP_1, puts_same, puts_ne]
   exact ⟨vint (by omega), trivial⟩

set_option maxRecDepth 100000 in
theorem heldSS_ok (v : Value) (R : List (List Int)) (k : Int) (h : Heap) (hv : R2 h v (markL markI cnt1 R k)) (hk : 0 ≤ k ∧ k + cntL cnt1 R ≤ 4611686018427387904) : CallA Try.prog 28 #[v, .int .i64 k] h fun u h' => u = .int .i64 (k + cntL cnt1 R) ∧ h' = h := by
 have hle := RdS.le hv
 have hml := markL_len (mk := markI) (ct := cnt1) R k
 refine callA_intro TTok (args := [_, _]) Try.func28 (by kernel_rfl) rfl 21 rfl (by simp) [.tmp 4] rfl ?_
 simp only [idxs, Nat.reduceAdd]
 refine den_seq ?_
 refine den_region TTok ?_
 intro K hK
 simp -implicitDefEqProofs (disch := first | decide | assumption | omega) only [go_sem, RdS.len hv sl26, RdS.idx hv sl26, RdS.cellB hv (HPres.refl _), RdS.cells hv, wrap_id]
 refine hK _ _ ?_
 clear hK K
 refine den_seq ?_
 refine den_seq ?_
 refine den_region TTok ?_
 intro K hK
 simp -implicitDefEqProofs (disch := first | decide | assumption | omega) only [go_sem, RdS.len hv sl26, RdS.idx hv sl26, RdS.cellB hv (HPres.refl _), RdS.cells hv, wrap_id]
 refine hK _ _ ?_
 clear hK K
 refine den_block ?_
 refine den_sel [1, 5, 0] ?_
 intro env_1
 simp only [go_sem]
 refine den_loopP (σ := Nat × Int) (fun s => [(1, .int .i64 s.2), (5, .int .i64 (s.1 : Int))]) (fun s => s.1 ≤ R.length ∧ s.2 = k + cntL cnt1 (R.take s.1)) (fun s => R.length - s.1) (0, k) ?_ ?_
 ·exact ⟨rfl, by simp, by simp [cntL]⟩
 ·rintro ⟨i, q⟩ ee3 ⟨hi, hq⟩
  simp only [List.cons_append, List.nil_append]
  dsimp only at hi hq
  refine den_seq ?_
  refine den_seq ?_
  refine den_region TTok ?_
  intro K hK
  simp -implicitDefEqProofs (disch := first | decide | assumption | omega) only [go_sem, RdS.len hv sl26, RdS.idx hv sl26, RdS.cellB hv (HPres.refl _), RdS.cells hv, wrap_id]
  refine hK _ _ ?_
  clear hK K
  refine den_cond rfl (fun c0 => ?_) (fun c0 => ?_)
  ·try simp only [decide_eq_true_eq, decide_eq_false_iff_not, beq_iff_eq, beq_eq_false_iff_ne, bne_iff_ne, ne_eq, Bool.not_eq_true', Bool.not_eq_false', Bool.and_eq_true, Bool.or_eq_true, bne_eq_false_iff_eq] at c0
   refine den_skip ?_
   refine den_seq ?_
   refine den_block ?_
   refine den_seq ?_
   have hct := cntL_take (ct := cnt1) R i (by omega)
   have hcl := cntL_le cnt1_nn R (i + 1)
   have hcn := cnt1_nn (R.getD i default)
   have hcn2 := cntL_nonneg cnt1_nn (R.take i)
   refine den_region TTok ?_
   intro K hK
   have hr4 := RdS.rowN hv i (by omega)
   have hlhr4 := RdS.le hr4
   simp -implicitDefEqProofs (disch := first | decide | assumption | omega) only [go_sem, ld22, RdS.len hv sl26, RdS.idx hv sl26, RdS.cellB hv (HPres.refl _), RdS.cells hv, RdS.len hr4 sl22, RdS.idx hr4 sl22, R1.intB hr4 (HPres.refl _), RdS.cells hr4, wrap_id]
   try simp -implicitDefEqProofs (disch := first | decide | assumption | omega) only [go_sem, RdS.len hv sl26, RdS.idx hv sl26, RdS.cellB hv (HPres.refl _), RdS.cells hv, RdS.len hr4 sl22, RdS.idx hr4 sl22, R1.intB hr4 (HPres.refl _), RdS.cells hr4, wrap_id]
   have hr := RdS.rowN hv i (by omega)
   rw [markL_get R k i (by omega), ← hq] at hr
   refine CallA.pure (heldS_ok _ _ q _ hr (by have := cnt1_nn (R.getD i default); simp only [cnt1] at *; omega)) ?_
   try simp -implicitDefEqProofs (disch := first | decide | assumption | omega) only [go_sem, RdS.len hv sl26, RdS.idx hv sl26, RdS.cellB hv (HPres.refl _), RdS.cells hv, RdS.len hr4 sl22, RdS.idx hr4 sl22, R1.intB hr4 (HPres.refl _), RdS.cells hr4, wrap_id]
   refine hK _ _ ?_
   clear hK K
   refine den_seq ?_
   refine den_region TTok ?_
   intro K hK
   simp -implicitDefEqProofs (disch := first | decide | assumption | omega) only [go_sem, RdS.len hv sl26, RdS.idx hv sl26, RdS.cellB hv (HPres.refl _), RdS.cells hv, RdS.len hr4 sl22, RdS.idx hr4 sl22, R1.intB hr4 (HPres.refl _), RdS.cells hr4, wrap_id]
   refine hK _ _ ?_
   clear hK K
   refine den_cond rfl (fun c1 => ?_) (fun c1 => ?_)
   ·try simp only [decide_eq_true_eq, decide_eq_false_iff_not, beq_iff_eq, beq_eq_false_iff_ne, bne_iff_ne, ne_eq, Bool.not_eq_true', Bool.not_eq_false', Bool.and_eq_true, Bool.or_eq_true, bne_eq_false_iff_eq] at c1
    refine den_seq ?_
    refine den_region TTok ?_
    intro K hK
    simp -implicitDefEqProofs (disch := first | decide | assumption | omega) only [go_sem, RdS.len hv sl26, RdS.idx hv sl26, RdS.cellB hv (HPres.refl _), RdS.cells hv, RdS.len hr4 sl22, RdS.idx hr4 sl22, R1.intB hr4 (HPres.refl _), RdS.cells hr4, wrap_id]
    refine hK _ _ ?_
    clear hK K
    refine den_ret ?_
    simp (disch := decide) only [resP_1, puts_same, puts_ne]
    exact absurd c1 (by omega)
   ·try simp only [decide_eq_true_eq, decide_eq_false_iff_not, beq_iff_eq, beq_eq_false_iff_ne, bne_iff_ne, ne_eq, Bool.not_eq_true', Bool.not_eq_false', Bool.and_eq_true, Bool.or_eq_true, bne_eq_false_iff_eq] at c1
    refine den_skip ?_
    refine den_blk ?_
    refine den_region TTok ?_
    intro K hK
    simp -implicitDefEqProofs (disch := first | decide | assumption | omega) only [go_sem, RdS.len hv sl26, RdS.idx hv sl26, RdS.cellB hv (HPres.refl _), RdS.cells hv, RdS.len hr4 sl22, RdS.idx hr4 sl22, R1.intB hr4 (HPres.refl _), RdS.cells hr4, wrap_id]
    refine hK _ _ ?_
    clear hK K
    refine den_stop ?_
    exact ⟨(i + 1, q + cnt1 (R.getD i default)), by simp [HasL, puts_at], ⟨rfl, by dsimp only; omega, by dsimp only; omega⟩, by dsimp only; omega⟩
  ·try simp only [decide_eq_true_eq, decide_eq_false_iff_not, beq_iff_eq, beq_eq_false_iff_ne, bne_iff_ne, ne_eq, Bool.not_eq_true', Bool.not_eq_false', Bool.and_eq_true, Bool.or_eq_true, bne_eq_false_iff_eq] at c0
   refine den_exit ?_
   refine denX_code ?_
   refine denX_stop ?_
   refine denX_hit ?_
   refine den_seq ?_
   refine den_region TTok ?_
   intro K hK
   simp -implicitDefEqProofs (disch := first | decide | assumption | omega) only [go_sem, RdS.len hv sl26, RdS.idx hv sl26, RdS.cellB hv (HPres.refl _), RdS.cells hv, wrap_id]
   refine hK _ _ ?_
   clear hK K
   refine den_ret ?_
   simp (disch := decide) only [resP_1, puts_same, puts_ne]
   have ht : R.take i = R := List.take_of_length_le (by omega)
   rw [ht] at hq
   exact ⟨vint hq, trivial⟩

set_option maxRecDepth 100000 in
theorem heldSSS_ok (v : Value) (R : List (List (List Int))) (k : Int) (h : Heap) (hv : R3 h v (markL mark2 cnt2 R k)) (hk : 0 ≤ k ∧ k + cntL cnt2 R ≤ 4611686018427387904) : CallA Try.prog 66 #[v, .int .i64 k] h fun u h' => u = .int .i64 (k + cntL cnt2 R) ∧ h' = h := by
 have hle := RdS.le hv
 have hml := markL_len (mk := mark2) (ct := cnt2) R k
 refine callA_intro TTok (args := [_, _]) Try.func66 (by kernel_rfl) rfl 21 rfl (by simp) [.tmp 4] rfl ?_
 simp only [idxs, Nat.reduceAdd]
 refine den_seq ?_
 refine den_region TTok ?_
 intro K hK
 simp -implicitDefEqProofs (disch := first | decide | assumption | omega) only [go_sem, RdS.len hv sl23, RdS.idx hv sl23, RdS.cellB hv (HPres.refl _), RdS.cells hv, wrap_id]
 refine hK _ _ ?_
 clear hK K
 refine den_seq ?_
 refine den_seq ?_
 refine den_region TTok ?_
 intro K hK
 simp -implicitDefEqProofs (disch := first | decide | assumption | omega) only [go_sem, RdS.len hv sl23, RdS.idx hv sl23, RdS.cellB hv (HPres.refl _), RdS.cells hv, wrap_id]
 refine hK _ _ ?_
 clear hK K
 refine den_block ?_
 refine den_sel [1, 5, 0] ?_
 intro env_1
 simp only [go_sem]
 refine den_loopP (σ := Nat × Int) (fun s => [(1, .int .i64 s.2), (5, .int .i64 (s.1 : Int))]) (fun s => s.1 ≤ R.length ∧ s.2 = k + cntL cnt2 (R.take s.1)) (fun s => R.length - s.1) (0, k) ?_ ?_
 ·exact ⟨rfl, by simp, by simp [cntL]⟩
 ·rintro ⟨i, q⟩ ee3 ⟨hi, hq⟩
  simp only [List.cons_append, List.nil_append]
  dsimp only at hi hq
  refine den_seq ?_
  refine den_seq ?_
  refine den_region TTok ?_
  intro K hK
  simp -implicitDefEqProofs (disch := first | decide | assumption | omega) only [go_sem, RdS.len hv sl23, RdS.idx hv sl23, RdS.cellB hv (HPres.refl _), RdS.cells hv, wrap_id]
  refine hK _ _ ?_
  clear hK K
  refine den_cond rfl (fun c0 => ?_) (fun c0 => ?_)
  ·try simp only [decide_eq_true_eq, decide_eq_false_iff_not, beq_iff_eq, beq_eq_false_iff_ne, bne_iff_ne, ne_eq, Bool.not_eq_true', Bool.not_eq_false', Bool.and_eq_true, Bool.or_eq_true, bne_eq_false_iff_eq] at c0
   refine den_skip ?_
   refine den_seq ?_
   refine den_block ?_
   refine den_seq ?_
   have hct := cntL_take (ct := cnt2) R i (by omega)
   have hcl := cntL_le cnt2_nn R (i + 1)
   have hcn := cnt2_nn (R.getD i default)
   have hcn2 := cntL_nonneg cnt2_nn (R.take i)
   refine den_region TTok ?_
   intro K hK
   have hr4 := RdS.rowN hv i (by omega)
   have hlhr4 := RdS.le hr4
   simp -implicitDefEqProofs (disch := first | decide | assumption | omega) only [go_sem, ld26, RdS.len hv sl23, RdS.idx hv sl23, RdS.cellB hv (HPres.refl _), RdS.cells hv, RdS.len hr4 sl26, RdS.idx hr4 sl26, RdS.cellB hr4 (HPres.refl _), RdS.cells hr4, wrap_id]
   try simp -implicitDefEqProofs (disch := first | decide | assumption | omega) only [go_sem, RdS.len hv sl23, RdS.idx hv sl23, RdS.cellB hv (HPres.refl _), RdS.cells hv, RdS.len hr4 sl26, RdS.idx hr4 sl26, RdS.cellB hr4 (HPres.refl _), RdS.cells hr4, wrap_id]
   have hr := RdS.rowN hv i (by omega)
   rw [markL_get R k i (by omega), ← hq] at hr
   refine CallA.pure (heldSS_ok _ _ q _ hr (by have := cnt2_nn (R.getD i default); simp only [cnt2] at *; omega)) ?_
   try simp -implicitDefEqProofs (disch := first | decide | assumption | omega) only [go_sem, RdS.len hv sl23, RdS.idx hv sl23, RdS.cellB hv (HPres.refl _), RdS.cells hv, RdS.len hr4 sl26, RdS.idx hr4 sl26, RdS.cellB hr4 (HPres.refl _), RdS.cells hr4, wrap_id]
   refine hK _ _ ?_
   clear hK K
   refine den_seq ?_
   refine den_region TTok ?_
   intro K hK
   simp -implicitDefEqProofs (disch := first | decide | assumption | omega) only [go_sem, RdS.len hv sl23, RdS.idx hv sl23, RdS.cellB hv (HPres.refl _), RdS.cells hv, RdS.len hr4 sl26, RdS.idx hr4 sl26, RdS.cellB hr4 (HPres.refl _), RdS.cells hr4, wrap_id]
   refine hK _ _ ?_
   clear hK K
   refine den_cond rfl (fun c1 => ?_) (fun c1 => ?_)
   ·try simp only [decide_eq_true_eq, decide_eq_false_iff_not, beq_iff_eq, beq_eq_false_iff_ne, bne_iff_ne, ne_eq, Bool.not_eq_true', Bool.not_eq_false', Bool.and_eq_true, Bool.or_eq_true, bne_eq_false_iff_eq] at c1
    refine den_seq ?_
    refine den_region TTok ?_
    intro K hK
    simp -implicitDefEqProofs (disch := first | decide | assumption | omega) only [go_sem, RdS.len hv sl23, RdS.idx hv sl23, RdS.cellB hv (HPres.refl _), RdS.cells hv, RdS.len hr4 sl26, RdS.idx hr4 sl26, RdS.cellB hr4 (HPres.refl _), RdS.cells hr4, wrap_id]
    refine hK _ _ ?_
    clear hK K
    refine den_ret ?_
    simp (disch := decide) only [resP_1, puts_same, puts_ne]
    exact absurd c1 (by have e : cntL cnt1 (R.getD i default) = cnt2 (R.getD i default) := rfl; omega)
   ·try simp only [decide_eq_true_eq, decide_eq_false_iff_not, beq_iff_eq, beq_eq_false_iff_ne, bne_iff_ne, ne_eq, Bool.not_eq_true', Bool.not_eq_false', Bool.and_eq_true, Bool.or_eq_true, bne_eq_false_iff_eq] at c1
    refine den_skip ?_
    refine den_blk ?_
    refine den_region TTok ?_
    intro K hK
    simp -implicitDefEqProofs (disch := first | decide | assumption | omega) only [go_sem, RdS.len hv sl23, RdS.idx hv sl23, RdS.cellB hv (HPres.refl _), RdS.cells hv, RdS.len hr4 sl26, RdS.idx hr4 sl26, RdS.cellB hr4 (HPres.refl _), RdS.cells hr4, wrap_id]
    refine hK _ _ ?_
    clear hK K
    refine den_stop ?_
    exact ⟨(i + 1, q + cnt2 (R.getD i default)), by simp [HasL, puts_at], ⟨rfl, by dsimp only; omega, by dsimp only; omega⟩, by dsimp only; omega⟩
  ·try simp only [decide_eq_true_eq, decide_eq_false_iff_not, beq_iff_eq, beq_eq_false_iff_ne, bne_iff_ne, ne_eq, Bool.not_eq_true', Bool.not_eq_false', Bool.and_eq_true, Bool.or_eq_true, bne_eq_false_iff_eq] at c0
   refine den_exit ?_
   refine denX_code ?_
   refine denX_stop ?_
   refine denX_hit ?_
   refine den_seq ?_
   refine den_region TTok ?_
   intro K hK
   simp -implicitDefEqProofs (disch := first | decide | assumption | omega) only [go_sem, RdS.len hv sl23, RdS.idx hv sl23, RdS.cellB hv (HPres.refl _), RdS.cells hv, wrap_id]
   refine hK _ _ ?_
   clear hK K
   refine den_ret ?_
   simp (disch := decide) only [resP_1, puts_same, puts_ne]
   have ht : R.take i = R := List.take_of_length_le (by omega)
   rw [ht] at hq
   exact ⟨vint hq, trivial⟩
end Go.Proofs.Ytjjjgllbocgkbaa

namespace Go.Proofs.Ytjjjgllbocgkbaa
open Go
theorem szI_cntA {xs : List Int} {l : Int} (h : ¬ szI xs l < 0) : cnt1 xs ≤ l - szI xs l := by
 unfold szI at *
 unfold cnt1
 split at h
 ·omega
 ·rename_i hc; rw [if_neg hc]; omega
theorem szRows_cntA {α : Type} {f : α → Int → Int} {ct : α → Int} (hc : ∀ x l, ¬ f x l < 0 → ct x ≤ l - f x l) : ∀ (r : List α) (l : Int), ¬ szRows f r l < 0 → cntL ct r ≤ l - szRows f r l
 | [], l, _ => by simp [cntL, szRows]
 | x :: r, l, h => by
  unfold szRows at *
  split at h
  ·omega
  ·rename_i hx
   have h1 := hc x l hx
   have h2 := szRows_cntA hc r (f x l) h
   rw [if_neg hx, cntL]; omega
theorem szL_cntA {α : Type} {f : α → Int → Int} {ct : α → Int} (hc : ∀ x l, ¬ f x l < 0 → ct x ≤ l - f x l) (r : List α) (l : Int) (h : ¬ szL f r l < 0) : cntL ct r ≤ l - szL f r l := by
 unfold szL at *
 split at h
 ·omega
 ·rename_i hx
  have := szRows_cntA hc r _ h
  rw [if_neg hx]; omega
/-- A list whose elements count at most c each. -/
theorem cntL_bnd {α : Type} {ct : α → Int} {c : Int} (hc : 0 ≤ c) : ∀ {xs : List α} {m : Nat}, (∀ x ∈ xs, 0 ≤ ct x ∧ ct x ≤ c) → xs.length ≤ m → 0 ≤ cntL ct xs ∧ cntL ct xs ≤ m * c
 | [], m, _, _ => ⟨Int.le_refl _, Int.mul_nonneg (by omega) hc⟩
 | x :: r, m, h, hm => by
  have h1 := h x (by simp)
  simp only [List.length_cons] at hm
  obtain ⟨m', rfl⟩ : ∃ m', m = m' + 1 := ⟨m - 1, by omega⟩
  have h2 := cntL_bnd hc (xs := r) (m := m') (fun y hy => h y (List.mem_cons_of_mem _ hy)) (by omega)
  have e : ((m' + 1 : Nat) : Int) * c = (m' : Int) * c + c := by rw [Int.natCast_add, Int.add_mul]; simp
  rw [cntL, e]; omega

set_option maxRecDepth 100000 in
theorem markCx_ok (vd vm : Value) (X : Cx) (k : Int) (f1 f2 : List Nat) (h : Heap) (hod : O1 h vd X.dims f1) (hom : O3 h vm X.maps f2) (hf : (f1 ++ f2).Nodup) (hk : 0 ≤ k ∧ 0 ≤ cnt1 X.dims ∧ 0 ≤ cntL cnt2 X.maps ∧ k + cnt1 X.dims + cntL cnt2 X.maps ≤ 4611686018427387904) : CallA Try.prog 57 #[.agg #[.int .i64 X.p, vd, vm], .int .i64 k] h fun u h' => u = .int .i64 (k + cnt1 X.dims + cntL cnt2 X.maps) ∧ O1 h' vd (markI X.dims k) f1 ∧ O3 h' vm (mark3 X.maps (k + cnt1 X.dims)) f2 ∧ Chg (f1 ++ f2) h h' := by
 have hl1 := OS.lt hod
 have hn1 := (List.nodup_append.1 hf).1
 have hn2 := (List.nodup_append.1 hf).2.1
 have hap : ∀ b ∈ f2, b ∉ f1 := fun b hb hm => (List.nodup_append.1 hf).2.2 b hm b hb rfl
 refine callA_intro TTok (args := [_, _]) Try.func57 (by kernel_rfl) rfl 14 rfl (by simp) [.tmp 4] rfl ?_
 simp only [idxs, Nat.reduceAdd]
 refine den_seq ?_
 refine den_region TTok ?_
 intro K hK
 simp -implicitDefEqProofs (disch := first | decide | assumption | omega) only [go_sem, RdS.len (OS.rd hod) sl22, RdS.idx (OS.rd hod) sl22, R1.intN (OS.rd hod), RdS.cells (OS.rd hod), RdS.len (OS.rd hom) sl23, RdS.idx (OS.rd hom) sl23, RdS.cellN (OS.rd hom), RdS.cells (OS.rd hom)]
 refine op_box (cs := #[.int .i64 (X.p), vd, vm]) rfl ?_
 intro h0_0 e0_0 hb0_0 z0_0
 replace hod := OS.ext hod e0_0
 replace hom := OS.ext hom e0_0
 have := Ext.size e0_0
 have eB := e0_0
 try simp -implicitDefEqProofs (disch := first | decide | assumption | omega) only [go_sem, RdS.len (OS.rd hod) sl22, RdS.idx (OS.rd hod) sl22, R1.intN (OS.rd hod), RdS.cells (OS.rd hod), RdS.len (OS.rd hom) sl23, RdS.idx (OS.rd hom) sl23, RdS.cellN (OS.rd hom), RdS.cells (OS.rd hom), BoxAt.cell hb0_0]
 refine hK _ _ ?_
 clear hK K
 refine den_seq ?_
 refine den_region TTok ?_
 intro K hK
 simp -implicitDefEqProofs (disch := first | decide | assumption | omega) only [go_sem, fa31_1, ld22, RdS.len (OS.rd hod) sl22, RdS.idx (OS.rd hod) sl22, R1.intN (OS.rd hod), RdS.cells (OS.rd hod), RdS.len (OS.rd hom) sl23, RdS.idx (OS.rd hom) sl23, RdS.cellN (OS.rd hom), RdS.cells (OS.rd hom), BoxAt.cell hb0_0]
 try simp -implicitDefEqProofs (disch := first | decide | assumption | omega) only [go_sem, RdS.len (OS.rd hod) sl22, RdS.idx (OS.rd hod) sl22, R1.intN (OS.rd hod), RdS.cells (OS.rd hod), RdS.len (OS.rd hom) sl23, RdS.idx (OS.rd hom) sl23, RdS.cellN (OS.rd hom), RdS.cells (OS.rd hom), BoxAt.cell hb0_0]
 refine CallA.mono (markS_ok _ _ k _ _ hod hn1 (by omega)) ?_
 intro v_ h1_3
 rintro ⟨rfl, hod2, c1⟩
 replace hom := OS.chg hom c1 hap
 replace hb0_0 := BoxAt.chg hb0_0 c1 (fun hm => by have := hl1 _ hm; omega)
 try simp -implicitDefEqProofs (disch := first | decide | assumption | omega) only [go_sem, RdS.len (OS.rd hod) sl22, RdS.idx (OS.rd hod) sl22, R1.intN (OS.rd hod), RdS.cells (OS.rd hod), RdS.len (OS.rd hom) sl23, RdS.idx (OS.rd hom) sl23, RdS.cellN (OS.rd hom), RdS.cells (OS.rd hom), BoxAt.cell hb0_0]
 refine hK _ _ ?_
 clear hK K
 refine den_seq ?_
 refine den_region TTok ?_
 intro K hK
 simp -implicitDefEqProofs (disch := first | decide | assumption | omega) only [go_sem, fa31_2, ld23, RdS.len (OS.rd hod) sl22, RdS.idx (OS.rd hod) sl22, R1.intN (OS.rd hod), RdS.cells (OS.rd hod), RdS.len (OS.rd hom) sl23, RdS.idx (OS.rd hom) sl23, RdS.cellN (OS.rd hom), RdS.cells (OS.rd hom), BoxAt.cell hb0_0]
 try simp -implicitDefEqProofs (disch := first | decide | assumption | omega) only [go_sem, RdS.len (OS.rd hod) sl22, RdS.idx (OS.rd hod) sl22, R1.intN (OS.rd hod), RdS.cells (OS.rd hod), RdS.len (OS.rd hom) sl23, RdS.idx (OS.rd hom) sl23, RdS.cellN (OS.rd hom), RdS.cells (OS.rd hom), BoxAt.cell hb0_0]
 refine CallA.mono (markSSS_ok _ _ (k + cnt1 X.dims) _ _ hom hn2 (by omega)) ?_
 intro v_ h2_3
 rintro ⟨rfl, hom2, c2⟩
 try simp -implicitDefEqProofs (disch := first | decide | assumption | omega) only [go_sem, RdS.len (OS.rd hod) sl22, RdS.idx (OS.rd hod) sl22, R1.intN (OS.rd hod), RdS.cells (OS.rd hod), RdS.len (OS.rd hom) sl23, RdS.idx (OS.rd hom) sl23, RdS.cellN (OS.rd hom), RdS.cells (OS.rd hom), BoxAt.cell hb0_0]
 refine hK _ _ ?_
 clear hK K
 refine den_seq ?_
 refine den_region TTok ?_
 intro K hK
 simp -implicitDefEqProofs (disch := first | decide | assumption | omega) only [go_sem, RdS.len (OS.rd hod) sl22, RdS.idx (OS.rd hod) sl22, R1.intN (OS.rd hod), RdS.cells (OS.rd hod), RdS.len (OS.rd hom) sl23, RdS.idx (OS.rd hom) sl23, RdS.cellN (OS.rd hom), RdS.cells (OS.rd hom), BoxAt.cell hb0_0]
 refine hK _ _ ?_
 clear hK K
 refine den_ret ?_
 simp (disch := decide) only [resP_1, puts_same, puts_ne]
 exact ⟨by first | rfl | trivial, OS.chg hod2 c2 (Apart.symm hap), hom2, ((eB.chg _).trans (c1.mono (fun b hb => List.mem_append_left _ hb))).trans (c2.mono (fun b hb => List.mem_append_right _ hb))⟩

set_option maxRecDepth 100000 in
theorem heldCx_ok (vd vm : Value) (X : Cx) (k : Int) (h : Heap) (hd : R1 h vd (markI X.dims k)) (hm : R3 h vm (mark3 X.maps (k + cnt1 X.dims))) (hk : 0 ≤ k ∧ 0 ≤ cnt1 X.dims ∧ 0 ≤ cntL cnt2 X.maps ∧ k + cnt1 X.dims + cntL cnt2 X.maps ≤ 4611686018427387904) : CallA Try.prog 87 #[.agg #[.int .i64 X.p, vd, vm], .int .i64 k] h fun u h' => u = .int .i64 (k + cnt1 X.dims + cntL cnt2 X.maps) ∧ Ext h h' := by
 refine callA_intro TTok (args := [_, _]) Try.func87 (by kernel_rfl) rfl 18 rfl (by simp) [.tmp 4] rfl ?_
 simp only [idxs, Nat.reduceAdd]
 refine den_seq ?_
 refine den_region TTok ?_
 intro K hK
 simp -implicitDefEqProofs (disch := first | decide | assumption | omega) only [go_sem, RdS.len hd sl22, RdS.idx hd sl22, R1.intB hd (HPres.refl _), RdS.cells hd, RdS.len hm sl23, RdS.idx hm sl23, RdS.cellB hm (HPres.refl _), RdS.cells hm]
 refine op_box (cs := #[.int .i64 (X.p), vd, vm]) rfl ?_
 intro h0_0 e0_0 hb0_0 z0_0
 replace hd := RdS.pres hd (Ext.pres e0_0)
 replace hm := RdS.pres hm (Ext.pres e0_0)
 try simp -implicitDefEqProofs (disch := first | decide | assumption | omega) only [go_sem, RdS.len hd sl22, RdS.idx hd sl22, R1.intB hd (HPres.refl _), RdS.cells hd, RdS.len hm sl23, RdS.idx hm sl23, RdS.cellB hm (HPres.refl _), RdS.cells hm, BoxAt.cell hb0_0]
 refine hK _ _ ?_
 clear hK K
 refine den_seq ?_
 refine den_region TTok ?_
 intro K hK
 simp -implicitDefEqProofs (disch := first | decide | assumption | omega) only [go_sem, fa31_1, ld22, RdS.len hd sl22, RdS.idx hd sl22, R1.intB hd (HPres.refl _), RdS.cells hd, RdS.len hm sl23, RdS.idx hm sl23, RdS.cellB hm (HPres.refl _), RdS.cells hm, BoxAt.cell hb0_0]
 try simp -implicitDefEqProofs (disch := first | decide | assumption | omega) only [go_sem, RdS.len hd sl22, RdS.idx hd sl22, R1.intB hd (HPres.refl _), RdS.cells hd, RdS.len hm sl23, RdS.idx hm sl23, RdS.cellB hm (HPres.refl _), RdS.cells hm, BoxAt.cell hb0_0]
 refine CallA.pure (heldS_ok _ X.dims k _ hd (by omega)) ?_
 try simp -implicitDefEqProofs (disch := first | decide | assumption | omega) only [go_sem, RdS.len hd sl22, RdS.idx hd sl22, R1.intB hd (HPres.refl _), RdS.cells hd, RdS.len hm sl23, RdS.idx hm sl23, RdS.cellB hm (HPres.refl _), RdS.cells hm, BoxAt.cell hb0_0]
 refine hK _ _ ?_
 clear hK K
 refine den_seq ?_
 refine den_seq ?_
 refine den_region TTok ?_
 intro K hK
 simp -implicitDefEqProofs (disch := first | decide | assumption | omega) only [go_sem, RdS.len hd sl22, RdS.idx hd sl22, R1.intB hd (HPres.refl _), RdS.cells hd, RdS.len hm sl23, RdS.idx hm sl23, RdS.cellB hm (HPres.refl _), RdS.cells hm, BoxAt.cell hb0_0]
 refine hK _ _ ?_
 clear hK K
 refine den_cond rfl (fun c0 => ?_) (fun c0 => ?_)
 ·try simp only [decide_eq_true_eq, decide_eq_false_iff_not, beq_iff_eq, beq_eq_false_iff_ne, bne_iff_ne, ne_eq, Bool.not_eq_true', Bool.not_eq_false', Bool.and_eq_true, Bool.or_eq_true, bne_eq_false_iff_eq] at c0
  refine den_seq ?_
  refine den_region TTok ?_
  intro K hK
  simp -implicitDefEqProofs (disch := first | decide | assumption | omega) only [go_sem, RdS.len hd sl22, RdS.idx hd sl22, R1.intB hd (HPres.refl _), RdS.cells hd, RdS.len hm sl23, RdS.idx hm sl23, RdS.cellB hm (HPres.refl _), RdS.cells hm, BoxAt.cell hb0_0]
  refine hK _ _ ?_
  clear hK K
  refine den_ret ?_
  simp (disch := decide) only [resP_1, puts_same, puts_ne]
  exact absurd c0 (by omega)
 ·try simp only [decide_eq_true_eq, decide_eq_false_iff_not, beq_iff_eq, beq_eq_false_iff_ne, bne_iff_ne, ne_eq, Bool.not_eq_true', Bool.not_eq_false', Bool.and_eq_true, Bool.or_eq_true, bne_eq_false_iff_eq] at c0
  refine den_skip ?_
  refine den_seq ?_
  refine den_region TTok ?_
  intro K hK
  simp -implicitDefEqProofs (disch := first | decide | assumption | omega) only [go_sem, fa31_2, ld23, RdS.len hd sl22, RdS.idx hd sl22, R1.intB hd (HPres.refl _), RdS.cells hd, RdS.len hm sl23, RdS.idx hm sl23, RdS.cellB hm (HPres.refl _), RdS.cells hm, BoxAt.cell hb0_0]
  try simp -implicitDefEqProofs (disch := first | decide | assumption | omega) only [go_sem, RdS.len hd sl22, RdS.idx hd sl22, R1.intB hd (HPres.refl _), RdS.cells hd, RdS.len hm sl23, RdS.idx hm sl23, RdS.cellB hm (HPres.refl _), RdS.cells hm, BoxAt.cell hb0_0]
  refine CallA.pure (heldSSS_ok _ X.maps (k + cnt1 X.dims) _ hm (by omega)) ?_
  try simp -implicitDefEqProofs (disch := first | decide | assumption | omega) only [go_sem, RdS.len hd sl22, RdS.idx hd sl22, R1.intB hd (HPres.refl _), RdS.cells hd, RdS.len hm sl23, RdS.idx hm sl23, RdS.cellB hm (HPres.refl _), RdS.cells hm, BoxAt.cell hb0_0]
  refine hK _ _ ?_
  clear hK K
  refine den_seq ?_
  refine den_seq ?_
  refine den_region TTok ?_
  intro K hK
  simp -implicitDefEqProofs (disch := first | decide | assumption | omega) only [go_sem, RdS.len hd sl22, RdS.idx hd sl22, R1.intB hd (HPres.refl _), RdS.cells hd, RdS.len hm sl23, RdS.idx hm sl23, RdS.cellB hm (HPres.refl _), RdS.cells hm, BoxAt.cell hb0_0]
  refine hK _ _ ?_
  clear hK K
  refine den_cond rfl (fun c1 => ?_) (fun c1 => ?_)
  ·try simp only [decide_eq_true_eq, decide_eq_false_iff_not, beq_iff_eq, beq_eq_false_iff_ne, bne_iff_ne, ne_eq, Bool.not_eq_true', Bool.not_eq_false', Bool.and_eq_true, Bool.or_eq_true, bne_eq_false_iff_eq] at c1
   refine den_seq ?_
   refine den_region TTok ?_
   intro K hK
   simp -implicitDefEqProofs (disch := first | decide | assumption | omega) only [go_sem, RdS.len hd sl22, RdS.idx hd sl22, R1.intB hd (HPres.refl _), RdS.cells hd, RdS.len hm sl23, RdS.idx hm sl23, RdS.cellB hm (HPres.refl _), RdS.cells hm, BoxAt.cell hb0_0]
   refine hK _ _ ?_
   clear hK K
   refine den_ret ?_
   simp (disch := decide) only [resP_1, puts_same, puts_ne]
   exact absurd c1 (by omega)
  ·try simp only [decide_eq_true_eq, decide_eq_false_iff_not, beq_iff_eq, beq_eq_false_iff_ne, bne_iff_ne, ne_eq, Bool.not_eq_true', Bool.not_eq_false', Bool.and_eq_true, Bool.or_eq_true, bne_eq_false_iff_eq] at c1
   refine den_skip ?_
   refine den_seq ?_
   refine den_region TTok ?_
   intro K hK
   simp -implicitDefEqProofs (disch := first | decide | assumption | omega) only [go_sem, RdS.len hd sl22, RdS.idx hd sl22, R1.intB hd (HPres.refl _), RdS.cells hd, RdS.len hm sl23, RdS.idx hm sl23, RdS.cellB hm (HPres.refl _), RdS.cells hm, BoxAt.cell hb0_0]
   refine hK _ _ ?_
   clear hK K
   refine den_ret ?_
   simp (disch := decide) only [resP_1, puts_same, puts_ne]
   exact ⟨by first | rfl | trivial, e0_0⟩

theorem eqSS_same (v w : Value) (xs : List (List Int)) (h : Heap) (hv : R2 h v xs) (hw : R2 h w xs) : CallA Try.prog 26 #[v, w] h fun u h' => u = .bool true ∧ h' = h := (eqSS_ok v w xs xs h hv hw).mono fun u h' e => ⟨by rw [e.1]; simp, e.2⟩
theorem eqC_same (v w : Value) (X : Cx) (h : Heap) (hv : RC h v X) (hw : RC h w X) : CallA Try.prog 56 #[v, w] h fun u h' => u = .bool true ∧ Ext h h' := (eqC_ok v w X X h hv hw).mono fun u h' e => ⟨by rw [e.1, eqC_self], e.2⟩
end Go.Proofs.Ytjjjgllbocgkbaa

namespace Go.Proofs.Ytjjjgllbocgkbaa
open Go
/-- A filtered complex, as data. -/
structure Fl where
 c : Cx
 lv : List (List Int)
def RF (h : Heap) (v : Value) (X : Fl) : Prop := ∃ vd vm vl, v = .agg #[.int .i64 X.c.p, vd, vm, vl] ∧ R1 h vd X.c.dims ∧ R3 h vm X.c.maps ∧ R2 h vl X.lv
instance : Mono RF := ⟨fun hp ⟨vd, vm, vl, e, h1, h2, h3⟩ => ⟨vd, vm, vl, e, h1.pres hp, h2.pres hp, h3.pres hp⟩⟩
theorem RF.pres {h h' : Heap} {v : Value} {X : Fl} (hv : RF h v X) (hp : HPres h h') : RF h' v X := Mono.mono hp hv
theorem Apart.lft {fp f1 f2 : List Nat} (h : Apart fp (f1 ++ f2)) : Apart fp f1 := fun b hb hq => h b hb (List.mem_append_left _ hq)
theorem Apart.rgt {fp f1 f2 : List Nat} (h : Apart fp (f1 ++ f2)) : Apart fp f2 := fun b hb hq => h b hb (List.mem_append_right _ hq)
theorem szC_cntB {X : Cx} {l : Int} (h0 : 0 ≤ l) (h : ¬ szC X l < 0) : cnt1 X.dims + cntL cnt2 X.maps ≤ l - szC X l := by
 unfold szC at h ⊢
 split at h
 ·omega
 rename_i h1
 split at h
 ·omega
 have a := szI_cntA h1
 have b := szL_cntA (f := sz2) (ct := cnt2) (fun x l hx => szL_cntA (f := szI) (ct := cnt1) (fun x l hx => szI_cntA hx) x l hx) X.maps _ (show ¬ szL sz2 X.maps (szI X.dims l) < 0 from by assumption)
 have e : szL sz2 X.maps (szI X.dims l) = sz3 X.maps (szI X.dims l) := rfl
 rw [if_neg h1, if_neg (by assumption)]
 omega

def szF (X : Fl) (l : Int) : Int := if szC X.c l < 0 then -1 else if sz2 X.lv (szC X.c l) < 0 then -1 else sz2 X.lv (szC X.c l)
theorem szF_le (X : Fl) (l : Int) (h : 0 ≤ l) : -1 ≤ szF X l ∧ szF X l ≤ l := by
 unfold szF
 have h0 := szC_le X.c l h
 split
 ·omega
 have h1 := sz2_le X.lv (szC X.c l) (by omega)
 split
 ·omega
 omega
structure HMF (X : Fl) : Prop where
 c : HMC X.c
 lv : HM2 X.lv
theorem szF_ok' {X : Fl} {l : Int} (h0 : 0 ≤ l) (h1 : l ≤ 1048576) (h : ¬ szF X l < 0) : HMF X := by
 unfold szF at h
 have g0 := szC_le X.c l (by omega)
 split at h
 ·omega
 rename_i c0
 have g1 := sz2_le X.lv (szC X.c l) (by omega)
 split at h
 ·omega
 rename_i c1
 exact ⟨szC_ok' (by omega) (by omega) c0, sz2_ok (by omega) (by omega) c1⟩
theorem szF_cntA {X : Fl} {l : Int} (h0 : 0 ≤ l) (h1 : l ≤ 1048576) (h : ¬ szF X l < 0) : 0 ≤ cnt1 X.c.dims ∧ 0 ≤ cntL cnt2 X.c.maps ∧ 0 ≤ cntL cnt1 X.lv ∧ cnt1 X.c.dims + cntL cnt2 X.c.maps + cntL cnt1 X.lv ≤ 1048576 := by
 unfold szF at h
 have g0 := szC_le X.c l (by omega)
 split at h
 ·omega
 rename_i c0
 have a0 := szC_cntB h0 c0
 have g1 := sz2_le X.lv (szC X.c l) (by omega)
 split at h
 ·omega
 rename_i c1
 have a1 := szL_cntA (f := szI) (ct := cnt1) (fun x l hx => szI_cntA hx) X.lv (szC X.c l) c1
 have e1 : szL szI X.lv (szC X.c l) = sz2 X.lv (szC X.c l) := rfl
 exact ⟨cnt1_nn _, cntL_nonneg cnt2_nn _, cntL_nonneg cnt1_nn _, by omega⟩
set_option maxRecDepth 100000 in
theorem szF_ok (vX : Value) (X : Fl) (left : Int) (h : Heap) (rX : RF h vX X) (h0 : 0 ≤ left) (h1 : left ≤ 1048576) : CallA Try.prog 15 #[vX, .int .i64 left] h fun v' h' => v' = .int .i64 (szF X left) ∧ Ext h h' := by
 obtain ⟨vdX, vmX, vvX, rfl, hdX, hmX, hvX⟩ := rX
 have hledX := RdS.le hdX
 have hlemX := RdS.le hmX
 have hlevX := RdS.le hvX
 refine callA_intro TTok (args := [_, _]) Try.func15 (by kernel_rfl) rfl 18 rfl (by simp) [.tmp 4] rfl ?_
 simp only [idxs, Nat.reduceAdd]
 refine den_seq ?_
 refine den_region TTok ?_
 intro K hK
 simp -implicitDefEqProofs (disch := first | decide | assumption | omega) only [go_sem, RdS.len hdX sl22, RdS.idx hdX sl22, R1.intB hdX (HPres.refl _), RdS.cells hdX, RdS.len hmX sl23, RdS.idx hmX sl23, RdS.cellB hmX (HPres.refl _), RdS.cells hmX, RdS.len hvX sl26, RdS.idx hvX sl26, RdS.cellB hvX (HPres.refl _), RdS.cells hvX, wrap_id]
 refine op_box (cs := #[.int .i64 (X.c.p), vdX, vmX, vvX]) rfl ?_
 intro h0_0 e0_0 hb0_0 z0_0
 have := Ext.size e0_0
 have eB := e0_0
 have hfhb0_0 : Fresh h.size [h.size] := Fresh.one _
 have hlhb0_0 := one_lt (show h.size < h0_0.size by omega)
 try simp -implicitDefEqProofs (disch := first | decide | assumption | omega) only [go_sem, RdS.len hdX sl22, RdS.idx hdX sl22, R1.intB hdX (Ext.pres eB), RdS.cells hdX, RdS.len hmX sl23, RdS.idx hmX sl23, RdS.cellB hmX (Ext.pres eB), RdS.cells hmX, RdS.len hvX sl26, RdS.idx hvX sl26, RdS.cellB hvX (Ext.pres eB), RdS.cells hvX, BoxAt.cell hb0_0, wrap_id]
 refine hK _ _ ?_
 clear hK K
 refine den_seq ?_
 refine den_region TTok ?_
 intro K hK
 simp -implicitDefEqProofs (disch := first | decide | assumption | omega) only [go_sem, fa28_0, ld25, RdS.len hdX sl22, RdS.idx hdX sl22, R1.intB hdX (Ext.pres eB), RdS.cells hdX, RdS.len hmX sl23, RdS.idx hmX sl23, RdS.cellB hmX (Ext.pres eB), RdS.cells hmX, RdS.len hvX sl26, RdS.idx hvX sl26, RdS.cellB hvX (Ext.pres eB), RdS.cells hvX, BoxAt.cell hb0_0, wrap_id]
 try simp -implicitDefEqProofs (disch := first | decide | assumption | omega) only [go_sem, RdS.len hdX sl22, RdS.idx hdX sl22, R1.intB hdX (Ext.pres eB), RdS.cells hdX, RdS.len hmX sl23, RdS.idx hmX sl23, RdS.cellB hmX (Ext.pres eB), RdS.cells hmX, RdS.len hvX sl26, RdS.idx hvX sl26, RdS.cellB hvX (Ext.pres eB), RdS.cells hvX, BoxAt.cell hb0_0, wrap_id]
 refine CallA.mono (szC_ok _ X.c _ _ ⟨_, _, rfl, (RdS.pres hdX (Ext.pres eB)), (RdS.pres hmX (Ext.pres eB))⟩ (by omega) (by omega)) ?_
 intro v_ h1_3
 rintro ⟨rfl, e1_3⟩
 replace hb0_0 := BoxAt.ext hb0_0 e1_3
 have := Ext.size e1_3
 replace eB := Ext.trans eB e1_3
 have := szC_le X.c left (by omega)
 try simp -implicitDefEqProofs (disch := first | decide | assumption | omega) only [go_sem, RdS.len hdX sl22, RdS.idx hdX sl22, R1.intB hdX (Ext.pres eB), RdS.cells hdX, RdS.len hmX sl23, RdS.idx hmX sl23, RdS.cellB hmX (Ext.pres eB), RdS.cells hmX, RdS.len hvX sl26, RdS.idx hvX sl26, RdS.cellB hvX (Ext.pres eB), RdS.cells hvX, BoxAt.cell hb0_0, wrap_id]
 refine hK _ _ ?_
 clear hK K
 refine den_seq ?_
 refine den_seq ?_
 refine den_region TTok ?_
 intro K hK
 simp -implicitDefEqProofs (disch := first | decide | assumption | omega) only [go_sem, RdS.len hdX sl22, RdS.idx hdX sl22, R1.intB hdX (Ext.pres eB), RdS.cells hdX, RdS.len hmX sl23, RdS.idx hmX sl23, RdS.cellB hmX (Ext.pres eB), RdS.cells hmX, RdS.len hvX sl26, RdS.idx hvX sl26, RdS.cellB hvX (Ext.pres eB), RdS.cells hvX, BoxAt.cell hb0_0, wrap_id]
 refine hK _ _ ?_
 clear hK K
 refine den_cond rfl (fun c0 => ?_) (fun c0 => ?_)
 ·try simp only [decide_eq_true_eq, decide_eq_false_iff_not, beq_iff_eq, beq_eq_false_iff_ne, bne_iff_ne, ne_eq, Bool.not_eq_true', Bool.not_eq_false', Bool.and_eq_true, Bool.or_eq_true, bne_eq_false_iff_eq] at c0
  refine den_seq ?_
  refine den_region TTok ?_
  intro K hK
  simp -implicitDefEqProofs (disch := first | decide | assumption | omega) only [go_sem, RdS.len hdX sl22, RdS.idx hdX sl22, R1.intB hdX (Ext.pres eB), RdS.cells hdX, RdS.len hmX sl23, RdS.idx hmX sl23, RdS.cellB hmX (Ext.pres eB), RdS.cells hmX, RdS.len hvX sl26, RdS.idx hvX sl26, RdS.cellB hvX (Ext.pres eB), RdS.cells hvX, wrap_id]
  refine hK _ _ ?_
  clear hK K
  refine den_ret ?_
  simp (disch := decide) only [resP_1, puts_same, puts_ne]
  exact ⟨vint (by rw [szF, if_pos c0]), eB⟩
 ·try simp only [decide_eq_true_eq, decide_eq_false_iff_not, beq_iff_eq, beq_eq_false_iff_ne, bne_iff_ne, ne_eq, Bool.not_eq_true', Bool.not_eq_false', Bool.and_eq_true, Bool.or_eq_true, bne_eq_false_iff_eq] at c0
  refine den_skip ?_
  refine den_seq ?_
  refine den_region TTok ?_
  intro K hK
  simp -implicitDefEqProofs (disch := first | decide | assumption | omega) only [go_sem, fa28_1, ld26, RdS.len hdX sl22, RdS.idx hdX sl22, R1.intB hdX (Ext.pres eB), RdS.cells hdX, RdS.len hmX sl23, RdS.idx hmX sl23, RdS.cellB hmX (Ext.pres eB), RdS.cells hmX, RdS.len hvX sl26, RdS.idx hvX sl26, RdS.cellB hvX (Ext.pres eB), RdS.cells hvX, BoxAt.cell hb0_0, wrap_id]
  try simp -implicitDefEqProofs (disch := first | decide | assumption | omega) only [go_sem, RdS.len hdX sl22, RdS.idx hdX sl22, R1.intB hdX (Ext.pres eB), RdS.cells hdX, RdS.len hmX sl23, RdS.idx hmX sl23, RdS.cellB hmX (Ext.pres eB), RdS.cells hmX, RdS.len hvX sl26, RdS.idx hvX sl26, RdS.cellB hvX (Ext.pres eB), RdS.cells hvX, BoxAt.cell hb0_0, wrap_id]
  refine CallA.pure (szSS_ok _ X.lv _ _ (RdS.pres hvX (Ext.pres eB)) (by omega) (by omega)) ?_
  have := sz2_le X.lv (szC X.c left) (by omega)
  try simp -implicitDefEqProofs (disch := first | decide | assumption | omega) only [go_sem, RdS.len hdX sl22, RdS.idx hdX sl22, R1.intB hdX (Ext.pres eB), RdS.cells hdX, RdS.len hmX sl23, RdS.idx hmX sl23, RdS.cellB hmX (Ext.pres eB), RdS.cells hmX, RdS.len hvX sl26, RdS.idx hvX sl26, RdS.cellB hvX (Ext.pres eB), RdS.cells hvX, BoxAt.cell hb0_0, wrap_id]
  refine hK _ _ ?_
  clear hK K
  refine den_seq ?_
  refine den_seq ?_
  refine den_region TTok ?_
  intro K hK
  simp -implicitDefEqProofs (disch := first | decide | assumption | omega) only [go_sem, RdS.len hdX sl22, RdS.idx hdX sl22, R1.intB hdX (Ext.pres eB), RdS.cells hdX, RdS.len hmX sl23, RdS.idx hmX sl23, RdS.cellB hmX (Ext.pres eB), RdS.cells hmX, RdS.len hvX sl26, RdS.idx hvX sl26, RdS.cellB hvX (Ext.pres eB), RdS.cells hvX, wrap_id]
  refine hK _ _ ?_
  clear hK K
  refine den_cond rfl (fun c1 => ?_) (fun c1 => ?_)
  ·try simp only [decide_eq_true_eq, decide_eq_false_iff_not, beq_iff_eq, beq_eq_false_iff_ne, bne_iff_ne, ne_eq, Bool.not_eq_true', Bool.not_eq_false', Bool.and_eq_true, Bool.or_eq_true, bne_eq_false_iff_eq] at c1
   refine den_seq ?_
   refine den_region TTok ?_
   intro K hK
   simp -implicitDefEqProofs (disch := first | decide | assumption | omega) only [go_sem, RdS.len hdX sl22, RdS.idx hdX sl22, R1.intB hdX (Ext.pres eB), RdS.cells hdX, RdS.len hmX sl23, RdS.idx hmX sl23, RdS.cellB hmX (Ext.pres eB), RdS.cells hmX, RdS.len hvX sl26, RdS.idx hvX sl26, RdS.cellB hvX (Ext.pres eB), RdS.cells hvX, wrap_id]
   refine hK _ _ ?_
   clear hK K
   refine den_ret ?_
   simp (disch := decide) only [resP_1, puts_same, puts_ne]
   exact ⟨vint (by rw [szF, if_neg c0, if_pos c1]), eB⟩
  ·try simp only [decide_eq_true_eq, decide_eq_false_iff_not, beq_iff_eq, beq_eq_false_iff_ne, bne_iff_ne, ne_eq, Bool.not_eq_true', Bool.not_eq_false', Bool.and_eq_true, Bool.or_eq_true, bne_eq_false_iff_eq] at c1
   refine den_skip ?_
   refine den_seq ?_
   refine den_region TTok ?_
   intro K hK
   simp -implicitDefEqProofs (disch := first | decide | assumption | omega) only [go_sem, RdS.len hdX sl22, RdS.idx hdX sl22, R1.intB hdX (Ext.pres eB), RdS.cells hdX, RdS.len hmX sl23, RdS.idx hmX sl23, RdS.cellB hmX (Ext.pres eB), RdS.cells hmX, RdS.len hvX sl26, RdS.idx hvX sl26, RdS.cellB hvX (Ext.pres eB), RdS.cells hvX, wrap_id]
   refine hK _ _ ?_
   clear hK K
   refine den_ret ?_
   simp (disch := decide) only [resP_1, puts_same, puts_ne]
   exact ⟨vint (by rw [szF, if_neg c0, if_neg c1]), eB⟩

set_option maxRecDepth 100000 in
theorem toF_ok (vX : Value) (X : Fl) (h : Heap) (rX : RF h vX X) (hMX : HMF X) : CallA Try.prog 17 #[vX] h fun v' h' => ∃ wd0 wm0 wv0 fd0 fm0 fv0, v' = .agg #[.int .i64 (X).c.p, wd0, wm0, wv0] ∧ O1 h' wd0 (X).c.dims fd0 ∧ O3 h' wm0 (X).c.maps fm0 ∧ O2 h' wv0 (X).lv fv0 ∧ Fresh h.size (fd0 ++ (fm0 ++ fv0)) ∧ Ext h h' := by
 obtain ⟨vdX, vmX, vvX, rfl, hdX, hmX, hvX⟩ := rX
 have hledX := RdS.le hdX
 have hlemX := RdS.le hmX
 have hlevX := RdS.le hvX
 refine callA_intro TTok (args := [_]) Try.func17 (by kernel_rfl) rfl 13 rfl (by simp) [.cell 2 33] rfl ?_
 simp only [idxs, Nat.reduceAdd]
 refine den_seq ?_
 refine den_region TTok ?_
 intro K hK
 simp -implicitDefEqProofs (disch := first | decide | assumption | omega) only [go_sem, RdS.len hdX sl22, RdS.idx hdX sl22, R1.intB hdX (HPres.refl _), RdS.cells hdX, RdS.len hmX sl23, RdS.idx hmX sl23, RdS.cellB hmX (HPres.refl _), RdS.cells hmX, RdS.len hvX sl26, RdS.idx hvX sl26, RdS.cellB hvX (HPres.refl _), RdS.cells hvX, wrap_id]
 refine op_box (cs := #[.int .i64 (X.c.p), vdX, vmX, vvX]) rfl ?_
 intro h0_0 e0_0 hb0_0 z0_0
 have := Ext.size e0_0
 have eB := e0_0
 have hfhb0_0 : Fresh h.size [h.size] := Fresh.one _
 have hlhb0_0 := one_lt (show h.size < h0_0.size by omega)
 try simp -implicitDefEqProofs (disch := first | decide | assumption | omega) only [go_sem, RdS.len hdX sl22, RdS.idx hdX sl22, R1.intB hdX (Ext.pres eB), RdS.cells hdX, RdS.len hmX sl23, RdS.idx hmX sl23, RdS.cellB hmX (Ext.pres eB), RdS.cells hmX, RdS.len hvX sl26, RdS.idx hvX sl26, RdS.cellB hvX (Ext.pres eB), RdS.cells hvX, BoxAt.cell hb0_0, wrap_id]
 refine op_alloc (cs := #[.int .i64 0, .slice none 0 0, .slice none 0 0, .slice none 0 0]) (by kernel_rfl) ?_
 intro h0_1 e0_1 hb0_1 z0_1
 replace hb0_0 := BoxAt.ext hb0_0 e0_1
 have := Ext.size e0_1
 replace eB := Ext.trans eB e0_1
 have hfhb0_1 : Fresh h0_0.size [h0_0.size] := Fresh.one _
 have hlhb0_1 := one_lt (show h0_0.size < h0_1.size by omega)
 try simp -implicitDefEqProofs (disch := first | decide | assumption | omega) only [go_sem, RdS.len hdX sl22, RdS.idx hdX sl22, R1.intB hdX (Ext.pres eB), RdS.cells hdX, RdS.len hmX sl23, RdS.idx hmX sl23, RdS.cellB hmX (Ext.pres eB), RdS.cells hmX, RdS.len hvX sl26, RdS.idx hvX sl26, RdS.cellB hvX (Ext.pres eB), RdS.cells hvX, BoxAt.cell hb0_0, BoxAt.cell hb0_1, wrap_id]
 refine hK _ _ ?_
 clear hK K
 refine den_seq ?_
 refine den_region TTok ?_
 intro K hK
 simp -implicitDefEqProofs (disch := first | decide | assumption | omega) only [go_sem, RdS.len hdX sl22, RdS.idx hdX sl22, R1.intB hdX (Ext.pres eB), RdS.cells hdX, RdS.len hmX sl23, RdS.idx hmX sl23, RdS.cellB hmX (Ext.pres eB), RdS.cells hmX, RdS.len hvX sl26, RdS.idx hvX sl26, RdS.cellB hvX (Ext.pres eB), RdS.cells hvX, BoxAt.cell hb0_0, BoxAt.cell hb0_1, wrap_id]
 refine op_alloc (cs := #[.int .i64 0, .slice none 0 0, .slice none 0 0, .slice none 0 0]) (by kernel_rfl) ?_
 intro h1_0 e1_0 hb1_0 z1_0
 replace hb0_0 := BoxAt.ext hb0_0 e1_0
 replace hb0_1 := BoxAt.ext hb0_1 e1_0
 have := Ext.size e1_0
 replace eB := Ext.trans eB e1_0
 have hfhb1_0 : Fresh h0_1.size [h0_1.size] := Fresh.one _
 have hlhb1_0 := one_lt (show h0_1.size < h1_0.size by omega)
 try simp -implicitDefEqProofs (disch := first | decide | assumption | omega) only [go_sem, RdS.len hdX sl22, RdS.idx hdX sl22, R1.intB hdX (Ext.pres eB), RdS.cells hdX, RdS.len hmX sl23, RdS.idx hmX sl23, RdS.cellB hmX (Ext.pres eB), RdS.cells hmX, RdS.len hvX sl26, RdS.idx hvX sl26, RdS.cellB hvX (Ext.pres eB), RdS.cells hvX, BoxAt.cell hb0_0, BoxAt.cell hb0_1, BoxAt.cell hb1_0, wrap_id]
 refine hK _ _ ?_
 clear hK K
 refine den_seq ?_
 refine den_region TTok ?_
 intro K hK
 simp -implicitDefEqProofs (disch := first | decide | assumption | omega) only [go_sem, fa28_0, ld25, RdS.len hdX sl22, RdS.idx hdX sl22, R1.intB hdX (Ext.pres eB), RdS.cells hdX, RdS.len hmX sl23, RdS.idx hmX sl23, RdS.cellB hmX (Ext.pres eB), RdS.cells hmX, RdS.len hvX sl26, RdS.idx hvX sl26, RdS.cellB hvX (Ext.pres eB), RdS.cells hvX, BoxAt.cell hb0_0, BoxAt.cell hb0_1, BoxAt.cell hb1_0, wrap_id]
 try simp -implicitDefEqProofs (disch := first | decide | assumption | omega) only [go_sem, RdS.len hdX sl22, RdS.idx hdX sl22, R1.intB hdX (Ext.pres eB), RdS.cells hdX, RdS.len hmX sl23, RdS.idx hmX sl23, RdS.cellB hmX (Ext.pres eB), RdS.cells hmX, RdS.len hvX sl26, RdS.idx hvX sl26, RdS.cellB hvX (Ext.pres eB), RdS.cells hvX, BoxAt.cell hb0_0, BoxAt.cell hb0_1, BoxAt.cell hb1_0, wrap_id]
 refine CallA.mono (toC_ok _ X.c _ ⟨_, _, rfl, (RdS.pres hdX (Ext.pres eB)), (RdS.pres hmX (Ext.pres eB))⟩ hMX.c) ?_
 intro v_ h2_2
 rintro ⟨vd2_2, vm2_2, fd2_2, fm2_2, rfl, hod2_2, hom2_2, hf2_2, e2_2⟩
 replace hb0_0 := BoxAt.ext hb0_0 e2_2
 replace hb0_1 := BoxAt.ext hb0_1 e2_2
 replace hb1_0 := BoxAt.ext hb1_0 e2_2
 have := Ext.size e2_2
 replace eB := Ext.trans eB e2_2
 have hfd2_2 := hf2_2.left
 have hfm2_2 := hf2_2.right
 have hlhod2_2 := OS.lt hod2_2
 have hlhom2_2 := OS.lt hom2_2
 have ap1 : Apart fd2_2 fm2_2 := apart_nodup hf2_2
 try simp -implicitDefEqProofs (disch := first | decide | assumption | omega) only [go_sem, fa33_0, RdS.len hdX sl22, RdS.idx hdX sl22, R1.intB hdX (Ext.pres eB), RdS.cells hdX, RdS.len hmX sl23, RdS.idx hmX sl23, RdS.cellB hmX (Ext.pres eB), RdS.cells hmX, RdS.len hvX sl26, RdS.idx hvX sl26, RdS.cellB hvX (Ext.pres eB), RdS.cells hvX, RdS.len (OS.rd hod2_2) sl22, RdS.idx (OS.rd hod2_2) sl22, R1.intN (OS.rd hod2_2), RdS.cells (OS.rd hod2_2), RdS.len (OS.rd hom2_2) sl23, RdS.idx (OS.rd hom2_2) sl23, RdS.cellN (OS.rd hom2_2), RdS.cells (OS.rd hom2_2), BoxAt.cell hb0_0, BoxAt.cell hb0_1, BoxAt.cell hb1_0, wrap_id]
 refine op_storeB (cs' := #[.int .i64 (X.c.p), vd2_2, vm2_2, .slice none 0 0]) st31 hb1_0 rfl rfl rfl (by simp) (allOne_mem (l := [.int .i64 (X.c.p), vd2_2, vm2_2]) ⟨rfl, (OS.one hod2_2).1, (OS.one hom2_2).1, trivial⟩) rfl ?_
 intro h2_4 hb1_0 c2_4
 replace hod2_2 := OS.chg hod2_2 c2_4 (apart_gt hfd2_2 hlhb1_0 (by omega))
 replace hom2_2 := OS.chg hom2_2 c2_4 (apart_gt hfm2_2 hlhb1_0 (by omega))
 replace hb0_0 := BoxAt.chgA hb0_0 c2_4 (apart_lt hlhb0_0 hfhb1_0 (by omega))
 replace hb0_1 := BoxAt.chgA hb0_1 c2_4 (apart_lt hlhb0_1 hfhb1_0 (by omega))
 have := c2_4.size
 replace eB := Ext.then eB c2_4 (ge_of hfhb1_0 (by omega))
 try simp -implicitDefEqProofs (disch := first | decide | assumption | omega) only [go_sem, RdS.len hdX sl22, RdS.idx hdX sl22, R1.intB hdX (Ext.pres eB), RdS.cells hdX, RdS.len hmX sl23, RdS.idx hmX sl23, RdS.cellB hmX (Ext.pres eB), RdS.cells hmX, RdS.len hvX sl26, RdS.idx hvX sl26, RdS.cellB hvX (Ext.pres eB), RdS.cells hvX, RdS.len (OS.rd hod2_2) sl22, RdS.idx (OS.rd hod2_2) sl22, R1.intN (OS.rd hod2_2), RdS.cells (OS.rd hod2_2), RdS.len (OS.rd hom2_2) sl23, RdS.idx (OS.rd hom2_2) sl23, RdS.cellN (OS.rd hom2_2), RdS.cells (OS.rd hom2_2), BoxAt.cell hb0_0, BoxAt.cell hb0_1, BoxAt.cell hb1_0, wrap_id]
 refine hK _ _ ?_
 clear hK K
 refine den_seq ?_
 refine den_region TTok ?_
 intro K hK
 simp -implicitDefEqProofs (disch := first | decide | assumption | omega) only [go_sem, fa28_1, ld26, RdS.len hdX sl22, RdS.idx hdX sl22, R1.intB hdX (Ext.pres eB), RdS.cells hdX, RdS.len hmX sl23, RdS.idx hmX sl23, RdS.cellB hmX (Ext.pres eB), RdS.cells hmX, RdS.len hvX sl26, RdS.idx hvX sl26, RdS.cellB hvX (Ext.pres eB), RdS.cells hvX, RdS.len (OS.rd hod2_2) sl22, RdS.idx (OS.rd hod2_2) sl22, R1.intN (OS.rd hod2_2), RdS.cells (OS.rd hod2_2), RdS.len (OS.rd hom2_2) sl23, RdS.idx (OS.rd hom2_2) sl23, RdS.cellN (OS.rd hom2_2), RdS.cells (OS.rd hom2_2), BoxAt.cell hb0_0, BoxAt.cell hb0_1, BoxAt.cell hb1_0, wrap_id]
 try simp -implicitDefEqProofs (disch := first | decide | assumption | omega) only [go_sem, RdS.len hdX sl22, RdS.idx hdX sl22, R1.intB hdX (Ext.pres eB), RdS.cells hdX, RdS.len hmX sl23, RdS.idx hmX sl23, RdS.cellB hmX (Ext.pres eB), RdS.cells hmX, RdS.len hvX sl26, RdS.idx hvX sl26, RdS.cellB hvX (Ext.pres eB), RdS.cells hvX, RdS.len (OS.rd hod2_2) sl22, RdS.idx (OS.rd hod2_2) sl22, R1.intN (OS.rd hod2_2), RdS.cells (OS.rd hod2_2), RdS.len (OS.rd hom2_2) sl23, RdS.idx (OS.rd hom2_2) sl23, RdS.cellN (OS.rd hom2_2), RdS.cells (OS.rd hom2_2), BoxAt.cell hb0_0, BoxAt.cell hb0_1, BoxAt.cell hb1_0, wrap_id]
 refine CallA.mono (toSS_ok _ X.lv _ (RdS.pres hvX (Ext.pres eB)) hMX.lv) ?_
 intro v3_2 h3_2
 rintro ⟨f3_2, ho3_2, hf3_2, e3_2⟩
 replace hod2_2 := OS.ext hod2_2 e3_2
 replace hom2_2 := OS.ext hom2_2 e3_2
 replace hb0_0 := BoxAt.ext hb0_0 e3_2
 replace hb0_1 := BoxAt.ext hb0_1 e3_2
 replace hb1_0 := BoxAt.ext hb1_0 e3_2
 have := Ext.size e3_2
 replace eB := Ext.trans eB e3_2
 have hlho3_2 := OS.lt ho3_2
 try simp -implicitDefEqProofs (disch := first | decide | assumption | omega) only [go_sem, fa33_1, RdS.len hdX sl22, RdS.idx hdX sl22, R1.intB hdX (Ext.pres eB), RdS.cells hdX, RdS.len hmX sl23, RdS.idx hmX sl23, RdS.cellB hmX (Ext.pres eB), RdS.cells hmX, RdS.len hvX sl26, RdS.idx hvX sl26, RdS.cellB hvX (Ext.pres eB), RdS.cells hvX, RdS.len (OS.rd hod2_2) sl22, RdS.idx (OS.rd hod2_2) sl22, R1.intN (OS.rd hod2_2), RdS.cells (OS.rd hod2_2), RdS.len (OS.rd hom2_2) sl23, RdS.idx (OS.rd hom2_2) sl23, RdS.cellN (OS.rd hom2_2), RdS.cells (OS.rd hom2_2), RdS.len (OS.rd ho3_2) sl26, RdS.idx (OS.rd ho3_2) sl26, RdS.cellN (OS.rd ho3_2), RdS.cells (OS.rd ho3_2), BoxAt.cell hb0_0, BoxAt.cell hb0_1, BoxAt.cell hb1_0, wrap_id]
 refine op_storeB (cs' := #[.int .i64 (X.c.p), vd2_2, vm2_2, v3_2]) st26 hb1_0 rfl (OS.one ho3_2).2 rfl (by simp) (allOne_mem (l := [v3_2]) ⟨(OS.one ho3_2).1, trivial⟩) rfl ?_
 intro h3_4 hb1_0 c3_4
 replace hod2_2 := OS.chg hod2_2 c3_4 (apart_gt hfd2_2 hlhb1_0 (by omega))
 replace hom2_2 := OS.chg hom2_2 c3_4 (apart_gt hfm2_2 hlhb1_0 (by omega))
 replace ho3_2 := OS.chg ho3_2 c3_4 (apart_gt hf3_2 hlhb1_0 (by omega))
 replace hb0_0 := BoxAt.chgA hb0_0 c3_4 (apart_lt hlhb0_0 hfhb1_0 (by omega))
 replace hb0_1 := BoxAt.chgA hb0_1 c3_4 (apart_lt hlhb0_1 hfhb1_0 (by omega))
 have := c3_4.size
 replace eB := Ext.then eB c3_4 (ge_of hfhb1_0 (by omega))
 try simp -implicitDefEqProofs (disch := first | decide | assumption | omega) only [go_sem, RdS.len hdX sl22, RdS.idx hdX sl22, R1.intB hdX (Ext.pres eB), RdS.cells hdX, RdS.len hmX sl23, RdS.idx hmX sl23, RdS.cellB hmX (Ext.pres eB), RdS.cells hmX, RdS.len hvX sl26, RdS.idx hvX sl26, RdS.cellB hvX (Ext.pres eB), RdS.cells hvX, RdS.len (OS.rd hod2_2) sl22, RdS.idx (OS.rd hod2_2) sl22, R1.intN (OS.rd hod2_2), RdS.cells (OS.rd hod2_2), RdS.len (OS.rd hom2_2) sl23, RdS.idx (OS.rd hom2_2) sl23, RdS.cellN (OS.rd hom2_2), RdS.cells (OS.rd hom2_2), RdS.len (OS.rd ho3_2) sl26, RdS.idx (OS.rd ho3_2) sl26, RdS.cellN (OS.rd ho3_2), RdS.cells (OS.rd ho3_2), BoxAt.cell hb0_0, BoxAt.cell hb0_1, BoxAt.cell hb1_0, wrap_id]
 refine hK _ _ ?_
 clear hK K
 refine den_seq ?_
 refine den_region TTok ?_
 intro K hK
 simp -implicitDefEqProofs (disch := first | decide | assumption | omega) only [go_sem, ld33, RdS.len hdX sl22, RdS.idx hdX sl22, R1.intB hdX (Ext.pres eB), RdS.cells hdX, RdS.len hmX sl23, RdS.idx hmX sl23, RdS.cellB hmX (Ext.pres eB), RdS.cells hmX, RdS.len hvX sl26, RdS.idx hvX sl26, RdS.cellB hvX (Ext.pres eB), RdS.cells hvX, RdS.len (OS.rd hod2_2) sl22, RdS.idx (OS.rd hod2_2) sl22, R1.intN (OS.rd hod2_2), RdS.cells (OS.rd hod2_2), RdS.len (OS.rd hom2_2) sl23, RdS.idx (OS.rd hom2_2) sl23, RdS.cellN (OS.rd hom2_2), RdS.cells (OS.rd hom2_2), RdS.len (OS.rd ho3_2) sl26, RdS.idx (OS.rd ho3_2) sl26, RdS.cellN (OS.rd ho3_2), RdS.cells (OS.rd ho3_2), BoxAt.cell hb0_1, BoxAt.cell hb1_0, wrap_id]
 refine op_storeB (cs' := #[.int .i64 (X.c.p), vd2_2, vm2_2, v3_2]) st33 hb0_1 rfl rfl rfl (by simp) (allOne_mem (l := [.int .i64 (X.c.p), vd2_2, vm2_2, v3_2]) ⟨rfl, (OS.one hod2_2).1, (OS.one hom2_2).1, (OS.one ho3_2).1, trivial⟩) rfl ?_
 intro h4_1 hb0_1 c4_1
 replace hod2_2 := OS.chg hod2_2 c4_1 (apart_gt hfd2_2 hlhb0_1 (by omega))
 replace hom2_2 := OS.chg hom2_2 c4_1 (apart_gt hfm2_2 hlhb0_1 (by omega))
 replace ho3_2 := OS.chg ho3_2 c4_1 (apart_gt hf3_2 hlhb0_1 (by omega))
 replace hb1_0 := BoxAt.chgA hb1_0 c4_1 (apart_gt hfhb1_0 hlhb0_1 (by omega))
 have := c4_1.size
 replace eB := Ext.then eB c4_1 (ge_of hfhb0_1 (by omega))
 try simp -implicitDefEqProofs (disch := first | decide | assumption | omega) only [go_sem, RdS.len hdX sl22, RdS.idx hdX sl22, R1.intB hdX (Ext.pres eB), RdS.cells hdX, RdS.len hmX sl23, RdS.idx hmX sl23, RdS.cellB hmX (Ext.pres eB), RdS.cells hmX, RdS.len hvX sl26, RdS.idx hvX sl26, RdS.cellB hvX (Ext.pres eB), RdS.cells hvX, RdS.len (OS.rd hod2_2) sl22, RdS.idx (OS.rd hod2_2) sl22, R1.intN (OS.rd hod2_2), RdS.cells (OS.rd hod2_2), RdS.len (OS.rd hom2_2) sl23, RdS.idx (OS.rd hom2_2) sl23, RdS.cellN (OS.rd hom2_2), RdS.cells (OS.rd hom2_2), RdS.len (OS.rd ho3_2) sl26, RdS.idx (OS.rd ho3_2) sl26, RdS.cellN (OS.rd ho3_2), RdS.cells (OS.rd ho3_2), BoxAt.cell hb0_1, BoxAt.cell hb1_0, wrap_id]
 refine hK _ _ ?_
 clear hK K
 refine den_ret ?_
 simp -implicitDefEqProofs (disch := first | decide | assumption | omega) only [go_sem, RdS.len hdX sl22, RdS.idx hdX sl22, R1.intB hdX (Ext.pres eB), RdS.cells hdX, RdS.len hmX sl23, RdS.idx hmX sl23, RdS.cellB hmX (Ext.pres eB), RdS.cells hmX, RdS.len hvX sl26, RdS.idx hvX sl26, RdS.cellB hvX (Ext.pres eB), RdS.cells hvX, RdS.len (OS.rd hod2_2) sl22, RdS.idx (OS.rd hod2_2) sl22, R1.intN (OS.rd hod2_2), RdS.cells (OS.rd hod2_2), RdS.len (OS.rd hom2_2) sl23, RdS.idx (OS.rd hom2_2) sl23, RdS.cellN (OS.rd hom2_2), RdS.cells (OS.rd hom2_2), RdS.len (OS.rd ho3_2) sl26, RdS.idx (OS.rd ho3_2) sl26, RdS.cellN (OS.rd ho3_2), RdS.cells (OS.rd ho3_2), BoxAt.cell hb0_1, BoxAt.cell hb1_0, wrap_id, resP_c1, ld33]
 exact ⟨_, _, _, _, _, _, rfl, hod2_2, hom2_2, ho3_2, (Fresh.two (lo := h.size) hfd2_2 (Fresh.two (lo := h.size) hfm2_2 hf3_2 (apart_lt hlhom2_2 hf3_2 (by omega)) (by omega) (by omega)) (Apart.app ap1 (apart_lt hlhod2_2 hf3_2 (by omega))) (by omega) (by omega)), eB⟩

set_option maxRecDepth 100000 in
theorem eqF_same (v w : Value) (X : Fl) (h : Heap) (rX : RF h v X) (rY : RF h w X) : CallA Try.prog 19 #[v, w] h fun u h' => u = .bool true ∧ Ext h h' := by
 obtain ⟨vdX, vmX, vvX, rfl, hdX, hmX, hvX⟩ := rX
 obtain ⟨vdY, vmY, vvY, rfl, hdY, hmY, hvY⟩ := rY
 refine callA_intro TTok (args := [_, _]) Try.func19 (by kernel_rfl) rfl 17 rfl (by simp) [.tmp 4] rfl ?_
 simp only [idxs, Nat.reduceAdd]
 refine den_seq ?_
 refine den_region TTok ?_
 intro K hK
 simp -implicitDefEqProofs (disch := first | decide | assumption | omega) only [go_sem, RdS.len hdX sl22, RdS.idx hdX sl22, R1.intB hdX (HPres.refl _), RdS.cells hdX, RdS.len hmX sl23, RdS.idx hmX sl23, RdS.cellB hmX (HPres.refl _), RdS.cells hmX, RdS.len hvX sl26, RdS.idx hvX sl26, RdS.cellB hvX (HPres.refl _), RdS.cells hvX, RdS.len hdY sl22, RdS.idx hdY sl22, R1.intB hdY (HPres.refl _), RdS.cells hdY, RdS.len hmY sl23, RdS.idx hmY sl23, RdS.cellB hmY (HPres.refl _), RdS.cells hmY, RdS.len hvY sl26, RdS.idx hvY sl26, RdS.cellB hvY (HPres.refl _), RdS.cells hvY, wrap_id]
 refine op_box (cs := #[.int .i64 (X.c.p), vdX, vmX, vvX]) rfl ?_
 intro h0_0 e0_0 hb0_0 z0_0
 have := Ext.size e0_0
 have eB := e0_0
 have hfhb0_0 : Fresh h.size [h.size] := Fresh.one _
 have hlhb0_0 := one_lt (show h.size < h0_0.size by omega)
 try simp -implicitDefEqProofs (disch := first | decide | assumption | omega) only [go_sem, RdS.len hdX sl22, RdS.idx hdX sl22, R1.intB hdX (Ext.pres eB), RdS.cells hdX, RdS.len hmX sl23, RdS.idx hmX sl23, RdS.cellB hmX (Ext.pres eB), RdS.cells hmX, RdS.len hvX sl26, RdS.idx hvX sl26, RdS.cellB hvX (Ext.pres eB), RdS.cells hvX, RdS.len hdY sl22, RdS.idx hdY sl22, R1.intB hdY (Ext.pres eB), RdS.cells hdY, RdS.len hmY sl23, RdS.idx hmY sl23, RdS.cellB hmY (Ext.pres eB), RdS.cells hmY, RdS.len hvY sl26, RdS.idx hvY sl26, RdS.cellB hvY (Ext.pres eB), RdS.cells hvY, BoxAt.cell hb0_0, wrap_id]
 refine op_box (cs := #[.int .i64 (X.c.p), vdY, vmY, vvY]) rfl ?_
 intro h0_1 e0_1 hb0_1 z0_1
 replace hb0_0 := BoxAt.ext hb0_0 e0_1
 have := Ext.size e0_1
 replace eB := Ext.trans eB e0_1
 have hfhb0_1 : Fresh h0_0.size [h0_0.size] := Fresh.one _
 have hlhb0_1 := one_lt (show h0_0.size < h0_1.size by omega)
 try simp -implicitDefEqProofs (disch := first | decide | assumption | omega) only [go_sem, RdS.len hdX sl22, RdS.idx hdX sl22, R1.intB hdX (Ext.pres eB), RdS.cells hdX, RdS.len hmX sl23, RdS.idx hmX sl23, RdS.cellB hmX (Ext.pres eB), RdS.cells hmX, RdS.len hvX sl26, RdS.idx hvX sl26, RdS.cellB hvX (Ext.pres eB), RdS.cells hvX, RdS.len hdY sl22, RdS.idx hdY sl22, R1.intB hdY (Ext.pres eB), RdS.cells hdY, RdS.len hmY sl23, RdS.idx hmY sl23, RdS.cellB hmY (Ext.pres eB), RdS.cells hmY, RdS.len hvY sl26, RdS.idx hvY sl26, RdS.cellB hvY (Ext.pres eB), RdS.cells hvY, BoxAt.cell hb0_0, BoxAt.cell hb0_1, wrap_id]
 refine hK _ _ ?_
 clear hK K
 refine den_seq ?_
 refine den_seq ?_
 refine den_region TTok ?_
 intro K hK
 simp -implicitDefEqProofs (disch := first | decide | assumption | omega) only [go_sem, fa33_0, ld31, RdS.len hdX sl22, RdS.idx hdX sl22, R1.intB hdX (Ext.pres eB), RdS.cells hdX, RdS.len hmX sl23, RdS.idx hmX sl23, RdS.cellB hmX (Ext.pres eB), RdS.cells hmX, RdS.len hvX sl26, RdS.idx hvX sl26, RdS.cellB hvX (Ext.pres eB), RdS.cells hvX, RdS.len hdY sl22, RdS.idx hdY sl22, R1.intB hdY (Ext.pres eB), RdS.cells hdY, RdS.len hmY sl23, RdS.idx hmY sl23, RdS.cellB hmY (Ext.pres eB), RdS.cells hmY, RdS.len hvY sl26, RdS.idx hvY sl26, RdS.cellB hvY (Ext.pres eB), RdS.cells hvY, BoxAt.cell hb0_0, BoxAt.cell hb0_1, wrap_id]
 try simp -implicitDefEqProofs (disch := first | decide | assumption | omega) only [go_sem, RdS.len hdX sl22, RdS.idx hdX sl22, R1.intB hdX (Ext.pres eB), RdS.cells hdX, RdS.len hmX sl23, RdS.idx hmX sl23, RdS.cellB hmX (Ext.pres eB), RdS.cells hmX, RdS.len hvX sl26, RdS.idx hvX sl26, RdS.cellB hvX (Ext.pres eB), RdS.cells hvX, RdS.len hdY sl22, RdS.idx hdY sl22, R1.intB hdY (Ext.pres eB), RdS.cells hdY, RdS.len hmY sl23, RdS.idx hmY sl23, RdS.cellB hmY (Ext.pres eB), RdS.cells hmY, RdS.len hvY sl26, RdS.idx hvY sl26, RdS.cellB hvY (Ext.pres eB), RdS.cells hvY, BoxAt.cell hb0_0, BoxAt.cell hb0_1, wrap_id]
 refine CallA.mono (eqC_same _ _ X.c _ ⟨_, _, rfl, (RdS.pres hdX (Ext.pres eB)), (RdS.pres hmX (Ext.pres eB))⟩ ⟨_, _, rfl, (RdS.pres hdY (Ext.pres eB)), (RdS.pres hmY (Ext.pres eB))⟩) ?_
 intro v_ h1_4
 rintro ⟨rfl, e1_4⟩
 replace hb0_0 := BoxAt.ext hb0_0 e1_4
 replace hb0_1 := BoxAt.ext hb0_1 e1_4
 have := Ext.size e1_4
 replace eB := Ext.trans eB e1_4
 try simp -implicitDefEqProofs (disch := first | decide | assumption | omega) only [go_sem, RdS.len hdX sl22, RdS.idx hdX sl22, R1.intB hdX (Ext.pres eB), RdS.cells hdX, RdS.len hmX sl23, RdS.idx hmX sl23, RdS.cellB hmX (Ext.pres eB), RdS.cells hmX, RdS.len hvX sl26, RdS.idx hvX sl26, RdS.cellB hvX (Ext.pres eB), RdS.cells hvX, RdS.len hdY sl22, RdS.idx hdY sl22, R1.intB hdY (Ext.pres eB), RdS.cells hdY, RdS.len hmY sl23, RdS.idx hmY sl23, RdS.cellB hmY (Ext.pres eB), RdS.cells hmY, RdS.len hvY sl26, RdS.idx hvY sl26, RdS.cellB hvY (Ext.pres eB), RdS.cells hvY, BoxAt.cell hb0_0, BoxAt.cell hb0_1, wrap_id]
 refine hK _ _ ?_
 clear hK K
 refine den_cond rfl (fun c0 => ?_) (fun c0 => ?_)
 ·try simp only [decide_eq_true_eq, decide_eq_false_iff_not, beq_iff_eq, beq_eq_false_iff_ne, bne_iff_ne, ne_eq, Bool.not_eq_true', Bool.not_eq_false', Bool.and_eq_true, Bool.or_eq_true, bne_eq_false_iff_eq] at c0
  refine den_seq ?_
  refine den_region TTok ?_
  intro K hK
  simp -implicitDefEqProofs (disch := first | decide | assumption | omega) only [go_sem, RdS.len hdX sl22, RdS.idx hdX sl22, R1.intB hdX (Ext.pres eB), RdS.cells hdX, RdS.len hmX sl23, RdS.idx hmX sl23, RdS.cellB hmX (Ext.pres eB), RdS.cells hmX, RdS.len hvX sl26, RdS.idx hvX sl26, RdS.cellB hvX (Ext.pres eB), RdS.cells hvX, RdS.len hdY sl22, RdS.idx hdY sl22, R1.intB hdY (Ext.pres eB), RdS.cells hdY, RdS.len hmY sl23, RdS.idx hmY sl23, RdS.cellB hmY (Ext.pres eB), RdS.cells hmY, RdS.len hvY sl26, RdS.idx hvY sl26, RdS.cellB hvY (Ext.pres eB), RdS.cells hvY, wrap_id]
  refine hK _ _ ?_
  clear hK K
  refine den_ret ?_
  simp (disch := decide) only [resP_1, puts_same, puts_ne]
  exact absurd c0 (by simp)
 ·try simp only [decide_eq_true_eq, decide_eq_false_iff_not, beq_iff_eq, beq_eq_false_iff_ne, bne_iff_ne, ne_eq, Bool.not_eq_true', Bool.not_eq_false', Bool.and_eq_true, Bool.or_eq_true, bne_eq_false_iff_eq] at c0
  refine den_skip ?_
  refine den_seq ?_
  refine den_seq ?_
  refine den_region TTok ?_
  intro K hK
  simp -implicitDefEqProofs (disch := first | decide | assumption | omega) only [go_sem, fa33_1, ld26, RdS.len hdX sl22, RdS.idx hdX sl22, R1.intB hdX (Ext.pres eB), RdS.cells hdX, RdS.len hmX sl23, RdS.idx hmX sl23, RdS.cellB hmX (Ext.pres eB), RdS.cells hmX, RdS.len hvX sl26, RdS.idx hvX sl26, RdS.cellB hvX (Ext.pres eB), RdS.cells hvX, RdS.len hdY sl22, RdS.idx hdY sl22, R1.intB hdY (Ext.pres eB), RdS.cells hdY, RdS.len hmY sl23, RdS.idx hmY sl23, RdS.cellB hmY (Ext.pres eB), RdS.cells hmY, RdS.len hvY sl26, RdS.idx hvY sl26, RdS.cellB hvY (Ext.pres eB), RdS.cells hvY, BoxAt.cell hb0_0, BoxAt.cell hb0_1, wrap_id]
  try simp -implicitDefEqProofs (disch := first | decide | assumption | omega) only [go_sem, RdS.len hdX sl22, RdS.idx hdX sl22, R1.intB hdX (Ext.pres eB), RdS.cells hdX, RdS.len hmX sl23, RdS.idx hmX sl23, RdS.cellB hmX (Ext.pres eB), RdS.cells hmX, RdS.len hvX sl26, RdS.idx hvX sl26, RdS.cellB hvX (Ext.pres eB), RdS.cells hvX, RdS.len hdY sl22, RdS.idx hdY sl22, R1.intB hdY (Ext.pres eB), RdS.cells hdY, RdS.len hmY sl23, RdS.idx hmY sl23, RdS.cellB hmY (Ext.pres eB), RdS.cells hmY, RdS.len hvY sl26, RdS.idx hvY sl26, RdS.cellB hvY (Ext.pres eB), RdS.cells hvY, BoxAt.cell hb0_0, BoxAt.cell hb0_1, wrap_id]
  refine CallA.pure (eqSS_same _ _ _ _ (RdS.pres hvX (Ext.pres eB)) (RdS.pres hvY (Ext.pres eB))) ?_
  try simp -implicitDefEqProofs (disch := first | decide | assumption | omega) only [go_sem, RdS.len hdX sl22, RdS.idx hdX sl22, R1.intB hdX (Ext.pres eB), RdS.cells hdX, RdS.len hmX sl23, RdS.idx hmX sl23, RdS.cellB hmX (Ext.pres eB), RdS.cells hmX, RdS.len hvX sl26, RdS.idx hvX sl26, RdS.cellB hvX (Ext.pres eB), RdS.cells hvX, RdS.len hdY sl22, RdS.idx hdY sl22, R1.intB hdY (Ext.pres eB), RdS.cells hdY, RdS.len hmY sl23, RdS.idx hmY sl23, RdS.cellB hmY (Ext.pres eB), RdS.cells hmY, RdS.len hvY sl26, RdS.idx hvY sl26, RdS.cellB hvY (Ext.pres eB), RdS.cells hvY, BoxAt.cell hb0_0, BoxAt.cell hb0_1, wrap_id]
  refine hK _ _ ?_
  clear hK K
  refine den_cond rfl (fun c1 => ?_) (fun c1 => ?_)
  ·try simp only [decide_eq_true_eq, decide_eq_false_iff_not, beq_iff_eq, beq_eq_false_iff_ne, bne_iff_ne, ne_eq, Bool.not_eq_true', Bool.not_eq_false', Bool.and_eq_true, Bool.or_eq_true, bne_eq_false_iff_eq] at c1
   refine den_seq ?_
   refine den_region TTok ?_
   intro K hK
   simp -implicitDefEqProofs (disch := first | decide | assumption | omega) only [go_sem, RdS.len hdX sl22, RdS.idx hdX sl22, R1.intB hdX (Ext.pres eB), RdS.cells hdX, RdS.len hmX sl23, RdS.idx hmX sl23, RdS.cellB hmX (Ext.pres eB), RdS.cells hmX, RdS.len hvX sl26, RdS.idx hvX sl26, RdS.cellB hvX (Ext.pres eB), RdS.cells hvX, RdS.len hdY sl22, RdS.idx hdY sl22, R1.intB hdY (Ext.pres eB), RdS.cells hdY, RdS.len hmY sl23, RdS.idx hmY sl23, RdS.cellB hmY (Ext.pres eB), RdS.cells hmY, RdS.len hvY sl26, RdS.idx hvY sl26, RdS.cellB hvY (Ext.pres eB), RdS.cells hvY, wrap_id]
   refine hK _ _ ?_
   clear hK K
   refine den_ret ?_
   simp (disch := decide) only [resP_1, puts_same, puts_ne]
   exact absurd c1 (by simp)
  ·try simp only [decide_eq_true_eq, decide_eq_false_iff_not, beq_iff_eq, beq_eq_false_iff_ne, bne_iff_ne, ne_eq, Bool.not_eq_true', Bool.not_eq_false', Bool.and_eq_true, Bool.or_eq_true, bne_eq_false_iff_eq] at c1
   refine den_skip ?_
   refine den_seq ?_
   refine den_region TTok ?_
   intro K hK
   simp -implicitDefEqProofs (disch := first | decide | assumption | omega) only [go_sem, RdS.len hdX sl22, RdS.idx hdX sl22, R1.intB hdX (Ext.pres eB), RdS.cells hdX, RdS.len hmX sl23, RdS.idx hmX sl23, RdS.cellB hmX (Ext.pres eB), RdS.cells hmX, RdS.len hvX sl26, RdS.idx hvX sl26, RdS.cellB hvX (Ext.pres eB), RdS.cells hvX, RdS.len hdY sl22, RdS.idx hdY sl22, R1.intB hdY (Ext.pres eB), RdS.cells hdY, RdS.len hmY sl23, RdS.idx hmY sl23, RdS.cellB hmY (Ext.pres eB), RdS.cells hmY, RdS.len hvY sl26, RdS.idx hvY sl26, RdS.cellB hvY (Ext.pres eB), RdS.cells hvY, wrap_id]
   refine hK _ _ ?_
   clear hK K
   refine den_ret ?_
   simp (disch := decide) only [resP_1, puts_same, puts_ne]
   exact ⟨by first | rfl | trivial, eB⟩

set_option maxRecDepth 100000 in
theorem markF_ok (vd vm vv : Value) (X : Fl) (k : Int) (fd fm fv : List Nat) (h : Heap) (hod : O1 h vd X.c.dims fd) (hom : O3 h vm X.c.maps fm) (hov : O2 h vv X.lv fv) (hf : (fd ++ (fm ++ fv)).Nodup) (hk : 0 ≤ k ∧ 0 ≤ cnt1 X.c.dims ∧ 0 ≤ cntL cnt2 X.c.maps ∧ 0 ≤ cntL cnt1 X.lv ∧ k + cnt1 X.c.dims + cntL cnt2 X.c.maps + cntL cnt1 X.lv ≤ 4611686018427387904) : CallA Try.prog 22 #[.agg #[.int .i64 X.c.p, vd, vm, vv], .int .i64 k] h fun u h' => u = .int .i64 (k + cnt1 X.c.dims + cntL cnt2 X.c.maps + cntL cnt1 X.lv) ∧ O1 h' vd (markI X.c.dims (k)) fd ∧ O3 h' vm (mark3 X.c.maps (k + cnt1 X.c.dims)) fm ∧ O2 h' vv (mark2 X.lv (k + cnt1 X.c.dims + cntL cnt2 X.c.maps)) fv ∧ Chg (fd ++ (fm ++ fv)) h h' := by
 have hF : Fresh 0 (fd ++ (fm ++ fv)) := ⟨hf, fun _ _ => Nat.zero_le _⟩
 have hfd := hF.left
 have hFr0 := hF.right
 have hfm := hFr0.left
 have hfv := hFr0.right
 have ap_d_m := Apart.lft (apart_nodup hF)
 have ap_d_v := Apart.rgt (apart_nodup hF)
 have ap_m_v := apart_nodup hFr0
 have hld := OS.lt hod
 have hlm := OS.lt hom
 have hlv := OS.lt hov
 refine callA_intro TTok (args := [_, _]) Try.func22 (by kernel_rfl) rfl 14 rfl (by simp) [.tmp 4] rfl ?_
 simp only [idxs, Nat.reduceAdd]
 refine den_seq ?_
 refine den_region TTok ?_
 intro K hK
 simp -implicitDefEqProofs (disch := first | decide | assumption | omega) only [go_sem, RdS.len (OS.rd hod) sl22, RdS.idx (OS.rd hod) sl22, R1.intN (OS.rd hod), RdS.cells (OS.rd hod), RdS.len (OS.rd hom) sl23, RdS.idx (OS.rd hom) sl23, RdS.cellN (OS.rd hom), RdS.cells (OS.rd hom), RdS.len (OS.rd hov) sl26, RdS.idx (OS.rd hov) sl26, RdS.cellN (OS.rd hov), RdS.cells (OS.rd hov), wrap_id]
 refine op_box (cs := #[.int .i64 (X.c.p), vd, vm, vv]) rfl ?_
 intro h0_0 e0_0 hb0_0 z0_0
 replace hod := OS.ext hod e0_0
 replace hom := OS.ext hom e0_0
 replace hov := OS.ext hov e0_0
 have := Ext.size e0_0
 have eB := e0_0
 try simp -implicitDefEqProofs (disch := first | decide | assumption | omega) only [go_sem, RdS.len (OS.rd hod) sl22, RdS.idx (OS.rd hod) sl22, R1.intN (OS.rd hod), RdS.cells (OS.rd hod), RdS.len (OS.rd hom) sl23, RdS.idx (OS.rd hom) sl23, RdS.cellN (OS.rd hom), RdS.cells (OS.rd hom), RdS.len (OS.rd hov) sl26, RdS.idx (OS.rd hov) sl26, RdS.cellN (OS.rd hov), RdS.cells (OS.rd hov), BoxAt.cell hb0_0, wrap_id]
 refine hK _ _ ?_
 clear hK K
 refine den_seq ?_
 refine den_region TTok ?_
 intro K hK
 simp -implicitDefEqProofs (disch := first | decide | assumption | omega) only [go_sem, fa33_0, ld31, RdS.len (OS.rd hod) sl22, RdS.idx (OS.rd hod) sl22, R1.intN (OS.rd hod), RdS.cells (OS.rd hod), RdS.len (OS.rd hom) sl23, RdS.idx (OS.rd hom) sl23, RdS.cellN (OS.rd hom), RdS.cells (OS.rd hom), RdS.len (OS.rd hov) sl26, RdS.idx (OS.rd hov) sl26, RdS.cellN (OS.rd hov), RdS.cells (OS.rd hov), BoxAt.cell hb0_0, wrap_id]
 try simp -implicitDefEqProofs (disch := first | decide | assumption | omega) only [go_sem, RdS.len (OS.rd hod) sl22, RdS.idx (OS.rd hod) sl22, R1.intN (OS.rd hod), RdS.cells (OS.rd hod), RdS.len (OS.rd hom) sl23, RdS.idx (OS.rd hom) sl23, RdS.cellN (OS.rd hom), RdS.cells (OS.rd hom), RdS.len (OS.rd hov) sl26, RdS.idx (OS.rd hov) sl26, RdS.cellN (OS.rd hov), RdS.cells (OS.rd hov), BoxAt.cell hb0_0, wrap_id]
 refine CallA.mono (markCx_ok _ _ X.c k _ _ _ hod hom (Fresh.two (lo := 0) hfd hfm ap_d_m (Nat.zero_le _) (Nat.zero_le _)).nodup (by omega)) ?_
 intro v_ h1_3
 rintro ⟨rfl, hnd, hnm, cg0⟩
 replace hod := hnd
 replace hom := hnm
 replace hov := OS.chg hov cg0 (Apart.app (Apart.symm ap_d_v) (Apart.symm ap_m_v))
 replace hb0_0 := BoxAt.chg hb0_0 cg0 (fun hm => by rcases List.mem_append.1 hm with hm | hm <;> first | (have := hld _ hm; omega) | (have := hlm _ hm; omega))
 have hsz0 := cg0.size
 try simp -implicitDefEqProofs (disch := first | decide | assumption | omega) only [go_sem, RdS.len (OS.rd hod) sl22, RdS.idx (OS.rd hod) sl22, R1.intN (OS.rd hod), RdS.cells (OS.rd hod), RdS.len (OS.rd hom) sl23, RdS.idx (OS.rd hom) sl23, RdS.cellN (OS.rd hom), RdS.cells (OS.rd hom), RdS.len (OS.rd hov) sl26, RdS.idx (OS.rd hov) sl26, RdS.cellN (OS.rd hov), RdS.cells (OS.rd hov), BoxAt.cell hb0_0, wrap_id]
 refine hK _ _ ?_
 clear hK K
 refine den_seq ?_
 refine den_region TTok ?_
 intro K hK
 simp -implicitDefEqProofs (disch := first | decide | assumption | omega) only [go_sem, fa33_1, ld26, RdS.len (OS.rd hod) sl22, RdS.idx (OS.rd hod) sl22, R1.intN (OS.rd hod), RdS.cells (OS.rd hod), RdS.len (OS.rd hom) sl23, RdS.idx (OS.rd hom) sl23, RdS.cellN (OS.rd hom), RdS.cells (OS.rd hom), RdS.len (OS.rd hov) sl26, RdS.idx (OS.rd hov) sl26, RdS.cellN (OS.rd hov), RdS.cells (OS.rd hov), BoxAt.cell hb0_0, wrap_id]
 try simp -implicitDefEqProofs (disch := first | decide | assumption | omega) only [go_sem, RdS.len (OS.rd hod) sl22, RdS.idx (OS.rd hod) sl22, R1.intN (OS.rd hod), RdS.cells (OS.rd hod), RdS.len (OS.rd hom) sl23, RdS.idx (OS.rd hom) sl23, RdS.cellN (OS.rd hom), RdS.cells (OS.rd hom), RdS.len (OS.rd hov) sl26, RdS.idx (OS.rd hov) sl26, RdS.cellN (OS.rd hov), RdS.cells (OS.rd hov), BoxAt.cell hb0_0, wrap_id]
 refine CallA.mono (markSS_ok _ X.lv (k + cnt1 X.c.dims + cntL cnt2 X.c.maps) _ _ hov hfv.nodup (by omega)) ?_
 intro v_ h2_3
 rintro ⟨rfl, hnv, cg1⟩
 replace hov := hnv
 replace hod := OS.chg hod cg1 ap_d_v
 replace hom := OS.chg hom cg1 ap_m_v
 replace hb0_0 := BoxAt.chg hb0_0 cg1 (fun hm => by have := hlv _ hm; omega)
 have hsz1 := cg1.size
 try simp -implicitDefEqProofs (disch := first | decide | assumption | omega) only [go_sem, RdS.len (OS.rd hod) sl22, RdS.idx (OS.rd hod) sl22, R1.intN (OS.rd hod), RdS.cells (OS.rd hod), RdS.len (OS.rd hom) sl23, RdS.idx (OS.rd hom) sl23, RdS.cellN (OS.rd hom), RdS.cells (OS.rd hom), RdS.len (OS.rd hov) sl26, RdS.idx (OS.rd hov) sl26, RdS.cellN (OS.rd hov), RdS.cells (OS.rd hov), BoxAt.cell hb0_0, wrap_id]
 refine hK _ _ ?_
 clear hK K
 refine den_seq ?_
 refine den_region TTok ?_
 intro K hK
 simp -implicitDefEqProofs (disch := first | decide | assumption | omega) only [go_sem, RdS.len (OS.rd hod) sl22, RdS.idx (OS.rd hod) sl22, R1.intN (OS.rd hod), RdS.cells (OS.rd hod), RdS.len (OS.rd hom) sl23, RdS.idx (OS.rd hom) sl23, RdS.cellN (OS.rd hom), RdS.cells (OS.rd hom), RdS.len (OS.rd hov) sl26, RdS.idx (OS.rd hov) sl26, RdS.cellN (OS.rd hov), RdS.cells (OS.rd hov), BoxAt.cell hb0_0, wrap_id]
 refine hK _ _ ?_
 clear hK K
 refine den_ret ?_
 simp (disch := decide) only [resP_1, puts_same, puts_ne]
 exact ⟨by first | rfl | trivial, hod, hom, hov, (((eB.chg _).trans (cg0.mono (fun b hb => by grind))).trans (cg1.mono (fun b hb => by grind)))⟩

set_option maxRecDepth 100000 in
theorem heldF_ok (vd vm vv : Value) (X : Fl) (k : Int) (h : Heap) (rd : R1 h vd (markI X.c.dims (k))) (rm : R3 h vm (mark3 X.c.maps (k + cnt1 X.c.dims))) (rv : R2 h vv (mark2 X.lv (k + cnt1 X.c.dims + cntL cnt2 X.c.maps))) (hk : 0 ≤ k ∧ 0 ≤ cnt1 X.c.dims ∧ 0 ≤ cntL cnt2 X.c.maps ∧ 0 ≤ cntL cnt1 X.lv ∧ k + cnt1 X.c.dims + cntL cnt2 X.c.maps + cntL cnt1 X.lv ≤ 4611686018427387904) : CallA Try.prog 23 #[.agg #[.int .i64 X.c.p, vd, vm, vv], .int .i64 k] h fun u h' => u = .int .i64 (k + cnt1 X.c.dims + cntL cnt2 X.c.maps + cntL cnt1 X.lv) ∧ Ext h h' := by
 refine callA_intro TTok (args := [_, _]) Try.func23 (by kernel_rfl) rfl 18 rfl (by simp) [.tmp 4] rfl ?_
 simp only [idxs, Nat.reduceAdd]
 refine den_seq ?_
 refine den_region TTok ?_
 intro K hK
 simp -implicitDefEqProofs (disch := first | decide | assumption | omega) only [go_sem, RdS.len rd sl22, RdS.idx rd sl22, R1.intB rd (HPres.refl _), RdS.cells rd, RdS.len rm sl23, RdS.idx rm sl23, RdS.cellB rm (HPres.refl _), RdS.cells rm, RdS.len rv sl26, RdS.idx rv sl26, RdS.cellB rv (HPres.refl _), RdS.cells rv, wrap_id]
 refine op_box (cs := #[.int .i64 (X.c.p), vd, vm, vv]) rfl ?_
 intro h0_0 e0_0 hb0_0 z0_0
 replace rd := RdS.pres rd (Ext.pres e0_0)
 replace rm := RdS.pres rm (Ext.pres e0_0)
 replace rv := RdS.pres rv (Ext.pres e0_0)
 try simp -implicitDefEqProofs (disch := first | decide | assumption | omega) only [go_sem, RdS.len rd sl22, RdS.idx rd sl22, R1.intB rd (HPres.refl _), RdS.cells rd, RdS.len rm sl23, RdS.idx rm sl23, RdS.cellB rm (HPres.refl _), RdS.cells rm, RdS.len rv sl26, RdS.idx rv sl26, RdS.cellB rv (HPres.refl _), RdS.cells rv, BoxAt.cell hb0_0, wrap_id]
 refine hK _ _ ?_
 clear hK K
 refine den_seq ?_
 refine den_region TTok ?_
 intro K hK
 simp -implicitDefEqProofs (disch := first | decide | assumption | omega) only [go_sem, fa33_0, ld31, RdS.len rd sl22, RdS.idx rd sl22, R1.intB rd (HPres.refl _), RdS.cells rd, RdS.len rm sl23, RdS.idx rm sl23, RdS.cellB rm (HPres.refl _), RdS.cells rm, RdS.len rv sl26, RdS.idx rv sl26, RdS.cellB rv (HPres.refl _), RdS.cells rv, BoxAt.cell hb0_0, wrap_id]
 try simp -implicitDefEqProofs (disch := first | decide | assumption | omega) only [go_sem, RdS.len rd sl22, RdS.idx rd sl22, R1.intB rd (HPres.refl _), RdS.cells rd, RdS.len rm sl23, RdS.idx rm sl23, RdS.cellB rm (HPres.refl _), RdS.cells rm, RdS.len rv sl26, RdS.idx rv sl26, RdS.cellB rv (HPres.refl _), RdS.cells rv, BoxAt.cell hb0_0, wrap_id]
 refine CallA.mono (heldCx_ok _ _ X.c k _ rd rm (by omega)) ?_
 intro v_ h1_3
 rintro ⟨rfl, e1_3⟩
 have := Ext.size e1_3
 have eB := e1_3
 try simp -implicitDefEqProofs (disch := first | decide | assumption | omega) only [go_sem, RdS.len rd sl22, RdS.idx rd sl22, R1.intB rd (Ext.pres eB), RdS.cells rd, RdS.len rm sl23, RdS.idx rm sl23, RdS.cellB rm (Ext.pres eB), RdS.cells rm, RdS.len rv sl26, RdS.idx rv sl26, RdS.cellB rv (Ext.pres eB), RdS.cells rv, BoxAt.cellB hb0_0 eB, wrap_id]
 refine hK _ _ ?_
 clear hK K
 refine den_seq ?_
 refine den_seq ?_
 refine den_region TTok ?_
 intro K hK
 simp -implicitDefEqProofs (disch := first | decide | assumption | omega) only [go_sem, RdS.len rd sl22, RdS.idx rd sl22, R1.intB rd (Ext.pres eB), RdS.cells rd, RdS.len rm sl23, RdS.idx rm sl23, RdS.cellB rm (Ext.pres eB), RdS.cells rm, RdS.len rv sl26, RdS.idx rv sl26, RdS.cellB rv (Ext.pres eB), RdS.cells rv, BoxAt.cellB hb0_0 eB, wrap_id]
 refine hK _ _ ?_
 clear hK K
 refine den_cond rfl (fun c0 => ?_) (fun c0 => ?_)
 ·try simp only [decide_eq_true_eq, decide_eq_false_iff_not, beq_iff_eq, beq_eq_false_iff_ne, bne_iff_ne, ne_eq, Bool.not_eq_true', Bool.not_eq_false', Bool.and_eq_true, Bool.or_eq_true, bne_eq_false_iff_eq] at c0
  refine den_seq ?_
  refine den_region TTok ?_
  intro K hK
  simp -implicitDefEqProofs (disch := first | decide | assumption | omega) only [go_sem, RdS.len rd sl22, RdS.idx rd sl22, R1.intB rd (Ext.pres eB), RdS.cells rd, RdS.len rm sl23, RdS.idx rm sl23, RdS.cellB rm (Ext.pres eB), RdS.cells rm, RdS.len rv sl26, RdS.idx rv sl26, RdS.cellB rv (Ext.pres eB), RdS.cells rv, BoxAt.cellB hb0_0 eB, wrap_id]
  refine hK _ _ ?_
  clear hK K
  refine den_ret ?_
  simp (disch := decide) only [resP_1, puts_same, puts_ne]
  exact absurd c0 (by omega)
 ·try simp only [decide_eq_true_eq, decide_eq_false_iff_not, beq_iff_eq, beq_eq_false_iff_ne, bne_iff_ne, ne_eq, Bool.not_eq_true', Bool.not_eq_false', Bool.and_eq_true, Bool.or_eq_true, bne_eq_false_iff_eq] at c0
  refine den_skip ?_
  refine den_seq ?_
  refine den_region TTok ?_
  intro K hK
  simp -implicitDefEqProofs (disch := first | decide | assumption | omega) only [go_sem, fa33_1, ld26, RdS.len rd sl22, RdS.idx rd sl22, R1.intB rd (Ext.pres eB), RdS.cells rd, RdS.len rm sl23, RdS.idx rm sl23, RdS.cellB rm (Ext.pres eB), RdS.cells rm, RdS.len rv sl26, RdS.idx rv sl26, RdS.cellB rv (Ext.pres eB), RdS.cells rv, BoxAt.cellB hb0_0 eB, wrap_id]
  try simp -implicitDefEqProofs (disch := first | decide | assumption | omega) only [go_sem, RdS.len rd sl22, RdS.idx rd sl22, R1.intB rd (Ext.pres eB), RdS.cells rd, RdS.len rm sl23, RdS.idx rm sl23, RdS.cellB rm (Ext.pres eB), RdS.cells rm, RdS.len rv sl26, RdS.idx rv sl26, RdS.cellB rv (Ext.pres eB), RdS.cells rv, BoxAt.cellB hb0_0 eB, wrap_id]
  refine CallA.pure (heldSS_ok _ X.lv (k + cnt1 X.c.dims + cntL cnt2 X.c.maps) _ (RdS.pres rv (Ext.pres eB)) (by omega)) ?_
  try simp -implicitDefEqProofs (disch := first | decide | assumption | omega) only [go_sem, RdS.len rd sl22, RdS.idx rd sl22, R1.intB rd (Ext.pres eB), RdS.cells rd, RdS.len rm sl23, RdS.idx rm sl23, RdS.cellB rm (Ext.pres eB), RdS.cells rm, RdS.len rv sl26, RdS.idx rv sl26, RdS.cellB rv (Ext.pres eB), RdS.cells rv, BoxAt.cellB hb0_0 eB, wrap_id]
  refine hK _ _ ?_
  clear hK K
  refine den_seq ?_
  refine den_seq ?_
  refine den_region TTok ?_
  intro K hK
  simp -implicitDefEqProofs (disch := first | decide | assumption | omega) only [go_sem, RdS.len rd sl22, RdS.idx rd sl22, R1.intB rd (Ext.pres eB), RdS.cells rd, RdS.len rm sl23, RdS.idx rm sl23, RdS.cellB rm (Ext.pres eB), RdS.cells rm, RdS.len rv sl26, RdS.idx rv sl26, RdS.cellB rv (Ext.pres eB), RdS.cells rv, BoxAt.cellB hb0_0 eB, wrap_id]
  refine hK _ _ ?_
  clear hK K
  refine den_cond rfl (fun c1 => ?_) (fun c1 => ?_)
  ·try simp only [decide_eq_true_eq, decide_eq_false_iff_not, beq_iff_eq, beq_eq_false_iff_ne, bne_iff_ne, ne_eq, Bool.not_eq_true', Bool.not_eq_false', Bool.and_eq_true, Bool.or_eq_true, bne_eq_false_iff_eq] at c1
   refine den_seq ?_
   refine den_region TTok ?_
   intro K hK
   simp -implicitDefEqProofs (disch := first | decide | assumption | omega) only [go_sem, RdS.len rd sl22, RdS.idx rd sl22, R1.intB rd (Ext.pres eB), RdS.cells rd, RdS.len rm sl23, RdS.idx rm sl23, RdS.cellB rm (Ext.pres eB), RdS.cells rm, RdS.len rv sl26, RdS.idx rv sl26, RdS.cellB rv (Ext.pres eB), RdS.cells rv, BoxAt.cellB hb0_0 eB, wrap_id]
   refine hK _ _ ?_
   clear hK K
   refine den_ret ?_
   simp (disch := decide) only [resP_1, puts_same, puts_ne]
   exact absurd c1 (by omega)
  ·try simp only [decide_eq_true_eq, decide_eq_false_iff_not, beq_iff_eq, beq_eq_false_iff_ne, bne_iff_ne, ne_eq, Bool.not_eq_true', Bool.not_eq_false', Bool.and_eq_true, Bool.or_eq_true, bne_eq_false_iff_eq] at c1
   refine den_skip ?_
   refine den_seq ?_
   refine den_region TTok ?_
   intro K hK
   simp -implicitDefEqProofs (disch := first | decide | assumption | omega) only [go_sem, RdS.len rd sl22, RdS.idx rd sl22, R1.intB rd (Ext.pres eB), RdS.cells rd, RdS.len rm sl23, RdS.idx rm sl23, RdS.cellB rm (Ext.pres eB), RdS.cells rm, RdS.len rv sl26, RdS.idx rv sl26, RdS.cellB rv (Ext.pres eB), RdS.cells rv, BoxAt.cellB hb0_0 eB, wrap_id]
   refine hK _ _ ?_
   clear hK K
   refine den_ret ?_
   simp (disch := decide) only [resP_1, puts_same, puts_ne]
   exact ⟨by first | rfl | trivial, (Ext.trans e0_0 eB)⟩

open Go.ChangeShapes Go.WideShapes Go.ChangeAt Go.RowKit Go.Joins
set_option maxRecDepth 100000 in
theorem open_fl {H : Type} {enc : TypeId × Value → H} {w : World} {base : Nat} {spare : Nat → Bool} {held : Bool} {r : Reach} {b0 : Nat} {v : Value} {d : DataW H} {p : List MemPlace}
  (hv : Value.okWide Try.prog w r b0 28 v) (h : DataW.Trod enc Try.prog w base spare held 28 v d p) : ∃ X, RF w.heap v X := by
 obtain ⟨cs, rfl, hsz⟩ := okWide_struct Try.underlying28 hv
 have hc : Try.prog.cellsOf 28 = 4 := by kernel_rfl
 obtain ⟨c0, c1, c2, c3, rfl⟩ := array4 (hsz.trans hc)
 obtain ⟨fuel, hf⟩ := h
 obtain ⟨y0, y1, n, _, _, h0, h1⟩ := trod_struct2 Try.underlying28 hf
 have kc : Try.prog.cellsOf 25 = 3 := by kernel_rfl
 have ki : Try.prog.cellsOf 2 = 1 := by kernel_rfl
 have k1 : Try.prog.cellsOf 22 = 1 := by kernel_rfl
 have k2 : Try.prog.cellsOf 26 = 1 := by kernel_rfl
 have k3 : Try.prog.cellsOf 23 = 1 := by kernel_rfl
 simp only [kc, k2, Value.cells, List.drop_zero, List.drop_succ_cons, List.take_succ_cons, List.take_zero] at h0 h1
 obtain ⟨z0, z1, z2, m, _, _, g0, g1, g2⟩ := Go.Deep.trod_struct3 Try.underlying25 h0
 simp only [ki, k1, k3, List.drop_zero, List.drop_succ_cons, List.take_succ_cons, List.take_zero] at g0 g1 g2
 obtain ⟨u0, a0, e0, q0⟩ := opens_int Try.underlying2 _ _ _ _ _ _ _ _ _ g0
 obtain ⟨u1, a1, e1, q1⟩ := opens1 _ _ _ _ _ _ _ _ _ g1
 obtain ⟨u2, a2, e2, q2⟩ := opens3 _ _ _ _ _ _ _ _ _ g2
 obtain ⟨u3, a3, e3, q3⟩ := opens2 _ _ _ _ _ _ _ _ _ h1
 injection e0 with e0
 injection e1 with e1
 injection e2 with e2
 injection e3 with e3
 subst e0; subst e1; subst e2; subst e3
 exact ⟨⟨⟨a0, a1, a2⟩, a3⟩, _, _, _, by rw [show c0 = .int .i64 a0 from q0], q1, q2, q3⟩
end Go.Proofs.Ytjjjgllbocgkbaa

namespace Go.Proofs.Ytjjjgllbocgkbaa
open Go
abbrev M3 := List (List (List Int))
/-- A number is added at a place, modulo p. -/
def upd3 (p : Int) (M : M3) (k r c : Nat) (x : Int) : M3 := M.set k ((M.getD k default).set r (((M.getD k default).getD r default).set c ((((M.getD k default).getD r default).getD c 0 + x) % p)))
def get3 (M : M3) (k r c : Nat) : Int := ((M.getD k default).getD r default).getD c 0
/-- How long a table of tables is, row by row. -/
structure Sh (L : Nat) (A B : Nat → Nat) (M : M3) : Prop where
 len : M.length = L
 rows : ∀ k, k < L → (M.getD k default).length = A k
 cols : ∀ k r, k < L → r < A k → ((M.getD k default).getD r default).length = B k
theorem getD_set {α : Type} {xs : List α} {k j : Nat} {x d : α} (h : k < xs.length) : (xs.set k x).getD j d = if k = j then x else xs.getD j d := by
 simp only [List.getD_eq_getElem?_getD, List.getElem?_set]
 split
 ·rename_i e; subst e; first | rfl | (rw [if_pos h]; rfl)
 ·rfl
theorem upd3_sh {L : Nat} {A B : Nat → Nat} {M : M3} {p x : Int} {k r c : Nat} (s : Sh L A B M) (hk : k < L) (hr : r < A k) : Sh L A B (upd3 p M k r c x) := by
 have hk' : k < M.length := by have := s.len; omega
 have hr' : r < (M.getD k default).length := by have := s.rows k hk; omega
 refine ⟨by rw [upd3, List.length_set]; exact s.len, fun j hj => ?_, fun j q hj hq => ?_⟩
 ·rw [upd3, getD_set hk']
  split
  ·rename_i e; subst e; rw [List.length_set]; exact s.rows _ hk
  ·exact s.rows j hj
 ·rw [upd3, getD_set hk']
  split
  ·rename_i e; subst e
   rw [getD_set hr']
   split
   ·rename_i e; subst e; rw [List.length_set]; exact s.cols _ _ hk hr
   ·exact s.cols _ q hj hq
  ·exact s.cols j q hj hq
theorem upd3_get {L : Nat} {A B : Nat → Nat} {M : M3} {p x : Int} {k r c : Nat} (s : Sh L A B M) (hk : k < L) (hr : r < A k) (hc : c < B k) (k' r' c' : Nat) : get3 (upd3 p M k r c x) k' r' c' = if (k, r, c) = (k', r', c') then (get3 M k' r' c' + x) % p else get3 M k' r' c' := by
 have hk' : k < M.length := by have := s.len; omega
 have hr' : r < (M.getD k default).length := by have := s.rows k hk; omega
 have hc' : c < ((M.getD k default).getD r default).length := by have := s.cols k r hk hr; omega
 by_cases e1 : k = k'
 ·subst e1
  by_cases e2 : r = r'
  ·subst e2
   by_cases e3 : c = c'
   ·subst e3
    simp only [get3, upd3, getD_set hk', getD_set hr', getD_set hc', if_true]
   ·rw [if_neg (by simp [e3])]
    simp only [get3, upd3, getD_set hk', getD_set hr', getD_set hc', if_true, if_neg e3]
  ·rw [if_neg (by simp [e2])]
   simp only [get3, upd3, getD_set hk', getD_set hr', if_true, if_neg e2]
 ·rw [if_neg (by simp [e1])]
  simp only [get3, upd3, getD_set hk', if_neg e1]
theorem Sh.ext {L : Nat} {A B : Nat → Nat} {M N : M3} (s : Sh L A B M) (t : Sh L A B N) (h : ∀ k r c, k < L → r < A k → c < B k → get3 M k r c = get3 N k r c) : M = N := by
 have g3 : ∀ {α : Type} [Inhabited α] {xs ys : List α}, xs.length = ys.length → (∀ i, i < xs.length → xs.getD i default = ys.getD i default) → xs = ys := by
  intro α _ xs ys hl hh
  apply List.ext_getElem hl
  intro i h1 h2
  have := hh i h1
  rwa [List.getD_eq_getElem?_getD, List.getD_eq_getElem?_getD, List.getElem?_eq_getElem h1, List.getElem?_eq_getElem h2] at this
 refine g3 (by rw [s.len, t.len]) (fun k hk => ?_)
 rw [s.len] at hk
 refine g3 (by rw [s.rows k hk, t.rows k hk]) (fun r hr => ?_)
 rw [s.rows k hk] at hr
 refine g3 (by rw [s.cols k r hk hr, t.cols k r hk hr]) (fun c hc => ?_)
 rw [s.cols k r hk hr] at hc
 exact h k r c hk hr hc
def In3 (p : Int) (L : Nat) (A B : Nat → Nat) (M : M3) : Prop := ∀ k r c, k < L → r < A k → c < B k → 0 ≤ get3 M k r c ∧ get3 M k r c < p
abbrev Upd := (Nat × Nat × Nat) × Int
def applyU (p : Int) : M3 → List Upd → M3
 | M, [] => M
 | M, u :: l => applyU p (upd3 p M u.1.1 u.1.2.1 u.1.2.2 u.2) l
theorem applyU_app (p : Int) : ∀ (l m : List Upd) (M : M3), applyU p M (l ++ m) = applyU p (applyU p M l) m
 | [], _, _ => rfl
 | u :: l, m, M => by rw [List.cons_append, applyU, applyU, applyU_app p l m]
/-- What the updates of a list bring to a place. -/
def sumT (t : Nat × Nat × Nat) : List Upd → Int
 | [] => 0
 | u :: l => (if u.1 = t then u.2 else 0) + sumT t l
theorem sumT_app (t : Nat × Nat × Nat) : ∀ l m : List Upd, sumT t (l ++ m) = sumT t l + sumT t m
 | [], m => by simp [sumT]
 | u :: l, m => by rw [List.cons_append, sumT, sumT, sumT_app t l m, Int.add_assoc]
def InU (L : Nat) (A B : Nat → Nat) (u : Upd) : Prop := u.1.1 < L ∧ u.1.2.1 < A u.1.1 ∧ u.1.2.2 < B u.1.1
theorem applyU_sh {L : Nat} {A B : Nat → Nat} {p : Int} : ∀ {l : List Upd} {M : M3}, Sh L A B M → (∀ u ∈ l, InU L A B u) → Sh L A B (applyU p M l)
 | [], _, s, _ => s
 | u :: l, M, s, h => by
  rw [applyU]
  exact applyU_sh (upd3_sh s (h u (by simp)).1 (h u (by simp)).2.1) (fun v hv => h v (List.mem_cons_of_mem _ hv))
theorem upd3_in {L : Nat} {A B : Nat → Nat} {p : Int} {M : M3} {u : Upd} (hp : 0 < p) (s : Sh L A B M) (hi : In3 p L A B M) (hu : InU L A B u) : In3 p L A B (upd3 p M u.1.1 u.1.2.1 u.1.2.2 u.2) := by
 intro k r c h1 h2 h3
 rw [upd3_get s hu.1 hu.2.1 hu.2.2]
 split
 ·exact ⟨Int.emod_nonneg _ (by omega), Int.emod_lt_of_pos _ hp⟩
 ·exact hi k r c h1 h2 h3
theorem applyU_in {L : Nat} {A B : Nat → Nat} {p : Int} (hp : 0 < p) : ∀ {l : List Upd} {M : M3}, Sh L A B M → In3 p L A B M → (∀ u ∈ l, InU L A B u) → In3 p L A B (applyU p M l)
 | [], _, _, hi, _ => hi
 | u :: l, M, s, hi, h => by
  rw [applyU]
  exact applyU_in hp (upd3_sh s (h u (by simp)).1 (h u (by simp)).2.1) (upd3_in hp s hi (h u (by simp))) (fun v hv => h v (List.mem_cons_of_mem _ hv))
theorem applyU_get {L : Nat} {A B : Nat → Nat} {p : Int} (hp : 0 < p) {k r c : Nat} (h1 : k < L) (h2 : r < A k) (h3 : c < B k) : ∀ {l : List Upd} {M : M3}, Sh L A B M → In3 p L A B M → (∀ u ∈ l, InU L A B u) → get3 (applyU p M l) k r c = (get3 M k r c + sumT (k, r, c) l) % p
 | [], M, s, hi, _ => by
  have := hi k r c h1 h2 h3
  rw [applyU, sumT, Int.add_zero, Int.emod_eq_of_lt this.1 this.2]
 | u :: l, M, s, hi, h => by
  have hu := h u (by simp)
  rw [applyU, applyU_get hp h1 h2 h3 (upd3_sh s hu.1 hu.2.1) (upd3_in hp s hi hu) (fun v hv => h v (List.mem_cons_of_mem _ hv)), upd3_get s hu.1 hu.2.1 hu.2.2, sumT]
  by_cases e : u.1 = (k, r, c)
  ·rw [if_pos (show (u.1.1, u.1.2.1, u.1.2.2) = (k, r, c) from e), if_pos e, Int.emod_add_emod]
   congr 1; omega
  ·rw [if_neg (show ¬ (u.1.1, u.1.2.1, u.1.2.2) = (k, r, c) from e), if_neg e, Int.zero_add]
-- the updates of all numbers of a complex's maps
abbrev UF := Nat → Nat → Nat → Int → List Upd
def uJ (U : UF) (k i : Nat) (row : List Int) : Nat → List Upd
 | 0 => []
 | m + 1 => uJ U k i row m ++ U k i m (row.getD m 0)
def uI (U : UF) (k : Nat) (R : List (List Int)) : Nat → List Upd
 | 0 => []
 | m + 1 => uI U k R m ++ uJ U k m (R.getD m default) (R.getD m default).length
def uK (U : UF) (M : M3) : Nat → List Upd
 | 0 => []
 | m + 1 => uK U M m ++ uI U m (M.getD m default) (M.getD m default).length
/-- An element of a nested row of one's own. -/
theorem OS.row2 {h : Heap} {vm : Value} {M : M3} {f : List Nat} (hm : O3 h vm M f) (hn : f.Nodup) {k r : Nat} (hk : k < M.length) (hr : r < (M.getD k default).length) :
  ∃ f2, O1 h (rowV h (rowV h vm k) r) ((M.getD k default).getD r default) f2 ∧ f2.Nodup ∧ (∀ b ∈ f2, b ∈ f) ∧ ∀ h' x', Chg f2 h h' → O1 h' (rowV h (rowV h vm k) r) x' f2 → O3 h' vm (M.set k ((M.getD k default).set r x')) f := by
 obtain ⟨f1, hE1, hs1, hn1, hb1⟩ := OS.elem hm hn k hk
 obtain ⟨f2, hE2, hs2, hn2, hb2⟩ := OS.elem hE1 hn1 r hr
 exact ⟨f2, hE2, hn2, fun b hb => hs1 b (hs2 b hb), fun h' x' c o => hb1 h' _ (c.mono hs2) (hb2 h' _ c o)⟩

set_option maxRecDepth 100000 in
theorem addAt_ok (p : Int) (vd vm : Value) (D : List Int) (M : M3) (f : List Nat) (n r c x : Int) (h : Heap) (rd : R1 h vd D) (hom : O3 h vm M f) (hn : f.Nodup) (hp : 0 < p ∧ p ≤ 7) (h1 : 1 ≤ n ∧ n ≤ M.length) (h2 : 0 ≤ r ∧ r < (M.getD (n - 1).toNat default).length) (h3 : 0 ≤ c ∧ c < ((M.getD (n - 1).toNat default).getD r.toNat default).length) (hc : 0 ≤ get3 M (n - 1).toNat r.toNat c.toNat ∧ get3 M (n - 1).toNat r.toNat c.toNat < p) (hx : -7 ≤ x ∧ x ≤ 7) : CallA Try.prog 86 #[.agg #[.int .i64 p, vd, vm], .int .i64 n, .int .i64 r, .int .i64 c, .int .i64 x] h fun v' h' => v' = .tuple #[] ∧ O3 h' vm (upd3 p M (n - 1).toNat r.toNat c.toNat x) f ∧ Chg f h h' := by
 have hleM := OS.len_le hom
 unfold get3 at hc
 refine callA_intro TTok (args := [_, _, _, _, _]) Try.func86 (by kernel_rfl) rfl 38 rfl (by simp) [] rfl ?_
 simp only [idxs, Nat.reduceAdd]
 refine den_seq ?_
 refine den_region TTok ?_
 intro K hK
 simp -implicitDefEqProofs (disch := first | decide | assumption | omega) only [go_sem, RdS.len rd sl22, RdS.idx rd sl22, R1.intB rd (HPres.refl _), RdS.cells rd, RdS.len (OS.rd hom) sl23, RdS.idx (OS.rd hom) sl23, RdS.cellN (OS.rd hom), RdS.cells (OS.rd hom), wrap_id]
 refine op_box (cs := #[.int .i64 (p), vd, vm]) rfl ?_
 intro h0_0 e0_0 hb0_0 z0_0
 replace hom := OS.ext hom e0_0
 have := Ext.size e0_0
 have eB := e0_0
 try simp -implicitDefEqProofs (disch := first | decide | assumption | omega) only [go_sem, RdS.len rd sl22, RdS.idx rd sl22, R1.intB rd (Ext.pres eB), RdS.cells rd, RdS.len (OS.rd hom) sl23, RdS.idx (OS.rd hom) sl23, RdS.cellN (OS.rd hom), RdS.cells (OS.rd hom), BoxAt.cell hb0_0, wrap_id]
 refine hK _ _ ?_
 clear hK K
 refine den_seq ?_
 have hr1 := RdS.rowN (OS.rd hom) (n - 1).toNat (by omega)
 have hr2 := RdS.rowN hr1 r.toNat (by omega)
 obtain ⟨f2, hE, hn2, hs2, hbk⟩ := OS.row2 hom hn (k := (n - 1).toNat) (r := r.toNat) (by omega) (by omega)
 refine den_region TTok ?_
 intro K hK
 simp -implicitDefEqProofs (disch := first | decide | assumption | omega) only [go_sem, fa31_2, ld23, ld26, ld22, RdS.len rd sl22, RdS.idx rd sl22, R1.intB rd (Ext.pres eB), RdS.cells rd, RdS.len (OS.rd hom) sl23, RdS.idx (OS.rd hom) sl23, RdS.cellN (OS.rd hom), RdS.cells (OS.rd hom), BoxAt.cell hb0_0, wrap_id, RdS.idx hr1 sl26, RdS.cellN hr1, RdS.idx hr2 sl22]
 refine hK _ _ ?_
 clear hK K
 have htm := tmod_in (x := ((M.getD (n - 1).toNat default).getD r.toNat default).getD c.toNat 0 + x) hp.1
 refine den_draw TTok mixed [16] [(0, true), (1, true), (2, true), (3, true), (4, true), (5, true), (6, true), (7, true), (8, true), (9, true), (10, true), (11, true), (12, true), (13, true), (14, true), (15, true), (16, false)] (by kernel_rfl) ?_
 intro K hK
 simp -implicitDefEqProofs (disch := first | decide | assumption | omega) only [go_sem, fa31_0, ld2, RdS.len rd sl22, RdS.idx rd sl22, R1.intB rd (Ext.pres eB), RdS.cells rd, RdS.len (OS.rd hom) sl23, RdS.idx (OS.rd hom) sl23, RdS.cellN (OS.rd hom), RdS.cells (OS.rd hom), BoxAt.cell hb0_0, wrap_id, R1.intN hr2]
 refine op_store1 (j := c.toNat) st2 hE hn2 (by omega) rfl rfl ?_
 intro h16 hE2 c16
 rw [mod_twice hp.1] at hE2
 have hom2 := hbk _ _ c16 hE2
 try simp (disch := decide) only [outv_some, outv_none, put_puts]
 refine plK_last (by decide) ?_
 try simp -implicitDefEqProofs (disch := first | decide | assumption | omega) only [go_sem, RdS.len rd sl22, RdS.idx rd sl22, R1.intB rd (Ext.pres eB), RdS.cells rd, RdS.len (OS.rd hom) sl23, RdS.idx (OS.rd hom) sl23, RdS.cellN (OS.rd hom), RdS.cells (OS.rd hom), BoxAt.cell hb0_0, wrap_id, R1.intN hr2]
 refine hK _ _ ?_
 clear hK K
 refine den_nil ?_
 simp (disch := decide) only [resP_0, puts_same, puts_ne]
 exact ⟨by first | rfl | trivial, hom2, (eB.chg _).trans (c16.mono hs2)⟩

set_option maxRecDepth 100000 in
theorem each_ok (p : Int) (Rel : M3 → Heap → Prop) (U : UF) (fpC : List Nat) (g : FuncId) (cs : Array Value) (X : Cx) (vd vm : Value) (h0 : Heap) (hd : R1 h0 vd X.dims) (hm : R3 h0 vm X.maps) (s0 : M3) (h : Heap) (hR : Rel s0 h) (hRe : ∀ s H H', Rel s H → Ext H H' → Rel s H') (hR0 : ∀ s H, Rel s H → Ext h0 H) (hfp : ∀ b ∈ fpC, b < h.size) (hst : ∀ s H k i j, k < X.maps.length → i < (X.maps.getD k default).length → j < ((X.maps.getD k default).getD i default).length → Rel s H → CallA Try.prog g (#[.int .i64 ((k : Int) + 1), .int .i64 (i : Int), .int .i64 (j : Int), .int .i64 (((X.maps.getD k default).getD i default).getD j 0)] ++ cs) H fun u H' => Rel (applyU p s (U k i j (((X.maps.getD k default).getD i default).getD j 0))) H' ∧ Chg fpC H H') : CallA Try.prog 75 #[.agg #[.int .i64 X.p, vd, vm], .func (.func g) #[] cs] h fun v' h' => v' = .tuple #[] ∧ Rel (applyU p s0 (uK U X.maps X.maps.length)) h' ∧ Chg fpC h h' := by
 have hle := RdS.le hd
 have hlm := RdS.le hm
 have eB := hR0 _ _ hR
 refine callA_intro TTok (args := [_, _]) Try.func75 (by kernel_rfl) rfl 42 rfl (by simp) [] rfl ?_
 simp only [idxs, Nat.reduceAdd]
 refine den_seq ?_
 refine den_region TTok ?_
 intro K hK
 simp -implicitDefEqProofs (disch := first | decide | assumption | omega) only [go_sem, RdS.len hd sl22, RdS.idx hd sl22, R1.intB hd (Ext.pres eB), RdS.cells hd, RdS.len hm sl23, RdS.idx hm sl23, RdS.cellB hm (Ext.pres eB), RdS.cells hm, wrap_id]
 refine op_box (cs := #[.int .i64 (X.p), vd, vm]) rfl ?_
 intro h0_0 e0_0 hb0_0 z0_0
 have := Ext.size e0_0
 replace eB := Ext.trans eB e0_0
 try simp -implicitDefEqProofs (disch := first | decide | assumption | omega) only [go_sem, RdS.len hd sl22, RdS.idx hd sl22, R1.intB hd (Ext.pres eB), RdS.cells hd, RdS.len hm sl23, RdS.idx hm sl23, RdS.cellB hm (Ext.pres eB), RdS.cells hm, BoxAt.cell hb0_0, wrap_id]
 refine hK _ _ ?_
 clear hK K
 refine den_seq ?_
 refine den_region TTok ?_
 intro K hK
 simp -implicitDefEqProofs (disch := first | decide | assumption | omega) only [go_sem, fa31_2, ld23, RdS.len hd sl22, RdS.idx hd sl22, R1.intB hd (Ext.pres eB), RdS.cells hd, RdS.len hm sl23, RdS.idx hm sl23, RdS.cellB hm (Ext.pres eB), RdS.cells hm, BoxAt.cell hb0_0, wrap_id]
 refine hK _ _ ?_
 clear hK K
 refine den_block ?_
 refine den_sel [13, 1, 11, 12] ?_
 intro env_1
 simp only [go_sem]
 refine den_loopS (σ := Nat) (fun s => [(13, .int .i64 (s : Int))]) (fun s H => Ext h0 H ∧ s ≤ X.maps.length ∧ Rel (applyU p s0 (uK U X.maps s)) H ∧ Chg fpC h H ∧ BoxAt H h.size #[.int .i64 X.p, vd, vm] 31) (fun s => X.maps.length - s) 0 ?_ ?_
 ·exact ⟨eB, by omega, hRe _ _ _ hR e0_0, Ext.chg e0_0 _, hb0_0⟩
 ·rintro k h4 ee3 ⟨eB, hk, hR, hch, hb⟩
  simp only [List.cons_append, List.nil_append]
  have := Ext.size eB
  refine den_seq ?_
  refine den_region TTok ?_
  intro K hK
  simp -implicitDefEqProofs (disch := first | decide | assumption | omega) only [go_sem, RdS.len hd sl22, RdS.idx hd sl22, R1.intB hd (Ext.pres eB), RdS.cells hd, RdS.len hm sl23, RdS.idx hm sl23, RdS.cellB hm (Ext.pres eB), RdS.cells hm, BoxAt.cell hb, wrap_id]
  refine hK _ _ ?_
  clear hK K
  refine den_seq ?_
  refine den_cond rfl (fun c0 => ?_) (fun c0 => ?_)
  ·try simp only [decide_eq_true_eq, decide_eq_false_iff_not, beq_iff_eq, beq_eq_false_iff_ne, bne_iff_ne, ne_eq, Bool.not_eq_true', Bool.not_eq_false', Bool.and_eq_true, Bool.or_eq_true, bne_eq_false_iff_eq] at c0
   refine den_skip ?_
   refine den_seq ?_
   refine den_block ?_
   refine den_seq ?_
   refine den_region TTok ?_
   intro K hK
   have hr5 := RdS.rowN hm k (by omega)
   have hlhr5 := RdS.le hr5
   simp -implicitDefEqProofs (disch := first | decide | assumption | omega) only [go_sem, ld26, RdS.len hd sl22, RdS.idx hd sl22, R1.intB hd (Ext.pres eB), RdS.cells hd, RdS.len hm sl23, RdS.idx hm sl23, RdS.cellB hm (Ext.pres eB), RdS.cells hm, RdS.len hr5 sl26, RdS.idx hr5 sl26, RdS.cellB hr5 (Ext.pres eB), RdS.cells hr5, BoxAt.cell hb, wrap_id]
   refine hK _ _ ?_
   clear hK K
   refine den_seq ?_
   refine den_region TTok ?_
   intro K hK
   simp -implicitDefEqProofs (disch := first | decide | assumption | omega) only [go_sem, RdS.len hd sl22, RdS.idx hd sl22, R1.intB hd (Ext.pres eB), RdS.cells hd, RdS.len hm sl23, RdS.idx hm sl23, RdS.cellB hm (Ext.pres eB), RdS.cells hm, RdS.len hr5 sl26, RdS.idx hr5 sl26, RdS.cellB hr5 (Ext.pres eB), RdS.cells hr5, BoxAt.cell hb, wrap_id]
   refine hK _ _ ?_
   clear hK K
   refine den_block ?_
   refine den_sel [20, 1, 4, 11, 12, 13, 18, 19] ?_
   intro env_6
   simp only [go_sem]
   refine den_loopS (σ := Nat) (fun s => [(20, .int .i64 (s : Int))]) (fun s H => Ext h0 H ∧ s ≤ (X.maps.getD k default).length ∧ Rel (applyU p (applyU p s0 (uK U X.maps k)) (uI U k (X.maps.getD k default) s)) H ∧ Chg fpC h H ∧ BoxAt H h.size #[.int .i64 X.p, vd, vm] 31) (fun s => (X.maps.getD k default).length - s) 0 ?_ ?_
   ·exact ⟨eB, by omega, hR, hch, hb⟩
   ·rintro i h9 ee8 ⟨eB, hi, hR, hch, hb⟩
    simp only [List.cons_append, List.nil_append]
    have := Ext.size eB
    refine den_seq ?_
    refine den_region TTok ?_
    intro K hK
    simp -implicitDefEqProofs (disch := first | decide | assumption | omega) only [go_sem, RdS.len hd sl22, RdS.idx hd sl22, R1.intB hd (Ext.pres eB), RdS.cells hd, RdS.len hm sl23, RdS.idx hm sl23, RdS.cellB hm (Ext.pres eB), RdS.cells hm, RdS.len hr5 sl26, RdS.idx hr5 sl26, RdS.cellB hr5 (Ext.pres eB), RdS.cells hr5, BoxAt.cell hb, wrap_id]
    refine hK _ _ ?_
    clear hK K
    refine den_seq ?_
    refine den_cond rfl (fun c1 => ?_) (fun c1 => ?_)
    ·try simp only [decide_eq_true_eq, decide_eq_false_iff_not, beq_iff_eq, beq_eq_false_iff_ne, bne_iff_ne, ne_eq, Bool.not_eq_true', Bool.not_eq_false', Bool.and_eq_true, Bool.or_eq_true, bne_eq_false_iff_eq] at c1
     refine den_skip ?_
     refine den_seq ?_
     refine den_block ?_
     refine den_seq ?_
     refine den_region TTok ?_
     intro K hK
     have hr10 := RdS.rowN hr5 i (by omega)
     have hlhr10 := RdS.le hr10
     simp -implicitDefEqProofs (disch := first | decide | assumption | omega) only [go_sem, ld22, RdS.len hd sl22, RdS.idx hd sl22, R1.intB hd (Ext.pres eB), RdS.cells hd, RdS.len hm sl23, RdS.idx hm sl23, RdS.cellB hm (Ext.pres eB), RdS.cells hm, RdS.len hr5 sl26, RdS.idx hr5 sl26, RdS.cellB hr5 (Ext.pres eB), RdS.cells hr5, RdS.len hr10 sl22, RdS.idx hr10 sl22, R1.intB hr10 (Ext.pres eB), RdS.cells hr10, BoxAt.cell hb, wrap_id]
     refine hK _ _ ?_
     clear hK K
     refine den_seq ?_
     refine den_region TTok ?_
     intro K hK
     simp -implicitDefEqProofs (disch := first | decide | assumption | omega) only [go_sem, RdS.len hd sl22, RdS.idx hd sl22, R1.intB hd (Ext.pres eB), RdS.cells hd, RdS.len hm sl23, RdS.idx hm sl23, RdS.cellB hm (Ext.pres eB), RdS.cells hm, RdS.len hr5 sl26, RdS.idx hr5 sl26, RdS.cellB hr5 (Ext.pres eB), RdS.cells hr5, RdS.len hr10 sl22, RdS.idx hr10 sl22, R1.intB hr10 (Ext.pres eB), RdS.cells hr10, BoxAt.cell hb, wrap_id]
     refine hK _ _ ?_
     clear hK K
     refine den_block ?_
     refine den_sel [27, 1, 4, 6, 11, 12, 13, 18, 19, 20, 25, 26] ?_
     intro env_11
     simp only [go_sem]
     refine den_loopS (σ := Nat) (fun s => [(27, .int .i64 (s : Int))]) (fun s H => Ext h0 H ∧ s ≤ ((X.maps.getD k default).getD i default).length ∧ Rel (applyU p (applyU p (applyU p s0 (uK U X.maps k)) (uI U k (X.maps.getD k default) i)) (uJ U k i ((X.maps.getD k default).getD i default) s)) H ∧ Chg fpC h H ∧ BoxAt H h.size #[.int .i64 X.p, vd, vm] 31) (fun s => ((X.maps.getD k default).getD i default).length - s) 0 ?_ ?_
     ·exact ⟨eB, by omega, hR, hch, hb⟩
     ·rintro j h14 ee13 ⟨eB, hj, hR, hch, hb⟩
      simp only [List.cons_append, List.nil_append]
      have := Ext.size eB
      refine den_seq ?_
      refine den_region TTok ?_
      intro K hK
      simp -implicitDefEqProofs (disch := first | decide | assumption | omega) only [go_sem, RdS.len hd sl22, RdS.idx hd sl22, R1.intB hd (Ext.pres eB), RdS.cells hd, RdS.len hm sl23, RdS.idx hm sl23, RdS.cellB hm (Ext.pres eB), RdS.cells hm, RdS.len hr5 sl26, RdS.idx hr5 sl26, RdS.cellB hr5 (Ext.pres eB), RdS.cells hr5, RdS.len hr10 sl22, RdS.idx hr10 sl22, R1.intB hr10 (Ext.pres eB), RdS.cells hr10, BoxAt.cell hb, wrap_id]
      refine hK _ _ ?_
      clear hK K
      refine den_seq ?_
      refine den_cond rfl (fun c2 => ?_) (fun c2 => ?_)
      ·try simp only [decide_eq_true_eq, decide_eq_false_iff_not, beq_iff_eq, beq_eq_false_iff_ne, bne_iff_ne, ne_eq, Bool.not_eq_true', Bool.not_eq_false', Bool.and_eq_true, Bool.or_eq_true, bne_eq_false_iff_eq] at c2
       refine den_skip ?_
       refine den_seq ?_
       refine den_block ?_
       refine den_seq ?_
       refine den_region TTok ?_
       intro K hK
       simp -implicitDefEqProofs (disch := first | decide | assumption | omega) only [go_sem, ld2, RdS.len hd sl22, RdS.idx hd sl22, R1.intB hd (Ext.pres eB), RdS.cells hd, RdS.len hm sl23, RdS.idx hm sl23, RdS.cellB hm (Ext.pres eB), RdS.cells hm, RdS.len hr5 sl26, RdS.idx hr5 sl26, RdS.cellB hr5 (Ext.pres eB), RdS.cells hr5, RdS.len hr10 sl22, RdS.idx hr10 sl22, R1.intB hr10 (Ext.pres eB), RdS.cells hr10, BoxAt.cell hb, wrap_id]
       refine hK _ _ ?_
       clear hK K
       refine den_region TTok ?_
       intro K hK
       simp -implicitDefEqProofs (disch := first | decide | assumption | omega) only [go_sem, RdS.len hd sl22, RdS.idx hd sl22, R1.intB hd (Ext.pres eB), RdS.cells hd, RdS.len hm sl23, RdS.idx hm sl23, RdS.cellB hm (Ext.pres eB), RdS.cells hm, RdS.len hr5 sl26, RdS.idx hr5 sl26, RdS.cellB hr5 (Ext.pres eB), RdS.cells hr5, RdS.len hr10 sl22, RdS.idx hr10 sl22, R1.intB hr10 (Ext.pres eB), RdS.cells hr10, BoxAt.cell hb, wrap_id]
       try simp -implicitDefEqProofs (disch := first | decide | assumption | omega) only [go_sem, RdS.len hd sl22, RdS.idx hd sl22, R1.intB hd (Ext.pres eB), RdS.cells hd, RdS.len hm sl23, RdS.idx hm sl23, RdS.cellB hm (Ext.pres eB), RdS.cells hm, RdS.len hr5 sl26, RdS.idx hr5 sl26, RdS.cellB hr5 (Ext.pres eB), RdS.cells hr5, RdS.len hr10 sl22, RdS.idx hr10 sl22, R1.intB hr10 (Ext.pres eB), RdS.cells hr10, BoxAt.cell hb, wrap_id]
       refine CallA.mono (hst _ _ k i j (by omega) (by omega) (by omega) hR) ?_
       intro u h10_6
       rintro ⟨hR2, cv⟩
       have hbl := hb.lt
       replace hb := BoxAt.chg hb cv (fun hm => by have := hfp _ hm; omega)
       replace hch := hch.trans cv
       replace eB := hR0 _ _ hR2
       try simp -implicitDefEqProofs (disch := first | decide | assumption | omega) only [go_sem, RdS.len hd sl22, RdS.idx hd sl22, R1.intB hd (Ext.pres eB), RdS.cells hd, RdS.len hm sl23, RdS.idx hm sl23, RdS.cellB hm (Ext.pres eB), RdS.cells hm, RdS.len hr5 sl26, RdS.idx hr5 sl26, RdS.cellB hr5 (Ext.pres eB), RdS.cells hr5, RdS.len hr10 sl22, RdS.idx hr10 sl22, R1.intB hr10 (Ext.pres eB), RdS.cells hr10, BoxAt.cell hb, wrap_id]
       refine hK _ _ ?_
       clear hK K
       refine den_blk ?_
       refine den_region TTok ?_
       intro K hK
       simp -implicitDefEqProofs (disch := first | decide | assumption | omega) only [go_sem, RdS.len hd sl22, RdS.idx hd sl22, R1.intB hd (Ext.pres eB), RdS.cells hd, RdS.len hm sl23, RdS.idx hm sl23, RdS.cellB hm (Ext.pres eB), RdS.cells hm, RdS.len hr5 sl26, RdS.idx hr5 sl26, RdS.cellB hr5 (Ext.pres eB), RdS.cells hr5, RdS.len hr10 sl22, RdS.idx hr10 sl22, R1.intB hr10 (Ext.pres eB), RdS.cells hr10, BoxAt.cell hb, wrap_id]
       refine hK _ _ ?_
       clear hK K
       refine den_stop ?_
       refine ⟨j + 1, by simp [HasL, puts_at], ⟨eB, by omega, ?_, hch, hb⟩, by omega⟩
       rw [uJ, applyU_app]
       exact hR2
      ·try simp only [decide_eq_true_eq, decide_eq_false_iff_not, beq_iff_eq, beq_eq_false_iff_ne, bne_iff_ne, ne_eq, Bool.not_eq_true', Bool.not_eq_false', Bool.and_eq_true, Bool.or_eq_true, bne_eq_false_iff_eq] at c2
       refine den_exit ?_
       refine denX_code ?_
       refine denX_stop ?_
       refine denX_hit ?_
       refine den_blk ?_
       refine den_region TTok ?_
       intro K hK
       simp -implicitDefEqProofs (disch := first | decide | assumption | omega) only [go_sem, RdS.len hd sl22, RdS.idx hd sl22, R1.intB hd (Ext.pres eB), RdS.cells hd, RdS.len hm sl23, RdS.idx hm sl23, RdS.cellB hm (Ext.pres eB), RdS.cells hm, RdS.len hr5 sl26, RdS.idx hr5 sl26, RdS.cellB hr5 (Ext.pres eB), RdS.cells hr5, RdS.len hr10 sl22, RdS.idx hr10 sl22, R1.intB hr10 (Ext.pres eB), RdS.cells hr10, BoxAt.cell hb, wrap_id]
       refine hK _ _ ?_
       clear hK K
       refine den_stop ?_
       refine ⟨i + 1, by simp [HasL, puts_at], ⟨eB, by omega, ?_, hch, hb⟩, by omega⟩
       rw [uI, applyU_app, show ((X.maps.getD k default).getD i default).length = j by omega]
       exact hR
    ·try simp only [decide_eq_true_eq, decide_eq_false_iff_not, beq_iff_eq, beq_eq_false_iff_ne, bne_iff_ne, ne_eq, Bool.not_eq_true', Bool.not_eq_false', Bool.and_eq_true, Bool.or_eq_true, bne_eq_false_iff_eq] at c1
     refine den_exit ?_
     refine denX_code ?_
     refine denX_stop ?_
     refine denX_hit ?_
     refine den_blk ?_
     refine den_region TTok ?_
     intro K hK
     simp -implicitDefEqProofs (disch := first | decide | assumption | omega) only [go_sem, RdS.len hd sl22, RdS.idx hd sl22, R1.intB hd (Ext.pres eB), RdS.cells hd, RdS.len hm sl23, RdS.idx hm sl23, RdS.cellB hm (Ext.pres eB), RdS.cells hm, RdS.len hr5 sl26, RdS.idx hr5 sl26, RdS.cellB hr5 (Ext.pres eB), RdS.cells hr5, BoxAt.cell hb, wrap_id]
     refine hK _ _ ?_
     clear hK K
     refine den_stop ?_
     refine ⟨k + 1, by simp [HasL, puts_at], ⟨eB, by omega, ?_, hch, hb⟩, by omega⟩
     rw [uK, applyU_app, show (X.maps.getD k default).length = i by omega]
     exact hR
  ·try simp only [decide_eq_true_eq, decide_eq_false_iff_not, beq_iff_eq, beq_eq_false_iff_ne, bne_iff_ne, ne_eq, Bool.not_eq_true', Bool.not_eq_false', Bool.and_eq_true, Bool.or_eq_true, bne_eq_false_iff_eq] at c0
   refine den_exit ?_
   refine denX_code ?_
   refine denX_stop ?_
   refine denX_hit ?_
   refine den_nil ?_
   simp (disch := decide) only [resP_0, puts_same, puts_ne]
   rw [show X.maps.length = k by omega]
   exact ⟨by first | rfl | trivial, hR, hch⟩
end Go.Proofs.Ytjjjgllbocgkbaa

namespace Go.Proofs.Ytjjjgllbocgkbaa
open Go
theorem bCx {v : Value} {xs : List Int} {h : Heap} (hv : R1 h v xs) (p : Int) : buildV TT 31 [(0, .int .i64 p), (1, v)] = some (.agg #[.int .i64 p, v, .slice none 0 0]) := by
 obtain ⟨A, c, rfl, _⟩ := hv
 kernel_rfl
theorem OS.isSl {α : Type} {e : TypeId} {E : Heap → Value → α → List Nat → Prop} {h : Heap} {v : Value} {xs : List α} {fp : List Nat} (ho : OS e E h v xs fp) : ∃ A n c, v = .slice A n c := by
 rcases ho with ⟨rfl, _⟩ | ⟨b, c, cur, fps, rfl, r⟩
 ·exact ⟨_, _, _, rfl⟩
 ·exact ⟨_, _, _, r.val⟩
theorem bC3 {v w : Value} (hv : ∃ A n c, v = .slice A n c) (hw : ∃ A n c, w = .slice A n c) (p : Int) : buildV TT 31 [(0, .int .i64 p), (1, v), (2, w)] = some (.agg #[.int .i64 p, v, w]) := by
 obtain ⟨A, n, c, rfl⟩ := hv
 obtain ⟨A', n', c', rfl⟩ := hw
 kernel_rfl
def zblk (D : List Int) (k : Nat) : M3 := (List.range k).map fun j => List.replicate (D.getD (j + 1) 0).toNat (List.replicate (D.getD j 0).toNat 0)
theorem zblk_step (D : List Int) (k : Nat) : zblk D k ++ [List.replicate (D.getD (k + 1) 0).toNat (List.replicate (D.getD k 0).toNat 0)] = zblk D (k + 1) := by simp [zblk, List.range_succ]
theorem zblk_len (D : List Int) (k : Nat) : (zblk D k).length = k := by simp [zblk]
theorem getD_map_range {α : Type} [Inhabited α] (f : Nat → α) {n k : Nat} (h : k < n) : ((List.range n).map f).getD k default = f k := by
 rw [List.getD_eq_getElem?_getD, List.getElem?_eq_getElem (by simpa using h)]; simp
theorem getD_repl {α : Type} {x d : α} {n k : Nat} (h : k < n) : (List.replicate n x).getD k d = x := by
 rw [List.getD_eq_getElem?_getD, List.getElem?_eq_getElem (by simpa using h)]; simp
theorem zblk_sh (D : List Int) (n : Nat) : Sh n (fun k => (D.getD (k + 1) 0).toNat) (fun k => (D.getD k 0).toNat) (zblk D n) := by
 refine ⟨zblk_len D n, fun k hk => ?_, fun k r hk hr => ?_⟩
 ·rw [zblk, getD_map_range _ hk, List.length_replicate]
 ·rw [zblk, getD_map_range _ hk, getD_repl hr, List.length_replicate]
theorem zblk_get (D : List Int) (n : Nat) {k r c : Nat} (hk : k < n) (hr : r < (D.getD (k + 1) 0).toNat) (hc : c < (D.getD k 0).toNat) : get3 (zblk D n) k r c = 0 := by
 rw [get3, zblk, getD_map_range _ hk, getD_repl hr, getD_repl hc]
theorem D_at {D : List Int} (h : D.all (fun x => in3 x 0 8) = true) {k : Nat} (hk : k < D.length) : 0 ≤ D.getD k 0 ∧ D.getD k 0 ≤ 8 := in3_iff.1 (all_at (d := 0) h hk)

set_option maxRecDepth 100000 in
theorem blank_ok (p : Int) (v : Value) (D : List Int) (h : Heap) (rD : R1 h v D) (hD : D.all (fun x => in3 x 0 8) = true) (hl : D.length ≤ 16) : CallA Try.prog 83 #[.int .i64 p, v] h fun v' h' => ∃ w fp, v' = .agg #[.int .i64 p, v, w] ∧ O3 h' w (zblk D (D.length - 1)) fp ∧ Fresh h.size fp ∧ Ext h h' := by
 have hle := RdS.le rD
 refine callA_intro TTok (args := [_, _]) Try.func83 (by kernel_rfl) rfl 41 rfl (by simp) [.cell 4 31] rfl ?_
 simp only [idxs, Nat.reduceAdd]
 refine den_seq ?_
 refine den_region TTok ?_
 intro K hK
 simp -implicitDefEqProofs (disch := first | decide | assumption | omega) only [go_sem, RdS.len rD sl22, RdS.idx rD sl22, R1.intB rD (HPres.refl _), RdS.cells rD, wrap_id, Int.add_sub_cancel, bCx rD]
 refine op_alloc (cs := #[.int .i64 0, .slice none 0 0, .slice none 0 0]) (by kernel_rfl) ?_
 intro h0_0 e0_0 hb0_0 z0_0
 have := Ext.size e0_0
 have eB := e0_0
 have hfhb0_0 : Fresh h.size [h.size] := Fresh.one _
 have hlhb0_0 := one_lt (show h.size < h0_0.size by omega)
 try simp -implicitDefEqProofs (disch := first | decide | assumption | omega) only [go_sem, RdS.len rD sl22, RdS.idx rD sl22, R1.intB rD (Ext.pres eB), RdS.cells rD, BoxAt.cell hb0_0, wrap_id, Int.add_sub_cancel, bCx rD]
 refine hK _ _ ?_
 clear hK K
 refine den_seq ?_
 refine den_region TTok ?_
 intro K hK
 simp -implicitDefEqProofs (disch := first | decide | assumption | omega) only [go_sem, RdS.len rD sl22, RdS.idx rD sl22, R1.intB rD (Ext.pres eB), RdS.cells rD, BoxAt.cell hb0_0, wrap_id, Int.add_sub_cancel, bCx rD]
 refine op_alloc (cs := #[.int .i64 0, .slice none 0 0, .slice none 0 0]) (by kernel_rfl) ?_
 intro h1_3 e1_3 hb1_3 z1_3
 replace hb0_0 := BoxAt.ext hb0_0 e1_3
 have := Ext.size e1_3
 replace eB := Ext.trans eB e1_3
 have hfhb1_3 : Fresh h0_0.size [h0_0.size] := Fresh.one _
 have hlhb1_3 := one_lt (show h0_0.size < h1_3.size by omega)
 try simp -implicitDefEqProofs (disch := first | decide | assumption | omega) only [go_sem, RdS.len rD sl22, RdS.idx rD sl22, R1.intB rD (Ext.pres eB), RdS.cells rD, BoxAt.cell hb0_0, BoxAt.cell hb1_3, wrap_id, Int.add_sub_cancel, bCx rD]
 refine op_storeB (cs' := #[.int .i64 (p), v, .slice none 0 0]) st31 hb1_3 rfl rfl rfl (by simp) (allOne_mem (l := [.int .i64 (p), v, .slice none 0 0]) ⟨rfl, (RdS.one rD), rfl, trivial⟩) rfl ?_
 intro h1_4 hb1_3 c1_4
 replace hb0_0 := BoxAt.chgA hb0_0 c1_4 (apart_lt hlhb0_0 hfhb1_3 (by omega))
 have := c1_4.size
 replace eB := Ext.then eB c1_4 (ge_of hfhb1_3 (by omega))
 try simp -implicitDefEqProofs (disch := first | decide | assumption | omega) only [go_sem, RdS.len rD sl22, RdS.idx rD sl22, R1.intB rD (Ext.pres eB), RdS.cells rD, BoxAt.cell hb0_0, BoxAt.cell hb1_3, wrap_id, Int.add_sub_cancel, bCx rD]
 refine hK _ _ ?_
 clear hK K
 refine den_seq ?_
 refine den_seq ?_
 refine den_region TTok ?_
 intro K hK
 simp -implicitDefEqProofs (disch := first | decide | assumption | omega) only [go_sem, RdS.len rD sl22, RdS.idx rD sl22, R1.intB rD (Ext.pres eB), RdS.cells rD, BoxAt.cell hb0_0, BoxAt.cell hb1_3, wrap_id, Int.add_sub_cancel, bCx rD]
 refine hK _ _ ?_
 clear hK K
 refine den_block ?_
 have hnil1 : O3 h1_4 (.slice none 0 0) [] [] := OS.nil
 have hfhnil1 : Fresh h1_4.size [] := Fresh.nil _
 have hlhnil1 := OS.lt hnil1
 refine den_sel [6, 1, 4, 5] ?_
 intro env_2
 simp only [go_sem]
 refine den_loopS (σ := Nat × Value × List Nat) (fun st_ => [(6, .int .i64 ((st_.1 : Int) + 1))]) (fun st_ H => (st_.1 = 0 ∨ st_.1 + 1 ≤ D.length) ∧ (O3 H st_.2.1 (zblk D st_.1) st_.2.2) ∧ (Fresh (h1_4.size) st_.2.2) ∧ (Sub (([] : List Nat) ++ ([h0_0.size])) h1_4.size st_.2.2) ∧ (BoxAt H (h0_0.size) #[.int .i64 (p), v, st_.2.1] 31) ∧ (Apart st_.2.2 [h0_0.size]) ∧ (Chg (([] : List Nat) ++ ([h0_0.size])) h1_4 H)) (fun st_ => D.length - st_.1) (0, .slice none 0 0, ([] : List Nat)) ?_ ?_
 ·exact ⟨Or.inl rfl, by exact hnil1, hfhnil1, (Sub.left Sub.refl), by simpa using hb1_3, (apart_gt hfhnil1 hlhb1_3 (by omega)), Chg.refl _ _⟩
 ·rintro ⟨k, vhO, fphO⟩ h5 ee4 ⟨hi0, hO, hfhO, sbhO, hbx5, ap_hO_hbx5, cL3⟩
  dsimp only at hi0 hO hfhO sbhO hbx5 ap_hO_hbx5 cL3
  replace hb0_0 := BoxAt.chgA hb0_0 cL3 (Apart.app (apart_lt hlhb0_0 hfhnil1 (by omega)) (apart_lt hlhb0_0 hfhb1_3 (by omega)))
  have := cL3.size
  replace eB := Ext.then eB cL3 (ge_app (ge_of hfhnil1 (by omega)) (ge_of hfhb1_3 (by omega)))
  have hlhO := OS.lt hO
  have hfhbx5 := hfhb1_3
  have hlhbx5 := hlhb1_3
  simp only [List.cons_append, List.nil_append]
  have hzl := zblk_len D k
  refine den_seq ?_
  refine den_seq ?_
  refine den_region TTok ?_
  intro K hK
  simp -implicitDefEqProofs (disch := first | decide | assumption | omega) only [go_sem, RdS.len rD sl22, RdS.idx rD sl22, R1.intB rD (Ext.pres eB), RdS.cells rD, RdS.len (OS.rd hO) sl23, RdS.idx (OS.rd hO) sl23, RdS.cellN (OS.rd hO), RdS.cells (OS.rd hO), BoxAt.cell hb0_0, BoxAt.cell hbx5, wrap_id, Int.add_sub_cancel, bCx rD]
  try simp -implicitDefEqProofs (disch := first | decide | assumption | omega) only [go_sem, RdS.len rD sl22, RdS.idx rD sl22, R1.intB rD (Ext.pres eB), RdS.cells rD, RdS.len (OS.rd hO) sl23, RdS.idx (OS.rd hO) sl23, RdS.cellN (OS.rd hO), RdS.cells (OS.rd hO), BoxAt.cell hb0_0, BoxAt.cell hbx5, wrap_id, Int.add_sub_cancel, bCx rD]
  refine CallA.pure (size1_ok _ _ _ (RdS.pres rD (Ext.pres eB))) ?_
  try simp -implicitDefEqProofs (disch := first | decide | assumption | omega) only [go_sem, RdS.len rD sl22, RdS.idx rD sl22, R1.intB rD (Ext.pres eB), RdS.cells rD, RdS.len (OS.rd hO) sl23, RdS.idx (OS.rd hO) sl23, RdS.cellN (OS.rd hO), RdS.cells (OS.rd hO), BoxAt.cell hb0_0, BoxAt.cell hbx5, wrap_id, Int.add_sub_cancel, bCx rD]
  refine hK _ _ ?_
  clear hK K
  refine den_cond rfl (fun c0 => ?_) (fun c0 => ?_)
  ·try simp only [decide_eq_true_eq, decide_eq_false_iff_not, beq_iff_eq, beq_eq_false_iff_ne, bne_iff_ne, ne_eq, Bool.not_eq_true', Bool.not_eq_false', Bool.and_eq_true, Bool.or_eq_true, bne_eq_false_iff_eq] at c0
   refine den_skip ?_
   refine den_seq ?_
   refine den_block ?_
   refine den_seq ?_
   have ek : ((k : Int) + 1).toNat = k + 1 := by omega
   refine den_region TTok ?_
   intro K hK
   simp -implicitDefEqProofs (disch := first | decide | assumption | omega) only [go_sem, RdS.len rD sl22, RdS.idx rD sl22, R1.intB rD (Ext.pres eB), RdS.cells rD, RdS.len (OS.rd hO) sl23, RdS.idx (OS.rd hO) sl23, RdS.cellN (OS.rd hO), RdS.cells (OS.rd hO), BoxAt.cell hb0_0, BoxAt.cell hbx5, wrap_id, Int.add_sub_cancel, bCx rD]
   refine op_bs0 sz26 O1 ?_
   intro v5_0 h5_0 ho5_0 e5_0
   replace hO := OS.ext hO e5_0
   replace hb0_0 := BoxAt.ext hb0_0 e5_0
   replace hbx5 := BoxAt.ext hbx5 e5_0
   have := Ext.size e5_0
   replace eB := Ext.trans eB e5_0
   replace cL3 := Chg.stepE cL3 e5_0
   have hfho5_0 : Fresh h5.size [h5.size] := Fresh.one _
   have hlho5_0 := OS.lt ho5_0
   try simp -implicitDefEqProofs (disch := first | decide | assumption | omega) only [go_sem, RdS.len rD sl22, RdS.idx rD sl22, R1.intB rD (Ext.pres eB), RdS.cells rD, RdS.len (OS.rd hO) sl23, RdS.idx (OS.rd hO) sl23, RdS.cellN (OS.rd hO), RdS.cells (OS.rd hO), RdS.len (OS.rd ho5_0) sl26, RdS.idx (OS.rd ho5_0) sl26, RdS.cellN (OS.rd ho5_0), RdS.cells (OS.rd ho5_0), BoxAt.cell hb0_0, BoxAt.cell hbx5, wrap_id, Int.add_sub_cancel, bCx rD]
   refine hK _ _ ?_
   clear hK K
   refine den_seq ?_
   refine den_seq ?_
   have hd2 := D_at hD (k := ((k : Int) + 1).toNat) (by omega)
   refine den_region TTok ?_
   intro K hK
   simp -implicitDefEqProofs (disch := first | decide | assumption | omega) only [go_sem, ld2, RdS.len rD sl22, RdS.idx rD sl22, R1.intB rD (Ext.pres eB), RdS.cells rD, RdS.len (OS.rd hO) sl23, RdS.idx (OS.rd hO) sl23, RdS.cellN (OS.rd hO), RdS.cells (OS.rd hO), RdS.len (OS.rd ho5_0) sl26, RdS.idx (OS.rd ho5_0) sl26, RdS.cellN (OS.rd ho5_0), RdS.cells (OS.rd ho5_0), BoxAt.cell hb0_0, BoxAt.cell hbx5, wrap_id, Int.add_sub_cancel, bCx rD]
   refine hK _ _ ?_
   clear hK K
   refine den_block ?_
   refine den_sel [7, 22, 1, 4, 5, 6, 21] ?_
   intro env_6
   simp only [go_sem]
   refine den_loopS (σ := Nat × Value × List Nat) (fun st_ => [(7, st_.2.1), (22, .int .i64 (st_.1 : Int))]) (fun st_ H => ((st_.1 : Int) ≤ D.getD ((k : Int) + 1).toNat 0) ∧ (O2 H st_.2.1 (List.replicate st_.1 (List.replicate (D.getD k 0).toNat 0)) st_.2.2) ∧ (Fresh (h5.size) st_.2.2) ∧ (Sub [h5.size] h5_0.size st_.2.2) ∧ (Chg [h5.size] h5_0 H)) (fun st_ => (D.getD ((k : Int) + 1).toNat 0).toNat - st_.1) (0, v5_0, [h5.size]) ?_ ?_
   ·exact ⟨by first | (simp; done) | (dsimp only; omega) | (simp; omega), by simpa using ho5_0, hfho5_0, Sub.refl, Chg.refl _ _⟩
   ·rintro ⟨m, vhR, fphR⟩ h9 ee8 ⟨hi0, hR, hfhR, sbhR, cL7⟩
    dsimp only at hi0 hR hfhR sbhR cL7
    replace hO := OS.chg hO cL7 (apart_lt hlhO hfho5_0 (by omega))
    replace hb0_0 := BoxAt.chgA hb0_0 cL7 (apart_lt hlhb0_0 hfho5_0 (by omega))
    replace hbx5 := BoxAt.chgA hbx5 cL7 (apart_lt hlhbx5 hfho5_0 (by omega))
    have := cL7.size
    replace eB := Ext.then eB cL7 (ge_of hfho5_0 (by omega))
    replace cL3 := Chg.step cL3 cL7 (Sub.fresh hfho5_0 (by omega))
    have hlhR := OS.lt hR
    simp only [List.cons_append, List.nil_append]
    have hlr : (List.replicate m (List.replicate (D.getD k (0 : Int)).toNat (0 : Int))).length = m := List.length_replicate
    refine den_seq ?_
    refine den_region TTok ?_
    intro K hK
    simp -implicitDefEqProofs (disch := first | decide | assumption | omega) only [go_sem, RdS.len rD sl22, RdS.idx rD sl22, R1.intB rD (Ext.pres eB), RdS.cells rD, RdS.len (OS.rd hO) sl23, RdS.idx (OS.rd hO) sl23, RdS.cellN (OS.rd hO), RdS.cells (OS.rd hO), RdS.len (OS.rd hR) sl26, RdS.idx (OS.rd hR) sl26, RdS.cellN (OS.rd hR), RdS.cells (OS.rd hR), BoxAt.cell hb0_0, BoxAt.cell hbx5, wrap_id, Int.add_sub_cancel, bCx rD]
    refine hK _ _ ?_
    clear hK K
    refine den_seq ?_
    refine den_cond rfl (fun c1 => ?_) (fun c1 => ?_)
    ·try simp only [decide_eq_true_eq, decide_eq_false_iff_not, beq_iff_eq, beq_eq_false_iff_ne, bne_iff_ne, ne_eq, Bool.not_eq_true', Bool.not_eq_false', Bool.and_eq_true, Bool.or_eq_true, bne_eq_false_iff_eq] at c1
     refine den_skip ?_
     refine den_seq ?_
     refine den_block ?_
     have hd1 := D_at hD (k := k) (by omega)
     refine den_region TTok ?_
     intro K hK
     simp -implicitDefEqProofs (disch := first | decide | assumption | omega) only [go_sem, ld2, RdS.len rD sl22, RdS.idx rD sl22, R1.intB rD (Ext.pres eB), RdS.cells rD, RdS.len (OS.rd hO) sl23, RdS.idx (OS.rd hO) sl23, RdS.cellN (OS.rd hO), RdS.cells (OS.rd hO), RdS.len (OS.rd hR) sl26, RdS.idx (OS.rd hR) sl26, RdS.cellN (OS.rd hR), RdS.cells (OS.rd hR), BoxAt.cell hb0_0, BoxAt.cell hbx5, wrap_id, Int.add_sub_cancel, bCx rD]
     refine op_make sz22 rfl rfl (by omega) (by omega) OI 0 (fun _ => ⟨rfl, rfl⟩) ?_
     intro v8_6 h8_6 ho8_6 e8_6
     replace hO := OS.ext hO e8_6
     replace hR := OS.ext hR e8_6
     replace hb0_0 := BoxAt.ext hb0_0 e8_6
     replace hbx5 := BoxAt.ext hbx5 e8_6
     have := Ext.size e8_6
     replace eB := Ext.trans eB e8_6
     replace cL3 := Chg.stepE cL3 e8_6
     replace cL7 := Chg.stepE cL7 e8_6
     have hfho8_6 : Fresh h9.size [h9.size] := Fresh.one _
     have hlenho8_6 : (List.replicate (((D).getD k 0)).toNat (0 : Int)).length = (((D).getD k 0)).toNat := List.length_replicate
     have hlho8_6 := OS.lt ho8_6
     try simp -implicitDefEqProofs (disch := first | decide | assumption | omega) only [go_sem, RdS.len rD sl22, RdS.idx rD sl22, R1.intB rD (Ext.pres eB), RdS.cells rD, RdS.len (OS.rd hO) sl23, RdS.idx (OS.rd hO) sl23, RdS.cellN (OS.rd hO), RdS.cells (OS.rd hO), RdS.len (OS.rd hR) sl26, RdS.idx (OS.rd hR) sl26, RdS.cellN (OS.rd hR), RdS.cells (OS.rd hR), RdS.len (OS.rd ho8_6) sl22, RdS.idx (OS.rd ho8_6) sl22, R1.intN (OS.rd ho8_6), RdS.cells (OS.rd ho8_6), BoxAt.cell hb0_0, BoxAt.cell hbx5, wrap_id, Int.add_sub_cancel, bCx rD]
     refine op_bs1 sz26 rfl (OS.one ho8_6).2 ?_
     try simp -implicitDefEqProofs (disch := first | decide | assumption | omega) only [go_sem, RdS.len rD sl22, RdS.idx rD sl22, R1.intB rD (Ext.pres eB), RdS.cells rD, RdS.len (OS.rd hO) sl23, RdS.idx (OS.rd hO) sl23, RdS.cellN (OS.rd hO), RdS.cells (OS.rd hO), RdS.len (OS.rd hR) sl26, RdS.idx (OS.rd hR) sl26, RdS.cellN (OS.rd hR), RdS.cells (OS.rd hR), RdS.len (OS.rd ho8_6) sl22, RdS.idx (OS.rd ho8_6) sl22, R1.intN (OS.rd ho8_6), RdS.cells (OS.rd ho8_6), BoxAt.cell hb0_0, BoxAt.cell hbx5, wrap_id, Int.add_sub_cancel, bCx rD]
     refine op_append1 sz26 hR hfhR.nodup ho8_6 hfho8_6.nodup (apart_lt hlhR hfho8_6 (by omega)) (by first | omega | (simp; omega)) rfl rfl ?_
     intro v8_8 h8_8 fp8_8 ho8_8 hn8_8 hs8_8 c8_8
     have hsz8_8 := c8_8.size
     have hfho8_8 : Fresh h5.size fp8_8 := Fresh.appd hfhR hfho8_6 (by omega) (by omega) hn8_8 hs8_8
     have sb10 : Sub [h5.size] h5_0.size fp8_8 := Sub.grow sbhR (Sub.fresh hfho8_6 (by omega)) (by omega) hs8_8
     replace hO := OS.chg hO c8_8 (apart_lt hlhO hfhR (by omega))
     replace hb0_0 := BoxAt.chgA hb0_0 c8_8 (apart_lt hlhb0_0 hfhR (by omega))
     replace hbx5 := BoxAt.chgA hbx5 c8_8 (apart_lt hlhbx5 hfhR (by omega))
     have := c8_8.size
     replace eB := Ext.then eB c8_8 (ge_of hfhR (by omega))
     replace cL3 := Chg.step cL3 c8_8 (Sub.fresh hfhR (by omega))
     replace cL7 := Chg.step cL7 c8_8 sbhR
     have hlho8_8 := OS.lt ho8_8
     try simp -implicitDefEqProofs (disch := first | decide | assumption | omega) only [go_sem, RdS.len rD sl22, RdS.idx rD sl22, R1.intB rD (Ext.pres eB), RdS.cells rD, RdS.len (OS.rd hO) sl23, RdS.idx (OS.rd hO) sl23, RdS.cellN (OS.rd hO), RdS.cells (OS.rd hO), RdS.len (OS.rd ho8_8) sl26, RdS.idx (OS.rd ho8_8) sl26, RdS.cellN (OS.rd ho8_8), RdS.cells (OS.rd ho8_8), BoxAt.cell hb0_0, BoxAt.cell hbx5, wrap_id, Int.add_sub_cancel, bCx rD]
     refine hK _ _ ?_
     clear hK K
     refine den_blk ?_
     refine den_region TTok ?_
     intro K hK
     simp -implicitDefEqProofs (disch := first | decide | assumption | omega) only [go_sem, RdS.len rD sl22, RdS.idx rD sl22, R1.intB rD (Ext.pres eB), RdS.cells rD, RdS.len (OS.rd hO) sl23, RdS.idx (OS.rd hO) sl23, RdS.cellN (OS.rd hO), RdS.cells (OS.rd hO), RdS.len (OS.rd ho8_8) sl26, RdS.idx (OS.rd ho8_8) sl26, RdS.cellN (OS.rd ho8_8), RdS.cells (OS.rd ho8_8), BoxAt.cell hb0_0, BoxAt.cell hbx5, wrap_id, Int.add_sub_cancel, bCx rD]
     refine hK _ _ ?_
     clear hK K
     refine den_stop ?_
     rw [← List.replicate_succ'] at ho8_8
     exact ⟨(m + 1, v8_8, fp8_8), by simp [HasL, puts_at], ⟨by first | omega | (dsimp only; omega), ho8_8, hfho8_8, sb10, cL7⟩, by first | omega | (dsimp only; omega)⟩
    ·try simp only [decide_eq_true_eq, decide_eq_false_iff_not, beq_iff_eq, beq_eq_false_iff_ne, bne_iff_ne, ne_eq, Bool.not_eq_true', Bool.not_eq_false', Bool.and_eq_true, Bool.or_eq_true, bne_eq_false_iff_eq] at c1
     refine den_exit ?_
     refine denX_code ?_
     refine denX_stop ?_
     refine denX_hit ?_
     refine den_region TTok ?_
     intro K hK
     simp -implicitDefEqProofs (disch := first | decide | assumption | omega) only [go_sem, fa31_2, ld23, RdS.len rD sl22, RdS.idx rD sl22, R1.intB rD (Ext.pres eB), RdS.cells rD, RdS.len (OS.rd hO) sl23, RdS.idx (OS.rd hO) sl23, RdS.cellN (OS.rd hO), RdS.cells (OS.rd hO), RdS.len (OS.rd hR) sl26, RdS.idx (OS.rd hR) sl26, RdS.cellN (OS.rd hR), RdS.cells (OS.rd hR), BoxAt.cell hb0_0, BoxAt.cell hbx5, wrap_id, Int.add_sub_cancel, bCx rD]
     refine op_bs1 sz23 rfl (OS.one hR).2 ?_
     try simp -implicitDefEqProofs (disch := first | decide | assumption | omega) only [go_sem, RdS.len rD sl22, RdS.idx rD sl22, R1.intB rD (Ext.pres eB), RdS.cells rD, RdS.len (OS.rd hO) sl23, RdS.idx (OS.rd hO) sl23, RdS.cellN (OS.rd hO), RdS.cells (OS.rd hO), RdS.len (OS.rd hR) sl26, RdS.idx (OS.rd hR) sl26, RdS.cellN (OS.rd hR), RdS.cells (OS.rd hR), BoxAt.cell hb0_0, BoxAt.cell hbx5, wrap_id, Int.add_sub_cancel, bCx rD]
     refine op_append1 sz23 hO hfhO.nodup hR hfhR.nodup (apart_lt hlhO hfhR (by omega)) (by first | omega | (simp; omega)) rfl rfl ?_
     intro v10_4 h10_4 fp10_4 ho10_4 hn10_4 hs10_4 c10_4
     have hsz10_4 := c10_4.size
     have hfho10_4 : Fresh h1_4.size fp10_4 := Fresh.appd hfhO hfhR (by omega) (by omega) hn10_4 hs10_4
     have sb11 : Sub (([] : List Nat) ++ ([h0_0.size])) h1_4.size fp10_4 := Sub.grow sbhO (Sub.fresh hfhR (by omega)) (by omega) hs10_4
     replace hb0_0 := BoxAt.chgA hb0_0 c10_4 (apart_lt hlhb0_0 hfhO (by omega))
     replace hbx5 := BoxAt.chgA hbx5 c10_4 (Apart.symm ap_hO_hbx5)
     have := c10_4.size
     replace eB := Ext.then eB c10_4 (ge_of hfhO (by omega))
     replace cL3 := Chg.step cL3 c10_4 sbhO
     have ap12 : Apart [h0_0.size] fp10_4 := Apart.grow hlhbx5 (by omega) (Apart.symm ap_hO_hbx5) (apart_lt hlhbx5 hfhR (by omega)) hs10_4
     have hlho10_4 := OS.lt ho10_4
     try simp -implicitDefEqProofs (disch := first | decide | assumption | omega) only [go_sem, fa31_2, RdS.len rD sl22, RdS.idx rD sl22, R1.intB rD (Ext.pres eB), RdS.cells rD, RdS.len (OS.rd ho10_4) sl23, RdS.idx (OS.rd ho10_4) sl23, RdS.cellN (OS.rd ho10_4), RdS.cells (OS.rd ho10_4), BoxAt.cell hb0_0, BoxAt.cell hbx5, wrap_id, Int.add_sub_cancel, bCx rD]
     refine op_storeB (cs' := #[.int .i64 (p), v, v10_4]) st23 hbx5 rfl (OS.one ho10_4).2 rfl (by simp) (allOne_mem (l := [v10_4]) ⟨(OS.one ho10_4).1, trivial⟩) rfl ?_
     intro h10_6 hbx5 c10_6
     replace ho10_4 := OS.chg ho10_4 c10_6 (Apart.symm ap12)
     replace hb0_0 := BoxAt.chgA hb0_0 c10_6 (apart_lt hlhb0_0 hfhbx5 (by omega))
     have := c10_6.size
     replace eB := Ext.then eB c10_6 (ge_of hfhbx5 (by omega))
     replace cL3 := Chg.step cL3 c10_6 (Sub.right Sub.refl)
     try simp -implicitDefEqProofs (disch := first | decide | assumption | omega) only [go_sem, RdS.len rD sl22, RdS.idx rD sl22, R1.intB rD (Ext.pres eB), RdS.cells rD, RdS.len (OS.rd ho10_4) sl23, RdS.idx (OS.rd ho10_4) sl23, RdS.cellN (OS.rd ho10_4), RdS.cells (OS.rd ho10_4), BoxAt.cell hb0_0, BoxAt.cell hbx5, wrap_id, Int.add_sub_cancel, bCx rD]
     refine hK _ _ ?_
     clear hK K
     refine den_blk ?_
     refine den_region TTok ?_
     intro K hK
     simp -implicitDefEqProofs (disch := first | decide | assumption | omega) only [go_sem, RdS.len rD sl22, RdS.idx rD sl22, R1.intB rD (Ext.pres eB), RdS.cells rD, RdS.len (OS.rd ho10_4) sl23, RdS.idx (OS.rd ho10_4) sl23, RdS.cellN (OS.rd ho10_4), RdS.cells (OS.rd ho10_4), BoxAt.cell hb0_0, BoxAt.cell hbx5, wrap_id, Int.add_sub_cancel, bCx rD]
     refine hK _ _ ?_
     clear hK K
     refine den_stop ?_
     have em : m = (D.getD (k + 1) 0).toNat := by rw [ek] at hd2 hi0 c1; omega
     rw [em, zblk_step] at ho10_4
     exact ⟨(k + 1, v10_4, fp10_4), by simp [HasL, puts_at], ⟨by first | omega | (dsimp only; omega), ho10_4, hfho10_4, sb11, hbx5, (Apart.symm ap12), cL3⟩, by first | omega | (dsimp only; omega)⟩
  ·try simp only [decide_eq_true_eq, decide_eq_false_iff_not, beq_iff_eq, beq_eq_false_iff_ne, bne_iff_ne, ne_eq, Bool.not_eq_true', Bool.not_eq_false', Bool.and_eq_true, Bool.or_eq_true, bne_eq_false_iff_eq] at c0
   refine den_exit ?_
   refine denX_code ?_
   refine denX_stop ?_
   refine denX_hit ?_
   refine den_seq ?_
   refine den_region TTok ?_
   intro K hK
   simp -implicitDefEqProofs (disch := first | decide | assumption | omega) only [go_sem, ld31, RdS.len rD sl22, RdS.idx rD sl22, R1.intB rD (Ext.pres eB), RdS.cells rD, RdS.len (OS.rd hO) sl23, RdS.idx (OS.rd hO) sl23, RdS.cellN (OS.rd hO), RdS.cells (OS.rd hO), BoxAt.cell hb0_0, BoxAt.cell hbx5, wrap_id, Int.add_sub_cancel, bCx rD]
   refine op_storeB (cs' := #[.int .i64 (p), v, vhO]) st31 hb0_0 rfl rfl rfl (by simp) (allOne_mem (l := [.int .i64 (p), v, vhO]) ⟨rfl, (RdS.one rD), (OS.one hO).1, trivial⟩) rfl ?_
   intro h11_1 hb0_0 c11_1
   replace hO := OS.chg hO c11_1 (apart_gt hfhO hlhb0_0 (by omega))
   replace hbx5 := BoxAt.chgA hbx5 c11_1 (apart_gt hfhbx5 hlhb0_0 (by omega))
   have := c11_1.size
   replace eB := Ext.then eB c11_1 (ge_of hfhb0_0 (by omega))
   try simp -implicitDefEqProofs (disch := first | decide | assumption | omega) only [go_sem, RdS.len rD sl22, RdS.idx rD sl22, R1.intB rD (Ext.pres eB), RdS.cells rD, RdS.len (OS.rd hO) sl23, RdS.idx (OS.rd hO) sl23, RdS.cellN (OS.rd hO), RdS.cells (OS.rd hO), BoxAt.cell hb0_0, BoxAt.cell hbx5, wrap_id, Int.add_sub_cancel, bCx rD]
   refine hK _ _ ?_
   clear hK K
   refine den_ret ?_
   simp -implicitDefEqProofs (disch := first | decide | assumption | omega) only [go_sem, RdS.len rD sl22, RdS.idx rD sl22, R1.intB rD (Ext.pres eB), RdS.cells rD, RdS.len (OS.rd hO) sl23, RdS.idx (OS.rd hO) sl23, RdS.cellN (OS.rd hO), RdS.cells (OS.rd hO), BoxAt.cell hb0_0, BoxAt.cell hbx5, wrap_id, Int.add_sub_cancel, bCx rD, resP_c1, ld31]
   have e : D.length - 1 = k := by omega
   rw [e]
   exact ⟨_, _, rfl, hO, hfhO.mono (by omega), eB⟩
end Go.Proofs.Ytjjjgllbocgkbaa

namespace Go.Proofs.Ytjjjgllbocgkbaa
open Go
/-- A function that is called for each number updates a table of one's own. -/
structure ORel (p : Int) (h0 : Heap) (vw : Value) (fw : List Nat) (L : Nat) (A B : Nat → Nat) (Ot : Heap → Prop) (s : M3) (H : Heap) : Prop where
 o : O3 H vw s fw
 sh : Sh L A B s
 i3 : In3 p L A B s
 e : Ext h0 H
 ot : Ot H
theorem each_upd {p : Int} {L : Nat} {A B : Nat → Nat} {Ot : Heap → Prop} {U : UF} {vw : Value} {fw : List Nat} {g : FuncId} {cs : Array Value} {X : Cx} {vd vm : Value} {h0 : Heap} (hp : 0 < p) (hd : R1 h0 vd X.dims) (hm : R3 h0 vm X.maps) {s0 : M3} {h : Heap} (hR : ORel p h0 vw fw L A B Ot s0 h) (hot : ∀ H H', Chg fw H H' → Ot H → Ot H') (hge : ∀ b ∈ fw, h0.size ≤ b)
  (hU : ∀ k i j, k < X.maps.length → i < (X.maps.getD k default).length → j < ((X.maps.getD k default).getD i default).length → ∀ u ∈ U k i j (((X.maps.getD k default).getD i default).getD j 0), InU L A B u)
  (hcl : ∀ s H k i j, k < X.maps.length → i < (X.maps.getD k default).length → j < ((X.maps.getD k default).getD i default).length → ORel p h0 vw fw L A B Ot s H → CallA Try.prog g (#[.int .i64 ((k : Int) + 1), .int .i64 (i : Int), .int .i64 (j : Int), .int .i64 (((X.maps.getD k default).getD i default).getD j 0)] ++ cs) H fun u H' => O3 H' vw (applyU p s (U k i j (((X.maps.getD k default).getD i default).getD j 0))) fw ∧ Chg fw H H') :
  CallA Try.prog 75 #[.agg #[.int .i64 X.p, vd, vm], .func (.func g) #[] cs] h fun v' h' => v' = .tuple #[] ∧ O3 h' vw (applyU p s0 (uK U X.maps X.maps.length)) fw ∧ Chg fw h h' := by
 refine (each_ok p (ORel p h0 vw fw L A B Ot) U fw g cs X vd vm h0 hd hm s0 h hR ?_ (fun s H r => r.e) (OS.lt hR.o) ?_).mono (fun v' h' q => ⟨q.1, q.2.1.o, q.2.2⟩)
 ·exact fun s H H' r e => ⟨OS.ext r.o e, r.sh, r.i3, r.e.trans e, hot _ _ (e.chg _) r.ot⟩
 ·intro s H k i j hk hi hj r
  refine (hcl s H k i j hk hi hj r).mono (fun u H' q => ⟨⟨q.1, applyU_sh r.sh (hU k i j hk hi hj), applyU_in hp r.sh r.i3 (hU k i j hk hi hj), Ext.then r.e q.2 hge, hot _ _ q.2 r.ot⟩, q.2⟩)
section
variable {U : UF} {τ : Nat → Nat → Nat → Nat × Nat × Nat} {ω : Nat → Nat → Nat → Int → Int}
theorem sumT_one (hU : ∀ k i j v, U k i j v = [(τ k i j, ω k i j v)]) (t : Nat × Nat × Nat) (k i j : Nat) (v : Int) : sumT t (U k i j v) = if τ k i j = t then ω k i j v else 0 := by
 rw [hU, sumT, sumT, Int.add_zero]
theorem sumT_uJ (hU : ∀ k i j v, U k i j v = [(τ k i j, ω k i j v)]) {t : Nat × Nat × Nat} {k i k0 i0 j0 : Nat} {row : List Int} (ht : τ k0 i0 j0 = t) : ∀ m, (∀ j, j < m → τ k i j = t → k = k0 ∧ i = i0 ∧ j = j0) → sumT t (uJ U k i row m) = if k = k0 ∧ i = i0 ∧ j0 < m then ω k0 i0 j0 (row.getD j0 0) else 0
 | 0, _ => by rw [uJ, sumT, if_neg (by omega)]
 | m + 1, h => by
  rw [uJ, sumT_app, sumT_uJ hU ht m (fun j hj => h j (by omega)), sumT_one hU]
  by_cases hc : τ k i m = t
  ·obtain ⟨rfl, rfl, rfl⟩ := h m (by omega) hc
   rw [if_neg (by omega), if_pos hc, if_pos ⟨rfl, rfl, by omega⟩, Int.zero_add]
  ·rw [if_neg hc, Int.add_zero]
   by_cases h1 : k = k0 ∧ i = i0 ∧ j0 < m
   ·rw [if_pos h1, if_pos ⟨h1.1, h1.2.1, by omega⟩]
   ·rw [if_neg h1, if_neg]
    rintro ⟨rfl, rfl, h2⟩
    exact hc (by rw [show m = j0 by omega]; exact ht)
theorem sumT_uI (hU : ∀ k i j v, U k i j v = [(τ k i j, ω k i j v)]) {t : Nat × Nat × Nat} {k k0 i0 j0 : Nat} {R : List (List Int)} (ht : τ k0 i0 j0 = t) : ∀ m, (∀ i, i < m → ∀ j, j < (R.getD i default).length → τ k i j = t → k = k0 ∧ i = i0 ∧ j = j0) → (k = k0 → j0 < (R.getD i0 default).length) → sumT t (uI U k R m) = if k = k0 ∧ i0 < m then ω k0 i0 j0 ((R.getD i0 default).getD j0 0) else 0
 | 0, _, _ => by rw [uI, sumT, if_neg (by omega)]
 | m + 1, h, hj0 => by
  rw [uI, sumT_app, sumT_uI hU ht m (fun i hi => h i (by omega)) hj0, sumT_uJ hU ht _ (h m (by omega))]
  by_cases hk : k = k0
  ·by_cases hm : m = i0
   ·subst hm
    rw [if_neg (by omega), if_pos ⟨hk, rfl, hj0 hk⟩, if_pos ⟨hk, by omega⟩, Int.zero_add]
   ·have e2 : ¬ (k = k0 ∧ m = i0 ∧ j0 < (R.getD m default).length) := fun e => hm e.2.1
    rw [if_neg e2, Int.add_zero]
    by_cases h1 : i0 < m
    ·rw [if_pos ⟨hk, h1⟩, if_pos ⟨hk, by omega⟩]
    ·rw [if_neg (by omega), if_neg (by omega)]
  ·rw [if_neg (fun e => hk e.1), if_neg (fun e => hk e.1), if_neg (fun e => hk e.1), Int.add_zero]
theorem sumT_uK (hU : ∀ k i j v, U k i j v = [(τ k i j, ω k i j v)]) {t : Nat × Nat × Nat} {k0 i0 j0 : Nat} {M : M3} (ht : τ k0 i0 j0 = t) : ∀ m, (∀ k, k < m → ∀ i, i < (M.getD k default).length → ∀ j, j < ((M.getD k default).getD i default).length → τ k i j = t → k = k0 ∧ i = i0 ∧ j = j0) → i0 < (M.getD k0 default).length → j0 < ((M.getD k0 default).getD i0 default).length → sumT t (uK U M m) = if k0 < m then ω k0 i0 j0 (((M.getD k0 default).getD i0 default).getD j0 0) else 0
 | 0, _, _, _ => by rw [uK, sumT, if_neg (by omega)]
 | m + 1, h, hi0, hj0 => by
  rw [uK, sumT_app, sumT_uK hU ht m (fun k hk => h k (by omega)) hi0 hj0, sumT_uI hU ht _ (h m (by omega)) (fun e => by rw [e]; exact hj0)]
  by_cases hm : m = k0
  ·subst hm
   rw [if_neg (by omega), if_pos ⟨rfl, hi0⟩, if_pos (by omega), Int.zero_add]
  ·have e2 : ¬ (m = k0 ∧ i0 < (M.getD m default).length) := fun e => hm e.1
   rw [if_neg e2, Int.add_zero]
   by_cases h1 : k0 < m
   ·rw [if_pos h1, if_pos (by omega)]
   ·rw [if_neg h1, if_neg (by omega)]
end
theorem uK_all {U : UF} {M : M3} {Q : Upd → Prop} (h : ∀ k i j, k < M.length → i < (M.getD k default).length → j < ((M.getD k default).getD i default).length → ∀ u ∈ U k i j (((M.getD k default).getD i default).getD j 0), Q u) : ∀ u ∈ uK U M M.length, Q u := by
 have hJ : ∀ k i m, k < M.length → i < (M.getD k default).length → m ≤ ((M.getD k default).getD i default).length → ∀ u ∈ uJ U k i ((M.getD k default).getD i default) m, Q u := by
  intro k i m hk hi
  induction m with
  | zero => intro _ u hu; cases hu
  | succ m ih =>
   intro hm u hu
   rcases List.mem_append.1 hu with hu | hu
   ·exact ih (by omega) u hu
   ·exact h k i m hk hi (by omega) u hu
 have hI : ∀ k m, k < M.length → m ≤ (M.getD k default).length → ∀ u ∈ uI U k (M.getD k default) m, Q u := by
  intro k m hk
  induction m with
  | zero => intro _ u hu; cases hu
  | succ m ih =>
   intro hm u hu
   rcases List.mem_append.1 hu with hu | hu
   ·exact ih (by omega) u hu
   ·exact hJ k m _ hk (by omega) (Nat.le_refl _) u hu
 have hK : ∀ m, m ≤ M.length → ∀ u ∈ uK U M m, Q u := by
  intro m
  induction m with
  | zero => intro _ u hu; cases hu
  | succ m ih =>
   intro hm u hu
   rcases List.mem_append.1 hu with hu | hu
   ·exact ih (by omega) u hu
   ·exact hI m _ (by omega) (Nat.le_refl _) u hu
 exact hK _ (Nat.le_refl _)
/-- Number j of row i of map k. -/
theorem IsC.num {X : Cx} (hC : IsC X) {k i j : Nat} (hk : k < X.maps.length) (hi : i < (X.maps.getD k default).length) (hj : j < ((X.maps.getD k default).getD i default).length) : 0 ≤ ((X.maps.getD k default).getD i default).getD j 0 ∧ ((X.maps.getD k default).getD i default).getD j 0 < X.p := ((tableP_iff.1 (hC.tb k hk)).2.at hi).2.at hj
theorem IsC.lens {X : Cx} (hC : IsC X) {k : Nat} (hk : k < X.maps.length) : ((X.maps.getD k default).length : Int) = X.dims.getD (k + 1) 0 ∧ ∀ i, i < (X.maps.getD k default).length → (((X.maps.getD k default).getD i default).length : Int) = X.dims.getD k 0 := by
 have t := tableP_iff.1 (hC.tb k hk)
 rw [show ((k : Int) + 1).toNat = k + 1 by omega] at t
 exact ⟨t.1, fun i hi => (t.2.at hi).1⟩
end Go.Proofs.Ytjjjgllbocgkbaa

namespace Go.Proofs.Ytjjjgllbocgkbaa
open Go
def lvP (X : Fl) (n i : Int) : Int := (X.lv.getD n.toNat default).getD i.toNat 0
def goodP (X : Fl) (k i j : Nat) (v : Int) : Bool := (v == 0) || decide (lvP X (k : Int) (j : Int) ≤ lvP X ((k : Int) + 1) (i : Int))
def upJ (X : Fl) (k i : Nat) (row : List Int) (m : Nat) : Bool := (List.range m).all fun j => goodP X k i j (row.getD j 0)
def upI (X : Fl) (k : Nat) (R : List (List Int)) (m : Nat) : Bool := (List.range m).all fun i => upJ X k i (R.getD i default) (R.getD i default).length
def upK (X : Fl) (M : List (List (List Int))) (m : Nat) : Bool := (List.range m).all fun k => upI X k (M.getD k default) (M.getD k default).length
theorem all_range_succ {f : Nat → Bool} {m : Nat} : (List.range (m + 1)).all f = ((List.range m).all f && f m) := by
 rw [List.range_succ, List.all_append]; simp
theorem all_range_t {f : Nat → Bool} {m : Nat} : (List.range m).all f = true ↔ ∀ q, q < m → f q = true := by
 rw [List.all_eq_true]
 exact ⟨fun h q hq => h q (List.mem_range.2 hq), fun h q hq => h q (List.mem_range.1 hq)⟩
structure IsF (X : Fl) : Prop where
 c : IsC X.c
 ln : X.lv.length = X.c.dims.length
 rl : ∀ n, n < X.lv.length → ((X.lv.getD n default).length : Int) = X.c.dims.getD n 0
 rr : ∀ n, n < X.lv.length → (X.lv.getD n default).all (fun q => in3 q 0 5) = true
 up : upK X X.c.maps X.c.maps.length = true
noncomputable def isF (X : Fl) : Bool := @decide (IsF X) (Classical.propDecidable _)
theorem isF_t {X : Fl} : isF X = true ↔ IsF X := by
 unfold isF
 exact @decide_eq_true_iff _ (Classical.propDecidable _)
theorem isF_no {X : Fl} (h : ¬ IsF X) : false = isF X := by
 cases e : isF X
 ·rfl
 ·exact absurd (isF_t.1 e) h
theorem isF_yes {X : Fl} (h : IsF X) : true = isF X := (isF_t.2 h).symm
/-- What the lengths of maps say of those of the levels. -/
theorem up_lens {X : Fl} (hC : IsC X.c) (ln : X.lv.length = X.c.dims.length) (rl : ∀ n, n < X.lv.length → ((X.lv.getD n default).length : Int) = X.c.dims.getD n 0) {k i j : Nat} (hk : k < X.c.maps.length) (hi : i < (X.c.maps.getD k default).length) (hj : j < ((X.c.maps.getD k default).getD i default).length) : k + 1 < X.lv.length ∧ i < (X.lv.getD (k + 1) default).length ∧ j < (X.lv.getD k default).length := by
 have hm := hC.ml
 have l := hC.lens hk
 have l2 := l.2 i hi
 have r1 := rl (k + 1) (by omega)
 have r2 := rl k (by omega)
 exact ⟨by omega, by omega, by omega⟩

set_option maxRecDepth 100000 in
theorem eachG_ok (Rel : Nat → Nat → Nat → Heap → Prop) (fpC : List Nat) (g : FuncId) (cs : Array Value) (X : Cx) (vd vm : Value) (h0 : Heap) (hd : R1 h0 vd X.dims) (hm : R3 h0 vm X.maps) (h : Heap) (hR : Rel 0 0 0 h) (hRe : ∀ k i j H H', Rel k i j H → Ext H H' → Rel k i j H') (hR0 : ∀ k i j H, Rel k i j H → Ext h0 H) (hK : ∀ k H, k < X.maps.length → Rel k (X.maps.getD k default).length 0 H → Rel (k + 1) 0 0 H) (hI : ∀ k i H, k < X.maps.length → i < (X.maps.getD k default).length → Rel k i ((X.maps.getD k default).getD i default).length H → Rel k (i + 1) 0 H) (hfp : ∀ b ∈ fpC, b < h.size) (hst : ∀ H k i j, k < X.maps.length → i < (X.maps.getD k default).length → j < ((X.maps.getD k default).getD i default).length → Rel k i j H → CallA Try.prog g (#[.int .i64 ((k : Int) + 1), .int .i64 (i : Int), .int .i64 (j : Int), .int .i64 (((X.maps.getD k default).getD i default).getD j 0)] ++ cs) H fun u H' => Rel k i (j + 1) H' ∧ Chg fpC H H') : CallA Try.prog 75 #[.agg #[.int .i64 X.p, vd, vm], .func (.func g) #[] cs] h fun v' h' => v' = .tuple #[] ∧ Rel X.maps.length 0 0 h' ∧ Chg fpC h h' := by
 have hle := RdS.le hd
 have hlm := RdS.le hm
 have eB := hR0 _ _ _ _ hR
 refine callA_intro TTok (args := [_, _]) Try.func75 (by kernel_rfl) rfl 42 rfl (by simp) [] rfl ?_
 simp only [idxs, Nat.reduceAdd]
 refine den_seq ?_
 refine den_region TTok ?_
 intro K hK
 simp -implicitDefEqProofs (disch := first | decide | assumption | omega) only [go_sem, RdS.len hd sl22, RdS.idx hd sl22, R1.intB hd (Ext.pres eB), RdS.cells hd, RdS.len hm sl23, RdS.idx hm sl23, RdS.cellB hm (Ext.pres eB), RdS.cells hm, wrap_id]
 refine op_box (cs := #[.int .i64 (X.p), vd, vm]) rfl ?_
 intro h0_0 e0_0 hb0_0 z0_0
 have := Ext.size e0_0
 replace eB := Ext.trans eB e0_0
 try simp -implicitDefEqProofs (disch := first | decide | assumption | omega) only [go_sem, RdS.len hd sl22, RdS.idx hd sl22, R1.intB hd (Ext.pres eB), RdS.cells hd, RdS.len hm sl23, RdS.idx hm sl23, RdS.cellB hm (Ext.pres eB), RdS.cells hm, BoxAt.cell hb0_0, wrap_id]
 refine hK _ _ ?_
 clear hK K
 refine den_seq ?_
 refine den_region TTok ?_
 intro K hK
 simp -implicitDefEqProofs (disch := first | decide | assumption | omega) only [go_sem, fa31_2, ld23, RdS.len hd sl22, RdS.idx hd sl22, R1.intB hd (Ext.pres eB), RdS.cells hd, RdS.len hm sl23, RdS.idx hm sl23, RdS.cellB hm (Ext.pres eB), RdS.cells hm, BoxAt.cell hb0_0, wrap_id]
 refine hK _ _ ?_
 clear hK K
 refine den_block ?_
 refine den_sel [13, 1, 11, 12] ?_
 intro env_1
 simp only [go_sem]
 refine den_loopS (σ := Nat) (fun s => [(13, .int .i64 (s : Int))]) (fun s H => Ext h0 H ∧ s ≤ X.maps.length ∧ Rel s 0 0 H ∧ Chg fpC h H ∧ BoxAt H h.size #[.int .i64 X.p, vd, vm] 31) (fun s => X.maps.length - s) 0 ?_ ?_
 ·exact ⟨eB, by omega, hRe _ _ _ _ _ hR e0_0, Ext.chg e0_0 _, hb0_0⟩
 ·rintro k h4 ee3 ⟨eB, hk, hR, hch, hb⟩
  simp only [List.cons_append, List.nil_append]
  have := Ext.size eB
  refine den_seq ?_
  refine den_region TTok ?_
  intro K hK
  simp -implicitDefEqProofs (disch := first | decide | assumption | omega) only [go_sem, RdS.len hd sl22, RdS.idx hd sl22, R1.intB hd (Ext.pres eB), RdS.cells hd, RdS.len hm sl23, RdS.idx hm sl23, RdS.cellB hm (Ext.pres eB), RdS.cells hm, BoxAt.cell hb, wrap_id]
  refine hK _ _ ?_
  clear hK K
  refine den_seq ?_
  refine den_cond rfl (fun c0 => ?_) (fun c0 => ?_)
  ·try simp only [decide_eq_true_eq, decide_eq_false_iff_not, beq_iff_eq, beq_eq_false_iff_ne, bne_iff_ne, ne_eq, Bool.not_eq_true', Bool.not_eq_false', Bool.and_eq_true, Bool.or_eq_true, bne_eq_false_iff_eq] at c0
   refine den_skip ?_
   refine den_seq ?_
   refine den_block ?_
   refine den_seq ?_
   refine den_region TTok ?_
   intro K hK
   have hr5 := RdS.rowN hm k (by omega)
   have hlhr5 := RdS.le hr5
   simp -implicitDefEqProofs (disch := first | decide | assumption | omega) only [go_sem, ld26, RdS.len hd sl22, RdS.idx hd sl22, R1.intB hd (Ext.pres eB), RdS.cells hd, RdS.len hm sl23, RdS.idx hm sl23, RdS.cellB hm (Ext.pres eB), RdS.cells hm, RdS.len hr5 sl26, RdS.idx hr5 sl26, RdS.cellB hr5 (Ext.pres eB), RdS.cells hr5, BoxAt.cell hb, wrap_id]
   refine hK _ _ ?_
   clear hK K
   refine den_seq ?_
   refine den_region TTok ?_
   intro K hK
   simp -implicitDefEqProofs (disch := first | decide | assumption | omega) only [go_sem, RdS.len hd sl22, RdS.idx hd sl22, R1.intB hd (Ext.pres eB), RdS.cells hd, RdS.len hm sl23, RdS.idx hm sl23, RdS.cellB hm (Ext.pres eB), RdS.cells hm, RdS.len hr5 sl26, RdS.idx hr5 sl26, RdS.cellB hr5 (Ext.pres eB), RdS.cells hr5, BoxAt.cell hb, wrap_id]
   refine hK _ _ ?_
   clear hK K
   refine den_block ?_
   refine den_sel [20, 1, 4, 11, 12, 13, 18, 19] ?_
   intro env_6
   simp only [go_sem]
   refine den_loopS (σ := Nat) (fun s => [(20, .int .i64 (s : Int))]) (fun s H => Ext h0 H ∧ s ≤ (X.maps.getD k default).length ∧ Rel k s 0 H ∧ Chg fpC h H ∧ BoxAt H h.size #[.int .i64 X.p, vd, vm] 31) (fun s => (X.maps.getD k default).length - s) 0 ?_ ?_
   ·exact ⟨eB, by omega, hR, hch, hb⟩
   ·rintro i h9 ee8 ⟨eB, hi, hR, hch, hb⟩
    simp only [List.cons_append, List.nil_append]
    have := Ext.size eB
    refine den_seq ?_
    refine den_region TTok ?_
    intro K hK
    simp -implicitDefEqProofs (disch := first | decide | assumption | omega) only [go_sem, RdS.len hd sl22, RdS.idx hd sl22, R1.intB hd (Ext.pres eB), RdS.cells hd, RdS.len hm sl23, RdS.idx hm sl23, RdS.cellB hm (Ext.pres eB), RdS.cells hm, RdS.len hr5 sl26, RdS.idx hr5 sl26, RdS.cellB hr5 (Ext.pres eB), RdS.cells hr5, BoxAt.cell hb, wrap_id]
    refine hK _ _ ?_
    clear hK K
    refine den_seq ?_
    refine den_cond rfl (fun c1 => ?_) (fun c1 => ?_)
    ·try simp only [decide_eq_true_eq, decide_eq_false_iff_not, beq_iff_eq, beq_eq_false_iff_ne, bne_iff_ne, ne_eq, Bool.not_eq_true', Bool.not_eq_false', Bool.and_eq_true, Bool.or_eq_true, bne_eq_false_iff_eq] at c1
     refine den_skip ?_
     refine den_seq ?_
     refine den_block ?_
     refine den_seq ?_
     refine den_region TTok ?_
     intro K hK
     have hr10 := RdS.rowN hr5 i (by omega)
     have hlhr10 := RdS.le hr10
     simp -implicitDefEqProofs (disch := first | decide | assumption | omega) only [go_sem, ld22, RdS.len hd sl22, RdS.idx hd sl22, R1.intB hd (Ext.pres eB), RdS.cells hd, RdS.len hm sl23, RdS.idx hm sl23, RdS.cellB hm (Ext.pres eB), RdS.cells hm, RdS.len hr5 sl26, RdS.idx hr5 sl26, RdS.cellB hr5 (Ext.pres eB), RdS.cells hr5, RdS.len hr10 sl22, RdS.idx hr10 sl22, R1.intB hr10 (Ext.pres eB), RdS.cells hr10, BoxAt.cell hb, wrap_id]
     refine hK _ _ ?_
     clear hK K
     refine den_seq ?_
     refine den_region TTok ?_
     intro K hK
     simp -implicitDefEqProofs (disch := first | decide | assumption | omega) only [go_sem, RdS.len hd sl22, RdS.idx hd sl22, R1.intB hd (Ext.pres eB), RdS.cells hd, RdS.len hm sl23, RdS.idx hm sl23, RdS.cellB hm (Ext.pres eB), RdS.cells hm, RdS.len hr5 sl26, RdS.idx hr5 sl26, RdS.cellB hr5 (Ext.pres eB), RdS.cells hr5, RdS.len hr10 sl22, RdS.idx hr10 sl22, R1.intB hr10 (Ext.pres eB), RdS.cells hr10, BoxAt.cell hb, wrap_id]
     refine hK _ _ ?_
     clear hK K
     refine den_block ?_
     refine den_sel [27, 1, 4, 6, 11, 12, 13, 18, 19, 20, 25, 26] ?_
     intro env_11
     simp only [go_sem]
     refine den_loopS (σ := Nat) (fun s => [(27, .int .i64 (s : Int))]) (fun s H => Ext h0 H ∧ s ≤ ((X.maps.getD k default).getD i default).length ∧ Rel k i s H ∧ Chg fpC h H ∧ BoxAt H h.size #[.int .i64 X.p, vd, vm] 31) (fun s => ((X.maps.getD k default).getD i default).length - s) 0 ?_ ?_
     ·exact ⟨eB, by omega, hR, hch, hb⟩
     ·rintro j h14 ee13 ⟨eB, hj, hR, hch, hb⟩
      simp only [List.cons_append, List.nil_append]
      have := Ext.size eB
      refine den_seq ?_
      refine den_region TTok ?_
      intro K hK
      simp -implicitDefEqProofs (disch := first | decide | assumption | omega) only [go_sem, RdS.len hd sl22, RdS.idx hd sl22, R1.intB hd (Ext.pres eB), RdS.cells hd, RdS.len hm sl23, RdS.idx hm sl23, RdS.cellB hm (Ext.pres eB), RdS.cells hm, RdS.len hr5 sl26, RdS.idx hr5 sl26, RdS.cellB hr5 (Ext.pres eB), RdS.cells hr5, RdS.len hr10 sl22, RdS.idx hr10 sl22, R1.intB hr10 (Ext.pres eB), RdS.cells hr10, BoxAt.cell hb, wrap_id]
      refine hK _ _ ?_
      clear hK K
      refine den_seq ?_
      refine den_cond rfl (fun c2 => ?_) (fun c2 => ?_)
      ·try simp only [decide_eq_true_eq, decide_eq_false_iff_not, beq_iff_eq, beq_eq_false_iff_ne, bne_iff_ne, ne_eq, Bool.not_eq_true', Bool.not_eq_false', Bool.and_eq_true, Bool.or_eq_true, bne_eq_false_iff_eq] at c2
       refine den_skip ?_
       refine den_seq ?_
       refine den_block ?_
       refine den_seq ?_
       refine den_region TTok ?_
       intro K hK
       simp -implicitDefEqProofs (disch := first | decide | assumption | omega) only [go_sem, ld2, RdS.len hd sl22, RdS.idx hd sl22, R1.intB hd (Ext.pres eB), RdS.cells hd, RdS.len hm sl23, RdS.idx hm sl23, RdS.cellB hm (Ext.pres eB), RdS.cells hm, RdS.len hr5 sl26, RdS.idx hr5 sl26, RdS.cellB hr5 (Ext.pres eB), RdS.cells hr5, RdS.len hr10 sl22, RdS.idx hr10 sl22, R1.intB hr10 (Ext.pres eB), RdS.cells hr10, BoxAt.cell hb, wrap_id]
       refine hK _ _ ?_
       clear hK K
       refine den_region TTok ?_
       intro K hK
       simp -implicitDefEqProofs (disch := first | decide | assumption | omega) only [go_sem, RdS.len hd sl22, RdS.idx hd sl22, R1.intB hd (Ext.pres eB), RdS.cells hd, RdS.len hm sl23, RdS.idx hm sl23, RdS.cellB hm (Ext.pres eB), RdS.cells hm, RdS.len hr5 sl26, RdS.idx hr5 sl26, RdS.cellB hr5 (Ext.pres eB), RdS.cells hr5, RdS.len hr10 sl22, RdS.idx hr10 sl22, R1.intB hr10 (Ext.pres eB), RdS.cells hr10, BoxAt.cell hb, wrap_id]
       try simp -implicitDefEqProofs (disch := first | decide | assumption | omega) only [go_sem, RdS.len hd sl22, RdS.idx hd sl22, R1.intB hd (Ext.pres eB), RdS.cells hd, RdS.len hm sl23, RdS.idx hm sl23, RdS.cellB hm (Ext.pres eB), RdS.cells hm, RdS.len hr5 sl26, RdS.idx hr5 sl26, RdS.cellB hr5 (Ext.pres eB), RdS.cells hr5, RdS.len hr10 sl22, RdS.idx hr10 sl22, R1.intB hr10 (Ext.pres eB), RdS.cells hr10, BoxAt.cell hb, wrap_id]
       refine CallA.mono (hst _ k i j (by omega) (by omega) (by omega) hR) ?_
       intro u h10_6
       rintro ⟨hR2, cv⟩
       have hbl := hb.lt
       replace hb := BoxAt.chg hb cv (fun hm => by have := hfp _ hm; omega)
       replace hch := hch.trans cv
       replace eB := hR0 _ _ _ _ hR2
       try simp -implicitDefEqProofs (disch := first | decide | assumption | omega) only [go_sem, RdS.len hd sl22, RdS.idx hd sl22, R1.intB hd (Ext.pres eB), RdS.cells hd, RdS.len hm sl23, RdS.idx hm sl23, RdS.cellB hm (Ext.pres eB), RdS.cells hm, RdS.len hr5 sl26, RdS.idx hr5 sl26, RdS.cellB hr5 (Ext.pres eB), RdS.cells hr5, RdS.len hr10 sl22, RdS.idx hr10 sl22, R1.intB hr10 (Ext.pres eB), RdS.cells hr10, BoxAt.cell hb, wrap_id]
       refine hK _ _ ?_
       clear hK K
       refine den_blk ?_
       refine den_region TTok ?_
       intro K hK
       simp -implicitDefEqProofs (disch := first | decide | assumption | omega) only [go_sem, RdS.len hd sl22, RdS.idx hd sl22, R1.intB hd (Ext.pres eB), RdS.cells hd, RdS.len hm sl23, RdS.idx hm sl23, RdS.cellB hm (Ext.pres eB), RdS.cells hm, RdS.len hr5 sl26, RdS.idx hr5 sl26, RdS.cellB hr5 (Ext.pres eB), RdS.cells hr5, RdS.len hr10 sl22, RdS.idx hr10 sl22, R1.intB hr10 (Ext.pres eB), RdS.cells hr10, BoxAt.cell hb, wrap_id]
       refine hK _ _ ?_
       clear hK K
       refine den_stop ?_
       exact ⟨j + 1, by simp [HasL, puts_at], ⟨eB, by omega, hR2, hch, hb⟩, by omega⟩
      ·try simp only [decide_eq_true_eq, decide_eq_false_iff_not, beq_iff_eq, beq_eq_false_iff_ne, bne_iff_ne, ne_eq, Bool.not_eq_true', Bool.not_eq_false', Bool.and_eq_true, Bool.or_eq_true, bne_eq_false_iff_eq] at c2
       refine den_exit ?_
       refine denX_code ?_
       refine denX_stop ?_
       refine denX_hit ?_
       refine den_blk ?_
       refine den_region TTok ?_
       intro K hK
       simp -implicitDefEqProofs (disch := first | decide | assumption | omega) only [go_sem, RdS.len hd sl22, RdS.idx hd sl22, R1.intB hd (Ext.pres eB), RdS.cells hd, RdS.len hm sl23, RdS.idx hm sl23, RdS.cellB hm (Ext.pres eB), RdS.cells hm, RdS.len hr5 sl26, RdS.idx hr5 sl26, RdS.cellB hr5 (Ext.pres eB), RdS.cells hr5, RdS.len hr10 sl22, RdS.idx hr10 sl22, R1.intB hr10 (Ext.pres eB), RdS.cells hr10, BoxAt.cell hb, wrap_id]
       refine hK _ _ ?_
       clear hK K
       refine den_stop ?_
       refine ⟨i + 1, by simp [HasL, puts_at], ⟨eB, by omega, hI _ _ _ (by omega) (by omega) ?_, hch, hb⟩, by omega⟩
       rw [show ((X.maps.getD k default).getD i default).length = j by omega]
       exact hR
    ·try simp only [decide_eq_true_eq, decide_eq_false_iff_not, beq_iff_eq, beq_eq_false_iff_ne, bne_iff_ne, ne_eq, Bool.not_eq_true', Bool.not_eq_false', Bool.and_eq_true, Bool.or_eq_true, bne_eq_false_iff_eq] at c1
     refine den_exit ?_
     refine denX_code ?_
     refine denX_stop ?_
     refine denX_hit ?_
     refine den_blk ?_
     refine den_region TTok ?_
     intro K hK
     simp -implicitDefEqProofs (disch := first | decide | assumption | omega) only [go_sem, RdS.len hd sl22, RdS.idx hd sl22, R1.intB hd (Ext.pres eB), RdS.cells hd, RdS.len hm sl23, RdS.idx hm sl23, RdS.cellB hm (Ext.pres eB), RdS.cells hm, RdS.len hr5 sl26, RdS.idx hr5 sl26, RdS.cellB hr5 (Ext.pres eB), RdS.cells hr5, BoxAt.cell hb, wrap_id]
     refine hK _ _ ?_
     clear hK K
     refine den_stop ?_
     refine ⟨k + 1, by simp [HasL, puts_at], ⟨eB, by omega, hK _ _ (by omega) ?_, hch, hb⟩, by omega⟩
     rw [show (X.maps.getD k default).length = i by omega]
     exact hR
  ·try simp only [decide_eq_true_eq, decide_eq_false_iff_not, beq_iff_eq, beq_eq_false_iff_ne, bne_iff_ne, ne_eq, Bool.not_eq_true', Bool.not_eq_false', Bool.and_eq_true, Bool.or_eq_true, bne_eq_false_iff_eq] at c0
   refine den_exit ?_
   refine denX_code ?_
   refine denX_stop ?_
   refine denX_hit ?_
   refine den_nil ?_
   simp (disch := decide) only [resP_0, puts_same, puts_ne]
   rw [show X.maps.length = k by omega]
   exact ⟨by first | rfl | trivial, hR, hch⟩

set_option maxRecDepth 100000 in
theorem isF1_ok (x : Int) (h : Heap) : CallA Try.prog 73 #[.int .i64 x] h fun v h' => v = .bool (!in3 x 0 5) ∧ h' = h := by
 refine callA_intro TTok (args := [_]) Try.func73 (by kernel_rfl) rfl 6 rfl (by simp) [.tmp 2] rfl ?_
 simp only [idxs, Nat.reduceAdd]
 refine den_seq ?_
 refine den_region TTok ?_
 intro K hK
 simp -implicitDefEqProofs (disch := first | decide | assumption | omega) only [go_sem]
 refine hK _ _ ?_
 clear hK K
 refine den_seq ?_
 refine den_region TTok ?_
 intro K hK
 simp -implicitDefEqProofs (disch := first | decide | assumption | omega) only [go_sem]
 try simp -implicitDefEqProofs (disch := first | decide | assumption | omega) only [go_sem]
 refine CallA.pure (iIn_ok _ _ _ _) ?_
 try simp -implicitDefEqProofs (disch := first | decide | assumption | omega) only [go_sem]
 refine hK _ _ ?_
 clear hK K
 refine den_ret ?_
 simp (disch := decide) only [resP_1, puts_same, puts_ne]
 exact ⟨by first | rfl | trivial, trivial⟩

set_option maxRecDepth 100000 in
theorem isF2_ok (X : Fl) (vdX vmX vvX : Value) (k i j : Nat) (x : Int) (b : Bool) (bB bX : Nat) (h0 h : Heap) (hdX : R1 h0 vdX X.c.dims) (hmX : R3 h0 vmX X.c.maps) (hvX : R2 h0 vvX X.lv) (eB : Ext h0 h) (hbB : BoxAt h bB #[.bool b] 4) (hbX : BoxAt h bX #[.int .i64 X.c.p, vdX, vmX, vvX] 33) (hne : bB ≠ bX) (hB0 : h0.size ≤ bB) (hk : k + 1 < X.lv.length) (hi : i < (X.lv.getD (k + 1) default).length) (hj : j < (X.lv.getD k default).length) : CallA Try.prog 76 #[.int .i64 ((k : Int) + 1), .int .i64 (i : Int), .int .i64 (j : Int), .int .i64 x, .pointer (some ⟨bB, 0, none⟩), .pointer (some ⟨bX, 0, none⟩)] h fun v' h' => v' = .tuple #[] ∧ BoxAt h' bB #[.bool (b && goodP X k i j x)] 4 ∧ Chg [bB] h h' := by
 have hlv := RdS.le hvX
 have hj' : j < (X.lv.getD ((k : Int) + 1 - 1).toNat default).length := by rw [show ((k : Int) + 1 - 1).toNat = k by omega]; exact hj
 have hi' : i < (X.lv.getD ((k : Int) + 1).toNat default).length := by rw [show ((k : Int) + 1).toNat = k + 1 by omega]; exact hi
 have ek : ((k : Int) + 1).toNat = k + 1 := by omega
 refine callA_intro TTok (args := [_, _, _, _, _, _]) Try.func76 (by kernel_rfl) rfl 35 rfl (by simp) [] rfl ?_
 simp only [idxs, Nat.reduceAdd]
 refine den_draw TTok mixed [25] [(0, true), (1, true), (2, true), (3, true), (4, true), (5, true), (6, true), (7, true), (8, true), (9, true), (10, true), (11, true), (12, true), (13, true), (14, true), (15, true), (16, true), (17, true), (18, true), (19, true), (20, true), (21, true), (22, true), (23, true), (24, true), (25, false)] (by kernel_rfl) ?_
 intro K hK
 simp -implicitDefEqProofs (disch := first | decide | assumption | (simp (disch := decide) only [slotOf_zero, slotOf_succ, Option.map_some, puts_same, puts_ne, gv_bool, gv_undef, tt, tf, ft, ff, eq_self, if_true, if_false, Bool.false_eq_true, Bool.not_true, Bool.not_false]; done) | omega) only [go_sem, ld4, RdS.len hdX sl22, RdS.idx hdX sl22, R1.intB hdX (Ext.pres eB), RdS.cells hdX, RdS.len hmX sl23, RdS.idx hmX sl23, RdS.cellB hmX (Ext.pres eB), RdS.cells hmX, RdS.len hvX sl26, RdS.idx hvX sl26, RdS.cellB hvX (Ext.pres eB), RdS.cells hvX, BoxAt.cell hbB, BoxAt.cell hbX, wrap_id]
 refine plG_T (by simp (disch := decide) only [slotOf_zero, slotOf_succ, Option.map_some, puts_same, puts_ne, gv_bool, gv_undef, tt, tf, ft, ff, eq_self, if_true, if_false, Bool.false_eq_true, Bool.not_true, Bool.not_false]; rfl) (fun g1 => ?_) (fun g1 => ?_)
 ·try simp -implicitDefEqProofs (disch := first | decide | assumption | (simp (disch := decide) only [slotOf_zero, slotOf_succ, Option.map_some, puts_same, puts_ne, gv_bool, gv_undef, tt, tf, ft, ff, eq_self, if_true, if_false, Bool.false_eq_true, Bool.not_true, Bool.not_false, g1]; done) | omega) only [go_sem, RdS.len hdX sl22, RdS.idx hdX sl22, R1.intB hdX (Ext.pres eB), RdS.cells hdX, RdS.len hmX sl23, RdS.idx hmX sl23, RdS.cellB hmX (Ext.pres eB), RdS.cells hmX, RdS.len hvX sl26, RdS.idx hvX sl26, RdS.cellB hvX (Ext.pres eB), RdS.cells hvX, BoxAt.cell hbB, BoxAt.cell hbX, wrap_id, g1, eq_self, if_true, if_false, Bool.false_eq_true]
  refine plG_F (by simp (disch := decide) only [slotOf_zero, slotOf_succ, Option.map_some, puts_same, puts_ne, gv_bool, gv_undef, tt, tf, ft, ff, eq_self, if_true, if_false, Bool.false_eq_true, Bool.not_true, Bool.not_false, g1]; rfl) (fun g2 => ?_) (fun g2 => ?_)
  ·have hr3 := RdS.rowN hvX ((((k : Int) + 1) - (1 : Int))).toNat (by omega)
   have hlhr3 := RdS.le hr3
   have hr4 := RdS.rowN hvX (((k : Int) + 1)).toNat (by omega)
   have hlhr4 := RdS.le hr4
   try simp -implicitDefEqProofs (disch := first | decide | assumption | (simp (disch := decide) only [slotOf_zero, slotOf_succ, Option.map_some, puts_same, puts_ne, gv_bool, gv_undef, tt, tf, ft, ff, eq_self, if_true, if_false, Bool.false_eq_true, Bool.not_true, Bool.not_false, g1, g2]; done) | omega) only [go_sem, fa33_1, ld26, ld22, ld2, RdS.len hdX sl22, RdS.idx hdX sl22, R1.intB hdX (Ext.pres eB), RdS.cells hdX, RdS.len hmX sl23, RdS.idx hmX sl23, RdS.cellB hmX (Ext.pres eB), RdS.cells hmX, RdS.len hvX sl26, RdS.idx hvX sl26, RdS.cellB hvX (Ext.pres eB), RdS.cells hvX, RdS.len hr3 sl22, RdS.idx hr3 sl22, R1.intB hr3 (Ext.pres eB), RdS.cells hr3, RdS.len hr4 sl22, RdS.idx hr4 sl22, R1.intB hr4 (Ext.pres eB), RdS.cells hr4, BoxAt.cell hbB, BoxAt.cell hbX, wrap_id, g1, g2, eq_self, if_true, if_false, Bool.false_eq_true]
   refine op_storeB (o := 0) (vs := #[.bool ((b && goodP X k i j x))]) (cs' := #[.bool ((b && goodP X k i j x))]) st4 hbB ?_ ?_ rfl (by simp) (allOne_mem (l := [.bool ((b && goodP X k i j x))]) ⟨rfl, trivial⟩) rfl ?_
   ·rfl
   ·simp (disch := decide) [go_sem, goodP, lvP, ek, g1, g2]
   intro h0_25 hbB c0_25
   replace hbX := BoxAt.chg hbX c0_25 (by simp; omega)
   have := c0_25.size
   replace eB := Ext.then eB c0_25 (fun b hb => by simp at hb; omega)
   try simp (disch := decide) only [outv_some, outv_none, put_puts]
   refine plK_last (by decide) ?_
   try simp -implicitDefEqProofs (disch := first | decide | assumption | (simp (disch := decide) only [slotOf_zero, slotOf_succ, Option.map_some, puts_same, puts_ne, gv_bool, gv_undef, tt, tf, ft, ff, eq_self, if_true, if_false, Bool.false_eq_true, Bool.not_true, Bool.not_false, g1, g2]; done) | omega) only [go_sem, RdS.len hdX sl22, RdS.idx hdX sl22, R1.intB hdX (Ext.pres eB), RdS.cells hdX, RdS.len hmX sl23, RdS.idx hmX sl23, RdS.cellB hmX (Ext.pres eB), RdS.cells hmX, RdS.len hvX sl26, RdS.idx hvX sl26, RdS.cellB hvX (Ext.pres eB), RdS.cells hvX, RdS.len hr3 sl22, RdS.idx hr3 sl22, R1.intB hr3 (Ext.pres eB), RdS.cells hr3, RdS.len hr4 sl22, RdS.idx hr4 sl22, R1.intB hr4 (Ext.pres eB), RdS.cells hr4, BoxAt.cell hbB, BoxAt.cell hbX, wrap_id, g1, g2, eq_self, if_true, if_false, Bool.false_eq_true]
   refine hK _ _ ?_
   clear hK K
   refine den_nil ?_
   simp (disch := decide) only [resP_0, puts_same, puts_ne]
   exact ⟨by first | rfl | trivial, hbB, c0_25⟩
  ·try simp -implicitDefEqProofs (disch := first | decide | assumption | (simp (disch := decide) only [slotOf_zero, slotOf_succ, Option.map_some, puts_same, puts_ne, gv_bool, gv_undef, tt, tf, ft, ff, eq_self, if_true, if_false, Bool.false_eq_true, Bool.not_true, Bool.not_false, g1, g2]; done) | omega) only [go_sem, RdS.len hdX sl22, RdS.idx hdX sl22, R1.intB hdX (Ext.pres eB), RdS.cells hdX, RdS.len hmX sl23, RdS.idx hmX sl23, RdS.cellB hmX (Ext.pres eB), RdS.cells hmX, RdS.len hvX sl26, RdS.idx hvX sl26, RdS.cellB hvX (Ext.pres eB), RdS.cells hvX, BoxAt.cell hbB, BoxAt.cell hbX, wrap_id, g1, g2, eq_self, if_true, if_false, Bool.false_eq_true]
   refine op_storeB (o := 0) (vs := #[.bool ((b && goodP X k i j x))]) (cs' := #[.bool ((b && goodP X k i j x))]) st4 hbB ?_ ?_ rfl (by simp) (allOne_mem (l := [.bool ((b && goodP X k i j x))]) ⟨rfl, trivial⟩) rfl ?_
   ·rfl
   ·simp (disch := decide) [go_sem, goodP, lvP, ek, g1, g2]
   intro h0_25_1 hbB c0_25_1
   replace hbX := BoxAt.chg hbX c0_25_1 (by simp; omega)
   have := c0_25_1.size
   replace eB := Ext.then eB c0_25_1 (fun b hb => by simp at hb; omega)
   try simp (disch := decide) only [outv_some, outv_none, put_puts]
   refine plK_last (by decide) ?_
   try simp -implicitDefEqProofs (disch := first | decide | assumption | (simp (disch := decide) only [slotOf_zero, slotOf_succ, Option.map_some, puts_same, puts_ne, gv_bool, gv_undef, tt, tf, ft, ff, eq_self, if_true, if_false, Bool.false_eq_true, Bool.not_true, Bool.not_false, g1, g2]; done) | omega) only [go_sem, RdS.len hdX sl22, RdS.idx hdX sl22, R1.intB hdX (Ext.pres eB), RdS.cells hdX, RdS.len hmX sl23, RdS.idx hmX sl23, RdS.cellB hmX (Ext.pres eB), RdS.cells hmX, RdS.len hvX sl26, RdS.idx hvX sl26, RdS.cellB hvX (Ext.pres eB), RdS.cells hvX, BoxAt.cell hbB, BoxAt.cell hbX, wrap_id, g1, g2, eq_self, if_true, if_false, Bool.false_eq_true]
   refine hK _ _ ?_
   clear hK K
   refine den_nil ?_
   simp (disch := decide) only [resP_0, puts_same, puts_ne]
   exact ⟨by first | rfl | trivial, hbB, c0_25_1⟩
 ·try simp -implicitDefEqProofs (disch := first | decide | assumption | (simp (disch := decide) only [slotOf_zero, slotOf_succ, Option.map_some, puts_same, puts_ne, gv_bool, gv_undef, tt, tf, ft, ff, eq_self, if_true, if_false, Bool.false_eq_true, Bool.not_true, Bool.not_false, g1]; done) | omega) only [go_sem, RdS.len hdX sl22, RdS.idx hdX sl22, R1.intB hdX (Ext.pres eB), RdS.cells hdX, RdS.len hmX sl23, RdS.idx hmX sl23, RdS.cellB hmX (Ext.pres eB), RdS.cells hmX, RdS.len hvX sl26, RdS.idx hvX sl26, RdS.cellB hvX (Ext.pres eB), RdS.cells hvX, BoxAt.cell hbB, BoxAt.cell hbX, wrap_id, g1, eq_self, if_true, if_false, Bool.false_eq_true]
  try simp -implicitDefEqProofs (disch := first | decide | assumption | (simp (disch := decide) only [slotOf_zero, slotOf_succ, Option.map_some, puts_same, puts_ne, gv_bool, gv_undef, tt, tf, ft, ff, eq_self, if_true, if_false, Bool.false_eq_true, Bool.not_true, Bool.not_false, g1]; done) | omega) only [go_sem, RdS.len hdX sl22, RdS.idx hdX sl22, R1.intB hdX (Ext.pres eB), RdS.cells hdX, RdS.len hmX sl23, RdS.idx hmX sl23, RdS.cellB hmX (Ext.pres eB), RdS.cells hmX, RdS.len hvX sl26, RdS.idx hvX sl26, RdS.cellB hvX (Ext.pres eB), RdS.cells hvX, BoxAt.cell hbB, BoxAt.cell hbX, wrap_id, g1, eq_self, if_true, if_false, Bool.false_eq_true]
  refine op_storeB (o := 0) (vs := #[.bool ((b && goodP X k i j x))]) (cs' := #[.bool ((b && goodP X k i j x))]) st4 hbB ?_ ?_ rfl (by simp) (allOne_mem (l := [.bool ((b && goodP X k i j x))]) ⟨rfl, trivial⟩) rfl ?_
  ·rfl
  ·simp (disch := decide) [go_sem, goodP, lvP, ek, g1]
  intro h0_25_2 hbB c0_25_2
  replace hbX := BoxAt.chg hbX c0_25_2 (by simp; omega)
  have := c0_25_2.size
  replace eB := Ext.then eB c0_25_2 (fun b hb => by simp at hb; omega)
  try simp (disch := decide) only [outv_some, outv_none, put_puts]
  refine plK_last (by decide) ?_
  try simp -implicitDefEqProofs (disch := first | decide | assumption | (simp (disch := decide) only [slotOf_zero, slotOf_succ, Option.map_some, puts_same, puts_ne, gv_bool, gv_undef, tt, tf, ft, ff, eq_self, if_true, if_false, Bool.false_eq_true, Bool.not_true, Bool.not_false, g1]; done) | omega) only [go_sem, RdS.len hdX sl22, RdS.idx hdX sl22, R1.intB hdX (Ext.pres eB), RdS.cells hdX, RdS.len hmX sl23, RdS.idx hmX sl23, RdS.cellB hmX (Ext.pres eB), RdS.cells hmX, RdS.len hvX sl26, RdS.idx hvX sl26, RdS.cellB hvX (Ext.pres eB), RdS.cells hvX, BoxAt.cell hbB, BoxAt.cell hbX, wrap_id, g1, eq_self, if_true, if_false, Bool.false_eq_true]
  refine hK _ _ ?_
  clear hK K
  refine den_nil ?_
  simp (disch := decide) only [resP_0, puts_same, puts_ne]
  exact ⟨by first | rfl | trivial, hbB, c0_25_2⟩
end Go.Proofs.Ytjjjgllbocgkbaa
