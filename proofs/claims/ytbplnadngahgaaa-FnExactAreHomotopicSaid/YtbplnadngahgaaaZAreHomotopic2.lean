/-
  What the statement FnExactAreHomotopic uses of the walks, part 2.
  Conditions: each theorem's own.
-/
import Derived.Test.YtbplnadngahgaaaG16
import Derived.Test.YtbplnadngahgaaaG17
import Derived.Test.YtbplnadngahgaaaG14
import Derived.Test.YtbplnadngahgaaaG13
import Derived.Test.YtbplnadngahgaaaG15
import Derived.Test.YtbplnadngahgaaaG18
import Derived.Test.YtbplnadngahgaaaG19
import Derived.Test.YtbplnadngahgaaaZAreHomotopic1
set_option linter.unusedVariables false
set_option linter.unusedSimpArgs false
namespace Go.Proofs.Ytbplnadngahgaaa
open Go
structure PreC (X : Cx) : Prop where
 p : 0 < X.p ∧ X.p ≤ 7
 ml : X.maps.length + 1 = X.dims.length
 dm : X.dims.all (fun x => in3 x 0 8) = true
 tb : ∀ k, k < X.maps.length → tbAt X k
theorem IsC.pre {X : Cx} (h : IsC X) : PreC X := ⟨isP_bnd h.p, h.ml, h.dm, h.tb⟩
def diffP (X : Cx) (n : Int) (v : List Int) : List Int := if n ≤ 0 ∨ (X.dims.length : Int) - 1 < n then [] else accP X.p v (X.maps.getD (n - 1).toNat default) (List.replicate (X.dims.getD (n - 1).toNat 0).toNat 0)
theorem PreC.app {X : Cx} (h : PreC X) {n : Int} (h0 : 0 < n) (h1 : n ≤ (X.dims.length : Int) - 1) : (0 ≤ X.dims.getD (n - 1).toNat 0 ∧ X.dims.getD (n - 1).toNat 0 ≤ 8) ∧ ((X.maps.getD (n - 1).toNat default).length : Int) = X.dims.getD n.toNat 0 ∧ Tbl X.p (X.dims.getD (n - 1).toNat 0) (X.maps.getD (n - 1).toNat default) := by
 have hm := h.ml
 have t := tableP_iff.1 (h.tb (n - 1).toNat (by omega))
 have e : ((((n - 1).toNat : Nat) : Int) + 1).toNat = n.toNat := by omega
 rw [e] at t
 exact ⟨dm_at h.dm (by omega), t⟩
theorem zero_lead {xs : List Int} : (!(xs.any fun x => x != 0)) = true ↔ leadP xs < 0 := by
 rw [leadP_idx, ← idxP_any]
 simp
theorem any_all {α : Type} {f : α → Bool} {xs : List α} (h : (xs.any fun x => !f x) = false) : xs.all f = true := by rw [List.all_eq_not_any_not, h]; rfl
theorem diff_sqv {X : Cx} {k i : Nat} (h0 : 0 < k) (h1 : (k : Int) ≤ (X.dims.length : Int) - 1) : diffP X (k : Int) ((X.maps.getD k default).getD i default) = sqv X k i := by
 rw [diffP, if_neg (by omega)]; rfl
theorem lead_zero {xs : List Int} (h : xs.any (fun x => x != 0) = false) : leadP xs < 0 := zero_lead.1 (by rw [h]; rfl)
theorem lead_some {xs : List Int} (h : xs.any (fun x => x != 0) = true) : ¬ leadP xs < 0 := fun hn => by
 have := zero_lead.2 hn
 rw [h] at this; cases this
theorem tbAt_iff {X : Cx} {k : Nat} : tbAt X k ↔ ((X.maps.getD k default).length : Int) = X.dims.getD ((k : Int) + 1).toNat 0 ∧ (X.maps.getD k default).all (isRow X.p (X.dims.getD k 0)) = true := by
 simp only [tbAt, tableP, Bool.and_eq_true, decide_eq_true_eq]

set_option maxRecDepth 100000 in
theorem diff_ok (vx : Value) (X : Cx) (n : Int) (v : Value) (xs : List Int) (h : Heap) (hx : RC h vx X) (hv : R1 h v xs) (hP : PreC X) (hv0 : Bnd X.p xs) (hl : 0 < n → n ≤ (X.dims.length : Int) - 1 → (xs.length : Int) = X.dims.getD n.toNat 0) : CallA Try.prog 122 #[vx, .int .i64 n, v] h fun v' h' => ∃ f, O1 h' v' (diffP X n xs) f ∧ Fresh h.size f ∧ Ext h h' := by
 obtain ⟨vd, vm, rfl, hd, hm⟩ := hx
 have hle := RdS.le hd
 have hml := hP.ml
 refine callA_intro TTok (args := [_, _, _]) Try.func122 (by kernel_rfl) rfl 31 rfl (by simp) [.tmp 6] rfl ?_
 simp only [idxs, Nat.reduceAdd]
 refine den_seq ?_
 refine den_region TTok ?_
 intro K hK
 simp -implicitDefEqProofs (disch := first | decide | assumption | omega) only [go_sem, RdS.len hd sl22, RdS.idx hd sl22, R1.intB hd (HPres.refl _), RdS.cells hd, RdS.len hm sl23, RdS.idx hm sl23, RdS.cellB hm (HPres.refl _), RdS.cells hm, RdS.len hv sl22, RdS.idx hv sl22, R1.intB hv (HPres.refl _), RdS.cells hv, wrap_id]
 refine op_box (cs := #[.int .i64 (X.p), vd, vm]) rfl ?_
 intro h0_0 e0_0 hb0_0 z0_0
 replace hd := RdS.pres hd (Ext.pres e0_0)
 replace hm := RdS.pres hm (Ext.pres e0_0)
 replace hv := RdS.pres hv (Ext.pres e0_0)
 try simp -implicitDefEqProofs (disch := first | decide | assumption | omega) only [go_sem, RdS.len hd sl22, RdS.idx hd sl22, R1.intB hd (HPres.refl _), RdS.cells hd, RdS.len hm sl23, RdS.idx hm sl23, RdS.cellB hm (HPres.refl _), RdS.cells hm, RdS.len hv sl22, RdS.idx hv sl22, R1.intB hv (HPres.refl _), RdS.cells hv, BoxAt.cell hb0_0, wrap_id]
 refine hK _ _ ?_
 clear hK K
 refine den_seq ?_
 refine den_seq ?_
 refine den_merge [(14, .bool (((decide (n ≤ (0 : Int))) || (decide ((((X.dims).length : Int) - 1) < n)))))] [1, 2, 3] (fun H => Ext h0_0 H) ?_ ?_
  -- a way
 ·refine den_region TTok ?_
  intro K hK
  simp -implicitDefEqProofs (disch := first | decide | assumption | (simp (disch := decide) only [slotOf_zero, slotOf_succ, Option.map_some, puts_same, puts_ne, gv_bool, gv_undef, tt, tf, ft, ff, eq_self, if_true, if_false, Bool.false_eq_true, Bool.not_true, Bool.not_false]; done) | omega) only [go_sem, RdS.len hd sl22, RdS.idx hd sl22, R1.intB hd (HPres.refl _), RdS.cells hd, RdS.len hm sl23, RdS.idx hm sl23, RdS.cellB hm (HPres.refl _), RdS.cells hm, RdS.len hv sl22, RdS.idx hv sl22, R1.intB hv (HPres.refl _), RdS.cells hv, BoxAt.cell hb0_0, wrap_id]
  refine opsP_F (by simp (disch := decide) only [slotOf_zero, slotOf_succ, Option.map_some, puts_same, puts_ne, gv_bool, gv_undef, tt, tf, ft, ff, eq_self, if_true, if_false, Bool.false_eq_true, Bool.not_true, Bool.not_false]; rfl) (fun g1 => ?_) (fun g1 => ?_)
  ·try simp -implicitDefEqProofs (disch := first | decide | assumption | (simp (disch := decide) only [slotOf_zero, slotOf_succ, Option.map_some, puts_same, puts_ne, gv_bool, gv_undef, tt, tf, ft, ff, eq_self, if_true, if_false, Bool.false_eq_true, Bool.not_true, Bool.not_false, g1]; done) | omega) only [go_sem, ld30, RdS.len hd sl22, RdS.idx hd sl22, R1.intB hd (HPres.refl _), RdS.cells hd, RdS.len hm sl23, RdS.idx hm sl23, RdS.cellB hm (HPres.refl _), RdS.cells hm, RdS.len hv sl22, RdS.idx hv sl22, R1.intB hv (HPres.refl _), RdS.cells hv, BoxAt.cell hb0_0, wrap_id, g1, eq_self, if_true, if_false, Bool.false_eq_true]
   try simp -implicitDefEqProofs (disch := first | decide | assumption | omega) only [go_sem, RdS.len hd sl22, RdS.idx hd sl22, R1.intB hd (HPres.refl _), RdS.cells hd, RdS.len hm sl23, RdS.idx hm sl23, RdS.cellB hm (HPres.refl _), RdS.cells hm, RdS.len hv sl22, RdS.idx hv sl22, R1.intB hv (HPres.refl _), RdS.cells hv, BoxAt.cell hb0_0, wrap_id]
   refine CallA.mono (top_ok _ X _ ⟨_, _, rfl, hd, hm⟩) ?_
   intro v_ h1_5
   rintro ⟨rfl, e1_5⟩
   have := Ext.size e1_5
   have eB := e1_5
   try simp -implicitDefEqProofs (disch := first | decide | assumption | (simp (disch := decide) only [slotOf_zero, slotOf_succ, Option.map_some, puts_same, puts_ne, gv_bool, gv_undef, tt, tf, ft, ff, eq_self, if_true, if_false, Bool.false_eq_true, Bool.not_true, Bool.not_false, g1]; done) | omega) only [go_sem, RdS.len hd sl22, RdS.idx hd sl22, R1.intB hd (Ext.pres eB), RdS.cells hd, RdS.len hm sl23, RdS.idx hm sl23, RdS.cellB hm (Ext.pres eB), RdS.cells hm, RdS.len hv sl22, RdS.idx hv sl22, R1.intB hv (Ext.pres eB), RdS.cells hv, BoxAt.cellB hb0_0 eB, wrap_id, g1, eq_self, if_true, if_false, Bool.false_eq_true]
   refine hK _ _ ?_
   clear hK K
   refine den_stop ?_
   refine ⟨?_, e1_5⟩
   first | (simp (disch := decide) only [go_sem, g1, eq_self, Bool.true_and, Bool.and_true, Bool.false_and, Bool.and_false, Bool.true_or, Bool.or_true, Bool.false_or, Bool.or_false, if_true, if_false, Bool.false_eq_true]; done) | simp [HasL, sel, puts_at, g1]
  ·try simp -implicitDefEqProofs (disch := first | decide | assumption | (simp (disch := decide) only [slotOf_zero, slotOf_succ, Option.map_some, puts_same, puts_ne, gv_bool, gv_undef, tt, tf, ft, ff, eq_self, if_true, if_false, Bool.false_eq_true, Bool.not_true, Bool.not_false, g1]; done) | omega) only [go_sem, RdS.len hd sl22, RdS.idx hd sl22, R1.intB hd (HPres.refl _), RdS.cells hd, RdS.len hm sl23, RdS.idx hm sl23, RdS.cellB hm (HPres.refl _), RdS.cells hm, RdS.len hv sl22, RdS.idx hv sl22, R1.intB hv (HPres.refl _), RdS.cells hv, BoxAt.cell hb0_0, wrap_id, g1, eq_self, if_true, if_false, Bool.false_eq_true]
   refine hK _ _ ?_
   clear hK K
   refine den_stop ?_
   refine ⟨?_, Ext.refl _⟩
   first | (simp (disch := decide) only [go_sem, g1, eq_self, Bool.true_and, Bool.and_true, Bool.false_and, Bool.and_false, Bool.true_or, Bool.or_true, Bool.false_or, Bool.or_false, if_true, if_false, Bool.false_eq_true]; done) | simp [HasL, sel, puts_at, g1]
 intro en2 h3 e4
 have := Ext.size e4
 have eB := e4
 simp (disch := decide) only [go_sem]
 refine den_cond rfl (fun c0 => ?_) (fun c0 => ?_)
 ·try simp only [decide_eq_true_eq, decide_eq_false_iff_not, beq_iff_eq, beq_eq_false_iff_ne, bne_iff_ne, ne_eq, Bool.not_eq_true', Bool.not_eq_false', Bool.and_eq_true, Bool.or_eq_true, bne_eq_false_iff_eq, Bool.or_eq_false_iff, Bool.and_eq_false_iff] at c0
  refine den_seq ?_
  refine den_region TTok ?_
  intro K hK
  simp -implicitDefEqProofs (disch := first | decide | assumption | omega) only [go_sem, RdS.len hd sl22, RdS.idx hd sl22, R1.intB hd (Ext.pres eB), RdS.cells hd, RdS.len hm sl23, RdS.idx hm sl23, RdS.cellB hm (Ext.pres eB), RdS.cells hm, RdS.len hv sl22, RdS.idx hv sl22, R1.intB hv (Ext.pres eB), RdS.cells hv, BoxAt.cellB hb0_0 eB, wrap_id]
  refine hK _ _ ?_
  clear hK K
  refine den_ret ?_
  simp (disch := decide) only [resP_1, puts_same, puts_ne]
  exact ⟨[], by rw [diffP, if_pos (by omega)]; exact OS.nil, Fresh.nil _, (Ext.trans e0_0 eB)⟩
 ·try simp only [decide_eq_true_eq, decide_eq_false_iff_not, beq_iff_eq, beq_eq_false_iff_ne, bne_iff_ne, ne_eq, Bool.not_eq_true', Bool.not_eq_false', Bool.and_eq_true, Bool.or_eq_true, bne_eq_false_iff_eq, Bool.or_eq_false_iff, Bool.and_eq_false_iff] at c0
  refine den_skip ?_
  refine den_seq ?_
  have hq := hP.app (n := n) (by omega) (by omega)
  refine den_draw TTok mixed [] [(0, true), (1, true), (2, true), (3, true), (4, true), (5, true), (6, true), (7, true), (8, true), (9, true), (10, true), (11, true), (12, true), (13, true), (14, true), (15, false), (16, true)] (by kernel_rfl) ?_
  intro K hK
  have hr5 := RdS.rowN hm ((n - (1 : Int))).toNat (by omega)
  have hlhr5 := RdS.le hr5
  simp -implicitDefEqProofs (disch := first | decide | assumption | omega) only [go_sem, fa30_0, fa30_1, fa30_2, ld23, ld36, ld22, ld2, RdS.len hd sl22, RdS.idx hd sl22, R1.intB hd (Ext.pres eB), RdS.cells hd, RdS.len hm sl23, RdS.idx hm sl23, RdS.cellB hm (Ext.pres eB), RdS.cells hm, RdS.len hv sl22, RdS.idx hv sl22, R1.intB hv (Ext.pres eB), RdS.cells hv, RdS.len hr5 sl36, RdS.idx hr5 sl36, RdS.cellB hr5 (Ext.pres eB), RdS.cells hr5, BoxAt.cellB hb0_0 eB, wrap_id]
  try simp -implicitDefEqProofs (disch := first | decide | assumption | omega) only [go_sem, RdS.len hd sl22, RdS.idx hd sl22, R1.intB hd (Ext.pres eB), RdS.cells hd, RdS.len hm sl23, RdS.idx hm sl23, RdS.cellB hm (Ext.pres eB), RdS.cells hm, RdS.len hv sl22, RdS.idx hv sl22, R1.intB hv (Ext.pres eB), RdS.cells hv, RdS.len hr5 sl36, RdS.idx hr5 sl36, RdS.cellB hr5 (Ext.pres eB), RdS.cells hr5, BoxAt.cellB hb0_0 eB, wrap_id]
  refine CallA.mono (iApply_ok _ _ _ _ _ _ _ (RdS.pres hv (Ext.pres eB)) (RdS.pres hr5 (Ext.pres eB)) hP.p (by omega) (by have := hl (by omega) (by omega); omega) hv0 hq.2.2) ?_
  intro v3_15 h3_15
  rintro ⟨f3_15, ho3_15, hf3_15, e3_15⟩
  have := Ext.size e3_15
  replace eB := Ext.trans eB e3_15
  have hlho3_15 := OS.lt ho3_15
  try simp (disch := decide) only [outv_some, outv_none, put_puts]
  refine plK_pres (Ext.pres e3_15) ?_
  try simp -implicitDefEqProofs (disch := first | decide | assumption | omega) only [go_sem, RdS.len hd sl22, RdS.idx hd sl22, R1.intB hd (Ext.pres eB), RdS.cells hd, RdS.len hm sl23, RdS.idx hm sl23, RdS.cellB hm (Ext.pres eB), RdS.cells hm, RdS.len hv sl22, RdS.idx hv sl22, R1.intB hv (Ext.pres eB), RdS.cells hv, RdS.len hr5 sl36, RdS.idx hr5 sl36, RdS.cellB hr5 (Ext.pres eB), RdS.cells hr5, RdS.len (OS.rd ho3_15) sl22, RdS.idx (OS.rd ho3_15) sl22, R1.intN (OS.rd ho3_15), RdS.cells (OS.rd ho3_15), BoxAt.cellB hb0_0 eB, wrap_id]
  refine hK _ _ ?_
  clear hK K
  refine den_ret ?_
  simp (disch := decide) only [resP_1, puts_same, puts_ne]
  exact ⟨_, by rw [diffP, if_neg (by omega)]; exact ho3_15, hf3_15.mono (by omega), (Ext.trans e0_0 eB)⟩

set_option maxRecDepth 100000 in
theorem iIs_ok (v : Value) (X : Cx) (h : Heap) (hv : RC h v X) : CallA Try.prog 75 #[v] h fun v' h' => v' = .bool (isC X) ∧ Ext h h' := by
 obtain ⟨vd, vm, rfl, hd, hm⟩ := hv
 have hle := RdS.le hd
 have hlm := RdS.le hm
 refine callA_intro TTok (args := [_]) Try.func75 (by kernel_rfl) rfl 86 rfl (by simp) [.tmp 2] rfl ?_
 simp only [idxs, Nat.reduceAdd]
 refine den_seq ?_
 refine den_region TTok ?_
 intro K hK
 simp -implicitDefEqProofs (disch := first | decide | assumption | omega) only [go_sem, RdS.len hd sl22, RdS.idx hd sl22, R1.intB hd (HPres.refl _), RdS.cells hd, RdS.len hm sl23, RdS.idx hm sl23, RdS.cellB hm (HPres.refl _), RdS.cells hm, wrap_id, Int.add_sub_cancel]
 refine op_box (cs := #[.int .i64 (X.p), vd, vm]) rfl ?_
 intro h0_0 e0_0 hb0_0 z0_0
 replace hd := RdS.pres hd (Ext.pres e0_0)
 replace hm := RdS.pres hm (Ext.pres e0_0)
 try simp -implicitDefEqProofs (disch := first | decide | assumption | omega) only [go_sem, RdS.len hd sl22, RdS.idx hd sl22, R1.intB hd (HPres.refl _), RdS.cells hd, RdS.len hm sl23, RdS.idx hm sl23, RdS.cellB hm (HPres.refl _), RdS.cells hm, BoxAt.cell hb0_0, wrap_id, Int.add_sub_cancel]
 refine hK _ _ ?_
 clear hK K
 refine den_seq ?_
 refine den_seq ?_
 refine den_merge [(30, .bool (((((!((isP X.p))) || (!((in3 (((X.dims).length : Int) - 1) (0 : Int) (5 : Int))))) || (((X.maps).length : Int) != (((X.dims).length : Int) - 1))) || (X.dims.any (fun x => !in3 x 0 8)))))] [1] (fun H => Ext h0_0 H) ?_ ?_
  -- a way
 ·refine den_draw TTok mixed [] [(0, true), (1, true), (2, false), (3, true), (4, true), (5, true), (6, false), (7, false), (8, true), (9, true), (10, true), (11, true), (12, true), (14, true), (13, false), (15, false), (16, true), (17, true), (18, true), (19, true), (20, true), (21, false), (22, true)] (by kernel_rfl) ?_
  intro K hK
  simp -implicitDefEqProofs (disch := first | decide | assumption | (simp (disch := decide) only [slotOf_zero, slotOf_succ, Option.map_some, puts_same, puts_ne, gv_bool, gv_undef, tt, tf, ft, ff, eq_self, if_true, if_false, Bool.false_eq_true, Bool.not_true, Bool.not_false]; done) | omega) only [go_sem, fa30_0, ld2, RdS.len hd sl22, RdS.idx hd sl22, R1.intB hd (HPres.refl _), RdS.cells hd, RdS.len hm sl23, RdS.idx hm sl23, RdS.cellB hm (HPres.refl _), RdS.cells hm, BoxAt.cell hb0_0, wrap_id, Int.add_sub_cancel]
  try simp -implicitDefEqProofs (disch := first | decide | assumption | omega) only [go_sem, RdS.len hd sl22, RdS.idx hd sl22, R1.intB hd (HPres.refl _), RdS.cells hd, RdS.len hm sl23, RdS.idx hm sl23, RdS.cellB hm (HPres.refl _), RdS.cells hm, BoxAt.cell hb0_0, wrap_id, Int.add_sub_cancel]
  refine CallA.pure (iPrime_ok _ _) ?_
  try simp -implicitDefEqProofs (disch := first | decide | assumption | (simp (disch := decide) only [slotOf_zero, slotOf_succ, Option.map_some, puts_same, puts_ne, gv_bool, gv_undef, tt, tf, ft, ff, eq_self, if_true, if_false, Bool.false_eq_true, Bool.not_true, Bool.not_false]; done) | omega) only [go_sem, RdS.len hd sl22, RdS.idx hd sl22, R1.intB hd (HPres.refl _), RdS.cells hd, RdS.len hm sl23, RdS.idx hm sl23, RdS.cellB hm (HPres.refl _), RdS.cells hm, BoxAt.cell hb0_0, wrap_id, Int.add_sub_cancel]
  refine plG_F (by simp (disch := decide) only [slotOf_zero, slotOf_succ, Option.map_some, puts_same, puts_ne, gv_bool, gv_undef, tt, tf, ft, ff, eq_self, if_true, if_false, Bool.false_eq_true, Bool.not_true, Bool.not_false]; rfl) (fun g1 => ?_) (fun g1 => ?_)
  ·try simp -implicitDefEqProofs (disch := first | decide | assumption | (simp (disch := decide) only [slotOf_zero, slotOf_succ, Option.map_some, puts_same, puts_ne, gv_bool, gv_undef, tt, tf, ft, ff, eq_self, if_true, if_false, Bool.false_eq_true, Bool.not_true, Bool.not_false, g1]; done) | omega) only [go_sem, ld30, RdS.len hd sl22, RdS.idx hd sl22, R1.intB hd (HPres.refl _), RdS.cells hd, RdS.len hm sl23, RdS.idx hm sl23, RdS.cellB hm (HPres.refl _), RdS.cells hm, BoxAt.cell hb0_0, wrap_id, Int.add_sub_cancel, g1, eq_self, if_true, if_false, Bool.false_eq_true]
   try simp -implicitDefEqProofs (disch := first | decide | assumption | omega) only [go_sem, RdS.len hd sl22, RdS.idx hd sl22, R1.intB hd (HPres.refl _), RdS.cells hd, RdS.len hm sl23, RdS.idx hm sl23, RdS.cellB hm (HPres.refl _), RdS.cells hm, BoxAt.cell hb0_0, wrap_id, Int.add_sub_cancel]
   refine CallA.mono (top_ok _ X _ ⟨_, _, rfl, hd, hm⟩) ?_
   intro v_ h1_6
   rintro ⟨rfl, e1_6⟩
   have := Ext.size e1_6
   have eB := e1_6
   try simp (disch := decide) only [outv_some, outv_none, put_puts]
   refine plK_pres (Ext.pres e1_6) ?_
   try simp -implicitDefEqProofs (disch := first | decide | assumption | (simp (disch := decide) only [slotOf_zero, slotOf_succ, Option.map_some, puts_same, puts_ne, gv_bool, gv_undef, tt, tf, ft, ff, eq_self, if_true, if_false, Bool.false_eq_true, Bool.not_true, Bool.not_false, g1]; done) | omega) only [go_sem, RdS.len hd sl22, RdS.idx hd sl22, R1.intB hd (Ext.pres eB), RdS.cells hd, RdS.len hm sl23, RdS.idx hm sl23, RdS.cellB hm (Ext.pres eB), RdS.cells hm, BoxAt.cellB hb0_0 eB, wrap_id, Int.add_sub_cancel, g1, eq_self, if_true, if_false, Bool.false_eq_true]
   try simp -implicitDefEqProofs (disch := first | decide | assumption | omega) only [go_sem, RdS.len hd sl22, RdS.idx hd sl22, R1.intB hd (Ext.pres eB), RdS.cells hd, RdS.len hm sl23, RdS.idx hm sl23, RdS.cellB hm (Ext.pres eB), RdS.cells hm, BoxAt.cellB hb0_0 eB, wrap_id, Int.add_sub_cancel]
   refine CallA.pure (iIn_ok _ _ _ _) ?_
   try simp -implicitDefEqProofs (disch := first | decide | assumption | (simp (disch := decide) only [slotOf_zero, slotOf_succ, Option.map_some, puts_same, puts_ne, gv_bool, gv_undef, tt, tf, ft, ff, eq_self, if_true, if_false, Bool.false_eq_true, Bool.not_true, Bool.not_false, g1]; done) | omega) only [go_sem, RdS.len hd sl22, RdS.idx hd sl22, R1.intB hd (Ext.pres eB), RdS.cells hd, RdS.len hm sl23, RdS.idx hm sl23, RdS.cellB hm (Ext.pres eB), RdS.cells hm, BoxAt.cellB hb0_0 eB, wrap_id, Int.add_sub_cancel, g1, eq_self, if_true, if_false, Bool.false_eq_true]
   refine plG_F (by simp (disch := decide) only [slotOf_zero, slotOf_succ, Option.map_some, puts_same, puts_ne, gv_bool, gv_undef, tt, tf, ft, ff, eq_self, if_true, if_false, Bool.false_eq_true, Bool.not_true, Bool.not_false, g1]; rfl) (fun g2 => ?_) (fun g2 => ?_)
   ·try simp -implicitDefEqProofs (disch := first | decide | assumption | (simp (disch := decide) only [slotOf_zero, slotOf_succ, Option.map_some, puts_same, puts_ne, gv_bool, gv_undef, tt, tf, ft, ff, eq_self, if_true, if_false, Bool.false_eq_true, Bool.not_true, Bool.not_false, g1, g2]; done) | omega) only [go_sem, fa30_2, ld23, ld30, RdS.len hd sl22, RdS.idx hd sl22, R1.intB hd (Ext.pres eB), RdS.cells hd, RdS.len hm sl23, RdS.idx hm sl23, RdS.cellB hm (Ext.pres eB), RdS.cells hm, BoxAt.cellB hb0_0 eB, wrap_id, Int.add_sub_cancel, g1, g2, eq_self, if_true, if_false, Bool.false_eq_true]
    try simp -implicitDefEqProofs (disch := first | decide | assumption | omega) only [go_sem, RdS.len hd sl22, RdS.idx hd sl22, R1.intB hd (Ext.pres eB), RdS.cells hd, RdS.len hm sl23, RdS.idx hm sl23, RdS.cellB hm (Ext.pres eB), RdS.cells hm, BoxAt.cellB hb0_0 eB, wrap_id, Int.add_sub_cancel]
    refine CallA.pure (size3_ok _ _ _ (RdS.pres hm (Ext.pres eB))) ?_
    try simp -implicitDefEqProofs (disch := first | decide | assumption | (simp (disch := decide) only [slotOf_zero, slotOf_succ, Option.map_some, puts_same, puts_ne, gv_bool, gv_undef, tt, tf, ft, ff, eq_self, if_true, if_false, Bool.false_eq_true, Bool.not_true, Bool.not_false, g1, g2]; done) | omega) only [go_sem, RdS.len hd sl22, RdS.idx hd sl22, R1.intB hd (Ext.pres eB), RdS.cells hd, RdS.len hm sl23, RdS.idx hm sl23, RdS.cellB hm (Ext.pres eB), RdS.cells hm, BoxAt.cellB hb0_0 eB, wrap_id, Int.add_sub_cancel, g1, g2, eq_self, if_true, if_false, Bool.false_eq_true]
    try simp -implicitDefEqProofs (disch := first | decide | assumption | omega) only [go_sem, RdS.len hd sl22, RdS.idx hd sl22, R1.intB hd (Ext.pres eB), RdS.cells hd, RdS.len hm sl23, RdS.idx hm sl23, RdS.cellB hm (Ext.pres eB), RdS.cells hm, BoxAt.cellB hb0_0 eB, wrap_id, Int.add_sub_cancel]
    refine CallA.mono (top_ok _ X _ ⟨_, _, rfl, (RdS.pres hd (Ext.pres eB)), (RdS.pres hm (Ext.pres eB))⟩) ?_
    intro v_ h1_15
    rintro ⟨rfl, e1_15⟩
    have := Ext.size e1_15
    replace eB := Ext.trans eB e1_15
    try simp (disch := decide) only [outv_some, outv_none, put_puts]
    refine plK_pres (Ext.pres e1_15) ?_
    try simp -implicitDefEqProofs (disch := first | decide | assumption | (simp (disch := decide) only [slotOf_zero, slotOf_succ, Option.map_some, puts_same, puts_ne, gv_bool, gv_undef, tt, tf, ft, ff, eq_self, if_true, if_false, Bool.false_eq_true, Bool.not_true, Bool.not_false, g1, g2]; done) | omega) only [go_sem, RdS.len hd sl22, RdS.idx hd sl22, R1.intB hd (Ext.pres eB), RdS.cells hd, RdS.len hm sl23, RdS.idx hm sl23, RdS.cellB hm (Ext.pres eB), RdS.cells hm, BoxAt.cellB hb0_0 eB, wrap_id, Int.add_sub_cancel, g1, g2, eq_self, if_true, if_false, Bool.false_eq_true]
    refine plG_F (by simp (disch := decide) only [slotOf_zero, slotOf_succ, Option.map_some, puts_same, puts_ne, gv_bool, gv_undef, tt, tf, ft, ff, eq_self, if_true, if_false, Bool.false_eq_true, Bool.not_true, Bool.not_false, g1, g2]; rfl) (fun g3 => ?_) (fun g3 => ?_)
    ·try simp -implicitDefEqProofs (disch := first | decide | assumption | (simp (disch := decide) only [slotOf_zero, slotOf_succ, Option.map_some, puts_same, puts_ne, gv_bool, gv_undef, tt, tf, ft, ff, eq_self, if_true, if_false, Bool.false_eq_true, Bool.not_true, Bool.not_false, g1, g2, g3]; done) | omega) only [go_sem, fa30_1, ld22, RdS.len hd sl22, RdS.idx hd sl22, R1.intB hd (Ext.pres eB), RdS.cells hd, RdS.len hm sl23, RdS.idx hm sl23, RdS.cellB hm (Ext.pres eB), RdS.cells hm, BoxAt.cellB hb0_0 eB, wrap_id, Int.add_sub_cancel, g1, g2, g3, eq_self, if_true, if_false, Bool.false_eq_true]
     try simp -implicitDefEqProofs (disch := first | decide | assumption | omega) only [go_sem, RdS.len hd sl22, RdS.idx hd sl22, R1.intB hd (Ext.pres eB), RdS.cells hd, RdS.len hm sl23, RdS.idx hm sl23, RdS.cellB hm (Ext.pres eB), RdS.cells hm, BoxAt.cellB hb0_0 eB, wrap_id, Int.add_sub_cancel]
     refine CallA.mono (has1_ok _ X.dims _ _ (fun x => !in3 x 0 8) _ (RdS.pres hd (Ext.pres eB)) (fun j hj h' e => by
    simp only [List.append_toArray, List.cons_append, List.nil_append]
    exact CallA.mono (isC1_ok _ _) (fun _ _ ⟨e1, e2⟩ => ⟨e1, e2 ▸ Ext.refl _⟩))) ?_
     intro v_ h1_21
     rintro ⟨rfl, e1_21⟩
     have := Ext.size e1_21
     replace eB := Ext.trans eB e1_21
     try simp (disch := decide) only [outv_some, outv_none, put_puts]
     refine plK_pres (Ext.pres e1_21) ?_
     try simp -implicitDefEqProofs (disch := first | decide | assumption | (simp (disch := decide) only [slotOf_zero, slotOf_succ, Option.map_some, puts_same, puts_ne, gv_bool, gv_undef, tt, tf, ft, ff, eq_self, if_true, if_false, Bool.false_eq_true, Bool.not_true, Bool.not_false, g1, g2, g3]; done) | omega) only [go_sem, RdS.len hd sl22, RdS.idx hd sl22, R1.intB hd (Ext.pres eB), RdS.cells hd, RdS.len hm sl23, RdS.idx hm sl23, RdS.cellB hm (Ext.pres eB), RdS.cells hm, BoxAt.cellB hb0_0 eB, wrap_id, Int.add_sub_cancel, g1, g2, g3, eq_self, if_true, if_false, Bool.false_eq_true]
     refine hK _ _ ?_
     clear hK K
     refine den_stop ?_
     refine ⟨?_, (Ext.trans (Ext.trans e1_6 e1_15) e1_21)⟩
     first | (simp (disch := decide) only [go_sem, g1, g2, g3, eq_self, Bool.true_and, Bool.and_true, Bool.false_and, Bool.and_false, Bool.true_or, Bool.or_true, Bool.false_or, Bool.or_false, if_true, if_false, Bool.false_eq_true]; done) | simp [HasL, sel, puts_at, g1, g2, g3]
    ·try simp -implicitDefEqProofs (disch := first | decide | assumption | (simp (disch := decide) only [slotOf_zero, slotOf_succ, Option.map_some, puts_same, puts_ne, gv_bool, gv_undef, tt, tf, ft, ff, eq_self, if_true, if_false, Bool.false_eq_true, Bool.not_true, Bool.not_false, g1, g2, g3]; done) | omega) only [go_sem, RdS.len hd sl22, RdS.idx hd sl22, R1.intB hd (Ext.pres eB), RdS.cells hd, RdS.len hm sl23, RdS.idx hm sl23, RdS.cellB hm (Ext.pres eB), RdS.cells hm, BoxAt.cellB hb0_0 eB, wrap_id, Int.add_sub_cancel, g1, g2, g3, eq_self, if_true, if_false, Bool.false_eq_true]
     refine hK _ _ ?_
     clear hK K
     refine den_stop ?_
     refine ⟨?_, (Ext.trans e1_6 e1_15)⟩
     first | (simp (disch := decide) only [go_sem, g1, g2, g3, eq_self, Bool.true_and, Bool.and_true, Bool.false_and, Bool.and_false, Bool.true_or, Bool.or_true, Bool.false_or, Bool.or_false, if_true, if_false, Bool.false_eq_true]; done) | simp [HasL, sel, puts_at, g1, g2, g3]
   ·try simp -implicitDefEqProofs (disch := first | decide | assumption | (simp (disch := decide) only [slotOf_zero, slotOf_succ, Option.map_some, puts_same, puts_ne, gv_bool, gv_undef, tt, tf, ft, ff, eq_self, if_true, if_false, Bool.false_eq_true, Bool.not_true, Bool.not_false, g1, g2]; done) | omega) only [go_sem, RdS.len hd sl22, RdS.idx hd sl22, R1.intB hd (Ext.pres eB), RdS.cells hd, RdS.len hm sl23, RdS.idx hm sl23, RdS.cellB hm (Ext.pres eB), RdS.cells hm, BoxAt.cellB hb0_0 eB, wrap_id, Int.add_sub_cancel, g1, g2, eq_self, if_true, if_false, Bool.false_eq_true]
    try simp -implicitDefEqProofs (disch := first | decide | assumption | (simp (disch := decide) only [slotOf_zero, slotOf_succ, Option.map_some, puts_same, puts_ne, gv_bool, gv_undef, tt, tf, ft, ff, eq_self, if_true, if_false, Bool.false_eq_true, Bool.not_true, Bool.not_false, g1, g2]; done) | omega) only [go_sem, RdS.len hd sl22, RdS.idx hd sl22, R1.intB hd (Ext.pres eB), RdS.cells hd, RdS.len hm sl23, RdS.idx hm sl23, RdS.cellB hm (Ext.pres eB), RdS.cells hm, BoxAt.cellB hb0_0 eB, wrap_id, Int.add_sub_cancel, g1, g2, eq_self, if_true, if_false, Bool.false_eq_true]
    refine hK _ _ ?_
    clear hK K
    refine den_stop ?_
    refine ⟨?_, e1_6⟩
    first | (simp (disch := decide) only [go_sem, g1, g2, eq_self, Bool.true_and, Bool.and_true, Bool.false_and, Bool.and_false, Bool.true_or, Bool.or_true, Bool.false_or, Bool.or_false, if_true, if_false, Bool.false_eq_true]; done) | simp [HasL, sel, puts_at, g1, g2]
  ·try simp -implicitDefEqProofs (disch := first | decide | assumption | (simp (disch := decide) only [slotOf_zero, slotOf_succ, Option.map_some, puts_same, puts_ne, gv_bool, gv_undef, tt, tf, ft, ff, eq_self, if_true, if_false, Bool.false_eq_true, Bool.not_true, Bool.not_false, g1]; done) | omega) only [go_sem, RdS.len hd sl22, RdS.idx hd sl22, R1.intB hd (HPres.refl _), RdS.cells hd, RdS.len hm sl23, RdS.idx hm sl23, RdS.cellB hm (HPres.refl _), RdS.cells hm, BoxAt.cell hb0_0, wrap_id, Int.add_sub_cancel, g1, eq_self, if_true, if_false, Bool.false_eq_true]
   try simp -implicitDefEqProofs (disch := first | decide | assumption | (simp (disch := decide) only [slotOf_zero, slotOf_succ, Option.map_some, puts_same, puts_ne, gv_bool, gv_undef, tt, tf, ft, ff, eq_self, if_true, if_false, Bool.false_eq_true, Bool.not_true, Bool.not_false, g1]; done) | omega) only [go_sem, RdS.len hd sl22, RdS.idx hd sl22, R1.intB hd (HPres.refl _), RdS.cells hd, RdS.len hm sl23, RdS.idx hm sl23, RdS.cellB hm (HPres.refl _), RdS.cells hm, BoxAt.cell hb0_0, wrap_id, Int.add_sub_cancel, g1, eq_self, if_true, if_false, Bool.false_eq_true]
   try simp -implicitDefEqProofs (disch := first | decide | assumption | (simp (disch := decide) only [slotOf_zero, slotOf_succ, Option.map_some, puts_same, puts_ne, gv_bool, gv_undef, tt, tf, ft, ff, eq_self, if_true, if_false, Bool.false_eq_true, Bool.not_true, Bool.not_false, g1]; done) | omega) only [go_sem, RdS.len hd sl22, RdS.idx hd sl22, R1.intB hd (HPres.refl _), RdS.cells hd, RdS.len hm sl23, RdS.idx hm sl23, RdS.cellB hm (HPres.refl _), RdS.cells hm, BoxAt.cell hb0_0, wrap_id, Int.add_sub_cancel, g1, eq_self, if_true, if_false, Bool.false_eq_true]
   refine hK _ _ ?_
   clear hK K
   refine den_stop ?_
   refine ⟨?_, Ext.refl _⟩
   first | (simp (disch := decide) only [go_sem, g1, eq_self, Bool.true_and, Bool.and_true, Bool.false_and, Bool.and_false, Bool.true_or, Bool.or_true, Bool.false_or, Bool.or_false, if_true, if_false, Bool.false_eq_true]; done) | simp [HasL, sel, puts_at, g1]
 intro en4 h5 e6
 have := Ext.size e6
 have eB := e6
 simp (disch := decide) only [go_sem]
 refine den_cond rfl (fun c0 => ?_) (fun c0 => ?_)
 ·try simp only [decide_eq_true_eq, decide_eq_false_iff_not, beq_iff_eq, beq_eq_false_iff_ne, bne_iff_ne, ne_eq, Bool.not_eq_true', Bool.not_eq_false', Bool.and_eq_true, Bool.or_eq_true, bne_eq_false_iff_eq, Bool.or_eq_false_iff, Bool.and_eq_false_iff] at c0
  refine den_seq ?_
  refine den_region TTok ?_
  intro K hK
  simp -implicitDefEqProofs (disch := first | decide | assumption | omega) only [go_sem, RdS.len hd sl22, RdS.idx hd sl22, R1.intB hd (Ext.pres eB), RdS.cells hd, RdS.len hm sl23, RdS.idx hm sl23, RdS.cellB hm (Ext.pres eB), RdS.cells hm, BoxAt.cellB hb0_0 eB, wrap_id, Int.add_sub_cancel]
  refine hK _ _ ?_
  clear hK K
  refine den_ret ?_
  simp (disch := decide) only [resP_1, puts_same, puts_ne]
  exact ⟨vbool (isC_no fun hC => by
   have h1 := hC.p; have h2 := hC.len; have h3 := hC.ml
   rcases c0 with ((c | c) | c) | c
   ·rw [h1] at c; cases c
   ·rw [in3_f] at c; omega
   ·omega
   ·have := hC.dm; rw [List.all_eq_not_any_not, c] at this; cases this), (Ext.trans e0_0 eB)⟩
 ·try simp only [decide_eq_true_eq, decide_eq_false_iff_not, beq_iff_eq, beq_eq_false_iff_ne, bne_iff_ne, ne_eq, Bool.not_eq_true', Bool.not_eq_false', Bool.and_eq_true, Bool.or_eq_true, bne_eq_false_iff_eq, Bool.or_eq_false_iff, Bool.and_eq_false_iff] at c0
  refine den_skip ?_
  refine den_seq ?_
  refine den_seq ?_
  have hp7 := isP_bnd c0.1.1.1
  have hdl := in3_iff.1 c0.1.1.2
  have hda := any_all c0.2
  refine den_region TTok ?_
  intro K hK
  simp -implicitDefEqProofs (disch := first | decide | assumption | omega) only [go_sem, fa30_2, ld23, RdS.len hd sl22, RdS.idx hd sl22, R1.intB hd (Ext.pres eB), RdS.cells hd, RdS.len hm sl23, RdS.idx hm sl23, RdS.cellB hm (Ext.pres eB), RdS.cells hm, BoxAt.cellB hb0_0 eB, wrap_id, Int.add_sub_cancel]
  refine hK _ _ ?_
  clear hK K
  refine den_block ?_
  refine den_sel [34, 1, 32, 33] ?_
  intro env_7
  simp only [go_sem]
  refine den_loopS (σ := Nat) (fun s => [(34, .int .i64 (s : Int))]) (fun s H => Ext h0_0 H ∧ s ≤ X.maps.length ∧ ∀ j, j < s → tbAt X j) (fun s => X.maps.length - s) 0 ?_ ?_
  ·exact ⟨eB, by omega, fun j hj => by omega⟩
  ·rintro k h10 ee9 ⟨eB, hk, hz⟩
   simp only [List.cons_append, List.nil_append]
   have := Ext.size eB
   refine den_seq ?_
   refine den_region TTok ?_
   intro K hK
   simp -implicitDefEqProofs (disch := first | decide | assumption | omega) only [go_sem, RdS.len hd sl22, RdS.idx hd sl22, R1.intB hd (Ext.pres eB), RdS.cells hd, RdS.len hm sl23, RdS.idx hm sl23, RdS.cellB hm (Ext.pres eB), RdS.cells hm, BoxAt.cellB hb0_0 eB, wrap_id, Int.add_sub_cancel]
   refine hK _ _ ?_
   clear hK K
   refine den_seq ?_
   refine den_cond rfl (fun c1 => ?_) (fun c1 => ?_)
   ·try simp only [decide_eq_true_eq, decide_eq_false_iff_not, beq_iff_eq, beq_eq_false_iff_ne, bne_iff_ne, ne_eq, Bool.not_eq_true', Bool.not_eq_false', Bool.and_eq_true, Bool.or_eq_true, bne_eq_false_iff_eq, Bool.or_eq_false_iff, Bool.and_eq_false_iff] at c1
    refine den_skip ?_
    refine den_seq ?_
    refine den_block ?_
    refine den_seq ?_
    refine den_region TTok ?_
    intro K hK
    have hr11 := RdS.rowN hm k (by omega)
    have hlhr11 := RdS.le hr11
    simp -implicitDefEqProofs (disch := first | decide | assumption | omega) only [go_sem, ld36, RdS.len hd sl22, RdS.idx hd sl22, R1.intB hd (Ext.pres eB), RdS.cells hd, RdS.len hm sl23, RdS.idx hm sl23, RdS.cellB hm (Ext.pres eB), RdS.cells hm, RdS.len hr11 sl36, RdS.idx hr11 sl36, RdS.cellB hr11 (Ext.pres eB), RdS.cells hr11, BoxAt.cellB hb0_0 eB, wrap_id, Int.add_sub_cancel]
    refine hK _ _ ?_
    clear hK K
    refine den_seq ?_
    refine den_merge [(59, .bool ((((((X.maps).getD k default).length : Int) != ((X.dims).getD (((k : Int) + (1 : Int))).toNat 0)) || (!((((X.maps).getD k default).all (isRow X.p ((X.dims).getD k 0))))))))] [1, 32, 33, 34] (fun H => Ext h10 H) ?_ ?_
     -- a way
    ·refine den_draw TTok mixed [] [(0, true), (2, true), (3, true), (4, true), (5, true), (6, true), (7, true), (1, false), (8, true), (9, true), (10, true), (11, true), (12, true), (13, true), (14, true), (15, true), (16, true), (17, true), (18, false), (19, true), (20, true)] (by kernel_rfl) ?_
     intro K hK
     simp -implicitDefEqProofs (disch := first | decide | assumption | (simp (disch := decide) only [slotOf_zero, slotOf_succ, Option.map_some, puts_same, puts_ne, gv_bool, gv_undef, tt, tf, ft, ff, eq_self, if_true, if_false, Bool.false_eq_true, Bool.not_true, Bool.not_false]; done) | omega) only [go_sem, fa30_1, ld22, ld2, RdS.len hd sl22, RdS.idx hd sl22, R1.intB hd (Ext.pres eB), RdS.cells hd, RdS.len hm sl23, RdS.idx hm sl23, RdS.cellB hm (Ext.pres eB), RdS.cells hm, RdS.len hr11 sl36, RdS.idx hr11 sl36, RdS.cellB hr11 (Ext.pres eB), RdS.cells hr11, BoxAt.cellB hb0_0 eB, wrap_id, Int.add_sub_cancel]
     try simp -implicitDefEqProofs (disch := first | decide | assumption | omega) only [go_sem, RdS.len hd sl22, RdS.idx hd sl22, R1.intB hd (Ext.pres eB), RdS.cells hd, RdS.len hm sl23, RdS.idx hm sl23, RdS.cellB hm (Ext.pres eB), RdS.cells hm, RdS.len hr11 sl36, RdS.idx hr11 sl36, RdS.cellB hr11 (Ext.pres eB), RdS.cells hr11, BoxAt.cellB hb0_0 eB, wrap_id, Int.add_sub_cancel]
     refine CallA.pure (size2_ok _ _ _ (RdS.pres hr11 (Ext.pres eB))) ?_
     try simp -implicitDefEqProofs (disch := first | decide | assumption | (simp (disch := decide) only [slotOf_zero, slotOf_succ, Option.map_some, puts_same, puts_ne, gv_bool, gv_undef, tt, tf, ft, ff, eq_self, if_true, if_false, Bool.false_eq_true, Bool.not_true, Bool.not_false]; done) | omega) only [go_sem, RdS.len hd sl22, RdS.idx hd sl22, R1.intB hd (Ext.pres eB), RdS.cells hd, RdS.len hm sl23, RdS.idx hm sl23, RdS.cellB hm (Ext.pres eB), RdS.cells hm, RdS.len hr11 sl36, RdS.idx hr11 sl36, RdS.cellB hr11 (Ext.pres eB), RdS.cells hr11, BoxAt.cellB hb0_0 eB, wrap_id, Int.add_sub_cancel]
     refine plG_F (by simp (disch := decide) only [slotOf_zero, slotOf_succ, Option.map_some, puts_same, puts_ne, gv_bool, gv_undef, tt, tf, ft, ff, eq_self, if_true, if_false, Bool.false_eq_true, Bool.not_true, Bool.not_false]; rfl) (fun g12 => ?_) (fun g12 => ?_)
     ·try simp -implicitDefEqProofs (disch := first | decide | assumption | (simp (disch := decide) only [slotOf_zero, slotOf_succ, Option.map_some, puts_same, puts_ne, gv_bool, gv_undef, tt, tf, ft, ff, eq_self, if_true, if_false, Bool.false_eq_true, Bool.not_true, Bool.not_false, g12]; done) | omega) only [go_sem, fa30_0, fa30_1, ld22, ld2, RdS.len hd sl22, RdS.idx hd sl22, R1.intB hd (Ext.pres eB), RdS.cells hd, RdS.len hm sl23, RdS.idx hm sl23, RdS.cellB hm (Ext.pres eB), RdS.cells hm, RdS.len hr11 sl36, RdS.idx hr11 sl36, RdS.cellB hr11 (Ext.pres eB), RdS.cells hr11, BoxAt.cellB hb0_0 eB, wrap_id, Int.add_sub_cancel, g12, eq_self, if_true, if_false, Bool.false_eq_true]
      try simp -implicitDefEqProofs (disch := first | decide | assumption | omega) only [go_sem, RdS.len hd sl22, RdS.idx hd sl22, R1.intB hd (Ext.pres eB), RdS.cells hd, RdS.len hm sl23, RdS.idx hm sl23, RdS.cellB hm (Ext.pres eB), RdS.cells hm, RdS.len hr11 sl36, RdS.idx hr11 sl36, RdS.cellB hr11 (Ext.pres eB), RdS.cells hr11, BoxAt.cellB hb0_0 eB, wrap_id, Int.add_sub_cancel]
      refine CallA.mono (areRows_ok _ _ _ _ _ (RdS.pres hr11 (Ext.pres eB)) (by omega)) ?_
      intro v_ h6_18
      rintro ⟨rfl, e6_18⟩
      have := Ext.size e6_18
      replace eB := Ext.trans eB e6_18
      try simp (disch := decide) only [outv_some, outv_none, put_puts]
      refine plK_pres (Ext.pres e6_18) ?_
      try simp -implicitDefEqProofs (disch := first | decide | assumption | (simp (disch := decide) only [slotOf_zero, slotOf_succ, Option.map_some, puts_same, puts_ne, gv_bool, gv_undef, tt, tf, ft, ff, eq_self, if_true, if_false, Bool.false_eq_true, Bool.not_true, Bool.not_false, g12]; done) | omega) only [go_sem, RdS.len hd sl22, RdS.idx hd sl22, R1.intB hd (Ext.pres eB), RdS.cells hd, RdS.len hm sl23, RdS.idx hm sl23, RdS.cellB hm (Ext.pres eB), RdS.cells hm, RdS.len hr11 sl36, RdS.idx hr11 sl36, RdS.cellB hr11 (Ext.pres eB), RdS.cells hr11, BoxAt.cellB hb0_0 eB, wrap_id, Int.add_sub_cancel, g12, eq_self, if_true, if_false, Bool.false_eq_true]
      refine hK _ _ ?_
      clear hK K
      refine den_stop ?_
      refine ⟨?_, e6_18⟩
      first | (simp (disch := decide) only [go_sem, g12, eq_self, Bool.true_and, Bool.and_true, Bool.false_and, Bool.and_false, Bool.true_or, Bool.or_true, Bool.false_or, Bool.or_false, if_true, if_false, Bool.false_eq_true]; done) | simp [HasL, sel, puts_at, g12]
     ·try simp -implicitDefEqProofs (disch := first | decide | assumption | (simp (disch := decide) only [slotOf_zero, slotOf_succ, Option.map_some, puts_same, puts_ne, gv_bool, gv_undef, tt, tf, ft, ff, eq_self, if_true, if_false, Bool.false_eq_true, Bool.not_true, Bool.not_false, g12]; done) | omega) only [go_sem, RdS.len hd sl22, RdS.idx hd sl22, R1.intB hd (Ext.pres eB), RdS.cells hd, RdS.len hm sl23, RdS.idx hm sl23, RdS.cellB hm (Ext.pres eB), RdS.cells hm, RdS.len hr11 sl36, RdS.idx hr11 sl36, RdS.cellB hr11 (Ext.pres eB), RdS.cells hr11, BoxAt.cellB hb0_0 eB, wrap_id, Int.add_sub_cancel, g12, eq_self, if_true, if_false, Bool.false_eq_true]
      refine hK _ _ ?_
      clear hK K
      refine den_stop ?_
      refine ⟨?_, Ext.refl _⟩
      first | (simp (disch := decide) only [go_sem, g12, eq_self, Bool.true_and, Bool.and_true, Bool.false_and, Bool.and_false, Bool.true_or, Bool.or_true, Bool.false_or, Bool.or_false, if_true, if_false, Bool.false_eq_true]; done) | simp [HasL, sel, puts_at, g12]
    intro en13 h14 e15
    have := Ext.size e15
    replace eB := Ext.trans eB e15
    simp (disch := decide) only [go_sem]
    refine den_cond rfl (fun c2 => ?_) (fun c2 => ?_)
    ·try simp only [decide_eq_true_eq, decide_eq_false_iff_not, beq_iff_eq, beq_eq_false_iff_ne, bne_iff_ne, ne_eq, Bool.not_eq_true', Bool.not_eq_false', Bool.and_eq_true, Bool.or_eq_true, bne_eq_false_iff_eq, Bool.or_eq_false_iff, Bool.and_eq_false_iff] at c2
     refine den_seq ?_
     refine den_region TTok ?_
     intro K hK
     simp -implicitDefEqProofs (disch := first | decide | assumption | omega) only [go_sem, RdS.len hd sl22, RdS.idx hd sl22, R1.intB hd (Ext.pres eB), RdS.cells hd, RdS.len hm sl23, RdS.idx hm sl23, RdS.cellB hm (Ext.pres eB), RdS.cells hm, RdS.len hr11 sl36, RdS.idx hr11 sl36, RdS.cellB hr11 (Ext.pres eB), RdS.cells hr11, BoxAt.cellB hb0_0 eB, wrap_id, Int.add_sub_cancel]
     refine hK _ _ ?_
     clear hK K
     refine den_ret ?_
     simp (disch := decide) only [resP_1, puts_same, puts_ne]
     exact ⟨vbool (isC_no fun hC => by
      have h := tbAt_iff.1 (hC.tb k (by omega))
      rcases c2 with c | c
      ·exact c h.1
      ·rw [h.2] at c; cases c), (Ext.trans e0_0 eB)⟩
    ·try simp only [decide_eq_true_eq, decide_eq_false_iff_not, beq_iff_eq, beq_eq_false_iff_ne, bne_iff_ne, ne_eq, Bool.not_eq_true', Bool.not_eq_false', Bool.and_eq_true, Bool.or_eq_true, bne_eq_false_iff_eq, Bool.or_eq_false_iff, Bool.and_eq_false_iff] at c2
     refine den_skip ?_
     refine den_blk ?_
     refine den_region TTok ?_
     intro K hK
     simp -implicitDefEqProofs (disch := first | decide | assumption | omega) only [go_sem, RdS.len hd sl22, RdS.idx hd sl22, R1.intB hd (Ext.pres eB), RdS.cells hd, RdS.len hm sl23, RdS.idx hm sl23, RdS.cellB hm (Ext.pres eB), RdS.cells hm, RdS.len hr11 sl36, RdS.idx hr11 sl36, RdS.cellB hr11 (Ext.pres eB), RdS.cells hr11, BoxAt.cellB hb0_0 eB, wrap_id, Int.add_sub_cancel]
     refine hK _ _ ?_
     clear hK K
     refine den_stop ?_
     exact ⟨k + 1, by simp [HasL, puts_at], ⟨eB, by omega, fun j hj => by
      rcases Nat.lt_succ_iff_lt_or_eq.1 hj with h1 | h1
      ·exact hz j h1
      ·subst h1; exact tbAt_iff.2 c2⟩, by omega⟩
   ·try simp only [decide_eq_true_eq, decide_eq_false_iff_not, beq_iff_eq, beq_eq_false_iff_ne, bne_iff_ne, ne_eq, Bool.not_eq_true', Bool.not_eq_false', Bool.and_eq_true, Bool.or_eq_true, bne_eq_false_iff_eq, Bool.or_eq_false_iff, Bool.and_eq_false_iff] at c1
    refine den_exit ?_
    refine denX_code ?_
    refine denX_stop ?_
    refine denX_hit ?_
    refine den_seq ?_
    refine den_seq ?_
    have hP : PreC X := ⟨hp7, by omega, hda, fun j hj => hz j (by omega)⟩
    refine den_region TTok ?_
    intro K hK
    simp -implicitDefEqProofs (disch := first | decide | assumption | omega) only [go_sem, RdS.len hd sl22, RdS.idx hd sl22, R1.intB hd (Ext.pres eB), RdS.cells hd, RdS.len hm sl23, RdS.idx hm sl23, RdS.cellB hm (Ext.pres eB), RdS.cells hm, BoxAt.cellB hb0_0 eB, wrap_id, Int.add_sub_cancel]
    refine hK _ _ ?_
    clear hK K
    refine den_block ?_
    refine den_sel [5, 1] ?_
    intro env_16
    simp only [go_sem]
    refine den_loopS (σ := Nat) (fun s => [(5, .int .i64 ((s : Int) + 1))]) (fun s H => Ext h0_0 H ∧ 0 < s ∧ ∀ j, 0 < j → j < s → ∀ i, i < (X.maps.getD j default).length → leadP (sqv X j i) < 0) (fun s => X.maps.length - s) 1 ?_ ?_
    ·exact ⟨eB, by omega, fun j h0 hj => by omega⟩
    ·rintro k h19 ee18 ⟨eB, hk, hs⟩
     simp only [List.cons_append, List.nil_append]
     have := Ext.size eB
     refine den_seq ?_
     refine den_seq ?_
     refine den_region TTok ?_
     intro K hK
     simp -implicitDefEqProofs (disch := first | decide | assumption | omega) only [go_sem, ld30, RdS.len hd sl22, RdS.idx hd sl22, R1.intB hd (Ext.pres eB), RdS.cells hd, RdS.len hm sl23, RdS.idx hm sl23, RdS.cellB hm (Ext.pres eB), RdS.cells hm, BoxAt.cellB hb0_0 eB, wrap_id, Int.add_sub_cancel]
     try simp -implicitDefEqProofs (disch := first | decide | assumption | omega) only [go_sem, RdS.len hd sl22, RdS.idx hd sl22, R1.intB hd (Ext.pres eB), RdS.cells hd, RdS.len hm sl23, RdS.idx hm sl23, RdS.cellB hm (Ext.pres eB), RdS.cells hm, BoxAt.cellB hb0_0 eB, wrap_id, Int.add_sub_cancel]
     refine CallA.mono (top_ok _ X _ ⟨_, _, rfl, (RdS.pres hd (Ext.pres eB)), (RdS.pres hm (Ext.pres eB))⟩) ?_
     intro v_ h10_2
     rintro ⟨rfl, e10_2⟩
     have := Ext.size e10_2
     replace eB := Ext.trans eB e10_2
     try simp -implicitDefEqProofs (disch := first | decide | assumption | omega) only [go_sem, RdS.len hd sl22, RdS.idx hd sl22, R1.intB hd (Ext.pres eB), RdS.cells hd, RdS.len hm sl23, RdS.idx hm sl23, RdS.cellB hm (Ext.pres eB), RdS.cells hm, BoxAt.cellB hb0_0 eB, wrap_id, Int.add_sub_cancel]
     refine hK _ _ ?_
     clear hK K
     refine den_cond rfl (fun c3 => ?_) (fun c3 => ?_)
     ·try simp only [decide_eq_true_eq, decide_eq_false_iff_not, beq_iff_eq, beq_eq_false_iff_ne, bne_iff_ne, ne_eq, Bool.not_eq_true', Bool.not_eq_false', Bool.and_eq_true, Bool.or_eq_true, bne_eq_false_iff_eq, Bool.or_eq_false_iff, Bool.and_eq_false_iff] at c3
      refine den_skip ?_
      refine den_seq ?_
      refine den_block ?_
      refine den_seq ?_
      refine den_region TTok ?_
      intro K hK
      have hr20 := RdS.rowN hm k (by omega)
      have hlhr20 := RdS.le hr20
      simp -implicitDefEqProofs (disch := first | decide | assumption | omega) only [go_sem, fa30_2, ld23, ld36, RdS.len hd sl22, RdS.idx hd sl22, R1.intB hd (Ext.pres eB), RdS.cells hd, RdS.len hm sl23, RdS.idx hm sl23, RdS.cellB hm (Ext.pres eB), RdS.cells hm, RdS.len hr20 sl36, RdS.idx hr20 sl36, RdS.cellB hr20 (Ext.pres eB), RdS.cells hr20, BoxAt.cellB hb0_0 eB, wrap_id, Int.add_sub_cancel]
      refine hK _ _ ?_
      clear hK K
      refine den_block ?_
      refine den_sel [74, 1, 5, 72, 73] ?_
      intro env_21
      simp only [go_sem]
      refine den_loopS (σ := Nat) (fun s => [(74, .int .i64 (s : Int))]) (fun s H => Ext h0_0 H ∧ s ≤ (X.maps.getD k default).length ∧ ∀ i, i < s → leadP (sqv X k i) < 0) (fun s => (X.maps.getD k default).length - s) 0 ?_ ?_
      ·exact ⟨eB, by omega, fun j hj => by omega⟩
      ·rintro m h24 ee23 ⟨eB, hm2, hy⟩
       simp only [List.cons_append, List.nil_append]
       have := Ext.size eB
       refine den_seq ?_
       refine den_region TTok ?_
       intro K hK
       simp -implicitDefEqProofs (disch := first | decide | assumption | omega) only [go_sem, RdS.len hd sl22, RdS.idx hd sl22, R1.intB hd (Ext.pres eB), RdS.cells hd, RdS.len hm sl23, RdS.idx hm sl23, RdS.cellB hm (Ext.pres eB), RdS.cells hm, RdS.len hr20 sl36, RdS.idx hr20 sl36, RdS.cellB hr20 (Ext.pres eB), RdS.cells hr20, BoxAt.cellB hb0_0 eB, wrap_id, Int.add_sub_cancel]
       refine hK _ _ ?_
       clear hK K
       refine den_seq ?_
       refine den_cond rfl (fun c4 => ?_) (fun c4 => ?_)
       ·try simp only [decide_eq_true_eq, decide_eq_false_iff_not, beq_iff_eq, beq_eq_false_iff_ne, bne_iff_ne, ne_eq, Bool.not_eq_true', Bool.not_eq_false', Bool.and_eq_true, Bool.or_eq_true, bne_eq_false_iff_eq, Bool.or_eq_false_iff, Bool.and_eq_false_iff] at c4
        refine den_skip ?_
        refine den_seq ?_
        refine den_block ?_
        refine den_seq ?_
        refine den_region TTok ?_
        intro K hK
        have hr25 := RdS.rowN hr20 m (by omega)
        have hlhr25 := RdS.le hr25
        simp -implicitDefEqProofs (disch := first | decide | assumption | omega) only [go_sem, ld22, RdS.len hd sl22, RdS.idx hd sl22, R1.intB hd (Ext.pres eB), RdS.cells hd, RdS.len hm sl23, RdS.idx hm sl23, RdS.cellB hm (Ext.pres eB), RdS.cells hm, RdS.len hr20 sl36, RdS.idx hr20 sl36, RdS.cellB hr20 (Ext.pres eB), RdS.cells hr20, RdS.len hr25 sl22, RdS.idx hr25 sl22, R1.intB hr25 (Ext.pres eB), RdS.cells hr25, BoxAt.cellB hb0_0 eB, wrap_id, Int.add_sub_cancel]
        refine hK _ _ ?_
        clear hK K
        refine den_seq ?_
        have hq := (tableP_iff.1 (hP.tb k (by omega))).2.at (k := m) (by omega)
        refine den_region TTok ?_
        intro K hK
        simp -implicitDefEqProofs (disch := first | decide | assumption | omega) only [go_sem, ld30, RdS.len hd sl22, RdS.idx hd sl22, R1.intB hd (Ext.pres eB), RdS.cells hd, RdS.len hm sl23, RdS.idx hm sl23, RdS.cellB hm (Ext.pres eB), RdS.cells hm, RdS.len hr20 sl36, RdS.idx hr20 sl36, RdS.cellB hr20 (Ext.pres eB), RdS.cells hr20, RdS.len hr25 sl22, RdS.idx hr25 sl22, R1.intB hr25 (Ext.pres eB), RdS.cells hr25, BoxAt.cellB hb0_0 eB, wrap_id, Int.add_sub_cancel]
        try simp -implicitDefEqProofs (disch := first | decide | assumption | omega) only [go_sem, RdS.len hd sl22, RdS.idx hd sl22, R1.intB hd (Ext.pres eB), RdS.cells hd, RdS.len hm sl23, RdS.idx hm sl23, RdS.cellB hm (Ext.pres eB), RdS.cells hm, RdS.len hr20 sl36, RdS.idx hr20 sl36, RdS.cellB hr20 (Ext.pres eB), RdS.cells hr20, RdS.len hr25 sl22, RdS.idx hr25 sl22, R1.intB hr25 (Ext.pres eB), RdS.cells hr25, BoxAt.cellB hb0_0 eB, wrap_id, Int.add_sub_cancel]
        refine CallA.mono (diff_ok _ X _ _ _ _ ⟨_, _, rfl, (RdS.pres hd (Ext.pres eB)), (RdS.pres hm (Ext.pres eB))⟩ (RdS.pres hr25 (Ext.pres eB)) hP hq.2 (fun _ _ => by simpa using hq.1)) ?_
        intro v15_4 h15_4
        rintro ⟨f15_4, ho15_4, hf15_4, e15_4⟩
        have := Ext.size e15_4
        replace eB := Ext.trans eB e15_4
        have hlho15_4 := OS.lt ho15_4
        try simp -implicitDefEqProofs (disch := first | decide | assumption | omega) only [go_sem, RdS.len hd sl22, RdS.idx hd sl22, R1.intB hd (Ext.pres eB), RdS.cells hd, RdS.len hm sl23, RdS.idx hm sl23, RdS.cellB hm (Ext.pres eB), RdS.cells hm, RdS.len hr20 sl36, RdS.idx hr20 sl36, RdS.cellB hr20 (Ext.pres eB), RdS.cells hr20, RdS.len hr25 sl22, RdS.idx hr25 sl22, R1.intB hr25 (Ext.pres eB), RdS.cells hr25, RdS.len (OS.rd ho15_4) sl22, RdS.idx (OS.rd ho15_4) sl22, R1.intN (OS.rd ho15_4), RdS.cells (OS.rd ho15_4), BoxAt.cellB hb0_0 eB, wrap_id, Int.add_sub_cancel]
        try simp -implicitDefEqProofs (disch := first | decide | assumption | omega) only [go_sem, RdS.len hd sl22, RdS.idx hd sl22, R1.intB hd (Ext.pres eB), RdS.cells hd, RdS.len hm sl23, RdS.idx hm sl23, RdS.cellB hm (Ext.pres eB), RdS.cells hm, RdS.len hr20 sl36, RdS.idx hr20 sl36, RdS.cellB hr20 (Ext.pres eB), RdS.cells hr20, RdS.len hr25 sl22, RdS.idx hr25 sl22, R1.intB hr25 (Ext.pres eB), RdS.cells hr25, RdS.len (OS.rd ho15_4) sl22, RdS.idx (OS.rd ho15_4) sl22, R1.intN (OS.rd ho15_4), RdS.cells (OS.rd ho15_4), BoxAt.cellB hb0_0 eB, wrap_id, Int.add_sub_cancel]
        refine CallA.mono (isZero_ok _ _ _ (OS.rd ho15_4)) ?_
        intro v_ h15_5
        rintro ⟨rfl, e15_5⟩
        replace ho15_4 := OS.ext ho15_4 e15_5
        have := Ext.size e15_5
        replace eB := Ext.trans eB e15_5
        try simp -implicitDefEqProofs (disch := first | decide | assumption | omega) only [go_sem, RdS.len hd sl22, RdS.idx hd sl22, R1.intB hd (Ext.pres eB), RdS.cells hd, RdS.len hm sl23, RdS.idx hm sl23, RdS.cellB hm (Ext.pres eB), RdS.cells hm, RdS.len hr20 sl36, RdS.idx hr20 sl36, RdS.cellB hr20 (Ext.pres eB), RdS.cells hr20, RdS.len hr25 sl22, RdS.idx hr25 sl22, R1.intB hr25 (Ext.pres eB), RdS.cells hr25, RdS.len (OS.rd ho15_4) sl22, RdS.idx (OS.rd ho15_4) sl22, R1.intN (OS.rd ho15_4), RdS.cells (OS.rd ho15_4), BoxAt.cellB hb0_0 eB, wrap_id, Int.add_sub_cancel]
        refine hK _ _ ?_
        clear hK K
        refine den_cond rfl (fun c5 => ?_) (fun c5 => ?_)
        ·try simp only [decide_eq_true_eq, decide_eq_false_iff_not, beq_iff_eq, beq_eq_false_iff_ne, bne_iff_ne, ne_eq, Bool.not_eq_true', Bool.not_eq_false', Bool.and_eq_true, Bool.or_eq_true, bne_eq_false_iff_eq, Bool.or_eq_false_iff, Bool.and_eq_false_iff] at c5
         refine den_seq ?_
         refine den_region TTok ?_
         intro K hK
         simp -implicitDefEqProofs (disch := first | decide | assumption | omega) only [go_sem, RdS.len hd sl22, RdS.idx hd sl22, R1.intB hd (Ext.pres eB), RdS.cells hd, RdS.len hm sl23, RdS.idx hm sl23, RdS.cellB hm (Ext.pres eB), RdS.cells hm, RdS.len hr20 sl36, RdS.idx hr20 sl36, RdS.cellB hr20 (Ext.pres eB), RdS.cells hr20, RdS.len hr25 sl22, RdS.idx hr25 sl22, R1.intB hr25 (Ext.pres eB), RdS.cells hr25, RdS.len (OS.rd ho15_4) sl22, RdS.idx (OS.rd ho15_4) sl22, R1.intN (OS.rd ho15_4), RdS.cells (OS.rd ho15_4), BoxAt.cellB hb0_0 eB, wrap_id, Int.add_sub_cancel]
         refine hK _ _ ?_
         clear hK K
         refine den_ret ?_
         simp (disch := decide) only [resP_1, puts_same, puts_ne]
         exact ⟨vbool (isC_no fun hC => by have h := hC.sq k (by omega) (by omega) m (by omega); rw [diff_sqv (by omega) (by omega)] at c5; exact lead_some c5 h), (Ext.trans e0_0 eB)⟩
        ·try simp only [decide_eq_true_eq, decide_eq_false_iff_not, beq_iff_eq, beq_eq_false_iff_ne, bne_iff_ne, ne_eq, Bool.not_eq_true', Bool.not_eq_false', Bool.and_eq_true, Bool.or_eq_true, bne_eq_false_iff_eq, Bool.or_eq_false_iff, Bool.and_eq_false_iff] at c5
         refine den_skip ?_
         refine den_blk ?_
         refine den_region TTok ?_
         intro K hK
         simp -implicitDefEqProofs (disch := first | decide | assumption | omega) only [go_sem, RdS.len hd sl22, RdS.idx hd sl22, R1.intB hd (Ext.pres eB), RdS.cells hd, RdS.len hm sl23, RdS.idx hm sl23, RdS.cellB hm (Ext.pres eB), RdS.cells hm, RdS.len hr20 sl36, RdS.idx hr20 sl36, RdS.cellB hr20 (Ext.pres eB), RdS.cells hr20, RdS.len hr25 sl22, RdS.idx hr25 sl22, R1.intB hr25 (Ext.pres eB), RdS.cells hr25, RdS.len (OS.rd ho15_4) sl22, RdS.idx (OS.rd ho15_4) sl22, R1.intN (OS.rd ho15_4), RdS.cells (OS.rd ho15_4), BoxAt.cellB hb0_0 eB, wrap_id, Int.add_sub_cancel]
         refine hK _ _ ?_
         clear hK K
         refine den_stop ?_
         exact ⟨m + 1, by simp [HasL, puts_at], ⟨eB, by omega, fun i hi => by
          rcases Nat.lt_succ_iff_lt_or_eq.1 hi with h1 | h1
          ·exact hy i h1
          ·subst h1; rw [← diff_sqv (by omega) (by omega)]; exact lead_zero c5⟩, by omega⟩
       ·try simp only [decide_eq_true_eq, decide_eq_false_iff_not, beq_iff_eq, beq_eq_false_iff_ne, bne_iff_ne, ne_eq, Bool.not_eq_true', Bool.not_eq_false', Bool.and_eq_true, Bool.or_eq_true, bne_eq_false_iff_eq, Bool.or_eq_false_iff, Bool.and_eq_false_iff] at c4
        refine den_exit ?_
        refine denX_code ?_
        refine denX_stop ?_
        refine denX_hit ?_
        refine den_blk ?_
        refine den_region TTok ?_
        intro K hK
        simp -implicitDefEqProofs (disch := first | decide | assumption | omega) only [go_sem, RdS.len hd sl22, RdS.idx hd sl22, R1.intB hd (Ext.pres eB), RdS.cells hd, RdS.len hm sl23, RdS.idx hm sl23, RdS.cellB hm (Ext.pres eB), RdS.cells hm, RdS.len hr20 sl36, RdS.idx hr20 sl36, RdS.cellB hr20 (Ext.pres eB), RdS.cells hr20, BoxAt.cellB hb0_0 eB, wrap_id, Int.add_sub_cancel]
        refine hK _ _ ?_
        clear hK K
        refine den_stop ?_
        exact ⟨k + 1, by simp [HasL, puts_at], ⟨eB, by omega, fun j h0 hj => by
         rcases Nat.lt_succ_iff_lt_or_eq.1 hj with h1 | h1
         ·exact hs j h0 h1
         ·subst h1; exact fun i hi => hy i (by omega)⟩, by omega⟩
     ·try simp only [decide_eq_true_eq, decide_eq_false_iff_not, beq_iff_eq, beq_eq_false_iff_ne, bne_iff_ne, ne_eq, Bool.not_eq_true', Bool.not_eq_false', Bool.and_eq_true, Bool.or_eq_true, bne_eq_false_iff_eq, Bool.or_eq_false_iff, Bool.and_eq_false_iff] at c3
      refine den_exit ?_
      refine denX_code ?_
      refine denX_stop ?_
      refine denX_hit ?_
      refine den_seq ?_
      refine den_region TTok ?_
      intro K hK
      simp -implicitDefEqProofs (disch := first | decide | assumption | omega) only [go_sem, RdS.len hd sl22, RdS.idx hd sl22, R1.intB hd (Ext.pres eB), RdS.cells hd, RdS.len hm sl23, RdS.idx hm sl23, RdS.cellB hm (Ext.pres eB), RdS.cells hm, BoxAt.cellB hb0_0 eB, wrap_id, Int.add_sub_cancel]
      refine hK _ _ ?_
      clear hK K
      refine den_ret ?_
      simp (disch := decide) only [resP_1, puts_same, puts_ne]
      exact ⟨vbool (isC_yes ⟨c0.1.1.1, by omega, by omega, hda, hP.tb, fun j hj h0 => hs j h0 (by omega)⟩), (Ext.trans e0_0 eB)⟩
end Go.Proofs.Ytbplnadngahgaaa

namespace Go.Proofs.Ytbplnadngahgaaa
open Go
theorem dimP_bnd {X : Cx} (hC : IsC X) (n : Int) : 0 ≤ dimP X n ∧ dimP X n ≤ 8 := by
 unfold dimP
 split
 ·rename_i h
  rw [in3_iff] at h
  exact dm_at hC.dm (by omega)
 ·omega
theorem dimP_out {X : Cx} {n : Int} (h : ¬ (0 ≤ n ∧ n ≤ (X.dims.length : Int) - 1)) : dimP X n = 0 := by
 rw [dimP, if_neg (by rw [in3_iff]; exact h)]
end Go.Proofs.Ytbplnadngahgaaa

namespace Go.Proofs.Ytbplnadngahgaaa
open Go
theorem szI_ok {xs : List Int} {l : Int} (hl : l ≤ 1048576) (h : ¬ szI xs l < 0) : HM1 xs := by
 unfold szI at h
 unfold HM1
 split at h <;> omega
theorem szRows_ok {α : Type} {f : α → Int → Int} {P : α → Prop} (hle : ∀ x l, 0 ≤ l → -1 ≤ f x l ∧ f x l ≤ l) (hP : ∀ x l, 0 ≤ l → l ≤ 1048576 → ¬ f x l < 0 → P x) : ∀ (r : List α) (l : Int), 0 ≤ l → l ≤ 1048576 → ¬ szRows f r l < 0 → ∀ x ∈ r, P x
 | [], _, _, _, _, x, hx => by cases hx
 | y :: r, l, h0, h1, h, x, hx => by
  unfold szRows at h
  split at h
  ·omega
  ·rename_i hc
   have := hle y l h0
   rcases List.mem_cons.1 hx with rfl | hx
   ·exact hP _ l h0 h1 hc
   ·exact szRows_ok hle hP r (f y l) (by omega) (by omega) h x hx
theorem szL_ok {α : Type} {f : α → Int → Int} {P : α → Prop} (hle : ∀ x l, 0 ≤ l → -1 ≤ f x l ∧ f x l ≤ l) (hP : ∀ x l, 0 ≤ l → l ≤ 1048576 → ¬ f x l < 0 → P x) {r : List α} {l : Int} (h1 : l ≤ 1048576) (h : ¬ szL f r l < 0) : (r.length : Int) ≤ 1048576 ∧ ∀ x ∈ r, P x := by
 unfold szL at h
 split at h
 ·omega
 ·exact ⟨by omega, szRows_ok hle hP r _ (by omega) (by omega) h⟩
theorem sz2_ok {r : List (List Int)} {l : Int} (h0 : 0 ≤ l) (h1 : l ≤ 1048576) (h : ¬ sz2 r l < 0) : HM2 r := szL_ok szI_le (fun x l _ h1 h => szI_ok h1 h) h1 h
theorem sz3_ok {r : List (List (List Int))} {l : Int} (h0 : 0 ≤ l) (h1 : l ≤ 1048576) (h : ¬ sz3 r l < 0) : HM3 r := szL_ok sz2_le (fun x l h0 h1 h => sz2_ok h0 h1 h) h1 h
theorem szC_ok' {X : Cx} {l : Int} (h0 : 0 ≤ l) (h1 : l ≤ 1048576) (h : ¬ szC X l < 0) : HMC X := by
 unfold szC at h
 have hle := szI_le X.dims l h0
 split at h
 ·omega
 ·rename_i hc
  split at h
  ·omega
  ·rename_i hc2
   exact ⟨szI_ok h1 hc, sz3_ok (by omega) (by omega) hc2⟩
theorem Fresh.left {lo : Nat} {f1 f2 : List Nat} (h : Fresh lo (f1 ++ f2)) : Fresh lo f1 := ⟨(List.nodup_append.1 h.nodup).1, fun b hb => h.ge b (List.mem_append_left _ hb)⟩
theorem Fresh.right {lo : Nat} {f1 f2 : List Nat} (h : Fresh lo (f1 ++ f2)) : Fresh lo f2 := ⟨(List.nodup_append.1 h.nodup).2.1, fun b hb => h.ge b (List.mem_append_right _ hb)⟩
end Go.Proofs.Ytbplnadngahgaaa

namespace Go.Proofs.Ytbplnadngahgaaa
open Go
def cntL {α : Type} (ct : α → Int) : List α → Int
 | [] => 0
 | x :: r => ct x + cntL ct r
def cnt1 (xs : List Int) : Int := xs.length
abbrev cnt2 : List (List Int) → Int := cntL cnt1
section
variable {α : Type} {mk : α → Int → α} {ct : α → Int}
theorem cntL_nonneg (h : ∀ x, 0 ≤ ct x) : ∀ xs : List α, 0 ≤ cntL ct xs
 | [] => by simp [cntL]
 | x :: r => by have := h x; have := cntL_nonneg h r; simp only [cntL]; omega
end
theorem cnt1_nn (x : List Int) : 0 ≤ cnt1 x := by unfold cnt1; omega
theorem cnt2_nn (x : List (List Int)) : 0 ≤ cnt2 x := cntL_nonneg cnt1_nn x
end Go.Proofs.Ytbplnadngahgaaa

namespace Go.Proofs.Ytbplnadngahgaaa
open Go
theorem szI_cntA {xs : List Int} {l : Int} (h : ¬ szI xs l < 0) : cnt1 xs ≤ l - szI xs l := by
 unfold szI at *
 unfold cnt1
 split at h
 ·omega
 ·rename_i hc; rw [if_neg hc]; omega
theorem szRows_cntA {α : Type} {f : α → Int → Int} {ct : α → Int} (hc : ∀ x l, ¬ f x l < 0 → ct x ≤ l - f x l) : ∀ (r : List α) (l : Int), ¬ szRows f r l < 0 → cntL ct r ≤ l - szRows f r l
 | [], l, _ => by simp [cntL, szRows]
 | x :: r, l, h => by
  unfold szRows at *
  split at h
  ·omega
  ·rename_i hx
   have h1 := hc x l hx
   have h2 := szRows_cntA hc r (f x l) h
   rw [if_neg hx, cntL]; omega
theorem szL_cntA {α : Type} {f : α → Int → Int} {ct : α → Int} (hc : ∀ x l, ¬ f x l < 0 → ct x ≤ l - f x l) (r : List α) (l : Int) (h : ¬ szL f r l < 0) : cntL ct r ≤ l - szL f r l := by
 unfold szL at *
 split at h
 ·omega
 ·rename_i hx
  have := szRows_cntA hc r _ h
  rw [if_neg hx]; omega
theorem sz3_cntA {R : List (List (List Int))} {l : Int} (h0 : 0 ≤ l) (h1 : l ≤ 1048576) (h : ¬ sz3 R l < 0) : 0 ≤ cntL cnt2 R ∧ cntL cnt2 R ≤ 1048576 := ⟨cntL_nonneg cnt2_nn R, by
 have := szL_cntA (f := sz2) (ct := cnt2) (fun x l hx => szL_cntA (f := szI) (ct := cnt1) (fun x l hx => szI_cntA hx) x l hx) R l h
 have e : szL sz2 R l = sz3 R l := rfl
 omega⟩
theorem szC_cntA {X : Cx} {l : Int} (h0 : 0 ≤ l) (h1 : l ≤ 1048576) (h : ¬ szC X l < 0) : 0 ≤ cnt1 X.dims ∧ 0 ≤ cntL cnt2 X.maps ∧ cnt1 X.dims + cntL cnt2 X.maps ≤ 1048576 := ⟨cnt1_nn _, cntL_nonneg cnt2_nn _, by
 unfold szC at h
 split at h
 ·omega
 ·rename_i h1
  split at h
  ·omega
  ·have a := szI_cntA h1
   have b := szL_cntA (f := sz2) (ct := cnt2) (fun x l hx => szL_cntA (f := szI) (ct := cnt1) (fun x l hx => szI_cntA hx) x l hx) X.maps _ (show ¬ szL sz2 X.maps (szI X.dims l) < 0 from by assumption)
   have e : szL sz2 X.maps (szI X.dims l) = sz3 X.maps (szI X.dims l) := rfl
   omega⟩
theorem eqSSS_same (v w : Value) (xs : List (List (List Int))) (h : Heap) (hv : R3 h v xs) (hw : R3 h w xs) : CallA Try.prog 22 #[v, w] h fun u h' => u = .bool true ∧ h' = h := (eqSSS_ok v w xs xs h hv hw).mono fun u h' e => ⟨by rw [e.1]; simp, e.2⟩
theorem eqC_same (v w : Value) (X : Cx) (h : Heap) (hv : RC h v X) (hw : RC h w X) : CallA Try.prog 21 #[v, w] h fun u h' => u = .bool true ∧ Ext h h' := (eqC_ok v w X X h hv hw).mono fun u h' e => ⟨by rw [e.1, eqC_self], e.2⟩
end Go.Proofs.Ytbplnadngahgaaa

namespace Go.Proofs.Ytbplnadngahgaaa
open Go
def unitP (n i : Nat) : List Int := (List.replicate n 0).set i 1
def unitsP (d : Int) : List (List Int) := (List.range d.toNat).map fun i => unitP d.toNat i

set_option maxRecDepth 100000 in
theorem sUnit_ok (n : Int) (i : Int) (h : Heap)  (hn : 0 ≤ i ∧ i < n ∧ n ≤ 1048576) : CallA Try.prog 137 #[.int .i64 n, .int .i64 i] h fun v' h' => ∃ w0 f0, v' = w0 ∧ O1 h' w0 (unitP n.toNat i.toNat) f0 ∧ Fresh h.size f0 ∧ Ext h h' := by
 refine callA_intro TTok (args := [_, _]) Try.func137 (by kernel_rfl) rfl 12 rfl (by simp) [.tmp 4] rfl ?_
 simp only [idxs, Nat.reduceAdd]
 refine den_seq ?_
 refine den_region TTok ?_
 intro K hK
 simp -implicitDefEqProofs (disch := first | decide | assumption | omega) only [go_sem, wrap_id]
 refine hK _ _ ?_
 clear hK K
 refine den_seq ?_
 refine den_region TTok ?_
 intro K hK
 simp -implicitDefEqProofs (disch := first | decide | assumption | omega) only [go_sem, wrap_id]
 refine op_make sz22 rfl rfl (by omega) (by omega) OI 0 (fun _ => ⟨rfl, rfl⟩) ?_
 intro v1_1 h1_1 ho1_1 e1_1
 have := Ext.size e1_1
 have eB := e1_1
 have hfho1_1 : Fresh h.size [h.size] := Fresh.one _
 have hlenho1_1 : (List.replicate (n).toNat (0 : Int)).length = (n).toNat := List.length_replicate
 have hlho1_1 := OS.lt ho1_1
 try simp -implicitDefEqProofs (disch := first | decide | assumption | omega) only [go_sem, RdS.len (OS.rd ho1_1) sl22, RdS.idx (OS.rd ho1_1) sl22, R1.intN (OS.rd ho1_1), RdS.cells (OS.rd ho1_1), wrap_id]
 refine hK _ _ ?_
 clear hK K
 refine den_seq ?_
 refine den_region TTok ?_
 intro K hK
 simp -implicitDefEqProofs (disch := first | decide | assumption | omega) only [go_sem, RdS.len (OS.rd ho1_1) sl22, RdS.idx (OS.rd ho1_1) sl22, R1.intN (OS.rd ho1_1), RdS.cells (OS.rd ho1_1), wrap_id]
 refine op_store1 (j := (i).toNat) st2 ho1_1 hfho1_1.nodup (by first | omega | (simp; omega)) rfl rfl ?_
 intro h2_3 ho2_3 c2_3
 have hsz2_3 := c2_3.size
 have := c2_3.size
 replace eB := Ext.then eB c2_3 (ge_of hfho1_1 (by omega))
 have hlho2_3 := OS.lt ho2_3
 have hlenho2_3 : ((List.replicate (n).toNat 0).set ((i).toNat) (1 : Int) : List Int).length = (List.replicate (n).toNat 0 : List Int).length := List.length_set
 try simp -implicitDefEqProofs (disch := first | decide | assumption | omega) only [go_sem, RdS.len (OS.rd ho2_3) sl22, RdS.idx (OS.rd ho2_3) sl22, R1.intN (OS.rd ho2_3), RdS.cells (OS.rd ho2_3), wrap_id]
 refine hK _ _ ?_
 clear hK K
 refine den_seq ?_
 refine den_region TTok ?_
 intro K hK
 simp -implicitDefEqProofs (disch := first | decide | assumption | omega) only [go_sem, RdS.len (OS.rd ho2_3) sl22, RdS.idx (OS.rd ho2_3) sl22, R1.intN (OS.rd ho2_3), RdS.cells (OS.rd ho2_3), wrap_id]
 refine hK _ _ ?_
 clear hK K
 refine den_ret ?_
 simp (disch := decide) only [resP_1, puts_same, puts_ne]
 exact ⟨_, _, rfl, ho2_3, hfho1_1.mono (by omega), eB⟩

set_option maxRecDepth 100000 in
theorem iUnit_ok (n : Int) (i : Int) (h : Heap)  (hn : 0 ≤ i ∧ i < n ∧ n ≤ 1048576) : CallA Try.prog 141 #[.int .i64 n, .int .i64 i] h fun v' h' => ∃ w0 f0, v' = w0 ∧ O1 h' w0 (unitP n.toNat i.toNat) f0 ∧ Fresh h.size f0 ∧ Ext h h' := by
 refine callA_intro TTok (args := [_, _]) Try.func141 (by kernel_rfl) rfl 12 rfl (by simp) [.tmp 4] rfl ?_
 simp only [idxs, Nat.reduceAdd]
 refine den_seq ?_
 refine den_region TTok ?_
 intro K hK
 simp -implicitDefEqProofs (disch := first | decide | assumption | omega) only [go_sem, wrap_id]
 refine hK _ _ ?_
 clear hK K
 refine den_seq ?_
 refine den_region TTok ?_
 intro K hK
 simp -implicitDefEqProofs (disch := first | decide | assumption | omega) only [go_sem, wrap_id]
 refine op_make sz22 rfl rfl (by omega) (by omega) OI 0 (fun _ => ⟨rfl, rfl⟩) ?_
 intro v1_1 h1_1 ho1_1 e1_1
 have := Ext.size e1_1
 have eB := e1_1
 have hfho1_1 : Fresh h.size [h.size] := Fresh.one _
 have hlenho1_1 : (List.replicate (n).toNat (0 : Int)).length = (n).toNat := List.length_replicate
 have hlho1_1 := OS.lt ho1_1
 try simp -implicitDefEqProofs (disch := first | decide | assumption | omega) only [go_sem, RdS.len (OS.rd ho1_1) sl22, RdS.idx (OS.rd ho1_1) sl22, R1.intN (OS.rd ho1_1), RdS.cells (OS.rd ho1_1), wrap_id]
 refine hK _ _ ?_
 clear hK K
 refine den_seq ?_
 refine den_region TTok ?_
 intro K hK
 simp -implicitDefEqProofs (disch := first | decide | assumption | omega) only [go_sem, RdS.len (OS.rd ho1_1) sl22, RdS.idx (OS.rd ho1_1) sl22, R1.intN (OS.rd ho1_1), RdS.cells (OS.rd ho1_1), wrap_id]
 refine op_store1 (j := (i).toNat) st2 ho1_1 hfho1_1.nodup (by first | omega | (simp; omega)) rfl rfl ?_
 intro h2_3 ho2_3 c2_3
 have hsz2_3 := c2_3.size
 have := c2_3.size
 replace eB := Ext.then eB c2_3 (ge_of hfho1_1 (by omega))
 have hlho2_3 := OS.lt ho2_3
 have hlenho2_3 : ((List.replicate (n).toNat 0).set ((i).toNat) (1 : Int) : List Int).length = (List.replicate (n).toNat 0 : List Int).length := List.length_set
 try simp -implicitDefEqProofs (disch := first | decide | assumption | omega) only [go_sem, RdS.len (OS.rd ho2_3) sl22, RdS.idx (OS.rd ho2_3) sl22, R1.intN (OS.rd ho2_3), RdS.cells (OS.rd ho2_3), wrap_id]
 refine hK _ _ ?_
 clear hK K
 refine den_seq ?_
 refine den_region TTok ?_
 intro K hK
 simp -implicitDefEqProofs (disch := first | decide | assumption | omega) only [go_sem, RdS.len (OS.rd ho2_3) sl22, RdS.idx (OS.rd ho2_3) sl22, R1.intN (OS.rd ho2_3), RdS.cells (OS.rd ho2_3), wrap_id]
 refine hK _ _ ?_
 clear hK K
 refine den_ret ?_
 simp (disch := decide) only [resP_1, puts_same, puts_ne]
 exact ⟨_, _, rfl, ho2_3, hfho1_1.mono (by omega), eB⟩

set_option maxRecDepth 100000 in
theorem iUnits_ok (n : Int) (h : Heap)  (hn : 0 ≤ n ∧ n ≤ 1048576) : CallA Try.prog 102 #[.int .i64 n] h fun v' h' => ∃ w0 f0, v' = w0 ∧ O2 h' w0 (unitsP n) f0 ∧ Fresh h.size f0 ∧ Ext h h' := by
 refine callA_intro TTok (args := [_]) Try.func102 (by kernel_rfl) rfl 18 rfl (by simp) [.tmp 2] rfl ?_
 simp only [idxs, Nat.reduceAdd]
 refine den_seq ?_
 refine den_region TTok ?_
 intro K hK
 simp -implicitDefEqProofs (disch := first | decide | assumption | omega) only [go_sem, wrap_id]
 refine hK _ _ ?_
 clear hK K
 refine den_seq ?_
 refine den_region TTok ?_
 intro K hK
 simp -implicitDefEqProofs (disch := first | decide | assumption | omega) only [go_sem, wrap_id]
 refine op_bs0 sz36 O1 ?_
 intro v1_0 h1_0 ho1_0 e1_0
 have := Ext.size e1_0
 have eB := e1_0
 have hfho1_0 : Fresh h.size [h.size] := Fresh.one _
 have hlho1_0 := OS.lt ho1_0
 try simp -implicitDefEqProofs (disch := first | decide | assumption | omega) only [go_sem, RdS.len (OS.rd ho1_0) sl36, RdS.idx (OS.rd ho1_0) sl36, RdS.cellN (OS.rd ho1_0), RdS.cells (OS.rd ho1_0), wrap_id]
 refine hK _ _ ?_
 clear hK K
 refine den_seq ?_
 refine den_seq ?_
 refine den_region TTok ?_
 intro K hK
 simp -implicitDefEqProofs (disch := first | decide | assumption | omega) only [go_sem, RdS.len (OS.rd ho1_0) sl36, RdS.idx (OS.rd ho1_0) sl36, RdS.cellN (OS.rd ho1_0), RdS.cells (OS.rd ho1_0), wrap_id]
 refine hK _ _ ?_
 clear hK K
 refine den_block ?_
 refine den_sel [3, 7, 0, 6] ?_
 intro env_1
 simp only [go_sem]
 refine den_loopS (σ := Nat × Value × List Nat) (fun st_ => [(3, st_.2.1), (7, .int .i64 (st_.1 : Int))]) (fun st_ H => ((st_.1 : Int) ≤ n) ∧ (O2 H st_.2.1 ((List.range st_.1).map fun i => unitP n.toNat i) st_.2.2) ∧ (Fresh (h.size) st_.2.2) ∧ (Sub [h.size] h1_0.size st_.2.2) ∧ (Chg [h.size] h1_0 H)) (fun st_ => n.toNat - st_.1) (0, v1_0, [h.size]) ?_ ?_
 ·exact ⟨by first | (simp; done) | (dsimp only; omega) | (simp; omega), by simpa using ho1_0, hfho1_0, Sub.refl, Chg.refl _ _⟩
 ·rintro ⟨k, vhO, fphO⟩ h4 ee3 ⟨hi0, hO, hfhO, sbhO, cL2⟩
  dsimp only at hi0 hO hfhO sbhO cL2
  have := cL2.size
  replace eB := Ext.then eB cL2 (ge_of hfho1_0 (by omega))
  have hlhO := OS.lt hO
  simp only [List.cons_append, List.nil_append]
  have hlr : ((List.range k).map fun i => unitP n.toNat i).length = k := by simp
  refine den_seq ?_
  refine den_region TTok ?_
  intro K hK
  simp -implicitDefEqProofs (disch := first | decide | assumption | omega) only [go_sem, RdS.len (OS.rd hO) sl36, RdS.idx (OS.rd hO) sl36, RdS.cellN (OS.rd hO), RdS.cells (OS.rd hO), wrap_id]
  refine hK _ _ ?_
  clear hK K
  refine den_seq ?_
  refine den_cond rfl (fun c0 => ?_) (fun c0 => ?_)
  ·try simp only [decide_eq_true_eq, decide_eq_false_iff_not, beq_iff_eq, beq_eq_false_iff_ne, bne_iff_ne, ne_eq, Bool.not_eq_true', Bool.not_eq_false', Bool.and_eq_true, Bool.or_eq_true, bne_eq_false_iff_eq] at c0
   refine den_skip ?_
   refine den_seq ?_
   refine den_block ?_
   refine den_seq ?_
   refine den_region TTok ?_
   intro K hK
   simp -implicitDefEqProofs (disch := first | decide | assumption | omega) only [go_sem, RdS.len (OS.rd hO) sl36, RdS.idx (OS.rd hO) sl36, RdS.cellN (OS.rd hO), RdS.cells (OS.rd hO), wrap_id]
   refine hK _ _ ?_
   clear hK K
   refine den_region TTok ?_
   intro K hK
   simp -implicitDefEqProofs (disch := first | decide | assumption | omega) only [go_sem, RdS.len (OS.rd hO) sl36, RdS.idx (OS.rd hO) sl36, RdS.cellN (OS.rd hO), RdS.cells (OS.rd hO), wrap_id]
   try simp -implicitDefEqProofs (disch := first | decide | assumption | omega) only [go_sem, RdS.len (OS.rd hO) sl36, RdS.idx (OS.rd hO) sl36, RdS.cellN (OS.rd hO), RdS.cells (OS.rd hO), wrap_id]
   refine CallA.mono (iUnit_ok  n (k : Int) _  (by omega)) ?_
   intro vw5_3_0 h5_3
   rintro ⟨zvw5_3_0, fw5_3_0, rfl, how5_3_0, hfw5_3_0, e5_3⟩
   replace hO := OS.ext hO e5_3
   have := Ext.size e5_3
   replace eB := Ext.trans eB e5_3
   replace cL2 := Chg.stepE cL2 e5_3
   have hlhow5_3_0 := OS.lt how5_3_0
   try simp -implicitDefEqProofs (disch := first | decide | assumption | omega) only [go_sem, RdS.len (OS.rd hO) sl36, RdS.idx (OS.rd hO) sl36, RdS.cellN (OS.rd hO), RdS.cells (OS.rd hO), RdS.len (OS.rd how5_3_0) sl22, RdS.idx (OS.rd how5_3_0) sl22, R1.intN (OS.rd how5_3_0), RdS.cells (OS.rd how5_3_0), wrap_id]
   refine op_bs1 sz36 rfl (OS.one how5_3_0).2 ?_
   try simp -implicitDefEqProofs (disch := first | decide | assumption | omega) only [go_sem, RdS.len (OS.rd hO) sl36, RdS.idx (OS.rd hO) sl36, RdS.cellN (OS.rd hO), RdS.cells (OS.rd hO), RdS.len (OS.rd how5_3_0) sl22, RdS.idx (OS.rd how5_3_0) sl22, R1.intN (OS.rd how5_3_0), RdS.cells (OS.rd how5_3_0), wrap_id]
   refine op_append1 sz36 hO hfhO.nodup how5_3_0 hfw5_3_0.nodup (apart_lt hlhO hfw5_3_0 (by omega)) (by first | omega | (simp; omega)) rfl rfl ?_
   intro v5_5 h5_5 fp5_5 ho5_5 hn5_5 hs5_5 c5_5
   have hsz5_5 := c5_5.size
   have hfho5_5 : Fresh h.size fp5_5 := Fresh.appd hfhO hfw5_3_0 (by omega) (by omega) hn5_5 hs5_5
   have sb5 : Sub [h.size] h1_0.size fp5_5 := Sub.grow sbhO (Sub.fresh hfw5_3_0 (by omega)) (by omega) hs5_5
   have := c5_5.size
   replace eB := Ext.then eB c5_5 (ge_of hfhO (by omega))
   replace cL2 := Chg.step cL2 c5_5 sbhO
   have hlho5_5 := OS.lt ho5_5
   try simp -implicitDefEqProofs (disch := first | decide | assumption | omega) only [go_sem, RdS.len (OS.rd ho5_5) sl36, RdS.idx (OS.rd ho5_5) sl36, RdS.cellN (OS.rd ho5_5), RdS.cells (OS.rd ho5_5), wrap_id]
   refine hK _ _ ?_
   clear hK K
   refine den_blk ?_
   refine den_region TTok ?_
   intro K hK
   simp -implicitDefEqProofs (disch := first | decide | assumption | omega) only [go_sem, RdS.len (OS.rd ho5_5) sl36, RdS.idx (OS.rd ho5_5) sl36, RdS.cellN (OS.rd ho5_5), RdS.cells (OS.rd ho5_5), wrap_id]
   refine hK _ _ ?_
   clear hK K
   refine den_stop ?_
   rw [Int.toNat_natCast, range_step (fun i => unitP n.toNat i)] at ho5_5
   exact ⟨(k + 1, v5_5, fp5_5), by simp [HasL, puts_at], ⟨by first | omega | (dsimp only; omega), ho5_5, hfho5_5, sb5, cL2⟩, by first | omega | (dsimp only; omega)⟩
  ·try simp only [decide_eq_true_eq, decide_eq_false_iff_not, beq_iff_eq, beq_eq_false_iff_ne, bne_iff_ne, ne_eq, Bool.not_eq_true', Bool.not_eq_false', Bool.and_eq_true, Bool.or_eq_true, bne_eq_false_iff_eq] at c0
   refine den_exit ?_
   refine denX_code ?_
   refine denX_stop ?_
   refine denX_hit ?_
   refine den_seq ?_
   refine den_region TTok ?_
   intro K hK
   simp -implicitDefEqProofs (disch := first | decide | assumption | omega) only [go_sem, RdS.len (OS.rd hO) sl36, RdS.idx (OS.rd hO) sl36, RdS.cellN (OS.rd hO), RdS.cells (OS.rd hO), wrap_id]
   refine hK _ _ ?_
   clear hK K
   refine den_ret ?_
   simp (disch := decide) only [resP_1, puts_same, puts_ne]
   have e : unitsP n = (List.range k).map fun i => unitP n.toNat i := by rw [unitsP, show n.toNat = k by omega]
   rw [e]
   exact ⟨_, _, rfl, hO, hfhO.mono (by omega), eB⟩
end Go.Proofs.Ytbplnadngahgaaa

namespace Go.Proofs.Ytbplnadngahgaaa
open Go
/-- A code, and another one where the first is 0. -/
def cadd (c e : Int) (b : Bool) : Int := if ((c == 0) && b) = true then e else c
theorem cadd_0 {c e : Int} {b : Bool} (he : e ≠ 0) : cadd c e b = 0 ↔ c = 0 ∧ b = false := by
 unfold cadd
 by_cases h : c = 0 <;> cases b <;> simp [h, he]
theorem b0 {x : Int} (h : (x == 0) = true) : x = 0 := by simpa using h
theorem caddT {c e : Int} {b : Bool} (h : ((c == 0) && b) = true) : cadd c e b = e := if_pos h
theorem caddF {c e : Int} {b : Bool} (h : ((c == 0) && b) = false) : cadd c e b = c := if_neg (by rw [h]; decide)
theorem cadd_n {c e : Int} {b : Bool} (h : c ≠ 0) : cadd c e b = c := by simp [cadd, h]
theorem cadd_z {e : Int} {b : Bool} : cadd 0 e b = if b = true then e else 0 := by simp [cadd]
noncomputable def pairC (X Y : Cx) : Int := if isC X = true ∧ isC Y = true then (if X.p = Y.p ∧ X.dims.length = Y.dims.length then 0 else 2) else 1
noncomputable def pairL (L : List Cx) : Int := if L.all isC = true then (if L.all (fun X => X.p == (L.getD 0 default).p && X.dims.length == (L.getD 0 default).dims.length) = true then 0 else 2) else 1
theorem pairL_two (X Y : Cx) : pairL [X, Y] = pairC X Y := by
 unfold pairL pairC
 by_cases h1 : isC X = true <;> by_cases h2 : isC Y = true <;> by_cases h3 : X.p = Y.p <;> by_cases h4 : X.dims.length = Y.dims.length <;> simp [h1, h2, h3, h4, eq_comm (a := Y.p), eq_comm (a := Y.dims.length)]
theorem pairC_0 {X Y : Cx} (h : pairC X Y = 0) : IsC X ∧ IsC Y ∧ X.p = Y.p ∧ X.dims.length = Y.dims.length := by
 unfold pairC at h
 split at h
 ·rename_i hc
  split at h
  ·rename_i h2; exact ⟨isC_t.1 hc.1, isC_t.1 hc.2, h2.1, h2.2⟩
  ·cases h
 ·cases h
set_option maxRecDepth 100000 in
theorem l04Two_ok (vX vY : Value) (X : Cx) (Y : Cx) (h : Heap) (rX : RC h vX X) (rY : RC h vY Y)  : CallA Try.prog 131 #[vX, vY] h fun v' h' => v' = .int .i64 (pairC X Y) ∧ Ext h h' := by
 obtain ⟨vdX, vmX, rfl, hdX, hmX⟩ := rX
 have hledX := RdS.le hdX
 have hlemX := RdS.le hmX
 obtain ⟨vdY, vmY, rfl, hdY, hmY⟩ := rY
 have hledY := RdS.le hdY
 have hlemY := RdS.le hmY
 refine callA_intro TTok (args := [_, _]) Try.func131 (by kernel_rfl) rfl 29 rfl (by simp) [.tmp 4] rfl ?_
 simp only [idxs, Nat.reduceAdd]
 refine den_seq ?_
 refine den_region TTok ?_
 intro K hK
 simp -implicitDefEqProofs (disch := first | decide | assumption | omega) only [go_sem, RdS.len hdX sl22, RdS.idx hdX sl22, R1.intB hdX (HPres.refl _), RdS.cells hdX, RdS.len hmX sl23, RdS.idx hmX sl23, RdS.cellB hmX (HPres.refl _), RdS.cells hmX, RdS.len hdY sl22, RdS.idx hdY sl22, R1.intB hdY (HPres.refl _), RdS.cells hdY, RdS.len hmY sl23, RdS.idx hmY sl23, RdS.cellB hmY (HPres.refl _), RdS.cells hmY, wrap_id]
 refine op_box (cs := #[.int .i64 (X.p), vdX, vmX]) rfl ?_
 intro h0_0 e0_0 hb0_0 z0_0
 have := Ext.size e0_0
 have eB := e0_0
 have hfhb0_0 : Fresh h.size [h.size] := Fresh.one _
 have hlhb0_0 := one_lt (show h.size < h0_0.size by omega)
 try simp -implicitDefEqProofs (disch := first | decide | assumption | omega) only [go_sem, RdS.len hdX sl22, RdS.idx hdX sl22, R1.intB hdX (Ext.pres eB), RdS.cells hdX, RdS.len hmX sl23, RdS.idx hmX sl23, RdS.cellB hmX (Ext.pres eB), RdS.cells hmX, RdS.len hdY sl22, RdS.idx hdY sl22, R1.intB hdY (Ext.pres eB), RdS.cells hdY, RdS.len hmY sl23, RdS.idx hmY sl23, RdS.cellB hmY (Ext.pres eB), RdS.cells hmY, BoxAt.cell hb0_0, wrap_id]
 refine op_box (cs := #[.int .i64 (Y.p), vdY, vmY]) rfl ?_
 intro h0_1 e0_1 hb0_1 z0_1
 replace hb0_0 := BoxAt.ext hb0_0 e0_1
 have := Ext.size e0_1
 replace eB := Ext.trans eB e0_1
 have hfhb0_1 : Fresh h0_0.size [h0_0.size] := Fresh.one _
 have hlhb0_1 := one_lt (show h0_0.size < h0_1.size by omega)
 try simp -implicitDefEqProofs (disch := first | decide | assumption | omega) only [go_sem, RdS.len hdX sl22, RdS.idx hdX sl22, R1.intB hdX (Ext.pres eB), RdS.cells hdX, RdS.len hmX sl23, RdS.idx hmX sl23, RdS.cellB hmX (Ext.pres eB), RdS.cells hmX, RdS.len hdY sl22, RdS.idx hdY sl22, R1.intB hdY (Ext.pres eB), RdS.cells hdY, RdS.len hmY sl23, RdS.idx hmY sl23, RdS.cellB hmY (Ext.pres eB), RdS.cells hmY, BoxAt.cell hb0_0, BoxAt.cell hb0_1, wrap_id]
 refine hK _ _ ?_
 clear hK K
 refine den_seq ?_
 refine den_block ?_
 refine den_seq ?_
 refine den_merge [(5, .bool (((!((isC X))) || (!((isC Y))))))] [2, 3] (fun H => Ext h0_1 H) ?_ ?_
  -- a way
 ·refine den_region TTok ?_
  intro K hK
  simp -implicitDefEqProofs (disch := first | decide | assumption | (simp (disch := decide) only [slotOf_zero, slotOf_succ, Option.map_some, puts_same, puts_ne, gv_bool, gv_undef, tt, tf, ft, ff, eq_self, if_true, if_false, Bool.false_eq_true, Bool.not_true, Bool.not_false]; done) | omega) only [go_sem, ld30, RdS.len hdX sl22, RdS.idx hdX sl22, R1.intB hdX (Ext.pres eB), RdS.cells hdX, RdS.len hmX sl23, RdS.idx hmX sl23, RdS.cellB hmX (Ext.pres eB), RdS.cells hmX, RdS.len hdY sl22, RdS.idx hdY sl22, R1.intB hdY (Ext.pres eB), RdS.cells hdY, RdS.len hmY sl23, RdS.idx hmY sl23, RdS.cellB hmY (Ext.pres eB), RdS.cells hmY, BoxAt.cell hb0_0, BoxAt.cell hb0_1, wrap_id]
  try simp -implicitDefEqProofs (disch := first | decide | assumption | omega) only [go_sem, RdS.len hdX sl22, RdS.idx hdX sl22, R1.intB hdX (Ext.pres eB), RdS.cells hdX, RdS.len hmX sl23, RdS.idx hmX sl23, RdS.cellB hmX (Ext.pres eB), RdS.cells hmX, RdS.len hdY sl22, RdS.idx hdY sl22, R1.intB hdY (Ext.pres eB), RdS.cells hdY, RdS.len hmY sl23, RdS.idx hmY sl23, RdS.cellB hmY (Ext.pres eB), RdS.cells hmY, BoxAt.cell hb0_0, BoxAt.cell hb0_1, wrap_id]
  refine CallA.mono (sIs_ok _ X _ ⟨_, _, rfl, (RdS.pres hdX (Ext.pres eB)), (RdS.pres hmX (Ext.pres eB))⟩) ?_
  intro v_ h1_1
  rintro ⟨rfl, e1_1⟩
  replace hb0_0 := BoxAt.ext hb0_0 e1_1
  replace hb0_1 := BoxAt.ext hb0_1 e1_1
  have := Ext.size e1_1
  replace eB := Ext.trans eB e1_1
  try simp -implicitDefEqProofs (disch := first | decide | assumption | (simp (disch := decide) only [slotOf_zero, slotOf_succ, Option.map_some, puts_same, puts_ne, gv_bool, gv_undef, tt, tf, ft, ff, eq_self, if_true, if_false, Bool.false_eq_true, Bool.not_true, Bool.not_false]; done) | omega) only [go_sem, RdS.len hdX sl22, RdS.idx hdX sl22, R1.intB hdX (Ext.pres eB), RdS.cells hdX, RdS.len hmX sl23, RdS.idx hmX sl23, RdS.cellB hmX (Ext.pres eB), RdS.cells hmX, RdS.len hdY sl22, RdS.idx hdY sl22, R1.intB hdY (Ext.pres eB), RdS.cells hdY, RdS.len hmY sl23, RdS.idx hmY sl23, RdS.cellB hmY (Ext.pres eB), RdS.cells hmY, BoxAt.cell hb0_0, BoxAt.cell hb0_1, wrap_id]
  refine opsP_F (by simp (disch := decide) only [slotOf_zero, slotOf_succ, Option.map_some, puts_same, puts_ne, gv_bool, gv_undef, tt, tf, ft, ff, eq_self, if_true, if_false, Bool.false_eq_true, Bool.not_true, Bool.not_false]; rfl) (fun g1 => ?_) (fun g1 => ?_)
  ·try simp -implicitDefEqProofs (disch := first | decide | assumption | (simp (disch := decide) only [slotOf_zero, slotOf_succ, Option.map_some, puts_same, puts_ne, gv_bool, gv_undef, tt, tf, ft, ff, eq_self, if_true, if_false, Bool.false_eq_true, Bool.not_true, Bool.not_false, g1]; done) | omega) only [go_sem, ld30, RdS.len hdX sl22, RdS.idx hdX sl22, R1.intB hdX (Ext.pres eB), RdS.cells hdX, RdS.len hmX sl23, RdS.idx hmX sl23, RdS.cellB hmX (Ext.pres eB), RdS.cells hmX, RdS.len hdY sl22, RdS.idx hdY sl22, R1.intB hdY (Ext.pres eB), RdS.cells hdY, RdS.len hmY sl23, RdS.idx hmY sl23, RdS.cellB hmY (Ext.pres eB), RdS.cells hmY, BoxAt.cell hb0_0, BoxAt.cell hb0_1, wrap_id, g1, eq_self, if_true, if_false, Bool.false_eq_true]
   try simp -implicitDefEqProofs (disch := first | decide | assumption | omega) only [go_sem, RdS.len hdX sl22, RdS.idx hdX sl22, R1.intB hdX (Ext.pres eB), RdS.cells hdX, RdS.len hmX sl23, RdS.idx hmX sl23, RdS.cellB hmX (Ext.pres eB), RdS.cells hmX, RdS.len hdY sl22, RdS.idx hdY sl22, R1.intB hdY (Ext.pres eB), RdS.cells hdY, RdS.len hmY sl23, RdS.idx hmY sl23, RdS.cellB hmY (Ext.pres eB), RdS.cells hmY, BoxAt.cell hb0_0, BoxAt.cell hb0_1, wrap_id]
   refine CallA.mono (sIs_ok _ Y _ ⟨_, _, rfl, (RdS.pres hdY (Ext.pres eB)), (RdS.pres hmY (Ext.pres eB))⟩) ?_
   intro v_ h1_5
   rintro ⟨rfl, e1_5⟩
   replace hb0_0 := BoxAt.ext hb0_0 e1_5
   replace hb0_1 := BoxAt.ext hb0_1 e1_5
   have := Ext.size e1_5
   replace eB := Ext.trans eB e1_5
   try simp -implicitDefEqProofs (disch := first | decide | assumption | (simp (disch := decide) only [slotOf_zero, slotOf_succ, Option.map_some, puts_same, puts_ne, gv_bool, gv_undef, tt, tf, ft, ff, eq_self, if_true, if_false, Bool.false_eq_true, Bool.not_true, Bool.not_false, g1]; done) | omega) only [go_sem, RdS.len hdX sl22, RdS.idx hdX sl22, R1.intB hdX (Ext.pres eB), RdS.cells hdX, RdS.len hmX sl23, RdS.idx hmX sl23, RdS.cellB hmX (Ext.pres eB), RdS.cells hmX, RdS.len hdY sl22, RdS.idx hdY sl22, R1.intB hdY (Ext.pres eB), RdS.cells hdY, RdS.len hmY sl23, RdS.idx hmY sl23, RdS.cellB hmY (Ext.pres eB), RdS.cells hmY, BoxAt.cell hb0_0, BoxAt.cell hb0_1, wrap_id, g1, eq_self, if_true, if_false, Bool.false_eq_true]
   refine hK _ _ ?_
   clear hK K
   refine den_stop ?_
   refine ⟨?_, (Ext.trans e1_1 e1_5)⟩
   first | (simp (disch := decide) only [go_sem, g1, eq_self, Bool.true_and, Bool.and_true, Bool.false_and, Bool.and_false, Bool.true_or, Bool.or_true, Bool.false_or, Bool.or_false, if_true, if_false, Bool.false_eq_true]; done) | simp [HasL, sel, puts_at, g1]
  ·try simp -implicitDefEqProofs (disch := first | decide | assumption | (simp (disch := decide) only [slotOf_zero, slotOf_succ, Option.map_some, puts_same, puts_ne, gv_bool, gv_undef, tt, tf, ft, ff, eq_self, if_true, if_false, Bool.false_eq_true, Bool.not_true, Bool.not_false, g1]; done) | omega) only [go_sem, RdS.len hdX sl22, RdS.idx hdX sl22, R1.intB hdX (Ext.pres eB), RdS.cells hdX, RdS.len hmX sl23, RdS.idx hmX sl23, RdS.cellB hmX (Ext.pres eB), RdS.cells hmX, RdS.len hdY sl22, RdS.idx hdY sl22, R1.intB hdY (Ext.pres eB), RdS.cells hdY, RdS.len hmY sl23, RdS.idx hmY sl23, RdS.cellB hmY (Ext.pres eB), RdS.cells hmY, BoxAt.cell hb0_0, BoxAt.cell hb0_1, wrap_id, g1, eq_self, if_true, if_false, Bool.false_eq_true]
   refine hK _ _ ?_
   clear hK K
   refine den_stop ?_
   refine ⟨?_, e1_1⟩
   first | (simp (disch := decide) only [go_sem, g1, eq_self, Bool.true_and, Bool.and_true, Bool.false_and, Bool.and_false, Bool.true_or, Bool.or_true, Bool.false_or, Bool.or_false, if_true, if_false, Bool.false_eq_true]; done) | simp [HasL, sel, puts_at, g1]
 intro en2 h3 e4
 replace hb0_0 := BoxAt.ext hb0_0 e4
 replace hb0_1 := BoxAt.ext hb0_1 e4
 have := Ext.size e4
 replace eB := Ext.trans eB e4
 simp (disch := decide) only [go_sem]
 refine den_cond rfl (fun c0 => ?_) (fun c0 => ?_)
 ·try simp only [decide_eq_true_eq, decide_eq_false_iff_not, beq_iff_eq, beq_eq_false_iff_ne, bne_iff_ne, ne_eq, Bool.not_eq_true', Bool.not_eq_false', Bool.and_eq_true, Bool.or_eq_true, bne_eq_false_iff_eq, Bool.or_eq_false_iff, Bool.and_eq_false_iff] at c0
  refine den_seq ?_
  refine den_region TTok ?_
  intro K hK
  simp -implicitDefEqProofs (disch := first | decide | assumption | omega) only [go_sem, RdS.len hdX sl22, RdS.idx hdX sl22, R1.intB hdX (Ext.pres eB), RdS.cells hdX, RdS.len hmX sl23, RdS.idx hmX sl23, RdS.cellB hmX (Ext.pres eB), RdS.cells hmX, RdS.len hdY sl22, RdS.idx hdY sl22, R1.intB hdY (Ext.pres eB), RdS.cells hdY, RdS.len hmY sl23, RdS.idx hmY sl23, RdS.cellB hmY (Ext.pres eB), RdS.cells hmY, wrap_id]
  refine hK _ _ ?_
  clear hK K
  refine den_ret ?_
  simp (disch := decide) only [resP_1, puts_same, puts_ne]
  exact ⟨vint (by rw [pairC, if_neg (by rintro ⟨h1, h2⟩; rw [h1, h2] at c0; simp at c0)]), eB⟩
 ·try simp only [decide_eq_true_eq, decide_eq_false_iff_not, beq_iff_eq, beq_eq_false_iff_ne, bne_iff_ne, ne_eq, Bool.not_eq_true', Bool.not_eq_false', Bool.and_eq_true, Bool.or_eq_true, bne_eq_false_iff_eq, Bool.or_eq_false_iff, Bool.and_eq_false_iff] at c0
  refine den_seq ?_
  refine den_mergeH [(14, .bool (((X.p != Y.p) || (((X.dims).length : Int) != ((Y.dims).length : Int)))))] [] ?_ ?_
   -- a way
  ·refine den_region TTok ?_
   intro K hK
   simp -implicitDefEqProofs (disch := first | decide | assumption | (simp (disch := decide) only [slotOf_zero, slotOf_succ, Option.map_some, puts_same, puts_ne, gv_bool, gv_undef, tt, tf, ft, ff, eq_self, if_true, if_false, Bool.false_eq_true, Bool.not_true, Bool.not_false]; done) | omega) only [go_sem, fa30_0, ld2, RdS.len hdX sl22, RdS.idx hdX sl22, R1.intB hdX (Ext.pres eB), RdS.cells hdX, RdS.len hmX sl23, RdS.idx hmX sl23, RdS.cellB hmX (Ext.pres eB), RdS.cells hmX, RdS.len hdY sl22, RdS.idx hdY sl22, R1.intB hdY (Ext.pres eB), RdS.cells hdY, RdS.len hmY sl23, RdS.idx hmY sl23, RdS.cellB hmY (Ext.pres eB), RdS.cells hmY, BoxAt.cell hb0_0, BoxAt.cell hb0_1, wrap_id]
   refine opsP_F (by simp (disch := decide) only [slotOf_zero, slotOf_succ, Option.map_some, puts_same, puts_ne, gv_bool, gv_undef, tt, tf, ft, ff, eq_self, if_true, if_false, Bool.false_eq_true, Bool.not_true, Bool.not_false]; rfl) (fun g5 => ?_) (fun g5 => ?_)
   ·try simp -implicitDefEqProofs (disch := first | decide | assumption | (simp (disch := decide) only [slotOf_zero, slotOf_succ, Option.map_some, puts_same, puts_ne, gv_bool, gv_undef, tt, tf, ft, ff, eq_self, if_true, if_false, Bool.false_eq_true, Bool.not_true, Bool.not_false, g5]; done) | omega) only [go_sem, fa30_1, ld22, RdS.len hdX sl22, RdS.idx hdX sl22, R1.intB hdX (Ext.pres eB), RdS.cells hdX, RdS.len hmX sl23, RdS.idx hmX sl23, RdS.cellB hmX (Ext.pres eB), RdS.cells hmX, RdS.len hdY sl22, RdS.idx hdY sl22, R1.intB hdY (Ext.pres eB), RdS.cells hdY, RdS.len hmY sl23, RdS.idx hmY sl23, RdS.cellB hmY (Ext.pres eB), RdS.cells hmY, BoxAt.cell hb0_0, BoxAt.cell hb0_1, wrap_id, g5, eq_self, if_true, if_false, Bool.false_eq_true]
    refine hK _ _ ?_
    clear hK K
    refine den_stop ?_
    refine ⟨?_, rfl⟩
    first | (simp (disch := decide) only [go_sem, g5, eq_self, Bool.true_and, Bool.and_true, Bool.false_and, Bool.and_false, Bool.true_or, Bool.or_true, Bool.false_or, Bool.or_false, if_true, if_false, Bool.false_eq_true]; done) | simp [HasL, sel, puts_at, g5]
   ·try simp -implicitDefEqProofs (disch := first | decide | assumption | (simp (disch := decide) only [slotOf_zero, slotOf_succ, Option.map_some, puts_same, puts_ne, gv_bool, gv_undef, tt, tf, ft, ff, eq_self, if_true, if_false, Bool.false_eq_true, Bool.not_true, Bool.not_false, g5]; done) | omega) only [go_sem, RdS.len hdX sl22, RdS.idx hdX sl22, R1.intB hdX (Ext.pres eB), RdS.cells hdX, RdS.len hmX sl23, RdS.idx hmX sl23, RdS.cellB hmX (Ext.pres eB), RdS.cells hmX, RdS.len hdY sl22, RdS.idx hdY sl22, R1.intB hdY (Ext.pres eB), RdS.cells hdY, RdS.len hmY sl23, RdS.idx hmY sl23, RdS.cellB hmY (Ext.pres eB), RdS.cells hmY, BoxAt.cell hb0_0, BoxAt.cell hb0_1, wrap_id, g5, eq_self, if_true, if_false, Bool.false_eq_true]
    refine hK _ _ ?_
    clear hK K
    refine den_stop ?_
    refine ⟨?_, rfl⟩
    first | (simp (disch := decide) only [go_sem, g5, eq_self, Bool.true_and, Bool.and_true, Bool.false_and, Bool.and_false, Bool.true_or, Bool.or_true, Bool.false_or, Bool.or_false, if_true, if_false, Bool.false_eq_true]; done) | simp [HasL, sel, puts_at, g5]
  intro en6
  simp (disch := decide) only [go_sem]
  refine den_cond rfl (fun c1 => ?_) (fun c1 => ?_)
  ·try simp only [decide_eq_true_eq, decide_eq_false_iff_not, beq_iff_eq, beq_eq_false_iff_ne, bne_iff_ne, ne_eq, Bool.not_eq_true', Bool.not_eq_false', Bool.and_eq_true, Bool.or_eq_true, bne_eq_false_iff_eq, Bool.or_eq_false_iff, Bool.and_eq_false_iff] at c1
   refine den_seq ?_
   refine den_region TTok ?_
   intro K hK
   simp -implicitDefEqProofs (disch := first | decide | assumption | omega) only [go_sem, RdS.len hdX sl22, RdS.idx hdX sl22, R1.intB hdX (Ext.pres eB), RdS.cells hdX, RdS.len hmX sl23, RdS.idx hmX sl23, RdS.cellB hmX (Ext.pres eB), RdS.cells hmX, RdS.len hdY sl22, RdS.idx hdY sl22, R1.intB hdY (Ext.pres eB), RdS.cells hdY, RdS.len hmY sl23, RdS.idx hmY sl23, RdS.cellB hmY (Ext.pres eB), RdS.cells hmY, wrap_id]
   refine hK _ _ ?_
   clear hK K
   refine den_ret ?_
   simp (disch := decide) only [resP_1, puts_same, puts_ne]
   exact ⟨vint (by rw [pairC, if_pos (by simpa using c0), if_neg (by intro h; simp [h.1, h.2] at c1)]), eB⟩
  ·try simp only [decide_eq_true_eq, decide_eq_false_iff_not, beq_iff_eq, beq_eq_false_iff_ne, bne_iff_ne, ne_eq, Bool.not_eq_true', Bool.not_eq_false', Bool.and_eq_true, Bool.or_eq_true, bne_eq_false_iff_eq, Bool.or_eq_false_iff, Bool.and_eq_false_iff] at c1
   refine den_skip ?_
   refine den_blk ?_
   refine den_seq ?_
   refine den_region TTok ?_
   intro K hK
   simp -implicitDefEqProofs (disch := first | decide | assumption | omega) only [go_sem, RdS.len hdX sl22, RdS.idx hdX sl22, R1.intB hdX (Ext.pres eB), RdS.cells hdX, RdS.len hmX sl23, RdS.idx hmX sl23, RdS.cellB hmX (Ext.pres eB), RdS.cells hmX, RdS.len hdY sl22, RdS.idx hdY sl22, R1.intB hdY (Ext.pres eB), RdS.cells hdY, RdS.len hmY sl23, RdS.idx hmY sl23, RdS.cellB hmY (Ext.pres eB), RdS.cells hmY, wrap_id]
   refine hK _ _ ?_
   clear hK K
   refine den_ret ?_
   simp (disch := decide) only [resP_1, puts_same, puts_ne]
   exact ⟨vint (by rw [pairC, if_pos (by simpa using c0), if_pos ⟨c1.1, by have := c1.2; omega⟩]), eB⟩

set_option maxRecDepth 100000 in
theorem pairL_ok (v : Value) (L : List Cx) (h : Heap) (hv : RdA 3 RC h v L) : CallA Try.prog 133 #[v] h fun v' h' => v' = .int .i64 (pairL L) ∧ Ext h h' := by
 have hle := RdA.le hv
 refine callA_intro TTok (args := [_]) Try.func133 (by kernel_rfl) rfl 42 rfl (by simp) [.tmp 2] rfl ?_
 simp only [idxs, Nat.reduceAdd]
 refine den_seq ?_
 refine den_region TTok ?_
 intro K hK
 simp -implicitDefEqProofs (disch := first | decide | assumption | omega) only [go_sem, RdA.len hv slC, RdA.idx hv slC, wrap_id, Int.toNat_zero]
 refine hK _ _ ?_
 clear hK K
 refine den_seq ?_
 refine den_seq ?_
 refine den_region TTok ?_
 intro K hK
 simp -implicitDefEqProofs (disch := first | decide | assumption | omega) only [go_sem, RdA.len hv slC, RdA.idx hv slC, wrap_id, Int.toNat_zero]
 refine hK _ _ ?_
 clear hK K
 refine den_block ?_
 refine den_sel [9, 0, 7, 8] ?_
 intro env_1
 simp only [go_sem]
 refine den_loopS (σ := Nat) (fun s => [(9, .int .i64 (s : Int))]) (fun s H => Ext h H ∧ s ≤ L.length ∧ (L.take s).all isC = true) (fun s => L.length - s) 0 ?_ ?_
 ·exact ⟨Ext.refl _, by omega, by simp⟩
 ·rintro k h4 ee3 ⟨eB, hk, hz⟩
  simp only [List.cons_append, List.nil_append]
  have := Ext.size eB
  refine den_seq ?_
  refine den_region TTok ?_
  intro K hK
  simp -implicitDefEqProofs (disch := first | decide | assumption | omega) only [go_sem, RdA.len hv slC, RdA.idx hv slC, wrap_id, Int.toNat_zero]
  refine hK _ _ ?_
  clear hK K
  refine den_seq ?_
  refine den_cond rfl (fun c0 => ?_) (fun c0 => ?_)
  ·try simp only [decide_eq_true_eq, decide_eq_false_iff_not, beq_iff_eq, beq_eq_false_iff_ne, bne_iff_ne, ne_eq, Bool.not_eq_true', Bool.not_eq_false', Bool.and_eq_true, Bool.or_eq_true, bne_eq_false_iff_eq, Bool.or_eq_false_iff, Bool.and_eq_false_iff] at c0
   refine den_skip ?_
   refine den_seq ?_
   refine den_block ?_
   refine den_seq ?_
   obtain ⟨vda, vma, hp0a, hp1a, hp2a, hda, hma⟩ := RdA.at3 hv k (by omega)
   refine den_region TTok ?_
   intro K hK
   simp -implicitDefEqProofs (disch := first | decide | assumption | omega) only [go_sem, ld30, RdA.len hv slC, RdA.idx hv slC, wrap_id, Int.toNat_zero, (Ext.pres eB) _ _ hp0a, (Ext.pres eB) _ _ hp1a, (Ext.pres eB) _ _ hp2a]
   refine op_alloc (cs := #[.int .i64 0, .slice none 0 0, .slice none 0 0]) (by kernel_rfl) ?_
   intro h3_2 e3_2 hb3_2 z3_2
   have := Ext.size e3_2
   replace eB := Ext.trans eB e3_2
   try simp -implicitDefEqProofs (disch := first | decide | assumption | omega) only [go_sem, RdA.len hv slC, RdA.idx hv slC, BoxAt.cell hb3_2, wrap_id, Int.toNat_zero, (Ext.pres eB) _ _ hp0a, (Ext.pres eB) _ _ hp1a, (Ext.pres eB) _ _ hp2a]
   refine op_storeB (cs' := #[.int .i64 (((L.getD k default).p)), vda, vma]) st30 hb3_2 rfl rfl rfl (by simp) (allOne_mem (l := [.int .i64 (((L.getD k default).p)), vda, vma]) ⟨rfl, (RdS.one hda), (RdS.one hma), trivial⟩) rfl ?_
   intro h3_3 hb3_2 c3_3
   have := c3_3.size
   replace eB := Ext.then eB c3_3 (fun b hb => by simp at hb; omega)
   try simp -implicitDefEqProofs (disch := first | decide | assumption | omega) only [go_sem, RdA.len hv slC, RdA.idx hv slC, BoxAt.cell hb3_2, wrap_id, Int.toNat_zero, (Ext.pres eB) _ _ hp0a, (Ext.pres eB) _ _ hp1a, (Ext.pres eB) _ _ hp2a]
   refine hK _ _ ?_
   clear hK K
   refine den_seq ?_
   refine den_region TTok ?_
   intro K hK
   simp -implicitDefEqProofs (disch := first | decide | assumption | omega) only [go_sem, ld30, RdA.len hv slC, RdA.idx hv slC, BoxAt.cell hb3_2, wrap_id, Int.toNat_zero]
   try simp -implicitDefEqProofs (disch := first | decide | assumption | omega) only [go_sem, RdA.len hv slC, RdA.idx hv slC, BoxAt.cell hb3_2, wrap_id, Int.toNat_zero]
   refine CallA.mono (iIs_ok _ (L.getD k default) _ ⟨_, _, rfl, (RdS.pres hda (Ext.pres eB)), (RdS.pres hma (Ext.pres eB))⟩) ?_
   intro v_ h4_1
   rintro ⟨rfl, e4_1⟩
   replace hb3_2 := BoxAt.ext hb3_2 e4_1
   have := Ext.size e4_1
   replace eB := Ext.trans eB e4_1
   try simp -implicitDefEqProofs (disch := first | decide | assumption | omega) only [go_sem, RdA.len hv slC, RdA.idx hv slC, BoxAt.cell hb3_2, wrap_id, Int.toNat_zero]
   refine hK _ _ ?_
   clear hK K
   refine den_cond rfl (fun c1 => ?_) (fun c1 => ?_)
   ·try simp only [decide_eq_true_eq, decide_eq_false_iff_not, beq_iff_eq, beq_eq_false_iff_ne, bne_iff_ne, ne_eq, Bool.not_eq_true', Bool.not_eq_false', Bool.and_eq_true, Bool.or_eq_true, bne_eq_false_iff_eq, Bool.or_eq_false_iff, Bool.and_eq_false_iff] at c1
    refine den_seq ?_
    refine den_region TTok ?_
    intro K hK
    simp -implicitDefEqProofs (disch := first | decide | assumption | omega) only [go_sem, RdA.len hv slC, RdA.idx hv slC, BoxAt.cell hb3_2, wrap_id, Int.toNat_zero]
    refine hK _ _ ?_
    clear hK K
    refine den_ret ?_
    simp (disch := decide) only [resP_1, puts_same, puts_ne]
    exact ⟨vint (by rw [pairL, all_stop (d := default) (by omega) c1]; rfl), eB⟩
   ·try simp only [decide_eq_true_eq, decide_eq_false_iff_not, beq_iff_eq, beq_eq_false_iff_ne, bne_iff_ne, ne_eq, Bool.not_eq_true', Bool.not_eq_false', Bool.and_eq_true, Bool.or_eq_true, bne_eq_false_iff_eq, Bool.or_eq_false_iff, Bool.and_eq_false_iff] at c1
    refine den_skip ?_
    refine den_blk ?_
    refine den_region TTok ?_
    intro K hK
    simp -implicitDefEqProofs (disch := first | decide | assumption | omega) only [go_sem, RdA.len hv slC, RdA.idx hv slC, BoxAt.cell hb3_2, wrap_id, Int.toNat_zero]
    refine hK _ _ ?_
    clear hK K
    refine den_stop ?_
    exact ⟨k + 1, by simp [HasL, puts_at], ⟨eB, by omega, all_step (d := default) (by omega) hz c1⟩, by omega⟩
  ·try simp only [decide_eq_true_eq, decide_eq_false_iff_not, beq_iff_eq, beq_eq_false_iff_ne, bne_iff_ne, ne_eq, Bool.not_eq_true', Bool.not_eq_false', Bool.and_eq_true, Bool.or_eq_true, bne_eq_false_iff_eq, Bool.or_eq_false_iff, Bool.and_eq_false_iff] at c0
   refine den_exit ?_
   refine denX_code ?_
   refine denX_stop ?_
   refine denX_hit ?_
   refine den_seq ?_
   refine den_seq ?_
   refine den_region TTok ?_
   intro K hK
   simp -implicitDefEqProofs (disch := first | decide | assumption | omega) only [go_sem, RdA.len hv slC, RdA.idx hv slC, wrap_id, Int.toNat_zero]
   refine hK _ _ ?_
   clear hK K
   refine den_block ?_
   refine den_sel [19, 0, 17, 18] ?_
   intro env_5
   simp only [go_sem]
   refine den_loopS (σ := Nat) (fun s => [(19, .int .i64 (s : Int))]) (fun s H => Ext h H ∧ s ≤ L.length ∧ (L.take s).all (fun X => X.p == (L.getD 0 default).p && X.dims.length == (L.getD 0 default).dims.length) = true) (fun s => L.length - s) 0 ?_ ?_
   ·exact ⟨eB, by omega, by simp⟩
   ·rintro k h8 ee7 ⟨eB, hk, hz2⟩
    simp only [List.cons_append, List.nil_append]
    have := Ext.size eB
    refine den_seq ?_
    refine den_region TTok ?_
    intro K hK
    simp -implicitDefEqProofs (disch := first | decide | assumption | omega) only [go_sem, RdA.len hv slC, RdA.idx hv slC, wrap_id, Int.toNat_zero]
    refine hK _ _ ?_
    clear hK K
    refine den_seq ?_
    refine den_cond rfl (fun c2 => ?_) (fun c2 => ?_)
    ·try simp only [decide_eq_true_eq, decide_eq_false_iff_not, beq_iff_eq, beq_eq_false_iff_ne, bne_iff_ne, ne_eq, Bool.not_eq_true', Bool.not_eq_false', Bool.and_eq_true, Bool.or_eq_true, bne_eq_false_iff_eq, Bool.or_eq_false_iff, Bool.and_eq_false_iff] at c2
     refine den_skip ?_
     refine den_seq ?_
     refine den_block ?_
     refine den_seq ?_
     obtain ⟨vdb, vmb, hp0b, hp1b, hp2b, hdb, hmb⟩ := RdA.at3 hv k (by omega)
     obtain ⟨vdz, vmz, hp0z, hp1z, hp2z, hdz, hmz⟩ := RdA.at3 hv 0 (by omega)
     have hleb := RdS.le hdb
     have hlez := RdS.le hdz
     refine den_region TTok ?_
     intro K hK
     simp -implicitDefEqProofs (disch := first | decide | assumption | omega) only [go_sem, ld30, RdA.len hv slC, RdA.idx hv slC, wrap_id, Int.toNat_zero, (Ext.pres eB) _ _ hp0b, (Ext.pres eB) _ _ hp1b, (Ext.pres eB) _ _ hp2b]
     refine op_alloc (cs := #[.int .i64 0, .slice none 0 0, .slice none 0 0]) (by kernel_rfl) ?_
     intro h9_2 e9_2 hb9_2 z9_2
     have := Ext.size e9_2
     replace eB := Ext.trans eB e9_2
     try simp -implicitDefEqProofs (disch := first | decide | assumption | omega) only [go_sem, RdA.len hv slC, RdA.idx hv slC, BoxAt.cell hb9_2, wrap_id, Int.toNat_zero, (Ext.pres eB) _ _ hp0b, (Ext.pres eB) _ _ hp1b, (Ext.pres eB) _ _ hp2b]
     refine op_storeB (cs' := #[.int .i64 (((L.getD k default).p)), vdb, vmb]) st30 hb9_2 rfl rfl rfl (by simp) (allOne_mem (l := [.int .i64 (((L.getD k default).p)), vdb, vmb]) ⟨rfl, (RdS.one hdb), (RdS.one hmb), trivial⟩) rfl ?_
     intro h9_3 hb9_2 c9_3
     have := c9_3.size
     replace eB := Ext.then eB c9_3 (fun b hb => by simp at hb; omega)
     try simp -implicitDefEqProofs (disch := first | decide | assumption | omega) only [go_sem, RdA.len hv slC, RdA.idx hv slC, BoxAt.cell hb9_2, wrap_id, Int.toNat_zero, (Ext.pres eB) _ _ hp0b, (Ext.pres eB) _ _ hp1b, (Ext.pres eB) _ _ hp2b]
     refine hK _ _ ?_
     clear hK K
     refine den_seq ?_
     refine den_mergeH [(40, .bool (((((L.getD k default).p) != ((L.getD 0 default).p)) || ((((L.getD k default).dims).length : Int) != (((L.getD 0 default).dims).length : Int)))))] [0, 17, 18, 19] ?_ ?_
      -- a way
     ·refine den_draw TTok mixed [] [(0, true), (1, true), (2, true), (3, true), (4, true), (5, true), (6, true), (7, true), (8, true), (9, true), (10, true), (11, true), (12, true), (13, true), (14, true), (15, true), (16, true), (17, true)] (by kernel_rfl) ?_
      intro K hK
      simp -implicitDefEqProofs (disch := first | decide | assumption | (simp (disch := decide) only [slotOf_zero, slotOf_succ, Option.map_some, puts_same, puts_ne, gv_bool, gv_undef, tt, tf, ft, ff, eq_self, if_true, if_false, Bool.false_eq_true, Bool.not_true, Bool.not_false]; done) | omega) only [go_sem, fa30_0, ld2, RdA.len hv slC, RdA.idx hv slC, BoxAt.cell hb9_2, wrap_id, Int.toNat_zero, (Ext.pres eB) _ _ hp0z, (Ext.pres eB) _ _ hp1z, (Ext.pres eB) _ _ hp2z, RdS.len hdb sl22, RdS.len hdz sl22]
      refine plG_F (by simp (disch := decide) only [slotOf_zero, slotOf_succ, Option.map_some, puts_same, puts_ne, gv_bool, gv_undef, tt, tf, ft, ff, eq_self, if_true, if_false, Bool.false_eq_true, Bool.not_true, Bool.not_false]; rfl) (fun g9 => ?_) (fun g9 => ?_)
      ·try simp -implicitDefEqProofs (disch := first | decide | assumption | (simp (disch := decide) only [slotOf_zero, slotOf_succ, Option.map_some, puts_same, puts_ne, gv_bool, gv_undef, tt, tf, ft, ff, eq_self, if_true, if_false, Bool.false_eq_true, Bool.not_true, Bool.not_false, g9]; done) | omega) only [go_sem, fa30_1, ld22, RdA.len hv slC, RdA.idx hv slC, BoxAt.cell hb9_2, wrap_id, Int.toNat_zero, g9, eq_self, if_true, if_false, Bool.false_eq_true, (Ext.pres eB) _ _ hp0z, (Ext.pres eB) _ _ hp1z, (Ext.pres eB) _ _ hp2z, RdS.len hdb sl22, RdS.len hdz sl22]
       refine hK _ _ ?_
       clear hK K
       refine den_stop ?_
       refine ⟨?_, rfl⟩
       first | (simp (disch := decide) only [go_sem, g9, eq_self, Bool.true_and, Bool.and_true, Bool.false_and, Bool.and_false, Bool.true_or, Bool.or_true, Bool.false_or, Bool.or_false, if_true, if_false, Bool.false_eq_true]; done) | simp [HasL, sel, puts_at, g9]
      ·try simp -implicitDefEqProofs (disch := first | decide | assumption | (simp (disch := decide) only [slotOf_zero, slotOf_succ, Option.map_some, puts_same, puts_ne, gv_bool, gv_undef, tt, tf, ft, ff, eq_self, if_true, if_false, Bool.false_eq_true, Bool.not_true, Bool.not_false, g9]; done) | omega) only [go_sem, RdA.len hv slC, RdA.idx hv slC, BoxAt.cell hb9_2, wrap_id, Int.toNat_zero, g9, eq_self, if_true, if_false, Bool.false_eq_true, (Ext.pres eB) _ _ hp0z, (Ext.pres eB) _ _ hp1z, (Ext.pres eB) _ _ hp2z, RdS.len hdb sl22, RdS.len hdz sl22]
       refine hK _ _ ?_
       clear hK K
       refine den_stop ?_
       refine ⟨?_, rfl⟩
       first | (simp (disch := decide) only [go_sem, g9, eq_self, Bool.true_and, Bool.and_true, Bool.false_and, Bool.and_false, Bool.true_or, Bool.or_true, Bool.false_or, Bool.or_false, if_true, if_false, Bool.false_eq_true]; done) | simp [HasL, sel, puts_at, g9]
     intro en10
     simp (disch := decide) only [go_sem]
     refine den_cond rfl (fun c3 => ?_) (fun c3 => ?_)
     ·try simp only [decide_eq_true_eq, decide_eq_false_iff_not, beq_iff_eq, beq_eq_false_iff_ne, bne_iff_ne, ne_eq, Bool.not_eq_true', Bool.not_eq_false', Bool.and_eq_true, Bool.or_eq_true, bne_eq_false_iff_eq, Bool.or_eq_false_iff, Bool.and_eq_false_iff] at c3
      refine den_seq ?_
      refine den_region TTok ?_
      intro K hK
      simp -implicitDefEqProofs (disch := first | decide | assumption | omega) only [go_sem, RdA.len hv slC, RdA.idx hv slC, BoxAt.cell hb9_2, wrap_id, Int.toNat_zero]
      refine hK _ _ ?_
      clear hK K
      refine den_ret ?_
      simp (disch := decide) only [resP_1, puts_same, puts_ne]
      exact ⟨vint (by rw [pairL, if_pos (all_end (by omega) hz), all_stop (f := fun X : Cx => X.p == (L.getD 0 default).p && X.dims.length == (L.getD 0 default).dims.length) (d := default) (k := k) (by omega) (Bool.and_eq_false_iff.2 (c3.elim (fun h => .inl (beq_eq_false_iff_ne.2 h)) (fun h => .inr (beq_eq_false_iff_ne.2 (by omega)))))]; rfl), eB⟩
     ·try simp only [decide_eq_true_eq, decide_eq_false_iff_not, beq_iff_eq, beq_eq_false_iff_ne, bne_iff_ne, ne_eq, Bool.not_eq_true', Bool.not_eq_false', Bool.and_eq_true, Bool.or_eq_true, bne_eq_false_iff_eq, Bool.or_eq_false_iff, Bool.and_eq_false_iff] at c3
      refine den_skip ?_
      refine den_blk ?_
      refine den_region TTok ?_
      intro K hK
      simp -implicitDefEqProofs (disch := first | decide | assumption | omega) only [go_sem, RdA.len hv slC, RdA.idx hv slC, BoxAt.cell hb9_2, wrap_id, Int.toNat_zero]
      refine hK _ _ ?_
      clear hK K
      refine den_stop ?_
      exact ⟨k + 1, by simp [HasL, puts_at], ⟨eB, by omega, all_step (d := default) (by omega) hz2 (Bool.and_eq_true_iff.2 ⟨beq_iff_eq.2 c3.1, beq_iff_eq.2 (by have := c3.2; omega)⟩)⟩, by omega⟩
    ·try simp only [decide_eq_true_eq, decide_eq_false_iff_not, beq_iff_eq, beq_eq_false_iff_ne, bne_iff_ne, ne_eq, Bool.not_eq_true', Bool.not_eq_false', Bool.and_eq_true, Bool.or_eq_true, bne_eq_false_iff_eq, Bool.or_eq_false_iff, Bool.and_eq_false_iff] at c2
     refine den_exit ?_
     refine denX_code ?_
     refine denX_stop ?_
     refine denX_hit ?_
     refine den_seq ?_
     refine den_region TTok ?_
     intro K hK
     simp -implicitDefEqProofs (disch := first | decide | assumption | omega) only [go_sem, RdA.len hv slC, RdA.idx hv slC, wrap_id, Int.toNat_zero]
     refine hK _ _ ?_
     clear hK K
     refine den_ret ?_
     simp (disch := decide) only [resP_1, puts_same, puts_ne]
     exact ⟨vint (by rw [pairL, if_pos (all_end (by omega) hz), if_pos (all_end (by omega) hz2)]), eB⟩

theorem pair2_ok (v : Value) (X Y : Cx) (h : Heap) (hv : RdA 3 RC h v [X, Y]) : CallA Try.prog 133 #[v] h fun v' h' => v' = .int .i64 (pairC X Y) ∧ Ext h h' := by
 rw [← pairL_two]
 exact pairL_ok v _ h hv
end Go.Proofs.Ytbplnadngahgaaa

namespace Go.Proofs.Ytbplnadngahgaaa
open Go
abbrev M3 := List (List (List Int))
def get3 (M : M3) (k r c : Nat) : Int := ((M.getD k default).getD r default).getD c 0
/-- How long a table of tables is, row by row. -/
structure Sh (L : Nat) (A B : Nat → Nat) (M : M3) : Prop where
 len : M.length = L
 rows : ∀ k, k < L → (M.getD k default).length = A k
 cols : ∀ k r, k < L → r < A k → ((M.getD k default).getD r default).length = B k
theorem getD_set {α : Type} {xs : List α} {k j : Nat} {x d : α} (h : k < xs.length) : (xs.set k x).getD j d = if k = j then x else xs.getD j d := by
 simp only [List.getD_eq_getElem?_getD, List.getElem?_set]
 split
 ·rename_i e; subst e; first | rfl | (rw [if_pos h]; rfl)
 ·rfl
theorem Sh.ext {L : Nat} {A B : Nat → Nat} {M N : M3} (s : Sh L A B M) (t : Sh L A B N) (h : ∀ k r c, k < L → r < A k → c < B k → get3 M k r c = get3 N k r c) : M = N := by
 have g3 : ∀ {α : Type} [Inhabited α] {xs ys : List α}, xs.length = ys.length → (∀ i, i < xs.length → xs.getD i default = ys.getD i default) → xs = ys := by
  intro α _ xs ys hl hh
  apply List.ext_getElem hl
  intro i h1 h2
  have := hh i h1
  rwa [List.getD_eq_getElem?_getD, List.getD_eq_getElem?_getD, List.getElem?_eq_getElem h1, List.getElem?_eq_getElem h2] at this
 refine g3 (by rw [s.len, t.len]) (fun k hk => ?_)
 rw [s.len] at hk
 refine g3 (by rw [s.rows k hk, t.rows k hk]) (fun r hr => ?_)
 rw [s.rows k hk] at hr
 refine g3 (by rw [s.cols k r hk hr, t.cols k r hk hr]) (fun c hc => ?_)
 rw [s.cols k r hk hr] at hc
 exact h k r c hk hr hc
def In3 (p : Int) (L : Nat) (A B : Nat → Nat) (M : M3) : Prop := ∀ k r c, k < L → r < A k → c < B k → 0 ≤ get3 M k r c ∧ get3 M k r c < p
abbrev Upd := (Nat × Nat × Nat) × Int
-- the updates of all numbers of a complex's maps
abbrev UF := Nat → Nat → Nat → Int → List Upd
end Go.Proofs.Ytbplnadngahgaaa

namespace Go.Proofs.Ytbplnadngahgaaa
open Go
theorem getD_map_range {α : Type} [Inhabited α] (f : Nat → α) {n k : Nat} (h : k < n) : ((List.range n).map f).getD k default = f k := by
 rw [List.getD_eq_getElem?_getD, List.getElem?_eq_getElem (by simpa using h)]; simp
theorem getD_repl {α : Type} {x d : α} {n k : Nat} (h : k < n) : (List.replicate n x).getD k d = x := by
 rw [List.getD_eq_getElem?_getD, List.getElem?_eq_getElem (by simpa using h)]; simp
end Go.Proofs.Ytbplnadngahgaaa

namespace Go.Proofs.Ytbplnadngahgaaa
open Go
/-- A function that is called for each number updates a table of one's own. -/
structure ORel (p : Int) (h0 : Heap) (vw : Value) (fw : List Nat) (L : Nat) (A B : Nat → Nat) (Ot : Heap → Prop) (s : M3) (H : Heap) : Prop where
 o : O3 H vw s fw
 sh : Sh L A B s
 i3 : In3 p L A B s
 e : Ext h0 H
 ot : Ot H
section
variable {U : UF} {τ : Nat → Nat → Nat → Nat × Nat × Nat} {ω : Nat → Nat → Nat → Int → Int}
end
set_option maxRecDepth 100000 in
theorem clone1_ok (vu : Value) (u : List Int) (h : Heap) (ru : R1 h vu u) (hl : (u.length : Int) ≤ 1048576) : CallA Try.prog 105 #[vu] h fun v' h' => ∃ w0 f0, v' = w0 ∧ O1 h' w0 (u) f0 ∧ Fresh h.size f0 ∧ Ext h h' := by
 have hleu := RdS.le ru
 have ru' := ru
 obtain ⟨A, cc, rfl, hA, _⟩ := ru'
 refine callA_intro TTok (args := [_]) Try.func105 (by kernel_rfl) rfl 8 rfl (by simp) [.tmp 2] rfl ?_
 simp only [idxs, Nat.reduceAdd]
 refine den_seq ?_
 refine den_region TTok ?_
 intro K hK
 simp -implicitDefEqProofs (disch := first | decide | assumption | omega) only [go_sem, RdS.len ru sl22, RdS.idx ru sl22, R1.intB ru (HPres.refl _), RdS.cells ru, wrap_id]
 refine hK _ _ ?_
 clear hK K
 refine den_seq ?_
 refine den_seq ?_
 refine den_region TTok ?_
 intro K hK
 simp -implicitDefEqProofs (disch := first | decide | assumption | omega) only [go_sem, RdS.len ru sl22, RdS.idx ru sl22, R1.intB ru (HPres.refl _), RdS.cells ru, wrap_id]
 refine hK _ _ ?_
 clear hK K
 refine den_cond rfl (fun c0 => ?_) (fun c0 => ?_)
 ·try simp only [decide_eq_true_eq, decide_eq_false_iff_not, beq_iff_eq, beq_eq_false_iff_ne, bne_iff_ne, ne_eq, Bool.not_eq_true', Bool.not_eq_false', Bool.and_eq_true, Bool.or_eq_true, bne_eq_false_iff_eq] at c0
  refine den_seq ?_
  refine den_region TTok ?_
  intro K hK
  simp -implicitDefEqProofs (disch := first | decide | assumption | omega) only [go_sem, RdS.len ru sl22, RdS.idx ru sl22, R1.intB ru (HPres.refl _), RdS.cells ru, wrap_id]
  refine hK _ _ ?_
  clear hK K
  refine den_ret ?_
  simp (disch := decide) only [resP_1, puts_same, puts_ne]
  have e : u = [] := List.length_eq_zero_iff.1 (hA.resolve_left (by rw [Option.isNone_iff_eq_none.1 c0]; decide))
  subst e
  exact ⟨_, [], rfl, OS.nil, Fresh.nil _, (Ext.refl _)⟩
 ·try simp only [decide_eq_true_eq, decide_eq_false_iff_not, beq_iff_eq, beq_eq_false_iff_ne, bne_iff_ne, ne_eq, Bool.not_eq_true', Bool.not_eq_false', Bool.and_eq_true, Bool.or_eq_true, bne_eq_false_iff_eq] at c0
  refine den_skip ?_
  refine den_seq ?_
  refine den_region TTok ?_
  intro K hK
  simp -implicitDefEqProofs (disch := first | decide | assumption | omega) only [go_sem, RdS.len ru sl22, RdS.idx ru sl22, R1.intB ru (HPres.refl _), RdS.cells ru, wrap_id]
  refine op_bs0 sz22 OI ?_
  intro v3_0 h3_0 ho3_0 e3_0
  have := Ext.size e3_0
  have eB := e3_0
  have hfho3_0 : Fresh h.size [h.size] := Fresh.one _
  have hlho3_0 := OS.lt ho3_0
  try simp -implicitDefEqProofs (disch := first | decide | assumption | omega) only [go_sem, RdS.len ru sl22, RdS.idx ru sl22, R1.intB ru (Ext.pres eB), RdS.cells ru, RdS.len (OS.rd ho3_0) sl22, RdS.idx (OS.rd ho3_0) sl22, R1.intN (OS.rd ho3_0), RdS.cells (OS.rd ho3_0), wrap_id]
  refine op_appendR ho3_0 (RdS.pres ru (Ext.pres eB)) (by first | omega | (simp; omega)) rfl ?_
  intro v3_2 h3_2 fp3_2 ho3_2 hn3_2 hs3_2 c3_2
  have hsz3_2 := c3_2.size
  have hfho3_2 : Fresh h.size fp3_2 := Fresh.appd hfho3_0 (Fresh.nil h3_0.size) (by omega) (by omega) hn3_2 hs3_2
  have := c3_2.size
  replace eB := Ext.then eB c3_2 (ge_of hfho3_0 (by omega))
  have hlho3_2 := OS.lt ho3_2
  try simp -implicitDefEqProofs (disch := first | decide | assumption | omega) only [go_sem, RdS.len ru sl22, RdS.idx ru sl22, R1.intB ru (Ext.pres eB), RdS.cells ru, RdS.len (OS.rd ho3_2) sl22, RdS.idx (OS.rd ho3_2) sl22, R1.intN (OS.rd ho3_2), RdS.cells (OS.rd ho3_2), wrap_id]
  refine hK _ _ ?_
  clear hK K
  refine den_ret ?_
  simp (disch := decide) only [resP_1, puts_same, puts_ne]
  exact ⟨_, _, rfl, ho3_2, hfho3_2.mono (by omega), eB⟩
end Go.Proofs.Ytbplnadngahgaaa

namespace Go.Proofs.Ytbplnadngahgaaa
open Go
def mapP (X : Cx) (n : Int) : List (List Int) := if in3 n 1 ((X.dims.length : Int) - 1) = true then X.maps.getD (n - 1).toNat default else List.replicate (dimP X n).toNat []
theorem mapP_ok {X : Cx} (hC : IsC X) {n : Int} (h0 : 0 ≤ n) (h1 : n ≤ (X.dims.length : Int) - 1) : ((mapP X n).length : Int) = X.dims.getD n.toNat 0 ∧ Tbl X.p (dimP X (n - 1)) (mapP X n) := by
 by_cases hn : 1 ≤ n
 ·obtain ⟨d, l, t⟩ := hC.pre.app (n := n) (by omega) h1
  rw [mapP, if_pos (in3_iff.2 ⟨hn, h1⟩), dimP, if_pos (in3_iff.2 ⟨by omega, by omega⟩)]
  exact ⟨l, t⟩
 ·have e : n = 0 := by omega
  subst e
  have d := dimP_bnd hC 0
  have d0 : dimP X 0 = X.dims.getD (0 : Int).toNat 0 := by rw [dimP, if_pos (in3_iff.2 ⟨by omega, by omega⟩)]
  rw [mapP, if_neg (by rw [in3_iff]; omega), dimP_out (n := 0 - 1) (by omega)]
  refine ⟨by rw [List.length_replicate]; omega, fun r hr => ?_⟩
  rw [List.eq_of_mem_replicate hr]
  exact ⟨rfl, fun x hx => by cases hx⟩
theorem accP_nil {p : Int} : ∀ (v : List Int) (rows : List (List Int)), (∀ r ∈ rows, r = []) → accP p v rows [] = []
 | [], _, _ => rfl
 | _ :: _, [], _ => rfl
 | x :: v, r :: rows, h => by rw [accP, stepRow, List.zipWith_nil_left]; exact accP_nil v rows (fun y hy => h y (List.mem_cons_of_mem _ hy))
theorem diff_spec {X : Cx} (hC : IsC X) {n : Int} (h0 : 0 ≤ n) (h1 : n ≤ (X.dims.length : Int) - 1) (v : List Int) : accP X.p v (mapP X n) (List.replicate (dimP X (n - 1)).toNat 0) = diffP X n v := by
 by_cases hn : 1 ≤ n
 ·rw [mapP, if_pos (in3_iff.2 ⟨hn, h1⟩), dimP, if_pos (in3_iff.2 ⟨by omega, by omega⟩), diffP, if_neg (by omega)]
 ·have e : n = 0 := by omega
  subst e
  rw [mapP, if_neg (by rw [in3_iff]; omega), dimP_out (n := 0 - 1) (by omega), diffP, if_pos (by omega)]
  exact accP_nil _ _ (fun r hr => List.eq_of_mem_replicate hr)
theorem step0 {p : Int} {row acc : List Int} (hb : Bnd p acc) (hl : row.length = acc.length) : stepRow p 0 row acc = acc := by
 refine getD_extA (stepRow_len hl) (fun n hn => ?_)
 rw [stepRow_len hl] at hn
 have := hb.at hn
 rw [stepRow_get hl hn, Int.zero_mul, Int.add_zero, Int.tmod_eq_of_lt this.1 this.2]
theorem step1 {p : Int} {row : List Int} {w : Nat} (hb : Bnd p row) (hl : row.length = w) : stepRow p 1 row (List.replicate w 0) = row := by
 have hl' : row.length = (List.replicate w (0 : Int)).length := by simpa using hl
 refine getD_extA (by rw [stepRow_len hl']; simpa using hl.symm) (fun n hn => ?_)
 rw [stepRow_len hl'] at hn
 have := hb.at (k := n) (by omega)
 have z : (List.replicate w (0 : Int)).getD n 0 = 0 := by
  rw [List.getD_eq_getElem?_getD, List.getElem?_eq_getElem hn]; simp
 rw [stepRow_get hl' hn, z, Int.zero_add, Int.one_mul, Int.tmod_eq_of_lt this.1 this.2]
theorem accP_zeros {p : Int} : ∀ (m : Nat) (rows : List (List Int)) (acc : List Int), Bnd p acc → Tbl p acc.length rows → accP p (List.replicate m 0) rows acc = acc
 | 0, _, _, _, _ => rfl
 | m + 1, [], _, _, _ => rfl
 | m + 1, r :: rows, acc, hb, ht => by
  have h1 := (ht r (by simp)).1
  rw [List.replicate_succ, accP, step0 hb (by omega)]
  exact accP_zeros m rows acc hb (fun y hy => ht y (List.mem_cons_of_mem _ hy))
theorem accP_unit {p : Int} (hp : 0 < p) {w : Nat} : ∀ (rows : List (List Int)) (i : Nat), i < rows.length → Tbl p w rows → accP p (unitP rows.length i) rows (List.replicate w 0) = rows.getD i default
 | r :: rows, 0, _, ht => by
  have h1 := ht r (by simp)
  have e : unitP (r :: rows).length 0 = 1 :: List.replicate rows.length 0 := by simp [unitP, List.replicate_succ]
  rw [e, accP, step1 h1.2 (by omega), accP_zeros _ _ _ h1.2 (fun y hy => by rw [h1.1]; exact ht y (List.mem_cons_of_mem _ hy))]
  rfl
 | r :: rows, i + 1, hi, ht => by
  have h1 := ht r (by simp)
  have e : unitP (r :: rows).length (i + 1) = 0 :: unitP rows.length i := by simp [unitP, List.replicate_succ]
  rw [e, accP, step0 (Bnd.zeros hp _) (by simp; omega), accP_unit hp rows i (by simpa using hi) (fun y hy => ht y (List.mem_cons_of_mem _ hy))]
  rfl
theorem diff_unit {X : Cx} (hC : IsC X) {k i : Nat} (hk : (k : Int) + 1 ≤ (X.dims.length : Int) - 1) (hi : (i : Int) < X.dims.getD ((k : Int) + 1).toNat 0) : diffP X ((k : Int) + 1) (unitP (X.dims.getD ((k : Int) + 1).toNat 0).toNat i) = (X.maps.getD k default).getD i default := by
 obtain ⟨d, l, t⟩ := hC.pre.app (n := (k : Int) + 1) (by omega) hk
 rw [diffP, if_neg (by omega)]
 rw [Int.add_sub_cancel, Int.toNat_natCast] at *
 have e : (X.dims.getD ((k : Int) + 1).toNat 0).toNat = (X.maps.getD k default).length := by omega
 rw [e]
 exact accP_unit (isP_bnd hC.p).1 _ _ (by omega) (by rw [show (((X.dims.getD k 0).toNat : Nat) : Int) = X.dims.getD k 0 by omega]; exact t)

set_option maxRecDepth 100000 in
theorem sMap_ok (vX : Value) (X : Cx) (n : Int) (h : Heap) (rX : RC h vX X) (hC : IsC X) : CallA Try.prog 112 #[vX, .int .i64 n] h fun v' h' => ∃ w0, v' = w0 ∧ R2 h' w0 (mapP X n) ∧ Ext h h' := by
 obtain ⟨vdX, vmX, rfl, hdX, hmX⟩ := rX
 have hledX := RdS.le hdX
 have hlemX := RdS.le hmX
 have hml := hC.ml
 have hdb := dimP_bnd hC n
 refine callA_intro TTok (args := [_, _]) Try.func112 (by kernel_rfl) rfl 32 rfl (by simp) [.tmp 4] rfl ?_
 simp only [idxs, Nat.reduceAdd]
 refine den_seq ?_
 refine den_region TTok ?_
 intro K hK
 simp -implicitDefEqProofs (disch := first | decide | assumption | omega) only [go_sem, RdS.len hdX sl22, RdS.idx hdX sl22, R1.intB hdX (HPres.refl _), RdS.cells hdX, RdS.len hmX sl23, RdS.idx hmX sl23, RdS.cellB hmX (HPres.refl _), RdS.cells hmX, wrap_id]
 refine op_box (cs := #[.int .i64 (X.p), vdX, vmX]) rfl ?_
 intro h0_0 e0_0 hb0_0 z0_0
 have := Ext.size e0_0
 have eB := e0_0
 have hfhb0_0 : Fresh h.size [h.size] := Fresh.one _
 have hlhb0_0 := one_lt (show h.size < h0_0.size by omega)
 try simp -implicitDefEqProofs (disch := first | decide | assumption | omega) only [go_sem, RdS.len hdX sl22, RdS.idx hdX sl22, R1.intB hdX (Ext.pres eB), RdS.cells hdX, RdS.len hmX sl23, RdS.idx hmX sl23, RdS.cellB hmX (Ext.pres eB), RdS.cells hmX, BoxAt.cell hb0_0, wrap_id]
 refine hK _ _ ?_
 clear hK K
 refine den_seq ?_
 refine den_seq ?_
 refine den_region TTok ?_
 intro K hK
 simp -implicitDefEqProofs (disch := first | decide | assumption | omega) only [go_sem, fa30_1, ld22, RdS.len hdX sl22, RdS.idx hdX sl22, R1.intB hdX (Ext.pres eB), RdS.cells hdX, RdS.len hmX sl23, RdS.idx hmX sl23, RdS.cellB hmX (Ext.pres eB), RdS.cells hmX, BoxAt.cell hb0_0, wrap_id]
 try simp -implicitDefEqProofs (disch := first | decide | assumption | omega) only [go_sem, RdS.len hdX sl22, RdS.idx hdX sl22, R1.intB hdX (Ext.pres eB), RdS.cells hdX, RdS.len hmX sl23, RdS.idx hmX sl23, RdS.cellB hmX (Ext.pres eB), RdS.cells hmX, BoxAt.cell hb0_0, wrap_id]
 refine CallA.pure (sIn_ok _ _ _ _) ?_
 try simp -implicitDefEqProofs (disch := first | decide | assumption | omega) only [go_sem, RdS.len hdX sl22, RdS.idx hdX sl22, R1.intB hdX (Ext.pres eB), RdS.cells hdX, RdS.len hmX sl23, RdS.idx hmX sl23, RdS.cellB hmX (Ext.pres eB), RdS.cells hmX, BoxAt.cell hb0_0, wrap_id]
 refine hK _ _ ?_
 clear hK K
 refine den_cond rfl (fun c0 => ?_) (fun c0 => ?_)
 ·try simp only [decide_eq_true_eq, decide_eq_false_iff_not, beq_iff_eq, beq_eq_false_iff_ne, bne_iff_ne, ne_eq, Bool.not_eq_true', Bool.not_eq_false', Bool.and_eq_true, Bool.or_eq_true, bne_eq_false_iff_eq, in3_iff, in3_f] at c0
  refine den_seq ?_
  refine den_region TTok ?_
  intro K hK
  have hr1 := RdS.rowN hmX ((n - (1 : Int))).toNat (by omega)
  have hlhr1 := RdS.le hr1
  simp -implicitDefEqProofs (disch := first | decide | assumption | omega) only [go_sem, fa30_2, ld23, ld36, RdS.len hdX sl22, RdS.idx hdX sl22, R1.intB hdX (Ext.pres eB), RdS.cells hdX, RdS.len hmX sl23, RdS.idx hmX sl23, RdS.cellB hmX (Ext.pres eB), RdS.cells hmX, RdS.len hr1 sl36, RdS.idx hr1 sl36, RdS.cellB hr1 (Ext.pres eB), RdS.cells hr1, BoxAt.cell hb0_0, wrap_id]
  refine hK _ _ ?_
  clear hK K
  refine den_ret ?_
  simp (disch := decide) only [resP_1, puts_same, puts_ne]
  exact ⟨_, rfl, by rw [mapP, if_pos (in3_iff.2 c0)]; exact RdS.pres (RdS.rowN hmX _ (by omega)) (Ext.pres eB), eB⟩
 ·try simp only [decide_eq_true_eq, decide_eq_false_iff_not, beq_iff_eq, beq_eq_false_iff_ne, bne_iff_ne, ne_eq, Bool.not_eq_true', Bool.not_eq_false', Bool.and_eq_true, Bool.or_eq_true, bne_eq_false_iff_eq, in3_iff, in3_f] at c0
  refine den_skip ?_
  refine den_seq ?_
  refine den_region TTok ?_
  intro K hK
  simp -implicitDefEqProofs (disch := first | decide | assumption | omega) only [go_sem, RdS.len hdX sl22, RdS.idx hdX sl22, R1.intB hdX (Ext.pres eB), RdS.cells hdX, RdS.len hmX sl23, RdS.idx hmX sl23, RdS.cellB hmX (Ext.pres eB), RdS.cells hmX, BoxAt.cell hb0_0, wrap_id]
  refine op_bs0 sz36 O1 ?_
  intro v3_0 h3_0 ho3_0 e3_0
  replace hb0_0 := BoxAt.ext hb0_0 e3_0
  have := Ext.size e3_0
  replace eB := Ext.trans eB e3_0
  have hfho3_0 : Fresh h0_0.size [h0_0.size] := Fresh.one _
  have hlho3_0 := OS.lt ho3_0
  try simp -implicitDefEqProofs (disch := first | decide | assumption | omega) only [go_sem, RdS.len hdX sl22, RdS.idx hdX sl22, R1.intB hdX (Ext.pres eB), RdS.cells hdX, RdS.len hmX sl23, RdS.idx hmX sl23, RdS.cellB hmX (Ext.pres eB), RdS.cells hmX, RdS.len (OS.rd ho3_0) sl36, RdS.idx (OS.rd ho3_0) sl36, RdS.cellN (OS.rd ho3_0), RdS.cells (OS.rd ho3_0), BoxAt.cell hb0_0, wrap_id]
  refine hK _ _ ?_
  clear hK K
  refine den_seq ?_
  refine den_seq ?_
  refine den_region TTok ?_
  intro K hK
  simp -implicitDefEqProofs (disch := first | decide | assumption | omega) only [go_sem, RdS.len hdX sl22, RdS.idx hdX sl22, R1.intB hdX (Ext.pres eB), RdS.cells hdX, RdS.len hmX sl23, RdS.idx hmX sl23, RdS.cellB hmX (Ext.pres eB), RdS.cells hmX, RdS.len (OS.rd ho3_0) sl36, RdS.idx (OS.rd ho3_0) sl36, RdS.cellN (OS.rd ho3_0), RdS.cells (OS.rd ho3_0), BoxAt.cell hb0_0, wrap_id]
  refine hK _ _ ?_
  clear hK K
  refine den_block ?_
  refine den_sel [5, 6, 1, 2] ?_
  intro env_2
  simp only [go_sem]
  refine den_loopS (σ := Nat × Value × List Nat) (fun st_ => [(5, st_.2.1), (6, .int .i64 (st_.1 : Int))]) (fun st_ H => ((st_.1 : Int) ≤ dimP X n) ∧ (O2 H st_.2.1 (List.replicate st_.1 []) st_.2.2) ∧ (Fresh (h0_0.size) st_.2.2) ∧ (Sub [h0_0.size] h3_0.size st_.2.2) ∧ (Chg [h0_0.size] h3_0 H)) (fun st_ => (dimP X n).toNat - st_.1) (0, v3_0, [h0_0.size]) ?_ ?_
  ·exact ⟨by first | (simp; done) | (dsimp only; omega) | (simp; omega), by simpa using ho3_0, hfho3_0, Sub.refl, Chg.refl _ _⟩
  ·rintro ⟨k, vhI, fphI⟩ h5 ee4 ⟨hi0, hI, hfhI, sbhI, cL3⟩
   dsimp only at hi0 hI hfhI sbhI cL3
   replace hb0_0 := BoxAt.chgA hb0_0 cL3 (apart_lt hlhb0_0 hfho3_0 (by omega))
   have := cL3.size
   replace eB := Ext.then eB cL3 (ge_of hfho3_0 (by omega))
   have hlhI := OS.lt hI
   simp only [List.cons_append, List.nil_append]
   have hlr : (List.replicate k ([] : List Int)).length = k := List.length_replicate
   refine den_seq ?_
   refine den_seq ?_
   refine den_region TTok ?_
   intro K hK
   simp -implicitDefEqProofs (disch := first | decide | assumption | omega) only [go_sem, ld30, RdS.len hdX sl22, RdS.idx hdX sl22, R1.intB hdX (Ext.pres eB), RdS.cells hdX, RdS.len hmX sl23, RdS.idx hmX sl23, RdS.cellB hmX (Ext.pres eB), RdS.cells hmX, RdS.len (OS.rd hI) sl36, RdS.idx (OS.rd hI) sl36, RdS.cellN (OS.rd hI), RdS.cells (OS.rd hI), BoxAt.cell hb0_0, wrap_id]
   try simp -implicitDefEqProofs (disch := first | decide | assumption | omega) only [go_sem, RdS.len hdX sl22, RdS.idx hdX sl22, R1.intB hdX (Ext.pres eB), RdS.cells hdX, RdS.len hmX sl23, RdS.idx hmX sl23, RdS.cellB hmX (Ext.pres eB), RdS.cells hmX, RdS.len (OS.rd hI) sl36, RdS.idx (OS.rd hI) sl36, RdS.cellN (OS.rd hI), RdS.cells (OS.rd hI), BoxAt.cell hb0_0, wrap_id]
   refine CallA.mono (sDim_ok _ X _ _ ⟨_, _, rfl, (RdS.pres hdX (Ext.pres eB)), (RdS.pres hmX (Ext.pres eB))⟩) ?_
   intro v_ h5_3
   rintro ⟨rfl, e5_3⟩
   replace hI := OS.ext hI e5_3
   replace hb0_0 := BoxAt.ext hb0_0 e5_3
   have := Ext.size e5_3
   replace eB := Ext.trans eB e5_3
   replace cL3 := Chg.stepE cL3 e5_3
   try simp -implicitDefEqProofs (disch := first | decide | assumption | omega) only [go_sem, RdS.len hdX sl22, RdS.idx hdX sl22, R1.intB hdX (Ext.pres eB), RdS.cells hdX, RdS.len hmX sl23, RdS.idx hmX sl23, RdS.cellB hmX (Ext.pres eB), RdS.cells hmX, RdS.len (OS.rd hI) sl36, RdS.idx (OS.rd hI) sl36, RdS.cellN (OS.rd hI), RdS.cells (OS.rd hI), BoxAt.cell hb0_0, wrap_id]
   refine hK _ _ ?_
   clear hK K
   refine den_cond rfl (fun c1 => ?_) (fun c1 => ?_)
   ·try simp only [decide_eq_true_eq, decide_eq_false_iff_not, beq_iff_eq, beq_eq_false_iff_ne, bne_iff_ne, ne_eq, Bool.not_eq_true', Bool.not_eq_false', Bool.and_eq_true, Bool.or_eq_true, bne_eq_false_iff_eq, in3_iff, in3_f] at c1
    refine den_skip ?_
    refine den_seq ?_
    refine den_block ?_
    refine den_region TTok ?_
    intro K hK
    simp -implicitDefEqProofs (disch := first | decide | assumption | omega) only [go_sem, RdS.len hdX sl22, RdS.idx hdX sl22, R1.intB hdX (Ext.pres eB), RdS.cells hdX, RdS.len hmX sl23, RdS.idx hmX sl23, RdS.cellB hmX (Ext.pres eB), RdS.cells hmX, RdS.len (OS.rd hI) sl36, RdS.idx (OS.rd hI) sl36, RdS.cellN (OS.rd hI), RdS.cells (OS.rd hI), BoxAt.cell hb0_0, wrap_id]
    refine op_bs0 sz22 OI ?_
    intro v7_1 h7_1 ho7_1 e7_1
    replace hI := OS.ext hI e7_1
    replace hb0_0 := BoxAt.ext hb0_0 e7_1
    have := Ext.size e7_1
    replace eB := Ext.trans eB e7_1
    replace cL3 := Chg.stepE cL3 e7_1
    have hfho7_1 : Fresh h5_3.size [h5_3.size] := Fresh.one _
    have hlho7_1 := OS.lt ho7_1
    try simp -implicitDefEqProofs (disch := first | decide | assumption | omega) only [go_sem, RdS.len hdX sl22, RdS.idx hdX sl22, R1.intB hdX (Ext.pres eB), RdS.cells hdX, RdS.len hmX sl23, RdS.idx hmX sl23, RdS.cellB hmX (Ext.pres eB), RdS.cells hmX, RdS.len (OS.rd hI) sl36, RdS.idx (OS.rd hI) sl36, RdS.cellN (OS.rd hI), RdS.cells (OS.rd hI), RdS.len (OS.rd ho7_1) sl22, RdS.idx (OS.rd ho7_1) sl22, R1.intN (OS.rd ho7_1), RdS.cells (OS.rd ho7_1), BoxAt.cell hb0_0, wrap_id]
    refine op_bs1 sz36 rfl (OS.one ho7_1).2 ?_
    try simp -implicitDefEqProofs (disch := first | decide | assumption | omega) only [go_sem, RdS.len hdX sl22, RdS.idx hdX sl22, R1.intB hdX (Ext.pres eB), RdS.cells hdX, RdS.len hmX sl23, RdS.idx hmX sl23, RdS.cellB hmX (Ext.pres eB), RdS.cells hmX, RdS.len (OS.rd hI) sl36, RdS.idx (OS.rd hI) sl36, RdS.cellN (OS.rd hI), RdS.cells (OS.rd hI), RdS.len (OS.rd ho7_1) sl22, RdS.idx (OS.rd ho7_1) sl22, R1.intN (OS.rd ho7_1), RdS.cells (OS.rd ho7_1), BoxAt.cell hb0_0, wrap_id]
    refine op_append1 sz36 hI hfhI.nodup ho7_1 hfho7_1.nodup (apart_lt hlhI hfho7_1 (by omega)) (by first | omega | (simp; omega)) rfl rfl ?_
    intro v7_3 h7_3 fp7_3 ho7_3 hn7_3 hs7_3 c7_3
    have hsz7_3 := c7_3.size
    have hfho7_3 : Fresh h0_0.size fp7_3 := Fresh.appd hfhI hfho7_1 (by omega) (by omega) hn7_3 hs7_3
    have sb6 : Sub [h0_0.size] h3_0.size fp7_3 := Sub.grow sbhI (Sub.fresh hfho7_1 (by omega)) (by omega) hs7_3
    replace hb0_0 := BoxAt.chgA hb0_0 c7_3 (apart_lt hlhb0_0 hfhI (by omega))
    have := c7_3.size
    replace eB := Ext.then eB c7_3 (ge_of hfhI (by omega))
    replace cL3 := Chg.step cL3 c7_3 sbhI
    have hlho7_3 := OS.lt ho7_3
    try simp -implicitDefEqProofs (disch := first | decide | assumption | omega) only [go_sem, RdS.len hdX sl22, RdS.idx hdX sl22, R1.intB hdX (Ext.pres eB), RdS.cells hdX, RdS.len hmX sl23, RdS.idx hmX sl23, RdS.cellB hmX (Ext.pres eB), RdS.cells hmX, RdS.len (OS.rd ho7_3) sl36, RdS.idx (OS.rd ho7_3) sl36, RdS.cellN (OS.rd ho7_3), RdS.cells (OS.rd ho7_3), BoxAt.cell hb0_0, wrap_id]
    refine hK _ _ ?_
    clear hK K
    refine den_blk ?_
    refine den_region TTok ?_
    intro K hK
    simp -implicitDefEqProofs (disch := first | decide | assumption | omega) only [go_sem, RdS.len hdX sl22, RdS.idx hdX sl22, R1.intB hdX (Ext.pres eB), RdS.cells hdX, RdS.len hmX sl23, RdS.idx hmX sl23, RdS.cellB hmX (Ext.pres eB), RdS.cells hmX, RdS.len (OS.rd ho7_3) sl36, RdS.idx (OS.rd ho7_3) sl36, RdS.cellN (OS.rd ho7_3), RdS.cells (OS.rd ho7_3), BoxAt.cell hb0_0, wrap_id]
    refine hK _ _ ?_
    clear hK K
    refine den_stop ?_
    rw [← List.replicate_succ'] at ho7_3
    exact ⟨(k + 1, v7_3, fp7_3), by simp [HasL, puts_at], ⟨by first | omega | (dsimp only; omega), ho7_3, hfho7_3, sb6, cL3⟩, by first | omega | (dsimp only; omega)⟩
   ·try simp only [decide_eq_true_eq, decide_eq_false_iff_not, beq_iff_eq, beq_eq_false_iff_ne, bne_iff_ne, ne_eq, Bool.not_eq_true', Bool.not_eq_false', Bool.and_eq_true, Bool.or_eq_true, bne_eq_false_iff_eq, in3_iff, in3_f] at c1
    refine den_exit ?_
    refine denX_code ?_
    refine denX_stop ?_
    refine denX_hit ?_
    refine den_seq ?_
    refine den_region TTok ?_
    intro K hK
    simp -implicitDefEqProofs (disch := first | decide | assumption | omega) only [go_sem, RdS.len hdX sl22, RdS.idx hdX sl22, R1.intB hdX (Ext.pres eB), RdS.cells hdX, RdS.len hmX sl23, RdS.idx hmX sl23, RdS.cellB hmX (Ext.pres eB), RdS.cells hmX, RdS.len (OS.rd hI) sl36, RdS.idx (OS.rd hI) sl36, RdS.cellN (OS.rd hI), RdS.cells (OS.rd hI), wrap_id]
    refine hK _ _ ?_
    clear hK K
    refine den_ret ?_
    simp (disch := decide) only [resP_1, puts_same, puts_ne]
    have e : (dimP X n).toNat = k := by omega
    exact ⟨_, rfl, by rw [mapP, if_neg (by rw [in3_iff]; omega), e]; exact OS.rd hI, eB⟩

set_option maxRecDepth 100000 in
theorem same1_ok (vu vv : Value) (u : List Int) (v : List Int) (h : Heap) (ru : R1 h vu u) (rv : R1 h vv v)  : CallA Try.prog 138 #[vu, vv] h fun v' h' => v' = .bool (decide (u = v)) ∧ Ext h h' := by
 have hleu := RdS.le ru
 have hlev := RdS.le rv
 refine callA_intro TTok (args := [_, _]) Try.func138 (by kernel_rfl) rfl 26 rfl (by simp) [.tmp 4] rfl ?_
 simp only [idxs, Nat.reduceAdd]
 refine den_seq ?_
 refine den_region TTok ?_
 intro K hK
 simp -implicitDefEqProofs (disch := first | decide | assumption | omega) only [go_sem, RdS.len ru sl22, RdS.idx ru sl22, R1.intB ru (HPres.refl _), RdS.cells ru, RdS.len rv sl22, RdS.idx rv sl22, R1.intB rv (HPres.refl _), RdS.cells rv, wrap_id]
 refine hK _ _ ?_
 clear hK K
 refine den_seq ?_
 refine den_seq ?_
 refine den_region TTok ?_
 intro K hK
 simp -implicitDefEqProofs (disch := first | decide | assumption | omega) only [go_sem, RdS.len ru sl22, RdS.idx ru sl22, R1.intB ru (HPres.refl _), RdS.cells ru, RdS.len rv sl22, RdS.idx rv sl22, R1.intB rv (HPres.refl _), RdS.cells rv, wrap_id]
 refine hK _ _ ?_
 clear hK K
 refine den_cond rfl (fun c0 => ?_) (fun c0 => ?_)
 ·try simp only [decide_eq_true_eq, decide_eq_false_iff_not, beq_iff_eq, beq_eq_false_iff_ne, bne_iff_ne, ne_eq, Bool.not_eq_true', Bool.not_eq_false', Bool.and_eq_true, Bool.or_eq_true, bne_eq_false_iff_eq] at c0
  refine den_seq ?_
  refine den_region TTok ?_
  intro K hK
  simp -implicitDefEqProofs (disch := first | decide | assumption | omega) only [go_sem, RdS.len ru sl22, RdS.idx ru sl22, R1.intB ru (HPres.refl _), RdS.cells ru, RdS.len rv sl22, RdS.idx rv sl22, R1.intB rv (HPres.refl _), RdS.cells rv, wrap_id]
  refine hK _ _ ?_
  clear hK K
  refine den_ret ?_
  simp (disch := decide) only [resP_1, puts_same, puts_ne]
  exact ⟨vbool (by simp; intro he; rw [he] at c0; omega), (Ext.refl _)⟩
 ·try simp only [decide_eq_true_eq, decide_eq_false_iff_not, beq_iff_eq, beq_eq_false_iff_ne, bne_iff_ne, ne_eq, Bool.not_eq_true', Bool.not_eq_false', Bool.and_eq_true, Bool.or_eq_true, bne_eq_false_iff_eq] at c0
  refine den_skip ?_
  refine den_seq ?_
  refine den_seq ?_
  refine den_region TTok ?_
  intro K hK
  simp -implicitDefEqProofs (disch := first | decide | assumption | omega) only [go_sem, RdS.len ru sl22, RdS.idx ru sl22, R1.intB ru (HPres.refl _), RdS.cells ru, RdS.len rv sl22, RdS.idx rv sl22, R1.intB rv (HPres.refl _), RdS.cells rv, wrap_id]
  refine hK _ _ ?_
  clear hK K
  refine den_block ?_
  refine den_sel [5, 0, 1] ?_
  intro env_1
  simp only [go_sem]
  refine den_loopP (σ := Nat) (fun st_ => [(5, .int .i64 (st_ : Int))]) (fun st_ => (st_ ≤ u.length) ∧ (u.take st_ = v.take st_)) (fun st_ => u.length - st_) 0 ?_ ?_
  ·exact ⟨by simp, by simp⟩
  ·rintro k ee2 ⟨hk, heq⟩
   simp only [List.cons_append, List.nil_append]
   refine den_seq ?_
   refine den_seq ?_
   refine den_region TTok ?_
   intro K hK
   simp -implicitDefEqProofs (disch := first | decide | assumption | omega) only [go_sem, RdS.len ru sl22, RdS.idx ru sl22, R1.intB ru (HPres.refl _), RdS.cells ru, RdS.len rv sl22, RdS.idx rv sl22, R1.intB rv (HPres.refl _), RdS.cells rv, wrap_id]
   refine hK _ _ ?_
   clear hK K
   refine den_cond rfl (fun c1 => ?_) (fun c1 => ?_)
   ·try simp only [decide_eq_true_eq, decide_eq_false_iff_not, beq_iff_eq, beq_eq_false_iff_ne, bne_iff_ne, ne_eq, Bool.not_eq_true', Bool.not_eq_false', Bool.and_eq_true, Bool.or_eq_true, bne_eq_false_iff_eq] at c1
    refine den_skip ?_
    refine den_seq ?_
    refine den_block ?_
    refine den_seq ?_
    refine den_draw TTok mixed [] [(0, true), (1, true), (2, true), (3, true), (4, true), (5, true), (6, true), (7, true), (8, true)] (by kernel_rfl) ?_
    intro K hK
    simp -implicitDefEqProofs (disch := first | decide | assumption | omega) only [go_sem, ld2, RdS.len ru sl22, RdS.idx ru sl22, R1.intB ru (HPres.refl _), RdS.cells ru, RdS.len rv sl22, RdS.idx rv sl22, R1.intB rv (HPres.refl _), RdS.cells rv, wrap_id]
    refine hK _ _ ?_
    clear hK K
    refine den_cond rfl (fun c2 => ?_) (fun c2 => ?_)
    ·try simp only [decide_eq_true_eq, decide_eq_false_iff_not, beq_iff_eq, beq_eq_false_iff_ne, bne_iff_ne, ne_eq, Bool.not_eq_true', Bool.not_eq_false', Bool.and_eq_true, Bool.or_eq_true, bne_eq_false_iff_eq] at c2
     refine den_seq ?_
     refine den_region TTok ?_
     intro K hK
     simp -implicitDefEqProofs (disch := first | decide | assumption | omega) only [go_sem, RdS.len ru sl22, RdS.idx ru sl22, R1.intB ru (HPres.refl _), RdS.cells ru, RdS.len rv sl22, RdS.idx rv sl22, R1.intB rv (HPres.refl _), RdS.cells rv, wrap_id]
     refine hK _ _ ?_
     clear hK K
     refine den_ret ?_
     simp (disch := decide) only [resP_1, puts_same, puts_ne]
     exact ⟨vbool (by simp; exact eq_stop (d := 0) (by simpa using c2)), (Ext.refl _)⟩
    ·try simp only [decide_eq_true_eq, decide_eq_false_iff_not, beq_iff_eq, beq_eq_false_iff_ne, bne_iff_ne, ne_eq, Bool.not_eq_true', Bool.not_eq_false', Bool.and_eq_true, Bool.or_eq_true, bne_eq_false_iff_eq] at c2
     refine den_skip ?_
     refine den_blk ?_
     refine den_region TTok ?_
     intro K hK
     simp -implicitDefEqProofs (disch := first | decide | assumption | omega) only [go_sem, RdS.len ru sl22, RdS.idx ru sl22, R1.intB ru (HPres.refl _), RdS.cells ru, RdS.len rv sl22, RdS.idx rv sl22, R1.intB rv (HPres.refl _), RdS.cells rv, wrap_id]
     refine hK _ _ ?_
     clear hK K
     refine den_stop ?_
     exact ⟨k + 1, by simp [HasL, puts_at], ⟨rfl, by omega, eq_step (by omega) (by omega) heq (d := 0) (d' := 0) (by simpa using c2)⟩, by first | omega | (dsimp only; omega)⟩
   ·try simp only [decide_eq_true_eq, decide_eq_false_iff_not, beq_iff_eq, beq_eq_false_iff_ne, bne_iff_ne, ne_eq, Bool.not_eq_true', Bool.not_eq_false', Bool.and_eq_true, Bool.or_eq_true, bne_eq_false_iff_eq] at c1
    refine den_exit ?_
    refine denX_code ?_
    refine denX_stop ?_
    refine denX_hit ?_
    refine den_seq ?_
    refine den_region TTok ?_
    intro K hK
    simp -implicitDefEqProofs (disch := first | decide | assumption | omega) only [go_sem, RdS.len ru sl22, RdS.idx ru sl22, R1.intB ru (HPres.refl _), RdS.cells ru, RdS.len rv sl22, RdS.idx rv sl22, R1.intB rv (HPres.refl _), RdS.cells rv, wrap_id]
    refine hK _ _ ?_
    clear hK K
    refine den_ret ?_
    simp (disch := decide) only [resP_1, puts_same, puts_ne]
    exact ⟨vbool (by simp; exact eq_end (by omega) (by omega) heq), (Ext.refl _)⟩

set_option maxRecDepth 100000 in
theorem equal1_ok (vu vv : Value) (u : List Int) (v : List Int) (h : Heap) (ru : R1 h vu u) (rv : R1 h vv v)  : CallA Try.prog 136 #[vu, vv] h fun v' h' => v' = .bool (decide (u = v)) ∧ Ext h h' := by
 have hleu := RdS.le ru
 have hlev := RdS.le rv
 refine callA_intro TTok (args := [_, _]) Try.func136 (by kernel_rfl) rfl 26 rfl (by simp) [.tmp 4] rfl ?_
 simp only [idxs, Nat.reduceAdd]
 refine den_seq ?_
 refine den_region TTok ?_
 intro K hK
 simp -implicitDefEqProofs (disch := first | decide | assumption | omega) only [go_sem, RdS.len ru sl22, RdS.idx ru sl22, R1.intB ru (HPres.refl _), RdS.cells ru, RdS.len rv sl22, RdS.idx rv sl22, R1.intB rv (HPres.refl _), RdS.cells rv, wrap_id]
 refine hK _ _ ?_
 clear hK K
 refine den_seq ?_
 refine den_seq ?_
 refine den_region TTok ?_
 intro K hK
 simp -implicitDefEqProofs (disch := first | decide | assumption | omega) only [go_sem, RdS.len ru sl22, RdS.idx ru sl22, R1.intB ru (HPres.refl _), RdS.cells ru, RdS.len rv sl22, RdS.idx rv sl22, R1.intB rv (HPres.refl _), RdS.cells rv, wrap_id]
 refine hK _ _ ?_
 clear hK K
 refine den_cond rfl (fun c0 => ?_) (fun c0 => ?_)
 ·try simp only [decide_eq_true_eq, decide_eq_false_iff_not, beq_iff_eq, beq_eq_false_iff_ne, bne_iff_ne, ne_eq, Bool.not_eq_true', Bool.not_eq_false', Bool.and_eq_true, Bool.or_eq_true, bne_eq_false_iff_eq] at c0
  refine den_seq ?_
  refine den_region TTok ?_
  intro K hK
  simp -implicitDefEqProofs (disch := first | decide | assumption | omega) only [go_sem, RdS.len ru sl22, RdS.idx ru sl22, R1.intB ru (HPres.refl _), RdS.cells ru, RdS.len rv sl22, RdS.idx rv sl22, R1.intB rv (HPres.refl _), RdS.cells rv, wrap_id]
  refine hK _ _ ?_
  clear hK K
  refine den_ret ?_
  simp (disch := decide) only [resP_1, puts_same, puts_ne]
  exact ⟨vbool (by simp; intro he; rw [he] at c0; omega), (Ext.refl _)⟩
 ·try simp only [decide_eq_true_eq, decide_eq_false_iff_not, beq_iff_eq, beq_eq_false_iff_ne, bne_iff_ne, ne_eq, Bool.not_eq_true', Bool.not_eq_false', Bool.and_eq_true, Bool.or_eq_true, bne_eq_false_iff_eq] at c0
  refine den_skip ?_
  refine den_seq ?_
  refine den_seq ?_
  refine den_region TTok ?_
  intro K hK
  simp -implicitDefEqProofs (disch := first | decide | assumption | omega) only [go_sem, RdS.len ru sl22, RdS.idx ru sl22, R1.intB ru (HPres.refl _), RdS.cells ru, RdS.len rv sl22, RdS.idx rv sl22, R1.intB rv (HPres.refl _), RdS.cells rv, wrap_id]
  refine hK _ _ ?_
  clear hK K
  refine den_block ?_
  refine den_sel [13, 0, 1, 12] ?_
  intro env_1
  simp only [go_sem]
  refine den_loopP (σ := Nat) (fun st_ => [(13, .int .i64 (st_ : Int))]) (fun st_ => (st_ ≤ u.length) ∧ (u.take st_ = v.take st_)) (fun st_ => u.length - st_) 0 ?_ ?_
  ·exact ⟨by simp, by simp⟩
  ·rintro k ee2 ⟨hk, heq⟩
   simp only [List.cons_append, List.nil_append]
   refine den_seq ?_
   refine den_region TTok ?_
   intro K hK
   simp -implicitDefEqProofs (disch := first | decide | assumption | omega) only [go_sem, RdS.len ru sl22, RdS.idx ru sl22, R1.intB ru (HPres.refl _), RdS.cells ru, RdS.len rv sl22, RdS.idx rv sl22, R1.intB rv (HPres.refl _), RdS.cells rv, wrap_id]
   refine hK _ _ ?_
   clear hK K
   refine den_seq ?_
   refine den_cond rfl (fun c1 => ?_) (fun c1 => ?_)
   ·try simp only [decide_eq_true_eq, decide_eq_false_iff_not, beq_iff_eq, beq_eq_false_iff_ne, bne_iff_ne, ne_eq, Bool.not_eq_true', Bool.not_eq_false', Bool.and_eq_true, Bool.or_eq_true, bne_eq_false_iff_eq] at c1
    refine den_skip ?_
    refine den_seq ?_
    refine den_block ?_
    refine den_seq ?_
    refine den_region TTok ?_
    intro K hK
    simp -implicitDefEqProofs (disch := first | decide | assumption | omega) only [go_sem, RdS.len ru sl22, RdS.idx ru sl22, R1.intB ru (HPres.refl _), RdS.cells ru, RdS.len rv sl22, RdS.idx rv sl22, R1.intB rv (HPres.refl _), RdS.cells rv, wrap_id]
    refine hK _ _ ?_
    clear hK K
    refine den_seq ?_
    refine den_draw TTok mixed [] [(0, true), (1, true), (2, true), (3, true), (4, true), (5, true), (6, true), (7, true), (8, true)] (by kernel_rfl) ?_
    intro K hK
    simp -implicitDefEqProofs (disch := first | decide | assumption | omega) only [go_sem, ld2, RdS.len ru sl22, RdS.idx ru sl22, R1.intB ru (HPres.refl _), RdS.cells ru, RdS.len rv sl22, RdS.idx rv sl22, R1.intB rv (HPres.refl _), RdS.cells rv, wrap_id]
    refine hK _ _ ?_
    clear hK K
    refine den_cond rfl (fun c2 => ?_) (fun c2 => ?_)
    ·try simp only [decide_eq_true_eq, decide_eq_false_iff_not, beq_iff_eq, beq_eq_false_iff_ne, bne_iff_ne, ne_eq, Bool.not_eq_true', Bool.not_eq_false', Bool.and_eq_true, Bool.or_eq_true, bne_eq_false_iff_eq] at c2
     refine den_seq ?_
     refine den_region TTok ?_
     intro K hK
     simp -implicitDefEqProofs (disch := first | decide | assumption | omega) only [go_sem, RdS.len ru sl22, RdS.idx ru sl22, R1.intB ru (HPres.refl _), RdS.cells ru, RdS.len rv sl22, RdS.idx rv sl22, R1.intB rv (HPres.refl _), RdS.cells rv, wrap_id]
     refine hK _ _ ?_
     clear hK K
     refine den_ret ?_
     simp (disch := decide) only [resP_1, puts_same, puts_ne]
     exact ⟨vbool (by simp; exact eq_stop (d := 0) (by simpa using c2)), (Ext.refl _)⟩
    ·try simp only [decide_eq_true_eq, decide_eq_false_iff_not, beq_iff_eq, beq_eq_false_iff_ne, bne_iff_ne, ne_eq, Bool.not_eq_true', Bool.not_eq_false', Bool.and_eq_true, Bool.or_eq_true, bne_eq_false_iff_eq] at c2
     refine den_skip ?_
     refine den_blk ?_
     refine den_region TTok ?_
     intro K hK
     simp -implicitDefEqProofs (disch := first | decide | assumption | omega) only [go_sem, RdS.len ru sl22, RdS.idx ru sl22, R1.intB ru (HPres.refl _), RdS.cells ru, RdS.len rv sl22, RdS.idx rv sl22, R1.intB rv (HPres.refl _), RdS.cells rv, wrap_id]
     refine hK _ _ ?_
     clear hK K
     refine den_stop ?_
     exact ⟨k + 1, by simp [HasL, puts_at], ⟨rfl, by omega, eq_step (by omega) (by omega) heq (d := 0) (d' := 0) (by simpa using c2)⟩, by first | omega | (dsimp only; omega)⟩
   ·try simp only [decide_eq_true_eq, decide_eq_false_iff_not, beq_iff_eq, beq_eq_false_iff_ne, bne_iff_ne, ne_eq, Bool.not_eq_true', Bool.not_eq_false', Bool.and_eq_true, Bool.or_eq_true, bne_eq_false_iff_eq] at c1
    refine den_exit ?_
    refine denX_code ?_
    refine denX_stop ?_
    refine denX_hit ?_
    refine den_seq ?_
    refine den_region TTok ?_
    intro K hK
    simp -implicitDefEqProofs (disch := first | decide | assumption | omega) only [go_sem, RdS.len ru sl22, RdS.idx ru sl22, R1.intB ru (HPres.refl _), RdS.cells ru, RdS.len rv sl22, RdS.idx rv sl22, R1.intB rv (HPres.refl _), RdS.cells rv, wrap_id]
    refine hK _ _ ?_
    clear hK K
    refine den_ret ?_
    simp (disch := decide) only [resP_1, puts_same, puts_ne]
    exact ⟨vbool (by simp; exact eq_end (by omega) (by omega) heq), (Ext.refl _)⟩
end Go.Proofs.Ytbplnadngahgaaa

namespace Go.Proofs.Ytbplnadngahgaaa
open Go
/-- A row times k, modulo p. -/
def sclRow (p k : Int) (r : List Int) : List Int := (List.range r.length).map fun q : Nat => (k * r.getD q 0) % p
def lessRow (p k : Int) (a b : List Int) : List Int := (List.range a.length).map fun q : Nat => (a.getD q 0 - k * b.getD q 0) % p
theorem mul42A {k y p : Int} (hk : -6 ≤ k ∧ k ≤ 6) (hy : 0 ≤ y ∧ y < p) (hp : p ≤ 7) : -36 ≤ k * y ∧ k * y ≤ 36 := by
 have h1 : k * y ≤ 6 * y := Int.mul_le_mul_of_nonneg_right hk.2 hy.1
 have h2 : (-6) * y ≤ k * y := Int.mul_le_mul_of_nonneg_right hk.1 hy.1
 omega

set_option maxRecDepth 100000 in
theorem sMod_ok (p : Int) (x : Int) (h : Heap)  (hp : 0 < p ∧ p ≤ 7) (hx : -1000000 ≤ x ∧ x ≤ 1000000) : CallA Try.prog 98 #[.int .i64 p, .int .i64 x] h fun v' h' => v' = .int .i64 (x % p) ∧ Ext h h' := by
 have htm := tmod_in (x := x) hp.1
 refine callA_intro TTok (args := [_, _]) Try.func98 (by kernel_rfl) rfl 12 rfl (by simp) [.tmp 4] rfl ?_
 simp only [idxs, Nat.reduceAdd]
 refine den_seq ?_
 refine den_region TTok ?_
 intro K hK
 simp -implicitDefEqProofs (disch := first | decide | assumption | omega) only [go_sem, wrap_id]
 refine hK _ _ ?_
 clear hK K
 refine den_seq ?_
 refine den_region TTok ?_
 intro K hK
 simp -implicitDefEqProofs (disch := first | decide | assumption | omega) only [go_sem, wrap_id]
 refine hK _ _ ?_
 clear hK K
 refine den_ret ?_
 simp (disch := decide) only [resP_1, puts_same, puts_ne]
 exact ⟨vint (mod_twice hp.1), (Ext.refl _)⟩

set_option maxRecDepth 100000 in
theorem sOwn_ok (vu : Value) (u : List Int) (h : Heap) (ru : R1 h vu u) (hl : (u.length : Int) ≤ 1048576) : CallA Try.prog 125 #[vu] h fun v' h' => ∃ w0 f0, v' = w0 ∧ O1 h' w0 (u) f0 ∧ Fresh h.size f0 ∧ Ext h h' := by
 have hleu := RdS.le ru
 refine callA_intro TTok (args := [_]) Try.func125 (by kernel_rfl) rfl 6 rfl (by simp) [.tmp 2] rfl ?_
 simp only [idxs, Nat.reduceAdd]
 refine den_seq ?_
 refine den_region TTok ?_
 intro K hK
 simp -implicitDefEqProofs (disch := first | decide | assumption | omega) only [go_sem, RdS.len ru sl22, RdS.idx ru sl22, R1.intB ru (HPres.refl _), RdS.cells ru, wrap_id]
 refine hK _ _ ?_
 clear hK K
 refine den_seq ?_
 refine den_region TTok ?_
 intro K hK
 simp -implicitDefEqProofs (disch := first | decide | assumption | omega) only [go_sem, RdS.len ru sl22, RdS.idx ru sl22, R1.intB ru (HPres.refl _), RdS.cells ru, wrap_id]
 refine op_bs0 sz22 OI ?_
 intro v1_0 h1_0 ho1_0 e1_0
 have := Ext.size e1_0
 have eB := e1_0
 have hfho1_0 : Fresh h.size [h.size] := Fresh.one _
 have hlho1_0 := OS.lt ho1_0
 try simp -implicitDefEqProofs (disch := first | decide | assumption | omega) only [go_sem, RdS.len ru sl22, RdS.idx ru sl22, R1.intB ru (Ext.pres eB), RdS.cells ru, RdS.len (OS.rd ho1_0) sl22, RdS.idx (OS.rd ho1_0) sl22, R1.intN (OS.rd ho1_0), RdS.cells (OS.rd ho1_0), wrap_id]
 refine op_appendR ho1_0 (RdS.pres ru (Ext.pres eB)) (by first | omega | (simp; omega)) rfl ?_
 intro v1_2 h1_2 fp1_2 ho1_2 hn1_2 hs1_2 c1_2
 have hsz1_2 := c1_2.size
 have hfho1_2 : Fresh h.size fp1_2 := Fresh.appd hfho1_0 (Fresh.nil h1_0.size) (by omega) (by omega) hn1_2 hs1_2
 have := c1_2.size
 replace eB := Ext.then eB c1_2 (ge_of hfho1_0 (by omega))
 have hlho1_2 := OS.lt ho1_2
 try simp -implicitDefEqProofs (disch := first | decide | assumption | omega) only [go_sem, RdS.len ru sl22, RdS.idx ru sl22, R1.intB ru (Ext.pres eB), RdS.cells ru, RdS.len (OS.rd ho1_2) sl22, RdS.idx (OS.rd ho1_2) sl22, R1.intN (OS.rd ho1_2), RdS.cells (OS.rd ho1_2), wrap_id]
 refine hK _ _ ?_
 clear hK K
 refine den_ret ?_
 simp (disch := decide) only [resP_1, puts_same, puts_ne]
 exact ⟨_, _, rfl, ho1_2, hfho1_2.mono (by omega), eB⟩

set_option maxRecDepth 100000 in
theorem sLess_ok (va vb : Value) (p : Int) (a : List Int) (b : List Int) (k : Int) (h : Heap) (ra : R1 h va a) (rb : R1 h vb b) (hp : 0 < p ∧ p ≤ 7) (hl : a.length ≤ b.length ∧ a.length ≤ 1000) (ha : Bnd p a) (hb : Bnd p b) (hk : -6 ≤ k ∧ k ≤ 6) : CallA Try.prog 126 #[.int .i64 p, va, vb, .int .i64 k] h fun v' h' => ∃ w0 f0, v' = w0 ∧ O1 h' w0 (lessRow p k a b) f0 ∧ Fresh h.size f0 ∧ Ext h h' := by
 have hlea := RdS.le ra
 have hleb := RdS.le rb
 refine callA_intro TTok (args := [_, _, _, _]) Try.func126 (by kernel_rfl) rfl 35 rfl (by simp) [.tmp 8] rfl ?_
 simp only [idxs, Nat.reduceAdd]
 refine den_seq ?_
 refine den_region TTok ?_
 intro K hK
 simp -implicitDefEqProofs (disch := first | decide | assumption | omega) only [go_sem, RdS.len ra sl22, RdS.idx ra sl22, R1.intB ra (HPres.refl _), RdS.cells ra, RdS.len rb sl22, RdS.idx rb sl22, R1.intB rb (HPres.refl _), RdS.cells rb, wrap_id]
 refine hK _ _ ?_
 clear hK K
 refine den_seq ?_
 refine den_region TTok ?_
 intro K hK
 simp -implicitDefEqProofs (disch := first | decide | assumption | omega) only [go_sem, RdS.len ra sl22, RdS.idx ra sl22, R1.intB ra (HPres.refl _), RdS.cells ra, RdS.len rb sl22, RdS.idx rb sl22, R1.intB rb (HPres.refl _), RdS.cells rb, wrap_id]
 refine op_bs0 sz22 OI ?_
 intro v1_0 h1_0 ho1_0 e1_0
 have := Ext.size e1_0
 have eB := e1_0
 have hfho1_0 : Fresh h.size [h.size] := Fresh.one _
 have hlho1_0 := OS.lt ho1_0
 try simp -implicitDefEqProofs (disch := first | decide | assumption | omega) only [go_sem, RdS.len ra sl22, RdS.idx ra sl22, R1.intB ra (Ext.pres eB), RdS.cells ra, RdS.len rb sl22, RdS.idx rb sl22, R1.intB rb (Ext.pres eB), RdS.cells rb, RdS.len (OS.rd ho1_0) sl22, RdS.idx (OS.rd ho1_0) sl22, R1.intN (OS.rd ho1_0), RdS.cells (OS.rd ho1_0), wrap_id]
 refine hK _ _ ?_
 clear hK K
 refine den_seq ?_
 refine den_seq ?_
 refine den_region TTok ?_
 intro K hK
 simp -implicitDefEqProofs (disch := first | decide | assumption | omega) only [go_sem, RdS.len ra sl22, RdS.idx ra sl22, R1.intB ra (Ext.pres eB), RdS.cells ra, RdS.len rb sl22, RdS.idx rb sl22, R1.intB rb (Ext.pres eB), RdS.cells rb, RdS.len (OS.rd ho1_0) sl22, RdS.idx (OS.rd ho1_0) sl22, R1.intN (OS.rd ho1_0), RdS.cells (OS.rd ho1_0), wrap_id]
 refine hK _ _ ?_
 clear hK K
 refine den_block ?_
 refine den_sel [9, 10, 0, 1, 2, 3] ?_
 intro env_1
 simp only [go_sem]
 refine den_loopS (σ := Nat × Value × List Nat) (fun st_ => [(9, st_.2.1), (10, .int .i64 (st_.1 : Int))]) (fun st_ H => (st_.1 ≤ a.length) ∧ (O1 H st_.2.1 ((List.range st_.1).map fun q : Nat => (a.getD q 0 - k * b.getD q 0) % p) st_.2.2) ∧ (Fresh (h.size) st_.2.2) ∧ (Sub [h.size] h1_0.size st_.2.2) ∧ (Chg [h.size] h1_0 H)) (fun st_ => a.length - st_.1) (0, v1_0, [h.size]) ?_ ?_
 ·exact ⟨by first | (simp; done) | (dsimp only; omega) | (simp; omega), by simpa using ho1_0, hfho1_0, Sub.refl, Chg.refl _ _⟩
 ·rintro ⟨i, vhO, fphO⟩ h4 ee3 ⟨hi0, hO, hfhO, sbhO, cL2⟩
  dsimp only at hi0 hO hfhO sbhO cL2
  have := cL2.size
  replace eB := Ext.then eB cL2 (ge_of hfho1_0 (by omega))
  have hlhO := OS.lt hO
  simp only [List.cons_append, List.nil_append]
  have hlo : ((List.range i).map fun q : Nat => (a.getD q 0 - k * b.getD q 0) % p).length = i := by simp
  refine den_seq ?_
  refine den_seq ?_
  refine den_region TTok ?_
  intro K hK
  simp -implicitDefEqProofs (disch := first | decide | assumption | omega) only [go_sem, RdS.len ra sl22, RdS.idx ra sl22, R1.intB ra (Ext.pres eB), RdS.cells ra, RdS.len rb sl22, RdS.idx rb sl22, R1.intB rb (Ext.pres eB), RdS.cells rb, RdS.len (OS.rd hO) sl22, RdS.idx (OS.rd hO) sl22, R1.intN (OS.rd hO), RdS.cells (OS.rd hO), wrap_id]
  refine hK _ _ ?_
  clear hK K
  refine den_cond rfl (fun c0 => ?_) (fun c0 => ?_)
  ·try simp only [decide_eq_true_eq, decide_eq_false_iff_not, beq_iff_eq, beq_eq_false_iff_ne, bne_iff_ne, ne_eq, Bool.not_eq_true', Bool.not_eq_false', Bool.and_eq_true, Bool.or_eq_true, bne_eq_false_iff_eq] at c0
   refine den_skip ?_
   refine den_seq ?_
   refine den_block ?_
   have hxa := ha.at (k := i) (by omega)
   have hxb := hb.at (k := i) (by omega)
   have hky := mul42A hk hxb hp.2
   refine den_draw TTok mixed [15] [(0, true), (1, true), (2, true), (3, true), (4, true), (5, true), (6, true), (7, true), (8, true), (9, true), (10, true), (11, true), (12, true), (13, false), (14, false), (15, false), (16, true)] (by kernel_rfl) ?_
   intro K hK
   simp -implicitDefEqProofs (disch := first | decide | assumption | omega) only [go_sem, ld2, RdS.len ra sl22, RdS.idx ra sl22, R1.intB ra (Ext.pres eB), RdS.cells ra, RdS.len rb sl22, RdS.idx rb sl22, R1.intB rb (Ext.pres eB), RdS.cells rb, RdS.len (OS.rd hO) sl22, RdS.idx (OS.rd hO) sl22, R1.intN (OS.rd hO), RdS.cells (OS.rd hO), wrap_id]
   try simp -implicitDefEqProofs (disch := first | decide | assumption | omega) only [go_sem, RdS.len ra sl22, RdS.idx ra sl22, R1.intB ra (Ext.pres eB), RdS.cells ra, RdS.len rb sl22, RdS.idx rb sl22, R1.intB rb (Ext.pres eB), RdS.cells rb, RdS.len (OS.rd hO) sl22, RdS.idx (OS.rd hO) sl22, R1.intN (OS.rd hO), RdS.cells (OS.rd hO), wrap_id]
   refine CallA.mono (sMod_ok  p (((a).getD i 0) - (k * ((b).getD i 0))) _  (by omega) (by omega)) ?_
   intro v_ h5_13
   rintro ⟨rfl, e5_13⟩
   replace hO := OS.ext hO e5_13
   have := Ext.size e5_13
   replace eB := Ext.trans eB e5_13
   replace cL2 := Chg.stepE cL2 e5_13
   try simp (disch := decide) only [outv_some, outv_none, put_puts]
   refine plK_pres (Ext.pres e5_13) ?_
   try simp -implicitDefEqProofs (disch := first | decide | assumption | omega) only [go_sem, RdS.len ra sl22, RdS.idx ra sl22, R1.intB ra (Ext.pres eB), RdS.cells ra, RdS.len rb sl22, RdS.idx rb sl22, R1.intB rb (Ext.pres eB), RdS.cells rb, RdS.len (OS.rd hO) sl22, RdS.idx (OS.rd hO) sl22, R1.intN (OS.rd hO), RdS.cells (OS.rd hO), wrap_id]
   refine op_bs1 sz22 rfl rfl ?_
   try simp (disch := decide) only [outv_some, outv_none, put_puts]
   refine plK_pres (Ext.pres (Ext.push _ _)) ?_
   try simp -implicitDefEqProofs (disch := first | decide | assumption | omega) only [go_sem, RdS.len ra sl22, RdS.idx ra sl22, R1.intB ra (Ext.pres eB), RdS.cells ra, RdS.len rb sl22, RdS.idx rb sl22, R1.intB rb (Ext.pres eB), RdS.cells rb, RdS.len (OS.rd hO) sl22, RdS.idx (OS.rd hO) sl22, R1.intN (OS.rd hO), RdS.cells (OS.rd hO), wrap_id]
   refine op_append1 sz22 hO hfhO.nodup ⟨rfl, rfl⟩ List.nodup_nil (Apart.nil _) (by first | omega | (simp; omega)) rfl rfl ?_
   intro v5_15 h5_15 fp5_15 ho5_15 hn5_15 hs5_15 c5_15
   have hsz5_15 := c5_15.size
   have hfho5_15 : Fresh h.size fp5_15 := Fresh.appd hfhO (Fresh.nil h5_13.size) (by omega) (by omega) hn5_15 hs5_15
   have sb5 : Sub [h.size] h1_0.size fp5_15 := Sub.grow sbhO Sub.nil (by omega) hs5_15
   have := c5_15.size
   replace eB := Ext.then eB c5_15 (ge_of hfhO (by omega))
   replace cL2 := Chg.step cL2 c5_15 sbhO
   have hlho5_15 := OS.lt ho5_15
   try simp (disch := decide) only [outv_some, outv_none, put_puts]
   refine plK_last (by decide) ?_
   try simp -implicitDefEqProofs (disch := first | decide | assumption | omega) only [go_sem, RdS.len ra sl22, RdS.idx ra sl22, R1.intB ra (Ext.pres eB), RdS.cells ra, RdS.len rb sl22, RdS.idx rb sl22, R1.intB rb (Ext.pres eB), RdS.cells rb, RdS.len (OS.rd ho5_15) sl22, RdS.idx (OS.rd ho5_15) sl22, R1.intN (OS.rd ho5_15), RdS.cells (OS.rd ho5_15), wrap_id]
   refine hK _ _ ?_
   clear hK K
   refine den_blk ?_
   refine den_region TTok ?_
   intro K hK
   simp -implicitDefEqProofs (disch := first | decide | assumption | omega) only [go_sem, RdS.len ra sl22, RdS.idx ra sl22, R1.intB ra (Ext.pres eB), RdS.cells ra, RdS.len rb sl22, RdS.idx rb sl22, R1.intB rb (Ext.pres eB), RdS.cells rb, RdS.len (OS.rd ho5_15) sl22, RdS.idx (OS.rd ho5_15) sl22, R1.intN (OS.rd ho5_15), RdS.cells (OS.rd ho5_15), wrap_id]
   refine hK _ _ ?_
   clear hK K
   refine den_stop ?_
   rw [range_step (fun q : Nat => (a.getD q 0 - k * b.getD q 0) % p)] at ho5_15
   exact ⟨(i + 1, v5_15, fp5_15), by simp [HasL, puts_at], ⟨by first | omega | (dsimp only; omega), ho5_15, hfho5_15, sb5, cL2⟩, by first | omega | (dsimp only; omega)⟩
  ·try simp only [decide_eq_true_eq, decide_eq_false_iff_not, beq_iff_eq, beq_eq_false_iff_ne, bne_iff_ne, ne_eq, Bool.not_eq_true', Bool.not_eq_false', Bool.and_eq_true, Bool.or_eq_true, bne_eq_false_iff_eq] at c0
   refine den_exit ?_
   refine denX_code ?_
   refine denX_stop ?_
   refine denX_hit ?_
   refine den_seq ?_
   refine den_region TTok ?_
   intro K hK
   simp -implicitDefEqProofs (disch := first | decide | assumption | omega) only [go_sem, RdS.len ra sl22, RdS.idx ra sl22, R1.intB ra (Ext.pres eB), RdS.cells ra, RdS.len rb sl22, RdS.idx rb sl22, R1.intB rb (Ext.pres eB), RdS.cells rb, RdS.len (OS.rd hO) sl22, RdS.idx (OS.rd hO) sl22, R1.intN (OS.rd hO), RdS.cells (OS.rd hO), wrap_id]
   refine hK _ _ ?_
   clear hK K
   refine den_ret ?_
   simp (disch := decide) only [resP_1, puts_same, puts_ne]
   rw [show i = a.length by omega] at hO
   exact ⟨_, _, rfl, hO, hfhO.mono (by omega), eB⟩
end Go.Proofs.Ytbplnadngahgaaa

namespace Go.Proofs.Ytbplnadngahgaaa
open Go
theorem sclR_len (p k : Int) (r : List Int) : (sclRow p k r).length = r.length := by simp [sclRow]
theorem sclR_get (p k : Int) {r : List Int} {c : Nat} (h : c < r.length) : (sclRow p k r).getD c 0 = (k * r.getD c 0) % p := getD_map_range (α := Int) (fun q : Nat => (k * r.getD q 0) % p) h
/-- Congruence modulo p. -/
def Cg (p a b : Int) : Prop := a % p = b % p
theorem Cg.refl {p : Int} (a : Int) : Cg p a a := rfl
theorem Cg.symm {p a b : Int} (h : Cg p a b) : Cg p b a := Eq.symm h
theorem Cg.trans {p a b c : Int} (h : Cg p a b) (k : Cg p b c) : Cg p a c := Eq.trans h k
theorem Cg.add {p a b c d : Int} (h : Cg p a b) (k : Cg p c d) : Cg p (a + c) (b + d) := by
 unfold Cg at *; rw [Int.add_emod, h, k, ← Int.add_emod]
theorem Cg.mul {p a b c d : Int} (h : Cg p a b) (k : Cg p c d) : Cg p (a * c) (b * d) := by
 unfold Cg at *; rw [Int.mul_emod, h, k, ← Int.mul_emod]
theorem Cg.neg {p a b : Int} (h : Cg p a b) : Cg p (-a) (-b) := by
 have := Cg.mul (Cg.refl (p := p) (-1)) h
 rwa [Int.neg_one_mul, Int.neg_one_mul] at this
theorem Cg.sub {p a b c d : Int} (h : Cg p a b) (k : Cg p c d) : Cg p (a - c) (b - d) := by
 rw [Int.sub_eq_add_neg, Int.sub_eq_add_neg]; exact h.add k.neg
theorem Cg.mod {p : Int} (a : Int) : Cg p (a % p) a := Int.emod_emod a p
theorem Cg.eq {p a b : Int} (h : Cg p a b) (ha : 0 ≤ a ∧ a < p) (hb : 0 ≤ b ∧ b < p) : a = b := by
 unfold Cg at h
 rwa [Int.emod_eq_of_lt ha.1 ha.2, Int.emod_eq_of_lt hb.1 hb.2] at h
theorem Cg.of_eq {p a b : Int} (h : a = b) : Cg p a b := by rw [h]; exact Cg.refl _
/-- A sum. -/
def sm : Nat → (Nat → Int) → Int
 | 0, _ => 0
 | n + 1, f => sm n f + f n
theorem sm_cg {p : Int} : ∀ {n : Nat} {f g : Nat → Int}, (∀ i, i < n → Cg p (f i) (g i)) → Cg p (sm n f) (sm n g)
 | 0, _, _, _ => Cg.refl _
 | n + 1, f, g, h => (sm_cg (n := n) fun i hi => h i (by omega)).add (h n (by omega))
theorem sm_eq : ∀ {n : Nat} {f g : Nat → Int}, (∀ i, i < n → f i = g i) → sm n f = sm n g
 | 0, _, _, _ => rfl
 | n + 1, f, g, h => by rw [sm, sm, sm_eq (n := n) fun i hi => h i (by omega), h n (by omega)]
theorem sm_zero : ∀ {n : Nat} {f : Nat → Int}, (∀ i, i < n → f i = 0) → sm n f = 0
 | 0, _, _ => rfl
 | n + 1, f, h => by rw [sm, sm_zero (n := n) fun i hi => h i (by omega), h n (by omega)]; rfl
theorem sm_add : ∀ (n : Nat) (f g : Nat → Int), sm n (fun i => f i + g i) = sm n f + sm n g
 | 0, _, _ => rfl
 | n + 1, f, g => by simp only [sm]; rw [sm_add n f g]; omega
theorem sm_mul : ∀ (n : Nat) (k : Int) (f : Nat → Int), sm n (fun i => k * f i) = k * sm n f
 | 0, _, _ => by simp [sm]
 | n + 1, k, f => by simp only [sm]; rw [sm_mul n k f, Int.mul_add]
theorem sm_one : ∀ {n k : Nat} {f : Nat → Int}, k < n → (∀ i, i < n → i ≠ k → f i = 0) → sm n f = f k
 | n + 1, k, f, hk, h => by
  rw [sm]
  by_cases e : k = n
  ·subst e; rw [sm_zero fun i hi => h i (by omega) (by omega), Int.zero_add]
  ·rw [sm_one (n := n) (k := k) (by omega) fun i hi he => h i (by omega) he, h n (by omega) (fun e' => e e'.symm), Int.add_zero]
abbrev g2 (L : List (List Int)) (i j : Nat) : Int := (L.getD i default).getD j 0
/-- v is a sum of multiples of the rows of L, modulo p. -/
def Sp (p : Int) (L : List (List Int)) (v : Nat → Int) : Prop := ∃ c : Nat → Int, ∀ j, Cg p (v j) (sm L.length fun i => c i * g2 L i j)
theorem Sp.row {p : Int} {L : List (List Int)} {i : Nat} (hi : i < L.length) : Sp p L (g2 L i) :=
 ⟨fun k => if k = i then 1 else 0, fun j => by
  rw [sm_one (k := i) hi (fun k _ hk => by simp [hk])]
  simp only [if_true, Int.one_mul]; exact Cg.refl _⟩
theorem Sp.zero {p : Int} {L : List (List Int)} : Sp p L fun _ => 0 := ⟨fun _ => 0, fun j => by rw [sm_zero fun i _ => Int.zero_mul _]; exact Cg.refl _⟩
theorem Sp.add {p : Int} {L : List (List Int)} {v w : Nat → Int} : Sp p L v → Sp p L w → Sp p L fun j => v j + w j
 | ⟨c, hc⟩, ⟨d, hd⟩ => ⟨fun i => c i + d i, fun j => by
  rw [show (fun i => (c i + d i) * g2 L i j) = fun i => c i * g2 L i j + d i * g2 L i j from funext fun i => Int.add_mul _ _ _, sm_add]
  exact (hc j).add (hd j)⟩
theorem Sp.mul {p : Int} {L : List (List Int)} {v : Nat → Int} (k : Int) : Sp p L v → Sp p L fun j => k * v j
 | ⟨c, hc⟩ => ⟨fun i => k * c i, fun j => by
  rw [show (fun i => k * c i * g2 L i j) = fun i => k * (c i * g2 L i j) from funext fun i => Int.mul_assoc _ _ _, sm_mul]
  exact (Cg.refl k).mul (hc j)⟩
theorem Sp.cg {p : Int} {L : List (List Int)} {v w : Nat → Int} (h : ∀ j, Cg p (w j) (v j)) : Sp p L v → Sp p L w
 | ⟨c, hc⟩ => ⟨c, fun j => (h j).trans (hc j)⟩
theorem Sp.sub {p : Int} {L : List (List Int)} {v w : Nat → Int} (k : Int) (h1 : Sp p L v) (h2 : Sp p L w) : Sp p L fun j => v j - k * w j :=
 (h1.add (h2.mul (-k))).cg fun j => Cg.of_eq (by rw [Int.neg_mul]; omega)
/-- All rows of A are in the span of B. -/
def Le (p : Int) (A B : List (List Int)) : Prop := ∀ i, i < A.length → Sp p B (g2 A i)
theorem Sp.sm {p : Int} {B : List (List Int)} {v : Nat → Nat → Int} : ∀ {n : Nat} (_ : ∀ i, i < n → Sp p B (v i)) (c : Nat → Int), Sp p B fun j => sm n fun i => c i * v i j
 | 0, _, _ => Sp.zero
 | n + 1, h, c => (Sp.sm (n := n) (fun i hi => h i (by omega)) c).add ((h n (by omega)).mul (c n))
theorem Sp.le {p : Int} {A B : List (List Int)} {v : Nat → Int} (h : Le p A B) : Sp p A v → Sp p B v
 | ⟨c, hc⟩ => (Sp.sm h c).cg hc
theorem Le.refl {p : Int} {A : List (List Int)} : Le p A A := fun _ hi => Sp.row hi
theorem Le.trans {p : Int} {A B C : List (List Int)} (h : Le p A B) (k : Le p B C) : Le p A C := fun i hi => (h i hi).le k
def Eqv (p : Int) (A B : List (List Int)) : Prop := Le p A B ∧ Le p B A
theorem Eqv.refl {p : Int} {A : List (List Int)} : Eqv p A A := ⟨Le.refl, Le.refl⟩
theorem Eqv.symm {p : Int} {A B : List (List Int)} (h : Eqv p A B) : Eqv p B A := ⟨h.2, h.1⟩
theorem Eqv.trans {p : Int} {A B C : List (List Int)} (h : Eqv p A B) (k : Eqv p B C) : Eqv p A C := ⟨h.1.trans k.1, k.2.trans h.2⟩
/-- L is reduced: its rows begin with a 1 at the places l, from left to right, and have 0 at the others' places. -/
structure Rr (p : Int) (w : Nat) (L : List (List Int)) (l : Nat → Nat) : Prop where
 len : ∀ i, i < L.length → (L.getD i default).length = w
 bnd : ∀ i, i < L.length → Bnd p (L.getD i default)
 lt : ∀ i, i < L.length → l i < w
 one : ∀ i, i < L.length → g2 L i (l i) = 1
 zb : ∀ i j, i < L.length → j < l i → g2 L i j = 0
 inc : ∀ i k, i < k → k < L.length → l i < l k
 cl : ∀ i k, i < L.length → k < L.length → k ≠ i → g2 L k (l i) = 0
theorem g2_out {L : List (List Int)} {i j : Nat} (h : (L.getD i default).length ≤ j) : g2 L i j = 0 := by
 rw [g2, List.getD_eq_getElem?_getD, List.getElem?_eq_none h]; rfl
theorem Rr.coef {p : Int} {w : Nat} {L : List (List Int)} {l : Nat → Nat} (r : Rr p w L l) {v : Nat → Int} : Sp p L v → ∀ j, Cg p (v j) (sm L.length fun i => v (l i) * g2 L i j)
 | ⟨c, hc⟩ => fun j => (hc j).trans (sm_cg fun i hi => Cg.mul (Cg.symm ((hc (l i)).trans (Cg.of_eq (by
  rw [sm_one (k := i) hi (fun k hk he => by rw [r.cl i k hi hk he, Int.mul_zero]), r.one i hi, Int.mul_one])))) (Cg.refl _))
theorem Rr.lead_mem {p : Int} (hp : 1 < p) {w : Nat} {L : List (List Int)} {l : Nat → Nat} (r : Rr p w L l) {v : Nat → Int} (hv : Sp p L v) {m : Nat} (h1 : ¬ Cg p (v m) 0) (h0 : ∀ j, j < m → Cg p (v j) 0) : ∃ i, i < L.length ∧ l i = m := by
 have hc := r.coef hv
 -- the first place at which v is not 0
 have key : ∀ n, n ≤ L.length → (∀ i, i < n → Cg p (v (l i)) 0) ∨ ∃ i, i < n ∧ ¬ Cg p (v (l i)) 0 ∧ ∀ q, q < i → Cg p (v (l q)) 0 := by
  intro n
  induction n with
  | zero => intro _; exact .inl fun i hi => by omega
  | succ n ih =>
   intro hn
   rcases ih (by omega) with h | ⟨i, hi, h⟩
   ·by_cases e : Cg p (v (l n)) 0
    ·exact .inl fun i hi => by
      rcases Nat.lt_succ_iff_lt_or_eq.1 hi with h' | h'
      ·exact h i h'
      ·rw [h']; exact e
    ·exact .inr ⟨n, by omega, e, h⟩
   ·exact .inr ⟨i, by omega, h⟩
 rcases key L.length (Nat.le_refl _) with h | ⟨i, hi, h2, h3⟩
 ·exact absurd ((hc m).trans ((sm_cg fun i hi => ((h i hi).mul (Cg.refl _)).trans (Cg.of_eq (Int.zero_mul _))).trans (Cg.of_eq (sm_zero (n := L.length) (f := fun _ => 0) fun _ _ => rfl)))) h1
 ·refine ⟨i, hi, ?_⟩
  have a : ¬ l i < m := fun hlt => h2 (h0 _ hlt)
  have b : ¬ m < l i := fun hlt => h1 ((hc m).trans ((sm_cg (g := fun _ => 0) fun q hq => by
   rcases Nat.lt_or_ge q i with hqi | hqi
   ·exact ((h3 q hqi).mul (Cg.refl _)).trans (Cg.of_eq (Int.zero_mul _))
   ·have : l i ≤ l q := by
     rcases Nat.lt_or_eq_of_le hqi with h' | h'
     ·exact Nat.le_of_lt (r.inc i q h' hq)
     ·rw [h']; exact Nat.le_refl _
    rw [r.zb q m hq (by omega), Int.mul_zero]; exact Cg.refl _).trans (Cg.of_eq (sm_zero fun _ _ => rfl))))
  omega
theorem not_cg_one {p : Int} (hp : 1 < p) : ¬ Cg p 1 0 := by
 unfold Cg; rw [Int.emod_eq_of_lt (by omega) hp, Int.zero_emod]; decide
theorem Rr.leads_in {p : Int} (hp : 1 < p) {w : Nat} {L M : List (List Int)} {l m : Nat → Nat} (r : Rr p w L l) {w' : Nat} (s : Rr p w' M m) (h : Le p M L) {k : Nat} (hk : k < M.length) : ∃ i, i < L.length ∧ l i = m k :=
 r.lead_mem hp (h k hk) (by rw [s.one k hk]; exact not_cg_one hp) (fun j hj => by rw [s.zb k j hk hj]; exact Cg.refl _)
/-- Two lists of places, each from left to right, with the same places. -/
theorem places_eq {a b : Nat} {l m : Nat → Nat} (hl : ∀ i k, i < k → k < a → l i < l k) (hm : ∀ i k, i < k → k < b → m i < m k) (h1 : ∀ k, k < a → ∃ i, i < b ∧ m i = l k) (h2 : ∀ k, k < b → ∃ i, i < a ∧ l i = m k) : ∀ k, k < a → k < b ∧ m k = l k := by
 intro k
 induction k using Nat.strongRecOn with
 | _ k ih =>
  intro hk
  obtain ⟨q, hq, eq⟩ := h1 k hk
  have hqk : k ≤ q := Nat.le_of_not_lt fun hlt => by
   have := (ih q hlt (by omega)).2
   have := hl q k hlt hk
   omega
  have hkb : k < b := by omega
  obtain ⟨i, hi, ei⟩ := h2 k hkb
  have hik : k ≤ i := Nat.le_of_not_lt fun hlt => by
   have := (ih i hlt (by omega)).2
   have := hm i k hlt hkb
   omega
  have x : l k ≤ l i := by
   rcases Nat.lt_or_eq_of_le hik with h' | h'
   ·exact Nat.le_of_lt (hl k i h' hi)
   ·rw [h']; exact Nat.le_refl _
  have y : m k ≤ m q := by
   rcases Nat.lt_or_eq_of_le hqk with h' | h'
   ·exact Nat.le_of_lt (hm k q h' hq)
   ·rw [h']; exact Nat.le_refl _
  exact ⟨hkb, by omega⟩
theorem rows_ext {A B : List (List Int)} (hl : A.length = B.length) (hr : ∀ i, i < A.length → (A.getD i default).length = (B.getD i default).length) (h : ∀ i j, i < A.length → j < (A.getD i default).length → g2 A i j = g2 B i j) : A = B := by
 apply List.ext_getElem hl
 intro i h1 h2
 have e1 : A.getD i default = A[i] := by rw [List.getD_eq_getElem?_getD, List.getElem?_eq_getElem h1]; rfl
 have e2 : B.getD i default = B[i] := by rw [List.getD_eq_getElem?_getD, List.getElem?_eq_getElem h2]; rfl
 have hri := hr i h1
 have hi := h i
 simp only [g2] at hi
 rw [e1, e2] at hri hi
 apply List.ext_getElem hri
 intro j k1 k2
 have := hi j h1 k1
 rwa [List.getD_eq_getElem?_getD, List.getD_eq_getElem?_getD, List.getElem?_eq_getElem k1, List.getElem?_eq_getElem k2] at this
/-- With the same places, a reduced list in the span of another one is that one. -/
theorem Rr.same {p : Int} {w : Nat} {L M : List (List Int)} {l m : Nat → Nat} (r : Rr p w L l) (s : Rr p w M m) (hlen : L.length = M.length) (hlm : ∀ k, k < L.length → m k = l k) (h : Le p L M) : L = M := by
 refine rows_ext hlen (fun i hi => by rw [r.len i hi, s.len i (by omega)]) (fun i j hi hj => ?_)
 have hc := s.coef (h i hi) j
 have e : sm M.length (fun k => g2 L i (m k) * g2 M k j) = g2 M i j := by
  rw [sm_one (k := i) (by omega) (fun k hk he => by rw [hlm k (by omega), r.cl k i (by omega) hi (Ne.symm he), Int.zero_mul]), hlm i hi, r.one i hi, Int.one_mul]
 rw [e] at hc
 rw [r.len i hi] at hj
 exact hc.eq ((r.bnd i hi).at (by rw [r.len i hi]; exact hj)) ((s.bnd i (by omega)).at (by rw [s.len i (by omega)]; exact hj))
theorem Rr.unique {p : Int} (hp : 1 < p) {w : Nat} {L M : List (List Int)} {l m : Nat → Nat} (r : Rr p w L l) (s : Rr p w M m) (h : Eqv p L M) : L = M ∧ ∀ k, k < L.length → m k = l k := by
 have h1 := places_eq r.inc s.inc (fun k hk => s.leads_in hp r h.1 hk) (fun k hk => r.leads_in hp s h.2 hk)
 have h2 := places_eq s.inc r.inc (fun k hk => r.leads_in hp s h.2 hk) (fun k hk => s.leads_in hp r h.1 hk)
 have hlen : L.length = M.length := by
  apply Nat.le_antisymm
  ·apply Nat.le_of_not_lt; intro hlt; exact Nat.lt_irrefl _ (h1 M.length hlt).1
  ·apply Nat.le_of_not_lt; intro hlt; exact Nat.lt_irrefl _ (h2 L.length hlt).1
 exact ⟨r.same s hlen (fun k hk => (h1 k hk).2) h.1, fun k hk => (h1 k hk).2⟩
/-- Places from left to right among others: the k-th one is no further left than the k-th of those. -/
theorem places_sub {a b : Nat} {l m : Nat → Nat} (hl : ∀ i k, i < k → k < a → l i < l k) (hm : ∀ i k, i < k → k < b → m i < m k) (h1 : ∀ k, k < a → ∃ i, i < b ∧ m i = l k) : ∀ k, k < a → ∃ i, k ≤ i ∧ i < b ∧ m i = l k := by
 intro k
 induction k with
 | zero => intro hk; obtain ⟨i, hi, e⟩ := h1 0 hk; exact ⟨i, by omega, hi, e⟩
 | succ k ih =>
  intro hk
  obtain ⟨q, hq, hqb, eq⟩ := ih (by omega)
  obtain ⟨i, hi, e⟩ := h1 (k + 1) hk
  refine ⟨i, ?_, hi, e⟩
  have := hl k (k + 1) (by omega) hk
  have : q < i := Nat.lt_of_not_le fun hle => by
   rcases Nat.lt_or_eq_of_le hle with h' | h'
   ·have := hm i q h' hqb; omega
   ·rw [h'] at e; omega
  omega
theorem Rr.le_len {p : Int} (hp : 1 < p) {w : Nat} {L M : List (List Int)} {l m : Nat → Nat} (r : Rr p w L l) (s : Rr p w M m) (h : Le p L M) : L.length ≤ M.length := by
 apply Nat.le_of_not_lt
 intro hlt
 obtain ⟨i, h1, h2, _⟩ := places_sub r.inc s.inc (fun k hk => s.leads_in hp r h hk) M.length hlt
 omega
theorem Rr.eq_of_len {p : Int} (hp : 1 < p) {w : Nat} {L M : List (List Int)} {l m : Nat → Nat} (r : Rr p w L l) (s : Rr p w M m) (h : Le p L M) (hlen : L.length = M.length) : L = M := by
 have hs := places_sub r.inc s.inc (fun k hk => s.leads_in hp r h hk)
 -- from the right: the last ones are equal
 have key : ∀ n, ∀ k, k < L.length → L.length - k ≤ n → m k = l k := by
  intro n
  induction n with
  | zero => intro k hk h; omega
  | succ n ih =>
   intro k hk hn
   obtain ⟨i, h1, h2, e⟩ := hs k hk
   rcases Nat.lt_or_eq_of_le h1 with h' | h'
   ·have a := ih i (by omega) (by omega)
    have b := r.inc k i h' (by omega)
    omega
   ·subst h'; exact e
 exact r.same s hlen (fun k hk => key L.length k hk (by omega)) h
/-- The reduced list of the span of some rows. -/
def wd (rows : List (List Int)) : Nat := (rows.getD 0 default).length
def IsEch (p : Int) (rows L : List (List Int)) : Prop := (∃ l, Rr p (wd rows) L l) ∧ Eqv p L rows
noncomputable def ech (p : Int) (rows : List (List Int)) : List (List Int) := Classical.epsilon (IsEch p rows)
theorem Rr.nil {p : Int} {w : Nat} {l : Nat → Nat} : Rr p w [] l := ⟨fun i h => by simp at h, fun i h => by simp at h, fun i h => by simp at h, fun i h => by simp at h, fun i j h => by simp at h, fun i k _ h => by simp at h, fun i k h => by simp at h⟩
theorem ech_eq {p : Int} (hp : 1 < p) {rows L : List (List Int)} {w : Nat} {l : Nat → Nat} (r : Rr p w L l) (h : Eqv p L rows) (hw : rows ≠ [] → wd rows = w) : ech p rows = L := by
 have hL : IsEch p rows L := by
  refine ⟨⟨l, ?_⟩, h⟩
  by_cases e : rows = []
  ·subst e
   -- no row of L can be in the span of nothing
   have : L = [] := by
    cases L with
    | nil => rfl
    | cons a t =>
     obtain ⟨c, hc⟩ := h.1 0 (by simp)
     have := hc (l 0)
     rw [r.one 0 (by simp)] at this
     exact absurd this (not_cg_one hp)
   subst this; exact Rr.nil
  ·rw [hw e]; exact r
 have he : IsEch p rows (ech p rows) := Classical.epsilon_spec ⟨L, hL⟩
 obtain ⟨⟨l1, r1⟩, e1⟩ := hL
 obtain ⟨⟨l2, r2⟩, e2⟩ := he
 exact (r2.unique hp r1 (e2.trans e1.symm)).1
theorem lessRow_len (p k : Int) (a b : List Int) : (lessRow p k a b).length = a.length := by simp [lessRow]
theorem lessRow_get (p k : Int) {a b : List Int} {c : Nat} (h : c < a.length) : (lessRow p k a b).getD c 0 = (a.getD c 0 - k * b.getD c 0) % p := getD_map_range (α := Int) (fun q : Nat => (a.getD q 0 - k * b.getD q 0) % p) h
theorem getD_out {xs : List Int} {j : Nat} (h : xs.length ≤ j) : xs.getD j 0 = 0 := by rw [List.getD_eq_getElem?_getD, List.getElem?_eq_none h]; rfl
theorem lessRow_cg (p k : Int) {a b : List Int} (hl : b.length ≤ a.length) (j : Nat) : Cg p ((lessRow p k a b).getD j 0) (a.getD j 0 - k * b.getD j 0) := by
 rcases Nat.lt_or_ge j a.length with h | h
 ·rw [lessRow_get p k h]; exact Cg.mod _
 ·rw [getD_out (by rw [lessRow_len]; exact h), getD_out h, getD_out (by omega), Int.mul_zero]; exact Cg.refl _
theorem sclRow_cg (p k : Int) (r : List Int) (j : Nat) : Cg p ((sclRow p k r).getD j 0) (k * r.getD j 0) := by
 rcases Nat.lt_or_ge j r.length with h | h
 ·rw [sclR_get p k h]; exact Cg.mod _
 ·rw [getD_out (by rw [sclR_len]; exact h), getD_out h, Int.mul_zero]; exact Cg.refl _
theorem bnd_map {p : Int} (hp : 0 < p) (f : Nat → Int) (n : Nat) : Bnd p ((List.range n).map fun q => f q % p) := fun x hx => by
 obtain ⟨q, _, rfl⟩ := List.mem_map.1 hx
 exact ⟨Int.emod_nonneg _ (by omega), Int.emod_lt_of_pos _ hp⟩
theorem lessRow_bnd {p : Int} (hp : 0 < p) (k : Int) (a b : List Int) : Bnd p (lessRow p k a b) := bnd_map hp _ _
theorem sclRow_bnd {p : Int} (hp : 0 < p) (k : Int) (r : List Int) : Bnd p (sclRow p k r) := bnd_map hp _ _
theorem bnd_zero {p : Int} {v : List Int} (h : Bnd p v) {j : Nat} (e : Cg p (v.getD j 0) 0) : v.getD j 0 = 0 := by
 rcases Nat.lt_or_ge j v.length with hj | hj
 ·have := h.at hj
  exact e.eq this ⟨by omega, by omega⟩
 ·exact getD_out hj
/-- What is left of a row behind k rows of a list. -/
def restN (p : Int) (L : List (List Int)) (v : List Int) : Nat → List Int
 | 0 => v
 | k + 1 => lessRow p ((restN p L v k).getD (leadP (L.getD k default)).toNat 0) (restN p L v k) (L.getD k default)
def restP (p : Int) (L : List (List Int)) (v : List Int) : List Int := restN p L v L.length
theorem restN_len (p : Int) (L : List (List Int)) (v : List Int) : ∀ k, (restN p L v k).length = v.length
 | 0 => rfl
 | k + 1 => by rw [restN, lessRow_len, restN_len p L v k]
theorem restN_bnd {p : Int} (hp : 0 < p) {L : List (List Int)} {v : List Int} (hv : Bnd p v) : ∀ k, Bnd p (restN p L v k)
 | 0 => hv
 | k + 1 => lessRow_bnd hp _ _ _
theorem restP_len (p : Int) (L : List (List Int)) (v : List Int) : (restP p L v).length = v.length := restN_len p L v _
theorem restP_bnd {p : Int} (hp : 0 < p) {L : List (List Int)} {v : List Int} (hv : Bnd p v) : Bnd p (restP p L v) := restN_bnd hp hv _
section
variable {p : Int} {w : Nat} {L : List (List Int)} {l : Nat → Nat}
theorem Rr.lead (r : Rr p w L l) {i : Nat} (hi : i < L.length) : leadP (L.getD i default) = l i :=
 leadP_at (by rw [r.len i hi]; exact r.lt i hi) (fun j hj => r.zb i j hi hj) (by rw [show (L.getD i default).getD (l i) 0 = 1 from r.one i hi]; decide)
theorem restN_sub (r : Rr p w L l) {v : List Int} (hv : v.length = w) : ∀ k, k ≤ L.length → ∃ s, Sp p L s ∧ ∀ j, Cg p ((restN p L v k).getD j 0) (v.getD j 0 - s j)
 | 0, _ => ⟨fun _ => 0, Sp.zero, fun j => Cg.of_eq (Int.sub_zero _).symm⟩
 | k + 1, hk => by
  obtain ⟨s, hs, h⟩ := restN_sub r hv k (by omega)
  refine ⟨fun j => s j + ((restN p L v k).getD (leadP (L.getD k default)).toNat 0) * g2 L k j, hs.add ((Sp.row (by omega)).mul _), fun j => ?_⟩
  refine (lessRow_cg p _ (by rw [restN_len, hv, r.len k (by omega)]; exact Nat.le_refl _) j).trans (((h j).sub (Cg.refl _)).trans (Cg.of_eq ?_))
  show _ = v.getD j 0 - (s j + _ * (L.getD k default).getD j 0)
  omega
theorem restN_zero (r : Rr p w L l) {v : List Int} (hv : v.length = w) : ∀ k, k ≤ L.length → ∀ i, i < k → Cg p ((restN p L v k).getD (l i) 0) 0
 | k + 1, hk, i, hi => by
  refine (lessRow_cg p _ (by rw [restN_len, hv, r.len k (by omega)]; exact Nat.le_refl _) _).trans ?_
  rcases Nat.lt_succ_iff_lt_or_eq.1 hi with h | h
  ·rw [show (L.getD k default).getD (l i) 0 = 0 from r.cl i k (by omega) (by omega) (by omega), Int.mul_zero, Int.sub_zero]
   exact restN_zero r hv k (by omega) i h
  ·subst h
   rw [show (L.getD i default).getD (l i) 0 = 1 from r.one i (by omega), Int.mul_one, r.lead (by omega), Int.toNat_natCast, Int.sub_self]
   exact Cg.refl _
theorem restP_sub (r : Rr p w L l) {v : List Int} (hv : v.length = w) : ∃ s, Sp p L s ∧ ∀ j, Cg p ((restP p L v).getD j 0) (v.getD j 0 - s j) := restN_sub r hv _ (Nat.le_refl _)
theorem restP_zero (r : Rr p w L l) (hp : 0 < p) {v : List Int} (hv : v.length = w) (hb : Bnd p v) {i : Nat} (hi : i < L.length) : (restP p L v).getD (l i) 0 = 0 :=
 bnd_zero (restP_bnd hp hb) (restN_zero r hv _ (Nat.le_refl _) i hi)
/-- In the span of a reduced list, nothing but 0 has 0 at all its places. -/
theorem Rr.zero (r : Rr p w L l) {v : Nat → Int} (h : Sp p L v) (hz : ∀ i, i < L.length → Cg p (v (l i)) 0) (j : Nat) : Cg p (v j) 0 :=
 (r.coef h j).trans ((sm_cg (g := fun _ => 0) fun i hi => ((hz i hi).mul (Cg.refl _)).trans (Cg.of_eq (Int.zero_mul _))).trans (Cg.of_eq (sm_zero fun _ _ => rfl)))
theorem restP_iff (r : Rr p w L l) (hp : 0 < p) {v : List Int} (hv : v.length = w) (hb : Bnd p v) : (∀ j, (restP p L v).getD j 0 = 0) ↔ Sp p L fun j => v.getD j 0 := by
 obtain ⟨s, hs, h⟩ := restP_sub r hv
 constructor
 ·intro hz
  refine hs.cg fun j => ?_
  have := h j
  rw [hz j] at this
  have := (Cg.add this (Cg.refl (s j))).symm
  rwa [Int.zero_add, show v.getD j 0 - s j + s j = v.getD j 0 by omega] at this
 ·intro hsp j
  refine bnd_zero (restP_bnd hp hb) ?_
  have hd : Sp p L fun j => (restP p L v).getD j 0 := (hsp.sub 1 hs).cg fun j => (h j).trans (Cg.of_eq (by rw [Int.one_mul]))
  exact r.zero hd (fun i hi => by rw [restP_zero r hp hv hb hi]; exact Cg.refl _) j
end
-- ---- the inverse of a number
def invP (p x : Int) : Int := ((((List.range 7).find? fun k : Nat => decide (((k : Int) * x) % p = 1)).getD 0 : Nat) : Int)
theorem invP_ok {p x : Int} (hp : isP p = true) (h0 : 0 < x) (h1 : x < p) : (1 ≤ invP p x ∧ invP p x < p) ∧ (invP p x * x) % p = 1 ∧ ∀ k : Int, 1 ≤ k → k < invP p x → (k * x) % p ≠ 1 := by
 have h : p = 2 ∨ p = 3 ∨ p = 5 ∨ p = 7 := by
  simp only [isP, Bool.or_eq_true, beq_iff_eq] at hp; omega
 have key : ∀ p x : Fin 8, (p.val = 2 ∨ p.val = 3 ∨ p.val = 5 ∨ p.val = 7) → 0 < x.val → x.val < p.val → (1 ≤ invP p.val x.val ∧ invP p.val x.val < p.val) ∧ (invP p.val x.val * x.val) % (p.val : Int) = 1 ∧ ∀ k : Fin 8, 1 ≤ k.val → (k.val : Int) < invP p.val x.val → ((k.val : Int) * x.val) % (p.val : Int) ≠ 1 := by decide
 have k := key ⟨p.toNat, by omega⟩ ⟨x.toNat, by omega⟩ (by simp only; omega) (by simp only; omega) (by simp only; omega)
 simp only [show ((p.toNat : Nat) : Int) = p by omega, show ((x.toNat : Nat) : Int) = x by omega] at k
 refine ⟨k.1, k.2.1, fun q hq hl => ?_⟩
 have := k.2.2 ⟨q.toNat, by omega⟩ (by simp only; omega) (by simp only; omega)
 simpa only [show ((q.toNat : Nat) : Int) = q by omega] using this
theorem isP_two {p : Int} (h : isP p = true) : 1 < p ∧ p ≤ 7 := by
 simp only [isP, Bool.or_eq_true, beq_iff_eq] at h; omega
-- ---- the reference's list: one row more
def redR (p : Int) (own : List Int) (at_ : Nat) (r : List Int) : List Int := lessRow p (r.getD at_ 0) r own
/-- How many places of a list lie left of one. -/
def posP (L : List (List Int)) (at_ : Nat) : Nat := (L.filter fun r => decide (leadP r < at_)).length
def putP (p : Int) (L : List (List Int)) (own : List Int) (at_ pos : Nat) : List (List Int) := (L.take pos).map (redR p own at_) ++ own :: (L.drop pos).map (redR p own at_)
theorem Rr.tail {p : Int} {w : Nat} {a : List Int} {L : List (List Int)} {l : Nat → Nat} (r : Rr p w (a :: L) l) : Rr p w L fun i => l (i + 1) :=
 have e : ∀ i, (a :: L).getD (i + 1) default = L.getD i default := fun i => rfl
 ⟨fun i hi => r.len (i + 1) (by simpa using hi), fun i hi => r.bnd (i + 1) (by simpa using hi), fun i hi => r.lt (i + 1) (by simpa using hi), fun i hi => r.one (i + 1) (by simpa using hi), fun i j hi hj => r.zb (i + 1) j (by simpa using hi) hj, fun i k hik hk => r.inc (i + 1) (k + 1) (by omega) (by simpa using hk), fun i k hi hk hne => r.cl (i + 1) (k + 1) (by simpa using hi) (by simpa using hk) (by omega)⟩
theorem posP_ok {p : Int} {w at_ : Nat} : ∀ {L : List (List Int)} {l : Nat → Nat}, Rr p w L l → posP L at_ ≤ L.length ∧ (∀ i, i < posP L at_ → l i < at_) ∧ ∀ i, i < L.length → posP L at_ ≤ i → at_ ≤ l i
 | [], _, _ => ⟨by simp [posP], fun i hi => by simp [posP] at hi, fun i hi => by simp at hi⟩
 | a :: L, l, r => by
  have h0 : leadP a = l 0 := r.lead (i := 0) (by simp)
  obtain ⟨t1, t2, t3⟩ := posP_ok (at_ := at_) r.tail
  by_cases hc : l 0 < at_
  ·have e : posP (a :: L) at_ = posP L at_ + 1 := by simp [posP, h0, hc]
   rw [e]
   refine ⟨by simpa using t1, fun i hi => ?_, fun i hi hle => ?_⟩
   ·cases i with
    | zero => exact hc
    | succ i => exact t2 i (by omega)
   ·cases i with
    | zero => omega
    | succ i => exact t3 i (by simpa using hi) (by omega)
  ·have hz : posP L at_ = 0 := by
    apply Nat.eq_zero_of_not_pos
    intro hpos
    have a1 := t2 0 hpos
    have a2 := r.inc 0 1 (by omega) (by simp; omega)
    simp only [Nat.zero_add] at a1
    omega
   have e : posP (a :: L) at_ = 0 := by
    rw [← hz]; simp only [posP, List.filter_cons, h0]; rw [if_neg (by simpa using hc)]
   rw [e]
   refine ⟨Nat.zero_le _, fun i hi => by omega, fun i hi _ => ?_⟩
   rcases Nat.eq_zero_or_pos i with h | h
   ·rw [h]; omega
   ·have := r.inc 0 i h hi; omega
theorem putP_len {p : Int} {L : List (List Int)} {own : List Int} {at_ pos : Nat} (h : pos ≤ L.length) : (putP p L own at_ pos).length = L.length + 1 := by
 simp [putP]; omega
theorem putP_get {p : Int} {L : List (List Int)} {own : List Int} {at_ pos : Nat} (h : pos ≤ L.length) {i : Nat} (hi : i < L.length + 1) : (putP p L own at_ pos).getD i default = if i < pos then redR p own at_ (L.getD i default) else if i = pos then own else redR p own at_ (L.getD (i - 1) default) := by
 have hl : ((L.take pos).map (redR p own at_)).length = pos := by simp; omega
 rw [putP, List.getD_eq_getElem?_getD]
 by_cases h1 : i < pos
 ·rw [if_pos h1, List.getElem?_append_left (by omega), List.getElem?_map, List.getElem?_take, if_pos h1, List.getElem?_eq_getElem (by omega), List.getD_eq_getElem?_getD, List.getElem?_eq_getElem (by omega)]; rfl
 ·rw [if_neg h1, List.getElem?_append_right (by omega), hl]
  by_cases h2 : i = pos
  ·rw [if_pos h2, h2, Nat.sub_self]; rfl
  ·rw [if_neg h2]
   obtain ⟨q, rfl⟩ : ∃ q, i = pos + q + 1 := ⟨i - pos - 1, by omega⟩
   rw [show pos + q + 1 - pos = q + 1 by omega, show pos + q + 1 - 1 = pos + q by omega, List.getElem?_cons_succ, List.getElem?_map, List.getElem?_drop, List.getElem?_eq_getElem (by omega), List.getD_eq_getElem?_getD, List.getElem?_eq_getElem (by omega)]; rfl
section
variable {p : Int} {w : Nat} {L : List (List Int)} {l : Nat → Nat} {own : List Int} {at_ : Nat}
theorem redR_get {r : List Int} {j : Nat} (hj : j < r.length) : (redR p own at_ r).getD j 0 = (r.getD j 0 - r.getD at_ 0 * own.getD j 0) % p := lessRow_get p _ hj
structure OwnOk (p : Int) (w : Nat) (L : List (List Int)) (l : Nat → Nat) (own : List Int) (at_ : Nat) : Prop where
 len : own.length = w
 bnd : Bnd p own
 lt : at_ < w
 one : own.getD at_ 0 = 1
 zb : ∀ j, j < at_ → own.getD j 0 = 0
 cl : ∀ i, i < L.length → own.getD (l i) 0 = 0
theorem OwnOk.ne (o : OwnOk p w L l own at_) {i : Nat} (hi : i < L.length) : l i ≠ at_ := fun e => by
 have := o.cl i hi
 rw [e, o.one] at this; omega
theorem red_at (hp : 1 < p) (r : Rr p w L l) (o : OwnOk p w L l own at_) {i : Nat} (hi : i < L.length) : (redR p own at_ (L.getD i default)).getD at_ 0 = 0 := by
 rw [redR_get (by rw [r.len i hi]; exact o.lt), o.one, Int.mul_one, Int.sub_self, Int.zero_emod]
theorem red_lead (hp : 1 < p) (r : Rr p w L l) (o : OwnOk p w L l own at_) {i k : Nat} (hi : i < L.length) (hk : k < L.length) : (redR p own at_ (L.getD i default)).getD (l k) 0 = if k = i then 1 else 0 := by
 rw [redR_get (by rw [r.len i hi]; exact r.lt k hk), o.cl k hk, Int.mul_zero, Int.sub_zero]
 split
 ·rename_i e; subst e
  rw [show (L.getD k default).getD (l k) 0 = 1 from r.one k hk, Int.emod_eq_of_lt (by omega) hp]
 ·rename_i e
  rw [show (L.getD i default).getD (l k) 0 = 0 from r.cl k i hk hi (Ne.symm e), Int.zero_emod]
theorem red_zb (hp : 1 < p) (r : Rr p w L l) (o : OwnOk p w L l own at_) {i j : Nat} (hi : i < L.length) (hj : j < l i) : (redR p own at_ (L.getD i default)).getD j 0 = 0 := by
 have := r.lt i hi
 rw [redR_get (by rw [r.len i hi]; omega), show (L.getD i default).getD j 0 = 0 from r.zb i j hi hj]
 rcases Nat.lt_or_ge j at_ with h | h
 ·rw [o.zb j h, Int.mul_zero, Int.sub_self, Int.zero_emod]
 ·rw [show (L.getD i default).getD at_ 0 = 0 from r.zb i at_ hi (by omega), Int.zero_mul, Int.sub_self, Int.zero_emod]
theorem putP_rr (hp : 1 < p) (r : Rr p w L l) (o : OwnOk p w L l own at_) : Rr p w (putP p L own at_ (posP L at_)) fun i => if i < posP L at_ then l i else if i = posP L at_ then at_ else l (i - 1) := by
 obtain ⟨p1, p2, p3⟩ := posP_ok (at_ := at_) r
 have p3' : ∀ i, i < L.length → posP L at_ ≤ i → at_ < l i := fun i hi hle => by
  have := p3 i hi hle
  have := o.ne hi
  omega
 generalize posP L at_ = q at *
 have hl := putP_len (p := p) (own := own) (at_ := at_) p1
 have gt := fun {i : Nat} (hi : i < L.length + 1) => putP_get (p := p) (own := own) (at_ := at_) p1 hi
 have rl : ∀ i, i < L.length → (redR p own at_ (L.getD i default)).length = w := fun i hi => by rw [redR, lessRow_len, r.len i hi]
 refine ⟨fun i hi => ?_, fun i hi => ?_, fun i hi => ?_, fun i hi => ?_, fun i j hi hj => ?_, fun i k hik hk => ?_, fun i k hi hk hne => ?_⟩
 ·rw [hl] at hi
  rw [gt hi]
  split
  ·exact rl i (by omega)
  ·split
   ·exact o.len
   ·exact rl (i - 1) (by omega)
 ·rw [hl] at hi
  rw [gt hi]
  split
  ·exact lessRow_bnd (by omega) _ _ _
  ·split
   ·exact o.bnd
   ·exact lessRow_bnd (by omega) _ _ _
 ·rw [hl] at hi
  show (if i < q then l i else if i = q then at_ else l (i - 1)) < w
  split
  ·exact r.lt i (by omega)
  ·split
   ·exact o.lt
   ·exact r.lt (i - 1) (by omega)
 ·rw [hl] at hi
  rw [g2, gt hi]
  show _ = (1 : Int)
  by_cases h1 : i < q
  ·simp only [if_pos h1]
   rw [red_lead hp r o (by omega) (by omega), if_pos rfl]
  ·simp only [if_neg h1]
   by_cases h2 : i = q
   ·simp only [if_pos h2]; exact o.one
   ·simp only [if_neg h2]
    rw [red_lead hp r o (by omega) (by omega), if_pos rfl]
 ·rw [hl] at hi
  rw [g2, gt hi]
  by_cases h1 : i < q
  ·simp only [if_pos h1] at hj ⊢
   exact red_zb hp r o (by omega) hj
  ·simp only [if_neg h1] at hj ⊢
   by_cases h2 : i = q
   ·simp only [if_pos h2] at hj ⊢; exact o.zb j hj
   ·simp only [if_neg h2] at hj ⊢
    exact red_zb hp r o (by omega) hj
 ·rw [hl] at hk
  show (if i < q then l i else if i = q then at_ else l (i - 1)) < (if k < q then l k else if k = q then at_ else l (k - 1))
  by_cases h1 : i < q
  ·rw [if_pos h1]
   by_cases h2 : k < q
   ·rw [if_pos h2]; exact r.inc i k hik (by omega)
   ·rw [if_neg h2]
    by_cases h3 : k = q
    ·rw [if_pos h3]; exact p2 i h1
    ·rw [if_neg h3]
     have := p2 i h1
     have := p3' (k - 1) (by omega) (by omega)
     omega
  ·rw [if_neg h1]
   by_cases h2 : i = q
   ·rw [if_pos h2, if_neg (by omega), if_neg (by omega)]
    exact p3' (k - 1) (by omega) (by omega)
   ·rw [if_neg h2, if_neg (by omega), if_neg (by omega)]
    exact r.inc (i - 1) (k - 1) (by omega) (by omega)
 ·rw [hl] at hi hk
  rw [g2, gt hk]
  show _ = (0 : Int)
  by_cases h1 : k < q
  ·simp only [if_pos h1]
   by_cases h2 : i < q
   ·simp only [if_pos h2]; rw [red_lead hp r o (by omega) (by omega), if_neg (Ne.symm hne)]
   ·simp only [if_neg h2]
    by_cases h3 : i = q
    ·simp only [if_pos h3]; exact red_at hp r o (by omega)
    ·simp only [if_neg h3]; rw [red_lead hp r o (by omega) (by omega), if_neg (by omega)]
  ·simp only [if_neg h1]
   by_cases h2 : k = q
   ·simp only [if_pos h2]
    by_cases h3 : i < q
    ·simp only [if_pos h3]; exact o.cl i (by omega)
    ·simp only [if_neg h3, if_neg (show ¬ i = q by omega)]; exact o.cl (i - 1) (by omega)
   ·simp only [if_neg h2]
    by_cases h3 : i < q
    ·simp only [if_pos h3]; rw [red_lead hp r o (by omega) (by omega), if_neg (by omega)]
    ·simp only [if_neg h3]
     by_cases h4 : i = q
     ·simp only [if_pos h4]; exact red_at hp r o (by omega)
     ·simp only [if_neg h4]; rw [red_lead hp r o (by omega) (by omega), if_neg (by omega)]
theorem getD_app1 {α : Type} {L : List α} {row d : α} {i : Nat} (hi : i < L.length) : (L ++ [row]).getD i d = L.getD i d := by
 rw [List.getD_eq_getElem?_getD, List.getElem?_append_left hi, List.getD_eq_getElem?_getD]
theorem getD_app2 {α : Type} {L : List α} {row d : α} : (L ++ [row]).getD L.length d = row := by
 rw [List.getD_eq_getElem?_getD, List.getElem?_append_right (Nat.le_refl _), Nat.sub_self]; rfl
theorem Sp.at {L : List (List Int)} {i : Nat} {r : List Int} (hi : i < L.length) (e : L.getD i default = r) : Sp p L fun j => r.getD j 0 := by
 have := Sp.row (p := p) hi
 subst e; exact this
theorem Le.app1 {L : List (List Int)} {row : List Int} : Le p L (L ++ [row]) := fun i hi => Sp.at (by simp; omega) (getD_app1 hi)
theorem Sp.last {L : List (List Int)} {row : List Int} : Sp p (L ++ [row]) fun j => row.getD j 0 := Sp.at (by simp) getD_app2
theorem Le.snoc {L M : List (List Int)} {row : List Int} (h : Le p L M) (k : Sp p M fun j => row.getD j 0) : Le p (L ++ [row]) M := fun i hi => by
 rw [List.length_append, List.length_singleton] at hi
 rcases Nat.lt_succ_iff_lt_or_eq.1 hi with h' | h'
 ·have := h i h'
  unfold g2 at *
  rwa [getD_app1 h']
 ·subst h'
  show Sp p M fun j => ((L ++ [row]).getD L.length default).getD j 0
  rwa [getD_app2]
theorem Eqv.snoc {L M : List (List Int)} {row : List Int} (h : Eqv p L M) : Eqv p (L ++ [row]) (M ++ [row]) :=
 ⟨Le.snoc (h.1.trans Le.app1) Sp.last, Le.snoc (h.2.trans Le.app1) Sp.last⟩
theorem putP_eqv (r : Rr p w L l) (ol : own.length = w) {q : Nat} (hq : q ≤ L.length) {row : List Int} (h1 : Sp p (L ++ [row]) fun j => own.getD j 0) {k : Int} {s : Nat → Int} (hs : Sp p L s) (h2 : ∀ j, Cg p (row.getD j 0) (k * own.getD j 0 + s j)) : Eqv p (putP p L own at_ q) (L ++ [row]) := by
 have hl := putP_len (p := p) (own := own) (at_ := at_) hq
 have gt := fun {i : Nat} (hi : i < L.length + 1) => putP_get (p := p) (own := own) (at_ := at_) hq hi
 have cg : ∀ i, i < L.length → ∀ j, Cg p ((redR p own at_ (L.getD i default)).getD j 0) (g2 L i j - g2 L i at_ * own.getD j 0) := fun i hi j => lessRow_cg p _ (by rw [ol, r.len i hi]; exact Nat.le_refl _) j
 have a1 : ∀ i, i < L.length → Sp p (L ++ [row]) fun j => (redR p own at_ (L.getD i default)).getD j 0 := fun i hi => ((Le.app1 i hi).sub (g2 L i at_) h1).cg (cg i hi)
 have o1 : Sp p (putP p L own at_ q) fun j => own.getD j 0 := Sp.at (i := q) (by rw [hl]; omega) (by rw [gt (by omega), if_neg (by omega), if_pos rfl])
 have b1 : ∀ i, i < L.length → Sp p (putP p L own at_ q) fun j => (redR p own at_ (L.getD i default)).getD j 0 := fun i hi => by
  by_cases h : i < q
  ·exact Sp.at (i := i) (by rw [hl]; omega) (by rw [gt (by omega), if_pos h])
  ·exact Sp.at (i := i + 1) (by rw [hl]; omega) (by rw [gt (by omega), if_neg (by omega), if_neg (by omega), Nat.add_sub_cancel])
 have b2 : Le p L (putP p L own at_ q) := fun i hi => ((b1 i hi).add (o1.mul (g2 L i at_))).cg fun j => ((Cg.add (cg i hi j) (Cg.refl _)).trans (Cg.of_eq (by omega))).symm
 refine ⟨fun i hi => ?_, Le.snoc b2 (((o1.mul k).add (hs.le b2)).cg h2)⟩
 rw [hl] at hi
 unfold g2
 rw [gt hi]
 split
 ·exact a1 i (by omega)
 ·split
  ·exact h1
  ·exact a1 (i - 1) (by omega)
theorem lead_cases (xs : List Int) : (leadP xs = -1 ∧ ∀ j, xs.getD j 0 = 0) ∨ ∃ k : Nat, k < xs.length ∧ leadP xs = k ∧ (∀ j, j < k → xs.getD j 0 = 0) ∧ xs.getD k 0 ≠ 0 := by
 have key : ∀ n, n ≤ xs.length → (∀ j, j < n → xs.getD j 0 = 0) ∨ ∃ k : Nat, k < n ∧ (∀ j, j < k → xs.getD j 0 = 0) ∧ xs.getD k 0 ≠ 0 := by
  intro n
  induction n with
  | zero => intro _; exact .inl fun j hj => by omega
  | succ n ih =>
   intro hn
   rcases ih (by omega) with h | ⟨k, hk, h⟩
   ·by_cases e : xs.getD n 0 = 0
    ·exact .inl fun j hj => by
      rcases Nat.lt_succ_iff_lt_or_eq.1 hj with h' | h'
      ·exact h j h'
      ·rw [h']; exact e
    ·exact .inr ⟨n, by omega, h, e⟩
   ·exact .inr ⟨k, by omega, h⟩
 rcases key xs.length (Nat.le_refl _) with h | ⟨k, hk, h1, h2⟩
 ·refine .inl ⟨leadP_all (zeros_all h), fun j => ?_⟩
  rcases Nat.lt_or_ge j xs.length with h' | h'
  ·exact h j h'
  ·exact getD_out h'
 ·exact .inr ⟨k, hk, leadP_at hk h1 h2, h1, h2⟩
/-- So far, a list is the reduced one of some rows. -/
def Red (p : Int) (w : Nat) (L rows : List (List Int)) : Prop := (∃ l, Rr p w L l) ∧ Eqv p L rows
theorem Red.nil : Red p w [] [] := ⟨⟨fun i => i, Rr.nil⟩, Eqv.refl⟩
/-- The row that comes to a list: what is left of it, begun with a 1. -/
def ownP (p : Int) (L : List (List Int)) (row : List Int) : List Int := sclRow p (invP p ((restP p L row).getD (leadP (restP p L row)).toNat 0)) (restP p L row)
theorem Red.skip {L rows : List (List Int)} {row : List Int} (h : Red p w L rows) (hp : 1 < p) (hl : row.length = w) (hb : Bnd p row) (hz : leadP (restP p L row) < 0) : Red p w L (rows ++ [row]) := by
 obtain ⟨⟨l, r⟩, e⟩ := h
 refine ⟨⟨l, r⟩, Eqv.trans ?_ e.snoc⟩
 rcases lead_cases (restP p L row) with ⟨_, h0⟩ | ⟨k, _, h1, _⟩
 ·exact ⟨Le.app1, Le.snoc Le.refl ((restP_iff r (by omega) hl hb).1 h0)⟩
 ·omega
theorem ownP_ok (hP : isP p = true) (r : Rr p w L l) {row : List Int} (hl : row.length = w) (hb : Bnd p row) {k : Nat} (hk : leadP (restP p L row) = k) : OwnOk p w L l (ownP p L row) k ∧ (Sp p (L ++ [row]) fun j => (ownP p L row).getD j 0) ∧ ∃ c s, Sp p L s ∧ ∀ j, Cg p (row.getD j 0) (c * (ownP p L row).getD j 0 + s j) := by
 have hp := isP_two hP
 have rl := restP_len p L row
 have rb := restP_bnd (p := p) (L := L) (by omega) hb
 have rz : ∀ i, i < L.length → (restP p L row).getD (l i) 0 = 0 := fun i hi => restP_zero r (by omega) hl hb hi
 obtain ⟨s, hs, hc⟩ := restP_sub r hl
 rcases lead_cases (restP p L row) with ⟨h0, _⟩ | ⟨k', hk', h1, h2, h3⟩
 ·omega
 ·obtain rfl : k = k' := by omega
  have hx := rb.at hk'
  obtain ⟨i1, i2, _⟩ := invP_ok hP (x := (restP p L row).getD k 0) (by omega) hx.2
  have og : ∀ j, j < w → (ownP p L row).getD j 0 = (invP p ((restP p L row).getD k 0) * (restP p L row).getD j 0) % p := fun j hj => by
   rw [ownP, h1, Int.toNat_natCast, sclR_get _ _ (by rw [rl, hl]; exact hj)]
  have ocg : ∀ j, Cg p ((ownP p L row).getD j 0) (invP p ((restP p L row).getD k 0) * (restP p L row).getD j 0) := fun j => by
   rw [ownP, h1, Int.toNat_natCast]; exact sclRow_cg _ _ _ j
  have own_ok : OwnOk p w L l (ownP p L row) k := ⟨by rw [ownP, sclR_len, rl, hl], sclRow_bnd (by omega) _ _, by omega, by rw [og k (by omega)]; exact i2, fun j hj => by rw [og j (by omega), h2 j hj, Int.mul_zero, Int.zero_emod], fun i hi => by rw [og _ (r.lt i hi), rz i hi, Int.mul_zero, Int.zero_emod]⟩
  refine ⟨own_ok, ?_, (restP p L row).getD k 0, s, hs, fun j => ?_⟩
  ·have : Sp p (L ++ [row]) fun j => (restP p L row).getD j 0 := ((Sp.last (p := p) (L := L) (row := row)).sub 1 (hs.le Le.app1)).cg fun j => (hc j).trans (Cg.of_eq (by rw [Int.one_mul]))
   exact (this.mul _).cg ocg
  ·have a := hc j
   have b : Cg p (row.getD j 0) ((restP p L row).getD j 0 + s j) := ((Cg.add a (Cg.refl (s j))).trans (Cg.of_eq (by omega))).symm
   refine b.trans (Cg.add ?_ (Cg.refl _))
   have c : Cg p ((restP p L row).getD k 0 * (ownP p L row).getD j 0) ((restP p L row).getD k 0 * (invP p ((restP p L row).getD k 0) * (restP p L row).getD j 0)) := (Cg.refl _).mul (ocg j)
   have d : Cg p (invP p ((restP p L row).getD k 0) * (restP p L row).getD k 0) 1 := by
    show _ % p = 1 % p
    rw [i2, Int.emod_eq_of_lt (by omega) hp.1]
   have e : Cg p ((restP p L row).getD k 0 * (invP p ((restP p L row).getD k 0) * (restP p L row).getD j 0)) ((restP p L row).getD j 0) := by
    refine Cg.trans (Cg.of_eq ?_) ((d.mul (Cg.refl ((restP p L row).getD j 0))).trans (Cg.of_eq (Int.one_mul _)))
    rw [← Int.mul_assoc, Int.mul_comm ((restP p L row).getD k 0)]
   exact (c.trans e).symm
theorem Red.put {L rows : List (List Int)} {row : List Int} (h : Red p w L rows) (hP : isP p = true) (hl : row.length = w) (hb : Bnd p row) {k : Nat} (hk : leadP (restP p L row) = k) : Red p w (putP p L (ownP p L row) k (posP L k)) (rows ++ [row]) := by
 obtain ⟨⟨l, r⟩, e⟩ := h
 obtain ⟨o, h1, c, s, hs, h2⟩ := ownP_ok hP r hl hb hk
 exact ⟨⟨_, putP_rr (isP_two hP).1 r o⟩, (putP_eqv r o.len (posP_ok r).1 h1 hs h2).trans e.snoc⟩
theorem take_snoc {rows : List (List Int)} {n : Nat} (hn : n < rows.length) : rows.take (n + 1) = rows.take n ++ [rows.getD n default] := by
 rw [List.take_succ_eq_append_getElem hn, List.getD_eq_getElem?_getD, List.getElem?_eq_getElem hn]; rfl
theorem Red.exists (hP : isP p = true) {rows : List (List Int)} (h : ∀ r ∈ rows, r.length = w ∧ Bnd p r) : ∀ n, n ≤ rows.length → ∃ L, Red p w L (rows.take n)
 | 0, _ => ⟨[], by rw [List.take_zero]; exact Red.nil⟩
 | n + 1, hn => by
  obtain ⟨L, hL⟩ := Red.exists hP h n (by omega)
  have hr := h (rows.getD n default) (by rw [List.getD_eq_getElem?_getD, List.getElem?_eq_getElem hn]; exact List.getElem_mem hn)
  rw [take_snoc hn]
  rcases lead_cases (restP p L (rows.getD n default)) with ⟨h0, _⟩ | ⟨k, _, h1, _⟩
  ·exact ⟨L, hL.skip (isP_two hP).1 hr.1 hr.2 (by omega)⟩
  ·exact ⟨_, hL.put hP hr.1 hr.2 h1⟩
theorem wd_ok {rows : List (List Int)} (h : ∀ r ∈ rows, r.length = w ∧ Bnd p r) (hn : rows ≠ []) : wd rows = w := by
 cases rows with
 | nil => exact absurd rfl hn
 | cons a t => exact (h a (by simp)).1
theorem Red.ech (hP : isP p = true) {L rows : List (List Int)} (h : ∀ r ∈ rows, r.length = w ∧ Bnd p r) (hL : Red p w L rows) : ech p rows = L := by
 obtain ⟨⟨l, r⟩, e⟩ := hL
 exact ech_eq (isP_two hP).1 r e (wd_ok h)
theorem ech_red (hP : isP p = true) {rows : List (List Int)} (h : ∀ r ∈ rows, r.length = w ∧ Bnd p r) : Red p w (ech p rows) rows := by
 obtain ⟨L, hL⟩ := Red.exists hP h rows.length (Nat.le_refl _)
 rw [List.take_length] at hL
 rw [hL.ech hP h]; exact hL
/-- A reduced list is its own. -/
theorem Rr.self (hP : isP p = true) (r : Rr p w L l) : ech p L = L := by
 refine Red.ech hP (w := w) (fun x hx => ?_) ⟨⟨l, r⟩, Eqv.refl⟩
 obtain ⟨i, hi, rfl⟩ := List.getElem_of_mem hx
 have a := r.len i hi
 have b := r.bnd i hi
 rw [List.getD_eq_getElem?_getD, List.getElem?_eq_getElem hi] at a b
 exact ⟨a, b⟩
theorem Rr.le_w (r : Rr p w L l) : L.length ≤ w := by
 have key : ∀ i, i < L.length → i ≤ l i := by
  intro i
  induction i with
  | zero => intro _; exact Nat.zero_le _
  | succ i ih => intro hi; have := ih (by omega); have := r.inc i (i + 1) (by omega) hi; omega
 rcases Nat.eq_zero_or_pos L.length with h | h
 ·omega
 ·have := key (L.length - 1) (by omega)
  have := r.lt (L.length - 1) (by omega)
  omega
end
def swapP {α : Type} [Inhabited α] (M : List α) (d a : Nat) : List α := (M.set d (M.getD a default)).set a (M.getD d default)
theorem swapP_len {α : Type} [Inhabited α] (M : List α) (d a : Nat) : (swapP M d a).length = M.length := by simp [swapP]
theorem swapP_get {α : Type} [Inhabited α] {M : List α} {d a : Nat} (hd : d < M.length) (ha : a < M.length) (i : Nat) : (swapP M d a).getD i default = if a = i then M.getD d default else if d = i then M.getD a default else M.getD i default := by
 rw [swapP, getD_set (by rw [List.length_set]; exact ha)]
 split
 ·rfl
 ·rw [getD_set hd]
def clrP (p : Int) (d c : Nat) (M : List (List Int)) (n : Nat) : List (List Int) := (List.range M.length).map fun i => if i < n ∧ i ≠ d then lessRow p (g2 M i c) (M.getD i default) (M.getD d default) else M.getD i default
theorem clrP_len (p : Int) (d c : Nat) (M : List (List Int)) (n : Nat) : (clrP p d c M n).length = M.length := by simp [clrP]
theorem clrP_get {p : Int} {d c : Nat} {M : List (List Int)} {n i : Nat} (hi : i < M.length) : (clrP p d c M n).getD i default = if i < n ∧ i ≠ d then lessRow p (g2 M i c) (M.getD i default) (M.getD d default) else M.getD i default := getD_map_range (α := List Int) (fun i : Nat => if i < n ∧ i ≠ d then lessRow p (g2 M i c) (M.getD i default) (M.getD d default) else M.getD i default) hi
section
variable {p : Int} {w : Nat} {rows M : List (List Int)} {l : Nat → Nat} {d c : Nat}
/-- The program's reduction behind c columns, of which d have brought a row. -/
structure RI (p : Int) (w : Nat) (rows M : List (List Int)) (l : Nat → Nat) (d c : Nat) : Prop where
 ln : M.length = rows.length
 len : ∀ i, i < M.length → (M.getD i default).length = w
 bnd : ∀ i, i < M.length → Bnd p (M.getD i default)
 eqv : Eqv p M rows
 dl : d ≤ M.length
 lt : ∀ i, i < d → l i < c
 one : ∀ i, i < d → g2 M i (l i) = 1
 zb : ∀ i j, i < d → j < l i → g2 M i j = 0
 inc : ∀ i k, i < k → k < d → l i < l k
 cl : ∀ i k, i < d → k < M.length → k ≠ i → g2 M k (l i) = 0
 nul : ∀ k j, d ≤ k → k < M.length → j < c → g2 M k j = 0
theorem RI.start (h : ∀ r ∈ rows, r.length = w ∧ Bnd p r) : RI p w rows rows l 0 0 := by
 have at_ : ∀ i, i < rows.length → (rows.getD i default).length = w ∧ Bnd p (rows.getD i default) := fun i hi => h _ (by rw [List.getD_eq_getElem?_getD, List.getElem?_eq_getElem hi]; exact List.getElem_mem hi)
 exact ⟨rfl, fun i hi => (at_ i hi).1, fun i hi => (at_ i hi).2, Eqv.refl, Nat.zero_le _, fun i hi => by omega, fun i hi => by omega, fun i j hi => by omega, fun i k _ hk => by omega, fun i k hi => by omega, fun k j _ _ hj => by omega⟩
theorem RI.skip (r : RI p w rows M l d c) (h : ∀ k, d ≤ k → k < M.length → g2 M k c = 0) : RI p w rows M l d (c + 1) :=
 ⟨r.ln, r.len, r.bnd, r.eqv, r.dl, fun i hi => Nat.lt_succ_of_lt (r.lt i hi), r.one, r.zb, r.inc, r.cl, fun k j h1 h2 hj => by
  rcases Nat.lt_succ_iff_lt_or_eq.1 hj with h' | h'
  ·exact r.nul k j h1 h2 h'
  ·rw [h']; exact h k h1 h2⟩
theorem RI.swap (r : RI p w rows M l d c) {a : Nat} (hd : d ≤ a) (ha : a < M.length) : RI p w rows (swapP M d a) l d c := by
 have hdm : d < M.length := by omega
 have gt := swapP_get hdm ha
 have pm : ∀ i, i < M.length → ∃ k, k < M.length ∧ (swapP M d a).getD i default = M.getD k default ∧ (i < d → k = i) ∧ (d ≤ i → d ≤ k) ∧ ∀ q, q < d → (i ≠ q → k ≠ q) := fun i hi => by
  rw [gt i]
  split
  ·exact ⟨d, hdm, rfl, by omega, by omega, by omega⟩
  ·split
   ·exact ⟨a, ha, rfl, by omega, by omega, by omega⟩
   ·exact ⟨i, hi, rfl, fun _ => rfl, fun h => h, fun q _ h => h⟩
 have hl := swapP_len M d a
 have gs : ∀ i, i < M.length → ∃ k, k < M.length ∧ (∀ j, g2 (swapP M d a) i j = g2 M k j) ∧ (i < d → k = i) ∧ (d ≤ i → d ≤ k) ∧ ∀ q, q < d → (i ≠ q → k ≠ q) := fun i hi => by
  obtain ⟨k, h1, h2, h3⟩ := pm i hi
  exact ⟨k, h1, fun j => by rw [g2, h2], h3⟩
 refine ⟨by rw [hl]; exact r.ln, fun i hi => ?_, fun i hi => ?_, ⟨fun i hi => ?_, fun i hi => ?_⟩, by rw [hl]; exact r.dl, r.lt, fun i hi => ?_, fun i j hi hj => ?_, r.inc, fun i k hi hk hne => ?_, fun k j h1 h2 hj => ?_⟩
 ·rw [hl] at hi; obtain ⟨k, h1, h2, _⟩ := pm i hi; rw [h2]; exact r.len k h1
 ·rw [hl] at hi; obtain ⟨k, h1, h2, _⟩ := pm i hi; rw [h2]; exact r.bnd k h1
 ·rw [hl] at hi
  obtain ⟨k, h1, h2, _⟩ := gs i hi
  exact (r.eqv.1 k h1).cg fun j => Cg.of_eq (h2 j)
 ·have h := r.eqv.2 i hi
  refine h.le fun k hk => ?_
  by_cases e1 : k = d
  ·subst e1
   exact Sp.at (i := a) (by rw [hl]; exact ha) (by rw [gt, if_pos rfl])
  ·by_cases e2 : k = a
   ·subst e2
    exact Sp.at (i := d) (by rw [hl]; exact hdm) (by
     rw [gt]
     split
     ·rename_i e; rw [e]
     ·rw [if_pos rfl])
   ·exact Sp.at (i := k) (by rw [hl]; exact hk) (by rw [gt, if_neg (Ne.symm e2), if_neg (Ne.symm e1)])
 ·obtain ⟨k, h1, h2, h3, _⟩ := gs i (by omega)
  rw [h2, h3 hi]; exact r.one i hi
 ·obtain ⟨k, h1, h2, h3, _⟩ := gs i (by omega)
  rw [h2, h3 hi]; exact r.zb i j hi hj
 ·rw [hl] at hk
  obtain ⟨q, h1, h2, _, _, h5⟩ := gs k hk
  rw [h2]; exact r.cl i q hi h1 (h5 i hi hne)
 ·rw [hl] at h2
  obtain ⟨q, h3, h4, _, h5, _⟩ := gs k h2
  rw [h4]; exact r.nul q j (h5 h1) h3 hj
theorem RI.scale (hP : isP p = true) (r : RI p w rows M l d c) (hd : d < M.length) (hc : c < w) (hx : g2 M d c ≠ 0) : RI p w rows (M.set d (sclRow p (invP p (g2 M d c)) (M.getD d default))) l d c ∧ g2 (M.set d (sclRow p (invP p (g2 M d c)) (M.getD d default))) d c = 1 := by
 have hp := isP_two hP
 have hb := (r.bnd d hd).at (k := c) (by rw [r.len d hd]; exact hc)
 have hb' : 0 ≤ g2 M d c ∧ g2 M d c < p := hb
 obtain ⟨i1, i2, _⟩ := invP_ok hP (x := g2 M d c) (by omega) hb'.2
 generalize hk : invP p (g2 M d c) = k at *
 have hl : (M.set d (sclRow p k (M.getD d default))).length = M.length := List.length_set
 have gt : ∀ i, (M.set d (sclRow p k (M.getD d default))).getD i default = if d = i then sclRow p k (M.getD d default) else M.getD i default := fun i => getD_set hd
 have gd : ∀ j, j < w → (sclRow p k (M.getD d default)).getD j 0 = (k * g2 M d j) % p := fun j hj => sclR_get _ _ (by rw [r.len d hd]; exact hj)
 have gn : ∀ i j, i ≠ d → g2 (M.set d (sclRow p k (M.getD d default))) i j = g2 M i j := fun i j hne => by rw [g2, gt, if_neg (Ne.symm hne)]
 have gz : ∀ j, g2 M d j = 0 → g2 (M.set d (sclRow p k (M.getD d default))) d j = 0 := fun j e => by
  rw [g2, gt, if_pos rfl]
  rcases Nat.lt_or_ge j w with h | h
  ·rw [gd j h, e, Int.mul_zero, Int.zero_emod]
  ·exact getD_out (by rw [sclR_len, r.len d hd]; exact h)
 refine ⟨⟨by rw [hl]; exact r.ln, fun i hi => ?_, fun i hi => ?_, ⟨fun i hi => ?_, fun i hi => ?_⟩, by rw [hl]; exact r.dl, r.lt, fun i hi => ?_, fun i j hi hj => ?_, r.inc, fun i q hi hq hne => ?_, fun q j h1 h2 hj => ?_⟩, ?_⟩
 ·rw [hl] at hi; rw [gt]
  split
  ·rw [sclR_len]; exact r.len d hd
  ·exact r.len i hi
 ·rw [hl] at hi; rw [gt]
  split
  ·exact sclRow_bnd (by omega) _ _
  ·exact r.bnd i hi
 ·rw [hl] at hi
  by_cases e : i = d
  ·subst e
   refine ((r.eqv.1 i hi).mul k).cg fun j => ?_
   show Cg p (((M.set i (sclRow p k (M.getD i default))).getD i default).getD j 0) _
   rw [gt, if_pos rfl]; exact sclRow_cg _ _ _ j
  ·exact (r.eqv.1 i hi).cg fun j => Cg.of_eq (gn i j e)
 ·refine (r.eqv.2 i hi).le fun q hq => ?_
  by_cases e : q = d
  ·subst e
   refine ((Sp.at (p := p) (L := M.set q (sclRow p k (M.getD q default))) (i := q) (by rw [hl]; exact hq) (by rw [gt, if_pos rfl])).mul (g2 M q c)).cg fun j => ?_
   have a : Cg p (g2 M q c * (sclRow p k (M.getD q default)).getD j 0) (g2 M q c * (k * g2 M q j)) := (Cg.refl _).mul (sclRow_cg _ _ _ j)
   have b : Cg p (k * g2 M q c) 1 := by
    show _ % p = 1 % p
    rw [i2, Int.emod_eq_of_lt (by omega) hp.1]
   refine (a.trans (Cg.trans (Cg.of_eq ?_) ((b.mul (Cg.refl (g2 M q j))).trans (Cg.of_eq (Int.one_mul _))))).symm
   rw [← Int.mul_assoc, Int.mul_comm (g2 M q c)]
  ·exact Sp.at (i := q) (by rw [hl]; exact hq) (by rw [gt, if_neg (Ne.symm e)])
 ·rw [gn i _ (by omega)]; exact r.one i hi
 ·rw [gn i _ (by omega)]; exact r.zb i j hi hj
 ·rw [hl] at hq
  by_cases e : q = d
  ·subst e; exact gz _ (r.cl i q hi hq hne)
  ·rw [gn q _ e]; exact r.cl i q hi hq hne
 ·rw [hl] at h2
  by_cases e : q = d
  ·subst e; exact gz _ (r.nul q j h1 h2 hj)
  ·rw [gn q _ e]; exact r.nul q j h1 h2 hj
 ·rw [g2, gt, if_pos rfl, gd c hc]; exact i2
theorem RI.clear (hP : isP p = true) (r : RI p w rows M l d c) (hd : d < M.length) (hc : c < w) (h1 : g2 M d c = 1) : RI p w rows (clrP p d c M M.length) (fun i => if i = d then c else l i) (d + 1) (c + 1) := by
 have hp := isP_two hP
 have hl := clrP_len p d c M M.length
 have gt := fun {i : Nat} (hi : i < M.length) => clrP_get (p := p) (d := d) (c := c) (n := M.length) hi
 have gd : ∀ j, g2 (clrP p d c M M.length) d j = g2 M d j := fun j => by rw [g2, gt hd, if_neg (by omega)]
 have gn : ∀ i j, i < M.length → i ≠ d → j < w → g2 (clrP p d c M M.length) i j = (g2 M i j - g2 M i c * g2 M d j) % p := fun i j hi hne hj => by
  rw [g2, gt hi, if_pos ⟨hi, hne⟩, lessRow_get p _ (by rw [r.len i hi]; exact hj)]
 have cg : ∀ i j, i < M.length → i ≠ d → Cg p (g2 (clrP p d c M M.length) i j) (g2 M i j - g2 M i c * g2 M d j) := fun i j hi hne => by
  rw [g2, gt hi, if_pos ⟨hi, hne⟩]
  exact lessRow_cg p _ (by rw [r.len i hi, r.len d hd]; exact Nat.le_refl _) j
 have small : ∀ {x : Int}, 0 ≤ x ∧ x < p → x % p = x := fun h => Int.emod_eq_of_lt h.1 h.2
 -- left of column c nothing has changed
 have old : ∀ i j, i < M.length → j < c → g2 (clrP p d c M M.length) i j = g2 M i j := fun i j hi hj => by
  by_cases e : i = d
  ·subst e; exact gd j
  ·rw [gn i j hi e (by omega), r.nul d j (Nat.le_refl _) hd hj, Int.mul_zero, Int.sub_zero]
   exact small ((r.bnd i hi).at (k := j) (by rw [r.len i hi]; omega))
 have atc : ∀ i, i < M.length → i ≠ d → g2 (clrP p d c M M.length) i c = 0 := fun i hi hne => by
  rw [gn i c hi hne hc, h1, Int.mul_one, Int.sub_self, Int.zero_emod]
 refine ⟨by rw [hl]; exact r.ln, fun i hi => ?_, fun i hi => ?_, ⟨fun i hi => ?_, fun i hi => ?_⟩, by rw [hl]; exact hd, fun i hi => ?_, fun i hi => ?_, fun i j hi hj => ?_, fun i k hik hk => ?_, fun i k hi hk hne => ?_, fun k j hk hk2 hj => ?_⟩
 ·rw [hl] at hi; rw [gt hi]
  split
  ·rw [lessRow_len]; exact r.len i hi
  ·exact r.len i hi
 ·rw [hl] at hi; rw [gt hi]
  split
  ·exact lessRow_bnd (by omega) _ _ _
  ·exact r.bnd i hi
 ·rw [hl] at hi
  by_cases e : i = d
  ·subst e; exact (r.eqv.1 i hi).cg fun j => Cg.of_eq (gd j)
  ·exact ((r.eqv.1 i hi).sub (g2 M i c) (r.eqv.1 d hd)).cg fun j => cg i j hi e
 ·refine (r.eqv.2 i hi).le fun q hq => ?_
  have sd : Sp p (clrP p d c M M.length) (g2 M d) := (Sp.row (p := p) (L := clrP p d c M M.length) (i := d) (by rw [hl]; exact hd)).cg fun j => Cg.of_eq (gd j).symm
  by_cases e : q = d
  ·subst e; exact sd
  ·refine ((Sp.row (p := p) (L := clrP p d c M M.length) (i := q) (by rw [hl]; exact hq)).add (sd.mul (g2 M q c))).cg fun j => ?_
   exact ((Cg.add (cg q j hq e) (Cg.refl _)).trans (Cg.of_eq (by omega))).symm
 ·show (if i = d then c else l i) < c + 1
  split
  ·omega
  ·have := r.lt i (by omega); omega
 ·show g2 _ i (if i = d then c else l i) = 1
  by_cases e : i = d
  ·rw [if_pos e, e, gd]; exact h1
  ·rw [if_neg e, old i _ (by omega) (r.lt i (by omega))]; exact r.one i (by omega)
 ·by_cases e : i = d
  ·simp only [if_pos e] at hj
   rw [e, gd]; exact r.nul d j (Nat.le_refl _) hd hj
  ·simp only [if_neg e] at hj
   have := r.lt i (by omega)
   rw [old i j (by omega) (by omega)]; exact r.zb i j (by omega) hj
 ·show (if i = d then c else l i) < (if k = d then c else l k)
  rw [if_neg (by omega)]
  by_cases e : k = d
  ·rw [if_pos e]; exact r.lt i (by omega)
  ·rw [if_neg e]; exact r.inc i k hik (by omega)
 ·rw [hl] at hk
  show g2 _ k (if i = d then c else l i) = 0
  by_cases e : i = d
  ·rw [if_pos e]; exact atc k hk (by omega)
  ·rw [if_neg e, old k _ hk (r.lt i (by omega))]; exact r.cl i k (by omega) hk hne
 ·rw [hl] at hk2
  rcases Nat.lt_succ_iff_lt_or_eq.1 hj with h' | h'
  ·rw [old k j hk2 h']; exact r.nul k j (by omega) hk2 h'
  ·rw [h']; exact atc k hk2 (by omega)
theorem take_get {α : Type} {xs : List α} {d : α} {i n : Nat} (hi : i < n) : (xs.take n).getD i d = xs.getD i d := by
 rw [List.getD_eq_getElem?_getD, List.getElem?_take, if_pos hi, List.getD_eq_getElem?_getD]
theorem RI.end (hP : isP p = true) (r : RI p w rows M l d c) (h : d = M.length ∨ w ≤ c) : Red p w (M.take d) rows := by
 have hl : (M.take d).length = d := by have := r.dl; simp; omega
 have gt : ∀ i j, i < d → g2 (M.take d) i j = g2 M i j := fun i j hi => by rw [g2, take_get hi]
 have dl := r.dl
 have out : ∀ i j, i < M.length → w ≤ j → g2 M i j = 0 := fun i j hi hj => g2_out (by rw [r.len i hi]; exact hj)
 have ltw : ∀ i, i < d → l i < w := fun i hi => by
  apply Nat.lt_of_not_le
  intro hle
  have := r.one i hi
  rw [out i _ (by omega) hle] at this; omega
 refine ⟨⟨l, ⟨fun i hi => ?_, fun i hi => ?_, fun i hi => ?_, fun i hi => ?_, fun i j hi hj => ?_, fun i k hik hk => ?_, fun i k hi hk hne => ?_⟩⟩, ⟨fun i hi => ?_, fun i hi => ?_⟩⟩
 ·rw [hl] at hi; rw [take_get hi]; exact r.len i (by omega)
 ·rw [hl] at hi; rw [take_get hi]; exact r.bnd i (by omega)
 ·rw [hl] at hi; exact ltw i hi
 ·rw [hl] at hi; rw [gt i _ hi]; exact r.one i hi
 ·rw [hl] at hi; rw [gt i _ hi]; exact r.zb i j hi hj
 ·rw [hl] at hk; exact r.inc i k hik hk
 ·rw [hl] at hi hk; rw [gt k _ hk]; exact r.cl i k hi (by omega) hne
 ·rw [hl] at hi; exact (r.eqv.1 i (by omega)).cg fun j => Cg.of_eq (gt i j hi)
 ·refine (r.eqv.2 i hi).le fun k hk => ?_
  rcases Nat.lt_or_ge k d with h1 | h1
  ·exact Sp.at (i := k) (by rw [hl]; exact h1) (take_get h1)
  ·refine Sp.zero.cg fun j => Cg.of_eq ?_
   rcases h with h2 | h2
   ·omega
   ·rcases Nat.lt_or_ge j c with h3 | h3
    ·exact r.nul k j h1 hk h3
    ·exact out k j hk (by omega)
theorem RI.ech (hP : isP p = true) (h0 : ∀ r ∈ rows, r.length = w ∧ Bnd p r) (r : RI p w rows M l d c) (h : d = M.length ∨ w ≤ c) : ech p rows = M.take d := (r.end hP h).ech hP h0
end
-- ---- kernels
def longP (rows : List (List Int)) : List (List Int) := (List.range rows.length).map fun i => rows.getD i default ++ unitP rows.length i
noncomputable def kerP (p : Int) (w : Nat) (rows : List (List Int)) : List (List Int) := ((ech p (longP rows)).filter fun r => decide ((w : Int) ≤ leadP r)).map fun r => r.drop w
theorem longP_tbl {p : Int} {w : Nat} (hp : 1 < p) {rows : List (List Int)} (h : ∀ r ∈ rows, r.length = w ∧ Bnd p r) : ∀ r ∈ longP rows, r.length = w + rows.length ∧ Bnd p r := fun r hr => by
 obtain ⟨i, hi, rfl⟩ := List.mem_map.1 hr
 rw [List.mem_range] at hi
 have hi' := h (rows.getD i default) (by rw [List.getD_eq_getElem?_getD, List.getElem?_eq_getElem hi]; exact List.getElem_mem hi)
 refine ⟨by rw [List.length_append, hi'.1]; simp [unitP], fun x hx => ?_⟩
 rcases List.mem_append.1 hx with h1 | h1
 ·exact hi'.2 x h1
 ·rcases List.mem_or_eq_of_mem_set h1 with h2 | h2
  ·have := List.eq_of_mem_replicate h2; omega
  ·omega
theorem filter_suffix {p : Int} {W w : Nat} : ∀ {L : List (List Int)} {l : Nat → Nat}, Rr p W L l → L.filter (fun r => decide ((w : Int) ≤ leadP r)) = L.drop (posP L w)
 | [], _, _ => rfl
 | a :: L, l, r => by
  have h0 : leadP a = l 0 := r.lead (i := 0) (by simp)
  obtain ⟨t1, t2, t3⟩ := posP_ok (at_ := w) r
  by_cases hc : l 0 < w
  ·have e : posP (a :: L) w = posP L w + 1 := by simp [posP, h0, hc]
   rw [e, List.drop_succ_cons, List.filter_cons, if_neg (by simp [h0]; omega)]
   exact filter_suffix r.tail
  ·have e : posP (a :: L) w = 0 := Nat.eq_zero_of_not_pos fun hpos => hc (t2 0 hpos)
   rw [e, List.drop_zero]
   apply List.filter_eq_self.2
   intro x hx
   obtain ⟨i, hi, rfl⟩ := List.getElem_of_mem hx
   have := r.lead hi
   rw [List.getD_eq_getElem?_getD, List.getElem?_eq_getElem hi] at this
   simp only [Option.getD_some] at this
   have := t3 i hi (by omega)
   simp only [decide_eq_true_eq]
   omega
theorem kerP_rr {p : Int} {w : Nat} (hP : isP p = true) {rows : List (List Int)} (h : ∀ r ∈ rows, r.length = w ∧ Bnd p r) : ∃ l, Rr p rows.length (kerP p w rows) l := by
 obtain ⟨⟨l, r⟩, _⟩ := ech_red (w := w + rows.length) hP (longP_tbl (isP_two hP).1 h)
 obtain ⟨t1, t2, t3⟩ := posP_ok (at_ := w) r
 rw [kerP, filter_suffix r]
 generalize ech p (longP rows) = E at *
 generalize posP E w = q at *
 have hl : ((E.drop q).map fun r => r.drop w).length = E.length - q := by simp
 have gt : ∀ i, i < E.length - q → ((E.drop q).map fun r => r.drop w).getD i default = (E.getD (q + i) default).drop w := fun i hi => by
  rw [List.getD_eq_getElem?_getD, List.getElem?_map, List.getElem?_drop, List.getD_eq_getElem?_getD, List.getElem?_eq_getElem (by omega)]; rfl
 have gg : ∀ i j, i < E.length - q → g2 ((E.drop q).map fun r => r.drop w) i j = g2 E (q + i) (w + j) := fun i j hi => by
  rw [g2, gt i hi, List.getD_eq_getElem?_getD, List.getElem?_drop, g2, List.getD_eq_getElem?_getD (l := E.getD (q + i) default)]
 refine ⟨fun i => l (q + i) - w, fun i hi => ?_, fun i hi => ?_, fun i hi => ?_, fun i hi => ?_, fun i j hi hj => ?_, fun i k hik hk => ?_, fun i k hi hk hne => ?_⟩
 ·rw [hl] at hi; rw [gt i hi, List.length_drop, r.len (q + i) (by omega)]; omega
 ·rw [hl] at hi; rw [gt i hi]; exact fun x hx => r.bnd (q + i) (by omega) x (List.mem_of_mem_drop hx)
 ·rw [hl] at hi
  have := r.lt (q + i) (by omega)
  have := t3 (q + i) (by omega) (by omega)
  omega
 ·rw [hl] at hi
  have := t3 (q + i) (by omega) (by omega)
  rw [gg i _ hi, show w + (l (q + i) - w) = l (q + i) by omega]; exact r.one (q + i) (by omega)
 ·rw [hl] at hi
  rw [gg i j hi]; exact r.zb (q + i) _ (by omega) (by omega)
 ·rw [hl] at hk
  have := t3 (q + i) (by omega) (by omega)
  have := r.inc (q + i) (q + k) (by omega) (by omega)
  omega
 ·rw [hl] at hi hk
  have := t3 (q + i) (by omega) (by omega)
  rw [gg k _ hk, show w + (l (q + i) - w) = l (q + i) by omega]; exact r.cl (q + i) (q + k) (by omega) (by omega) (by omega)
end Go.Proofs.Ytbplnadngahgaaa

namespace Go.Proofs.Ytbplnadngahgaaa
open Go
abbrev O1i : Heap → Value → List Int → List Nat → Prop := OS 3 OI
theorem add_add (a : Addr) (i j : Nat) : (a.add i).add j = a.add (i + j) := by
 unfold Addr.add
 by_cases hi : i = 0
 ·subst hi; simp
 ·by_cases hj : j = 0
  ·subst hj; simp [hi]
  ·rw [if_neg hj, if_neg hi, if_neg (by omega)]; simp [Nat.add_assoc]
/-- What is left of a slice behind some elements. -/
theorem RdS.dropV {α : Type} {E : Heap → Value → α → Prop} {h : Heap} {v : Value} {xs : List α} {t e : TypeId} {k : IntKind} (hv : RdS E h v xs) (ht : SlT TT t e) {lo : Int} (h0 : 0 ≤ lo) (h1 : lo ≤ xs.length) : ∃ v', sliceV TT t v (some (.int k lo)) none none = some v' ∧ RdS E h v' (xs.drop lo.toNat) := by
 obtain ⟨A, c, rfl, hA, hc, hm, hr⟩ := hv
 obtain ⟨i, j, e1, e2, e3, e4⟩ := ht.out
 refine ⟨.slice (if c = lo.toNat then A else A.map (·.add lo.toNat)) (xs.length - lo.toNat) (c - lo.toNat), ?_, _, _, by rw [List.length_drop], ?_, by rw [List.length_drop]; omega, by omega, fun q hq => ?_⟩
 ·simp only [sliceV, e1, Option.bind_some, e2, e3, bndsV, bndV, e4, Nat.mul_one]
  rw [if_pos ⟨h0, h1⟩]; rfl
 ·rcases hA with hA | hA
  ·left
   obtain ⟨a, rfl⟩ := Option.isSome_iff_exists.1 hA
   split <;> rfl
  ·right; rw [List.length_drop]; omega
 ·rw [List.length_drop] at hq
  have hs : A.isSome = true := hA.resolve_right (by omega)
  obtain ⟨a, rfl⟩ := Option.isSome_iff_exists.1 hs
  obtain ⟨u, hu, hE⟩ := hr (lo.toNat + q) (by omega)
  refine ⟨u, ?_, by rw [List.getElem_drop]; exact hE⟩
  rw [if_neg (by omega)]
  simp only [sA, Option.map_some] at hu ⊢
  rw [add_add]; exact hu
theorem flatten_take {β : Type} (l : List (List β)) (n : Nat) : (l.take n).flatten.Sublist l.flatten := by
 have h : l.flatten = (l.take n).flatten ++ (l.drop n).flatten := by rw [← List.flatten_append, List.take_append_drop]
 rw [h]; exact List.sublist_append_left _ _
section
variable {α : Type} {e : TypeId} {E : Heap → Value → α → List Nat → Prop} {h : Heap} {v : Value} {xs : List α} {fp : List Nat}
theorem OS.takeV (ho : OS e E h v xs fp) (hn : fp.Nodup) {t : TypeId} {k : IntKind} (ht : SlT TT t e) {hi : Int} (h0 : 0 ≤ hi) (h1 : hi ≤ xs.length) : ∃ v' fp', sliceV TT t v none (some (.int k hi)) none = some v' ∧ OS e E h v' (xs.take hi.toNat) fp' ∧ fp'.Nodup ∧ ∀ b ∈ fp', b ∈ fp := by
 obtain ⟨i, j, e1, e2, e3, e4⟩ := ht.out
 rcases ho with ⟨rfl, rfl, rfl⟩ | ⟨b, c, cur, fps, rfl, r⟩
 ·have : hi = 0 := by simp at h1; omega
  subst this
  refine ⟨.slice none 0 0, [], ?_, OS.nil, List.nodup_nil, fun b hb => hb⟩
  simp only [sliceV, e1, Option.bind_some, e2, e3, bndsV, bndV]
  rfl
 ·have hle := r.le
  have hl : (xs.take hi.toNat).length = hi.toNat := by simp; omega
  obtain ⟨hnb, hnf⟩ := List.nodup_cons.1 hn
  refine ⟨.slice (some ⟨b, 0, none⟩) hi.toNat c, b :: (fps.take hi.toNat).flatten, ?_, .inr ⟨b, c, cur, fps.take hi.toNat, rfl, ⟨by rw [hl], r.box, r.size, r.max, by rw [hl]; omega, by rw [hl, List.length_take, r.len]; omega, fun q hq => ?_⟩⟩, ?_, ?_⟩
  ·rw [r.val]
   simp only [sliceV, e1, Option.bind_some, e2, e3, bndsV, bndV]
   rw [if_pos ⟨h0, by omega⟩]
   simp [addr_zero]
  ·rw [hl] at hq
   obtain ⟨u, f, k1, k2, k3⟩ := r.el q (by omega)
   exact ⟨u, f, k1, by rw [List.getElem?_take, if_pos hq]; exact k2, by rw [List.getElem_take]; exact k3⟩
  ·have hs : (fps.take hi.toNat).flatten.Sublist fps.flatten := flatten_take _ _
   exact List.nodup_cons.2 ⟨fun hm => hnb (hs.subset hm), hnf.sublist hs⟩
  ·intro q hq
   rcases List.mem_cons.1 hq with rfl | hq
   ·simp
   ·exact List.mem_cons_of_mem _ ((flatten_take _ _).subset hq)
theorem Row.rowV {b c : Nat} {cur : Array Value} {fps : List (List Nat)} (r : Row e E h v xs b c cur fps) {j : Nat} {u : Value} (hu : cur[j]? = some u) : Go.Proofs.Ytbplnadngahgaaa.rowV h v j = u := by
 unfold Go.Proofs.Ytbplnadngahgaaa.rowV
 rw [r.val]
 simp only [sA]
 rw [addr_add, r.box.cell, Nat.zero_add, hu]; rfl
/-- Two elements: the one changed in place, the other stays. -/
theorem OS.two [Own E] [Inhabited α] (ho : OS e E h v xs fp) (hn : fp.Nodup) {i d : Nat} (hi : i < xs.length) (hd : d < xs.length) (hne : i ≠ d) : ∃ f, E h (rowV h v i) (xs.getD i default) f ∧ f.Nodup ∧ (∀ b ∈ f, b ∈ fp) ∧ (∀ h' x', Chg f h h' → E h' (rowV h v i) x' f → OS e E h' v (xs.set i x') fp) ∧ ∀ h', Chg f h h' → ∃ g, E h' (rowV h v d) (xs.getD d default) g := by
 have hel := OS.elem ho hn i hi
 rcases ho with ⟨_, rfl, _⟩ | ⟨b, c, cur, fps, rfl, r⟩
 ·simp at hi
 ·obtain ⟨u, f, h1, h2, h4⟩ := r.el i hi
  obtain ⟨u', f', k1, k2, k4⟩ := r.el d hd
  obtain ⟨hb, hfl⟩ := List.nodup_cons.1 hn
  have hfn := List.pairwise_flatten.1 hfl
  have hfm : f ∈ fps := List.mem_of_getElem? h2
  have hxi : xs.getD i default = xs[i] := by rw [List.getD_eq_getElem?_getD, List.getElem?_eq_getElem hi]; rfl
  have hxd : xs.getD d default = xs[d] := by rw [List.getD_eq_getElem?_getD, List.getElem?_eq_getElem hd]; rfl
  have hjl : i < fps.length := (List.getElem?_eq_some_iff.1 h2).1
  have hil : d < fps.length := (List.getElem?_eq_some_iff.1 k2).1
  have e1 : fps[i] = f := (List.getElem?_eq_some_iff.1 h2).2
  have e2 : fps[d] = f' := (List.getElem?_eq_some_iff.1 k2).2
  have hp := List.pairwise_iff_getElem.1 hfn.2
  have hdis : ∀ q ∈ f', q ∉ f := fun q hq hqf => by
   rcases Nat.lt_or_gt_of_ne hne with hlt | hgt
   ·have := hp i d hjl hil hlt
    rw [e1, e2] at this
    exact this _ hqf _ hq rfl
   ·have := hp d i hil hjl hgt
    rw [e1, e2] at this
    exact this _ hq _ hqf rfl
  have hsub : ∀ q ∈ f, q ∈ b :: fps.flatten := fun q hq => List.mem_cons_of_mem _ (List.mem_flatten.2 ⟨f, hfm, hq⟩)
  refine ⟨f, by rw [r.rowV h1, hxi]; exact h4, hfn.1 f hfm, hsub, fun h' x' hc hE => ?_, fun h' hc => ⟨f', ?_⟩⟩
  ·rw [r.rowV h1] at hE
   refine .inr ⟨b, c, cur, fps, rfl, ⟨by rw [List.length_set]; exact r.val, ?_, r.size, r.max, by rw [List.length_set]; exact r.le, by rw [List.length_set]; exact r.len, fun q hq => ?_⟩⟩
   ·have := hc.block b r.box.lt (fun hq => hb (List.mem_flatten.2 ⟨f, hfm, hq⟩))
    unfold BoxAt
    rw [this]; exact r.box
   ·rw [List.length_set] at hq
    by_cases hij : i = q
    ·subst hij
     exact ⟨u, f, h1, h2, by simpa using hE⟩
    ·obtain ⟨u2, f2, l1, l2, l4⟩ := r.el q hq
     refine ⟨u2, f2, l1, l2, ?_⟩
     rw [List.getElem_set_ne hij]
     refine Own.loc (fun z hz => hc.block z (Own.lt l4 z hz) fun hzf => ?_) l4
     have hql : q < fps.length := (List.getElem?_eq_some_iff.1 l2).1
     have e3 : fps[q] = f2 := (List.getElem?_eq_some_iff.1 l2).2
     rcases Nat.lt_or_gt_of_ne hij with hlt | hgt
     ·have := hp i q hjl hql hlt
      rw [e1, e3] at this
      exact this _ hzf _ hz rfl
     ·have := hp q i hql hjl hgt
      rw [e1, e3] at this
      exact this _ hz _ hzf rfl
  ·rw [r.rowV k1, hxd]
   exact Own.loc (fun z hz => hc.block z (Own.lt k4 z hz) (hdis z hz)) k4
/-- Two elements change their places. -/
theorem OS.swap [Own E] [Inhabited α] (ho : OS e E h v xs fp) (hn : fp.Nodup) {d a : Nat} (hd : d < xs.length) (ha : a < xs.length) :
  ((hcell h ((sA v).add d)).isSome = true ∧ hfrozen h ((sA v).add d) = false) ∧ ((hcell (hset h ((sA v).add d) (rowV h v a)) ((sA v).add a)).isSome = true ∧ hfrozen (hset h ((sA v).add d) (rowV h v a)) ((sA v).add a) = false) ∧ ((rowV h v a).oneCell' = true ∧ (rowV h v a).cells = #[rowV h v a]) ∧ ((rowV h v d).oneCell' = true ∧ (rowV h v d).cells = #[rowV h v d]) ∧
  ∃ fp', OS e E (hset (hset h ((sA v).add d) (rowV h v a)) ((sA v).add a) (rowV h v d)) v (swapP xs d a) fp' ∧ fp'.Nodup ∧ (∀ b ∈ fp', b ∈ fp) ∧ Chg fp h (hset (hset h ((sA v).add d) (rowV h v a)) ((sA v).add a) (rowV h v d)) := by
 rcases ho with ⟨_, rfl, _⟩ | ⟨b, c, cur, fps, rfl, r⟩
 ·simp at hd
 ·obtain ⟨ud, fd, d1, d2, d4⟩ := r.el d hd
  obtain ⟨ua, fa, a1, a2, a4⟩ := r.el a ha
  have hdc : d < cur.size := by have := r.size; have := r.le; omega
  have hac : a < cur.size := by have := r.size; have := r.le; omega
  have hdf : d < fps.length := by rw [r.len]; exact hd
  have haf : a < fps.length := by rw [r.len]; exact ha
  have had : (sA v).add d = ⟨b, d, none⟩ := by rw [r.val]; simp only [sA]; rw [addr_add, Nat.zero_add]
  have haa : (sA v).add a = ⟨b, a, none⟩ := by rw [r.val]; simp only [sA]; rw [addr_add, Nat.zero_add]
  rw [r.rowV d1, r.rowV a1, had, haa]
  have b1 := BoxAt.set (o := d) (v := ua) r.box
  have b2 := BoxAt.set (o := a) (v := ud) b1
  obtain ⟨hnb, hnf⟩ := List.nodup_cons.1 hn
  refine ⟨⟨by rw [r.box.cell, Array.getElem?_eq_getElem hdc]; rfl, r.box.frozen _⟩, ⟨by rw [b1.cell, Array.getElem?_eq_getElem (by rw [Array.size_setIfInBounds]; exact hac)]; rfl, b1.frozen _⟩, Own.one a4, Own.one d4, b :: (swapP fps d a).flatten, .inr ⟨b, c, _, swapP fps d a, rfl, ⟨by rw [swapP_len]; exact r.val, b2, by rw [Array.size_setIfInBounds, Array.size_setIfInBounds]; exact r.size, r.max, by rw [swapP_len]; exact r.le, by rw [swapP_len, swapP_len]; exact r.len, fun i hi => ?_⟩⟩, ?_, ?_, ?_⟩
  ·have hi' : i < xs.length := by rw [swapP_len] at hi; exact hi
   have hif : i < fps.length := by rw [r.len]; exact hi'
   have hic : i < cur.size := by have := r.size; have := r.le; omega
   have loc : ∀ {u : Value} {x : α} {f : List Nat}, f ∈ fps → E h u x f → E (hset (hset h ⟨b, d, none⟩ ua) ⟨b, a, none⟩ ud) u x f := fun hf hE => Own.loc (fun q hq => by
    have hqb : q ≠ b := fun e => hnb (List.mem_flatten.2 ⟨_, hf, e ▸ hq⟩)
    rw [hset_other hqb, hset_other hqb]) hE
   have gx : (swapP xs d a)[i] = if a = i then xs[d] else if d = i then xs[a] else xs[i] := by
    have := swapP_get hd ha i
    rw [List.getD_eq_getElem?_getD, List.getElem?_eq_getElem hi, List.getD_eq_getElem?_getD, List.getElem?_eq_getElem hd, List.getD_eq_getElem?_getD, List.getElem?_eq_getElem ha, List.getD_eq_getElem?_getD, List.getElem?_eq_getElem hi'] at this
    exact this
   have hswl : i < (swapP fps d a).length := by rw [swapP_len]; exact hif
   have gf : (swapP fps d a)[i]? = some (if a = i then fd else if d = i then fa else fps[i]) := by
    have := swapP_get hdf haf i
    rw [List.getD_eq_getElem?_getD, List.getElem?_eq_getElem hswl, List.getD_eq_getElem?_getD, d2, List.getD_eq_getElem?_getD, a2, List.getD_eq_getElem?_getD, List.getElem?_eq_getElem hif] at this
    rw [List.getElem?_eq_getElem hswl]
    exact congrArg some this
   rw [gx, gf]
   by_cases h1 : a = i
   ·subst h1
    refine ⟨ud, fd, by rw [Array.getElem?_setIfInBounds_self_of_lt (by rw [Array.size_setIfInBounds]; exact hac)], by rw [if_pos rfl], ?_⟩
    rw [if_pos rfl]; exact loc (List.mem_of_getElem? d2) d4
   ·by_cases h2 : d = i
    ·subst h2
     refine ⟨ua, fa, by rw [Array.getElem?_setIfInBounds_ne h1, Array.getElem?_setIfInBounds_self_of_lt hdc], by rw [if_neg h1, if_pos rfl], ?_⟩
     rw [if_neg h1, if_pos rfl]; exact loc (List.mem_of_getElem? a2) a4
    ·obtain ⟨ui, fi, i1, i2, i4⟩ := r.el i hi'
     refine ⟨ui, fi, by rw [Array.getElem?_setIfInBounds_ne h1, Array.getElem?_setIfInBounds_ne h2]; exact i1, ?_, ?_⟩
     ·rw [if_neg h1, if_neg h2, ← i2, List.getElem?_eq_getElem hif]
     ·rw [if_neg h1, if_neg h2]; exact loc (List.mem_of_getElem? i2) i4
  ·have hp := List.pairwise_flatten.1 hnf
   have hswap : ∀ i, i < fps.length → ∃ k, k < fps.length ∧ (swapP fps d a)[i]? = fps[k]? ∧ k = (if a = i then d else if d = i then a else i) := fun i hi => by
    have hswl : i < (swapP fps d a).length := by rw [swapP_len]; exact hi
    have := swapP_get hdf haf i
    rw [List.getD_eq_getElem?_getD, List.getElem?_eq_getElem hswl] at this
    refine ⟨if a = i then d else if d = i then a else i, by split; exact hdf; split; exact haf; exact hi, ?_, rfl⟩
    rw [List.getElem?_eq_getElem hswl]
    by_cases h1 : a = i
    ·rw [if_pos h1] at this ⊢
     rw [List.getD_eq_getElem?_getD, List.getElem?_eq_getElem hdf] at this
     rw [List.getElem?_eq_getElem hdf]; exact congrArg some this
    ·rw [if_neg h1] at this ⊢
     by_cases h2 : d = i
     ·rw [if_pos h2] at this ⊢
      rw [List.getD_eq_getElem?_getD, List.getElem?_eq_getElem haf] at this
      rw [List.getElem?_eq_getElem haf]; exact congrArg some this
     ·rw [if_neg h2] at this ⊢
      rw [List.getD_eq_getElem?_getD, List.getElem?_eq_getElem hi] at this
      rw [List.getElem?_eq_getElem hi]; exact congrArg some this
   have hmem : ∀ f, f ∈ swapP fps d a → f ∈ fps := fun f hf => by
    obtain ⟨i, hi, rfl⟩ := List.getElem_of_mem hf
    have hi' : i < fps.length := by rw [swapP_len] at hi; exact hi
    obtain ⟨k, hk, e, _⟩ := hswap i hi'
    rw [List.getElem?_eq_getElem hi, List.getElem?_eq_getElem hk] at e
    injection e with e
    rw [e]; exact List.getElem_mem hk
   refine List.nodup_cons.2 ⟨fun hm => ?_, List.pairwise_flatten.2 ⟨fun f hf => hp.1 f (hmem f hf), ?_⟩⟩
   ·obtain ⟨f, hf, hbf⟩ := List.mem_flatten.1 hm
    exact hnb (List.mem_flatten.2 ⟨f, hmem f hf, hbf⟩)
   ·rw [List.pairwise_iff_getElem]
    intro i j hi hj hij x hx y hy
    have hi' : i < fps.length := by rw [swapP_len] at hi; exact hi
    have hj' : j < fps.length := by rw [swapP_len] at hj; exact hj
    obtain ⟨k, hk, e1, k1⟩ := hswap i hi'
    obtain ⟨m, hm, e2, m1⟩ := hswap j hj'
    rw [List.getElem?_eq_getElem hi, List.getElem?_eq_getElem hk] at e1
    rw [List.getElem?_eq_getElem hj, List.getElem?_eq_getElem hm] at e2
    injection e1 with e1
    injection e2 with e2
    rw [e1] at hx
    rw [e2] at hy
    have hkm : k ≠ m := by
     rw [k1, m1]
     split <;> split <;> first | omega | (split <;> first | omega | (split <;> omega))
    have hpp := List.pairwise_iff_getElem.1 hp.2
    rcases Nat.lt_or_gt_of_ne hkm with h' | h'
    ·exact hpp k m hk hm h' _ hx _ hy
    ·exact (hpp m k hm hk h' _ hy _ hx).symm
  ·intro q hq
   rcases List.mem_cons.1 hq with rfl | hq
   ·simp
   ·obtain ⟨f, hf, hbf⟩ := List.mem_flatten.1 hq
    refine List.mem_cons_of_mem _ (List.mem_flatten.2 ⟨f, ?_, hbf⟩)
    rcases List.mem_or_eq_of_mem_set hf with h1 | h1
    ·rcases List.mem_or_eq_of_mem_set h1 with h2 | h2
     ·exact h2
     ·rw [h2, List.getD_eq_getElem?_getD, List.getElem?_eq_getElem haf]; exact List.getElem_mem haf
    ·rw [h1, List.getD_eq_getElem?_getD, List.getElem?_eq_getElem hdf]; exact List.getElem_mem hdf
  ·exact ((hset_chg h b d ua).trans (hset_chg _ b a ud)).mono (by simp)
end
section
variable {P : Program} {T : Tab} {n : Nat} {K : Env → Heap → Prop} {env : Env} {h : Heap} {d : Option Tmp} {ty : TypeId} {p : String} {a : Array Edge} {g : Option (Nat × Bool)} {t e : TypeId}
theorem op_raw {x y : Operand} {ad : Addr} {u : Value} (hst : ∀ h a v, storeV T h t a v = if v.cells.size = 1 then hputs a h 0 v.cells.toList else none) (h1 : (hcell h ad).isSome = true ∧ hfrozen h ad = false) (h2 : u.oneCell' = true ∧ u.cells = #[u]) (hx : ev env x = .pointer (some ad)) (hy : ev env y = u)
  (hk : outv n ⟨d, .store t x y, ty, p, a, g⟩ K env (hset h ad u) undef) : opP P T n ⟨d, .store t x y, ty, p, a, g⟩ K env h := by
 rw [opP_store, hx, hy, asAd_ptr, Bd_some, hst, h2.2]
 rw [if_pos (show #[u].size = 1 from rfl)]
 have ha : ad.add 0 = ad := by unfold Addr.add; simp
 have : hputs ad h 0 #[u].toList = some (hset h ad u) := by
  show hputs ad h 0 [u] = _
  simp only [hputs]
  rw [ha, if_pos ⟨h1.1, h1.2, h2.1⟩]
 rw [this, Bd_some]
 exact hk
end
theorem getD_mapL {R : List (List Int)} {k : Nat} (h : k < R.length) : (R.map leadP).getD k 0 = leadP (R.getD k default) := by
 rw [List.getD_eq_getElem?_getD, List.getElem?_map, List.getElem?_eq_getElem h, List.getD_eq_getElem?_getD, List.getElem?_eq_getElem h]; rfl
theorem nest_set {S : List (List Int)} {d : Nat} {r : List Int} {k : Nat} {v : Int} (hd : d < S.length) : (S.set d r).set d (((S.set d r).getD d default).set k v) = S.set d (r.set k v) := by
 rw [getD_set hd, if_pos rfl, List.set_set]
theorem mul42B {k y p : Int} (hk : 0 ≤ k ∧ k ≤ 7) (hy : 0 ≤ y ∧ y < p) (hp : p ≤ 7) : 0 ≤ k * y ∧ k * y ≤ 42 := by
 have h1 : k * y ≤ 7 * y := Int.mul_le_mul_of_nonneg_right hk.2 hy.1
 have h2 := Int.mul_nonneg hk.1 hy.1
 omega
theorem tmod_e {x p : Int} (h : 0 ≤ x) : x.tmod p = x % p := Int.tmod_eq_emod_of_nonneg h
theorem clr_val {p a k y : Int} (hk : 0 ≤ k ∧ k < p) (ha : 0 ≤ a) (hy : 0 ≤ y) : (a + (p - k) * y).tmod p = (a - k * y) % p := by
 have : 0 ≤ (p - k) * y := Int.mul_nonneg (by omega) hy
 rw [tmod_e (by omega), show a + (p - k) * y = a - k * y + p * y by rw [Int.sub_mul]; omega, Int.add_mul_emod_self_left]

set_option maxRecDepth 100000 in
theorem iInv_ok (p : Int) (x : Int) (h : Heap)  (hP : isP p = true) (hx : 0 < x ∧ x < p) : CallA Try.prog 146 #[.int .i64 p, .int .i64 x] h fun v' h' => v' = .int .i64 (invP p x) ∧ Ext h h' := by
 have hi := invP_ok hP hx.1 hx.2
 have hp := isP_two hP
 refine callA_intro TTok (args := [_, _]) Try.func146 (by kernel_rfl) rfl 15 rfl (by simp) [.tmp 4] rfl ?_
 simp only [idxs, Nat.reduceAdd]
 refine den_seq ?_
 refine den_region TTok ?_
 intro K hK
 simp -implicitDefEqProofs (disch := first | decide | assumption | omega) only [go_sem, wrap_id]
 refine hK _ _ ?_
 clear hK K
 refine den_seq ?_
 refine den_region TTok ?_
 intro K hK
 simp -implicitDefEqProofs (disch := first | decide | assumption | omega) only [go_sem, wrap_id]
 refine hK _ _ ?_
 clear hK K
 refine den_seq ?_
 refine den_block ?_
 refine den_sel [5, 0, 1] ?_
 intro env_1
 simp only [go_sem]
 refine den_loopP (σ := Int) (fun st_ => [(5, .int .i64 st_)]) (fun st_ => (1 ≤ st_ ∧ st_ ≤ invP p x)) (fun st_ => (invP p x - st_).toNat) 1 ?_ ?_
 ·exact ⟨rfl, by omega, by omega⟩
 ·rintro k ee2 hk
  simp only [List.cons_append, List.nil_append]
  have hkx := mul36 (x := k) (y := x) (p := p) ⟨by omega, by omega⟩ ⟨by omega, hx.2⟩ hp.2
  have hte := tmod_e (p := p) hkx.1
  have hlt : (k * x).tmod p ≠ 1 → k < invP p x := fun hne => by
   rcases Int.lt_or_eq_of_le hk.2 with h1 | h1
   ·exact h1
   ·rw [hte, h1] at hne; exact absurd hi.2.1 hne
  refine den_seq ?_
  refine den_seq ?_
  refine den_region TTok ?_
  intro K hK
  simp -implicitDefEqProofs (disch := first | decide | assumption | omega) only [go_sem, wrap_id]
  refine hK _ _ ?_
  clear hK K
  refine den_cond rfl (fun c0 => ?_) (fun c0 => ?_)
  ·try simp only [decide_eq_true_eq, decide_eq_false_iff_not, beq_iff_eq, beq_eq_false_iff_ne, bne_iff_ne, ne_eq, Bool.not_eq_true', Bool.not_eq_false', Bool.and_eq_true, Bool.or_eq_true, bne_eq_false_iff_eq] at c0
   refine den_skip ?_
   refine den_block ?_
   refine den_region TTok ?_
   intro K hK
   simp -implicitDefEqProofs (disch := first | decide | assumption | omega) only [go_sem, wrap_id]
   refine hK _ _ ?_
   clear hK K
   refine den_blk ?_
   refine den_stop ?_
   have hl2 := hlt c0
   exact ⟨k + 1, by simp [HasL, puts_at], ⟨rfl, by first | omega | (dsimp only; omega)⟩, by first | omega | (dsimp only; omega)⟩
  ·try simp only [decide_eq_true_eq, decide_eq_false_iff_not, beq_iff_eq, beq_eq_false_iff_ne, bne_iff_ne, ne_eq, Bool.not_eq_true', Bool.not_eq_false', Bool.and_eq_true, Bool.or_eq_true, bne_eq_false_iff_eq] at c0
   refine den_exit ?_
   refine denX_code ?_
   refine denX_stop ?_
   refine denX_hit ?_
   refine den_seq ?_
   refine den_region TTok ?_
   intro K hK
   simp -implicitDefEqProofs (disch := first | decide | assumption | omega) only [go_sem, wrap_id]
   refine hK _ _ ?_
   clear hK K
   refine den_ret ?_
   simp (disch := decide) only [resP_1, puts_same, puts_ne]
   have e : invP p x = k := by
    rcases Int.lt_or_eq_of_le hk.2 with h1 | h1
    ·rw [hte] at c0; exact absurd c0 (hi.2.2 k hk.1 h1)
    ·exact h1.symm
   exact ⟨vint e.symm, (Ext.refl _)⟩

set_option maxRecDepth 100000 in
theorem sInv_ok (p : Int) (x : Int) (h : Heap)  (hP : isP p = true) (hx : 0 < x ∧ x < p) : CallA Try.prog 127 #[.int .i64 p, .int .i64 x] h fun v' h' => v' = .int .i64 (invP p x) ∧ Ext h h' := by
 have hi := invP_ok hP hx.1 hx.2
 have hp := isP_two hP
 have hxm : x % p = x := Int.emod_eq_of_lt (by omega) hx.2
 refine callA_intro TTok (args := [_, _]) Try.func127 (by kernel_rfl) rfl 20 rfl (by simp) [.tmp 4] rfl ?_
 simp only [idxs, Nat.reduceAdd]
 refine den_seq ?_
 refine den_region TTok ?_
 intro K hK
 simp -implicitDefEqProofs (disch := first | decide | assumption | omega) only [go_sem, wrap_id]
 refine hK _ _ ?_
 clear hK K
 refine den_seq ?_
 refine den_seq ?_
 refine den_region TTok ?_
 intro K hK
 simp -implicitDefEqProofs (disch := first | decide | assumption | omega) only [go_sem, wrap_id]
 refine hK _ _ ?_
 clear hK K
 refine den_block ?_
 refine den_sel [5, 0, 1] ?_
 intro env_1
 simp only [go_sem]
 refine den_loopS (σ := Int) (fun st_ => [(5, .int .i64 st_)]) (fun st_ H => (1 ≤ st_ ∧ st_ ≤ invP p x) ∧ (Ext h H)) (fun st_ => (invP p x - st_).toNat) 1 ?_ ?_
 ·exact ⟨⟨by omega, by omega⟩, Ext.refl _⟩
 ·rintro k h4 ee3 ⟨hk, cL2⟩
  have := Ext.size cL2
  have eB := cL2
  simp only [List.cons_append, List.nil_append]
  have hkx := mul36 (x := k) (y := x % p) (p := p) ⟨by omega, by omega⟩ ⟨by omega, by omega⟩ hp.2
  have hte := tmod_e (p := p) hkx.1
  rw [hxm] at hte hkx
  have hlt : (k * x).tmod p ≠ 1 → k < invP p x := fun hne => by
   rcases Int.lt_or_eq_of_le hk.2 with h1 | h1
   ·exact h1
   ·rw [hte, h1] at hne; exact absurd hi.2.1 hne
  refine den_seq ?_
  refine den_seq ?_
  refine den_region TTok ?_
  intro K hK
  simp -implicitDefEqProofs (disch := first | decide | assumption | omega) only [go_sem, wrap_id]
  refine hK _ _ ?_
  clear hK K
  refine den_cond rfl (fun c0 => ?_) (fun c0 => ?_)
  ·try simp only [decide_eq_true_eq, decide_eq_false_iff_not, beq_iff_eq, beq_eq_false_iff_ne, bne_iff_ne, ne_eq, Bool.not_eq_true', Bool.not_eq_false', Bool.and_eq_true, Bool.or_eq_true, bne_eq_false_iff_eq] at c0
   refine den_skip ?_
   refine den_seq ?_
   refine den_block ?_
   refine den_seq ?_
   rw [← hxm] at hkx
   refine den_region TTok ?_
   intro K hK
   simp -implicitDefEqProofs (disch := first | decide | assumption | omega) only [go_sem, wrap_id]
   try simp -implicitDefEqProofs (disch := first | decide | assumption | omega) only [go_sem, wrap_id]
   refine CallA.mono (sMod_ok  p x _  (by omega) (by omega)) ?_
   intro v_ h4_3
   rintro ⟨rfl, e4_3⟩
   have := Ext.size e4_3
   replace eB := Ext.trans eB e4_3
   replace cL2 := Ext.trans cL2 e4_3
   try simp -implicitDefEqProofs (disch := first | decide | assumption | omega) only [go_sem, wrap_id]
   refine hK _ _ ?_
   clear hK K
   refine den_cond rfl (fun c1 => ?_) (fun c1 => ?_)
   ·try simp only [decide_eq_true_eq, decide_eq_false_iff_not, beq_iff_eq, beq_eq_false_iff_ne, bne_iff_ne, ne_eq, Bool.not_eq_true', Bool.not_eq_false', Bool.and_eq_true, Bool.or_eq_true, bne_eq_false_iff_eq] at c1
    refine den_seq ?_
    refine den_region TTok ?_
    intro K hK
    simp -implicitDefEqProofs (disch := first | decide | assumption | omega) only [go_sem, wrap_id]
    refine hK _ _ ?_
    clear hK K
    refine den_ret ?_
    simp (disch := decide) only [resP_1, puts_same, puts_ne]
    have e : invP p x = k := by
     rcases Int.lt_or_eq_of_le hk.2 with h1 | h1
     ·have h2 := c1
      rw [hxm, hte] at h2; exact absurd h2 (hi.2.2 k hk.1 h1)
     ·exact h1.symm
    exact ⟨vint e.symm, eB⟩
   ·try simp only [decide_eq_true_eq, decide_eq_false_iff_not, beq_iff_eq, beq_eq_false_iff_ne, bne_iff_ne, ne_eq, Bool.not_eq_true', Bool.not_eq_false', Bool.and_eq_true, Bool.or_eq_true, bne_eq_false_iff_eq] at c1
    refine den_skip ?_
    refine den_blk ?_
    refine den_region TTok ?_
    intro K hK
    simp -implicitDefEqProofs (disch := first | decide | assumption | omega) only [go_sem, wrap_id]
    refine hK _ _ ?_
    clear hK K
    refine den_stop ?_
    have hl2 := hlt (by have h1 := c1; rw [hxm] at h1; exact h1)
    exact ⟨k + 1, by simp [HasL, puts_at], ⟨by first | omega | (dsimp only; omega), cL2⟩, by first | omega | (dsimp only; omega)⟩
  ·try simp only [decide_eq_true_eq, decide_eq_false_iff_not, beq_iff_eq, beq_eq_false_iff_ne, bne_iff_ne, ne_eq, Bool.not_eq_true', Bool.not_eq_false', Bool.and_eq_true, Bool.or_eq_true, bne_eq_false_iff_eq] at c0
   refine den_exit ?_
   refine denX_code ?_
   refine denX_stop ?_
   refine denX_hit ?_
   refine den_seq ?_
   refine den_region TTok ?_
   intro K hK
   simp -implicitDefEqProofs (disch := first | decide | assumption | omega) only [go_sem, wrap_id]
   refine hK _ _ ?_
   clear hK K
   refine den_ret ?_
   simp (disch := decide) only [resP_1, puts_same, puts_ne]
   exact absurd hk.2 (by omega)

set_option maxRecDepth 100000 in
theorem clear_ok (p k : Int) (v u : Value) (a b : List Int) (f : List Nat) (h : Heap) (ho : O1 h v a f) (hn : f.Nodup) (rb : R1 h u b) (hk : ∀ h', Chg f h h' → R1 h' u b) (hp : 0 < p ∧ p ≤ 7) (hl : b.length = a.length) (ha : Bnd p a) (hb : Bnd p b) (hx : 0 ≤ k ∧ k < p) : CallA Try.prog 110 #[v, u, .int .i64 p, .int .i64 k] h fun v' h' => v' = .tuple #[] ∧ O1 h' v (lessRow p k a b) f ∧ Chg f h h' := by
 have hfr : Fresh 0 f := ⟨hn, fun b _ => Nat.zero_le b⟩
 have hle := OS.len_le ho
 have hleb := RdS.le rb
 refine callA_intro TTok (args := [_, _, _, _]) Try.func110 (by kernel_rfl) rfl 33 rfl (by simp) [] rfl ?_
 simp only [idxs, Nat.reduceAdd]
 have hlho := OS.lt ho
 have cA : Chg f h h := Chg.refl _ _
 refine den_seq ?_
 refine den_region TTok ?_
 intro K hK
 simp -implicitDefEqProofs (disch := first | decide | assumption | omega) only [go_sem, RdS.len (OS.rd ho) sl22, RdS.idx (OS.rd ho) sl22, R1.intN (OS.rd ho), RdS.cells (OS.rd ho), wrap_id, RdS.len rb sl22]
 refine hK _ _ ?_
 clear hK K
 refine den_block ?_
 refine den_sel [12, 0, 2, 3, 10, 11] ?_
 intro env_1
 simp only [go_sem]
 refine den_loopS (σ := Nat) (fun st_ => [(12, .int .i64 (st_ : Int))]) (fun st_ H => (st_ ≤ b.length) ∧ (O1 H v (mix (lessRow p k a b) a st_) f) ∧ (Chg f h H)) (fun st_ => b.length - st_) 0 ?_ ?_
 ·exact ⟨by first | (simp; done) | (dsimp only; omega) | (simp; omega), by rw [mix_zero]; exact ho, Chg.refl _ _⟩
 ·rintro j h4 ee3 ⟨hi0, hO, cL2⟩
  have := cL2.size
  replace cA := Chg.step cA cL2 Sub.refl
  have sbhO : Sub f h.size f := Sub.refl
  have hfhO := hfr
  have sb5 : Sub f h.size f := Sub.trans sbhO Sub.refl (by omega)
  have hlhO := hlho
  simp only [List.cons_append, List.nil_append]
  have rbH := hk _ cA
  have hml := mix_len (lessRow p k a b) a j (lessRow_len _ _ _ _)
  refine den_seq ?_
  refine den_region TTok ?_
  intro K hK
  simp -implicitDefEqProofs (disch := first | decide | assumption | omega) only [go_sem, RdS.len (OS.rd hO) sl22, RdS.idx (OS.rd hO) sl22, R1.intN (OS.rd hO), RdS.cells (OS.rd hO), wrap_id]
  refine hK _ _ ?_
  clear hK K
  refine den_seq ?_
  refine den_cond rfl (fun c0 => ?_) (fun c0 => ?_)
  ·try simp only [decide_eq_true_eq, decide_eq_false_iff_not, beq_iff_eq, beq_eq_false_iff_ne, bne_iff_ne, ne_eq, Bool.not_eq_true', Bool.not_eq_false', Bool.and_eq_true, Bool.or_eq_true, bne_eq_false_iff_eq] at c0
   refine den_skip ?_
   refine den_seq ?_
   refine den_block ?_
   refine den_seq ?_
   refine den_region TTok ?_
   intro K hK
   simp -implicitDefEqProofs (disch := first | decide | assumption | omega) only [go_sem, ld2, RdS.len (OS.rd hO) sl22, RdS.idx (OS.rd hO) sl22, R1.intN (OS.rd hO), RdS.cells (OS.rd hO), wrap_id, RdS.idx rb sl22, R1.intN rbH]
   refine hK _ _ ?_
   clear hK K
   have hxa := ha.at (k := j) (by omega)
   have hxb := hb.at (k := j) (by omega)
   have hky := mul42B (k := p - k) ⟨by omega, by omega⟩ hxb hp.2
   have hmg := mix_get (lessRow p k a b) a j 0 (lessRow_len _ _ _ _) (by omega)
   have hcv := clr_val hx hxa.1 hxb.1
   refine den_region TTok ?_
   intro K hK
   simp -implicitDefEqProofs (disch := first | decide | assumption | omega) only [go_sem, ld2, RdS.len (OS.rd hO) sl22, RdS.idx (OS.rd hO) sl22, R1.intN (OS.rd hO), RdS.cells (OS.rd hO), wrap_id]
   refine op_store1 (j := j) st2 hO hfhO.nodup (by first | omega | (simp; omega)) rfl rfl ?_
   intro h3_15 ho3_15 c3_15
   have hsz3_15 := c3_15.size
   have := c3_15.size
   replace cA := Chg.step cA c3_15 sb5
   replace cL2 := Chg.step cL2 c3_15 sbhO
   have hlho3_15 := hlhO
   have hlenho3_15 : ((mix (lessRow p k a b) a j).set j (Int.tmod (((mix (lessRow p k a b) a j).getD j 0) + ((p - k) * (b.getD j 0))) p) : List Int).length = (mix (lessRow p k a b) a j : List Int).length := List.length_set
   try simp -implicitDefEqProofs (disch := first | decide | assumption | omega) only [go_sem, RdS.len (OS.rd ho3_15) sl22, RdS.idx (OS.rd ho3_15) sl22, R1.intN (OS.rd ho3_15), RdS.cells (OS.rd ho3_15), wrap_id]
   refine hK _ _ ?_
   clear hK K
   refine den_blk ?_
   refine den_region TTok ?_
   intro K hK
   simp -implicitDefEqProofs (disch := first | decide | assumption | omega) only [go_sem, RdS.len (OS.rd ho3_15) sl22, RdS.idx (OS.rd ho3_15) sl22, R1.intN (OS.rd ho3_15), RdS.cells (OS.rd ho3_15), wrap_id]
   refine hK _ _ ?_
   clear hK K
   refine den_stop ?_
   rw [hmg, hcv, ← lessRow_get p k (by omega), mix_set _ _ _ _ (lessRow_len _ _ _ _) (by omega)] at ho3_15
   exact ⟨j + 1, by simp [HasL, puts_at], ⟨by first | omega | (dsimp only; omega), ho3_15, cL2⟩, by first | omega | (dsimp only; omega)⟩
  ·try simp only [decide_eq_true_eq, decide_eq_false_iff_not, beq_iff_eq, beq_eq_false_iff_ne, bne_iff_ne, ne_eq, Bool.not_eq_true', Bool.not_eq_false', Bool.and_eq_true, Bool.or_eq_true, bne_eq_false_iff_eq] at c0
   refine den_exit ?_
   refine denX_code ?_
   refine denX_stop ?_
   refine denX_hit ?_
   refine den_nil ?_
   simp (disch := decide) only [resP_0, puts_same, puts_ne]
   rw [mix_end _ _ _ (lessRow_len _ _ _ _) (by omega)] at hO
   exact ⟨by first | rfl | trivial, hO, cA⟩
end Go.Proofs.Ytbplnadngahgaaa
