/-
  Walks: PlaceOfPair.
  Conditions: each theorem's own.
-/
import Derived.Test.YtkkjhomhndpphaaS12
set_option linter.unusedVariables false
set_option linter.unusedSimpArgs false
namespace Go.Proofs.Ytkkjhomhndpphaa
open Go
noncomputable def placeR (X Y : Cx) (i a j b : Int) : Int × Int := if cod2 X Y i a j b = 0 then (placeP X Y i a j b, 0) else (0, cod2 X Y i a j b)
theorem b0 {x : Int} (h : (x == 0) = true) : x = 0 := by simpa using h

set_option maxRecDepth 100000 in
theorem sPOP_ok (vx vy : Value) (X Y : Cx) (i a j b : Int) (h : Heap) (hx : RC h vx X) (hy : RC h vy Y) : CallA Try.prog 19 #[vx, vy, .int .i64 i, .int .i64 a, .int .i64 j, .int .i64 b] h fun v' h' => v' = .tuple #[.int .i64 (placeR X Y i a j b).1, .int .i64 (placeR X Y i a j b).2] ∧ Ext h h' := by
  obtain ⟨vd, vm, rfl, hd, hm⟩ := hx
  obtain ⟨vdy, vmy, rfl, hdy, hmy⟩ := hy
  have hle := RdS.le hd
  have hley := RdS.le hdy
  refine callA_intro TTok (args := [_, _, _, _, _, _]) Try.func19 (by kernel_rfl) rfl 68 rfl (by simp) [.tmp 12, .tmp 13] rfl ?_
  simp only [idxs, Nat.reduceAdd]
  refine den_seq ?_
  refine den_region TTok ?_
  intro K hK
  simp -implicitDefEqProofs (disch := first | decide | assumption | omega) only [go_sem, RdS.len hd sl37, RdS.idx hd sl37, R1.intB hd (HPres.refl _), RdS.cells hd, RdS.len hm sl38, RdS.idx hm sl38, RdS.cellB hm (HPres.refl _), RdS.cells hm, RdS.len hdy sl37, RdS.idx hdy sl37, R1.intB hdy (HPres.refl _), RdS.cells hdy, RdS.len hmy sl38, RdS.idx hmy sl38, RdS.cellB hmy (HPres.refl _), RdS.cells hmy, wrap_id]
  refine op_box (cs := #[.int .i64 (X.p), vd, vm]) rfl ?_
  intro h0_0 e0_0 hb0_0 z0_0
  replace hd := RdS.pres hd (Ext.pres e0_0)
  replace hm := RdS.pres hm (Ext.pres e0_0)
  replace hdy := RdS.pres hdy (Ext.pres e0_0)
  replace hmy := RdS.pres hmy (Ext.pres e0_0)
  try simp -implicitDefEqProofs (disch := first | decide | assumption | omega) only [go_sem, RdS.len hd sl37, RdS.idx hd sl37, R1.intB hd (HPres.refl _), RdS.cells hd, RdS.len hm sl38, RdS.idx hm sl38, RdS.cellB hm (HPres.refl _), RdS.cells hm, RdS.len hdy sl37, RdS.idx hdy sl37, R1.intB hdy (HPres.refl _), RdS.cells hdy, RdS.len hmy sl38, RdS.idx hmy sl38, RdS.cellB hmy (HPres.refl _), RdS.cells hmy, BoxAt.cell hb0_0, wrap_id]
  refine op_box (cs := #[.int .i64 (Y.p), vdy, vmy]) rfl ?_
  intro h0_1 e0_1 hb0_1 z0_1
  replace hd := RdS.pres hd (Ext.pres e0_1)
  replace hm := RdS.pres hm (Ext.pres e0_1)
  replace hdy := RdS.pres hdy (Ext.pres e0_1)
  replace hmy := RdS.pres hmy (Ext.pres e0_1)
  replace hb0_0 := BoxAt.ext hb0_0 e0_1
  try simp -implicitDefEqProofs (disch := first | decide | assumption | omega) only [go_sem, RdS.len hd sl37, RdS.idx hd sl37, R1.intB hd (HPres.refl _), RdS.cells hd, RdS.len hm sl38, RdS.idx hm sl38, RdS.cellB hm (HPres.refl _), RdS.cells hm, RdS.len hdy sl37, RdS.idx hdy sl37, R1.intB hdy (HPres.refl _), RdS.cells hdy, RdS.len hmy sl38, RdS.idx hmy sl38, RdS.cellB hmy (HPres.refl _), RdS.cells hmy, BoxAt.cell hb0_0, BoxAt.cell hb0_1, wrap_id]
  refine hK _ _ ?_
  clear hK K
  refine den_seq ?_
  refine den_region TTok ?_
  intro K hK
  simp -implicitDefEqProofs (disch := first | decide | assumption | omega) only [go_sem, ld44, RdS.len hd sl37, RdS.idx hd sl37, R1.intB hd (HPres.refl _), RdS.cells hd, RdS.len hm sl38, RdS.idx hm sl38, RdS.cellB hm (HPres.refl _), RdS.cells hm, RdS.len hdy sl37, RdS.idx hdy sl37, R1.intB hdy (HPres.refl _), RdS.cells hdy, RdS.len hmy sl38, RdS.idx hmy sl38, RdS.cellB hmy (HPres.refl _), RdS.cells hmy, BoxAt.cell hb0_0, BoxAt.cell hb0_1, wrap_id]
  try simp -implicitDefEqProofs (disch := first | decide | assumption | omega) only [go_sem, RdS.len hd sl37, RdS.idx hd sl37, R1.intB hd (HPres.refl _), RdS.cells hd, RdS.len hm sl38, RdS.idx hm sl38, RdS.cellB hm (HPres.refl _), RdS.cells hm, RdS.len hdy sl37, RdS.idx hdy sl37, R1.intB hdy (HPres.refl _), RdS.cells hdy, RdS.len hmy sl38, RdS.idx hmy sl38, RdS.cellB hmy (HPres.refl _), RdS.cells hmy, BoxAt.cell hb0_0, BoxAt.cell hb0_1, wrap_id]
  refine CallA.mono (two_ok _ _ X Y _ ⟨_, _, rfl, hd, hm⟩ ⟨_, _, rfl, hdy, hmy⟩) ?_
  intro v_ h1_2
  rintro ⟨rfl, e1_2⟩
  have := Ext.size e1_2
  have eB := e1_2
  try simp -implicitDefEqProofs (disch := first | decide | assumption | omega) only [go_sem, RdS.len hd sl37, RdS.idx hd sl37, R1.intB hd (Ext.pres eB), RdS.cells hd, RdS.len hm sl38, RdS.idx hm sl38, RdS.cellB hm (Ext.pres eB), RdS.cells hm, RdS.len hdy sl37, RdS.idx hdy sl37, R1.intB hdy (Ext.pres eB), RdS.cells hdy, RdS.len hmy sl38, RdS.idx hmy sl38, RdS.cellB hmy (Ext.pres eB), RdS.cells hmy, BoxAt.cellB hb0_0 eB, BoxAt.cellB hb0_1 eB, wrap_id]
  refine hK _ _ ?_
  clear hK K
  refine den_seq ?_
  refine den_seq ?_
  refine den_mergeH [(37, .bool ((((twoP X Y) == (0 : Int)) && ((!((in3 i (0 : Int) (((X.dims).length : Int) - (1 : Int))))) || (!((in3 j (0 : Int) (((Y.dims).length : Int) - (1 : Int)))))))))] [2, 3, 4, 5, 6, 7, 14] ?_ ?_
    -- a way
  · refine den_region TTok ?_
    intro K hK
    simp -implicitDefEqProofs (disch := first | decide | assumption | (simp (disch := decide) only [slotOf_zero, slotOf_succ, Option.map_some, puts_same, puts_ne, gv_bool, gv_undef, tt, tf, ft, ff, eq_self, if_true, if_false, Bool.false_eq_true, Bool.not_true, Bool.not_false]; done) | omega) only [go_sem, RdS.len hd sl37, RdS.idx hd sl37, R1.intB hd (Ext.pres eB), RdS.cells hd, RdS.len hm sl38, RdS.idx hm sl38, RdS.cellB hm (Ext.pres eB), RdS.cells hm, RdS.len hdy sl37, RdS.idx hdy sl37, R1.intB hdy (Ext.pres eB), RdS.cells hdy, RdS.len hmy sl38, RdS.idx hmy sl38, RdS.cellB hmy (Ext.pres eB), RdS.cells hmy, BoxAt.cellB hb0_0 eB, BoxAt.cellB hb0_1 eB, wrap_id]
    refine opsP_T (by simp (disch := decide) only [slotOf_zero, slotOf_succ, Option.map_some, puts_same, puts_ne, gv_bool, gv_undef, tt, tf, ft, ff, eq_self, if_true, if_false, Bool.false_eq_true, Bool.not_true, Bool.not_false]; rfl) (fun g1 => ?_) (fun g1 => ?_)
    · try simp -implicitDefEqProofs (disch := first | decide | assumption | (simp (disch := decide) only [slotOf_zero, slotOf_succ, Option.map_some, puts_same, puts_ne, gv_bool, gv_undef, tt, tf, ft, ff, eq_self, if_true, if_false, Bool.false_eq_true, Bool.not_true, Bool.not_false, g1]; done) | omega) only [go_sem, fa44_1, ld37, RdS.len hd sl37, RdS.idx hd sl37, R1.intB hd (Ext.pres eB), RdS.cells hd, RdS.len hm sl38, RdS.idx hm sl38, RdS.cellB hm (Ext.pres eB), RdS.cells hm, RdS.len hdy sl37, RdS.idx hdy sl37, R1.intB hdy (Ext.pres eB), RdS.cells hdy, RdS.len hmy sl38, RdS.idx hmy sl38, RdS.cellB hmy (Ext.pres eB), RdS.cells hmy, BoxAt.cellB hb0_0 eB, BoxAt.cellB hb0_1 eB, wrap_id, g1, eq_self, if_true, if_false, Bool.false_eq_true]
      try simp -implicitDefEqProofs (disch := first | decide | assumption | omega) only [go_sem, RdS.len hd sl37, RdS.idx hd sl37, R1.intB hd (Ext.pres eB), RdS.cells hd, RdS.len hm sl38, RdS.idx hm sl38, RdS.cellB hm (Ext.pres eB), RdS.cells hm, RdS.len hdy sl37, RdS.idx hdy sl37, R1.intB hdy (Ext.pres eB), RdS.cells hdy, RdS.len hmy sl38, RdS.idx hmy sl38, RdS.cellB hmy (Ext.pres eB), RdS.cells hmy, BoxAt.cellB hb0_0 eB, BoxAt.cellB hb0_1 eB, wrap_id]
      refine CallA.pure (sIn_ok _ _ _ _) ?_
      try simp -implicitDefEqProofs (disch := first | decide | assumption | (simp (disch := decide) only [slotOf_zero, slotOf_succ, Option.map_some, puts_same, puts_ne, gv_bool, gv_undef, tt, tf, ft, ff, eq_self, if_true, if_false, Bool.false_eq_true, Bool.not_true, Bool.not_false, g1]; done) | omega) only [go_sem, RdS.len hd sl37, RdS.idx hd sl37, R1.intB hd (Ext.pres eB), RdS.cells hd, RdS.len hm sl38, RdS.idx hm sl38, RdS.cellB hm (Ext.pres eB), RdS.cells hm, RdS.len hdy sl37, RdS.idx hdy sl37, R1.intB hdy (Ext.pres eB), RdS.cells hdy, RdS.len hmy sl38, RdS.idx hmy sl38, RdS.cellB hmy (Ext.pres eB), RdS.cells hmy, BoxAt.cellB hb0_0 eB, BoxAt.cellB hb0_1 eB, wrap_id, g1, eq_self, if_true, if_false, Bool.false_eq_true]
      refine opsP_F (by simp (disch := decide) only [slotOf_zero, slotOf_succ, Option.map_some, puts_same, puts_ne, gv_bool, gv_undef, tt, tf, ft, ff, eq_self, if_true, if_false, Bool.false_eq_true, Bool.not_true, Bool.not_false, g1]; rfl) (fun g2 => ?_) (fun g2 => ?_)
      · try simp -implicitDefEqProofs (disch := first | decide | assumption | (simp (disch := decide) only [slotOf_zero, slotOf_succ, Option.map_some, puts_same, puts_ne, gv_bool, gv_undef, tt, tf, ft, ff, eq_self, if_true, if_false, Bool.false_eq_true, Bool.not_true, Bool.not_false, g1, g2]; done) | omega) only [go_sem, fa44_1, ld37, RdS.len hd sl37, RdS.idx hd sl37, R1.intB hd (Ext.pres eB), RdS.cells hd, RdS.len hm sl38, RdS.idx hm sl38, RdS.cellB hm (Ext.pres eB), RdS.cells hm, RdS.len hdy sl37, RdS.idx hdy sl37, R1.intB hdy (Ext.pres eB), RdS.cells hdy, RdS.len hmy sl38, RdS.idx hmy sl38, RdS.cellB hmy (Ext.pres eB), RdS.cells hmy, BoxAt.cellB hb0_0 eB, BoxAt.cellB hb0_1 eB, wrap_id, g1, g2, eq_self, if_true, if_false, Bool.false_eq_true]
        try simp -implicitDefEqProofs (disch := first | decide | assumption | omega) only [go_sem, RdS.len hd sl37, RdS.idx hd sl37, R1.intB hd (Ext.pres eB), RdS.cells hd, RdS.len hm sl38, RdS.idx hm sl38, RdS.cellB hm (Ext.pres eB), RdS.cells hm, RdS.len hdy sl37, RdS.idx hdy sl37, R1.intB hdy (Ext.pres eB), RdS.cells hdy, RdS.len hmy sl38, RdS.idx hmy sl38, RdS.cellB hmy (Ext.pres eB), RdS.cells hmy, BoxAt.cellB hb0_0 eB, BoxAt.cellB hb0_1 eB, wrap_id]
        refine CallA.pure (sIn_ok _ _ _ _) ?_
        try simp -implicitDefEqProofs (disch := first | decide | assumption | (simp (disch := decide) only [slotOf_zero, slotOf_succ, Option.map_some, puts_same, puts_ne, gv_bool, gv_undef, tt, tf, ft, ff, eq_self, if_true, if_false, Bool.false_eq_true, Bool.not_true, Bool.not_false, g1, g2]; done) | omega) only [go_sem, RdS.len hd sl37, RdS.idx hd sl37, R1.intB hd (Ext.pres eB), RdS.cells hd, RdS.len hm sl38, RdS.idx hm sl38, RdS.cellB hm (Ext.pres eB), RdS.cells hm, RdS.len hdy sl37, RdS.idx hdy sl37, R1.intB hdy (Ext.pres eB), RdS.cells hdy, RdS.len hmy sl38, RdS.idx hmy sl38, RdS.cellB hmy (Ext.pres eB), RdS.cells hmy, BoxAt.cellB hb0_0 eB, BoxAt.cellB hb0_1 eB, wrap_id, g1, g2, eq_self, if_true, if_false, Bool.false_eq_true]
        refine hK _ _ ?_
        clear hK K
        refine den_stop ?_
        refine ⟨?_, rfl⟩
        first | (simp (disch := decide) only [go_sem, g1, g2, eq_self, Bool.true_and, Bool.and_true, Bool.false_and, Bool.and_false, Bool.true_or, Bool.or_true, Bool.false_or, Bool.or_false, if_true, if_false, Bool.false_eq_true]; done) | simp [HasL, sel, puts_at, g1, g2]
      · try simp -implicitDefEqProofs (disch := first | decide | assumption | (simp (disch := decide) only [slotOf_zero, slotOf_succ, Option.map_some, puts_same, puts_ne, gv_bool, gv_undef, tt, tf, ft, ff, eq_self, if_true, if_false, Bool.false_eq_true, Bool.not_true, Bool.not_false, g1, g2]; done) | omega) only [go_sem, RdS.len hd sl37, RdS.idx hd sl37, R1.intB hd (Ext.pres eB), RdS.cells hd, RdS.len hm sl38, RdS.idx hm sl38, RdS.cellB hm (Ext.pres eB), RdS.cells hm, RdS.len hdy sl37, RdS.idx hdy sl37, R1.intB hdy (Ext.pres eB), RdS.cells hdy, RdS.len hmy sl38, RdS.idx hmy sl38, RdS.cellB hmy (Ext.pres eB), RdS.cells hmy, BoxAt.cellB hb0_0 eB, BoxAt.cellB hb0_1 eB, wrap_id, g1, g2, eq_self, if_true, if_false, Bool.false_eq_true]
        refine hK _ _ ?_
        clear hK K
        refine den_stop ?_
        refine ⟨?_, rfl⟩
        first | (simp (disch := decide) only [go_sem, g1, g2, eq_self, Bool.true_and, Bool.and_true, Bool.false_and, Bool.and_false, Bool.true_or, Bool.or_true, Bool.false_or, Bool.or_false, if_true, if_false, Bool.false_eq_true]; done) | simp [HasL, sel, puts_at, g1, g2]
    · try simp -implicitDefEqProofs (disch := first | decide | assumption | (simp (disch := decide) only [slotOf_zero, slotOf_succ, Option.map_some, puts_same, puts_ne, gv_bool, gv_undef, tt, tf, ft, ff, eq_self, if_true, if_false, Bool.false_eq_true, Bool.not_true, Bool.not_false, g1]; done) | omega) only [go_sem, RdS.len hd sl37, RdS.idx hd sl37, R1.intB hd (Ext.pres eB), RdS.cells hd, RdS.len hm sl38, RdS.idx hm sl38, RdS.cellB hm (Ext.pres eB), RdS.cells hm, RdS.len hdy sl37, RdS.idx hdy sl37, R1.intB hdy (Ext.pres eB), RdS.cells hdy, RdS.len hmy sl38, RdS.idx hmy sl38, RdS.cellB hmy (Ext.pres eB), RdS.cells hmy, BoxAt.cellB hb0_0 eB, BoxAt.cellB hb0_1 eB, wrap_id, g1, eq_self, if_true, if_false, Bool.false_eq_true]
      try simp -implicitDefEqProofs (disch := first | decide | assumption | (simp (disch := decide) only [slotOf_zero, slotOf_succ, Option.map_some, puts_same, puts_ne, gv_bool, gv_undef, tt, tf, ft, ff, eq_self, if_true, if_false, Bool.false_eq_true, Bool.not_true, Bool.not_false, g1]; done) | omega) only [go_sem, RdS.len hd sl37, RdS.idx hd sl37, R1.intB hd (Ext.pres eB), RdS.cells hd, RdS.len hm sl38, RdS.idx hm sl38, RdS.cellB hm (Ext.pres eB), RdS.cells hm, RdS.len hdy sl37, RdS.idx hdy sl37, R1.intB hdy (Ext.pres eB), RdS.cells hdy, RdS.len hmy sl38, RdS.idx hmy sl38, RdS.cellB hmy (Ext.pres eB), RdS.cells hmy, BoxAt.cellB hb0_0 eB, BoxAt.cellB hb0_1 eB, wrap_id, g1, eq_self, if_true, if_false, Bool.false_eq_true]
      refine hK _ _ ?_
      clear hK K
      refine den_stop ?_
      refine ⟨?_, rfl⟩
      first | (simp (disch := decide) only [go_sem, g1, eq_self, Bool.true_and, Bool.and_true, Bool.false_and, Bool.and_false, Bool.true_or, Bool.or_true, Bool.false_or, Bool.or_false, if_true, if_false, Bool.false_eq_true]; done) | simp [HasL, sel, puts_at, g1]
  intro en3
  simp (disch := decide) only [go_sem]
  refine den_mergeH [(14, .int .i64 ((cod1 X Y i j)))] [2, 3, 4, 5, 6, 7] ?_ ?_
  · refine den_cond rfl (fun c0 => ?_) (fun c0 => ?_)
    · refine den_region TTok ?_
      intro K hK
      simp -implicitDefEqProofs (disch := first | decide | assumption | omega) only [go_sem, RdS.len hd sl37, RdS.idx hd sl37, R1.intB hd (Ext.pres eB), RdS.cells hd, RdS.len hm sl38, RdS.idx hm sl38, RdS.cellB hm (Ext.pres eB), RdS.cells hm, RdS.len hdy sl37, RdS.idx hdy sl37, R1.intB hdy (Ext.pres eB), RdS.cells hdy, RdS.len hmy sl38, RdS.idx hmy sl38, RdS.cellB hmy (Ext.pres eB), RdS.cells hmy, BoxAt.cellB hb0_0 eB, BoxAt.cellB hb0_1 eB, wrap_id]
      refine hK _ _ ?_
      clear hK K
      refine den_stop ?_
      refine ⟨?_, rfl⟩; simp (disch := decide) only [go_sem, c0, cod1, eq_self, if_true, if_false, Bool.false_eq_true, reduceCtorEq]
    · refine den_skip ?_
      refine den_stop ?_
      refine ⟨?_, rfl⟩; simp (disch := decide) only [go_sem, c0, cod1, eq_self, if_true, if_false, Bool.false_eq_true, reduceCtorEq]
  intro en6
  simp (disch := decide) only [go_sem]
  refine den_seq ?_
  refine den_seq ?_
  refine den_merge [(57, .bool ((((cod1 X Y i j) == (0 : Int)) && ((!((in3 a (0 : Int) ((dimP X i) - (1 : Int))))) || (!((in3 b (0 : Int) ((dimP Y j) - (1 : Int)))))))))] [2, 3, 4, 5, 6, 7, 14] (fun H => Ext h1_2 H) ?_ ?_
    -- a way
  · refine den_region TTok ?_
    intro K hK
    simp -implicitDefEqProofs (disch := first | decide | assumption | (simp (disch := decide) only [slotOf_zero, slotOf_succ, Option.map_some, puts_same, puts_ne, gv_bool, gv_undef, tt, tf, ft, ff, eq_self, if_true, if_false, Bool.false_eq_true, Bool.not_true, Bool.not_false]; done) | omega) only [go_sem, RdS.len hd sl37, RdS.idx hd sl37, R1.intB hd (Ext.pres eB), RdS.cells hd, RdS.len hm sl38, RdS.idx hm sl38, RdS.cellB hm (Ext.pres eB), RdS.cells hm, RdS.len hdy sl37, RdS.idx hdy sl37, R1.intB hdy (Ext.pres eB), RdS.cells hdy, RdS.len hmy sl38, RdS.idx hmy sl38, RdS.cellB hmy (Ext.pres eB), RdS.cells hmy, BoxAt.cellB hb0_0 eB, BoxAt.cellB hb0_1 eB, wrap_id]
    refine opsP_T (by simp (disch := decide) only [slotOf_zero, slotOf_succ, Option.map_some, puts_same, puts_ne, gv_bool, gv_undef, tt, tf, ft, ff, eq_self, if_true, if_false, Bool.false_eq_true, Bool.not_true, Bool.not_false]; rfl) (fun g7 => ?_) (fun g7 => ?_)
    · have hz := b0 g7
      obtain ⟨hX, hY, _⟩ := cod1_0 hz
      have hdi := dimP_bnd hX i
      have hdj := dimP_bnd hY j
      try simp -implicitDefEqProofs (disch := first | decide | assumption | (simp (disch := decide) only [slotOf_zero, slotOf_succ, Option.map_some, puts_same, puts_ne, gv_bool, gv_undef, tt, tf, ft, ff, eq_self, if_true, if_false, Bool.false_eq_true, Bool.not_true, Bool.not_false, g7]; done) | omega) only [go_sem, ld44, RdS.len hd sl37, RdS.idx hd sl37, R1.intB hd (Ext.pres eB), RdS.cells hd, RdS.len hm sl38, RdS.idx hm sl38, RdS.cellB hm (Ext.pres eB), RdS.cells hm, RdS.len hdy sl37, RdS.idx hdy sl37, R1.intB hdy (Ext.pres eB), RdS.cells hdy, RdS.len hmy sl38, RdS.idx hmy sl38, RdS.cellB hmy (Ext.pres eB), RdS.cells hmy, BoxAt.cellB hb0_0 eB, BoxAt.cellB hb0_1 eB, wrap_id, g7, eq_self, if_true, if_false, Bool.false_eq_true]
      try simp -implicitDefEqProofs (disch := first | decide | assumption | omega) only [go_sem, RdS.len hd sl37, RdS.idx hd sl37, R1.intB hd (Ext.pres eB), RdS.cells hd, RdS.len hm sl38, RdS.idx hm sl38, RdS.cellB hm (Ext.pres eB), RdS.cells hm, RdS.len hdy sl37, RdS.idx hdy sl37, R1.intB hdy (Ext.pres eB), RdS.cells hdy, RdS.len hmy sl38, RdS.idx hmy sl38, RdS.cellB hmy (Ext.pres eB), RdS.cells hmy, BoxAt.cellB hb0_0 eB, BoxAt.cellB hb0_1 eB, wrap_id]
      refine CallA.mono (sDim_ok _ X _ _ ⟨_, _, rfl, (RdS.pres hd (Ext.pres eB)), (RdS.pres hm (Ext.pres eB))⟩) ?_
      intro v_ h4_6
      rintro ⟨rfl, e4_6⟩
      have := Ext.size e4_6
      replace eB := Ext.trans eB e4_6
      try simp -implicitDefEqProofs (disch := first | decide | assumption | (simp (disch := decide) only [slotOf_zero, slotOf_succ, Option.map_some, puts_same, puts_ne, gv_bool, gv_undef, tt, tf, ft, ff, eq_self, if_true, if_false, Bool.false_eq_true, Bool.not_true, Bool.not_false, g7]; done) | omega) only [go_sem, RdS.len hd sl37, RdS.idx hd sl37, R1.intB hd (Ext.pres eB), RdS.cells hd, RdS.len hm sl38, RdS.idx hm sl38, RdS.cellB hm (Ext.pres eB), RdS.cells hm, RdS.len hdy sl37, RdS.idx hdy sl37, R1.intB hdy (Ext.pres eB), RdS.cells hdy, RdS.len hmy sl38, RdS.idx hmy sl38, RdS.cellB hmy (Ext.pres eB), RdS.cells hmy, BoxAt.cellB hb0_0 eB, BoxAt.cellB hb0_1 eB, wrap_id, g7, eq_self, if_true, if_false, Bool.false_eq_true]
      try simp -implicitDefEqProofs (disch := first | decide | assumption | omega) only [go_sem, RdS.len hd sl37, RdS.idx hd sl37, R1.intB hd (Ext.pres eB), RdS.cells hd, RdS.len hm sl38, RdS.idx hm sl38, RdS.cellB hm (Ext.pres eB), RdS.cells hm, RdS.len hdy sl37, RdS.idx hdy sl37, R1.intB hdy (Ext.pres eB), RdS.cells hdy, RdS.len hmy sl38, RdS.idx hmy sl38, RdS.cellB hmy (Ext.pres eB), RdS.cells hmy, BoxAt.cellB hb0_0 eB, BoxAt.cellB hb0_1 eB, wrap_id]
      refine CallA.pure (sIn_ok _ _ _ _) ?_
      try simp -implicitDefEqProofs (disch := first | decide | assumption | (simp (disch := decide) only [slotOf_zero, slotOf_succ, Option.map_some, puts_same, puts_ne, gv_bool, gv_undef, tt, tf, ft, ff, eq_self, if_true, if_false, Bool.false_eq_true, Bool.not_true, Bool.not_false, g7]; done) | omega) only [go_sem, RdS.len hd sl37, RdS.idx hd sl37, R1.intB hd (Ext.pres eB), RdS.cells hd, RdS.len hm sl38, RdS.idx hm sl38, RdS.cellB hm (Ext.pres eB), RdS.cells hm, RdS.len hdy sl37, RdS.idx hdy sl37, R1.intB hdy (Ext.pres eB), RdS.cells hdy, RdS.len hmy sl38, RdS.idx hmy sl38, RdS.cellB hmy (Ext.pres eB), RdS.cells hmy, BoxAt.cellB hb0_0 eB, BoxAt.cellB hb0_1 eB, wrap_id, g7, eq_self, if_true, if_false, Bool.false_eq_true]
      refine opsP_F (by simp (disch := decide) only [slotOf_zero, slotOf_succ, Option.map_some, puts_same, puts_ne, gv_bool, gv_undef, tt, tf, ft, ff, eq_self, if_true, if_false, Bool.false_eq_true, Bool.not_true, Bool.not_false, g7]; rfl) (fun g8 => ?_) (fun g8 => ?_)
      · try simp -implicitDefEqProofs (disch := first | decide | assumption | (simp (disch := decide) only [slotOf_zero, slotOf_succ, Option.map_some, puts_same, puts_ne, gv_bool, gv_undef, tt, tf, ft, ff, eq_self, if_true, if_false, Bool.false_eq_true, Bool.not_true, Bool.not_false, g7, g8]; done) | omega) only [go_sem, ld44, RdS.len hd sl37, RdS.idx hd sl37, R1.intB hd (Ext.pres eB), RdS.cells hd, RdS.len hm sl38, RdS.idx hm sl38, RdS.cellB hm (Ext.pres eB), RdS.cells hm, RdS.len hdy sl37, RdS.idx hdy sl37, R1.intB hdy (Ext.pres eB), RdS.cells hdy, RdS.len hmy sl38, RdS.idx hmy sl38, RdS.cellB hmy (Ext.pres eB), RdS.cells hmy, BoxAt.cellB hb0_0 eB, BoxAt.cellB hb0_1 eB, wrap_id, g7, g8, eq_self, if_true, if_false, Bool.false_eq_true]
        try simp -implicitDefEqProofs (disch := first | decide | assumption | omega) only [go_sem, RdS.len hd sl37, RdS.idx hd sl37, R1.intB hd (Ext.pres eB), RdS.cells hd, RdS.len hm sl38, RdS.idx hm sl38, RdS.cellB hm (Ext.pres eB), RdS.cells hm, RdS.len hdy sl37, RdS.idx hdy sl37, R1.intB hdy (Ext.pres eB), RdS.cells hdy, RdS.len hmy sl38, RdS.idx hmy sl38, RdS.cellB hmy (Ext.pres eB), RdS.cells hmy, BoxAt.cellB hb0_0 eB, BoxAt.cellB hb0_1 eB, wrap_id]
        refine CallA.mono (sDim_ok _ Y _ _ ⟨_, _, rfl, (RdS.pres hdy (Ext.pres eB)), (RdS.pres hmy (Ext.pres eB))⟩) ?_
        intro v_ h4_14
        rintro ⟨rfl, e4_14⟩
        have := Ext.size e4_14
        replace eB := Ext.trans eB e4_14
        try simp -implicitDefEqProofs (disch := first | decide | assumption | (simp (disch := decide) only [slotOf_zero, slotOf_succ, Option.map_some, puts_same, puts_ne, gv_bool, gv_undef, tt, tf, ft, ff, eq_self, if_true, if_false, Bool.false_eq_true, Bool.not_true, Bool.not_false, g7, g8]; done) | omega) only [go_sem, RdS.len hd sl37, RdS.idx hd sl37, R1.intB hd (Ext.pres eB), RdS.cells hd, RdS.len hm sl38, RdS.idx hm sl38, RdS.cellB hm (Ext.pres eB), RdS.cells hm, RdS.len hdy sl37, RdS.idx hdy sl37, R1.intB hdy (Ext.pres eB), RdS.cells hdy, RdS.len hmy sl38, RdS.idx hmy sl38, RdS.cellB hmy (Ext.pres eB), RdS.cells hmy, BoxAt.cellB hb0_0 eB, BoxAt.cellB hb0_1 eB, wrap_id, g7, g8, eq_self, if_true, if_false, Bool.false_eq_true]
        try simp -implicitDefEqProofs (disch := first | decide | assumption | omega) only [go_sem, RdS.len hd sl37, RdS.idx hd sl37, R1.intB hd (Ext.pres eB), RdS.cells hd, RdS.len hm sl38, RdS.idx hm sl38, RdS.cellB hm (Ext.pres eB), RdS.cells hm, RdS.len hdy sl37, RdS.idx hdy sl37, R1.intB hdy (Ext.pres eB), RdS.cells hdy, RdS.len hmy sl38, RdS.idx hmy sl38, RdS.cellB hmy (Ext.pres eB), RdS.cells hmy, BoxAt.cellB hb0_0 eB, BoxAt.cellB hb0_1 eB, wrap_id]
        refine CallA.pure (sIn_ok _ _ _ _) ?_
        try simp -implicitDefEqProofs (disch := first | decide | assumption | (simp (disch := decide) only [slotOf_zero, slotOf_succ, Option.map_some, puts_same, puts_ne, gv_bool, gv_undef, tt, tf, ft, ff, eq_self, if_true, if_false, Bool.false_eq_true, Bool.not_true, Bool.not_false, g7, g8]; done) | omega) only [go_sem, RdS.len hd sl37, RdS.idx hd sl37, R1.intB hd (Ext.pres eB), RdS.cells hd, RdS.len hm sl38, RdS.idx hm sl38, RdS.cellB hm (Ext.pres eB), RdS.cells hm, RdS.len hdy sl37, RdS.idx hdy sl37, R1.intB hdy (Ext.pres eB), RdS.cells hdy, RdS.len hmy sl38, RdS.idx hmy sl38, RdS.cellB hmy (Ext.pres eB), RdS.cells hmy, BoxAt.cellB hb0_0 eB, BoxAt.cellB hb0_1 eB, wrap_id, g7, g8, eq_self, if_true, if_false, Bool.false_eq_true]
        refine hK _ _ ?_
        clear hK K
        refine den_stop ?_
        refine ⟨?_, (Ext.trans e4_6 e4_14)⟩
        first | (simp (disch := decide) only [go_sem, g7, g8, eq_self, Bool.true_and, Bool.and_true, Bool.false_and, Bool.and_false, Bool.true_or, Bool.or_true, Bool.false_or, Bool.or_false, if_true, if_false, Bool.false_eq_true]; done) | simp [HasL, sel, puts_at, g7, g8]
      · try simp -implicitDefEqProofs (disch := first | decide | assumption | (simp (disch := decide) only [slotOf_zero, slotOf_succ, Option.map_some, puts_same, puts_ne, gv_bool, gv_undef, tt, tf, ft, ff, eq_self, if_true, if_false, Bool.false_eq_true, Bool.not_true, Bool.not_false, g7, g8]; done) | omega) only [go_sem, RdS.len hd sl37, RdS.idx hd sl37, R1.intB hd (Ext.pres eB), RdS.cells hd, RdS.len hm sl38, RdS.idx hm sl38, RdS.cellB hm (Ext.pres eB), RdS.cells hm, RdS.len hdy sl37, RdS.idx hdy sl37, R1.intB hdy (Ext.pres eB), RdS.cells hdy, RdS.len hmy sl38, RdS.idx hmy sl38, RdS.cellB hmy (Ext.pres eB), RdS.cells hmy, BoxAt.cellB hb0_0 eB, BoxAt.cellB hb0_1 eB, wrap_id, g7, g8, eq_self, if_true, if_false, Bool.false_eq_true]
        refine hK _ _ ?_
        clear hK K
        refine den_stop ?_
        refine ⟨?_, e4_6⟩
        first | (simp (disch := decide) only [go_sem, g7, g8, eq_self, Bool.true_and, Bool.and_true, Bool.false_and, Bool.and_false, Bool.true_or, Bool.or_true, Bool.false_or, Bool.or_false, if_true, if_false, Bool.false_eq_true]; done) | simp [HasL, sel, puts_at, g7, g8]
    · try simp -implicitDefEqProofs (disch := first | decide | assumption | (simp (disch := decide) only [slotOf_zero, slotOf_succ, Option.map_some, puts_same, puts_ne, gv_bool, gv_undef, tt, tf, ft, ff, eq_self, if_true, if_false, Bool.false_eq_true, Bool.not_true, Bool.not_false, g7]; done) | omega) only [go_sem, RdS.len hd sl37, RdS.idx hd sl37, R1.intB hd (Ext.pres eB), RdS.cells hd, RdS.len hm sl38, RdS.idx hm sl38, RdS.cellB hm (Ext.pres eB), RdS.cells hm, RdS.len hdy sl37, RdS.idx hdy sl37, R1.intB hdy (Ext.pres eB), RdS.cells hdy, RdS.len hmy sl38, RdS.idx hmy sl38, RdS.cellB hmy (Ext.pres eB), RdS.cells hmy, BoxAt.cellB hb0_0 eB, BoxAt.cellB hb0_1 eB, wrap_id, g7, eq_self, if_true, if_false, Bool.false_eq_true]
      try simp -implicitDefEqProofs (disch := first | decide | assumption | (simp (disch := decide) only [slotOf_zero, slotOf_succ, Option.map_some, puts_same, puts_ne, gv_bool, gv_undef, tt, tf, ft, ff, eq_self, if_true, if_false, Bool.false_eq_true, Bool.not_true, Bool.not_false, g7]; done) | omega) only [go_sem, RdS.len hd sl37, RdS.idx hd sl37, R1.intB hd (Ext.pres eB), RdS.cells hd, RdS.len hm sl38, RdS.idx hm sl38, RdS.cellB hm (Ext.pres eB), RdS.cells hm, RdS.len hdy sl37, RdS.idx hdy sl37, R1.intB hdy (Ext.pres eB), RdS.cells hdy, RdS.len hmy sl38, RdS.idx hmy sl38, RdS.cellB hmy (Ext.pres eB), RdS.cells hmy, BoxAt.cellB hb0_0 eB, BoxAt.cellB hb0_1 eB, wrap_id, g7, eq_self, if_true, if_false, Bool.false_eq_true]
      refine hK _ _ ?_
      clear hK K
      refine den_stop ?_
      refine ⟨?_, Ext.refl _⟩
      first | (simp (disch := decide) only [go_sem, g7, eq_self, Bool.true_and, Bool.and_true, Bool.false_and, Bool.and_false, Bool.true_or, Bool.or_true, Bool.false_or, Bool.or_false, if_true, if_false, Bool.false_eq_true]; done) | simp [HasL, sel, puts_at, g7]
  intro en9 h10 e11
  have := Ext.size e11
  replace eB := Ext.trans eB e11
  simp (disch := decide) only [go_sem]
  refine den_mergeH [(14, .int .i64 ((cod2 X Y i a j b)))] [2, 3, 4, 5, 6, 7] ?_ ?_
  · refine den_cond rfl (fun c1 => ?_) (fun c1 => ?_)
    · refine den_region TTok ?_
      intro K hK
      simp -implicitDefEqProofs (disch := first | decide | assumption | omega) only [go_sem, RdS.len hd sl37, RdS.idx hd sl37, R1.intB hd (Ext.pres eB), RdS.cells hd, RdS.len hm sl38, RdS.idx hm sl38, RdS.cellB hm (Ext.pres eB), RdS.cells hm, RdS.len hdy sl37, RdS.idx hdy sl37, R1.intB hdy (Ext.pres eB), RdS.cells hdy, RdS.len hmy sl38, RdS.idx hmy sl38, RdS.cellB hmy (Ext.pres eB), RdS.cells hmy, BoxAt.cellB hb0_0 eB, BoxAt.cellB hb0_1 eB, wrap_id]
      refine hK _ _ ?_
      clear hK K
      refine den_stop ?_
      refine ⟨?_, rfl⟩; simp (disch := decide) only [go_sem, c1, cod2, eq_self, if_true, if_false, Bool.false_eq_true, reduceCtorEq]
    · refine den_skip ?_
      refine den_stop ?_
      refine ⟨?_, rfl⟩; simp (disch := decide) only [go_sem, c1, cod2, eq_self, if_true, if_false, Bool.false_eq_true, reduceCtorEq]
  intro en12
  simp (disch := decide) only [go_sem]
  refine den_seq ?_
  refine den_seq ?_
  refine den_region TTok ?_
  intro K hK
  simp -implicitDefEqProofs (disch := first | decide | assumption | omega) only [go_sem, RdS.len hd sl37, RdS.idx hd sl37, R1.intB hd (Ext.pres eB), RdS.cells hd, RdS.len hm sl38, RdS.idx hm sl38, RdS.cellB hm (Ext.pres eB), RdS.cells hm, RdS.len hdy sl37, RdS.idx hdy sl37, R1.intB hdy (Ext.pres eB), RdS.cells hdy, RdS.len hmy sl38, RdS.idx hmy sl38, RdS.cellB hmy (Ext.pres eB), RdS.cells hmy, BoxAt.cellB hb0_0 eB, BoxAt.cellB hb0_1 eB, wrap_id]
  refine hK _ _ ?_
  clear hK K
  refine den_cond rfl (fun c2 => ?_) (fun c2 => ?_)
  · try simp only [decide_eq_true_eq, decide_eq_false_iff_not, beq_iff_eq, beq_eq_false_iff_ne, bne_iff_ne, ne_eq, Bool.not_eq_true', Bool.not_eq_false', Bool.and_eq_true, Bool.or_eq_true, bne_eq_false_iff_eq] at c2
    refine den_seq ?_
    refine den_region TTok ?_
    intro K hK
    simp -implicitDefEqProofs (disch := first | decide | assumption | omega) only [go_sem, RdS.len hd sl37, RdS.idx hd sl37, R1.intB hd (Ext.pres eB), RdS.cells hd, RdS.len hm sl38, RdS.idx hm sl38, RdS.cellB hm (Ext.pres eB), RdS.cells hm, RdS.len hdy sl37, RdS.idx hdy sl37, R1.intB hdy (Ext.pres eB), RdS.cells hdy, RdS.len hmy sl38, RdS.idx hmy sl38, RdS.cellB hmy (Ext.pres eB), RdS.cells hmy, BoxAt.cellB hb0_0 eB, BoxAt.cellB hb0_1 eB, wrap_id]
    refine hK _ _ ?_
    clear hK K
    refine den_ret ?_
    simp (disch := decide) only [resP_2, puts_same, puts_ne]
    exact ⟨by rw [placeR, if_neg c2], (Ext.trans (Ext.trans e0_0 e0_1) eB)⟩
  · try simp only [decide_eq_true_eq, decide_eq_false_iff_not, beq_iff_eq, beq_eq_false_iff_ne, bne_iff_ne, ne_eq, Bool.not_eq_true', Bool.not_eq_false', Bool.and_eq_true, Bool.or_eq_true, bne_eq_false_iff_eq] at c2
    refine den_skip ?_
    refine den_seq ?_
    have hq := cod2_0 c2
    refine den_region TTok ?_
    intro K hK
    simp -implicitDefEqProofs (disch := first | decide | assumption | omega) only [go_sem, ld44, RdS.len hd sl37, RdS.idx hd sl37, R1.intB hd (Ext.pres eB), RdS.cells hd, RdS.len hm sl38, RdS.idx hm sl38, RdS.cellB hm (Ext.pres eB), RdS.cells hm, RdS.len hdy sl37, RdS.idx hdy sl37, R1.intB hdy (Ext.pres eB), RdS.cells hdy, RdS.len hmy sl38, RdS.idx hmy sl38, RdS.cellB hmy (Ext.pres eB), RdS.cells hmy, BoxAt.cellB hb0_0 eB, BoxAt.cellB hb0_1 eB, wrap_id]
    try simp -implicitDefEqProofs (disch := first | decide | assumption | omega) only [go_sem, RdS.len hd sl37, RdS.idx hd sl37, R1.intB hd (Ext.pres eB), RdS.cells hd, RdS.len hm sl38, RdS.idx hm sl38, RdS.cellB hm (Ext.pres eB), RdS.cells hm, RdS.len hdy sl37, RdS.idx hdy sl37, R1.intB hdy (Ext.pres eB), RdS.cells hdy, RdS.len hmy sl38, RdS.idx hmy sl38, RdS.cellB hmy (Ext.pres eB), RdS.cells hmy, BoxAt.cellB hb0_0 eB, BoxAt.cellB hb0_1 eB, wrap_id]
    refine CallA.mono (sPlace_ok _ _ X Y _ _ _ _ _ ⟨_, _, rfl, (RdS.pres hd (Ext.pres eB)), (RdS.pres hm (Ext.pres eB))⟩ ⟨_, _, rfl, (RdS.pres hdy (Ext.pres eB)), (RdS.pres hmy (Ext.pres eB))⟩ hq.1 hq.2.1 (by omega) (by omega) (by omega) (by omega)) ?_
    intro v_ h8_6
    rintro ⟨rfl, e8_6⟩
    have := Ext.size e8_6
    replace eB := Ext.trans eB e8_6
    try simp -implicitDefEqProofs (disch := first | decide | assumption | omega) only [go_sem, RdS.len hd sl37, RdS.idx hd sl37, R1.intB hd (Ext.pres eB), RdS.cells hd, RdS.len hm sl38, RdS.idx hm sl38, RdS.cellB hm (Ext.pres eB), RdS.cells hm, RdS.len hdy sl37, RdS.idx hdy sl37, R1.intB hdy (Ext.pres eB), RdS.cells hdy, RdS.len hmy sl38, RdS.idx hmy sl38, RdS.cellB hmy (Ext.pres eB), RdS.cells hmy, BoxAt.cellB hb0_0 eB, BoxAt.cellB hb0_1 eB, wrap_id]
    refine hK _ _ ?_
    clear hK K
    refine den_ret ?_
    simp (disch := decide) only [resP_2, puts_same, puts_ne]
    exact ⟨by rw [placeR, if_pos c2], (Ext.trans (Ext.trans e0_0 e0_1) eB)⟩

set_option maxRecDepth 100000 in
theorem iPOP_ok (vx vy : Value) (X Y : Cx) (i a j b : Int) (h : Heap) (hx : RC h vx X) (hy : RC h vy Y) : CallA Try.prog 21 #[vx, vy, .int .i64 i, .int .i64 a, .int .i64 j, .int .i64 b] h fun v' h' => v' = .tuple #[.int .i64 (placeR X Y i a j b).1, .int .i64 (placeR X Y i a j b).2] ∧ Ext h h' := by
  obtain ⟨vd, vm, rfl, hd, hm⟩ := hx
  obtain ⟨vdy, vmy, rfl, hdy, hmy⟩ := hy
  have hle := RdS.le hd
  have hley := RdS.le hdy
  refine callA_intro TTok (args := [_, _, _, _, _, _]) Try.func21 (by kernel_rfl) rfl 49 rfl (by simp) [.tmp 12, .tmp 13] rfl ?_
  simp only [idxs, Nat.reduceAdd]
  refine den_seq ?_
  refine den_region TTok ?_
  intro K hK
  simp -implicitDefEqProofs (disch := first | decide | assumption | omega) only [go_sem, RdS.len hd sl37, RdS.idx hd sl37, R1.intB hd (HPres.refl _), RdS.cells hd, RdS.len hm sl38, RdS.idx hm sl38, RdS.cellB hm (HPres.refl _), RdS.cells hm, RdS.len hdy sl37, RdS.idx hdy sl37, R1.intB hdy (HPres.refl _), RdS.cells hdy, RdS.len hmy sl38, RdS.idx hmy sl38, RdS.cellB hmy (HPres.refl _), RdS.cells hmy, wrap_id]
  refine op_box (cs := #[.int .i64 (X.p), vd, vm]) rfl ?_
  intro h0_0 e0_0 hb0_0 z0_0
  replace hd := RdS.pres hd (Ext.pres e0_0)
  replace hm := RdS.pres hm (Ext.pres e0_0)
  replace hdy := RdS.pres hdy (Ext.pres e0_0)
  replace hmy := RdS.pres hmy (Ext.pres e0_0)
  try simp -implicitDefEqProofs (disch := first | decide | assumption | omega) only [go_sem, RdS.len hd sl37, RdS.idx hd sl37, R1.intB hd (HPres.refl _), RdS.cells hd, RdS.len hm sl38, RdS.idx hm sl38, RdS.cellB hm (HPres.refl _), RdS.cells hm, RdS.len hdy sl37, RdS.idx hdy sl37, R1.intB hdy (HPres.refl _), RdS.cells hdy, RdS.len hmy sl38, RdS.idx hmy sl38, RdS.cellB hmy (HPres.refl _), RdS.cells hmy, BoxAt.cell hb0_0, wrap_id]
  refine op_box (cs := #[.int .i64 (Y.p), vdy, vmy]) rfl ?_
  intro h0_1 e0_1 hb0_1 z0_1
  replace hd := RdS.pres hd (Ext.pres e0_1)
  replace hm := RdS.pres hm (Ext.pres e0_1)
  replace hdy := RdS.pres hdy (Ext.pres e0_1)
  replace hmy := RdS.pres hmy (Ext.pres e0_1)
  replace hb0_0 := BoxAt.ext hb0_0 e0_1
  try simp -implicitDefEqProofs (disch := first | decide | assumption | omega) only [go_sem, RdS.len hd sl37, RdS.idx hd sl37, R1.intB hd (HPres.refl _), RdS.cells hd, RdS.len hm sl38, RdS.idx hm sl38, RdS.cellB hm (HPres.refl _), RdS.cells hm, RdS.len hdy sl37, RdS.idx hdy sl37, R1.intB hdy (HPres.refl _), RdS.cells hdy, RdS.len hmy sl38, RdS.idx hmy sl38, RdS.cellB hmy (HPres.refl _), RdS.cells hmy, BoxAt.cell hb0_0, BoxAt.cell hb0_1, wrap_id]
  refine hK _ _ ?_
  clear hK K
  refine den_seq ?_
  refine den_region TTok ?_
  intro K hK
  simp -implicitDefEqProofs (disch := first | decide | assumption | omega) only [go_sem, ld44, RdS.len hd sl37, RdS.idx hd sl37, R1.intB hd (HPres.refl _), RdS.cells hd, RdS.len hm sl38, RdS.idx hm sl38, RdS.cellB hm (HPres.refl _), RdS.cells hm, RdS.len hdy sl37, RdS.idx hdy sl37, R1.intB hdy (HPres.refl _), RdS.cells hdy, RdS.len hmy sl38, RdS.idx hmy sl38, RdS.cellB hmy (HPres.refl _), RdS.cells hmy, BoxAt.cell hb0_0, BoxAt.cell hb0_1, wrap_id]
  refine op_bs2C (X := X) (Y := Y) ⟨_, _, rfl, hd, hm⟩ ⟨_, _, rfl, hdy, hmy⟩ ?_
  intro v1_2 h1_2 ho1_2 e1_2
  have := Ext.size e1_2
  have eB := e1_2
  try simp -implicitDefEqProofs (disch := first | decide | assumption | omega) only [go_sem, RdS.len hd sl37, RdS.idx hd sl37, R1.intB hd (Ext.pres eB), RdS.cells hd, RdS.len hm sl38, RdS.idx hm sl38, RdS.cellB hm (Ext.pres eB), RdS.cells hm, RdS.len hdy sl37, RdS.idx hdy sl37, R1.intB hdy (Ext.pres eB), RdS.cells hdy, RdS.len hmy sl38, RdS.idx hmy sl38, RdS.cellB hmy (Ext.pres eB), RdS.cells hmy, BoxAt.cellB hb0_0 eB, BoxAt.cellB hb0_1 eB, wrap_id]
  try simp -implicitDefEqProofs (disch := first | decide | assumption | omega) only [go_sem, RdS.len hd sl37, RdS.idx hd sl37, R1.intB hd (Ext.pres eB), RdS.cells hd, RdS.len hm sl38, RdS.idx hm sl38, RdS.cellB hm (Ext.pres eB), RdS.cells hm, RdS.len hdy sl37, RdS.idx hdy sl37, R1.intB hdy (Ext.pres eB), RdS.cells hdy, RdS.len hmy sl38, RdS.idx hmy sl38, RdS.cellB hmy (Ext.pres eB), RdS.cells hmy, BoxAt.cellB hb0_0 eB, BoxAt.cellB hb0_1 eB, wrap_id]
  refine CallA.mono (same2_ok _ _ _ _ ho1_2) ?_
  intro v_ h1_3
  rintro ⟨rfl, e1_3⟩
  replace ho1_2 := RdA.pres ho1_2 (Ext.pres e1_3)
  have := Ext.size e1_3
  replace eB := Ext.trans eB e1_3
  try simp -implicitDefEqProofs (disch := first | decide | assumption | omega) only [go_sem, RdS.len hd sl37, RdS.idx hd sl37, R1.intB hd (Ext.pres eB), RdS.cells hd, RdS.len hm sl38, RdS.idx hm sl38, RdS.cellB hm (Ext.pres eB), RdS.cells hm, RdS.len hdy sl37, RdS.idx hdy sl37, R1.intB hdy (Ext.pres eB), RdS.cells hdy, RdS.len hmy sl38, RdS.idx hmy sl38, RdS.cellB hmy (Ext.pres eB), RdS.cells hmy, BoxAt.cellB hb0_0 eB, BoxAt.cellB hb0_1 eB, wrap_id]
  refine hK _ _ ?_
  clear hK K
  refine den_seq ?_
  refine den_seq ?_
  refine den_merge [(38, .bool ((((twoP X Y) == (0 : Int)) && ((!((in3 a (0 : Int) ((dimP X i) - (1 : Int))))) || (!((in3 b (0 : Int) ((dimP Y j) - (1 : Int)))))))))] [2, 3, 4, 5, 6, 7, 14] (fun H => Ext h1_3 H) ?_ ?_
    -- a way
  · refine den_region TTok ?_
    intro K hK
    simp -implicitDefEqProofs (disch := first | decide | assumption | (simp (disch := decide) only [slotOf_zero, slotOf_succ, Option.map_some, puts_same, puts_ne, gv_bool, gv_undef, tt, tf, ft, ff, eq_self, if_true, if_false, Bool.false_eq_true, Bool.not_true, Bool.not_false]; done) | omega) only [go_sem, RdS.len hd sl37, RdS.idx hd sl37, R1.intB hd (Ext.pres eB), RdS.cells hd, RdS.len hm sl38, RdS.idx hm sl38, RdS.cellB hm (Ext.pres eB), RdS.cells hm, RdS.len hdy sl37, RdS.idx hdy sl37, R1.intB hdy (Ext.pres eB), RdS.cells hdy, RdS.len hmy sl38, RdS.idx hmy sl38, RdS.cellB hmy (Ext.pres eB), RdS.cells hmy, BoxAt.cellB hb0_0 eB, BoxAt.cellB hb0_1 eB, wrap_id]
    refine opsP_T (by simp (disch := decide) only [slotOf_zero, slotOf_succ, Option.map_some, puts_same, puts_ne, gv_bool, gv_undef, tt, tf, ft, ff, eq_self, if_true, if_false, Bool.false_eq_true, Bool.not_true, Bool.not_false]; rfl) (fun g1 => ?_) (fun g1 => ?_)
    · have hz := b0 g1
      obtain ⟨hX, hY, _⟩ := twoP_0 hz
      have hdi := dimP_bnd hX i
      have hdj := dimP_bnd hY j
      try simp -implicitDefEqProofs (disch := first | decide | assumption | (simp (disch := decide) only [slotOf_zero, slotOf_succ, Option.map_some, puts_same, puts_ne, gv_bool, gv_undef, tt, tf, ft, ff, eq_self, if_true, if_false, Bool.false_eq_true, Bool.not_true, Bool.not_false, g1]; done) | omega) only [go_sem, ld44, RdS.len hd sl37, RdS.idx hd sl37, R1.intB hd (Ext.pres eB), RdS.cells hd, RdS.len hm sl38, RdS.idx hm sl38, RdS.cellB hm (Ext.pres eB), RdS.cells hm, RdS.len hdy sl37, RdS.idx hdy sl37, R1.intB hdy (Ext.pres eB), RdS.cells hdy, RdS.len hmy sl38, RdS.idx hmy sl38, RdS.cellB hmy (Ext.pres eB), RdS.cells hmy, BoxAt.cellB hb0_0 eB, BoxAt.cellB hb0_1 eB, wrap_id, g1, eq_self, if_true, if_false, Bool.false_eq_true]
      try simp -implicitDefEqProofs (disch := first | decide | assumption | omega) only [go_sem, RdS.len hd sl37, RdS.idx hd sl37, R1.intB hd (Ext.pres eB), RdS.cells hd, RdS.len hm sl38, RdS.idx hm sl38, RdS.cellB hm (Ext.pres eB), RdS.cells hm, RdS.len hdy sl37, RdS.idx hdy sl37, R1.intB hdy (Ext.pres eB), RdS.cells hdy, RdS.len hmy sl38, RdS.idx hmy sl38, RdS.cellB hmy (Ext.pres eB), RdS.cells hmy, BoxAt.cellB hb0_0 eB, BoxAt.cellB hb0_1 eB, wrap_id]
      refine CallA.mono (iDim_ok _ X _ _ ⟨_, _, rfl, (RdS.pres hd (Ext.pres eB)), (RdS.pres hm (Ext.pres eB))⟩) ?_
      intro v_ h2_6
      rintro ⟨rfl, e2_6⟩
      replace ho1_2 := RdA.pres ho1_2 (Ext.pres e2_6)
      have := Ext.size e2_6
      replace eB := Ext.trans eB e2_6
      try simp -implicitDefEqProofs (disch := first | decide | assumption | (simp (disch := decide) only [slotOf_zero, slotOf_succ, Option.map_some, puts_same, puts_ne, gv_bool, gv_undef, tt, tf, ft, ff, eq_self, if_true, if_false, Bool.false_eq_true, Bool.not_true, Bool.not_false, g1]; done) | omega) only [go_sem, RdS.len hd sl37, RdS.idx hd sl37, R1.intB hd (Ext.pres eB), RdS.cells hd, RdS.len hm sl38, RdS.idx hm sl38, RdS.cellB hm (Ext.pres eB), RdS.cells hm, RdS.len hdy sl37, RdS.idx hdy sl37, R1.intB hdy (Ext.pres eB), RdS.cells hdy, RdS.len hmy sl38, RdS.idx hmy sl38, RdS.cellB hmy (Ext.pres eB), RdS.cells hmy, BoxAt.cellB hb0_0 eB, BoxAt.cellB hb0_1 eB, wrap_id, g1, eq_self, if_true, if_false, Bool.false_eq_true]
      try simp -implicitDefEqProofs (disch := first | decide | assumption | omega) only [go_sem, RdS.len hd sl37, RdS.idx hd sl37, R1.intB hd (Ext.pres eB), RdS.cells hd, RdS.len hm sl38, RdS.idx hm sl38, RdS.cellB hm (Ext.pres eB), RdS.cells hm, RdS.len hdy sl37, RdS.idx hdy sl37, R1.intB hdy (Ext.pres eB), RdS.cells hdy, RdS.len hmy sl38, RdS.idx hmy sl38, RdS.cellB hmy (Ext.pres eB), RdS.cells hmy, BoxAt.cellB hb0_0 eB, BoxAt.cellB hb0_1 eB, wrap_id]
      refine CallA.pure (iIn_ok _ _ _ _) ?_
      try simp -implicitDefEqProofs (disch := first | decide | assumption | (simp (disch := decide) only [slotOf_zero, slotOf_succ, Option.map_some, puts_same, puts_ne, gv_bool, gv_undef, tt, tf, ft, ff, eq_self, if_true, if_false, Bool.false_eq_true, Bool.not_true, Bool.not_false, g1]; done) | omega) only [go_sem, RdS.len hd sl37, RdS.idx hd sl37, R1.intB hd (Ext.pres eB), RdS.cells hd, RdS.len hm sl38, RdS.idx hm sl38, RdS.cellB hm (Ext.pres eB), RdS.cells hm, RdS.len hdy sl37, RdS.idx hdy sl37, R1.intB hdy (Ext.pres eB), RdS.cells hdy, RdS.len hmy sl38, RdS.idx hmy sl38, RdS.cellB hmy (Ext.pres eB), RdS.cells hmy, BoxAt.cellB hb0_0 eB, BoxAt.cellB hb0_1 eB, wrap_id, g1, eq_self, if_true, if_false, Bool.false_eq_true]
      refine opsP_F (by simp (disch := decide) only [slotOf_zero, slotOf_succ, Option.map_some, puts_same, puts_ne, gv_bool, gv_undef, tt, tf, ft, ff, eq_self, if_true, if_false, Bool.false_eq_true, Bool.not_true, Bool.not_false, g1]; rfl) (fun g2 => ?_) (fun g2 => ?_)
      · try simp -implicitDefEqProofs (disch := first | decide | assumption | (simp (disch := decide) only [slotOf_zero, slotOf_succ, Option.map_some, puts_same, puts_ne, gv_bool, gv_undef, tt, tf, ft, ff, eq_self, if_true, if_false, Bool.false_eq_true, Bool.not_true, Bool.not_false, g1, g2]; done) | omega) only [go_sem, ld44, RdS.len hd sl37, RdS.idx hd sl37, R1.intB hd (Ext.pres eB), RdS.cells hd, RdS.len hm sl38, RdS.idx hm sl38, RdS.cellB hm (Ext.pres eB), RdS.cells hm, RdS.len hdy sl37, RdS.idx hdy sl37, R1.intB hdy (Ext.pres eB), RdS.cells hdy, RdS.len hmy sl38, RdS.idx hmy sl38, RdS.cellB hmy (Ext.pres eB), RdS.cells hmy, BoxAt.cellB hb0_0 eB, BoxAt.cellB hb0_1 eB, wrap_id, g1, g2, eq_self, if_true, if_false, Bool.false_eq_true]
        try simp -implicitDefEqProofs (disch := first | decide | assumption | omega) only [go_sem, RdS.len hd sl37, RdS.idx hd sl37, R1.intB hd (Ext.pres eB), RdS.cells hd, RdS.len hm sl38, RdS.idx hm sl38, RdS.cellB hm (Ext.pres eB), RdS.cells hm, RdS.len hdy sl37, RdS.idx hdy sl37, R1.intB hdy (Ext.pres eB), RdS.cells hdy, RdS.len hmy sl38, RdS.idx hmy sl38, RdS.cellB hmy (Ext.pres eB), RdS.cells hmy, BoxAt.cellB hb0_0 eB, BoxAt.cellB hb0_1 eB, wrap_id]
        refine CallA.mono (iDim_ok _ Y _ _ ⟨_, _, rfl, (RdS.pres hdy (Ext.pres eB)), (RdS.pres hmy (Ext.pres eB))⟩) ?_
        intro v_ h2_14
        rintro ⟨rfl, e2_14⟩
        replace ho1_2 := RdA.pres ho1_2 (Ext.pres e2_14)
        have := Ext.size e2_14
        replace eB := Ext.trans eB e2_14
        try simp -implicitDefEqProofs (disch := first | decide | assumption | (simp (disch := decide) only [slotOf_zero, slotOf_succ, Option.map_some, puts_same, puts_ne, gv_bool, gv_undef, tt, tf, ft, ff, eq_self, if_true, if_false, Bool.false_eq_true, Bool.not_true, Bool.not_false, g1, g2]; done) | omega) only [go_sem, RdS.len hd sl37, RdS.idx hd sl37, R1.intB hd (Ext.pres eB), RdS.cells hd, RdS.len hm sl38, RdS.idx hm sl38, RdS.cellB hm (Ext.pres eB), RdS.cells hm, RdS.len hdy sl37, RdS.idx hdy sl37, R1.intB hdy (Ext.pres eB), RdS.cells hdy, RdS.len hmy sl38, RdS.idx hmy sl38, RdS.cellB hmy (Ext.pres eB), RdS.cells hmy, BoxAt.cellB hb0_0 eB, BoxAt.cellB hb0_1 eB, wrap_id, g1, g2, eq_self, if_true, if_false, Bool.false_eq_true]
        try simp -implicitDefEqProofs (disch := first | decide | assumption | omega) only [go_sem, RdS.len hd sl37, RdS.idx hd sl37, R1.intB hd (Ext.pres eB), RdS.cells hd, RdS.len hm sl38, RdS.idx hm sl38, RdS.cellB hm (Ext.pres eB), RdS.cells hm, RdS.len hdy sl37, RdS.idx hdy sl37, R1.intB hdy (Ext.pres eB), RdS.cells hdy, RdS.len hmy sl38, RdS.idx hmy sl38, RdS.cellB hmy (Ext.pres eB), RdS.cells hmy, BoxAt.cellB hb0_0 eB, BoxAt.cellB hb0_1 eB, wrap_id]
        refine CallA.pure (iIn_ok _ _ _ _) ?_
        try simp -implicitDefEqProofs (disch := first | decide | assumption | (simp (disch := decide) only [slotOf_zero, slotOf_succ, Option.map_some, puts_same, puts_ne, gv_bool, gv_undef, tt, tf, ft, ff, eq_self, if_true, if_false, Bool.false_eq_true, Bool.not_true, Bool.not_false, g1, g2]; done) | omega) only [go_sem, RdS.len hd sl37, RdS.idx hd sl37, R1.intB hd (Ext.pres eB), RdS.cells hd, RdS.len hm sl38, RdS.idx hm sl38, RdS.cellB hm (Ext.pres eB), RdS.cells hm, RdS.len hdy sl37, RdS.idx hdy sl37, R1.intB hdy (Ext.pres eB), RdS.cells hdy, RdS.len hmy sl38, RdS.idx hmy sl38, RdS.cellB hmy (Ext.pres eB), RdS.cells hmy, BoxAt.cellB hb0_0 eB, BoxAt.cellB hb0_1 eB, wrap_id, g1, g2, eq_self, if_true, if_false, Bool.false_eq_true]
        refine hK _ _ ?_
        clear hK K
        refine den_stop ?_
        refine ⟨?_, (Ext.trans e2_6 e2_14)⟩
        first | (simp (disch := decide) only [go_sem, g1, g2, eq_self, Bool.true_and, Bool.and_true, Bool.false_and, Bool.and_false, Bool.true_or, Bool.or_true, Bool.false_or, Bool.or_false, if_true, if_false, Bool.false_eq_true]; done) | simp [HasL, sel, puts_at, g1, g2]
      · try simp -implicitDefEqProofs (disch := first | decide | assumption | (simp (disch := decide) only [slotOf_zero, slotOf_succ, Option.map_some, puts_same, puts_ne, gv_bool, gv_undef, tt, tf, ft, ff, eq_self, if_true, if_false, Bool.false_eq_true, Bool.not_true, Bool.not_false, g1, g2]; done) | omega) only [go_sem, RdS.len hd sl37, RdS.idx hd sl37, R1.intB hd (Ext.pres eB), RdS.cells hd, RdS.len hm sl38, RdS.idx hm sl38, RdS.cellB hm (Ext.pres eB), RdS.cells hm, RdS.len hdy sl37, RdS.idx hdy sl37, R1.intB hdy (Ext.pres eB), RdS.cells hdy, RdS.len hmy sl38, RdS.idx hmy sl38, RdS.cellB hmy (Ext.pres eB), RdS.cells hmy, BoxAt.cellB hb0_0 eB, BoxAt.cellB hb0_1 eB, wrap_id, g1, g2, eq_self, if_true, if_false, Bool.false_eq_true]
        refine hK _ _ ?_
        clear hK K
        refine den_stop ?_
        refine ⟨?_, e2_6⟩
        first | (simp (disch := decide) only [go_sem, g1, g2, eq_self, Bool.true_and, Bool.and_true, Bool.false_and, Bool.and_false, Bool.true_or, Bool.or_true, Bool.false_or, Bool.or_false, if_true, if_false, Bool.false_eq_true]; done) | simp [HasL, sel, puts_at, g1, g2]
    · try simp -implicitDefEqProofs (disch := first | decide | assumption | (simp (disch := decide) only [slotOf_zero, slotOf_succ, Option.map_some, puts_same, puts_ne, gv_bool, gv_undef, tt, tf, ft, ff, eq_self, if_true, if_false, Bool.false_eq_true, Bool.not_true, Bool.not_false, g1]; done) | omega) only [go_sem, RdS.len hd sl37, RdS.idx hd sl37, R1.intB hd (Ext.pres eB), RdS.cells hd, RdS.len hm sl38, RdS.idx hm sl38, RdS.cellB hm (Ext.pres eB), RdS.cells hm, RdS.len hdy sl37, RdS.idx hdy sl37, R1.intB hdy (Ext.pres eB), RdS.cells hdy, RdS.len hmy sl38, RdS.idx hmy sl38, RdS.cellB hmy (Ext.pres eB), RdS.cells hmy, BoxAt.cellB hb0_0 eB, BoxAt.cellB hb0_1 eB, wrap_id, g1, eq_self, if_true, if_false, Bool.false_eq_true]
      try simp -implicitDefEqProofs (disch := first | decide | assumption | (simp (disch := decide) only [slotOf_zero, slotOf_succ, Option.map_some, puts_same, puts_ne, gv_bool, gv_undef, tt, tf, ft, ff, eq_self, if_true, if_false, Bool.false_eq_true, Bool.not_true, Bool.not_false, g1]; done) | omega) only [go_sem, RdS.len hd sl37, RdS.idx hd sl37, R1.intB hd (Ext.pres eB), RdS.cells hd, RdS.len hm sl38, RdS.idx hm sl38, RdS.cellB hm (Ext.pres eB), RdS.cells hm, RdS.len hdy sl37, RdS.idx hdy sl37, R1.intB hdy (Ext.pres eB), RdS.cells hdy, RdS.len hmy sl38, RdS.idx hmy sl38, RdS.cellB hmy (Ext.pres eB), RdS.cells hmy, BoxAt.cellB hb0_0 eB, BoxAt.cellB hb0_1 eB, wrap_id, g1, eq_self, if_true, if_false, Bool.false_eq_true]
      refine hK _ _ ?_
      clear hK K
      refine den_stop ?_
      refine ⟨?_, Ext.refl _⟩
      first | (simp (disch := decide) only [go_sem, g1, eq_self, Bool.true_and, Bool.and_true, Bool.false_and, Bool.and_false, Bool.true_or, Bool.or_true, Bool.false_or, Bool.or_false, if_true, if_false, Bool.false_eq_true]; done) | simp [HasL, sel, puts_at, g1]
  intro en3 h4 e5
  replace ho1_2 := RdA.pres ho1_2 (Ext.pres e5)
  have := Ext.size e5
  replace eB := Ext.trans eB e5
  simp (disch := decide) only [go_sem]
  refine den_mergeH [(14, .int .i64 ((codI X Y i a j b)))] [2, 3, 4, 5, 6, 7] ?_ ?_
  · refine den_cond rfl (fun c0 => ?_) (fun c0 => ?_)
    · refine den_region TTok ?_
      intro K hK
      simp -implicitDefEqProofs (disch := first | decide | assumption | omega) only [go_sem, RdS.len hd sl37, RdS.idx hd sl37, R1.intB hd (Ext.pres eB), RdS.cells hd, RdS.len hm sl38, RdS.idx hm sl38, RdS.cellB hm (Ext.pres eB), RdS.cells hm, RdS.len hdy sl37, RdS.idx hdy sl37, R1.intB hdy (Ext.pres eB), RdS.cells hdy, RdS.len hmy sl38, RdS.idx hmy sl38, RdS.cellB hmy (Ext.pres eB), RdS.cells hmy, BoxAt.cellB hb0_0 eB, BoxAt.cellB hb0_1 eB, wrap_id]
      refine hK _ _ ?_
      clear hK K
      refine den_stop ?_
      refine ⟨?_, rfl⟩; simp (disch := decide) only [go_sem, c0, codI, eq_self, if_true, if_false, Bool.false_eq_true, reduceCtorEq]
    · refine den_skip ?_
      refine den_stop ?_
      refine ⟨?_, rfl⟩; simp (disch := decide) only [go_sem, c0, codI, eq_self, if_true, if_false, Bool.false_eq_true, reduceCtorEq]
  intro en6
  simp (disch := decide) only [go_sem]
  refine den_seq ?_
  refine den_seq ?_
  rw [codI_eq]
  refine den_region TTok ?_
  intro K hK
  simp -implicitDefEqProofs (disch := first | decide | assumption | omega) only [go_sem, RdS.len hd sl37, RdS.idx hd sl37, R1.intB hd (Ext.pres eB), RdS.cells hd, RdS.len hm sl38, RdS.idx hm sl38, RdS.cellB hm (Ext.pres eB), RdS.cells hm, RdS.len hdy sl37, RdS.idx hdy sl37, R1.intB hdy (Ext.pres eB), RdS.cells hdy, RdS.len hmy sl38, RdS.idx hmy sl38, RdS.cellB hmy (Ext.pres eB), RdS.cells hmy, BoxAt.cellB hb0_0 eB, BoxAt.cellB hb0_1 eB, wrap_id]
  refine hK _ _ ?_
  clear hK K
  refine den_cond rfl (fun c1 => ?_) (fun c1 => ?_)
  · try simp only [decide_eq_true_eq, decide_eq_false_iff_not, beq_iff_eq, beq_eq_false_iff_ne, bne_iff_ne, ne_eq, Bool.not_eq_true', Bool.not_eq_false', Bool.and_eq_true, Bool.or_eq_true, bne_eq_false_iff_eq] at c1
    refine den_seq ?_
    refine den_region TTok ?_
    intro K hK
    simp -implicitDefEqProofs (disch := first | decide | assumption | omega) only [go_sem, RdS.len hd sl37, RdS.idx hd sl37, R1.intB hd (Ext.pres eB), RdS.cells hd, RdS.len hm sl38, RdS.idx hm sl38, RdS.cellB hm (Ext.pres eB), RdS.cells hm, RdS.len hdy sl37, RdS.idx hdy sl37, R1.intB hdy (Ext.pres eB), RdS.cells hdy, RdS.len hmy sl38, RdS.idx hmy sl38, RdS.cellB hmy (Ext.pres eB), RdS.cells hmy, BoxAt.cellB hb0_0 eB, BoxAt.cellB hb0_1 eB, wrap_id]
    refine hK _ _ ?_
    clear hK K
    refine den_ret ?_
    simp (disch := decide) only [resP_2, puts_same, puts_ne]
    exact ⟨by rw [placeR, if_neg c1], (Ext.trans (Ext.trans e0_0 e0_1) eB)⟩
  · try simp only [decide_eq_true_eq, decide_eq_false_iff_not, beq_iff_eq, beq_eq_false_iff_ne, bne_iff_ne, ne_eq, Bool.not_eq_true', Bool.not_eq_false', Bool.and_eq_true, Bool.or_eq_true, bne_eq_false_iff_eq] at c1
    refine den_skip ?_
    refine den_seq ?_
    have hq := cod2_0 c1
    refine den_region TTok ?_
    intro K hK
    simp -implicitDefEqProofs (disch := first | decide | assumption | omega) only [go_sem, ld44, RdS.len hd sl37, RdS.idx hd sl37, R1.intB hd (Ext.pres eB), RdS.cells hd, RdS.len hm sl38, RdS.idx hm sl38, RdS.cellB hm (Ext.pres eB), RdS.cells hm, RdS.len hdy sl37, RdS.idx hdy sl37, R1.intB hdy (Ext.pres eB), RdS.cells hdy, RdS.len hmy sl38, RdS.idx hmy sl38, RdS.cellB hmy (Ext.pres eB), RdS.cells hmy, BoxAt.cellB hb0_0 eB, BoxAt.cellB hb0_1 eB, wrap_id]
    try simp -implicitDefEqProofs (disch := first | decide | assumption | omega) only [go_sem, RdS.len hd sl37, RdS.idx hd sl37, R1.intB hd (Ext.pres eB), RdS.cells hd, RdS.len hm sl38, RdS.idx hm sl38, RdS.cellB hm (Ext.pres eB), RdS.cells hm, RdS.len hdy sl37, RdS.idx hdy sl37, R1.intB hdy (Ext.pres eB), RdS.cells hdy, RdS.len hmy sl38, RdS.idx hmy sl38, RdS.cellB hmy (Ext.pres eB), RdS.cells hmy, BoxAt.cellB hb0_0 eB, BoxAt.cellB hb0_1 eB, wrap_id]
    refine CallA.mono (iPlace_ok _ _ X Y _ _ _ _ _ ⟨_, _, rfl, (RdS.pres hd (Ext.pres eB)), (RdS.pres hm (Ext.pres eB))⟩ ⟨_, _, rfl, (RdS.pres hdy (Ext.pres eB)), (RdS.pres hmy (Ext.pres eB))⟩ hq.1 hq.2.1 (by omega) (by omega) (by omega) (by omega)) ?_
    intro v_ h6_6
    rintro ⟨rfl, e6_6⟩
    replace ho1_2 := RdA.pres ho1_2 (Ext.pres e6_6)
    have := Ext.size e6_6
    replace eB := Ext.trans eB e6_6
    try simp -implicitDefEqProofs (disch := first | decide | assumption | omega) only [go_sem, RdS.len hd sl37, RdS.idx hd sl37, R1.intB hd (Ext.pres eB), RdS.cells hd, RdS.len hm sl38, RdS.idx hm sl38, RdS.cellB hm (Ext.pres eB), RdS.cells hm, RdS.len hdy sl37, RdS.idx hdy sl37, R1.intB hdy (Ext.pres eB), RdS.cells hdy, RdS.len hmy sl38, RdS.idx hmy sl38, RdS.cellB hmy (Ext.pres eB), RdS.cells hmy, BoxAt.cellB hb0_0 eB, BoxAt.cellB hb0_1 eB, wrap_id]
    refine hK _ _ ?_
    clear hK K
    refine den_ret ?_
    simp (disch := decide) only [resP_2, puts_same, puts_ne]
    exact ⟨by rw [placeR, if_pos c1], (Ext.trans (Ext.trans e0_0 e0_1) eB)⟩

end Go.Proofs.Ytkkjhomhndpphaa
