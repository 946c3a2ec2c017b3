/-
  Walks: the code of two complexes.
  Conditions: each theorem's own.
-/
import Derived.Test.YtffggocjkhcgeaaA2
set_option linter.unusedVariables false
set_option linter.unusedSimpArgs false
namespace Go.Proofs.Ytffggocjkhcgeaa
open Go
/-- A code, and another one where the first is 0. -/
def cadd (c e : Int) (b : Bool) : Int := if ((c == 0) && b) = true then e else c
theorem cadd_0 {c e : Int} {b : Bool} (he : e ≠ 0) : cadd c e b = 0 ↔ c = 0 ∧ b = false := by
  unfold cadd
  by_cases h : c = 0 <;> cases b <;> simp [h, he]
theorem b0 {x : Int} (h : (x == 0) = true) : x = 0 := by simpa using h
theorem caddT {c e : Int} {b : Bool} (h : ((c == 0) && b) = true) : cadd c e b = e := if_pos h
theorem caddF {c e : Int} {b : Bool} (h : ((c == 0) && b) = false) : cadd c e b = c := if_neg (by rw [h]; decide)
theorem cadd_n {c e : Int} {b : Bool} (h : c ≠ 0) : cadd c e b = c := by simp [cadd, h]
theorem cadd_z {e : Int} {b : Bool} : cadd 0 e b = if b = true then e else 0 := by simp [cadd]
noncomputable def pairC (X Y : Cx) : Int := if isC X = true ∧ isC Y = true then (if X.p = Y.p ∧ X.dims.length = Y.dims.length then 0 else 2) else 1
noncomputable def pairL (L : List Cx) : Int := if L.all isC = true then (if L.all (fun X => X.p == (L.getD 0 default).p && X.dims.length == (L.getD 0 default).dims.length) = true then 0 else 2) else 1
theorem pairL_two (X Y : Cx) : pairL [X, Y] = pairC X Y := by
  unfold pairL pairC
  by_cases h1 : isC X = true <;> by_cases h2 : isC Y = true <;> by_cases h3 : X.p = Y.p <;> by_cases h4 : X.dims.length = Y.dims.length <;> simp [h1, h2, h3, h4, eq_comm (a := Y.p), eq_comm (a := Y.dims.length)]
theorem pairC_0 {X Y : Cx} (h : pairC X Y = 0) : IsC X ∧ IsC Y ∧ X.p = Y.p ∧ X.dims.length = Y.dims.length := by
  unfold pairC at h
  split at h
  · rename_i hc
    split at h
    · rename_i h2; exact ⟨isC_t.1 hc.1, isC_t.1 hc.2, h2.1, h2.2⟩
    · cases h
  · cases h
theorem pairC_bnd (X Y : Cx) : 0 ≤ pairC X Y ∧ pairC X Y ≤ 2 := by
  unfold pairC
  split
  · split <;> omega
  · omega
theorem dimP_at {X : Cx} {k : Nat} (h : k < X.dims.length) : dimP X (k : Int) = X.dims.getD k 0 := by
  rw [dimP, if_pos (in3_iff.2 ⟨by omega, by omega⟩)]; rfl

set_option maxRecDepth 100000 in
theorem l04Two_ok (vX vY : Value) (X : Cx) (Y : Cx) (h : Heap) (rX : RC h vX X) (rY : RC h vY Y)  : CallA Try.prog 84 #[vX, vY] h fun v' h' => v' = .int .i64 (pairC X Y) ∧ Ext h h' := by
  obtain ⟨vdX, vmX, rfl, hdX, hmX⟩ := rX
  have hledX := RdS.le hdX
  have hlemX := RdS.le hmX
  obtain ⟨vdY, vmY, rfl, hdY, hmY⟩ := rY
  have hledY := RdS.le hdY
  have hlemY := RdS.le hmY
  refine callA_intro TTok (args := [_, _]) Try.func84 (by kernel_rfl) rfl 29 rfl (by simp) [.tmp 4] rfl ?_
  simp only [idxs, Nat.reduceAdd]
  refine den_seq ?_
  refine den_region TTok ?_
  intro K hK
  simp -implicitDefEqProofs (disch := first | decide | assumption | omega) only [go_sem, RdS.len hdX sl22, RdS.idx hdX sl22, R1.intB hdX (HPres.refl _), RdS.cells hdX, RdS.len hmX sl23, RdS.idx hmX sl23, RdS.cellB hmX (HPres.refl _), RdS.cells hmX, RdS.len hdY sl22, RdS.idx hdY sl22, R1.intB hdY (HPres.refl _), RdS.cells hdY, RdS.len hmY sl23, RdS.idx hmY sl23, RdS.cellB hmY (HPres.refl _), RdS.cells hmY, wrap_id]
  refine op_box (cs := #[.int .i64 (X.p), vdX, vmX]) rfl ?_
  intro h0_0 e0_0 hb0_0 z0_0
  have := Ext.size e0_0
  have eB := e0_0
  have hfhb0_0 : Fresh h.size [h.size] := Fresh.one _
  have hlhb0_0 := one_lt (show h.size < h0_0.size by omega)
  try simp -implicitDefEqProofs (disch := first | decide | assumption | omega) only [go_sem, RdS.len hdX sl22, RdS.idx hdX sl22, R1.intB hdX (Ext.pres eB), RdS.cells hdX, RdS.len hmX sl23, RdS.idx hmX sl23, RdS.cellB hmX (Ext.pres eB), RdS.cells hmX, RdS.len hdY sl22, RdS.idx hdY sl22, R1.intB hdY (Ext.pres eB), RdS.cells hdY, RdS.len hmY sl23, RdS.idx hmY sl23, RdS.cellB hmY (Ext.pres eB), RdS.cells hmY, BoxAt.cell hb0_0, wrap_id]
  refine op_box (cs := #[.int .i64 (Y.p), vdY, vmY]) rfl ?_
  intro h0_1 e0_1 hb0_1 z0_1
  replace hb0_0 := BoxAt.ext hb0_0 e0_1
  have := Ext.size e0_1
  replace eB := Ext.trans eB e0_1
  have hfhb0_1 : Fresh h0_0.size [h0_0.size] := Fresh.one _
  have hlhb0_1 := one_lt (show h0_0.size < h0_1.size by omega)
  try simp -implicitDefEqProofs (disch := first | decide | assumption | omega) only [go_sem, RdS.len hdX sl22, RdS.idx hdX sl22, R1.intB hdX (Ext.pres eB), RdS.cells hdX, RdS.len hmX sl23, RdS.idx hmX sl23, RdS.cellB hmX (Ext.pres eB), RdS.cells hmX, RdS.len hdY sl22, RdS.idx hdY sl22, R1.intB hdY (Ext.pres eB), RdS.cells hdY, RdS.len hmY sl23, RdS.idx hmY sl23, RdS.cellB hmY (Ext.pres eB), RdS.cells hmY, BoxAt.cell hb0_0, BoxAt.cell hb0_1, wrap_id]
  refine hK _ _ ?_
  clear hK K
  refine den_seq ?_
  refine den_block ?_
  refine den_seq ?_
  refine den_merge [(5, .bool (((!((isC X))) || (!((isC Y))))))] [2, 3] (fun H => Ext h0_1 H) ?_ ?_
    -- a way
  · refine den_region TTok ?_
    intro K hK
    simp -implicitDefEqProofs (disch := first | decide | assumption | (simp (disch := decide) only [slotOf_zero, slotOf_succ, Option.map_some, puts_same, puts_ne, gv_bool, gv_undef, tt, tf, ft, ff, eq_self, if_true, if_false, Bool.false_eq_true, Bool.not_true, Bool.not_false]; done) | omega) only [go_sem, ld30, RdS.len hdX sl22, RdS.idx hdX sl22, R1.intB hdX (Ext.pres eB), RdS.cells hdX, RdS.len hmX sl23, RdS.idx hmX sl23, RdS.cellB hmX (Ext.pres eB), RdS.cells hmX, RdS.len hdY sl22, RdS.idx hdY sl22, R1.intB hdY (Ext.pres eB), RdS.cells hdY, RdS.len hmY sl23, RdS.idx hmY sl23, RdS.cellB hmY (Ext.pres eB), RdS.cells hmY, BoxAt.cell hb0_0, BoxAt.cell hb0_1, wrap_id]
    try simp -implicitDefEqProofs (disch := first | decide | assumption | omega) only [go_sem, RdS.len hdX sl22, RdS.idx hdX sl22, R1.intB hdX (Ext.pres eB), RdS.cells hdX, RdS.len hmX sl23, RdS.idx hmX sl23, RdS.cellB hmX (Ext.pres eB), RdS.cells hmX, RdS.len hdY sl22, RdS.idx hdY sl22, R1.intB hdY (Ext.pres eB), RdS.cells hdY, RdS.len hmY sl23, RdS.idx hmY sl23, RdS.cellB hmY (Ext.pres eB), RdS.cells hmY, BoxAt.cell hb0_0, BoxAt.cell hb0_1, wrap_id]
    refine CallA.mono (sIs_ok _ X _ ⟨_, _, rfl, (RdS.pres hdX (Ext.pres eB)), (RdS.pres hmX (Ext.pres eB))⟩) ?_
    intro v_ h1_1
    rintro ⟨rfl, e1_1⟩
    replace hb0_0 := BoxAt.ext hb0_0 e1_1
    replace hb0_1 := BoxAt.ext hb0_1 e1_1
    have := Ext.size e1_1
    replace eB := Ext.trans eB e1_1
    try simp -implicitDefEqProofs (disch := first | decide | assumption | (simp (disch := decide) only [slotOf_zero, slotOf_succ, Option.map_some, puts_same, puts_ne, gv_bool, gv_undef, tt, tf, ft, ff, eq_self, if_true, if_false, Bool.false_eq_true, Bool.not_true, Bool.not_false]; done) | omega) only [go_sem, RdS.len hdX sl22, RdS.idx hdX sl22, R1.intB hdX (Ext.pres eB), RdS.cells hdX, RdS.len hmX sl23, RdS.idx hmX sl23, RdS.cellB hmX (Ext.pres eB), RdS.cells hmX, RdS.len hdY sl22, RdS.idx hdY sl22, R1.intB hdY (Ext.pres eB), RdS.cells hdY, RdS.len hmY sl23, RdS.idx hmY sl23, RdS.cellB hmY (Ext.pres eB), RdS.cells hmY, BoxAt.cell hb0_0, BoxAt.cell hb0_1, wrap_id]
    refine opsP_F (by simp (disch := decide) only [slotOf_zero, slotOf_succ, Option.map_some, puts_same, puts_ne, gv_bool, gv_undef, tt, tf, ft, ff, eq_self, if_true, if_false, Bool.false_eq_true, Bool.not_true, Bool.not_false]; rfl) (fun g1 => ?_) (fun g1 => ?_)
    · try simp -implicitDefEqProofs (disch := first | decide | assumption | (simp (disch := decide) only [slotOf_zero, slotOf_succ, Option.map_some, puts_same, puts_ne, gv_bool, gv_undef, tt, tf, ft, ff, eq_self, if_true, if_false, Bool.false_eq_true, Bool.not_true, Bool.not_false, g1]; done) | omega) only [go_sem, ld30, RdS.len hdX sl22, RdS.idx hdX sl22, R1.intB hdX (Ext.pres eB), RdS.cells hdX, RdS.len hmX sl23, RdS.idx hmX sl23, RdS.cellB hmX (Ext.pres eB), RdS.cells hmX, RdS.len hdY sl22, RdS.idx hdY sl22, R1.intB hdY (Ext.pres eB), RdS.cells hdY, RdS.len hmY sl23, RdS.idx hmY sl23, RdS.cellB hmY (Ext.pres eB), RdS.cells hmY, BoxAt.cell hb0_0, BoxAt.cell hb0_1, wrap_id, g1, eq_self, if_true, if_false, Bool.false_eq_true]
      try simp -implicitDefEqProofs (disch := first | decide | assumption | omega) only [go_sem, RdS.len hdX sl22, RdS.idx hdX sl22, R1.intB hdX (Ext.pres eB), RdS.cells hdX, RdS.len hmX sl23, RdS.idx hmX sl23, RdS.cellB hmX (Ext.pres eB), RdS.cells hmX, RdS.len hdY sl22, RdS.idx hdY sl22, R1.intB hdY (Ext.pres eB), RdS.cells hdY, RdS.len hmY sl23, RdS.idx hmY sl23, RdS.cellB hmY (Ext.pres eB), RdS.cells hmY, BoxAt.cell hb0_0, BoxAt.cell hb0_1, wrap_id]
      refine CallA.mono (sIs_ok _ Y _ ⟨_, _, rfl, (RdS.pres hdY (Ext.pres eB)), (RdS.pres hmY (Ext.pres eB))⟩) ?_
      intro v_ h1_5
      rintro ⟨rfl, e1_5⟩
      replace hb0_0 := BoxAt.ext hb0_0 e1_5
      replace hb0_1 := BoxAt.ext hb0_1 e1_5
      have := Ext.size e1_5
      replace eB := Ext.trans eB e1_5
      try simp -implicitDefEqProofs (disch := first | decide | assumption | (simp (disch := decide) only [slotOf_zero, slotOf_succ, Option.map_some, puts_same, puts_ne, gv_bool, gv_undef, tt, tf, ft, ff, eq_self, if_true, if_false, Bool.false_eq_true, Bool.not_true, Bool.not_false, g1]; done) | omega) only [go_sem, RdS.len hdX sl22, RdS.idx hdX sl22, R1.intB hdX (Ext.pres eB), RdS.cells hdX, RdS.len hmX sl23, RdS.idx hmX sl23, RdS.cellB hmX (Ext.pres eB), RdS.cells hmX, RdS.len hdY sl22, RdS.idx hdY sl22, R1.intB hdY (Ext.pres eB), RdS.cells hdY, RdS.len hmY sl23, RdS.idx hmY sl23, RdS.cellB hmY (Ext.pres eB), RdS.cells hmY, BoxAt.cell hb0_0, BoxAt.cell hb0_1, wrap_id, g1, eq_self, if_true, if_false, Bool.false_eq_true]
      refine hK _ _ ?_
      clear hK K
      refine den_stop ?_
      refine ⟨?_, (Ext.trans e1_1 e1_5)⟩
      first | (simp (disch := decide) only [go_sem, g1, eq_self, Bool.true_and, Bool.and_true, Bool.false_and, Bool.and_false, Bool.true_or, Bool.or_true, Bool.false_or, Bool.or_false, if_true, if_false, Bool.false_eq_true]; done) | simp [HasL, sel, puts_at, g1]
    · try simp -implicitDefEqProofs (disch := first | decide | assumption | (simp (disch := decide) only [slotOf_zero, slotOf_succ, Option.map_some, puts_same, puts_ne, gv_bool, gv_undef, tt, tf, ft, ff, eq_self, if_true, if_false, Bool.false_eq_true, Bool.not_true, Bool.not_false, g1]; done) | omega) only [go_sem, RdS.len hdX sl22, RdS.idx hdX sl22, R1.intB hdX (Ext.pres eB), RdS.cells hdX, RdS.len hmX sl23, RdS.idx hmX sl23, RdS.cellB hmX (Ext.pres eB), RdS.cells hmX, RdS.len hdY sl22, RdS.idx hdY sl22, R1.intB hdY (Ext.pres eB), RdS.cells hdY, RdS.len hmY sl23, RdS.idx hmY sl23, RdS.cellB hmY (Ext.pres eB), RdS.cells hmY, BoxAt.cell hb0_0, BoxAt.cell hb0_1, wrap_id, g1, eq_self, if_true, if_false, Bool.false_eq_true]
      refine hK _ _ ?_
      clear hK K
      refine den_stop ?_
      refine ⟨?_, e1_1⟩
      first | (simp (disch := decide) only [go_sem, g1, eq_self, Bool.true_and, Bool.and_true, Bool.false_and, Bool.and_false, Bool.true_or, Bool.or_true, Bool.false_or, Bool.or_false, if_true, if_false, Bool.false_eq_true]; done) | simp [HasL, sel, puts_at, g1]
  intro en2 h3 e4
  replace hb0_0 := BoxAt.ext hb0_0 e4
  replace hb0_1 := BoxAt.ext hb0_1 e4
  have := Ext.size e4
  replace eB := Ext.trans eB e4
  simp (disch := decide) only [go_sem]
  refine den_cond rfl (fun c0 => ?_) (fun c0 => ?_)
  · try simp only [decide_eq_true_eq, decide_eq_false_iff_not, beq_iff_eq, beq_eq_false_iff_ne, bne_iff_ne, ne_eq, Bool.not_eq_true', Bool.not_eq_false', Bool.and_eq_true, Bool.or_eq_true, bne_eq_false_iff_eq, Bool.or_eq_false_iff, Bool.and_eq_false_iff] at c0
    refine den_seq ?_
    refine den_region TTok ?_
    intro K hK
    simp -implicitDefEqProofs (disch := first | decide | assumption | omega) only [go_sem, RdS.len hdX sl22, RdS.idx hdX sl22, R1.intB hdX (Ext.pres eB), RdS.cells hdX, RdS.len hmX sl23, RdS.idx hmX sl23, RdS.cellB hmX (Ext.pres eB), RdS.cells hmX, RdS.len hdY sl22, RdS.idx hdY sl22, R1.intB hdY (Ext.pres eB), RdS.cells hdY, RdS.len hmY sl23, RdS.idx hmY sl23, RdS.cellB hmY (Ext.pres eB), RdS.cells hmY, wrap_id]
    refine hK _ _ ?_
    clear hK K
    refine den_ret ?_
    simp (disch := decide) only [resP_1, puts_same, puts_ne]
    exact ⟨vint (by rw [pairC, if_neg (by rintro ⟨h1, h2⟩; rw [h1, h2] at c0; simp at c0)]), eB⟩
  · try simp only [decide_eq_true_eq, decide_eq_false_iff_not, beq_iff_eq, beq_eq_false_iff_ne, bne_iff_ne, ne_eq, Bool.not_eq_true', Bool.not_eq_false', Bool.and_eq_true, Bool.or_eq_true, bne_eq_false_iff_eq, Bool.or_eq_false_iff, Bool.and_eq_false_iff] at c0
    refine den_seq ?_
    refine den_mergeH [(14, .bool (((X.p != Y.p) || (((X.dims).length : Int) != ((Y.dims).length : Int)))))] [] ?_ ?_
      -- a way
    · refine den_region TTok ?_
      intro K hK
      simp -implicitDefEqProofs (disch := first | decide | assumption | (simp (disch := decide) only [slotOf_zero, slotOf_succ, Option.map_some, puts_same, puts_ne, gv_bool, gv_undef, tt, tf, ft, ff, eq_self, if_true, if_false, Bool.false_eq_true, Bool.not_true, Bool.not_false]; done) | omega) only [go_sem, fa30_0, ld2, RdS.len hdX sl22, RdS.idx hdX sl22, R1.intB hdX (Ext.pres eB), RdS.cells hdX, RdS.len hmX sl23, RdS.idx hmX sl23, RdS.cellB hmX (Ext.pres eB), RdS.cells hmX, RdS.len hdY sl22, RdS.idx hdY sl22, R1.intB hdY (Ext.pres eB), RdS.cells hdY, RdS.len hmY sl23, RdS.idx hmY sl23, RdS.cellB hmY (Ext.pres eB), RdS.cells hmY, BoxAt.cell hb0_0, BoxAt.cell hb0_1, wrap_id]
      refine opsP_F (by simp (disch := decide) only [slotOf_zero, slotOf_succ, Option.map_some, puts_same, puts_ne, gv_bool, gv_undef, tt, tf, ft, ff, eq_self, if_true, if_false, Bool.false_eq_true, Bool.not_true, Bool.not_false]; rfl) (fun g5 => ?_) (fun g5 => ?_)
      · try simp -implicitDefEqProofs (disch := first | decide | assumption | (simp (disch := decide) only [slotOf_zero, slotOf_succ, Option.map_some, puts_same, puts_ne, gv_bool, gv_undef, tt, tf, ft, ff, eq_self, if_true, if_false, Bool.false_eq_true, Bool.not_true, Bool.not_false, g5]; done) | omega) only [go_sem, fa30_1, ld22, RdS.len hdX sl22, RdS.idx hdX sl22, R1.intB hdX (Ext.pres eB), RdS.cells hdX, RdS.len hmX sl23, RdS.idx hmX sl23, RdS.cellB hmX (Ext.pres eB), RdS.cells hmX, RdS.len hdY sl22, RdS.idx hdY sl22, R1.intB hdY (Ext.pres eB), RdS.cells hdY, RdS.len hmY sl23, RdS.idx hmY sl23, RdS.cellB hmY (Ext.pres eB), RdS.cells hmY, BoxAt.cell hb0_0, BoxAt.cell hb0_1, wrap_id, g5, eq_self, if_true, if_false, Bool.false_eq_true]
        refine hK _ _ ?_
        clear hK K
        refine den_stop ?_
        refine ⟨?_, rfl⟩
        first | (simp (disch := decide) only [go_sem, g5, eq_self, Bool.true_and, Bool.and_true, Bool.false_and, Bool.and_false, Bool.true_or, Bool.or_true, Bool.false_or, Bool.or_false, if_true, if_false, Bool.false_eq_true]; done) | simp [HasL, sel, puts_at, g5]
      · try simp -implicitDefEqProofs (disch := first | decide | assumption | (simp (disch := decide) only [slotOf_zero, slotOf_succ, Option.map_some, puts_same, puts_ne, gv_bool, gv_undef, tt, tf, ft, ff, eq_self, if_true, if_false, Bool.false_eq_true, Bool.not_true, Bool.not_false, g5]; done) | omega) only [go_sem, RdS.len hdX sl22, RdS.idx hdX sl22, R1.intB hdX (Ext.pres eB), RdS.cells hdX, RdS.len hmX sl23, RdS.idx hmX sl23, RdS.cellB hmX (Ext.pres eB), RdS.cells hmX, RdS.len hdY sl22, RdS.idx hdY sl22, R1.intB hdY (Ext.pres eB), RdS.cells hdY, RdS.len hmY sl23, RdS.idx hmY sl23, RdS.cellB hmY (Ext.pres eB), RdS.cells hmY, BoxAt.cell hb0_0, BoxAt.cell hb0_1, wrap_id, g5, eq_self, if_true, if_false, Bool.false_eq_true]
        refine hK _ _ ?_
        clear hK K
        refine den_stop ?_
        refine ⟨?_, rfl⟩
        first | (simp (disch := decide) only [go_sem, g5, eq_self, Bool.true_and, Bool.and_true, Bool.false_and, Bool.and_false, Bool.true_or, Bool.or_true, Bool.false_or, Bool.or_false, if_true, if_false, Bool.false_eq_true]; done) | simp [HasL, sel, puts_at, g5]
    intro en6
    simp (disch := decide) only [go_sem]
    refine den_cond rfl (fun c1 => ?_) (fun c1 => ?_)
    · try simp only [decide_eq_true_eq, decide_eq_false_iff_not, beq_iff_eq, beq_eq_false_iff_ne, bne_iff_ne, ne_eq, Bool.not_eq_true', Bool.not_eq_false', Bool.and_eq_true, Bool.or_eq_true, bne_eq_false_iff_eq, Bool.or_eq_false_iff, Bool.and_eq_false_iff] at c1
      refine den_seq ?_
      refine den_region TTok ?_
      intro K hK
      simp -implicitDefEqProofs (disch := first | decide | assumption | omega) only [go_sem, RdS.len hdX sl22, RdS.idx hdX sl22, R1.intB hdX (Ext.pres eB), RdS.cells hdX, RdS.len hmX sl23, RdS.idx hmX sl23, RdS.cellB hmX (Ext.pres eB), RdS.cells hmX, RdS.len hdY sl22, RdS.idx hdY sl22, R1.intB hdY (Ext.pres eB), RdS.cells hdY, RdS.len hmY sl23, RdS.idx hmY sl23, RdS.cellB hmY (Ext.pres eB), RdS.cells hmY, wrap_id]
      refine hK _ _ ?_
      clear hK K
      refine den_ret ?_
      simp (disch := decide) only [resP_1, puts_same, puts_ne]
      exact ⟨vint (by rw [pairC, if_pos (by simpa using c0), if_neg (by intro h; simp [h.1, h.2] at c1)]), eB⟩
    · try simp only [decide_eq_true_eq, decide_eq_false_iff_not, beq_iff_eq, beq_eq_false_iff_ne, bne_iff_ne, ne_eq, Bool.not_eq_true', Bool.not_eq_false', Bool.and_eq_true, Bool.or_eq_true, bne_eq_false_iff_eq, Bool.or_eq_false_iff, Bool.and_eq_false_iff] at c1
      refine den_skip ?_
      refine den_blk ?_
      refine den_seq ?_
      refine den_region TTok ?_
      intro K hK
      simp -implicitDefEqProofs (disch := first | decide | assumption | omega) only [go_sem, RdS.len hdX sl22, RdS.idx hdX sl22, R1.intB hdX (Ext.pres eB), RdS.cells hdX, RdS.len hmX sl23, RdS.idx hmX sl23, RdS.cellB hmX (Ext.pres eB), RdS.cells hmX, RdS.len hdY sl22, RdS.idx hdY sl22, R1.intB hdY (Ext.pres eB), RdS.cells hdY, RdS.len hmY sl23, RdS.idx hmY sl23, RdS.cellB hmY (Ext.pres eB), RdS.cells hmY, wrap_id]
      refine hK _ _ ?_
      clear hK K
      refine den_ret ?_
      simp (disch := decide) only [resP_1, puts_same, puts_ne]
      exact ⟨vint (by rw [pairC, if_pos (by simpa using c0), if_pos ⟨c1.1, by have := c1.2; omega⟩]), eB⟩

set_option maxRecDepth 100000 in
theorem pairL_ok (v : Value) (L : List Cx) (h : Heap) (hv : RdA 3 RC h v L) : CallA Try.prog 86 #[v] h fun v' h' => v' = .int .i64 (pairL L) ∧ Ext h h' := by
  have hle := RdA.le hv
  refine callA_intro TTok (args := [_]) Try.func86 (by kernel_rfl) rfl 42 rfl (by simp) [.tmp 2] rfl ?_
  simp only [idxs, Nat.reduceAdd]
  refine den_seq ?_
  refine den_region TTok ?_
  intro K hK
  simp -implicitDefEqProofs (disch := first | decide | assumption | omega) only [go_sem, RdA.len hv slC, RdA.idx hv slC, wrap_id, Int.toNat_zero]
  refine hK _ _ ?_
  clear hK K
  refine den_seq ?_
  refine den_seq ?_
  refine den_region TTok ?_
  intro K hK
  simp -implicitDefEqProofs (disch := first | decide | assumption | omega) only [go_sem, RdA.len hv slC, RdA.idx hv slC, wrap_id, Int.toNat_zero]
  refine hK _ _ ?_
  clear hK K
  refine den_block ?_
  refine den_sel [9, 0, 7, 8] ?_
  intro env_1
  simp only [go_sem]
  refine den_loopS (σ := Nat) (fun s => [(9, .int .i64 (s : Int))]) (fun s H => Ext h H ∧ s ≤ L.length ∧ (L.take s).all isC = true) (fun s => L.length - s) 0 ?_ ?_
  · exact ⟨Ext.refl _, by omega, by simp⟩
  · rintro k h4 ee3 ⟨eB, hk, hz⟩
    simp only [List.cons_append, List.nil_append]
    have := Ext.size eB
    refine den_seq ?_
    refine den_region TTok ?_
    intro K hK
    simp -implicitDefEqProofs (disch := first | decide | assumption | omega) only [go_sem, RdA.len hv slC, RdA.idx hv slC, wrap_id, Int.toNat_zero]
    refine hK _ _ ?_
    clear hK K
    refine den_seq ?_
    refine den_cond rfl (fun c0 => ?_) (fun c0 => ?_)
    · try simp only [decide_eq_true_eq, decide_eq_false_iff_not, beq_iff_eq, beq_eq_false_iff_ne, bne_iff_ne, ne_eq, Bool.not_eq_true', Bool.not_eq_false', Bool.and_eq_true, Bool.or_eq_true, bne_eq_false_iff_eq, Bool.or_eq_false_iff, Bool.and_eq_false_iff] at c0
      refine den_skip ?_
      refine den_seq ?_
      refine den_block ?_
      refine den_seq ?_
      obtain ⟨vda, vma, hp0a, hp1a, hp2a, hda, hma⟩ := RdA.at3 hv k (by omega)
      refine den_region TTok ?_
      intro K hK
      simp -implicitDefEqProofs (disch := first | decide | assumption | omega) only [go_sem, ld30, RdA.len hv slC, RdA.idx hv slC, wrap_id, Int.toNat_zero, (Ext.pres eB) _ _ hp0a, (Ext.pres eB) _ _ hp1a, (Ext.pres eB) _ _ hp2a]
      refine op_alloc (cs := #[.int .i64 0, .slice none 0 0, .slice none 0 0]) (by kernel_rfl) ?_
      intro h3_2 e3_2 hb3_2 z3_2
      have := Ext.size e3_2
      replace eB := Ext.trans eB e3_2
      try simp -implicitDefEqProofs (disch := first | decide | assumption | omega) only [go_sem, RdA.len hv slC, RdA.idx hv slC, BoxAt.cell hb3_2, wrap_id, Int.toNat_zero, (Ext.pres eB) _ _ hp0a, (Ext.pres eB) _ _ hp1a, (Ext.pres eB) _ _ hp2a]
      refine op_storeB (cs' := #[.int .i64 (((L.getD k default).p)), vda, vma]) st30 hb3_2 rfl rfl rfl (by simp) (allOne_mem (l := [.int .i64 (((L.getD k default).p)), vda, vma]) ⟨rfl, (RdS.one hda), (RdS.one hma), trivial⟩) rfl ?_
      intro h3_3 hb3_2 c3_3
      have := c3_3.size
      replace eB := Ext.then eB c3_3 (fun b hb => by simp at hb; omega)
      try simp -implicitDefEqProofs (disch := first | decide | assumption | omega) only [go_sem, RdA.len hv slC, RdA.idx hv slC, BoxAt.cell hb3_2, wrap_id, Int.toNat_zero, (Ext.pres eB) _ _ hp0a, (Ext.pres eB) _ _ hp1a, (Ext.pres eB) _ _ hp2a]
      refine hK _ _ ?_
      clear hK K
      refine den_seq ?_
      refine den_region TTok ?_
      intro K hK
      simp -implicitDefEqProofs (disch := first | decide | assumption | omega) only [go_sem, ld30, RdA.len hv slC, RdA.idx hv slC, BoxAt.cell hb3_2, wrap_id, Int.toNat_zero]
      try simp -implicitDefEqProofs (disch := first | decide | assumption | omega) only [go_sem, RdA.len hv slC, RdA.idx hv slC, BoxAt.cell hb3_2, wrap_id, Int.toNat_zero]
      refine CallA.mono (iIs_ok _ (L.getD k default) _ ⟨_, _, rfl, (RdS.pres hda (Ext.pres eB)), (RdS.pres hma (Ext.pres eB))⟩) ?_
      intro v_ h4_1
      rintro ⟨rfl, e4_1⟩
      replace hb3_2 := BoxAt.ext hb3_2 e4_1
      have := Ext.size e4_1
      replace eB := Ext.trans eB e4_1
      try simp -implicitDefEqProofs (disch := first | decide | assumption | omega) only [go_sem, RdA.len hv slC, RdA.idx hv slC, BoxAt.cell hb3_2, wrap_id, Int.toNat_zero]
      refine hK _ _ ?_
      clear hK K
      refine den_cond rfl (fun c1 => ?_) (fun c1 => ?_)
      · try simp only [decide_eq_true_eq, decide_eq_false_iff_not, beq_iff_eq, beq_eq_false_iff_ne, bne_iff_ne, ne_eq, Bool.not_eq_true', Bool.not_eq_false', Bool.and_eq_true, Bool.or_eq_true, bne_eq_false_iff_eq, Bool.or_eq_false_iff, Bool.and_eq_false_iff] at c1
        refine den_seq ?_
        refine den_region TTok ?_
        intro K hK
        simp -implicitDefEqProofs (disch := first | decide | assumption | omega) only [go_sem, RdA.len hv slC, RdA.idx hv slC, BoxAt.cell hb3_2, wrap_id, Int.toNat_zero]
        refine hK _ _ ?_
        clear hK K
        refine den_ret ?_
        simp (disch := decide) only [resP_1, puts_same, puts_ne]
        exact ⟨vint (by rw [pairL, all_stop (d := default) (by omega) c1]; rfl), eB⟩
      · try simp only [decide_eq_true_eq, decide_eq_false_iff_not, beq_iff_eq, beq_eq_false_iff_ne, bne_iff_ne, ne_eq, Bool.not_eq_true', Bool.not_eq_false', Bool.and_eq_true, Bool.or_eq_true, bne_eq_false_iff_eq, Bool.or_eq_false_iff, Bool.and_eq_false_iff] at c1
        refine den_skip ?_
        refine den_blk ?_
        refine den_region TTok ?_
        intro K hK
        simp -implicitDefEqProofs (disch := first | decide | assumption | omega) only [go_sem, RdA.len hv slC, RdA.idx hv slC, BoxAt.cell hb3_2, wrap_id, Int.toNat_zero]
        refine hK _ _ ?_
        clear hK K
        refine den_stop ?_
        exact ⟨k + 1, by simp [HasL, puts_at], ⟨eB, by omega, all_step (d := default) (by omega) hz c1⟩, by omega⟩
    · try simp only [decide_eq_true_eq, decide_eq_false_iff_not, beq_iff_eq, beq_eq_false_iff_ne, bne_iff_ne, ne_eq, Bool.not_eq_true', Bool.not_eq_false', Bool.and_eq_true, Bool.or_eq_true, bne_eq_false_iff_eq, Bool.or_eq_false_iff, Bool.and_eq_false_iff] at c0
      refine den_exit ?_
      refine denX_code ?_
      refine denX_stop ?_
      refine denX_hit ?_
      refine den_seq ?_
      refine den_seq ?_
      refine den_region TTok ?_
      intro K hK
      simp -implicitDefEqProofs (disch := first | decide | assumption | omega) only [go_sem, RdA.len hv slC, RdA.idx hv slC, wrap_id, Int.toNat_zero]
      refine hK _ _ ?_
      clear hK K
      refine den_block ?_
      refine den_sel [19, 0, 17, 18] ?_
      intro env_5
      simp only [go_sem]
      refine den_loopS (σ := Nat) (fun s => [(19, .int .i64 (s : Int))]) (fun s H => Ext h H ∧ s ≤ L.length ∧ (L.take s).all (fun X => X.p == (L.getD 0 default).p && X.dims.length == (L.getD 0 default).dims.length) = true) (fun s => L.length - s) 0 ?_ ?_
      · exact ⟨eB, by omega, by simp⟩
      · rintro k h8 ee7 ⟨eB, hk, hz2⟩
        simp only [List.cons_append, List.nil_append]
        have := Ext.size eB
        refine den_seq ?_
        refine den_region TTok ?_
        intro K hK
        simp -implicitDefEqProofs (disch := first | decide | assumption | omega) only [go_sem, RdA.len hv slC, RdA.idx hv slC, wrap_id, Int.toNat_zero]
        refine hK _ _ ?_
        clear hK K
        refine den_seq ?_
        refine den_cond rfl (fun c2 => ?_) (fun c2 => ?_)
        · try simp only [decide_eq_true_eq, decide_eq_false_iff_not, beq_iff_eq, beq_eq_false_iff_ne, bne_iff_ne, ne_eq, Bool.not_eq_true', Bool.not_eq_false', Bool.and_eq_true, Bool.or_eq_true, bne_eq_false_iff_eq, Bool.or_eq_false_iff, Bool.and_eq_false_iff] at c2
          refine den_skip ?_
          refine den_seq ?_
          refine den_block ?_
          refine den_seq ?_
          obtain ⟨vdb, vmb, hp0b, hp1b, hp2b, hdb, hmb⟩ := RdA.at3 hv k (by omega)
          obtain ⟨vdz, vmz, hp0z, hp1z, hp2z, hdz, hmz⟩ := RdA.at3 hv 0 (by omega)
          have hleb := RdS.le hdb
          have hlez := RdS.le hdz
          refine den_region TTok ?_
          intro K hK
          simp -implicitDefEqProofs (disch := first | decide | assumption | omega) only [go_sem, ld30, RdA.len hv slC, RdA.idx hv slC, wrap_id, Int.toNat_zero, (Ext.pres eB) _ _ hp0b, (Ext.pres eB) _ _ hp1b, (Ext.pres eB) _ _ hp2b]
          refine op_alloc (cs := #[.int .i64 0, .slice none 0 0, .slice none 0 0]) (by kernel_rfl) ?_
          intro h9_2 e9_2 hb9_2 z9_2
          have := Ext.size e9_2
          replace eB := Ext.trans eB e9_2
          try simp -implicitDefEqProofs (disch := first | decide | assumption | omega) only [go_sem, RdA.len hv slC, RdA.idx hv slC, BoxAt.cell hb9_2, wrap_id, Int.toNat_zero, (Ext.pres eB) _ _ hp0b, (Ext.pres eB) _ _ hp1b, (Ext.pres eB) _ _ hp2b]
          refine op_storeB (cs' := #[.int .i64 (((L.getD k default).p)), vdb, vmb]) st30 hb9_2 rfl rfl rfl (by simp) (allOne_mem (l := [.int .i64 (((L.getD k default).p)), vdb, vmb]) ⟨rfl, (RdS.one hdb), (RdS.one hmb), trivial⟩) rfl ?_
          intro h9_3 hb9_2 c9_3
          have := c9_3.size
          replace eB := Ext.then eB c9_3 (fun b hb => by simp at hb; omega)
          try simp -implicitDefEqProofs (disch := first | decide | assumption | omega) only [go_sem, RdA.len hv slC, RdA.idx hv slC, BoxAt.cell hb9_2, wrap_id, Int.toNat_zero, (Ext.pres eB) _ _ hp0b, (Ext.pres eB) _ _ hp1b, (Ext.pres eB) _ _ hp2b]
          refine hK _ _ ?_
          clear hK K
          refine den_seq ?_
          refine den_mergeH [(40, .bool (((((L.getD k default).p) != ((L.getD 0 default).p)) || ((((L.getD k default).dims).length : Int) != (((L.getD 0 default).dims).length : Int)))))] [0, 17, 18, 19] ?_ ?_
            -- a way
          · refine den_draw TTok mixed [] [(0, true), (1, true), (2, true), (3, true), (4, true), (5, true), (6, true), (7, true), (8, true), (9, true), (10, true), (11, true), (12, true), (13, true), (14, true), (15, true), (16, true), (17, true)] (by kernel_rfl) ?_
            intro K hK
            simp -implicitDefEqProofs (disch := first | decide | assumption | (simp (disch := decide) only [slotOf_zero, slotOf_succ, Option.map_some, puts_same, puts_ne, gv_bool, gv_undef, tt, tf, ft, ff, eq_self, if_true, if_false, Bool.false_eq_true, Bool.not_true, Bool.not_false]; done) | omega) only [go_sem, fa30_0, ld2, RdA.len hv slC, RdA.idx hv slC, BoxAt.cell hb9_2, wrap_id, Int.toNat_zero, (Ext.pres eB) _ _ hp0z, (Ext.pres eB) _ _ hp1z, (Ext.pres eB) _ _ hp2z, RdS.len hdb sl22, RdS.len hdz sl22]
            refine plG_F (by simp (disch := decide) only [slotOf_zero, slotOf_succ, Option.map_some, puts_same, puts_ne, gv_bool, gv_undef, tt, tf, ft, ff, eq_self, if_true, if_false, Bool.false_eq_true, Bool.not_true, Bool.not_false]; rfl) (fun g9 => ?_) (fun g9 => ?_)
            · try simp -implicitDefEqProofs (disch := first | decide | assumption | (simp (disch := decide) only [slotOf_zero, slotOf_succ, Option.map_some, puts_same, puts_ne, gv_bool, gv_undef, tt, tf, ft, ff, eq_self, if_true, if_false, Bool.false_eq_true, Bool.not_true, Bool.not_false, g9]; done) | omega) only [go_sem, fa30_1, ld22, RdA.len hv slC, RdA.idx hv slC, BoxAt.cell hb9_2, wrap_id, Int.toNat_zero, g9, eq_self, if_true, if_false, Bool.false_eq_true, (Ext.pres eB) _ _ hp0z, (Ext.pres eB) _ _ hp1z, (Ext.pres eB) _ _ hp2z, RdS.len hdb sl22, RdS.len hdz sl22]
              refine hK _ _ ?_
              clear hK K
              refine den_stop ?_
              refine ⟨?_, rfl⟩
              first | (simp (disch := decide) only [go_sem, g9, eq_self, Bool.true_and, Bool.and_true, Bool.false_and, Bool.and_false, Bool.true_or, Bool.or_true, Bool.false_or, Bool.or_false, if_true, if_false, Bool.false_eq_true]; done) | simp [HasL, sel, puts_at, g9]
            · try simp -implicitDefEqProofs (disch := first | decide | assumption | (simp (disch := decide) only [slotOf_zero, slotOf_succ, Option.map_some, puts_same, puts_ne, gv_bool, gv_undef, tt, tf, ft, ff, eq_self, if_true, if_false, Bool.false_eq_true, Bool.not_true, Bool.not_false, g9]; done) | omega) only [go_sem, RdA.len hv slC, RdA.idx hv slC, BoxAt.cell hb9_2, wrap_id, Int.toNat_zero, g9, eq_self, if_true, if_false, Bool.false_eq_true, (Ext.pres eB) _ _ hp0z, (Ext.pres eB) _ _ hp1z, (Ext.pres eB) _ _ hp2z, RdS.len hdb sl22, RdS.len hdz sl22]
              refine hK _ _ ?_
              clear hK K
              refine den_stop ?_
              refine ⟨?_, rfl⟩
              first | (simp (disch := decide) only [go_sem, g9, eq_self, Bool.true_and, Bool.and_true, Bool.false_and, Bool.and_false, Bool.true_or, Bool.or_true, Bool.false_or, Bool.or_false, if_true, if_false, Bool.false_eq_true]; done) | simp [HasL, sel, puts_at, g9]
          intro en10
          simp (disch := decide) only [go_sem]
          refine den_cond rfl (fun c3 => ?_) (fun c3 => ?_)
          · try simp only [decide_eq_true_eq, decide_eq_false_iff_not, beq_iff_eq, beq_eq_false_iff_ne, bne_iff_ne, ne_eq, Bool.not_eq_true', Bool.not_eq_false', Bool.and_eq_true, Bool.or_eq_true, bne_eq_false_iff_eq, Bool.or_eq_false_iff, Bool.and_eq_false_iff] at c3
            refine den_seq ?_
            refine den_region TTok ?_
            intro K hK
            simp -implicitDefEqProofs (disch := first | decide | assumption | omega) only [go_sem, RdA.len hv slC, RdA.idx hv slC, BoxAt.cell hb9_2, wrap_id, Int.toNat_zero]
            refine hK _ _ ?_
            clear hK K
            refine den_ret ?_
            simp (disch := decide) only [resP_1, puts_same, puts_ne]
            exact ⟨vint (by rw [pairL, if_pos (all_end (by omega) hz), all_stop (f := fun X : Cx => X.p == (L.getD 0 default).p && X.dims.length == (L.getD 0 default).dims.length) (d := default) (k := k) (by omega) (Bool.and_eq_false_iff.2 (c3.elim (fun h => .inl (beq_eq_false_iff_ne.2 h)) (fun h => .inr (beq_eq_false_iff_ne.2 (by omega)))))]; rfl), eB⟩
          · try simp only [decide_eq_true_eq, decide_eq_false_iff_not, beq_iff_eq, beq_eq_false_iff_ne, bne_iff_ne, ne_eq, Bool.not_eq_true', Bool.not_eq_false', Bool.and_eq_true, Bool.or_eq_true, bne_eq_false_iff_eq, Bool.or_eq_false_iff, Bool.and_eq_false_iff] at c3
            refine den_skip ?_
            refine den_blk ?_
            refine den_region TTok ?_
            intro K hK
            simp -implicitDefEqProofs (disch := first | decide | assumption | omega) only [go_sem, RdA.len hv slC, RdA.idx hv slC, BoxAt.cell hb9_2, wrap_id, Int.toNat_zero]
            refine hK _ _ ?_
            clear hK K
            refine den_stop ?_
            exact ⟨k + 1, by simp [HasL, puts_at], ⟨eB, by omega, all_step (d := default) (by omega) hz2 (Bool.and_eq_true_iff.2 ⟨beq_iff_eq.2 c3.1, beq_iff_eq.2 (by have := c3.2; omega)⟩)⟩, by omega⟩
        · try simp only [decide_eq_true_eq, decide_eq_false_iff_not, beq_iff_eq, beq_eq_false_iff_ne, bne_iff_ne, ne_eq, Bool.not_eq_true', Bool.not_eq_false', Bool.and_eq_true, Bool.or_eq_true, bne_eq_false_iff_eq, Bool.or_eq_false_iff, Bool.and_eq_false_iff] at c2
          refine den_exit ?_
          refine denX_code ?_
          refine denX_stop ?_
          refine denX_hit ?_
          refine den_seq ?_
          refine den_region TTok ?_
          intro K hK
          simp -implicitDefEqProofs (disch := first | decide | assumption | omega) only [go_sem, RdA.len hv slC, RdA.idx hv slC, wrap_id, Int.toNat_zero]
          refine hK _ _ ?_
          clear hK K
          refine den_ret ?_
          simp (disch := decide) only [resP_1, puts_same, puts_ne]
          exact ⟨vint (by rw [pairL, if_pos (all_end (by omega) hz), if_pos (all_end (by omega) hz2)]), eB⟩

theorem pair2_ok (v : Value) (X Y : Cx) (h : Heap) (hv : RdA 3 RC h v [X, Y]) : CallA Try.prog 86 #[v] h fun v' h' => v' = .int .i64 (pairC X Y) ∧ Ext h h' := by
  rw [← pairL_two]
  exact pairL_ok v _ h hv

end Go.Proofs.Ytffggocjkhcgeaa
