/-
  Walks: the place of a pair.
  Conditions: each theorem's own.
-/
import Derived.Test.YtbplnadngahgaaaS11
set_option linter.unusedVariables false
set_option linter.unusedSimpArgs false
namespace Go.Proofs.Ytbplnadngahgaaa
open Go
theorem twoP_0 {X Y : Cx} (h : twoP X Y = 0) : IsC X ∧ IsC Y ∧ X.p = Y.p := by
  unfold twoP at h
  split at h
  · rename_i hc
    split at h
    · exact ⟨isC_t.1 hc.1, isC_t.1 hc.2, by assumption⟩
    · cases h
  · cases h
theorem twoP_bnd (X Y : Cx) : 0 ≤ twoP X Y ∧ twoP X Y ≤ 2 := by
  unfold twoP
  split
  · split <;> omega
  · omega
theorem dimP_bnd {X : Cx} (hC : IsC X) (n : Int) : 0 ≤ dimP X n ∧ dimP X n ≤ 8 := by
  unfold dimP
  split
  · rename_i h
    rw [in3_iff] at h
    exact dm_at hC.dm (by omega)
  · omega
theorem dimP_out {X : Cx} {n : Int} (h : ¬ (0 ≤ n ∧ n ≤ (X.dims.length : Int) - 1)) : dimP X n = 0 := by
  rw [dimP, if_neg (by rw [in3_iff]; exact h)]
def sumP (X Y : Cx) (s : Int) : Nat → Int
  | 0 => 0
  | k + 1 => sumP X Y s k + dimP X k * dimP Y (s - k)
theorem mul64 {x y : Int} (hx : 0 ≤ x ∧ x ≤ 8) (hy : 0 ≤ y ∧ y ≤ 8) : 0 ≤ x * y ∧ x * y ≤ 64 := by
  refine ⟨Int.mul_nonneg hx.1 hy.1, ?_⟩
  have := Int.mul_le_mul hx.2 hy.2 hy.1 (by omega : (0 : Int) ≤ 8)
  simpa using this
theorem sumP_bnd {X Y : Cx} (hX : IsC X) (hY : IsC Y) (s : Int) : ∀ k : Nat, 0 ≤ sumP X Y s k ∧ sumP X Y s k ≤ 64 * k
  | 0 => by simp [sumP]
  | k + 1 => by
    have h1 := sumP_bnd hX hY s k
    have h2 := mul64 (dimP_bnd hX k) (dimP_bnd hY (s - k))
    rw [sumP]; omega
def placeP (X Y : Cx) (i a j b : Int) : Int := sumP X Y (i + j) i.toNat + a * dimP Y j + b
noncomputable def cod1 (X Y : Cx) (i j : Int) : Int := if (twoP X Y == 0 && (!in3 i 0 ((X.dims.length : Int) - 1) || !in3 j 0 ((Y.dims.length : Int) - 1))) = true then 2 else twoP X Y
noncomputable def cod2 (X Y : Cx) (i a j b : Int) : Int := if (cod1 X Y i j == 0 && (!in3 a 0 (dimP X i - 1) || !in3 b 0 (dimP Y j - 1))) = true then 2 else cod1 X Y i j
noncomputable def codI (X Y : Cx) (i a j b : Int) : Int := if (twoP X Y == 0 && (!in3 a 0 (dimP X i - 1) || !in3 b 0 (dimP Y j - 1))) = true then 2 else twoP X Y
theorem cod1_0 {X Y : Cx} {i j : Int} (h : cod1 X Y i j = 0) : IsC X ∧ IsC Y ∧ 0 ≤ i ∧ i ≤ 5 ∧ 0 ≤ j ∧ j ≤ 5 := by
  unfold cod1 at h
  split at h
  · cases h
  · rename_i hc
    obtain ⟨h1, h2, _⟩ := twoP_0 h
    simp only [h, beq_self_eq_true, Bool.true_and, Bool.or_eq_true, Bool.not_eq_true', not_or, Bool.not_eq_false, in3_iff] at hc
    have := h1.len; have := h2.len
    exact ⟨h1, h2, by omega, by omega, by omega, by omega⟩
theorem cod2_0 {X Y : Cx} {i a j b : Int} (h : cod2 X Y i a j b = 0) : IsC X ∧ IsC Y ∧ 0 ≤ i ∧ i ≤ 5 ∧ 0 ≤ j ∧ j ≤ 5 ∧ 0 ≤ a ∧ a ≤ 8 ∧ 0 ≤ b ∧ b ≤ 8 := by
  unfold cod2 at h
  split at h
  · cases h
  · rename_i hc
    obtain ⟨h1, h2, h3, h4, h5, h6⟩ := cod1_0 h
    simp only [h, beq_self_eq_true, Bool.true_and, Bool.or_eq_true, Bool.not_eq_true', not_or, Bool.not_eq_false, in3_iff] at hc
    have := dimP_bnd h1 i; have := dimP_bnd h2 j
    exact ⟨h1, h2, h3, h4, h5, h6, by omega, by omega, by omega, by omega⟩
theorem codI_eq (X Y : Cx) (i a j b : Int) : codI X Y i a j b = cod2 X Y i a j b := by
  unfold codI cod2
  by_cases h0 : twoP X Y = 0
  · by_cases hr : in3 i 0 ((X.dims.length : Int) - 1) = true ∧ in3 j 0 ((Y.dims.length : Int) - 1) = true
    · have : cod1 X Y i j = twoP X Y := by unfold cod1; rw [hr.1, hr.2]; simp
      rw [this]
    · have h1 : cod1 X Y i j = 2 := by
        unfold cod1
        rw [if_pos]
        simp only [h0, beq_self_eq_true, Bool.true_and, Bool.or_eq_true, Bool.not_eq_true']
        rcases Classical.not_and_iff_not_or_not.1 hr with h | h
        · exact .inl (by simpa using h)
        · exact .inr (by simpa using h)
      have h2 : (!in3 a 0 (dimP X i - 1) || !in3 b 0 (dimP Y j - 1)) = true := by
        rw [in3_iff, in3_iff] at hr
        rcases Classical.not_and_iff_not_or_not.1 hr with h | h
        · rw [dimP_out h, in3_f.2 (by omega)]; rfl
        · rw [dimP_out h, Bool.or_eq_true]; exact .inr (by rw [in3_f.2 (by omega)]; rfl)
      rw [h1, h0, h2]; rfl
  · have : cod1 X Y i j = twoP X Y := by
      unfold cod1
      rw [if_neg]
      simp [h0]
    rw [this]

set_option maxRecDepth 100000 in
theorem two_ok (vx vy : Value) (X Y : Cx) (h : Heap) (hx : RC h vx X) (hy : RC h vy Y) : CallA Try.prog 76 #[vx, vy] h fun v' h' => v' = .int .i64 (twoP X Y) ∧ Ext h h' := by
  obtain ⟨vd, vm, rfl, hd, hm⟩ := hx
  obtain ⟨vdy, vmy, rfl, hdy, hmy⟩ := hy
  refine callA_intro TTok (args := [_, _]) Try.func76 (by kernel_rfl) rfl 20 rfl (by simp) [.tmp 4] rfl ?_
  simp only [idxs, Nat.reduceAdd]
  refine den_seq ?_
  refine den_region TTok ?_
  intro K hK
  simp -implicitDefEqProofs (disch := first | decide | assumption | omega) only [go_sem, RdS.len hd sl22, RdS.idx hd sl22, R1.intB hd (HPres.refl _), RdS.cells hd, RdS.len hm sl23, RdS.idx hm sl23, RdS.cellB hm (HPres.refl _), RdS.cells hm, RdS.len hdy sl22, RdS.idx hdy sl22, R1.intB hdy (HPres.refl _), RdS.cells hdy, RdS.len hmy sl23, RdS.idx hmy sl23, RdS.cellB hmy (HPres.refl _), RdS.cells hmy]
  refine op_box (cs := #[.int .i64 (X.p), vd, vm]) rfl ?_
  intro h0_0 e0_0 hb0_0 z0_0
  replace hd := RdS.pres hd (Ext.pres e0_0)
  replace hm := RdS.pres hm (Ext.pres e0_0)
  replace hdy := RdS.pres hdy (Ext.pres e0_0)
  replace hmy := RdS.pres hmy (Ext.pres e0_0)
  try simp -implicitDefEqProofs (disch := first | decide | assumption | omega) only [go_sem, RdS.len hd sl22, RdS.idx hd sl22, R1.intB hd (HPres.refl _), RdS.cells hd, RdS.len hm sl23, RdS.idx hm sl23, RdS.cellB hm (HPres.refl _), RdS.cells hm, RdS.len hdy sl22, RdS.idx hdy sl22, R1.intB hdy (HPres.refl _), RdS.cells hdy, RdS.len hmy sl23, RdS.idx hmy sl23, RdS.cellB hmy (HPres.refl _), RdS.cells hmy, BoxAt.cell hb0_0]
  refine op_box (cs := #[.int .i64 (Y.p), vdy, vmy]) rfl ?_
  intro h0_1 e0_1 hb0_1 z0_1
  replace hd := RdS.pres hd (Ext.pres e0_1)
  replace hm := RdS.pres hm (Ext.pres e0_1)
  replace hdy := RdS.pres hdy (Ext.pres e0_1)
  replace hmy := RdS.pres hmy (Ext.pres e0_1)
  replace hb0_0 := BoxAt.ext hb0_0 e0_1
  try simp -implicitDefEqProofs (disch := first | decide | assumption | omega) only [go_sem, RdS.len hd sl22, RdS.idx hd sl22, R1.intB hd (HPres.refl _), RdS.cells hd, RdS.len hm sl23, RdS.idx hm sl23, RdS.cellB hm (HPres.refl _), RdS.cells hm, RdS.len hdy sl22, RdS.idx hdy sl22, R1.intB hdy (HPres.refl _), RdS.cells hdy, RdS.len hmy sl23, RdS.idx hmy sl23, RdS.cellB hmy (HPres.refl _), RdS.cells hmy, BoxAt.cell hb0_0, BoxAt.cell hb0_1]
  refine hK _ _ ?_
  clear hK K
  refine den_seq ?_
  refine den_block ?_
  refine den_seq ?_
  refine den_merge [(5, .bool (((!((isC X))) || (!((isC Y))))))] [2, 3] (fun H => Ext h0_1 H) ?_ ?_
    -- a way
  · refine den_region TTok ?_
    intro K hK
    simp -implicitDefEqProofs (disch := first | decide | assumption | (simp (disch := decide) only [slotOf_zero, slotOf_succ, Option.map_some, puts_same, puts_ne, gv_bool, gv_undef, tt, tf, ft, ff, eq_self, if_true, if_false, Bool.false_eq_true, Bool.not_true, Bool.not_false]; done) | omega) only [go_sem, ld30, RdS.len hd sl22, RdS.idx hd sl22, R1.intB hd (HPres.refl _), RdS.cells hd, RdS.len hm sl23, RdS.idx hm sl23, RdS.cellB hm (HPres.refl _), RdS.cells hm, RdS.len hdy sl22, RdS.idx hdy sl22, R1.intB hdy (HPres.refl _), RdS.cells hdy, RdS.len hmy sl23, RdS.idx hmy sl23, RdS.cellB hmy (HPres.refl _), RdS.cells hmy, BoxAt.cell hb0_0, BoxAt.cell hb0_1]
    try simp -implicitDefEqProofs (disch := first | decide | assumption | omega) only [go_sem, RdS.len hd sl22, RdS.idx hd sl22, R1.intB hd (HPres.refl _), RdS.cells hd, RdS.len hm sl23, RdS.idx hm sl23, RdS.cellB hm (HPres.refl _), RdS.cells hm, RdS.len hdy sl22, RdS.idx hdy sl22, R1.intB hdy (HPres.refl _), RdS.cells hdy, RdS.len hmy sl23, RdS.idx hmy sl23, RdS.cellB hmy (HPres.refl _), RdS.cells hmy, BoxAt.cell hb0_0, BoxAt.cell hb0_1]
    refine CallA.mono (sIs_ok _ X _ ⟨_, _, rfl, hd, hm⟩) ?_
    intro v_ h1_1
    rintro ⟨rfl, e1_1⟩
    have := Ext.size e1_1
    have eB := e1_1
    try simp -implicitDefEqProofs (disch := first | decide | assumption | (simp (disch := decide) only [slotOf_zero, slotOf_succ, Option.map_some, puts_same, puts_ne, gv_bool, gv_undef, tt, tf, ft, ff, eq_self, if_true, if_false, Bool.false_eq_true, Bool.not_true, Bool.not_false]; done) | omega) only [go_sem, RdS.len hd sl22, RdS.idx hd sl22, R1.intB hd (Ext.pres eB), RdS.cells hd, RdS.len hm sl23, RdS.idx hm sl23, RdS.cellB hm (Ext.pres eB), RdS.cells hm, RdS.len hdy sl22, RdS.idx hdy sl22, R1.intB hdy (Ext.pres eB), RdS.cells hdy, RdS.len hmy sl23, RdS.idx hmy sl23, RdS.cellB hmy (Ext.pres eB), RdS.cells hmy, BoxAt.cellB hb0_0 eB, BoxAt.cellB hb0_1 eB]
    refine opsP_F (by simp (disch := decide) only [slotOf_zero, slotOf_succ, Option.map_some, puts_same, puts_ne, gv_bool, gv_undef, tt, tf, ft, ff, eq_self, if_true, if_false, Bool.false_eq_true, Bool.not_true, Bool.not_false]; rfl) (fun g1 => ?_) (fun g1 => ?_)
    · try simp -implicitDefEqProofs (disch := first | decide | assumption | (simp (disch := decide) only [slotOf_zero, slotOf_succ, Option.map_some, puts_same, puts_ne, gv_bool, gv_undef, tt, tf, ft, ff, eq_self, if_true, if_false, Bool.false_eq_true, Bool.not_true, Bool.not_false, g1]; done) | omega) only [go_sem, ld30, RdS.len hd sl22, RdS.idx hd sl22, R1.intB hd (Ext.pres eB), RdS.cells hd, RdS.len hm sl23, RdS.idx hm sl23, RdS.cellB hm (Ext.pres eB), RdS.cells hm, RdS.len hdy sl22, RdS.idx hdy sl22, R1.intB hdy (Ext.pres eB), RdS.cells hdy, RdS.len hmy sl23, RdS.idx hmy sl23, RdS.cellB hmy (Ext.pres eB), RdS.cells hmy, BoxAt.cellB hb0_0 eB, BoxAt.cellB hb0_1 eB, g1, eq_self, if_true, if_false, Bool.false_eq_true]
      try simp -implicitDefEqProofs (disch := first | decide | assumption | omega) only [go_sem, RdS.len hd sl22, RdS.idx hd sl22, R1.intB hd (Ext.pres eB), RdS.cells hd, RdS.len hm sl23, RdS.idx hm sl23, RdS.cellB hm (Ext.pres eB), RdS.cells hm, RdS.len hdy sl22, RdS.idx hdy sl22, R1.intB hdy (Ext.pres eB), RdS.cells hdy, RdS.len hmy sl23, RdS.idx hmy sl23, RdS.cellB hmy (Ext.pres eB), RdS.cells hmy, BoxAt.cellB hb0_0 eB, BoxAt.cellB hb0_1 eB]
      refine CallA.mono (sIs_ok _ Y _ ⟨_, _, rfl, (RdS.pres hdy (Ext.pres eB)), (RdS.pres hmy (Ext.pres eB))⟩) ?_
      intro v_ h1_5
      rintro ⟨rfl, e1_5⟩
      have := Ext.size e1_5
      replace eB := Ext.trans eB e1_5
      try simp -implicitDefEqProofs (disch := first | decide | assumption | (simp (disch := decide) only [slotOf_zero, slotOf_succ, Option.map_some, puts_same, puts_ne, gv_bool, gv_undef, tt, tf, ft, ff, eq_self, if_true, if_false, Bool.false_eq_true, Bool.not_true, Bool.not_false, g1]; done) | omega) only [go_sem, RdS.len hd sl22, RdS.idx hd sl22, R1.intB hd (Ext.pres eB), RdS.cells hd, RdS.len hm sl23, RdS.idx hm sl23, RdS.cellB hm (Ext.pres eB), RdS.cells hm, RdS.len hdy sl22, RdS.idx hdy sl22, R1.intB hdy (Ext.pres eB), RdS.cells hdy, RdS.len hmy sl23, RdS.idx hmy sl23, RdS.cellB hmy (Ext.pres eB), RdS.cells hmy, BoxAt.cellB hb0_0 eB, BoxAt.cellB hb0_1 eB, g1, eq_self, if_true, if_false, Bool.false_eq_true]
      refine hK _ _ ?_
      clear hK K
      refine den_stop ?_
      refine ⟨?_, (Ext.trans e1_1 e1_5)⟩
      first | (simp (disch := decide) only [go_sem, g1, eq_self, Bool.true_and, Bool.and_true, Bool.false_and, Bool.and_false, Bool.true_or, Bool.or_true, Bool.false_or, Bool.or_false, if_true, if_false, Bool.false_eq_true]; done) | simp [HasL, sel, puts_at, g1]
    · try simp -implicitDefEqProofs (disch := first | decide | assumption | (simp (disch := decide) only [slotOf_zero, slotOf_succ, Option.map_some, puts_same, puts_ne, gv_bool, gv_undef, tt, tf, ft, ff, eq_self, if_true, if_false, Bool.false_eq_true, Bool.not_true, Bool.not_false, g1]; done) | omega) only [go_sem, RdS.len hd sl22, RdS.idx hd sl22, R1.intB hd (Ext.pres eB), RdS.cells hd, RdS.len hm sl23, RdS.idx hm sl23, RdS.cellB hm (Ext.pres eB), RdS.cells hm, RdS.len hdy sl22, RdS.idx hdy sl22, R1.intB hdy (Ext.pres eB), RdS.cells hdy, RdS.len hmy sl23, RdS.idx hmy sl23, RdS.cellB hmy (Ext.pres eB), RdS.cells hmy, BoxAt.cellB hb0_0 eB, BoxAt.cellB hb0_1 eB, g1, eq_self, if_true, if_false, Bool.false_eq_true]
      refine hK _ _ ?_
      clear hK K
      refine den_stop ?_
      refine ⟨?_, e1_1⟩
      first | (simp (disch := decide) only [go_sem, g1, eq_self, Bool.true_and, Bool.and_true, Bool.false_and, Bool.and_false, Bool.true_or, Bool.or_true, Bool.false_or, Bool.or_false, if_true, if_false, Bool.false_eq_true]; done) | simp [HasL, sel, puts_at, g1]
  intro en2 h3 e4
  have := Ext.size e4
  have eB := e4
  simp (disch := decide) only [go_sem]
  refine den_cond rfl (fun c0 => ?_) (fun c0 => ?_)
  · try simp only [decide_eq_true_eq, decide_eq_false_iff_not, beq_iff_eq, beq_eq_false_iff_ne, bne_iff_ne, ne_eq, Bool.not_eq_true', Bool.not_eq_false', Bool.and_eq_true, Bool.or_eq_true, bne_eq_false_iff_eq, Bool.or_eq_false_iff, Bool.and_eq_false_iff] at c0
    refine den_seq ?_
    refine den_region TTok ?_
    intro K hK
    simp -implicitDefEqProofs (disch := first | decide | assumption | omega) only [go_sem, RdS.len hd sl22, RdS.idx hd sl22, R1.intB hd (Ext.pres eB), RdS.cells hd, RdS.len hm sl23, RdS.idx hm sl23, RdS.cellB hm (Ext.pres eB), RdS.cells hm, RdS.len hdy sl22, RdS.idx hdy sl22, R1.intB hdy (Ext.pres eB), RdS.cells hdy, RdS.len hmy sl23, RdS.idx hmy sl23, RdS.cellB hmy (Ext.pres eB), RdS.cells hmy, BoxAt.cellB hb0_0 eB, BoxAt.cellB hb0_1 eB]
    refine hK _ _ ?_
    clear hK K
    refine den_ret ?_
    simp (disch := decide) only [resP_1, puts_same, puts_ne]
    exact ⟨vint (by rw [twoP, if_neg (by rintro ⟨h1, h2⟩; rw [h1, h2] at c0; simp at c0)]), (Ext.trans (Ext.trans e0_0 e0_1) eB)⟩
  · try simp only [decide_eq_true_eq, decide_eq_false_iff_not, beq_iff_eq, beq_eq_false_iff_ne, bne_iff_ne, ne_eq, Bool.not_eq_true', Bool.not_eq_false', Bool.and_eq_true, Bool.or_eq_true, bne_eq_false_iff_eq, Bool.or_eq_false_iff, Bool.and_eq_false_iff] at c0
    refine den_seq ?_
    refine den_region TTok ?_
    intro K hK
    simp -implicitDefEqProofs (disch := first | decide | assumption | omega) only [go_sem, fa30_0, ld2, RdS.len hd sl22, RdS.idx hd sl22, R1.intB hd (Ext.pres eB), RdS.cells hd, RdS.len hm sl23, RdS.idx hm sl23, RdS.cellB hm (Ext.pres eB), RdS.cells hm, RdS.len hdy sl22, RdS.idx hdy sl22, R1.intB hdy (Ext.pres eB), RdS.cells hdy, RdS.len hmy sl23, RdS.idx hmy sl23, RdS.cellB hmy (Ext.pres eB), RdS.cells hmy, BoxAt.cellB hb0_0 eB, BoxAt.cellB hb0_1 eB]
    refine hK _ _ ?_
    clear hK K
    refine den_cond rfl (fun c1 => ?_) (fun c1 => ?_)
    · try simp only [decide_eq_true_eq, decide_eq_false_iff_not, beq_iff_eq, beq_eq_false_iff_ne, bne_iff_ne, ne_eq, Bool.not_eq_true', Bool.not_eq_false', Bool.and_eq_true, Bool.or_eq_true, bne_eq_false_iff_eq, Bool.or_eq_false_iff, Bool.and_eq_false_iff] at c1
      refine den_seq ?_
      refine den_region TTok ?_
      intro K hK
      simp -implicitDefEqProofs (disch := first | decide | assumption | omega) only [go_sem, RdS.len hd sl22, RdS.idx hd sl22, R1.intB hd (Ext.pres eB), RdS.cells hd, RdS.len hm sl23, RdS.idx hm sl23, RdS.cellB hm (Ext.pres eB), RdS.cells hm, RdS.len hdy sl22, RdS.idx hdy sl22, R1.intB hdy (Ext.pres eB), RdS.cells hdy, RdS.len hmy sl23, RdS.idx hmy sl23, RdS.cellB hmy (Ext.pres eB), RdS.cells hmy, BoxAt.cellB hb0_0 eB, BoxAt.cellB hb0_1 eB]
      refine hK _ _ ?_
      clear hK K
      refine den_ret ?_
      simp (disch := decide) only [resP_1, puts_same, puts_ne]
      exact ⟨vint (by rw [twoP, if_pos c0, if_neg c1]), (Ext.trans (Ext.trans e0_0 e0_1) eB)⟩
    · try simp only [decide_eq_true_eq, decide_eq_false_iff_not, beq_iff_eq, beq_eq_false_iff_ne, bne_iff_ne, ne_eq, Bool.not_eq_true', Bool.not_eq_false', Bool.and_eq_true, Bool.or_eq_true, bne_eq_false_iff_eq, Bool.or_eq_false_iff, Bool.and_eq_false_iff] at c1
      refine den_skip ?_
      refine den_blk ?_
      refine den_seq ?_
      refine den_region TTok ?_
      intro K hK
      simp -implicitDefEqProofs (disch := first | decide | assumption | omega) only [go_sem, RdS.len hd sl22, RdS.idx hd sl22, R1.intB hd (Ext.pres eB), RdS.cells hd, RdS.len hm sl23, RdS.idx hm sl23, RdS.cellB hm (Ext.pres eB), RdS.cells hm, RdS.len hdy sl22, RdS.idx hdy sl22, R1.intB hdy (Ext.pres eB), RdS.cells hdy, RdS.len hmy sl23, RdS.idx hmy sl23, RdS.cellB hmy (Ext.pres eB), RdS.cells hmy, BoxAt.cellB hb0_0 eB, BoxAt.cellB hb0_1 eB]
      refine hK _ _ ?_
      clear hK K
      refine den_ret ?_
      simp (disch := decide) only [resP_1, puts_same, puts_ne]
      exact ⟨vint (by rw [twoP, if_pos c0, if_pos c1]), (Ext.trans (Ext.trans e0_0 e0_1) eB)⟩

theorem same2_ok (v : Value) (X Y : Cx) (h : Heap) (hv : RdA 3 RC h v [X, Y]) : CallA Try.prog 78 #[v] h fun v' h' => v' = .int .i64 (twoP X Y) ∧ Ext h h' := by
  rw [← sameP_two]
  exact same_ok v _ h hv

end Go.Proofs.Ytbplnadngahgaaa
