/-
  Walks: the place of a pair.
  Conditions: each theorem's own.
-/
import Derived.Test.YtjjjgllbocgkbaaS11
set_option linter.unusedVariables false
set_option linter.unusedSimpArgs false
namespace Go.Proofs.Ytjjjgllbocgkbaa
open Go
theorem twoP_0 {X Y : Cx} (h : twoP X Y = 0) : IsC X ∧ IsC Y ∧ X.p = Y.p := by
  unfold twoP at h
  split at h
  · rename_i hc
    split at h
    · exact ⟨isC_t.1 hc.1, isC_t.1 hc.2, by assumption⟩
    · cases h
  · cases h
theorem twoP_bnd (X Y : Cx) : 0 ≤ twoP X Y ∧ twoP X Y ≤ 2 := by
  unfold twoP
  split
  · split <;> omega
  · omega
theorem dimP_bnd {X : Cx} (hC : IsC X) (n : Int) : 0 ≤ dimP X n ∧ dimP X n ≤ 8 := by
  unfold dimP
  split
  · rename_i h
    rw [in3_iff] at h
    exact dm_at hC.dm (by omega)
  · omega
theorem dimP_out {X : Cx} {n : Int} (h : ¬ (0 ≤ n ∧ n ≤ (X.dims.length : Int) - 1)) : dimP X n = 0 := by
  rw [dimP, if_neg (by rw [in3_iff]; exact h)]
def sumP (X Y : Cx) (s : Int) : Nat → Int
  | 0 => 0
  | k + 1 => sumP X Y s k + dimP X k * dimP Y (s - k)
theorem mul64 {x y : Int} (hx : 0 ≤ x ∧ x ≤ 8) (hy : 0 ≤ y ∧ y ≤ 8) : 0 ≤ x * y ∧ x * y ≤ 64 := by
  refine ⟨Int.mul_nonneg hx.1 hy.1, ?_⟩
  have := Int.mul_le_mul hx.2 hy.2 hy.1 (by omega : (0 : Int) ≤ 8)
  simpa using this
theorem sumP_bnd {X Y : Cx} (hX : IsC X) (hY : IsC Y) (s : Int) : ∀ k : Nat, 0 ≤ sumP X Y s k ∧ sumP X Y s k ≤ 64 * k
  | 0 => by simp [sumP]
  | k + 1 => by
    have h1 := sumP_bnd hX hY s k
    have h2 := mul64 (dimP_bnd hX k) (dimP_bnd hY (s - k))
    rw [sumP]; omega
def placeP (X Y : Cx) (i a j b : Int) : Int := sumP X Y (i + j) i.toNat + a * dimP Y j + b
noncomputable def cod1 (X Y : Cx) (i j : Int) : Int := if (twoP X Y == 0 && (!in3 i 0 ((X.dims.length : Int) - 1) || !in3 j 0 ((Y.dims.length : Int) - 1))) = true then 2 else twoP X Y
noncomputable def cod2 (X Y : Cx) (i a j b : Int) : Int := if (cod1 X Y i j == 0 && (!in3 a 0 (dimP X i - 1) || !in3 b 0 (dimP Y j - 1))) = true then 2 else cod1 X Y i j
noncomputable def codI (X Y : Cx) (i a j b : Int) : Int := if (twoP X Y == 0 && (!in3 a 0 (dimP X i - 1) || !in3 b 0 (dimP Y j - 1))) = true then 2 else twoP X Y
theorem cod1_0 {X Y : Cx} {i j : Int} (h : cod1 X Y i j = 0) : IsC X ∧ IsC Y ∧ 0 ≤ i ∧ i ≤ 5 ∧ 0 ≤ j ∧ j ≤ 5 := by
  unfold cod1 at h
  split at h
  · cases h
  · rename_i hc
    obtain ⟨h1, h2, _⟩ := twoP_0 h
    simp only [h, beq_self_eq_true, Bool.true_and, Bool.or_eq_true, Bool.not_eq_true', not_or, Bool.not_eq_false, in3_iff] at hc
    have := h1.len; have := h2.len
    exact ⟨h1, h2, by omega, by omega, by omega, by omega⟩
theorem cod2_0 {X Y : Cx} {i a j b : Int} (h : cod2 X Y i a j b = 0) : IsC X ∧ IsC Y ∧ 0 ≤ i ∧ i ≤ 5 ∧ 0 ≤ j ∧ j ≤ 5 ∧ 0 ≤ a ∧ a ≤ 8 ∧ 0 ≤ b ∧ b ≤ 8 := by
  unfold cod2 at h
  split at h
  · cases h
  · rename_i hc
    obtain ⟨h1, h2, h3, h4, h5, h6⟩ := cod1_0 h
    simp only [h, beq_self_eq_true, Bool.true_and, Bool.or_eq_true, Bool.not_eq_true', not_or, Bool.not_eq_false, in3_iff] at hc
    have := dimP_bnd h1 i; have := dimP_bnd h2 j
    exact ⟨h1, h2, h3, h4, h5, h6, by omega, by omega, by omega, by omega⟩
theorem codI_eq (X Y : Cx) (i a j b : Int) : codI X Y i a j b = cod2 X Y i a j b := by
  unfold codI cod2
  by_cases h0 : twoP X Y = 0
  · by_cases hr : in3 i 0 ((X.dims.length : Int) - 1) = true ∧ in3 j 0 ((Y.dims.length : Int) - 1) = true
    · have : cod1 X Y i j = twoP X Y := by unfold cod1; rw [hr.1, hr.2]; simp
      rw [this]
    · have h1 : cod1 X Y i j = 2 := by
        unfold cod1
        rw [if_pos]
        simp only [h0, beq_self_eq_true, Bool.true_and, Bool.or_eq_true, Bool.not_eq_true']
        rcases Classical.not_and_iff_not_or_not.1 hr with h | h
        · exact .inl (by simpa using h)
        · exact .inr (by simpa using h)
      have h2 : (!in3 a 0 (dimP X i - 1) || !in3 b 0 (dimP Y j - 1)) = true := by
        rw [in3_iff, in3_iff] at hr
        rcases Classical.not_and_iff_not_or_not.1 hr with h | h
        · rw [dimP_out h, in3_f.2 (by omega)]; rfl
        · rw [dimP_out h, Bool.or_eq_true]; exact .inr (by rw [in3_f.2 (by omega)]; rfl)
      rw [h1, h0, h2]; rfl
  · have : cod1 X Y i j = twoP X Y := by
      unfold cod1
      rw [if_neg]
      simp [h0]
    rw [this]

set_option maxRecDepth 100000 in
theorem two_ok (vx vy : Value) (X Y : Cx) (h : Heap) (hx : RC h vx X) (hy : RC h vy Y) : CallA Try.prog 121 #[vx, vy] h fun v' h' => v' = .int .i64 (twoP X Y) ∧ Ext h h' := by
  obtain ⟨vd, vm, rfl, hd, hm⟩ := hx
  obtain ⟨vdy, vmy, rfl, hdy, hmy⟩ := hy
  refine callA_intro TTok (args := [_, _]) Try.func121 (by kernel_rfl) rfl 20 rfl (by simp) [.tmp 4] rfl ?_
  simp only [idxs, Nat.reduceAdd]
  refine den_seq ?_
  refine den_region TTok ?_
  intro K hK
  simp -implicitDefEqProofs (disch := first | decide | assumption | omega) only [go_sem, RdS.len hd sl22, RdS.idx hd sl22, R1.intB hd (HPres.refl _), RdS.cells hd, RdS.len hm sl23, RdS.idx hm sl23, RdS.cellB hm (HPres.refl _), RdS.cells hm, RdS.len hdy sl22, RdS.idx hdy sl22, R1.intB hdy (HPres.refl _), RdS.cells hdy, RdS.len hmy sl23, RdS.idx hmy sl23, RdS.cellB hmy (HPres.refl _), RdS.cells hmy]
  refine op_box (cs := #[.int .i64 (X.p), vd, vm]) rfl ?_
  intro h0_0 e0_0 hb0_0 z0_0
  replace hd := RdS.pres hd (Ext.pres e0_0)
  replace hm := RdS.pres hm (Ext.pres e0_0)
  replace hdy := RdS.pres hdy (Ext.pres e0_0)
  replace hmy := RdS.pres hmy (Ext.pres e0_0)
  try simp -implicitDefEqProofs (disch := first | decide | assumption | omega) only [go_sem, RdS.len hd sl22, RdS.idx hd sl22, R1.intB hd (HPres.refl _), RdS.cells hd, RdS.len hm sl23, RdS.idx hm sl23, RdS.cellB hm (HPres.refl _), RdS.cells hm, RdS.len hdy sl22, RdS.idx hdy sl22, R1.intB hdy (HPres.refl _), RdS.cells hdy, RdS.len hmy sl23, RdS.idx hmy sl23, RdS.cellB hmy (HPres.refl _), RdS.cells hmy, BoxAt.cell hb0_0]
  refine op_box (cs := #[.int .i64 (Y.p), vdy, vmy]) rfl ?_
  intro h0_1 e0_1 hb0_1 z0_1
  replace hd := RdS.pres hd (Ext.pres e0_1)
  replace hm := RdS.pres hm (Ext.pres e0_1)
  replace hdy := RdS.pres hdy (Ext.pres e0_1)
  replace hmy := RdS.pres hmy (Ext.pres e0_1)
  replace hb0_0 := BoxAt.ext hb0_0 e0_1
  try simp -implicitDefEqProofs (disch := first | decide | assumption | omega) only [go_sem, RdS.len hd sl22, RdS.idx hd sl22, R1.intB hd (HPres.refl _), RdS.cells hd, RdS.len hm sl23, RdS.idx hm sl23, RdS.cellB hm (HPres.refl _), RdS.cells hm, RdS.len hdy sl22, RdS.idx hdy sl22, R1.intB hdy (HPres.refl _), RdS.cells hdy, RdS.len hmy sl23, RdS.idx hmy sl23, RdS.cellB hmy (HPres.refl _), RdS.cells hmy, BoxAt.cell hb0_0, BoxAt.cell hb0_1]
  refine hK _ _ ?_
  clear hK K
  refine den_seq ?_
  refine den_block ?_
  refine den_seq ?_
  refine den_merge [(5, .bool (((!((isC X))) || (!((isC Y))))))] [2, 3] (fun H => Ext h0_1 H) ?_ ?_
    -- a way
  · refine den_region TTok ?_
    intro K hK
    simp -implicitDefEqProofs (disch := first | decide | assumption | (simp (disch := decide) only [slotOf_zero, slotOf_succ, Option.map_some, puts_same, puts_ne, gv_bool, gv_undef, tt, tf, ft, ff, eq_self, if_true, if_false, Bool.false_eq_true, Bool.not_true, Bool.not_false]; done) | omega) only [go_sem, ld31, RdS.len hd sl22, RdS.idx hd sl22, R1.intB hd (HPres.refl _), RdS.cells hd, RdS.len hm sl23, RdS.idx hm sl23, RdS.cellB hm (HPres.refl _), RdS.cells hm, RdS.len hdy sl22, RdS.idx hdy sl22, R1.intB hdy (HPres.refl _), RdS.cells hdy, RdS.len hmy sl23, RdS.idx hmy sl23, RdS.cellB hmy (HPres.refl _), RdS.cells hmy, BoxAt.cell hb0_0, BoxAt.cell hb0_1]
    try simp -implicitDefEqProofs (disch := first | decide | assumption | omega) only [go_sem, RdS.len hd sl22, RdS.idx hd sl22, R1.intB hd (HPres.refl _), RdS.cells hd, RdS.len hm sl23, RdS.idx hm sl23, RdS.cellB hm (HPres.refl _), RdS.cells hm, RdS.len hdy sl22, RdS.idx hdy sl22, R1.intB hdy (HPres.refl _), RdS.cells hdy, RdS.len hmy sl23, RdS.idx hmy sl23, RdS.cellB hmy (HPres.refl _), RdS.cells hmy, BoxAt.cell hb0_0, BoxAt.cell hb0_1]
    refine CallA.mono (sIs_ok _ X _ ⟨_, _, rfl, hd, hm⟩) ?_
    intro v_ h1_1
    rintro ⟨rfl, e1_1⟩
    have := Ext.size e1_1
    have eB := e1_1
    try simp -implicitDefEqProofs (disch := first | decide | assumption | (simp (disch := decide) only [slotOf_zero, slotOf_succ, Option.map_some, puts_same, puts_ne, gv_bool, gv_undef, tt, tf, ft, ff, eq_self, if_true, if_false, Bool.false_eq_true, Bool.not_true, Bool.not_false]; done) | omega) only [go_sem, RdS.len hd sl22, RdS.idx hd sl22, R1.intB hd (Ext.pres eB), RdS.cells hd, RdS.len hm sl23, RdS.idx hm sl23, RdS.cellB hm (Ext.pres eB), RdS.cells hm, RdS.len hdy sl22, RdS.idx hdy sl22, R1.intB hdy (Ext.pres eB), RdS.cells hdy, RdS.len hmy sl23, RdS.idx hmy sl23, RdS.cellB hmy (Ext.pres eB), RdS.cells hmy, BoxAt.cellB hb0_0 eB, BoxAt.cellB hb0_1 eB]
    refine opsP_F (by simp (disch := decide) only [slotOf_zero, slotOf_succ, Option.map_some, puts_same, puts_ne, gv_bool, gv_undef, tt, tf, ft, ff, eq_self, if_true, if_false, Bool.false_eq_true, Bool.not_true, Bool.not_false]; rfl) (fun g1 => ?_) (fun g1 => ?_)
    · try simp -implicitDefEqProofs (disch := first | decide | assumption | (simp (disch := decide) only [slotOf_zero, slotOf_succ, Option.map_some, puts_same, puts_ne, gv_bool, gv_undef, tt, tf, ft, ff, eq_self, if_true, if_false, Bool.false_eq_true, Bool.not_true, Bool.not_false, g1]; done) | omega) only [go_sem, ld31, RdS.len hd sl22, RdS.idx hd sl22, R1.intB hd (Ext.pres eB), RdS.cells hd, RdS.len hm sl23, RdS.idx hm sl23, RdS.cellB hm (Ext.pres eB), RdS.cells hm, RdS.len hdy sl22, RdS.idx hdy sl22, R1.intB hdy (Ext.pres eB), RdS.cells hdy, RdS.len hmy sl23, RdS.idx hmy sl23, RdS.cellB hmy (Ext.pres eB), RdS.cells hmy, BoxAt.cellB hb0_0 eB, BoxAt.cellB hb0_1 eB, g1, eq_self, if_true, if_false, Bool.false_eq_true]
      try simp -implicitDefEqProofs (disch := first | decide | assumption | omega) only [go_sem, RdS.len hd sl22, RdS.idx hd sl22, R1.intB hd (Ext.pres eB), RdS.cells hd, RdS.len hm sl23, RdS.idx hm sl23, RdS.cellB hm (Ext.pres eB), RdS.cells hm, RdS.len hdy sl22, RdS.idx hdy sl22, R1.intB hdy (Ext.pres eB), RdS.cells hdy, RdS.len hmy sl23, RdS.idx hmy sl23, RdS.cellB hmy (Ext.pres eB), RdS.cells hmy, BoxAt.cellB hb0_0 eB, BoxAt.cellB hb0_1 eB]
      refine CallA.mono (sIs_ok _ Y _ ⟨_, _, rfl, (RdS.pres hdy (Ext.pres eB)), (RdS.pres hmy (Ext.pres eB))⟩) ?_
      intro v_ h1_5
      rintro ⟨rfl, e1_5⟩
      have := Ext.size e1_5
      replace eB := Ext.trans eB e1_5
      try simp -implicitDefEqProofs (disch := first | decide | assumption | (simp (disch := decide) only [slotOf_zero, slotOf_succ, Option.map_some, puts_same, puts_ne, gv_bool, gv_undef, tt, tf, ft, ff, eq_self, if_true, if_false, Bool.false_eq_true, Bool.not_true, Bool.not_false, g1]; done) | omega) only [go_sem, RdS.len hd sl22, RdS.idx hd sl22, R1.intB hd (Ext.pres eB), RdS.cells hd, RdS.len hm sl23, RdS.idx hm sl23, RdS.cellB hm (Ext.pres eB), RdS.cells hm, RdS.len hdy sl22, RdS.idx hdy sl22, R1.intB hdy (Ext.pres eB), RdS.cells hdy, RdS.len hmy sl23, RdS.idx hmy sl23, RdS.cellB hmy (Ext.pres eB), RdS.cells hmy, BoxAt.cellB hb0_0 eB, BoxAt.cellB hb0_1 eB, g1, eq_self, if_true, if_false, Bool.false_eq_true]
      refine hK _ _ ?_
      clear hK K
      refine den_stop ?_
      refine ⟨?_, (Ext.trans e1_1 e1_5)⟩
      first | (simp (disch := decide) only [go_sem, g1, eq_self, Bool.true_and, Bool.and_true, Bool.false_and, Bool.and_false, Bool.true_or, Bool.or_true, Bool.false_or, Bool.or_false, if_true, if_false, Bool.false_eq_true]; done) | simp [HasL, sel, puts_at, g1]
    · try simp -implicitDefEqProofs (disch := first | decide | assumption | (simp (disch := decide) only [slotOf_zero, slotOf_succ, Option.map_some, puts_same, puts_ne, gv_bool, gv_undef, tt, tf, ft, ff, eq_self, if_true, if_false, Bool.false_eq_true, Bool.not_true, Bool.not_false, g1]; done) | omega) only [go_sem, RdS.len hd sl22, RdS.idx hd sl22, R1.intB hd (Ext.pres eB), RdS.cells hd, RdS.len hm sl23, RdS.idx hm sl23, RdS.cellB hm (Ext.pres eB), RdS.cells hm, RdS.len hdy sl22, RdS.idx hdy sl22, R1.intB hdy (Ext.pres eB), RdS.cells hdy, RdS.len hmy sl23, RdS.idx hmy sl23, RdS.cellB hmy (Ext.pres eB), RdS.cells hmy, BoxAt.cellB hb0_0 eB, BoxAt.cellB hb0_1 eB, g1, eq_self, if_true, if_false, Bool.false_eq_true]
      refine hK _ _ ?_
      clear hK K
      refine den_stop ?_
      refine ⟨?_, e1_1⟩
      first | (simp (disch := decide) only [go_sem, g1, eq_self, Bool.true_and, Bool.and_true, Bool.false_and, Bool.and_false, Bool.true_or, Bool.or_true, Bool.false_or, Bool.or_false, if_true, if_false, Bool.false_eq_true]; done) | simp [HasL, sel, puts_at, g1]
  intro en2 h3 e4
  have := Ext.size e4
  have eB := e4
  simp (disch := decide) only [go_sem]
  refine den_cond rfl (fun c0 => ?_) (fun c0 => ?_)
  · try simp only [decide_eq_true_eq, decide_eq_false_iff_not, beq_iff_eq, beq_eq_false_iff_ne, bne_iff_ne, ne_eq, Bool.not_eq_true', Bool.not_eq_false', Bool.and_eq_true, Bool.or_eq_true, bne_eq_false_iff_eq, Bool.or_eq_false_iff, Bool.and_eq_false_iff] at c0
    refine den_seq ?_
    refine den_region TTok ?_
    intro K hK
    simp -implicitDefEqProofs (disch := first | decide | assumption | omega) only [go_sem, RdS.len hd sl22, RdS.idx hd sl22, R1.intB hd (Ext.pres eB), RdS.cells hd, RdS.len hm sl23, RdS.idx hm sl23, RdS.cellB hm (Ext.pres eB), RdS.cells hm, RdS.len hdy sl22, RdS.idx hdy sl22, R1.intB hdy (Ext.pres eB), RdS.cells hdy, RdS.len hmy sl23, RdS.idx hmy sl23, RdS.cellB hmy (Ext.pres eB), RdS.cells hmy, BoxAt.cellB hb0_0 eB, BoxAt.cellB hb0_1 eB]
    refine hK _ _ ?_
    clear hK K
    refine den_ret ?_
    simp (disch := decide) only [resP_1, puts_same, puts_ne]
    exact ⟨vint (by rw [twoP, if_neg (by rintro ⟨h1, h2⟩; rw [h1, h2] at c0; simp at c0)]), (Ext.trans (Ext.trans e0_0 e0_1) eB)⟩
  · try simp only [decide_eq_true_eq, decide_eq_false_iff_not, beq_iff_eq, beq_eq_false_iff_ne, bne_iff_ne, ne_eq, Bool.not_eq_true', Bool.not_eq_false', Bool.and_eq_true, Bool.or_eq_true, bne_eq_false_iff_eq, Bool.or_eq_false_iff, Bool.and_eq_false_iff] at c0
    refine den_seq ?_
    refine den_region TTok ?_
    intro K hK
    simp -implicitDefEqProofs (disch := first | decide | assumption | omega) only [go_sem, fa31_0, ld2, RdS.len hd sl22, RdS.idx hd sl22, R1.intB hd (Ext.pres eB), RdS.cells hd, RdS.len hm sl23, RdS.idx hm sl23, RdS.cellB hm (Ext.pres eB), RdS.cells hm, RdS.len hdy sl22, RdS.idx hdy sl22, R1.intB hdy (Ext.pres eB), RdS.cells hdy, RdS.len hmy sl23, RdS.idx hmy sl23, RdS.cellB hmy (Ext.pres eB), RdS.cells hmy, BoxAt.cellB hb0_0 eB, BoxAt.cellB hb0_1 eB]
    refine hK _ _ ?_
    clear hK K
    refine den_cond rfl (fun c1 => ?_) (fun c1 => ?_)
    · try simp only [decide_eq_true_eq, decide_eq_false_iff_not, beq_iff_eq, beq_eq_false_iff_ne, bne_iff_ne, ne_eq, Bool.not_eq_true', Bool.not_eq_false', Bool.and_eq_true, Bool.or_eq_true, bne_eq_false_iff_eq, Bool.or_eq_false_iff, Bool.and_eq_false_iff] at c1
      refine den_seq ?_
      refine den_region TTok ?_
      intro K hK
      simp -implicitDefEqProofs (disch := first | decide | assumption | omega) only [go_sem, RdS.len hd sl22, RdS.idx hd sl22, R1.intB hd (Ext.pres eB), RdS.cells hd, RdS.len hm sl23, RdS.idx hm sl23, RdS.cellB hm (Ext.pres eB), RdS.cells hm, RdS.len hdy sl22, RdS.idx hdy sl22, R1.intB hdy (Ext.pres eB), RdS.cells hdy, RdS.len hmy sl23, RdS.idx hmy sl23, RdS.cellB hmy (Ext.pres eB), RdS.cells hmy, BoxAt.cellB hb0_0 eB, BoxAt.cellB hb0_1 eB]
      refine hK _ _ ?_
      clear hK K
      refine den_ret ?_
      simp (disch := decide) only [resP_1, puts_same, puts_ne]
      exact ⟨vint (by rw [twoP, if_pos c0, if_neg c1]), (Ext.trans (Ext.trans e0_0 e0_1) eB)⟩
    · try simp only [decide_eq_true_eq, decide_eq_false_iff_not, beq_iff_eq, beq_eq_false_iff_ne, bne_iff_ne, ne_eq, Bool.not_eq_true', Bool.not_eq_false', Bool.and_eq_true, Bool.or_eq_true, bne_eq_false_iff_eq, Bool.or_eq_false_iff, Bool.and_eq_false_iff] at c1
      refine den_skip ?_
      refine den_blk ?_
      refine den_seq ?_
      refine den_region TTok ?_
      intro K hK
      simp -implicitDefEqProofs (disch := first | decide | assumption | omega) only [go_sem, RdS.len hd sl22, RdS.idx hd sl22, R1.intB hd (Ext.pres eB), RdS.cells hd, RdS.len hm sl23, RdS.idx hm sl23, RdS.cellB hm (Ext.pres eB), RdS.cells hm, RdS.len hdy sl22, RdS.idx hdy sl22, R1.intB hdy (Ext.pres eB), RdS.cells hdy, RdS.len hmy sl23, RdS.idx hmy sl23, RdS.cellB hmy (Ext.pres eB), RdS.cells hmy, BoxAt.cellB hb0_0 eB, BoxAt.cellB hb0_1 eB]
      refine hK _ _ ?_
      clear hK K
      refine den_ret ?_
      simp (disch := decide) only [resP_1, puts_same, puts_ne]
      exact ⟨vint (by rw [twoP, if_pos c0, if_pos c1]), (Ext.trans (Ext.trans e0_0 e0_1) eB)⟩

theorem same2_ok (v : Value) (X Y : Cx) (h : Heap) (hv : RdA 3 RC h v [X, Y]) : CallA Try.prog 127 #[v] h fun v' h' => v' = .int .i64 (twoP X Y) ∧ Ext h h' := by
  rw [← sameP_two]
  exact same_ok v _ h hv

set_option maxRecDepth 100000 in
theorem sPlace_ok (vx vy : Value) (X Y : Cx) (i a j b : Int) (h : Heap) (hx : RC h vx X) (hy : RC h vy Y) (hX : IsC X) (hY : IsC Y) (hi : 0 ≤ i ∧ i ≤ 5) (hj : 0 ≤ j ∧ j ≤ 5) (ha : 0 ≤ a ∧ a ≤ 8) (hb : 0 ≤ b ∧ b ≤ 8) : CallA Try.prog 126 #[vx, vy, .int .i64 i, .int .i64 a, .int .i64 j, .int .i64 b] h fun v' h' => v' = .int .i64 (placeP X Y i a j b) ∧ Ext h h' := by
  obtain ⟨vd, vm, rfl, hd, hm⟩ := hx
  obtain ⟨vdy, vmy, rfl, hdy, hmy⟩ := hy
  have hm2 := mul64 ha (dimP_bnd hY j)
  refine callA_intro TTok (args := [_, _, _, _, _, _]) Try.func126 (by kernel_rfl) rfl 42 rfl (by simp) [.tmp 12] rfl ?_
  simp only [idxs, Nat.reduceAdd]
  refine den_seq ?_
  refine den_region TTok ?_
  intro K hK
  simp -implicitDefEqProofs (disch := first | decide | assumption | omega) only [go_sem, RdS.len hd sl22, RdS.idx hd sl22, R1.intB hd (HPres.refl _), RdS.cells hd, RdS.len hm sl23, RdS.idx hm sl23, RdS.cellB hm (HPres.refl _), RdS.cells hm, RdS.len hdy sl22, RdS.idx hdy sl22, R1.intB hdy (HPres.refl _), RdS.cells hdy, RdS.len hmy sl23, RdS.idx hmy sl23, RdS.cellB hmy (HPres.refl _), RdS.cells hmy, wrap_id]
  refine op_box (cs := #[.int .i64 (X.p), vd, vm]) rfl ?_
  intro h0_0 e0_0 hb0_0 z0_0
  replace hd := RdS.pres hd (Ext.pres e0_0)
  replace hm := RdS.pres hm (Ext.pres e0_0)
  replace hdy := RdS.pres hdy (Ext.pres e0_0)
  replace hmy := RdS.pres hmy (Ext.pres e0_0)
  try simp -implicitDefEqProofs (disch := first | decide | assumption | omega) only [go_sem, RdS.len hd sl22, RdS.idx hd sl22, R1.intB hd (HPres.refl _), RdS.cells hd, RdS.len hm sl23, RdS.idx hm sl23, RdS.cellB hm (HPres.refl _), RdS.cells hm, RdS.len hdy sl22, RdS.idx hdy sl22, R1.intB hdy (HPres.refl _), RdS.cells hdy, RdS.len hmy sl23, RdS.idx hmy sl23, RdS.cellB hmy (HPres.refl _), RdS.cells hmy, BoxAt.cell hb0_0, wrap_id]
  refine op_box (cs := #[.int .i64 (Y.p), vdy, vmy]) rfl ?_
  intro h0_1 e0_1 hb0_1 z0_1
  replace hd := RdS.pres hd (Ext.pres e0_1)
  replace hm := RdS.pres hm (Ext.pres e0_1)
  replace hdy := RdS.pres hdy (Ext.pres e0_1)
  replace hmy := RdS.pres hmy (Ext.pres e0_1)
  replace hb0_0 := BoxAt.ext hb0_0 e0_1
  try simp -implicitDefEqProofs (disch := first | decide | assumption | omega) only [go_sem, RdS.len hd sl22, RdS.idx hd sl22, R1.intB hd (HPres.refl _), RdS.cells hd, RdS.len hm sl23, RdS.idx hm sl23, RdS.cellB hm (HPres.refl _), RdS.cells hm, RdS.len hdy sl22, RdS.idx hdy sl22, R1.intB hdy (HPres.refl _), RdS.cells hdy, RdS.len hmy sl23, RdS.idx hmy sl23, RdS.cellB hmy (HPres.refl _), RdS.cells hmy, BoxAt.cell hb0_0, BoxAt.cell hb0_1, wrap_id]
  refine hK _ _ ?_
  clear hK K
  refine den_seq ?_
  refine den_region TTok ?_
  intro K hK
  simp -implicitDefEqProofs (disch := first | decide | assumption | omega) only [go_sem, RdS.len hd sl22, RdS.idx hd sl22, R1.intB hd (HPres.refl _), RdS.cells hd, RdS.len hm sl23, RdS.idx hm sl23, RdS.cellB hm (HPres.refl _), RdS.cells hm, RdS.len hdy sl22, RdS.idx hdy sl22, R1.intB hdy (HPres.refl _), RdS.cells hdy, RdS.len hmy sl23, RdS.idx hmy sl23, RdS.cellB hmy (HPres.refl _), RdS.cells hmy, BoxAt.cell hb0_0, BoxAt.cell hb0_1, wrap_id]
  refine hK _ _ ?_
  clear hK K
  refine den_seq ?_
  refine den_seq ?_
  refine den_region TTok ?_
  intro K hK
  simp -implicitDefEqProofs (disch := first | decide | assumption | omega) only [go_sem, RdS.len hd sl22, RdS.idx hd sl22, R1.intB hd (HPres.refl _), RdS.cells hd, RdS.len hm sl23, RdS.idx hm sl23, RdS.cellB hm (HPres.refl _), RdS.cells hm, RdS.len hdy sl22, RdS.idx hdy sl22, R1.intB hdy (HPres.refl _), RdS.cells hdy, RdS.len hmy sl23, RdS.idx hmy sl23, RdS.cellB hmy (HPres.refl _), RdS.cells hmy, BoxAt.cell hb0_0, BoxAt.cell hb0_1, wrap_id]
  refine hK _ _ ?_
  clear hK K
  refine den_block ?_
  refine den_sel [13, 14, 2, 3, 4, 5, 6, 7] ?_
  intro env_1
  simp only [go_sem]
  refine den_loopS (σ := Nat × Int) (fun s => [(13, .int .i64 s.2), (14, .int .i64 (s.1 : Int))]) (fun s H => Ext h0_1 H ∧ (s.1 : Int) ≤ i ∧ s.2 = sumP X Y (i + j) s.1) (fun s => i.toNat - s.1) (0, 0) ?_ ?_
  · exact ⟨Ext.refl _, by simp; omega, by simp [sumP]⟩
  · rintro ⟨k, acc⟩ h4 ee3 ⟨eB, hk, hacc⟩
    simp only [List.cons_append, List.nil_append]
    have := Ext.size eB
    dsimp only at hk hacc
    have hs := sumP_bnd hX hY (i + j) k
    have hm1 := mul64 (dimP_bnd hX k) (dimP_bnd hY (i + j - k))
    refine den_seq ?_
    refine den_seq ?_
    refine den_region TTok ?_
    intro K hK
    simp -implicitDefEqProofs (disch := first | decide | assumption | omega) only [go_sem, RdS.len hd sl22, RdS.idx hd sl22, R1.intB hd (Ext.pres eB), RdS.cells hd, RdS.len hm sl23, RdS.idx hm sl23, RdS.cellB hm (Ext.pres eB), RdS.cells hm, RdS.len hdy sl22, RdS.idx hdy sl22, R1.intB hdy (Ext.pres eB), RdS.cells hdy, RdS.len hmy sl23, RdS.idx hmy sl23, RdS.cellB hmy (Ext.pres eB), RdS.cells hmy, BoxAt.cellB hb0_0 eB, BoxAt.cellB hb0_1 eB, wrap_id]
    refine hK _ _ ?_
    clear hK K
    refine den_cond rfl (fun c0 => ?_) (fun c0 => ?_)
    · try simp only [decide_eq_true_eq, decide_eq_false_iff_not, beq_iff_eq, beq_eq_false_iff_ne, bne_iff_ne, ne_eq, Bool.not_eq_true', Bool.not_eq_false', Bool.and_eq_true, Bool.or_eq_true, bne_eq_false_iff_eq] at c0
      refine den_skip ?_
      refine den_seq ?_
      refine den_block ?_
      refine den_draw TTok mixed [] [(0, true), (1, true), (2, true), (4, true), (5, true), (6, true), (7, true), (8, true), (9, true), (3, false), (10, false), (11, true), (12, true), (13, true)] (by kernel_rfl) ?_
      intro K hK
      simp -implicitDefEqProofs (disch := first | decide | assumption | omega) only [go_sem, ld31, RdS.len hd sl22, RdS.idx hd sl22, R1.intB hd (Ext.pres eB), RdS.cells hd, RdS.len hm sl23, RdS.idx hm sl23, RdS.cellB hm (Ext.pres eB), RdS.cells hm, RdS.len hdy sl22, RdS.idx hdy sl22, R1.intB hdy (Ext.pres eB), RdS.cells hdy, RdS.len hmy sl23, RdS.idx hmy sl23, RdS.cellB hmy (Ext.pres eB), RdS.cells hmy, BoxAt.cellB hb0_0 eB, BoxAt.cellB hb0_1 eB, wrap_id]
      try simp -implicitDefEqProofs (disch := first | decide | assumption | omega) only [go_sem, RdS.len hd sl22, RdS.idx hd sl22, R1.intB hd (Ext.pres eB), RdS.cells hd, RdS.len hm sl23, RdS.idx hm sl23, RdS.cellB hm (Ext.pres eB), RdS.cells hm, RdS.len hdy sl22, RdS.idx hdy sl22, R1.intB hdy (Ext.pres eB), RdS.cells hdy, RdS.len hmy sl23, RdS.idx hmy sl23, RdS.cellB hmy (Ext.pres eB), RdS.cells hmy, BoxAt.cellB hb0_0 eB, BoxAt.cellB hb0_1 eB, wrap_id]
      refine CallA.mono (sDim_ok _ X _ _ ⟨_, _, rfl, (RdS.pres hd (Ext.pres eB)), (RdS.pres hm (Ext.pres eB))⟩) ?_
      intro v_ h5_3
      rintro ⟨rfl, e5_3⟩
      have := Ext.size e5_3
      replace eB := Ext.trans eB e5_3
      try simp (disch := decide) only [outv_some, outv_none, put_puts]
      refine plK_pres (Ext.pres e5_3) ?_
      try simp -implicitDefEqProofs (disch := first | decide | assumption | omega) only [go_sem, RdS.len hd sl22, RdS.idx hd sl22, R1.intB hd (Ext.pres eB), RdS.cells hd, RdS.len hm sl23, RdS.idx hm sl23, RdS.cellB hm (Ext.pres eB), RdS.cells hm, RdS.len hdy sl22, RdS.idx hdy sl22, R1.intB hdy (Ext.pres eB), RdS.cells hdy, RdS.len hmy sl23, RdS.idx hmy sl23, RdS.cellB hmy (Ext.pres eB), RdS.cells hmy, BoxAt.cellB hb0_0 eB, BoxAt.cellB hb0_1 eB, wrap_id]
      try simp -implicitDefEqProofs (disch := first | decide | assumption | omega) only [go_sem, RdS.len hd sl22, RdS.idx hd sl22, R1.intB hd (Ext.pres eB), RdS.cells hd, RdS.len hm sl23, RdS.idx hm sl23, RdS.cellB hm (Ext.pres eB), RdS.cells hm, RdS.len hdy sl22, RdS.idx hdy sl22, R1.intB hdy (Ext.pres eB), RdS.cells hdy, RdS.len hmy sl23, RdS.idx hmy sl23, RdS.cellB hmy (Ext.pres eB), RdS.cells hmy, BoxAt.cellB hb0_0 eB, BoxAt.cellB hb0_1 eB, wrap_id]
      refine CallA.mono (sDim_ok _ Y _ _ ⟨_, _, rfl, (RdS.pres hdy (Ext.pres eB)), (RdS.pres hmy (Ext.pres eB))⟩) ?_
      intro v_ h5_10
      rintro ⟨rfl, e5_10⟩
      have := Ext.size e5_10
      replace eB := Ext.trans eB e5_10
      try simp (disch := decide) only [outv_some, outv_none, put_puts]
      refine plK_pres (Ext.pres e5_10) ?_
      try simp -implicitDefEqProofs (disch := first | decide | assumption | omega) only [go_sem, RdS.len hd sl22, RdS.idx hd sl22, R1.intB hd (Ext.pres eB), RdS.cells hd, RdS.len hm sl23, RdS.idx hm sl23, RdS.cellB hm (Ext.pres eB), RdS.cells hm, RdS.len hdy sl22, RdS.idx hdy sl22, R1.intB hdy (Ext.pres eB), RdS.cells hdy, RdS.len hmy sl23, RdS.idx hmy sl23, RdS.cellB hmy (Ext.pres eB), RdS.cells hmy, BoxAt.cellB hb0_0 eB, BoxAt.cellB hb0_1 eB, wrap_id]
      refine hK _ _ ?_
      clear hK K
      refine den_blk ?_
      refine den_region TTok ?_
      intro K hK
      simp -implicitDefEqProofs (disch := first | decide | assumption | omega) only [go_sem, RdS.len hd sl22, RdS.idx hd sl22, R1.intB hd (Ext.pres eB), RdS.cells hd, RdS.len hm sl23, RdS.idx hm sl23, RdS.cellB hm (Ext.pres eB), RdS.cells hm, RdS.len hdy sl22, RdS.idx hdy sl22, R1.intB hdy (Ext.pres eB), RdS.cells hdy, RdS.len hmy sl23, RdS.idx hmy sl23, RdS.cellB hmy (Ext.pres eB), RdS.cells hmy, BoxAt.cellB hb0_0 eB, BoxAt.cellB hb0_1 eB, wrap_id]
      refine hK _ _ ?_
      clear hK K
      refine den_stop ?_
      exact ⟨(k + 1, acc + dimP X k * dimP Y (i + j - k)), by simp [HasL, puts_at], ⟨eB, by dsimp only; omega, by dsimp only; rw [sumP]; omega⟩, by dsimp only; omega⟩
    · try simp only [decide_eq_true_eq, decide_eq_false_iff_not, beq_iff_eq, beq_eq_false_iff_ne, bne_iff_ne, ne_eq, Bool.not_eq_true', Bool.not_eq_false', Bool.and_eq_true, Bool.or_eq_true, bne_eq_false_iff_eq] at c0
      refine den_exit ?_
      refine denX_code ?_
      refine denX_stop ?_
      refine denX_hit ?_
      refine den_seq ?_
      refine den_region TTok ?_
      intro K hK
      simp -implicitDefEqProofs (disch := first | decide | assumption | omega) only [go_sem, ld31, RdS.len hd sl22, RdS.idx hd sl22, R1.intB hd (Ext.pres eB), RdS.cells hd, RdS.len hm sl23, RdS.idx hm sl23, RdS.cellB hm (Ext.pres eB), RdS.cells hm, RdS.len hdy sl22, RdS.idx hdy sl22, R1.intB hdy (Ext.pres eB), RdS.cells hdy, RdS.len hmy sl23, RdS.idx hmy sl23, RdS.cellB hmy (Ext.pres eB), RdS.cells hmy, BoxAt.cellB hb0_0 eB, BoxAt.cellB hb0_1 eB, wrap_id]
      try simp -implicitDefEqProofs (disch := first | decide | assumption | omega) only [go_sem, RdS.len hd sl22, RdS.idx hd sl22, R1.intB hd (Ext.pres eB), RdS.cells hd, RdS.len hm sl23, RdS.idx hm sl23, RdS.cellB hm (Ext.pres eB), RdS.cells hm, RdS.len hdy sl22, RdS.idx hdy sl22, R1.intB hdy (Ext.pres eB), RdS.cells hdy, RdS.len hmy sl23, RdS.idx hmy sl23, RdS.cellB hmy (Ext.pres eB), RdS.cells hmy, BoxAt.cellB hb0_0 eB, BoxAt.cellB hb0_1 eB, wrap_id]
      refine CallA.mono (sDim_ok _ Y _ _ ⟨_, _, rfl, (RdS.pres hdy (Ext.pres eB)), (RdS.pres hmy (Ext.pres eB))⟩) ?_
      intro v_ h6_4
      rintro ⟨rfl, e6_4⟩
      have := Ext.size e6_4
      replace eB := Ext.trans eB e6_4
      try simp -implicitDefEqProofs (disch := first | decide | assumption | omega) only [go_sem, RdS.len hd sl22, RdS.idx hd sl22, R1.intB hd (Ext.pres eB), RdS.cells hd, RdS.len hm sl23, RdS.idx hm sl23, RdS.cellB hm (Ext.pres eB), RdS.cells hm, RdS.len hdy sl22, RdS.idx hdy sl22, R1.intB hdy (Ext.pres eB), RdS.cells hdy, RdS.len hmy sl23, RdS.idx hmy sl23, RdS.cellB hmy (Ext.pres eB), RdS.cells hmy, BoxAt.cellB hb0_0 eB, BoxAt.cellB hb0_1 eB, wrap_id]
      refine hK _ _ ?_
      clear hK K
      refine den_ret ?_
      simp (disch := decide) only [resP_1, puts_same, puts_ne]
      have e : i.toNat = k := by omega
      exact ⟨vint (by rw [placeP, e]; omega), (Ext.trans (Ext.trans e0_0 e0_1) eB)⟩

set_option maxRecDepth 100000 in
theorem iPlace_ok (vx vy : Value) (X Y : Cx) (i a j b : Int) (h : Heap) (hx : RC h vx X) (hy : RC h vy Y) (hX : IsC X) (hY : IsC Y) (hi : 0 ≤ i ∧ i ≤ 5) (hj : 0 ≤ j ∧ j ≤ 5) (ha : 0 ≤ a ∧ a ≤ 8) (hb : 0 ≤ b ∧ b ≤ 8) : CallA Try.prog 198 #[vx, vy, .int .i64 i, .int .i64 a, .int .i64 j, .int .i64 b] h fun v' h' => v' = .int .i64 (placeP X Y i a j b) ∧ Ext h h' := by
  obtain ⟨vd, vm, rfl, hd, hm⟩ := hx
  obtain ⟨vdy, vmy, rfl, hdy, hmy⟩ := hy
  have hm2 := mul64 ha (dimP_bnd hY j)
  refine callA_intro TTok (args := [_, _, _, _, _, _]) Try.func198 (by kernel_rfl) rfl 41 rfl (by simp) [.tmp 12] rfl ?_
  simp only [idxs, Nat.reduceAdd]
  refine den_seq ?_
  refine den_region TTok ?_
  intro K hK
  simp -implicitDefEqProofs (disch := first | decide | assumption | omega) only [go_sem, RdS.len hd sl22, RdS.idx hd sl22, R1.intB hd (HPres.refl _), RdS.cells hd, RdS.len hm sl23, RdS.idx hm sl23, RdS.cellB hm (HPres.refl _), RdS.cells hm, RdS.len hdy sl22, RdS.idx hdy sl22, R1.intB hdy (HPres.refl _), RdS.cells hdy, RdS.len hmy sl23, RdS.idx hmy sl23, RdS.cellB hmy (HPres.refl _), RdS.cells hmy, wrap_id]
  refine op_box (cs := #[.int .i64 (X.p), vd, vm]) rfl ?_
  intro h0_0 e0_0 hb0_0 z0_0
  replace hd := RdS.pres hd (Ext.pres e0_0)
  replace hm := RdS.pres hm (Ext.pres e0_0)
  replace hdy := RdS.pres hdy (Ext.pres e0_0)
  replace hmy := RdS.pres hmy (Ext.pres e0_0)
  try simp -implicitDefEqProofs (disch := first | decide | assumption | omega) only [go_sem, RdS.len hd sl22, RdS.idx hd sl22, R1.intB hd (HPres.refl _), RdS.cells hd, RdS.len hm sl23, RdS.idx hm sl23, RdS.cellB hm (HPres.refl _), RdS.cells hm, RdS.len hdy sl22, RdS.idx hdy sl22, R1.intB hdy (HPres.refl _), RdS.cells hdy, RdS.len hmy sl23, RdS.idx hmy sl23, RdS.cellB hmy (HPres.refl _), RdS.cells hmy, BoxAt.cell hb0_0, wrap_id]
  refine op_box (cs := #[.int .i64 (Y.p), vdy, vmy]) rfl ?_
  intro h0_1 e0_1 hb0_1 z0_1
  replace hd := RdS.pres hd (Ext.pres e0_1)
  replace hm := RdS.pres hm (Ext.pres e0_1)
  replace hdy := RdS.pres hdy (Ext.pres e0_1)
  replace hmy := RdS.pres hmy (Ext.pres e0_1)
  replace hb0_0 := BoxAt.ext hb0_0 e0_1
  try simp -implicitDefEqProofs (disch := first | decide | assumption | omega) only [go_sem, RdS.len hd sl22, RdS.idx hd sl22, R1.intB hd (HPres.refl _), RdS.cells hd, RdS.len hm sl23, RdS.idx hm sl23, RdS.cellB hm (HPres.refl _), RdS.cells hm, RdS.len hdy sl22, RdS.idx hdy sl22, R1.intB hdy (HPres.refl _), RdS.cells hdy, RdS.len hmy sl23, RdS.idx hmy sl23, RdS.cellB hmy (HPres.refl _), RdS.cells hmy, BoxAt.cell hb0_0, BoxAt.cell hb0_1, wrap_id]
  refine hK _ _ ?_
  clear hK K
  refine den_seq ?_
  refine den_region TTok ?_
  intro K hK
  simp -implicitDefEqProofs (disch := first | decide | assumption | omega) only [go_sem, ld31, RdS.len hd sl22, RdS.idx hd sl22, R1.intB hd (HPres.refl _), RdS.cells hd, RdS.len hm sl23, RdS.idx hm sl23, RdS.cellB hm (HPres.refl _), RdS.cells hm, RdS.len hdy sl22, RdS.idx hdy sl22, R1.intB hdy (HPres.refl _), RdS.cells hdy, RdS.len hmy sl23, RdS.idx hmy sl23, RdS.cellB hmy (HPres.refl _), RdS.cells hmy, BoxAt.cell hb0_0, BoxAt.cell hb0_1, wrap_id]
  try simp -implicitDefEqProofs (disch := first | decide | assumption | omega) only [go_sem, RdS.len hd sl22, RdS.idx hd sl22, R1.intB hd (HPres.refl _), RdS.cells hd, RdS.len hm sl23, RdS.idx hm sl23, RdS.cellB hm (HPres.refl _), RdS.cells hm, RdS.len hdy sl22, RdS.idx hdy sl22, R1.intB hdy (HPres.refl _), RdS.cells hdy, RdS.len hmy sl23, RdS.idx hmy sl23, RdS.cellB hmy (HPres.refl _), RdS.cells hmy, BoxAt.cell hb0_0, BoxAt.cell hb0_1, wrap_id]
  refine CallA.mono (iDim_ok _ Y _ _ ⟨_, _, rfl, hdy, hmy⟩) ?_
  intro v_ h1_3
  rintro ⟨rfl, e1_3⟩
  have := Ext.size e1_3
  have eB := e1_3
  try simp -implicitDefEqProofs (disch := first | decide | assumption | omega) only [go_sem, RdS.len hd sl22, RdS.idx hd sl22, R1.intB hd (Ext.pres eB), RdS.cells hd, RdS.len hm sl23, RdS.idx hm sl23, RdS.cellB hm (Ext.pres eB), RdS.cells hm, RdS.len hdy sl22, RdS.idx hdy sl22, R1.intB hdy (Ext.pres eB), RdS.cells hdy, RdS.len hmy sl23, RdS.idx hmy sl23, RdS.cellB hmy (Ext.pres eB), RdS.cells hmy, BoxAt.cellB hb0_0 eB, BoxAt.cellB hb0_1 eB, wrap_id]
  refine hK _ _ ?_
  clear hK K
  refine den_seq ?_
  refine den_seq ?_
  refine den_region TTok ?_
  intro K hK
  simp -implicitDefEqProofs (disch := first | decide | assumption | omega) only [go_sem, RdS.len hd sl22, RdS.idx hd sl22, R1.intB hd (Ext.pres eB), RdS.cells hd, RdS.len hm sl23, RdS.idx hm sl23, RdS.cellB hm (Ext.pres eB), RdS.cells hm, RdS.len hdy sl22, RdS.idx hdy sl22, R1.intB hdy (Ext.pres eB), RdS.cells hdy, RdS.len hmy sl23, RdS.idx hmy sl23, RdS.cellB hmy (Ext.pres eB), RdS.cells hmy, BoxAt.cellB hb0_0 eB, BoxAt.cellB hb0_1 eB, wrap_id]
  refine hK _ _ ?_
  clear hK K
  refine den_block ?_
  refine den_sel [13, 23, 2, 4, 6, 7, 22] ?_
  intro env_1
  simp only [go_sem]
  refine den_loopS (σ := Nat × Int) (fun s => [(13, .int .i64 s.2), (23, .int .i64 (s.1 : Int))]) (fun s H => Ext h0_1 H ∧ (s.1 : Int) ≤ i ∧ s.2 = a * dimP Y j + b + sumP X Y (i + j) s.1) (fun s => i.toNat - s.1) (0, a * dimP Y j + b) ?_ ?_
  · exact ⟨eB, by simp; omega, by simp [sumP]⟩
  · rintro ⟨k, acc⟩ h4 ee3 ⟨eB, hk, hacc⟩
    simp only [List.cons_append, List.nil_append]
    have := Ext.size eB
    dsimp only at hk hacc
    have hs := sumP_bnd hX hY (i + j) k
    have hm1 := mul64 (dimP_bnd hX k) (dimP_bnd hY (i + j - k))
    refine den_seq ?_
    refine den_region TTok ?_
    intro K hK
    simp -implicitDefEqProofs (disch := first | decide | assumption | omega) only [go_sem, RdS.len hd sl22, RdS.idx hd sl22, R1.intB hd (Ext.pres eB), RdS.cells hd, RdS.len hm sl23, RdS.idx hm sl23, RdS.cellB hm (Ext.pres eB), RdS.cells hm, RdS.len hdy sl22, RdS.idx hdy sl22, R1.intB hdy (Ext.pres eB), RdS.cells hdy, RdS.len hmy sl23, RdS.idx hmy sl23, RdS.cellB hmy (Ext.pres eB), RdS.cells hmy, BoxAt.cellB hb0_0 eB, BoxAt.cellB hb0_1 eB, wrap_id]
    refine hK _ _ ?_
    clear hK K
    refine den_seq ?_
    refine den_cond rfl (fun c0 => ?_) (fun c0 => ?_)
    · try simp only [decide_eq_true_eq, decide_eq_false_iff_not, beq_iff_eq, beq_eq_false_iff_ne, bne_iff_ne, ne_eq, Bool.not_eq_true', Bool.not_eq_false', Bool.and_eq_true, Bool.or_eq_true, bne_eq_false_iff_eq] at c0
      refine den_skip ?_
      refine den_seq ?_
      refine den_block ?_
      refine den_seq ?_
      refine den_region TTok ?_
      intro K hK
      simp -implicitDefEqProofs (disch := first | decide | assumption | omega) only [go_sem, RdS.len hd sl22, RdS.idx hd sl22, R1.intB hd (Ext.pres eB), RdS.cells hd, RdS.len hm sl23, RdS.idx hm sl23, RdS.cellB hm (Ext.pres eB), RdS.cells hm, RdS.len hdy sl22, RdS.idx hdy sl22, R1.intB hdy (Ext.pres eB), RdS.cells hdy, RdS.len hmy sl23, RdS.idx hmy sl23, RdS.cellB hmy (Ext.pres eB), RdS.cells hmy, BoxAt.cellB hb0_0 eB, BoxAt.cellB hb0_1 eB, wrap_id]
      refine hK _ _ ?_
      clear hK K
      refine den_draw TTok mixed [] [(0, true), (1, true), (2, true), (4, true), (5, true), (6, true), (7, true), (8, true), (9, true), (3, false), (10, false), (11, true), (12, true), (13, true)] (by kernel_rfl) ?_
      intro K hK
      simp -implicitDefEqProofs (disch := first | decide | assumption | omega) only [go_sem, ld31, RdS.len hd sl22, RdS.idx hd sl22, R1.intB hd (Ext.pres eB), RdS.cells hd, RdS.len hm sl23, RdS.idx hm sl23, RdS.cellB hm (Ext.pres eB), RdS.cells hm, RdS.len hdy sl22, RdS.idx hdy sl22, R1.intB hdy (Ext.pres eB), RdS.cells hdy, RdS.len hmy sl23, RdS.idx hmy sl23, RdS.cellB hmy (Ext.pres eB), RdS.cells hmy, BoxAt.cellB hb0_0 eB, BoxAt.cellB hb0_1 eB, wrap_id]
      try simp -implicitDefEqProofs (disch := first | decide | assumption | omega) only [go_sem, RdS.len hd sl22, RdS.idx hd sl22, R1.intB hd (Ext.pres eB), RdS.cells hd, RdS.len hm sl23, RdS.idx hm sl23, RdS.cellB hm (Ext.pres eB), RdS.cells hm, RdS.len hdy sl22, RdS.idx hdy sl22, R1.intB hdy (Ext.pres eB), RdS.cells hdy, RdS.len hmy sl23, RdS.idx hmy sl23, RdS.cellB hmy (Ext.pres eB), RdS.cells hmy, BoxAt.cellB hb0_0 eB, BoxAt.cellB hb0_1 eB, wrap_id]
      refine CallA.mono (iDim_ok _ X _ _ ⟨_, _, rfl, (RdS.pres hd (Ext.pres eB)), (RdS.pres hm (Ext.pres eB))⟩) ?_
      intro v_ h5_3
      rintro ⟨rfl, e5_3⟩
      have := Ext.size e5_3
      replace eB := Ext.trans eB e5_3
      try simp (disch := decide) only [outv_some, outv_none, put_puts]
      refine plK_pres (Ext.pres e5_3) ?_
      try simp -implicitDefEqProofs (disch := first | decide | assumption | omega) only [go_sem, RdS.len hd sl22, RdS.idx hd sl22, R1.intB hd (Ext.pres eB), RdS.cells hd, RdS.len hm sl23, RdS.idx hm sl23, RdS.cellB hm (Ext.pres eB), RdS.cells hm, RdS.len hdy sl22, RdS.idx hdy sl22, R1.intB hdy (Ext.pres eB), RdS.cells hdy, RdS.len hmy sl23, RdS.idx hmy sl23, RdS.cellB hmy (Ext.pres eB), RdS.cells hmy, BoxAt.cellB hb0_0 eB, BoxAt.cellB hb0_1 eB, wrap_id]
      try simp -implicitDefEqProofs (disch := first | decide | assumption | omega) only [go_sem, RdS.len hd sl22, RdS.idx hd sl22, R1.intB hd (Ext.pres eB), RdS.cells hd, RdS.len hm sl23, RdS.idx hm sl23, RdS.cellB hm (Ext.pres eB), RdS.cells hm, RdS.len hdy sl22, RdS.idx hdy sl22, R1.intB hdy (Ext.pres eB), RdS.cells hdy, RdS.len hmy sl23, RdS.idx hmy sl23, RdS.cellB hmy (Ext.pres eB), RdS.cells hmy, BoxAt.cellB hb0_0 eB, BoxAt.cellB hb0_1 eB, wrap_id]
      refine CallA.mono (iDim_ok _ Y _ _ ⟨_, _, rfl, (RdS.pres hdy (Ext.pres eB)), (RdS.pres hmy (Ext.pres eB))⟩) ?_
      intro v_ h5_10
      rintro ⟨rfl, e5_10⟩
      have := Ext.size e5_10
      replace eB := Ext.trans eB e5_10
      try simp (disch := decide) only [outv_some, outv_none, put_puts]
      refine plK_pres (Ext.pres e5_10) ?_
      try simp -implicitDefEqProofs (disch := first | decide | assumption | omega) only [go_sem, RdS.len hd sl22, RdS.idx hd sl22, R1.intB hd (Ext.pres eB), RdS.cells hd, RdS.len hm sl23, RdS.idx hm sl23, RdS.cellB hm (Ext.pres eB), RdS.cells hm, RdS.len hdy sl22, RdS.idx hdy sl22, R1.intB hdy (Ext.pres eB), RdS.cells hdy, RdS.len hmy sl23, RdS.idx hmy sl23, RdS.cellB hmy (Ext.pres eB), RdS.cells hmy, BoxAt.cellB hb0_0 eB, BoxAt.cellB hb0_1 eB, wrap_id]
      refine hK _ _ ?_
      clear hK K
      refine den_blk ?_
      refine den_region TTok ?_
      intro K hK
      simp -implicitDefEqProofs (disch := first | decide | assumption | omega) only [go_sem, RdS.len hd sl22, RdS.idx hd sl22, R1.intB hd (Ext.pres eB), RdS.cells hd, RdS.len hm sl23, RdS.idx hm sl23, RdS.cellB hm (Ext.pres eB), RdS.cells hm, RdS.len hdy sl22, RdS.idx hdy sl22, R1.intB hdy (Ext.pres eB), RdS.cells hdy, RdS.len hmy sl23, RdS.idx hmy sl23, RdS.cellB hmy (Ext.pres eB), RdS.cells hmy, BoxAt.cellB hb0_0 eB, BoxAt.cellB hb0_1 eB, wrap_id]
      refine hK _ _ ?_
      clear hK K
      refine den_stop ?_
      exact ⟨(k + 1, acc + dimP X k * dimP Y (i + j - k)), by simp [HasL, puts_at], ⟨eB, by dsimp only; omega, by dsimp only; rw [sumP]; omega⟩, by dsimp only; omega⟩
    · try simp only [decide_eq_true_eq, decide_eq_false_iff_not, beq_iff_eq, beq_eq_false_iff_ne, bne_iff_ne, ne_eq, Bool.not_eq_true', Bool.not_eq_false', Bool.and_eq_true, Bool.or_eq_true, bne_eq_false_iff_eq] at c0
      refine den_exit ?_
      refine denX_code ?_
      refine denX_stop ?_
      refine denX_hit ?_
      refine den_seq ?_
      refine den_region TTok ?_
      intro K hK
      simp -implicitDefEqProofs (disch := first | decide | assumption | omega) only [go_sem, RdS.len hd sl22, RdS.idx hd sl22, R1.intB hd (Ext.pres eB), RdS.cells hd, RdS.len hm sl23, RdS.idx hm sl23, RdS.cellB hm (Ext.pres eB), RdS.cells hm, RdS.len hdy sl22, RdS.idx hdy sl22, R1.intB hdy (Ext.pres eB), RdS.cells hdy, RdS.len hmy sl23, RdS.idx hmy sl23, RdS.cellB hmy (Ext.pres eB), RdS.cells hmy, BoxAt.cellB hb0_0 eB, BoxAt.cellB hb0_1 eB, wrap_id]
      refine hK _ _ ?_
      clear hK K
      refine den_ret ?_
      simp (disch := decide) only [resP_1, puts_same, puts_ne]
      have e : i.toNat = k := by omega
      exact ⟨vint (by rw [placeP, e]; omega), (Ext.trans (Ext.trans e0_0 e0_1) eB)⟩

end Go.Proofs.Ytjjjgllbocgkbaa
