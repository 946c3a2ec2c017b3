/-
  Walks: marks that are held.
  Conditions: each theorem's own.
-/
import Derived.Test.YtjjjgllbocgkbaaM15
set_option linter.unusedVariables false
set_option linter.unusedSimpArgs false
namespace Go.Proofs.Ytjjjgllbocgkbaa
open Go
set_option maxRecDepth 100000 in
theorem heldS_ok (v : Value) (xs : List Int) (k : Int) (h : Heap) (hv : R1 h v (markI xs k)) (hk : 0 ≤ k ∧ k + cnt1 xs ≤ 4611686018427387904) : CallA Try.prog 50 #[v, .int .i64 k] h fun u h' => u = .int .i64 (k + cnt1 xs) ∧ h' = h := by
  unfold cnt1 at *
  have hml := markI_len xs k
  refine callA_intro TTok (args := [_, _]) Try.func50 (by kernel_rfl) rfl 21 rfl (by simp) [.tmp 4] rfl ?_
  simp only [idxs, Nat.reduceAdd]
  refine den_seq ?_
  refine den_region TTok ?_
  intro K hK
  simp -implicitDefEqProofs (disch := first | decide | assumption | omega) only [go_sem, RdS.len hv sl22, RdS.idx hv sl22, R1.intB hv (HPres.refl _), RdS.cells hv, wrap_id]
  refine hK _ _ ?_
  clear hK K
  refine den_seq ?_
  refine den_seq ?_
  refine den_region TTok ?_
  intro K hK
  simp -implicitDefEqProofs (disch := first | decide | assumption | omega) only [go_sem, RdS.len hv sl22, RdS.idx hv sl22, R1.intB hv (HPres.refl _), RdS.cells hv, wrap_id]
  refine hK _ _ ?_
  clear hK K
  refine den_block ?_
  refine den_sel [1, 5, 0] ?_
  intro env_1
  simp only [go_sem]
  refine den_loopP (σ := Nat × Int) (fun s => [(1, .int .i64 s.2), (5, .int .i64 (s.1 : Int))]) (fun s => s.1 ≤ xs.length ∧ s.2 = k + s.1) (fun s => xs.length - s.1) (0, k) ?_ ?_
  · exact ⟨rfl, by simp, by simp⟩
  · rintro ⟨i, q⟩ ee3 ⟨hi, hq⟩
    simp only [List.cons_append, List.nil_append]
    dsimp only at hi hq
    refine den_seq ?_
    refine den_seq ?_
    refine den_region TTok ?_
    intro K hK
    simp -implicitDefEqProofs (disch := first | decide | assumption | omega) only [go_sem, RdS.len hv sl22, RdS.idx hv sl22, R1.intB hv (HPres.refl _), RdS.cells hv, wrap_id]
    refine hK _ _ ?_
    clear hK K
    refine den_cond rfl (fun c0 => ?_) (fun c0 => ?_)
    · try simp only [decide_eq_true_eq, decide_eq_false_iff_not, beq_iff_eq, beq_eq_false_iff_ne, bne_iff_ne, ne_eq, Bool.not_eq_true', Bool.not_eq_false', Bool.and_eq_true, Bool.or_eq_true, bne_eq_false_iff_eq] at c0
      refine den_skip ?_
      refine den_seq ?_
      refine den_block ?_
      refine den_seq ?_
      refine den_seq ?_
      refine den_region TTok ?_
      intro K hK
      simp -implicitDefEqProofs (disch := first | decide | assumption | omega) only [go_sem, ld2, RdS.len hv sl22, RdS.idx hv sl22, R1.intB hv (HPres.refl _), RdS.cells hv, wrap_id]
      refine hK _ _ ?_
      clear hK K
      refine den_cond rfl (fun c1 => ?_) (fun c1 => ?_)
      · try simp only [decide_eq_true_eq, decide_eq_false_iff_not, beq_iff_eq, beq_eq_false_iff_ne, bne_iff_ne, ne_eq, Bool.not_eq_true', Bool.not_eq_false', Bool.and_eq_true, Bool.or_eq_true, bne_eq_false_iff_eq] at c1
        refine den_seq ?_
        refine den_region TTok ?_
        intro K hK
        simp -implicitDefEqProofs (disch := first | decide | assumption | omega) only [go_sem, RdS.len hv sl22, RdS.idx hv sl22, R1.intB hv (HPres.refl _), RdS.cells hv, wrap_id]
        refine hK _ _ ?_
        clear hK K
        refine den_ret ?_
        simp (disch := decide) only [resP_1, puts_same, puts_ne]
        exact absurd (markI_get xs k i (by omega)) (by omega)
      · try simp only [decide_eq_true_eq, decide_eq_false_iff_not, beq_iff_eq, beq_eq_false_iff_ne, bne_iff_ne, ne_eq, Bool.not_eq_true', Bool.not_eq_false', Bool.and_eq_true, Bool.or_eq_true, bne_eq_false_iff_eq] at c1
        refine den_skip ?_
        refine den_region TTok ?_
        intro K hK
        simp -implicitDefEqProofs (disch := first | decide | assumption | omega) only [go_sem, RdS.len hv sl22, RdS.idx hv sl22, R1.intB hv (HPres.refl _), RdS.cells hv, wrap_id]
        refine hK _ _ ?_
        clear hK K
        refine den_blk ?_
        refine den_region TTok ?_
        intro K hK
        simp -implicitDefEqProofs (disch := first | decide | assumption | omega) only [go_sem, RdS.len hv sl22, RdS.idx hv sl22, R1.intB hv (HPres.refl _), RdS.cells hv, wrap_id]
        refine hK _ _ ?_
        clear hK K
        refine den_stop ?_
        exact ⟨(i + 1, q + 1), by simp [HasL, puts_at], ⟨rfl, by dsimp only; omega, by dsimp only; omega⟩, by dsimp only; omega⟩
    · try simp only [decide_eq_true_eq, decide_eq_false_iff_not, beq_iff_eq, beq_eq_false_iff_ne, bne_iff_ne, ne_eq, Bool.not_eq_true', Bool.not_eq_false', Bool.and_eq_true, Bool.or_eq_true, bne_eq_false_iff_eq] at c0
      refine den_exit ?_
      refine denX_code ?_
      refine denX_stop ?_
      refine denX_hit ?_
      refine den_seq ?_
      refine den_region TTok ?_
      intro K hK
      simp -implicitDefEqProofs (disch := first | decide | assumption | omega) only [go_sem, RdS.len hv sl22, RdS.idx hv sl22, R1.intB hv (HPres.refl _), RdS.cells hv, wrap_id]
      refine hK _ _ ?_
      clear hK K
      refine den_ret ?_
      simp (disch := decide) only [resP_1, puts_same, puts_ne]
      exact ⟨vint (by omega), trivial⟩

set_option maxRecDepth 100000 in
theorem heldSS_ok (v : Value) (R : List (List Int)) (k : Int) (h : Heap) (hv : R2 h v (markL markI cnt1 R k)) (hk : 0 ≤ k ∧ k + cntL cnt1 R ≤ 4611686018427387904) : CallA Try.prog 28 #[v, .int .i64 k] h fun u h' => u = .int .i64 (k + cntL cnt1 R) ∧ h' = h := by
  have hle := RdS.le hv
  have hml := markL_len (mk := markI) (ct := cnt1) R k
  refine callA_intro TTok (args := [_, _]) Try.func28 (by kernel_rfl) rfl 21 rfl (by simp) [.tmp 4] rfl ?_
  simp only [idxs, Nat.reduceAdd]
  refine den_seq ?_
  refine den_region TTok ?_
  intro K hK
  simp -implicitDefEqProofs (disch := first | decide | assumption | omega) only [go_sem, RdS.len hv sl26, RdS.idx hv sl26, RdS.cellB hv (HPres.refl _), RdS.cells hv, wrap_id]
  refine hK _ _ ?_
  clear hK K
  refine den_seq ?_
  refine den_seq ?_
  refine den_region TTok ?_
  intro K hK
  simp -implicitDefEqProofs (disch := first | decide | assumption | omega) only [go_sem, RdS.len hv sl26, RdS.idx hv sl26, RdS.cellB hv (HPres.refl _), RdS.cells hv, wrap_id]
  refine hK _ _ ?_
  clear hK K
  refine den_block ?_
  refine den_sel [1, 5, 0] ?_
  intro env_1
  simp only [go_sem]
  refine den_loopP (σ := Nat × Int) (fun s => [(1, .int .i64 s.2), (5, .int .i64 (s.1 : Int))]) (fun s => s.1 ≤ R.length ∧ s.2 = k + cntL cnt1 (R.take s.1)) (fun s => R.length - s.1) (0, k) ?_ ?_
  · exact ⟨rfl, by simp, by simp [cntL]⟩
  · rintro ⟨i, q⟩ ee3 ⟨hi, hq⟩
    simp only [List.cons_append, List.nil_append]
    dsimp only at hi hq
    refine den_seq ?_
    refine den_seq ?_
    refine den_region TTok ?_
    intro K hK
    simp -implicitDefEqProofs (disch := first | decide | assumption | omega) only [go_sem, RdS.len hv sl26, RdS.idx hv sl26, RdS.cellB hv (HPres.refl _), RdS.cells hv, wrap_id]
    refine hK _ _ ?_
    clear hK K
    refine den_cond rfl (fun c0 => ?_) (fun c0 => ?_)
    · try simp only [decide_eq_true_eq, decide_eq_false_iff_not, beq_iff_eq, beq_eq_false_iff_ne, bne_iff_ne, ne_eq, Bool.not_eq_true', Bool.not_eq_false', Bool.and_eq_true, Bool.or_eq_true, bne_eq_false_iff_eq] at c0
      refine den_skip ?_
      refine den_seq ?_
      refine den_block ?_
      refine den_seq ?_
      have hct := cntL_take (ct := cnt1) R i (by omega)
      have hcl := cntL_le cnt1_nn R (i + 1)
      have hcn := cnt1_nn (R.getD i default)
      have hcn2 := cntL_nonneg cnt1_nn (R.take i)
      refine den_region TTok ?_
      intro K hK
      have hr4 := RdS.rowN hv i (by omega)
      have hlhr4 := RdS.le hr4
      simp -implicitDefEqProofs (disch := first | decide | assumption | omega) only [go_sem, ld22, RdS.len hv sl26, RdS.idx hv sl26, RdS.cellB hv (HPres.refl _), RdS.cells hv, RdS.len hr4 sl22, RdS.idx hr4 sl22, R1.intB hr4 (HPres.refl _), RdS.cells hr4, wrap_id]
      try simp -implicitDefEqProofs (disch := first | decide | assumption | omega) only [go_sem, RdS.len hv sl26, RdS.idx hv sl26, RdS.cellB hv (HPres.refl _), RdS.cells hv, RdS.len hr4 sl22, RdS.idx hr4 sl22, R1.intB hr4 (HPres.refl _), RdS.cells hr4, wrap_id]
      have hr := RdS.rowN hv i (by omega)
      rw [markL_get R k i (by omega), ← hq] at hr
      refine CallA.pure (heldS_ok _ _ q _ hr (by have := cnt1_nn (R.getD i default); simp only [cnt1] at *; omega)) ?_
      try simp -implicitDefEqProofs (disch := first | decide | assumption | omega) only [go_sem, RdS.len hv sl26, RdS.idx hv sl26, RdS.cellB hv (HPres.refl _), RdS.cells hv, RdS.len hr4 sl22, RdS.idx hr4 sl22, R1.intB hr4 (HPres.refl _), RdS.cells hr4, wrap_id]
      refine hK _ _ ?_
      clear hK K
      refine den_seq ?_
      refine den_region TTok ?_
      intro K hK
      simp -implicitDefEqProofs (disch := first | decide | assumption | omega) only [go_sem, RdS.len hv sl26, RdS.idx hv sl26, RdS.cellB hv (HPres.refl _), RdS.cells hv, RdS.len hr4 sl22, RdS.idx hr4 sl22, R1.intB hr4 (HPres.refl _), RdS.cells hr4, wrap_id]
      refine hK _ _ ?_
      clear hK K
      refine den_cond rfl (fun c1 => ?_) (fun c1 => ?_)
      · try simp only [decide_eq_true_eq, decide_eq_false_iff_not, beq_iff_eq, beq_eq_false_iff_ne, bne_iff_ne, ne_eq, Bool.not_eq_true', Bool.not_eq_false', Bool.and_eq_true, Bool.or_eq_true, bne_eq_false_iff_eq] at c1
        refine den_seq ?_
        refine den_region TTok ?_
        intro K hK
        simp -implicitDefEqProofs (disch := first | decide | assumption | omega) only [go_sem, RdS.len hv sl26, RdS.idx hv sl26, RdS.cellB hv (HPres.refl _), RdS.cells hv, RdS.len hr4 sl22, RdS.idx hr4 sl22, R1.intB hr4 (HPres.refl _), RdS.cells hr4, wrap_id]
        refine hK _ _ ?_
        clear hK K
        refine den_ret ?_
        simp (disch := decide) only [resP_1, puts_same, puts_ne]
        exact absurd c1 (by omega)
      · try simp only [decide_eq_true_eq, decide_eq_false_iff_not, beq_iff_eq, beq_eq_false_iff_ne, bne_iff_ne, ne_eq, Bool.not_eq_true', Bool.not_eq_false', Bool.and_eq_true, Bool.or_eq_true, bne_eq_false_iff_eq] at c1
        refine den_skip ?_
        refine den_blk ?_
        refine den_region TTok ?_
        intro K hK
        simp -implicitDefEqProofs (disch := first | decide | assumption | omega) only [go_sem, RdS.len hv sl26, RdS.idx hv sl26, RdS.cellB hv (HPres.refl _), RdS.cells hv, RdS.len hr4 sl22, RdS.idx hr4 sl22, R1.intB hr4 (HPres.refl _), RdS.cells hr4, wrap_id]
        refine hK _ _ ?_
        clear hK K
        refine den_stop ?_
        exact ⟨(i + 1, q + cnt1 (R.getD i default)), by simp [HasL, puts_at], ⟨rfl, by dsimp only; omega, by dsimp only; omega⟩, by dsimp only; omega⟩
    · try simp only [decide_eq_true_eq, decide_eq_false_iff_not, beq_iff_eq, beq_eq_false_iff_ne, bne_iff_ne, ne_eq, Bool.not_eq_true', Bool.not_eq_false', Bool.and_eq_true, Bool.or_eq_true, bne_eq_false_iff_eq] at c0
      refine den_exit ?_
      refine denX_code ?_
      refine denX_stop ?_
      refine denX_hit ?_
      refine den_seq ?_
      refine den_region TTok ?_
      intro K hK
      simp -implicitDefEqProofs (disch := first | decide | assumption | omega) only [go_sem, RdS.len hv sl26, RdS.idx hv sl26, RdS.cellB hv (HPres.refl _), RdS.cells hv, wrap_id]
      refine hK _ _ ?_
      clear hK K
      refine den_ret ?_
      simp (disch := decide) only [resP_1, puts_same, puts_ne]
      have ht : R.take i = R := List.take_of_length_le (by omega)
      rw [ht] at hq
      exact ⟨vint hq, trivial⟩

set_option maxRecDepth 100000 in
theorem heldSSS_ok (v : Value) (R : List (List (List Int))) (k : Int) (h : Heap) (hv : R3 h v (markL mark2 cnt2 R k)) (hk : 0 ≤ k ∧ k + cntL cnt2 R ≤ 4611686018427387904) : CallA Try.prog 66 #[v, .int .i64 k] h fun u h' => u = .int .i64 (k + cntL cnt2 R) ∧ h' = h := by
  have hle := RdS.le hv
  have hml := markL_len (mk := mark2) (ct := cnt2) R k
  refine callA_intro TTok (args := [_, _]) Try.func66 (by kernel_rfl) rfl 21 rfl (by simp) [.tmp 4] rfl ?_
  simp only [idxs, Nat.reduceAdd]
  refine den_seq ?_
  refine den_region TTok ?_
  intro K hK
  simp -implicitDefEqProofs (disch := first | decide | assumption | omega) only [go_sem, RdS.len hv sl23, RdS.idx hv sl23, RdS.cellB hv (HPres.refl _), RdS.cells hv, wrap_id]
  refine hK _ _ ?_
  clear hK K
  refine den_seq ?_
  refine den_seq ?_
  refine den_region TTok ?_
  intro K hK
  simp -implicitDefEqProofs (disch := first | decide | assumption | omega) only [go_sem, RdS.len hv sl23, RdS.idx hv sl23, RdS.cellB hv (HPres.refl _), RdS.cells hv, wrap_id]
  refine hK _ _ ?_
  clear hK K
  refine den_block ?_
  refine den_sel [1, 5, 0] ?_
  intro env_1
  simp only [go_sem]
  refine den_loopP (σ := Nat × Int) (fun s => [(1, .int .i64 s.2), (5, .int .i64 (s.1 : Int))]) (fun s => s.1 ≤ R.length ∧ s.2 = k + cntL cnt2 (R.take s.1)) (fun s => R.length - s.1) (0, k) ?_ ?_
  · exact ⟨rfl, by simp, by simp [cntL]⟩
  · rintro ⟨i, q⟩ ee3 ⟨hi, hq⟩
    simp only [List.cons_append, List.nil_append]
    dsimp only at hi hq
    refine den_seq ?_
    refine den_seq ?_
    refine den_region TTok ?_
    intro K hK
    simp -implicitDefEqProofs (disch := first | decide | assumption | omega) only [go_sem, RdS.len hv sl23, RdS.idx hv sl23, RdS.cellB hv (HPres.refl _), RdS.cells hv, wrap_id]
    refine hK _ _ ?_
    clear hK K
    refine den_cond rfl (fun c0 => ?_) (fun c0 => ?_)
    · try simp only [decide_eq_true_eq, decide_eq_false_iff_not, beq_iff_eq, beq_eq_false_iff_ne, bne_iff_ne, ne_eq, Bool.not_eq_true', Bool.not_eq_false', Bool.and_eq_true, Bool.or_eq_true, bne_eq_false_iff_eq] at c0
      refine den_skip ?_
      refine den_seq ?_
      refine den_block ?_
      refine den_seq ?_
      have hct := cntL_take (ct := cnt2) R i (by omega)
      have hcl := cntL_le cnt2_nn R (i + 1)
      have hcn := cnt2_nn (R.getD i default)
      have hcn2 := cntL_nonneg cnt2_nn (R.take i)
      refine den_region TTok ?_
      intro K hK
      have hr4 := RdS.rowN hv i (by omega)
      have hlhr4 := RdS.le hr4
      simp -implicitDefEqProofs (disch := first | decide | assumption | omega) only [go_sem, ld26, RdS.len hv sl23, RdS.idx hv sl23, RdS.cellB hv (HPres.refl _), RdS.cells hv, RdS.len hr4 sl26, RdS.idx hr4 sl26, RdS.cellB hr4 (HPres.refl _), RdS.cells hr4, wrap_id]
      try simp -implicitDefEqProofs (disch := first | decide | assumption | omega) only [go_sem, RdS.len hv sl23, RdS.idx hv sl23, RdS.cellB hv (HPres.refl _), RdS.cells hv, RdS.len hr4 sl26, RdS.idx hr4 sl26, RdS.cellB hr4 (HPres.refl _), RdS.cells hr4, wrap_id]
      have hr := RdS.rowN hv i (by omega)
      rw [markL_get R k i (by omega), ← hq] at hr
      refine CallA.pure (heldSS_ok _ _ q _ hr (by have := cnt2_nn (R.getD i default); simp only [cnt2] at *; omega)) ?_
      try simp -implicitDefEqProofs (disch := first | decide | assumption | omega) only [go_sem, RdS.len hv sl23, RdS.idx hv sl23, RdS.cellB hv (HPres.refl _), RdS.cells hv, RdS.len hr4 sl26, RdS.idx hr4 sl26, RdS.cellB hr4 (HPres.refl _), RdS.cells hr4, wrap_id]
      refine hK _ _ ?_
      clear hK K
      refine den_seq ?_
      refine den_region TTok ?_
      intro K hK
      simp -implicitDefEqProofs (disch := first | decide | assumption | omega) only [go_sem, RdS.len hv sl23, RdS.idx hv sl23, RdS.cellB hv (HPres.refl _), RdS.cells hv, RdS.len hr4 sl26, RdS.idx hr4 sl26, RdS.cellB hr4 (HPres.refl _), RdS.cells hr4, wrap_id]
      refine hK _ _ ?_
      clear hK K
      refine den_cond rfl (fun c1 => ?_) (fun c1 => ?_)
      · try simp only [decide_eq_true_eq, decide_eq_false_iff_not, beq_iff_eq, beq_eq_false_iff_ne, bne_iff_ne, ne_eq, Bool.not_eq_true', Bool.not_eq_false', Bool.and_eq_true, Bool.or_eq_true, bne_eq_false_iff_eq] at c1
        refine den_seq ?_
        refine den_region TTok ?_
        intro K hK
        simp -implicitDefEqProofs (disch := first | decide | assumption | omega) only [go_sem, RdS.len hv sl23, RdS.idx hv sl23, RdS.cellB hv (HPres.refl _), RdS.cells hv, RdS.len hr4 sl26, RdS.idx hr4 sl26, RdS.cellB hr4 (HPres.refl _), RdS.cells hr4, wrap_id]
        refine hK _ _ ?_
        clear hK K
        refine den_ret ?_
        simp (disch := decide) only [resP_1, puts_same, puts_ne]
        exact absurd c1 (by have e : cntL cnt1 (R.getD i default) = cnt2 (R.getD i default) := rfl; omega)
      · try simp only [decide_eq_true_eq, decide_eq_false_iff_not, beq_iff_eq, beq_eq_false_iff_ne, bne_iff_ne, ne_eq, Bool.not_eq_true', Bool.not_eq_false', Bool.and_eq_true, Bool.or_eq_true, bne_eq_false_iff_eq] at c1
        refine den_skip ?_
        refine den_blk ?_
        refine den_region TTok ?_
        intro K hK
        simp -implicitDefEqProofs (disch := first | decide | assumption | omega) only [go_sem, RdS.len hv sl23, RdS.idx hv sl23, RdS.cellB hv (HPres.refl _), RdS.cells hv, RdS.len hr4 sl26, RdS.idx hr4 sl26, RdS.cellB hr4 (HPres.refl _), RdS.cells hr4, wrap_id]
        refine hK _ _ ?_
        clear hK K
        refine den_stop ?_
        exact ⟨(i + 1, q + cnt2 (R.getD i default)), by simp [HasL, puts_at], ⟨rfl, by dsimp only; omega, by dsimp only; omega⟩, by dsimp only; omega⟩
    · try simp only [decide_eq_true_eq, decide_eq_false_iff_not, beq_iff_eq, beq_eq_false_iff_ne, bne_iff_ne, ne_eq, Bool.not_eq_true', Bool.not_eq_false', Bool.and_eq_true, Bool.or_eq_true, bne_eq_false_iff_eq] at c0
      refine den_exit ?_
      refine denX_code ?_
      refine denX_stop ?_
      refine denX_hit ?_
      refine den_seq ?_
      refine den_region TTok ?_
      intro K hK
      simp -implicitDefEqProofs (disch := first | decide | assumption | omega) only [go_sem, RdS.len hv sl23, RdS.idx hv sl23, RdS.cellB hv (HPres.refl _), RdS.cells hv, wrap_id]
      refine hK _ _ ?_
      clear hK K
      refine den_ret ?_
      simp (disch := decide) only [resP_1, puts_same, puts_ne]
      have ht : R.take i = R := List.take_of_length_le (by omega)
      rw [ht] at hq
      exact ⟨vint hq, trivial⟩

end Go.Proofs.Ytjjjgllbocgkbaa
