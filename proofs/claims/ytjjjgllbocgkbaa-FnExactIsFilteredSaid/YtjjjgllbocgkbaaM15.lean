/-
  Walks: marks.
  Conditions: each theorem's own.
-/
import Derived.Test.YtjjjgllbocgkbaaM14
set_option linter.unusedVariables false
set_option linter.unusedSimpArgs false
namespace Go.Proofs.Ytjjjgllbocgkbaa
open Go
def markI : List Int → Int → List Int
  | [], _ => []
  | _ :: r, k => k :: markI r (k + 1)
def markL {α : Type} (mk : α → Int → α) (ct : α → Int) : List α → Int → List α
  | [], _ => []
  | x :: r, k => mk x k :: markL mk ct r (k + ct x)
def cntL {α : Type} (ct : α → Int) : List α → Int
  | [] => 0
  | x :: r => ct x + cntL ct r
def cnt1 (xs : List Int) : Int := xs.length
abbrev cnt2 : List (List Int) → Int := cntL cnt1
abbrev cnt3 : List (List (List Int)) → Int := cntL cnt2
abbrev mark2 : List (List Int) → Int → List (List Int) := markL markI cnt1
abbrev mark3 : List (List (List Int)) → Int → List (List (List Int)) := markL mark2 cnt2
theorem markI_len : ∀ (xs : List Int) (k : Int), (markI xs k).length = xs.length
  | [], _ => rfl
  | _ :: r, k => by simp [markI, markI_len r]
theorem markI_get : ∀ (xs : List Int) (k : Int) (i : Nat), i < xs.length → (markI xs k).getD i 0 = k + i
  | _ :: r, k, 0, _ => by simp [markI]
  | _ :: r, k, i + 1, h => by
    have := markI_get r (k + 1) i (by simpa using h)
    simp only [markI, List.getD_cons_succ, this]; omega
theorem mark_set {xs : List Int} {k : Int} {i : Nat} (h : i < xs.length) : (mix (markI xs k) xs i).set i (k + i) = mix (markI xs k) xs (i + 1) := by
  rw [← markI_get xs k i h, mix_set _ _ _ _ (markI_len xs k) h]
section
variable {α : Type} {mk : α → Int → α} {ct : α → Int}
theorem markL_len : ∀ (xs : List α) (k : Int), (markL mk ct xs k).length = xs.length
  | [], _ => rfl
  | _ :: r, k => by simp [markL, markL_len r]
theorem markL_get [Inhabited α] : ∀ (xs : List α) (k : Int) (i : Nat), i < xs.length → (markL mk ct xs k).getD i default = mk (xs.getD i default) (k + cntL ct (xs.take i))
  | x :: r, k, 0, _ => by simp [markL, cntL]
  | x :: r, k, i + 1, h => by
    have := markL_get r (k + ct x) i (by simpa using h)
    simp only [markL, List.getD_cons_succ, this, List.take_succ_cons, cntL]
    rw [Int.add_assoc]
theorem cntL_take [Inhabited α] : ∀ (xs : List α) (i : Nat), i < xs.length → cntL ct (xs.take (i + 1)) = cntL ct (xs.take i) + ct (xs.getD i default)
  | x :: r, 0, _ => by simp [cntL]
  | x :: r, i + 1, h => by
    have := cntL_take r i (by simpa using h)
    simp only [List.take_succ_cons, cntL, List.getD_cons_succ] at this ⊢
    omega
theorem cntL_nonneg (h : ∀ x, 0 ≤ ct x) : ∀ xs : List α, 0 ≤ cntL ct xs
  | [] => by simp [cntL]
  | x :: r => by have := h x; have := cntL_nonneg h r; simp only [cntL]; omega
theorem cntL_le (h : ∀ x, 0 ≤ ct x) : ∀ (xs : List α) (i : Nat), cntL ct (xs.take i) ≤ cntL ct xs
  | [], i => by simp
  | x :: r, 0 => by have := cntL_nonneg h (x :: r); simpa [cntL] using this
  | x :: r, i + 1 => by have := cntL_le h r i; simp only [List.take_succ_cons, cntL]; omega
theorem markL_set [Inhabited α] {xs : List α} {k : Int} {i : Nat} (h : i < xs.length) : (mix (markL mk ct xs k) xs i).set i (mk (xs.getD i default) (k + cntL ct (xs.take i))) = mix (markL mk ct xs k) xs (i + 1) := by
  rw [← markL_get (mk := mk) (ct := ct) xs k i h, mix_set _ _ _ _ (markL_len xs k) h]
end
theorem cnt1_nn (x : List Int) : 0 ≤ cnt1 x := by unfold cnt1; omega
theorem cnt2_nn (x : List (List Int)) : 0 ≤ cnt2 x := cntL_nonneg cnt1_nn x
theorem cnt3_nn (x : List (List (List Int))) : 0 ≤ cnt3 x := cntL_nonneg cnt2_nn x

set_option maxRecDepth 100000 in
theorem markS_ok (v : Value) (xs : List Int) (k : Int) (fp : List Nat) (h : Heap) (ho : O1 h v xs fp) (hn : fp.Nodup) (hk : 0 ≤ k ∧ k + cnt1 xs ≤ 4611686018427387904) : CallA Try.prog 49 #[v, .int .i64 k] h fun u h' => u = .int .i64 (k + cnt1 xs) ∧ O1 h' v (markI xs k) fp ∧ Chg fp h h' := by
  unfold cnt1 at *
  refine callA_intro TTok (args := [_, _]) Try.func49 (by kernel_rfl) rfl 19 rfl (by simp) [.tmp 4] rfl ?_
  simp only [idxs, Nat.reduceAdd]
  refine den_seq ?_
  refine den_region TTok ?_
  intro K hK
  simp -implicitDefEqProofs (disch := first | decide | assumption | omega) only [go_sem, RdS.len (OS.rd ho) sl22, RdS.idx (OS.rd ho) sl22, R1.intN (OS.rd ho), RdS.cells (OS.rd ho), wrap_id]
  refine hK _ _ ?_
  clear hK K
  refine den_seq ?_
  refine den_seq ?_
  refine den_region TTok ?_
  intro K hK
  simp -implicitDefEqProofs (disch := first | decide | assumption | omega) only [go_sem, RdS.len (OS.rd ho) sl22, RdS.idx (OS.rd ho) sl22, R1.intN (OS.rd ho), RdS.cells (OS.rd ho), wrap_id]
  refine hK _ _ ?_
  clear hK K
  refine den_block ?_
  refine den_sel [1, 5, 0] ?_
  intro env_1
  simp only [go_sem]
  refine den_loopS (σ := Nat × Int) (fun s => [(1, .int .i64 s.2), (5, .int .i64 (s.1 : Int))]) (fun s H => Chg fp h H ∧ s.1 ≤ xs.length ∧ s.2 = k + s.1 ∧ O1 H v (mix (markI xs k) xs s.1) fp) (fun s => xs.length - s.1) (0, k) ?_ ?_
  · exact ⟨Chg.refl _ _, by simp, by simp, by rw [mix_zero]; exact ho⟩
  · rintro ⟨i, q⟩ h4 ee3 ⟨hch, hi, hq, ho⟩
    simp only [List.cons_append, List.nil_append]
    dsimp only at hi hq ho
    refine den_seq ?_
    refine den_seq ?_
    have hml := mix_len (markI xs k) xs i (markI_len xs k)
    refine den_region TTok ?_
    intro K hK
    simp -implicitDefEqProofs (disch := first | decide | assumption | omega) only [go_sem, RdS.len (OS.rd ho) sl22, RdS.idx (OS.rd ho) sl22, R1.intN (OS.rd ho), RdS.cells (OS.rd ho), wrap_id]
    refine hK _ _ ?_
    clear hK K
    refine den_cond rfl (fun c0 => ?_) (fun c0 => ?_)
    · try simp only [decide_eq_true_eq, decide_eq_false_iff_not, beq_iff_eq, beq_eq_false_iff_ne, bne_iff_ne, ne_eq, Bool.not_eq_true', Bool.not_eq_false', Bool.and_eq_true, Bool.or_eq_true, bne_eq_false_iff_eq] at c0
      refine den_skip ?_
      refine den_seq ?_
      refine den_block ?_
      refine den_seq ?_
      refine den_region TTok ?_
      intro K hK
      simp -implicitDefEqProofs (disch := first | decide | assumption | omega) only [go_sem, RdS.len (OS.rd ho) sl22, RdS.idx (OS.rd ho) sl22, R1.intN (OS.rd ho), RdS.cells (OS.rd ho), wrap_id]
      refine op_store1 (j := i) st2 ho hn (by omega) rfl rfl ?_
      intro h4 ho4 c4
      replace hch := hch.trans c4
      rw [hq, mark_set (by omega)] at ho4
      try simp -implicitDefEqProofs (disch := first | decide | assumption | omega) only [go_sem, RdS.len (OS.rd ho) sl22, RdS.idx (OS.rd ho) sl22, R1.intN (OS.rd ho), RdS.cells (OS.rd ho), wrap_id]
      refine hK _ _ ?_
      clear hK K
      refine den_region TTok ?_
      intro K hK
      simp -implicitDefEqProofs (disch := first | decide | assumption | omega) only [go_sem, RdS.len (OS.rd ho) sl22, RdS.idx (OS.rd ho) sl22, R1.intN (OS.rd ho), RdS.cells (OS.rd ho), wrap_id]
      refine hK _ _ ?_
      clear hK K
      refine den_blk ?_
      refine den_region TTok ?_
      intro K hK
      simp -implicitDefEqProofs (disch := first | decide | assumption | omega) only [go_sem, RdS.len (OS.rd ho) sl22, RdS.idx (OS.rd ho) sl22, R1.intN (OS.rd ho), RdS.cells (OS.rd ho), wrap_id]
      refine hK _ _ ?_
      clear hK K
      refine den_stop ?_
      exact ⟨(i + 1, q + 1), by simp [HasL, puts_at], ⟨hch, by dsimp only; omega, by dsimp only; omega, ho4⟩, by dsimp only; omega⟩
    · try simp only [decide_eq_true_eq, decide_eq_false_iff_not, beq_iff_eq, beq_eq_false_iff_ne, bne_iff_ne, ne_eq, Bool.not_eq_true', Bool.not_eq_false', Bool.and_eq_true, Bool.or_eq_true, bne_eq_false_iff_eq] at c0
      refine den_exit ?_
      refine denX_code ?_
      refine denX_stop ?_
      refine denX_hit ?_
      refine den_seq ?_
      refine den_region TTok ?_
      intro K hK
      simp -implicitDefEqProofs (disch := first | decide | assumption | omega) only [go_sem, RdS.len (OS.rd ho) sl22, RdS.idx (OS.rd ho) sl22, R1.intN (OS.rd ho), RdS.cells (OS.rd ho), wrap_id]
      refine hK _ _ ?_
      clear hK K
      refine den_ret ?_
      simp (disch := decide) only [resP_1, puts_same, puts_ne]
      rw [mix_end _ _ _ (markI_len xs k) (by omega)] at ho
      exact ⟨vint (by omega), ho, hch⟩

set_option maxRecDepth 100000 in
theorem markSS_ok (v : Value) (R : List (List Int)) (k : Int) (fp : List Nat) (h : Heap) (ho : O2 h v R fp) (hn : fp.Nodup) (hk : 0 ≤ k ∧ k + cntL cnt1 R ≤ 4611686018427387904) : CallA Try.prog 27 #[v, .int .i64 k] h fun u h' => u = .int .i64 (k + cntL cnt1 R) ∧ O2 h' v (markL markI cnt1 R k) fp ∧ Chg fp h h' := by
  have hle := OS.len_le ho
  refine callA_intro TTok (args := [_, _]) Try.func27 (by kernel_rfl) rfl 19 rfl (by simp) [.tmp 4] rfl ?_
  simp only [idxs, Nat.reduceAdd]
  refine den_seq ?_
  refine den_region TTok ?_
  intro K hK
  simp -implicitDefEqProofs (disch := first | decide | assumption | omega) only [go_sem, RdS.len (OS.rd ho) sl26, RdS.idx (OS.rd ho) sl26, RdS.cellN (OS.rd ho), RdS.cells (OS.rd ho), wrap_id]
  refine hK _ _ ?_
  clear hK K
  refine den_seq ?_
  refine den_seq ?_
  refine den_region TTok ?_
  intro K hK
  simp -implicitDefEqProofs (disch := first | decide | assumption | omega) only [go_sem, RdS.len (OS.rd ho) sl26, RdS.idx (OS.rd ho) sl26, RdS.cellN (OS.rd ho), RdS.cells (OS.rd ho), wrap_id]
  refine hK _ _ ?_
  clear hK K
  refine den_block ?_
  refine den_sel [1, 5, 0] ?_
  intro env_1
  simp only [go_sem]
  refine den_loopS (σ := Nat × Int) (fun s => [(1, .int .i64 s.2), (5, .int .i64 (s.1 : Int))]) (fun s H => Chg fp h H ∧ s.1 ≤ R.length ∧ s.2 = k + cntL cnt1 (R.take s.1) ∧ O2 H v (mix (markL markI cnt1 R k) R s.1) fp) (fun s => R.length - s.1) (0, k) ?_ ?_
  · exact ⟨Chg.refl _ _, by simp, by simp [cntL], by rw [mix_zero]; exact ho⟩
  · rintro ⟨i, q⟩ h4 ee3 ⟨hch, hi, hq, ho⟩
    simp only [List.cons_append, List.nil_append]
    dsimp only at hi hq ho
    refine den_seq ?_
    refine den_seq ?_
    have hml := mix_len (markL markI cnt1 R k) R i (markL_len R k)
    refine den_region TTok ?_
    intro K hK
    simp -implicitDefEqProofs (disch := first | decide | assumption | omega) only [go_sem, RdS.len (OS.rd ho) sl26, RdS.idx (OS.rd ho) sl26, RdS.cellN (OS.rd ho), RdS.cells (OS.rd ho), wrap_id]
    refine hK _ _ ?_
    clear hK K
    refine den_cond rfl (fun c0 => ?_) (fun c0 => ?_)
    · try simp only [decide_eq_true_eq, decide_eq_false_iff_not, beq_iff_eq, beq_eq_false_iff_ne, bne_iff_ne, ne_eq, Bool.not_eq_true', Bool.not_eq_false', Bool.and_eq_true, Bool.or_eq_true, bne_eq_false_iff_eq] at c0
      refine den_skip ?_
      refine den_seq ?_
      refine den_block ?_
      have hmg := mix_get (markL markI cnt1 R k) R i default (markL_len R k) (by omega)
      have hct := cntL_take (ct := cnt1) R i (by omega)
      have hcl := cntL_le cnt1_nn R (i + 1)
      have hcn := cnt1_nn (R.getD i default)
      have hcn2 := cntL_nonneg cnt1_nn (R.take i)
      refine den_region TTok ?_
      intro K hK
      simp -implicitDefEqProofs (disch := first | decide | assumption | omega) only [go_sem, ld22, RdS.len (OS.rd ho) sl26, RdS.idx (OS.rd ho) sl26, RdS.cellN (OS.rd ho), RdS.cells (OS.rd ho), wrap_id]
      try simp -implicitDefEqProofs (disch := first | decide | assumption | omega) only [go_sem, RdS.len (OS.rd ho) sl26, RdS.idx (OS.rd ho) sl26, RdS.cellN (OS.rd ho), RdS.cells (OS.rd ho), wrap_id]
      obtain ⟨f, hE, hsub, hnf, hbk⟩ := OS.elem ho hn i (by omega)
      rw [hmg] at hE
      refine CallA.mono (markS_ok _ _ q _ _ hE hnf (by have := cnt1_nn (R.getD i default); simp only [cnt1] at *; omega)) ?_
      intro v_ h4_5
      rintro ⟨rfl, hE2, c4⟩
      change O1 _ _ (markI (R.getD i default) q) _ at hE2
      have ho4 := hbk _ _ c4 hE2
      replace hch := hch.trans (c4.mono hsub)
      rw [hq, markL_set (mk := markI) (by omega)] at ho4
      try simp -implicitDefEqProofs (disch := first | decide | assumption | omega) only [go_sem, RdS.len (OS.rd ho) sl26, RdS.idx (OS.rd ho) sl26, RdS.cellN (OS.rd ho), RdS.cells (OS.rd ho), wrap_id]
      refine hK _ _ ?_
      clear hK K
      refine den_blk ?_
      refine den_region TTok ?_
      intro K hK
      simp -implicitDefEqProofs (disch := first | decide | assumption | omega) only [go_sem, RdS.len (OS.rd ho) sl26, RdS.idx (OS.rd ho) sl26, RdS.cellN (OS.rd ho), RdS.cells (OS.rd ho), wrap_id]
      refine hK _ _ ?_
      clear hK K
      refine den_stop ?_
      exact ⟨(i + 1, q + cnt1 (R.getD i default)), by simp [HasL, puts_at], ⟨hch, by dsimp only; omega, by dsimp only; omega, ho4⟩, by dsimp only; omega⟩
    · try simp only [decide_eq_true_eq, decide_eq_false_iff_not, beq_iff_eq, beq_eq_false_iff_ne, bne_iff_ne, ne_eq, Bool.not_eq_true', Bool.not_eq_false', Bool.and_eq_true, Bool.or_eq_true, bne_eq_false_iff_eq] at c0
      refine den_exit ?_
      refine denX_code ?_
      refine denX_stop ?_
      refine denX_hit ?_
      refine den_seq ?_
      refine den_region TTok ?_
      intro K hK
      simp -implicitDefEqProofs (disch := first | decide | assumption | omega) only [go_sem, RdS.len (OS.rd ho) sl26, RdS.idx (OS.rd ho) sl26, RdS.cellN (OS.rd ho), RdS.cells (OS.rd ho), wrap_id]
      refine hK _ _ ?_
      clear hK K
      refine den_ret ?_
      simp (disch := decide) only [resP_1, puts_same, puts_ne]
      have ht : R.take i = R := List.take_of_length_le (by omega)
      rw [mix_end _ _ _ (markL_len R k) (by omega)] at ho
      rw [ht] at hq
      exact ⟨vint hq, ho, hch⟩

set_option maxRecDepth 100000 in
theorem markSSS_ok (v : Value) (R : List (List (List Int))) (k : Int) (fp : List Nat) (h : Heap) (ho : O3 h v R fp) (hn : fp.Nodup) (hk : 0 ≤ k ∧ k + cntL cnt2 R ≤ 4611686018427387904) : CallA Try.prog 65 #[v, .int .i64 k] h fun u h' => u = .int .i64 (k + cntL cnt2 R) ∧ O3 h' v (markL mark2 cnt2 R k) fp ∧ Chg fp h h' := by
  have hle := OS.len_le ho
  refine callA_intro TTok (args := [_, _]) Try.func65 (by kernel_rfl) rfl 19 rfl (by simp) [.tmp 4] rfl ?_
  simp only [idxs, Nat.reduceAdd]
  refine den_seq ?_
  refine den_region TTok ?_
  intro K hK
  simp -implicitDefEqProofs (disch := first | decide | assumption | omega) only [go_sem, RdS.len (OS.rd ho) sl23, RdS.idx (OS.rd ho) sl23, RdS.cellN (OS.rd ho), RdS.cells (OS.rd ho), wrap_id]
  refine hK _ _ ?_
  clear hK K
  refine den_seq ?_
  refine den_seq ?_
  refine den_region TTok ?_
  intro K hK
  simp -implicitDefEqProofs (disch := first | decide | assumption | omega) only [go_sem, RdS.len (OS.rd ho) sl23, RdS.idx (OS.rd ho) sl23, RdS.cellN (OS.rd ho), RdS.cells (OS.rd ho), wrap_id]
  refine hK _ _ ?_
  clear hK K
  refine den_block ?_
  refine den_sel [1, 5, 0] ?_
  intro env_1
  simp only [go_sem]
  refine den_loopS (σ := Nat × Int) (fun s => [(1, .int .i64 s.2), (5, .int .i64 (s.1 : Int))]) (fun s H => Chg fp h H ∧ s.1 ≤ R.length ∧ s.2 = k + cntL cnt2 (R.take s.1) ∧ O3 H v (mix (markL mark2 cnt2 R k) R s.1) fp) (fun s => R.length - s.1) (0, k) ?_ ?_
  · exact ⟨Chg.refl _ _, by simp, by simp [cntL], by rw [mix_zero]; exact ho⟩
  · rintro ⟨i, q⟩ h4 ee3 ⟨hch, hi, hq, ho⟩
    simp only [List.cons_append, List.nil_append]
    dsimp only at hi hq ho
    refine den_seq ?_
    refine den_seq ?_
    have hml := mix_len (markL mark2 cnt2 R k) R i (markL_len R k)
    refine den_region TTok ?_
    intro K hK
    simp -implicitDefEqProofs (disch := first | decide | assumption | omega) only [go_sem, RdS.len (OS.rd ho) sl23, RdS.idx (OS.rd ho) sl23, RdS.cellN (OS.rd ho), RdS.cells (OS.rd ho), wrap_id]
    refine hK _ _ ?_
    clear hK K
    refine den_cond rfl (fun c0 => ?_) (fun c0 => ?_)
    · try simp only [decide_eq_true_eq, decide_eq_false_iff_not, beq_iff_eq, beq_eq_false_iff_ne, bne_iff_ne, ne_eq, Bool.not_eq_true', Bool.not_eq_false', Bool.and_eq_true, Bool.or_eq_true, bne_eq_false_iff_eq] at c0
      refine den_skip ?_
      refine den_seq ?_
      refine den_block ?_
      have hmg := mix_get (markL mark2 cnt2 R k) R i default (markL_len R k) (by omega)
      have hct := cntL_take (ct := cnt2) R i (by omega)
      have hcl := cntL_le cnt2_nn R (i + 1)
      have hcn := cnt2_nn (R.getD i default)
      have hcn2 := cntL_nonneg cnt2_nn (R.take i)
      refine den_region TTok ?_
      intro K hK
      simp -implicitDefEqProofs (disch := first | decide | assumption | omega) only [go_sem, ld26, RdS.len (OS.rd ho) sl23, RdS.idx (OS.rd ho) sl23, RdS.cellN (OS.rd ho), RdS.cells (OS.rd ho), wrap_id]
      try simp -implicitDefEqProofs (disch := first | decide | assumption | omega) only [go_sem, RdS.len (OS.rd ho) sl23, RdS.idx (OS.rd ho) sl23, RdS.cellN (OS.rd ho), RdS.cells (OS.rd ho), wrap_id]
      obtain ⟨f, hE, hsub, hnf, hbk⟩ := OS.elem ho hn i (by omega)
      rw [hmg] at hE
      refine CallA.mono (markSS_ok _ _ q _ _ hE hnf (by have := cnt2_nn (R.getD i default); simp only [cnt2] at *; omega)) ?_
      intro v_ h4_5
      rintro ⟨rfl, hE2, c4⟩
      change O2 _ _ (mark2 (R.getD i default) q) _ at hE2
      have ho4 := hbk _ _ c4 hE2
      replace hch := hch.trans (c4.mono hsub)
      rw [hq, markL_set (mk := mark2) (by omega)] at ho4
      try simp -implicitDefEqProofs (disch := first | decide | assumption | omega) only [go_sem, RdS.len (OS.rd ho) sl23, RdS.idx (OS.rd ho) sl23, RdS.cellN (OS.rd ho), RdS.cells (OS.rd ho), wrap_id]
      refine hK _ _ ?_
      clear hK K
      refine den_blk ?_
      refine den_region TTok ?_
      intro K hK
      simp -implicitDefEqProofs (disch := first | decide | assumption | omega) only [go_sem, RdS.len (OS.rd ho) sl23, RdS.idx (OS.rd ho) sl23, RdS.cellN (OS.rd ho), RdS.cells (OS.rd ho), wrap_id]
      refine hK _ _ ?_
      clear hK K
      refine den_stop ?_
      exact ⟨(i + 1, q + cnt2 (R.getD i default)), by simp [HasL, puts_at], ⟨hch, by dsimp only; omega, by dsimp only; omega, ho4⟩, by dsimp only; omega⟩
    · try simp only [decide_eq_true_eq, decide_eq_false_iff_not, beq_iff_eq, beq_eq_false_iff_ne, bne_iff_ne, ne_eq, Bool.not_eq_true', Bool.not_eq_false', Bool.and_eq_true, Bool.or_eq_true, bne_eq_false_iff_eq] at c0
      refine den_exit ?_
      refine denX_code ?_
      refine denX_stop ?_
      refine denX_hit ?_
      refine den_seq ?_
      refine den_region TTok ?_
      intro K hK
      simp -implicitDefEqProofs (disch := first | decide | assumption | omega) only [go_sem, RdS.len (OS.rd ho) sl23, RdS.idx (OS.rd ho) sl23, RdS.cellN (OS.rd ho), RdS.cells (OS.rd ho), wrap_id]
      refine hK _ _ ?_
      clear hK K
      refine den_ret ?_
      simp (disch := decide) only [resP_1, puts_same, puts_ne]
      have ht : R.take i = R := List.take_of_length_le (by omega)
      rw [mix_end _ _ _ (markL_len R k) (by omega)] at ho
      rw [ht] at hq
      exact ⟨vint hq, ho, hch⟩

end Go.Proofs.Ytjjjgllbocgkbaa
