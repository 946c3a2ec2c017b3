/-
  Walks: marks of complexes.
  Conditions: each theorem's own.
-/
import Derived.Test.YtjjjgllbocgkbaaA0
import Derived.Test.YtjjjgllbocgkbaaM16
set_option linter.unusedVariables false
set_option linter.unusedSimpArgs false
namespace Go.Proofs.Ytjjjgllbocgkbaa
open Go
theorem cnt1_le {X : List Int} (h : HM1 X) : 0 ≤ cnt1 X ∧ cnt1 X ≤ 1048576 := ⟨cnt1_nn X, by unfold cnt1 HM1 at *; omega⟩
theorem szI_cntA {xs : List Int} {l : Int} (h : ¬ szI xs l < 0) : cnt1 xs ≤ l - szI xs l := by
  unfold szI at *
  unfold cnt1
  split at h
  · omega
  · rename_i hc; rw [if_neg hc]; omega
theorem szRows_cntA {α : Type} {f : α → Int → Int} {ct : α → Int} (hc : ∀ x l, ¬ f x l < 0 → ct x ≤ l - f x l) : ∀ (r : List α) (l : Int), ¬ szRows f r l < 0 → cntL ct r ≤ l - szRows f r l
  | [], l, _ => by simp [cntL, szRows]
  | x :: r, l, h => by
    unfold szRows at *
    split at h
    · omega
    · rename_i hx
      have h1 := hc x l hx
      have h2 := szRows_cntA hc r (f x l) h
      rw [if_neg hx, cntL]; omega
theorem szL_cntA {α : Type} {f : α → Int → Int} {ct : α → Int} (hc : ∀ x l, ¬ f x l < 0 → ct x ≤ l - f x l) (r : List α) (l : Int) (h : ¬ szL f r l < 0) : cntL ct r ≤ l - szL f r l := by
  unfold szL at *
  split at h
  · omega
  · rename_i hx
    have := szRows_cntA hc r _ h
    rw [if_neg hx]; omega
theorem sz2_cntA {R : List (List Int)} {l : Int} (h0 : 0 ≤ l) (h1 : l ≤ 1048576) (h : ¬ sz2 R l < 0) : 0 ≤ cntL cnt1 R ∧ cntL cnt1 R ≤ 1048576 := ⟨cntL_nonneg cnt1_nn R, by
  have := szL_cntA (f := szI) (ct := cnt1) (fun x l hx => szI_cntA hx) R l h
  have e : szL szI R l = sz2 R l := rfl
  omega⟩
theorem sz3_cntA {R : List (List (List Int))} {l : Int} (h0 : 0 ≤ l) (h1 : l ≤ 1048576) (h : ¬ sz3 R l < 0) : 0 ≤ cntL cnt2 R ∧ cntL cnt2 R ≤ 1048576 := ⟨cntL_nonneg cnt2_nn R, by
  have := szL_cntA (f := sz2) (ct := cnt2) (fun x l hx => szL_cntA (f := szI) (ct := cnt1) (fun x l hx => szI_cntA hx) x l hx) R l h
  have e : szL sz2 R l = sz3 R l := rfl
  omega⟩
theorem szC_cntA {X : Cx} {l : Int} (h0 : 0 ≤ l) (h1 : l ≤ 1048576) (h : ¬ szC X l < 0) : 0 ≤ cnt1 X.dims ∧ 0 ≤ cntL cnt2 X.maps ∧ cnt1 X.dims + cntL cnt2 X.maps ≤ 1048576 := ⟨cnt1_nn _, cntL_nonneg cnt2_nn _, by
  unfold szC at h
  split at h
  · omega
  · rename_i h1
    split at h
    · omega
    · have a := szI_cntA h1
      have b := szL_cntA (f := sz2) (ct := cnt2) (fun x l hx => szL_cntA (f := szI) (ct := cnt1) (fun x l hx => szI_cntA hx) x l hx) X.maps _ (show ¬ szL sz2 X.maps (szI X.dims l) < 0 from by assumption)
      have e : szL sz2 X.maps (szI X.dims l) = sz3 X.maps (szI X.dims l) := rfl
      omega⟩
theorem cnt_mapA {α β : Type} {f : α → β} {c : α → Int} {c' : β → Int} (h : ∀ x, c' (f x) = c x) : ∀ xs : List α, cntL c' (xs.map f) = cntL c xs
  | [] => rfl
  | x :: r => by simp only [List.map_cons, cntL, h, cnt_mapA h r]
/-- A list whose elements count at most c each. -/
theorem cntL_bnd {α : Type} {ct : α → Int} {c : Int} (hc : 0 ≤ c) : ∀ {xs : List α} {m : Nat}, (∀ x ∈ xs, 0 ≤ ct x ∧ ct x ≤ c) → xs.length ≤ m → 0 ≤ cntL ct xs ∧ cntL ct xs ≤ m * c
  | [], m, _, _ => ⟨Int.le_refl _, Int.mul_nonneg (by omega) hc⟩
  | x :: r, m, h, hm => by
    have h1 := h x (by simp)
    simp only [List.length_cons] at hm
    obtain ⟨m', rfl⟩ : ∃ m', m = m' + 1 := ⟨m - 1, by omega⟩
    have h2 := cntL_bnd hc (xs := r) (m := m') (fun y hy => h y (List.mem_cons_of_mem _ hy)) (by omega)
    have e : ((m' + 1 : Nat) : Int) * c = (m' : Int) * c + c := by rw [Int.natCast_add, Int.add_mul]; simp
    rw [cntL, e]; omega

set_option maxRecDepth 100000 in
theorem markCx_ok (vd vm : Value) (X : Cx) (k : Int) (f1 f2 : List Nat) (h : Heap) (hod : O1 h vd X.dims f1) (hom : O3 h vm X.maps f2) (hf : (f1 ++ f2).Nodup) (hk : 0 ≤ k ∧ 0 ≤ cnt1 X.dims ∧ 0 ≤ cntL cnt2 X.maps ∧ k + cnt1 X.dims + cntL cnt2 X.maps ≤ 4611686018427387904) : CallA Try.prog 57 #[.agg #[.int .i64 X.p, vd, vm], .int .i64 k] h fun u h' => u = .int .i64 (k + cnt1 X.dims + cntL cnt2 X.maps) ∧ O1 h' vd (markI X.dims k) f1 ∧ O3 h' vm (mark3 X.maps (k + cnt1 X.dims)) f2 ∧ Chg (f1 ++ f2) h h' := by
  have hl1 := OS.lt hod
  have hn1 := (List.nodup_append.1 hf).1
  have hn2 := (List.nodup_append.1 hf).2.1
  have hap : ∀ b ∈ f2, b ∉ f1 := fun b hb hm => (List.nodup_append.1 hf).2.2 b hm b hb rfl
  refine callA_intro TTok (args := [_, _]) Try.func57 (by kernel_rfl) rfl 14 rfl (by simp) [.tmp 4] rfl ?_
  simp only [idxs, Nat.reduceAdd]
  refine den_seq ?_
  refine den_region TTok ?_
  intro K hK
  simp -implicitDefEqProofs (disch := first | decide | assumption | omega) only [go_sem, RdS.len (OS.rd hod) sl22, RdS.idx (OS.rd hod) sl22, R1.intN (OS.rd hod), RdS.cells (OS.rd hod), RdS.len (OS.rd hom) sl23, RdS.idx (OS.rd hom) sl23, RdS.cellN (OS.rd hom), RdS.cells (OS.rd hom)]
  refine op_box (cs := #[.int .i64 (X.p), vd, vm]) rfl ?_
  intro h0_0 e0_0 hb0_0 z0_0
  replace hod := OS.ext hod e0_0
  replace hom := OS.ext hom e0_0
  have := Ext.size e0_0
  have eB := e0_0
  try simp -implicitDefEqProofs (disch := first | decide | assumption | omega) only [go_sem, RdS.len (OS.rd hod) sl22, RdS.idx (OS.rd hod) sl22, R1.intN (OS.rd hod), RdS.cells (OS.rd hod), RdS.len (OS.rd hom) sl23, RdS.idx (OS.rd hom) sl23, RdS.cellN (OS.rd hom), RdS.cells (OS.rd hom), BoxAt.cell hb0_0]
  refine hK _ _ ?_
  clear hK K
  refine den_seq ?_
  refine den_region TTok ?_
  intro K hK
  simp -implicitDefEqProofs (disch := first | decide | assumption | omega) only [go_sem, fa31_1, ld22, RdS.len (OS.rd hod) sl22, RdS.idx (OS.rd hod) sl22, R1.intN (OS.rd hod), RdS.cells (OS.rd hod), RdS.len (OS.rd hom) sl23, RdS.idx (OS.rd hom) sl23, RdS.cellN (OS.rd hom), RdS.cells (OS.rd hom), BoxAt.cell hb0_0]
  try simp -implicitDefEqProofs (disch := first | decide | assumption | omega) only [go_sem, RdS.len (OS.rd hod) sl22, RdS.idx (OS.rd hod) sl22, R1.intN (OS.rd hod), RdS.cells (OS.rd hod), RdS.len (OS.rd hom) sl23, RdS.idx (OS.rd hom) sl23, RdS.cellN (OS.rd hom), RdS.cells (OS.rd hom), BoxAt.cell hb0_0]
  refine CallA.mono (markS_ok _ _ k _ _ hod hn1 (by omega)) ?_
  intro v_ h1_3
  rintro ⟨rfl, hod2, c1⟩
  replace hom := OS.chg hom c1 hap
  replace hb0_0 := BoxAt.chg hb0_0 c1 (fun hm => by have := hl1 _ hm; omega)
  try simp -implicitDefEqProofs (disch := first | decide | assumption | omega) only [go_sem, RdS.len (OS.rd hod) sl22, RdS.idx (OS.rd hod) sl22, R1.intN (OS.rd hod), RdS.cells (OS.rd hod), RdS.len (OS.rd hom) sl23, RdS.idx (OS.rd hom) sl23, RdS.cellN (OS.rd hom), RdS.cells (OS.rd hom), BoxAt.cell hb0_0]
  refine hK _ _ ?_
  clear hK K
  refine den_seq ?_
  refine den_region TTok ?_
  intro K hK
  simp -implicitDefEqProofs (disch := first | decide | assumption | omega) only [go_sem, fa31_2, ld23, RdS.len (OS.rd hod) sl22, RdS.idx (OS.rd hod) sl22, R1.intN (OS.rd hod), RdS.cells (OS.rd hod), RdS.len (OS.rd hom) sl23, RdS.idx (OS.rd hom) sl23, RdS.cellN (OS.rd hom), RdS.cells (OS.rd hom), BoxAt.cell hb0_0]
  try simp -implicitDefEqProofs (disch := first | decide | assumption | omega) only [go_sem, RdS.len (OS.rd hod) sl22, RdS.idx (OS.rd hod) sl22, R1.intN (OS.rd hod), RdS.cells (OS.rd hod), RdS.len (OS.rd hom) sl23, RdS.idx (OS.rd hom) sl23, RdS.cellN (OS.rd hom), RdS.cells (OS.rd hom), BoxAt.cell hb0_0]
  refine CallA.mono (markSSS_ok _ _ (k + cnt1 X.dims) _ _ hom hn2 (by omega)) ?_
  intro v_ h2_3
  rintro ⟨rfl, hom2, c2⟩
  try simp -implicitDefEqProofs (disch := first | decide | assumption | omega) only [go_sem, RdS.len (OS.rd hod) sl22, RdS.idx (OS.rd hod) sl22, R1.intN (OS.rd hod), RdS.cells (OS.rd hod), RdS.len (OS.rd hom) sl23, RdS.idx (OS.rd hom) sl23, RdS.cellN (OS.rd hom), RdS.cells (OS.rd hom), BoxAt.cell hb0_0]
  refine hK _ _ ?_
  clear hK K
  refine den_seq ?_
  refine den_region TTok ?_
  intro K hK
  simp -implicitDefEqProofs (disch := first | decide | assumption | omega) only [go_sem, RdS.len (OS.rd hod) sl22, RdS.idx (OS.rd hod) sl22, R1.intN (OS.rd hod), RdS.cells (OS.rd hod), RdS.len (OS.rd hom) sl23, RdS.idx (OS.rd hom) sl23, RdS.cellN (OS.rd hom), RdS.cells (OS.rd hom), BoxAt.cell hb0_0]
  refine hK _ _ ?_
  clear hK K
  refine den_ret ?_
  simp (disch := decide) only [resP_1, puts_same, puts_ne]
  exact ⟨by first | rfl | trivial, OS.chg hod2 c2 (Apart.symm hap), hom2, ((eB.chg _).trans (c1.mono (fun b hb => List.mem_append_left _ hb))).trans (c2.mono (fun b hb => List.mem_append_right _ hb))⟩

set_option maxRecDepth 100000 in
theorem heldCx_ok (vd vm : Value) (X : Cx) (k : Int) (h : Heap) (hd : R1 h vd (markI X.dims k)) (hm : R3 h vm (mark3 X.maps (k + cnt1 X.dims))) (hk : 0 ≤ k ∧ 0 ≤ cnt1 X.dims ∧ 0 ≤ cntL cnt2 X.maps ∧ k + cnt1 X.dims + cntL cnt2 X.maps ≤ 4611686018427387904) : CallA Try.prog 87 #[.agg #[.int .i64 X.p, vd, vm], .int .i64 k] h fun u h' => u = .int .i64 (k + cnt1 X.dims + cntL cnt2 X.maps) ∧ Ext h h' := by
  refine callA_intro TTok (args := [_, _]) Try.func87 (by kernel_rfl) rfl 18 rfl (by simp) [.tmp 4] rfl ?_
  simp only [idxs, Nat.reduceAdd]
  refine den_seq ?_
  refine den_region TTok ?_
  intro K hK
  simp -implicitDefEqProofs (disch := first | decide | assumption | omega) only [go_sem, RdS.len hd sl22, RdS.idx hd sl22, R1.intB hd (HPres.refl _), RdS.cells hd, RdS.len hm sl23, RdS.idx hm sl23, RdS.cellB hm (HPres.refl _), RdS.cells hm]
  refine op_box (cs := #[.int .i64 (X.p), vd, vm]) rfl ?_
  intro h0_0 e0_0 hb0_0 z0_0
  replace hd := RdS.pres hd (Ext.pres e0_0)
  replace hm := RdS.pres hm (Ext.pres e0_0)
  try simp -implicitDefEqProofs (disch := first | decide | assumption | omega) only [go_sem, RdS.len hd sl22, RdS.idx hd sl22, R1.intB hd (HPres.refl _), RdS.cells hd, RdS.len hm sl23, RdS.idx hm sl23, RdS.cellB hm (HPres.refl _), RdS.cells hm, BoxAt.cell hb0_0]
  refine hK _ _ ?_
  clear hK K
  refine den_seq ?_
  refine den_region TTok ?_
  intro K hK
  simp -implicitDefEqProofs (disch := first | decide | assumption | omega) only [go_sem, fa31_1, ld22, RdS.len hd sl22, RdS.idx hd sl22, R1.intB hd (HPres.refl _), RdS.cells hd, RdS.len hm sl23, RdS.idx hm sl23, RdS.cellB hm (HPres.refl _), RdS.cells hm, BoxAt.cell hb0_0]
  try simp -implicitDefEqProofs (disch := first | decide | assumption | omega) only [go_sem, RdS.len hd sl22, RdS.idx hd sl22, R1.intB hd (HPres.refl _), RdS.cells hd, RdS.len hm sl23, RdS.idx hm sl23, RdS.cellB hm (HPres.refl _), RdS.cells hm, BoxAt.cell hb0_0]
  refine CallA.pure (heldS_ok _ X.dims k _ hd (by omega)) ?_
  try simp -implicitDefEqProofs (disch := first | decide | assumption | omega) only [go_sem, RdS.len hd sl22, RdS.idx hd sl22, R1.intB hd (HPres.refl _), RdS.cells hd, RdS.len hm sl23, RdS.idx hm sl23, RdS.cellB hm (HPres.refl _), RdS.cells hm, BoxAt.cell hb0_0]
  refine hK _ _ ?_
  clear hK K
  refine den_seq ?_
  refine den_seq ?_
  refine den_region TTok ?_
  intro K hK
  simp -implicitDefEqProofs (disch := first | decide | assumption | omega) only [go_sem, RdS.len hd sl22, RdS.idx hd sl22, R1.intB hd (HPres.refl _), RdS.cells hd, RdS.len hm sl23, RdS.idx hm sl23, RdS.cellB hm (HPres.refl _), RdS.cells hm, BoxAt.cell hb0_0]
  refine hK _ _ ?_
  clear hK K
  refine den_cond rfl (fun c0 => ?_) (fun c0 => ?_)
  · try simp only [decide_eq_true_eq, decide_eq_false_iff_not, beq_iff_eq, beq_eq_false_iff_ne, bne_iff_ne, ne_eq, Bool.not_eq_true', Bool.not_eq_false', Bool.and_eq_true, Bool.or_eq_true, bne_eq_false_iff_eq] at c0
    refine den_seq ?_
    refine den_region TTok ?_
    intro K hK
    simp -implicitDefEqProofs (disch := first | decide | assumption | omega) only [go_sem, RdS.len hd sl22, RdS.idx hd sl22, R1.intB hd (HPres.refl _), RdS.cells hd, RdS.len hm sl23, RdS.idx hm sl23, RdS.cellB hm (HPres.refl _), RdS.cells hm, BoxAt.cell hb0_0]
    refine hK _ _ ?_
    clear hK K
    refine den_ret ?_
    simp (disch := decide) only [resP_1, puts_same, puts_ne]
    exact absurd c0 (by omega)
  · try simp only [decide_eq_true_eq, decide_eq_false_iff_not, beq_iff_eq, beq_eq_false_iff_ne, bne_iff_ne, ne_eq, Bool.not_eq_true', Bool.not_eq_false', Bool.and_eq_true, Bool.or_eq_true, bne_eq_false_iff_eq] at c0
    refine den_skip ?_
    refine den_seq ?_
    refine den_region TTok ?_
    intro K hK
    simp -implicitDefEqProofs (disch := first | decide | assumption | omega) only [go_sem, fa31_2, ld23, RdS.len hd sl22, RdS.idx hd sl22, R1.intB hd (HPres.refl _), RdS.cells hd, RdS.len hm sl23, RdS.idx hm sl23, RdS.cellB hm (HPres.refl _), RdS.cells hm, BoxAt.cell hb0_0]
    try simp -implicitDefEqProofs (disch := first | decide | assumption | omega) only [go_sem, RdS.len hd sl22, RdS.idx hd sl22, R1.intB hd (HPres.refl _), RdS.cells hd, RdS.len hm sl23, RdS.idx hm sl23, RdS.cellB hm (HPres.refl _), RdS.cells hm, BoxAt.cell hb0_0]
    refine CallA.pure (heldSSS_ok _ X.maps (k + cnt1 X.dims) _ hm (by omega)) ?_
    try simp -implicitDefEqProofs (disch := first | decide | assumption | omega) only [go_sem, RdS.len hd sl22, RdS.idx hd sl22, R1.intB hd (HPres.refl _), RdS.cells hd, RdS.len hm sl23, RdS.idx hm sl23, RdS.cellB hm (HPres.refl _), RdS.cells hm, BoxAt.cell hb0_0]
    refine hK _ _ ?_
    clear hK K
    refine den_seq ?_
    refine den_seq ?_
    refine den_region TTok ?_
    intro K hK
    simp -implicitDefEqProofs (disch := first | decide | assumption | omega) only [go_sem, RdS.len hd sl22, RdS.idx hd sl22, R1.intB hd (HPres.refl _), RdS.cells hd, RdS.len hm sl23, RdS.idx hm sl23, RdS.cellB hm (HPres.refl _), RdS.cells hm, BoxAt.cell hb0_0]
    refine hK _ _ ?_
    clear hK K
    refine den_cond rfl (fun c1 => ?_) (fun c1 => ?_)
    · try simp only [decide_eq_true_eq, decide_eq_false_iff_not, beq_iff_eq, beq_eq_false_iff_ne, bne_iff_ne, ne_eq, Bool.not_eq_true', Bool.not_eq_false', Bool.and_eq_true, Bool.or_eq_true, bne_eq_false_iff_eq] at c1
      refine den_seq ?_
      refine den_region TTok ?_
      intro K hK
      simp -implicitDefEqProofs (disch := first | decide | assumption | omega) only [go_sem, RdS.len hd sl22, RdS.idx hd sl22, R1.intB hd (HPres.refl _), RdS.cells hd, RdS.len hm sl23, RdS.idx hm sl23, RdS.cellB hm (HPres.refl _), RdS.cells hm, BoxAt.cell hb0_0]
      refine hK _ _ ?_
      clear hK K
      refine den_ret ?_
      simp (disch := decide) only [resP_1, puts_same, puts_ne]
      exact absurd c1 (by omega)
    · try simp only [decide_eq_true_eq, decide_eq_false_iff_not, beq_iff_eq, beq_eq_false_iff_ne, bne_iff_ne, ne_eq, Bool.not_eq_true', Bool.not_eq_false', Bool.and_eq_true, Bool.or_eq_true, bne_eq_false_iff_eq] at c1
      refine den_skip ?_
      refine den_seq ?_
      refine den_region TTok ?_
      intro K hK
      simp -implicitDefEqProofs (disch := first | decide | assumption | omega) only [go_sem, RdS.len hd sl22, RdS.idx hd sl22, R1.intB hd (HPres.refl _), RdS.cells hd, RdS.len hm sl23, RdS.idx hm sl23, RdS.cellB hm (HPres.refl _), RdS.cells hm, BoxAt.cell hb0_0]
      refine hK _ _ ?_
      clear hK K
      refine den_ret ?_
      simp (disch := decide) only [resP_1, puts_same, puts_ne]
      exact ⟨by first | rfl | trivial, e0_0⟩

theorem eqS_same (v w : Value) (xs : List Int) (h : Heap) (hv : R1 h v xs) (hw : R1 h w xs) : CallA Try.prog 48 #[v, w] h fun u h' => u = .bool true ∧ h' = h := (eqS_ok v w xs xs h hv hw).mono fun u h' e => ⟨by rw [e.1]; simp, e.2⟩
theorem eqSS_same (v w : Value) (xs : List (List Int)) (h : Heap) (hv : R2 h v xs) (hw : R2 h w xs) : CallA Try.prog 26 #[v, w] h fun u h' => u = .bool true ∧ h' = h := (eqSS_ok v w xs xs h hv hw).mono fun u h' e => ⟨by rw [e.1]; simp, e.2⟩
theorem eqSSS_same (v w : Value) (xs : List (List (List Int))) (h : Heap) (hv : R3 h v xs) (hw : R3 h w xs) : CallA Try.prog 64 #[v, w] h fun u h' => u = .bool true ∧ h' = h := (eqSSS_ok v w xs xs h hv hw).mono fun u h' e => ⟨by rw [e.1]; simp, e.2⟩
theorem eqC_same (v w : Value) (X : Cx) (h : Heap) (hv : RC h v X) (hw : RC h w X) : CallA Try.prog 56 #[v, w] h fun u h' => u = .bool true ∧ Ext h h' := (eqC_ok v w X X h hv hw).mono fun u h' e => ⟨by rw [e.1, eqC_self], e.2⟩
end Go.Proofs.Ytjjjgllbocgkbaa
