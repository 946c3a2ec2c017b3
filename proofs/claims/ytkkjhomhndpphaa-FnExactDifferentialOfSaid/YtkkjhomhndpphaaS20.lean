/-
  Walks: the statement's function: ZeroMaps.
  Conditions: each theorem's own.
-/
import Derived.Test.YtkkjhomhndpphaaS19
set_option linter.unusedVariables false
set_option linter.unusedSimpArgs false
namespace Go.Proofs.Ytkkjhomhndpphaa
open Go
theorem szI_cnt {xs : List Int} {l : Int} (h : ¬ szI xs l < 0) : cnt1 xs ≤ l - szI xs l := by
  unfold szI at *
  unfold cnt1
  split at h
  · omega
  · rename_i hc; rw [if_neg hc]; omega
theorem szRows_cnt {α : Type} {f : α → Int → Int} {ct : α → Int} (hc : ∀ x l, ¬ f x l < 0 → ct x ≤ l - f x l) : ∀ (r : List α) (l : Int), ¬ szRows f r l < 0 → cntL ct r ≤ l - szRows f r l
  | [], l, _ => by simp [cntL, szRows]
  | x :: r, l, h => by
    unfold szRows at *
    split at h
    · omega
    · rename_i hx
      have h1 := hc x l hx
      have h2 := szRows_cnt hc r (f x l) h
      rw [if_neg hx, cntL]; omega
theorem szL_cnt {α : Type} {f : α → Int → Int} {ct : α → Int} (hc : ∀ x l, ¬ f x l < 0 → ct x ≤ l - f x l) (r : List α) (l : Int) (h : ¬ szL f r l < 0) : cntL ct r ≤ l - szL f r l := by
  unfold szL at *
  split at h
  · omega
  · rename_i hx
    have := szRows_cnt hc r _ h
    rw [if_neg hx]; omega
theorem szC_cnt {X : Cx} {l : Int} (h : ¬ szC X l < 0) : cnt1 X.dims + cnt3 X.maps ≤ l := by
  unfold szC at h
  split at h
  · omega
  · rename_i h1
    split at h
    · omega
    · have a := szI_cnt h1
      have b := szL_cnt (f := sz2) (ct := cnt2) (fun x l hx => szL_cnt (f := szI) (ct := cnt1) (fun x l hx => szI_cnt hx) x l hx) X.maps _ h
      have e : szL sz2 X.maps (szI X.dims l) = sz3 X.maps (szI X.dims l) := rfl
      have e3 : cntL cnt2 X.maps = cnt3 X.maps := rfl
      omega
theorem cnt_map {α β : Type} {f : α → β} {c : α → Int} {c' : β → Int} (h : ∀ x, c' (f x) = c x) : ∀ xs : List α, cntL c' (xs.map f) = cntL c xs
  | [] => rfl
  | x :: r => by simp only [List.map_cons, cntL, h, cnt_map h r]
theorem cnt1_zrow (r : List Int) : cnt1 (zrow r) = cnt1 r := by simp [cnt1, zrow]
theorem cnt_zm (X : Cx) : cntL cnt2 (zmP X).1 ≤ cnt3 X.maps := by
  unfold zmP
  split
  · exact Int.le_of_eq (cnt_map (fun R => cnt_map cnt1_zrow R) X.maps)
  · exact cnt3_nn _

theorem eqS_self (v w : Value) (xs : List Int) (h : Heap) (hv : R1 h v xs) (hw : R1 h w xs) : CallA Try.prog 32 #[v, w] h fun u h' => u = .bool true ∧ h' = h := (eqS_ok v w xs xs h hv hw).mono fun u h' e => ⟨by rw [e.1]; simp, e.2⟩
theorem eqSS_self (v w : Value) (xs : List (List Int)) (h : Heap) (hv : R2 h v xs) (hw : R2 h w xs) : CallA Try.prog 90 #[v, w] h fun u h' => u = .bool true ∧ h' = h := (eqSS_ok v w xs xs h hv hw).mono fun u h' e => ⟨by rw [e.1]; simp, e.2⟩
theorem eqSSS_self (v w : Value) (xs : List (List (List Int))) (h : Heap) (hv : R3 h v xs) (hw : R3 h w xs) : CallA Try.prog 25 #[v, w] h fun u h' => u = .bool true ∧ h' = h := (eqSSS_ok v w xs xs h hv hw).mono fun u h' e => ⟨by rw [e.1]; simp, e.2⟩
set_option maxRecDepth 100000 in
theorem zeroMaps_ok (v : Value) (X : Cx) (h : Heap) (hv : RC h v X) : CallA Try.prog 5 #[v] h fun v' h' => v' = .bool true ∧ Ext h h' := by
  obtain ⟨vd, vm, rfl, hd, hm⟩ := hv
  refine callA_intro TTok (args := [_]) Try.func5 (by kernel_rfl) rfl 96 rfl (by simp) [.tmp 2] rfl ?_
  simp only [idxs, Nat.reduceAdd]
  refine den_seq ?_
  refine den_region TTok ?_
  intro K hK
  simp -implicitDefEqProofs (disch := first | decide | assumption | omega) only [go_sem, RdS.len hd sl37, RdS.idx hd sl37, R1.intB hd (HPres.refl _), RdS.cells hd, RdS.len hm sl38, RdS.idx hm sl38, RdS.cellB hm (HPres.refl _), RdS.cells hm]
  refine op_box (cs := #[.int .i64 (X.p), vd, vm]) rfl ?_
  intro h0_0 e0_0 hb0_0 z0_0
  replace hd := RdS.pres hd (Ext.pres e0_0)
  replace hm := RdS.pres hm (Ext.pres e0_0)
  try simp -implicitDefEqProofs (disch := first | decide | assumption | omega) only [go_sem, RdS.len hd sl37, RdS.idx hd sl37, R1.intB hd (HPres.refl _), RdS.cells hd, RdS.len hm sl38, RdS.idx hm sl38, RdS.cellB hm (HPres.refl _), RdS.cells hm, BoxAt.cell hb0_0]
  refine hK _ _ ?_
  clear hK K
  refine den_seq ?_
  refine den_region TTok ?_
  intro K hK
  simp -implicitDefEqProofs (disch := first | decide | assumption | omega) only [go_sem, RdS.len hd sl37, RdS.idx hd sl37, R1.intB hd (HPres.refl _), RdS.cells hd, RdS.len hm sl38, RdS.idx hm sl38, RdS.cellB hm (HPres.refl _), RdS.cells hm, BoxAt.cell hb0_0]
  refine hK _ _ ?_
  clear hK K
  refine den_seq ?_
  refine den_region TTok ?_
  intro K hK
  simp -implicitDefEqProofs (disch := first | decide | assumption | omega) only [go_sem, ld40, RdS.len hd sl37, RdS.idx hd sl37, R1.intB hd (HPres.refl _), RdS.cells hd, RdS.len hm sl38, RdS.idx hm sl38, RdS.cellB hm (HPres.refl _), RdS.cells hm, BoxAt.cell hb0_0]
  try simp -implicitDefEqProofs (disch := first | decide | assumption | omega) only [go_sem, RdS.len hd sl37, RdS.idx hd sl37, R1.intB hd (HPres.refl _), RdS.cells hd, RdS.len hm sl38, RdS.idx hm sl38, RdS.cellB hm (HPres.refl _), RdS.cells hm, BoxAt.cell hb0_0]
  refine CallA.mono (szC_ok _ X _ _ ⟨_, _, rfl, hd, hm⟩ (by omega) (by omega)) ?_
  intro v_ h2_2
  rintro ⟨rfl, e2_2⟩
  have := Ext.size e2_2
  have eB := e2_2
  have := szC_le X (1048576 : Int) (by omega)
  try simp -implicitDefEqProofs (disch := first | decide | assumption | omega) only [go_sem, RdS.len hd sl37, RdS.idx hd sl37, R1.intB hd (Ext.pres eB), RdS.cells hd, RdS.len hm sl38, RdS.idx hm sl38, RdS.cellB hm (Ext.pres eB), RdS.cells hm, BoxAt.cellB hb0_0 eB]
  refine hK _ _ ?_
  clear hK K
  refine den_seq ?_
  refine den_seq ?_
  refine den_region TTok ?_
  intro K hK
  simp -implicitDefEqProofs (disch := first | decide | assumption | omega) only [go_sem, RdS.len hd sl37, RdS.idx hd sl37, R1.intB hd (Ext.pres eB), RdS.cells hd, RdS.len hm sl38, RdS.idx hm sl38, RdS.cellB hm (Ext.pres eB), RdS.cells hm, BoxAt.cellB hb0_0 eB]
  refine hK _ _ ?_
  clear hK K
  refine den_cond rfl (fun c0 => ?_) (fun c0 => ?_)
  · try simp only [decide_eq_true_eq, decide_eq_false_iff_not, beq_iff_eq, beq_eq_false_iff_ne, bne_iff_ne, ne_eq, Bool.not_eq_true', Bool.not_eq_false', Bool.and_eq_true, Bool.or_eq_true, bne_eq_false_iff_eq] at c0
    refine den_seq ?_
    refine den_region TTok ?_
    intro K hK
    simp -implicitDefEqProofs (disch := first | decide | assumption | omega) only [go_sem, RdS.len hd sl37, RdS.idx hd sl37, R1.intB hd (Ext.pres eB), RdS.cells hd, RdS.len hm sl38, RdS.idx hm sl38, RdS.cellB hm (Ext.pres eB), RdS.cells hm, BoxAt.cellB hb0_0 eB]
    refine hK _ _ ?_
    clear hK K
    refine den_ret ?_
    simp (disch := decide) only [resP_1, puts_same, puts_ne]
    exact ⟨by first | rfl | trivial, (Ext.trans e0_0 eB)⟩
  · try simp only [decide_eq_true_eq, decide_eq_false_iff_not, beq_iff_eq, beq_eq_false_iff_ne, bne_iff_ne, ne_eq, Bool.not_eq_true', Bool.not_eq_false', Bool.and_eq_true, Bool.or_eq_true, bne_eq_false_iff_eq] at c0
    refine den_skip ?_
    refine den_seq ?_
    have hMX := szC_ok' (by omega) (by omega) c0
    have hcn := szC_cnt c0
    have hcz := cnt_zm X
    have hcz0 := cntL_nonneg cnt2_nn (zmP X).1
    have hd1 := cnt1_nn X.dims
    have hm3 := cnt3_nn X.maps
    refine den_region TTok ?_
    intro K hK
    simp -implicitDefEqProofs (disch := first | decide | assumption | omega) only [go_sem, ld40, RdS.len hd sl37, RdS.idx hd sl37, R1.intB hd (Ext.pres eB), RdS.cells hd, RdS.len hm sl38, RdS.idx hm sl38, RdS.cellB hm (Ext.pres eB), RdS.cells hm, BoxAt.cellB hb0_0 eB]
    try simp -implicitDefEqProofs (disch := first | decide | assumption | omega) only [go_sem, RdS.len hd sl37, RdS.idx hd sl37, R1.intB hd (Ext.pres eB), RdS.cells hd, RdS.len hm sl38, RdS.idx hm sl38, RdS.cellB hm (Ext.pres eB), RdS.cells hm, BoxAt.cellB hb0_0 eB]
    refine CallA.mono (toC_ok _ X _ ⟨_, _, rfl, (RdS.pres hd (Ext.pres eB)), (RdS.pres hm (Ext.pres eB))⟩ hMX) ?_
    intro v_ h5_1
    rintro ⟨vd5_1, vm5_1, fd5_1, fm5_1, rfl, hod5_1, hom5_1, hf5_1, e5_1⟩
    have := Ext.size e5_1
    replace eB := Ext.trans eB e5_1
    have hfd5_1 := hf5_1.left
    have hfm5_1 := hf5_1.right
    have hlhod5_1 := OS.lt hod5_1
    have hlhom5_1 := OS.lt hom5_1
    try simp -implicitDefEqProofs (disch := first | decide | assumption | omega) only [go_sem, RdS.len hd sl37, RdS.idx hd sl37, R1.intB hd (Ext.pres eB), RdS.cells hd, RdS.len hm sl38, RdS.idx hm sl38, RdS.cellB hm (Ext.pres eB), RdS.cells hm, RdS.len (OS.rd hod5_1) sl37, RdS.idx (OS.rd hod5_1) sl37, R1.intN (OS.rd hod5_1), RdS.cells (OS.rd hod5_1), RdS.len (OS.rd hom5_1) sl38, RdS.idx (OS.rd hom5_1) sl38, RdS.cellN (OS.rd hom5_1), RdS.cells (OS.rd hom5_1), BoxAt.cellB hb0_0 eB]
    try simp -implicitDefEqProofs (disch := first | decide | assumption | omega) only [go_sem, RdS.len hd sl37, RdS.idx hd sl37, R1.intB hd (Ext.pres eB), RdS.cells hd, RdS.len hm sl38, RdS.idx hm sl38, RdS.cellB hm (Ext.pres eB), RdS.cells hm, RdS.len (OS.rd hod5_1) sl37, RdS.idx (OS.rd hod5_1) sl37, R1.intN (OS.rd hod5_1), RdS.cells (OS.rd hod5_1), RdS.len (OS.rd hom5_1) sl38, RdS.idx (OS.rd hom5_1) sl38, RdS.cellN (OS.rd hom5_1), RdS.cells (OS.rd hom5_1), BoxAt.cellB hb0_0 eB]
    refine CallA.mono (sZero_ok _ X _ ⟨_, _, rfl, (OS.rd hod5_1), (OS.rd hom5_1)⟩) ?_
    intro v_ h5_2
    rintro ⟨vw5_2, fw5_2, rfl, how5_2, hfw5_2, e5_2⟩
    replace hod5_1 := OS.ext hod5_1 e5_2
    replace hom5_1 := OS.ext hom5_1 e5_2
    have := Ext.size e5_2
    replace eB := Ext.trans eB e5_2
    have hlhow5_2 := OS.lt how5_2
    try simp -implicitDefEqProofs (disch := first | decide | assumption | omega) only [go_sem, RdS.len hd sl37, RdS.idx hd sl37, R1.intB hd (Ext.pres eB), RdS.cells hd, RdS.len hm sl38, RdS.idx hm sl38, RdS.cellB hm (Ext.pres eB), RdS.cells hm, RdS.len (OS.rd hod5_1) sl37, RdS.idx (OS.rd hod5_1) sl37, R1.intN (OS.rd hod5_1), RdS.cells (OS.rd hod5_1), RdS.len (OS.rd hom5_1) sl38, RdS.idx (OS.rd hom5_1) sl38, RdS.cellN (OS.rd hom5_1), RdS.cells (OS.rd hom5_1), RdS.len (OS.rd how5_2) sl38, RdS.idx (OS.rd how5_2) sl38, RdS.cellN (OS.rd how5_2), RdS.cells (OS.rd how5_2), BoxAt.cellB hb0_0 eB]
    refine hK _ _ ?_
    clear hK K
    refine den_seq ?_
    refine den_region TTok ?_
    intro K hK
    simp -implicitDefEqProofs (disch := first | decide | assumption | omega) only [go_sem, ld40, RdS.len hd sl37, RdS.idx hd sl37, R1.intB hd (Ext.pres eB), RdS.cells hd, RdS.len hm sl38, RdS.idx hm sl38, RdS.cellB hm (Ext.pres eB), RdS.cells hm, RdS.len (OS.rd how5_2) sl38, RdS.idx (OS.rd how5_2) sl38, RdS.cellN (OS.rd how5_2), RdS.cells (OS.rd how5_2), BoxAt.cellB hb0_0 eB]
    try simp -implicitDefEqProofs (disch := first | decide | assumption | omega) only [go_sem, RdS.len hd sl37, RdS.idx hd sl37, R1.intB hd (Ext.pres eB), RdS.cells hd, RdS.len hm sl38, RdS.idx hm sl38, RdS.cellB hm (Ext.pres eB), RdS.cells hm, RdS.len (OS.rd how5_2) sl38, RdS.idx (OS.rd how5_2) sl38, RdS.cellN (OS.rd how5_2), RdS.cells (OS.rd how5_2), BoxAt.cellB hb0_0 eB]
    refine CallA.mono (toC_ok _ X _ ⟨_, _, rfl, (RdS.pres hd (Ext.pres eB)), (RdS.pres hm (Ext.pres eB))⟩ hMX) ?_
    intro v_ h6_1
    rintro ⟨vd6_1, vm6_1, fd6_1, fm6_1, rfl, hod6_1, hom6_1, hf6_1, e6_1⟩
    replace how5_2 := OS.ext how5_2 e6_1
    have := Ext.size e6_1
    replace eB := Ext.trans eB e6_1
    have hfd6_1 := hf6_1.left
    have hfm6_1 := hf6_1.right
    have hlhod6_1 := OS.lt hod6_1
    have hlhom6_1 := OS.lt hom6_1
    try simp -implicitDefEqProofs (disch := first | decide | assumption | omega) only [go_sem, RdS.len hd sl37, RdS.idx hd sl37, R1.intB hd (Ext.pres eB), RdS.cells hd, RdS.len hm sl38, RdS.idx hm sl38, RdS.cellB hm (Ext.pres eB), RdS.cells hm, RdS.len (OS.rd how5_2) sl38, RdS.idx (OS.rd how5_2) sl38, RdS.cellN (OS.rd how5_2), RdS.cells (OS.rd how5_2), RdS.len (OS.rd hod6_1) sl37, RdS.idx (OS.rd hod6_1) sl37, R1.intN (OS.rd hod6_1), RdS.cells (OS.rd hod6_1), RdS.len (OS.rd hom6_1) sl38, RdS.idx (OS.rd hom6_1) sl38, RdS.cellN (OS.rd hom6_1), RdS.cells (OS.rd hom6_1), BoxAt.cellB hb0_0 eB]
    refine op_alloc (cs := #[.int .i64 0, .slice none 0 0, .slice none 0 0]) (by kernel_rfl) ?_
    intro h6_2 e6_2 hb6_2 z6_2
    replace how5_2 := OS.ext how5_2 e6_2
    replace hod6_1 := OS.ext hod6_1 e6_2
    replace hom6_1 := OS.ext hom6_1 e6_2
    have := Ext.size e6_2
    replace eB := Ext.trans eB e6_2
    try simp -implicitDefEqProofs (disch := first | decide | assumption | omega) only [go_sem, RdS.len hd sl37, RdS.idx hd sl37, R1.intB hd (Ext.pres eB), RdS.cells hd, RdS.len hm sl38, RdS.idx hm sl38, RdS.cellB hm (Ext.pres eB), RdS.cells hm, RdS.len (OS.rd how5_2) sl38, RdS.idx (OS.rd how5_2) sl38, RdS.cellN (OS.rd how5_2), RdS.cells (OS.rd how5_2), RdS.len (OS.rd hod6_1) sl37, RdS.idx (OS.rd hod6_1) sl37, R1.intN (OS.rd hod6_1), RdS.cells (OS.rd hod6_1), RdS.len (OS.rd hom6_1) sl38, RdS.idx (OS.rd hom6_1) sl38, RdS.cellN (OS.rd hom6_1), RdS.cells (OS.rd hom6_1), BoxAt.cellB hb0_0 eB, BoxAt.cell hb6_2]
    refine op_storeB (cs' := #[.int .i64 (X.p), vd6_1, vm6_1]) st44 hb6_2 rfl rfl rfl (by simp) (allOne_mem (l := [.int .i64 (X.p), vd6_1, vm6_1]) ⟨rfl, (OS.one hod6_1).1, (OS.one hom6_1).1, trivial⟩) rfl ?_
    intro h6_3 hb6_2 c6_3
    replace how5_2 := OS.chg how5_2 c6_3 (fun b hb hm => by simp at hm; have := hfw5_2.ge b hb; have := hlhow5_2 b hb; omega)
    replace hod6_1 := OS.chg hod6_1 c6_3 (fun b hb hm => by simp at hm; have := hfd6_1.ge b hb; have := hlhod6_1 b hb; omega)
    replace hom6_1 := OS.chg hom6_1 c6_3 (fun b hb hm => by simp at hm; have := hfm6_1.ge b hb; have := hlhom6_1 b hb; omega)
    have := c6_3.size
    replace eB := Ext.then eB c6_3 (fun b hb => by simp at hb; omega)
    try simp -implicitDefEqProofs (disch := first | decide | assumption | omega) only [go_sem, RdS.len hd sl37, RdS.idx hd sl37, R1.intB hd (Ext.pres eB), RdS.cells hd, RdS.len hm sl38, RdS.idx hm sl38, RdS.cellB hm (Ext.pres eB), RdS.cells hm, RdS.len (OS.rd how5_2) sl38, RdS.idx (OS.rd how5_2) sl38, RdS.cellN (OS.rd how5_2), RdS.cells (OS.rd how5_2), RdS.len (OS.rd hod6_1) sl37, RdS.idx (OS.rd hod6_1) sl37, R1.intN (OS.rd hod6_1), RdS.cells (OS.rd hod6_1), RdS.len (OS.rd hom6_1) sl38, RdS.idx (OS.rd hom6_1) sl38, RdS.cellN (OS.rd hom6_1), RdS.cells (OS.rd hom6_1), BoxAt.cellB hb0_0 eB, BoxAt.cell hb6_2]
    refine hK _ _ ?_
    clear hK K
    refine den_seq ?_
    refine den_region TTok ?_
    intro K hK
    simp -implicitDefEqProofs (disch := first | decide | assumption | omega) only [go_sem, ld44, RdS.len hd sl37, RdS.idx hd sl37, R1.intB hd (Ext.pres eB), RdS.cells hd, RdS.len hm sl38, RdS.idx hm sl38, RdS.cellB hm (Ext.pres eB), RdS.cells hm, RdS.len (OS.rd how5_2) sl38, RdS.idx (OS.rd how5_2) sl38, RdS.cellN (OS.rd how5_2), RdS.cells (OS.rd how5_2), RdS.len (OS.rd hod6_1) sl37, RdS.idx (OS.rd hod6_1) sl37, R1.intN (OS.rd hod6_1), RdS.cells (OS.rd hod6_1), RdS.len (OS.rd hom6_1) sl38, RdS.idx (OS.rd hom6_1) sl38, RdS.cellN (OS.rd hom6_1), RdS.cells (OS.rd hom6_1), BoxAt.cellB hb0_0 eB, BoxAt.cell hb6_2]
    try simp -implicitDefEqProofs (disch := first | decide | assumption | omega) only [go_sem, RdS.len hd sl37, RdS.idx hd sl37, R1.intB hd (Ext.pres eB), RdS.cells hd, RdS.len hm sl38, RdS.idx hm sl38, RdS.cellB hm (Ext.pres eB), RdS.cells hm, RdS.len (OS.rd how5_2) sl38, RdS.idx (OS.rd how5_2) sl38, RdS.cellN (OS.rd how5_2), RdS.cells (OS.rd how5_2), RdS.len (OS.rd hod6_1) sl37, RdS.idx (OS.rd hod6_1) sl37, R1.intN (OS.rd hod6_1), RdS.cells (OS.rd hod6_1), RdS.len (OS.rd hom6_1) sl38, RdS.idx (OS.rd hom6_1) sl38, RdS.cellN (OS.rd hom6_1), RdS.cells (OS.rd hom6_1), BoxAt.cellB hb0_0 eB, BoxAt.cell hb6_2]
    refine CallA.mono (iZero_ok _ X _ ⟨_, _, rfl, (OS.rd hod6_1), (OS.rd hom6_1)⟩) ?_
    intro v_ h7_1
    rintro ⟨vw7_1, fw7_1, rfl, how7_1, hfw7_1, e7_1⟩
    replace how5_2 := OS.ext how5_2 e7_1
    replace hod6_1 := OS.ext hod6_1 e7_1
    replace hom6_1 := OS.ext hom6_1 e7_1
    replace hb6_2 := BoxAt.ext hb6_2 e7_1
    have := Ext.size e7_1
    replace eB := Ext.trans eB e7_1
    have hlhow7_1 := OS.lt how7_1
    try simp -implicitDefEqProofs (disch := first | decide | assumption | omega) only [go_sem, RdS.len hd sl37, RdS.idx hd sl37, R1.intB hd (Ext.pres eB), RdS.cells hd, RdS.len hm sl38, RdS.idx hm sl38, RdS.cellB hm (Ext.pres eB), RdS.cells hm, RdS.len (OS.rd how5_2) sl38, RdS.idx (OS.rd how5_2) sl38, RdS.cellN (OS.rd how5_2), RdS.cells (OS.rd how5_2), RdS.len (OS.rd hod6_1) sl37, RdS.idx (OS.rd hod6_1) sl37, R1.intN (OS.rd hod6_1), RdS.cells (OS.rd hod6_1), RdS.len (OS.rd hom6_1) sl38, RdS.idx (OS.rd hom6_1) sl38, RdS.cellN (OS.rd hom6_1), RdS.cells (OS.rd hom6_1), RdS.len (OS.rd how7_1) sl38, RdS.idx (OS.rd how7_1) sl38, RdS.cellN (OS.rd how7_1), RdS.cells (OS.rd how7_1), BoxAt.cellB hb0_0 eB, BoxAt.cell hb6_2]
    refine hK _ _ ?_
    clear hK K
    refine den_seq ?_
    refine den_seq ?_
    refine den_mergeH [(40, .bool (((!(true)) || (((zmP X).2) != ((zmP X).2)))))] [1, 4, 5, 6, 7, 8] ?_ ?_
      -- a way
    · refine den_region TTok ?_
      intro K hK
      simp -implicitDefEqProofs (disch := first | decide | assumption | (simp (disch := decide) only [slotOf_zero, slotOf_succ, Option.map_some, puts_same, puts_ne, gv_bool, gv_undef, tt, tf, ft, ff, eq_self, if_true, if_false, Bool.false_eq_true, Bool.not_true, Bool.not_false]; done) | omega) only [go_sem, RdS.len hd sl37, RdS.idx hd sl37, R1.intB hd (Ext.pres eB), RdS.cells hd, RdS.len hm sl38, RdS.idx hm sl38, RdS.cellB hm (Ext.pres eB), RdS.cells hm, RdS.len (OS.rd how5_2) sl38, RdS.idx (OS.rd how5_2) sl38, RdS.cellN (OS.rd how5_2), RdS.cells (OS.rd how5_2), RdS.len (OS.rd hod6_1) sl37, RdS.idx (OS.rd hod6_1) sl37, R1.intN (OS.rd hod6_1), RdS.cells (OS.rd hod6_1), RdS.len (OS.rd hom6_1) sl38, RdS.idx (OS.rd hom6_1) sl38, RdS.cellN (OS.rd hom6_1), RdS.cells (OS.rd hom6_1), RdS.len (OS.rd how7_1) sl38, RdS.idx (OS.rd how7_1) sl38, RdS.cellN (OS.rd how7_1), RdS.cells (OS.rd how7_1), BoxAt.cellB hb0_0 eB, BoxAt.cell hb6_2]
      try simp -implicitDefEqProofs (disch := first | decide | assumption | omega) only [go_sem, RdS.len hd sl37, RdS.idx hd sl37, R1.intB hd (Ext.pres eB), RdS.cells hd, RdS.len hm sl38, RdS.idx hm sl38, RdS.cellB hm (Ext.pres eB), RdS.cells hm, RdS.len (OS.rd how5_2) sl38, RdS.idx (OS.rd how5_2) sl38, RdS.cellN (OS.rd how5_2), RdS.cells (OS.rd how5_2), RdS.len (OS.rd hod6_1) sl37, RdS.idx (OS.rd hod6_1) sl37, R1.intN (OS.rd hod6_1), RdS.cells (OS.rd hod6_1), RdS.len (OS.rd hom6_1) sl38, RdS.idx (OS.rd hom6_1) sl38, RdS.cellN (OS.rd hom6_1), RdS.cells (OS.rd hom6_1), RdS.len (OS.rd how7_1) sl38, RdS.idx (OS.rd how7_1) sl38, RdS.cellN (OS.rd how7_1), RdS.cells (OS.rd how7_1), BoxAt.cellB hb0_0 eB, BoxAt.cell hb6_2]
      refine CallA.pure (eqSSS_self _ _ _ _ (OS.rd how7_1) (OS.rd how5_2)) ?_
      try simp -implicitDefEqProofs (disch := first | decide | assumption | (simp (disch := decide) only [slotOf_zero, slotOf_succ, Option.map_some, puts_same, puts_ne, gv_bool, gv_undef, tt, tf, ft, ff, eq_self, if_true, if_false, Bool.false_eq_true, Bool.not_true, Bool.not_false]; done) | omega) only [go_sem, RdS.len hd sl37, RdS.idx hd sl37, R1.intB hd (Ext.pres eB), RdS.cells hd, RdS.len hm sl38, RdS.idx hm sl38, RdS.cellB hm (Ext.pres eB), RdS.cells hm, RdS.len (OS.rd how5_2) sl38, RdS.idx (OS.rd how5_2) sl38, RdS.cellN (OS.rd how5_2), RdS.cells (OS.rd how5_2), RdS.len (OS.rd hod6_1) sl37, RdS.idx (OS.rd hod6_1) sl37, R1.intN (OS.rd hod6_1), RdS.cells (OS.rd hod6_1), RdS.len (OS.rd hom6_1) sl38, RdS.idx (OS.rd hom6_1) sl38, RdS.cellN (OS.rd hom6_1), RdS.cells (OS.rd hom6_1), RdS.len (OS.rd how7_1) sl38, RdS.idx (OS.rd how7_1) sl38, RdS.cellN (OS.rd how7_1), RdS.cells (OS.rd how7_1), BoxAt.cellB hb0_0 eB, BoxAt.cell hb6_2]
      try simp -implicitDefEqProofs (disch := first | decide | assumption | (simp (disch := decide) only [slotOf_zero, slotOf_succ, Option.map_some, puts_same, puts_ne, gv_bool, gv_undef, tt, tf, ft, ff, eq_self, if_true, if_false, Bool.false_eq_true, Bool.not_true, Bool.not_false]; done) | omega) only [go_sem, RdS.len hd sl37, RdS.idx hd sl37, R1.intB hd (Ext.pres eB), RdS.cells hd, RdS.len hm sl38, RdS.idx hm sl38, RdS.cellB hm (Ext.pres eB), RdS.cells hm, RdS.len (OS.rd how5_2) sl38, RdS.idx (OS.rd how5_2) sl38, RdS.cellN (OS.rd how5_2), RdS.cells (OS.rd how5_2), RdS.len (OS.rd hod6_1) sl37, RdS.idx (OS.rd hod6_1) sl37, R1.intN (OS.rd hod6_1), RdS.cells (OS.rd hod6_1), RdS.len (OS.rd hom6_1) sl38, RdS.idx (OS.rd hom6_1) sl38, RdS.cellN (OS.rd hom6_1), RdS.cells (OS.rd hom6_1), RdS.len (OS.rd how7_1) sl38, RdS.idx (OS.rd how7_1) sl38, RdS.cellN (OS.rd how7_1), RdS.cells (OS.rd how7_1), BoxAt.cellB hb0_0 eB, BoxAt.cell hb6_2]
      refine hK _ _ ?_
      clear hK K
      refine den_stop ?_
      refine ⟨?_, rfl⟩
      first | (simp (disch := decide) only [go_sem, eq_self, Bool.true_and, Bool.and_true, Bool.false_and, Bool.and_false, Bool.true_or, Bool.or_true, Bool.false_or, Bool.or_false, if_true, if_false, Bool.false_eq_true]; done) | simp [HasL, sel, puts_at]
    intro en1
    simp (disch := decide) only [go_sem]
    refine den_cond rfl (fun c1 => ?_) (fun c1 => ?_)
    · try simp only [decide_eq_true_eq, decide_eq_false_iff_not, beq_iff_eq, beq_eq_false_iff_ne, bne_iff_ne, ne_eq, Bool.not_eq_true', Bool.not_eq_false', Bool.and_eq_true, Bool.or_eq_true, bne_eq_false_iff_eq] at c1
      refine den_seq ?_
      refine den_region TTok ?_
      intro K hK
      simp -implicitDefEqProofs (disch := first | decide | assumption | omega) only [go_sem, RdS.len hd sl37, RdS.idx hd sl37, R1.intB hd (Ext.pres eB), RdS.cells hd, RdS.len hm sl38, RdS.idx hm sl38, RdS.cellB hm (Ext.pres eB), RdS.cells hm, BoxAt.cellB hb0_0 eB]
      refine hK _ _ ?_
      clear hK K
      refine den_ret ?_
      simp (disch := decide) only [resP_1, puts_same, puts_ne]
      exact absurd c1 (by simp)
    · try simp only [decide_eq_true_eq, decide_eq_false_iff_not, beq_iff_eq, beq_eq_false_iff_ne, bne_iff_ne, ne_eq, Bool.not_eq_true', Bool.not_eq_false', Bool.and_eq_true, Bool.or_eq_true, bne_eq_false_iff_eq] at c1
      refine den_skip ?_
      refine den_seq ?_
      refine den_seq ?_
      refine den_draw TTok mixed [] [(0, true), (1, true), (2, false), (3, false), (4, true)] (by kernel_rfl) ?_
      intro K hK
      simp -implicitDefEqProofs (disch := first | decide | assumption | omega) only [go_sem, ld44, ld40, RdS.len hd sl37, RdS.idx hd sl37, R1.intB hd (Ext.pres eB), RdS.cells hd, RdS.len hm sl38, RdS.idx hm sl38, RdS.cellB hm (Ext.pres eB), RdS.cells hm, RdS.len (OS.rd how5_2) sl38, RdS.idx (OS.rd how5_2) sl38, RdS.cellN (OS.rd how5_2), RdS.cells (OS.rd how5_2), RdS.len (OS.rd hod6_1) sl37, RdS.idx (OS.rd hod6_1) sl37, R1.intN (OS.rd hod6_1), RdS.cells (OS.rd hod6_1), RdS.len (OS.rd hom6_1) sl38, RdS.idx (OS.rd hom6_1) sl38, RdS.cellN (OS.rd hom6_1), RdS.cells (OS.rd hom6_1), RdS.len (OS.rd how7_1) sl38, RdS.idx (OS.rd how7_1) sl38, RdS.cellN (OS.rd how7_1), RdS.cells (OS.rd how7_1), BoxAt.cellB hb0_0 eB, BoxAt.cell hb6_2]
      try simp -implicitDefEqProofs (disch := first | decide | assumption | omega) only [go_sem, RdS.len hd sl37, RdS.idx hd sl37, R1.intB hd (Ext.pres eB), RdS.cells hd, RdS.len hm sl38, RdS.idx hm sl38, RdS.cellB hm (Ext.pres eB), RdS.cells hm, RdS.len (OS.rd how5_2) sl38, RdS.idx (OS.rd how5_2) sl38, RdS.cellN (OS.rd how5_2), RdS.cells (OS.rd how5_2), RdS.len (OS.rd hod6_1) sl37, RdS.idx (OS.rd hod6_1) sl37, R1.intN (OS.rd hod6_1), RdS.cells (OS.rd hod6_1), RdS.len (OS.rd hom6_1) sl38, RdS.idx (OS.rd hom6_1) sl38, RdS.cellN (OS.rd hom6_1), RdS.cells (OS.rd hom6_1), RdS.len (OS.rd how7_1) sl38, RdS.idx (OS.rd how7_1) sl38, RdS.cellN (OS.rd how7_1), RdS.cells (OS.rd how7_1), BoxAt.cellB hb0_0 eB, BoxAt.cell hb6_2]
      refine CallA.mono (toC_ok _ X _ ⟨_, _, rfl, (RdS.pres hd (Ext.pres eB)), (RdS.pres hm (Ext.pres eB))⟩ hMX) ?_
      intro v_ h10_2
      rintro ⟨vd10_2, vm10_2, fd10_2, fm10_2, rfl, hod10_2, hom10_2, hf10_2, e10_2⟩
      replace how5_2 := OS.ext how5_2 e10_2
      replace hod6_1 := OS.ext hod6_1 e10_2
      replace hom6_1 := OS.ext hom6_1 e10_2
      replace how7_1 := OS.ext how7_1 e10_2
      replace hb6_2 := BoxAt.ext hb6_2 e10_2
      have := Ext.size e10_2
      replace eB := Ext.trans eB e10_2
      have hfd10_2 := hf10_2.left
      have hfm10_2 := hf10_2.right
      have hlhod10_2 := OS.lt hod10_2
      have hlhom10_2 := OS.lt hom10_2
      try simp (disch := decide) only [outv_some, outv_none, put_puts]
      refine plK_pres (Ext.pres e10_2) ?_
      try simp -implicitDefEqProofs (disch := first | decide | assumption | omega) only [go_sem, RdS.len hd sl37, RdS.idx hd sl37, R1.intB hd (Ext.pres eB), RdS.cells hd, RdS.len hm sl38, RdS.idx hm sl38, RdS.cellB hm (Ext.pres eB), RdS.cells hm, RdS.len (OS.rd how5_2) sl38, RdS.idx (OS.rd how5_2) sl38, RdS.cellN (OS.rd how5_2), RdS.cells (OS.rd how5_2), RdS.len (OS.rd hod6_1) sl37, RdS.idx (OS.rd hod6_1) sl37, R1.intN (OS.rd hod6_1), RdS.cells (OS.rd hod6_1), RdS.len (OS.rd hom6_1) sl38, RdS.idx (OS.rd hom6_1) sl38, RdS.cellN (OS.rd hom6_1), RdS.cells (OS.rd hom6_1), RdS.len (OS.rd how7_1) sl38, RdS.idx (OS.rd how7_1) sl38, RdS.cellN (OS.rd how7_1), RdS.cells (OS.rd how7_1), RdS.len (OS.rd hod10_2) sl37, RdS.idx (OS.rd hod10_2) sl37, R1.intN (OS.rd hod10_2), RdS.cells (OS.rd hod10_2), RdS.len (OS.rd hom10_2) sl38, RdS.idx (OS.rd hom10_2) sl38, RdS.cellN (OS.rd hom10_2), RdS.cells (OS.rd hom10_2), BoxAt.cellB hb0_0 eB, BoxAt.cell hb6_2]
      try simp -implicitDefEqProofs (disch := first | decide | assumption | omega) only [go_sem, RdS.len hd sl37, RdS.idx hd sl37, R1.intB hd (Ext.pres eB), RdS.cells hd, RdS.len hm sl38, RdS.idx hm sl38, RdS.cellB hm (Ext.pres eB), RdS.cells hm, RdS.len (OS.rd how5_2) sl38, RdS.idx (OS.rd how5_2) sl38, RdS.cellN (OS.rd how5_2), RdS.cells (OS.rd how5_2), RdS.len (OS.rd hod6_1) sl37, RdS.idx (OS.rd hod6_1) sl37, R1.intN (OS.rd hod6_1), RdS.cells (OS.rd hod6_1), RdS.len (OS.rd hom6_1) sl38, RdS.idx (OS.rd hom6_1) sl38, RdS.cellN (OS.rd hom6_1), RdS.cells (OS.rd hom6_1), RdS.len (OS.rd how7_1) sl38, RdS.idx (OS.rd how7_1) sl38, RdS.cellN (OS.rd how7_1), RdS.cells (OS.rd how7_1), RdS.len (OS.rd hod10_2) sl37, RdS.idx (OS.rd hod10_2) sl37, R1.intN (OS.rd hod10_2), RdS.cells (OS.rd hod10_2), RdS.len (OS.rd hom10_2) sl38, RdS.idx (OS.rd hom10_2) sl38, RdS.cellN (OS.rd hom10_2), RdS.cells (OS.rd hom10_2), BoxAt.cellB hb0_0 eB, BoxAt.cell hb6_2]
      refine CallA.mono (eqC_ok _ _ X X _ ⟨_, _, rfl, (OS.rd hod6_1), (OS.rd hom6_1)⟩ ⟨_, _, rfl, (OS.rd hod10_2), (OS.rd hom10_2)⟩) ?_
      intro v_ h10_3
      rintro ⟨rfl, e10_3⟩
      replace how5_2 := OS.ext how5_2 e10_3
      replace hod6_1 := OS.ext hod6_1 e10_3
      replace hom6_1 := OS.ext hom6_1 e10_3
      replace how7_1 := OS.ext how7_1 e10_3
      replace hod10_2 := OS.ext hod10_2 e10_3
      replace hom10_2 := OS.ext hom10_2 e10_3
      replace hb6_2 := BoxAt.ext hb6_2 e10_3
      have := Ext.size e10_3
      replace eB := Ext.trans eB e10_3
      try simp (disch := decide) only [outv_some, outv_none, put_puts]
      refine plK_pres (Ext.pres e10_3) ?_
      try simp -implicitDefEqProofs (disch := first | decide | assumption | omega) only [go_sem, RdS.len hd sl37, RdS.idx hd sl37, R1.intB hd (Ext.pres eB), RdS.cells hd, RdS.len hm sl38, RdS.idx hm sl38, RdS.cellB hm (Ext.pres eB), RdS.cells hm, RdS.len (OS.rd how5_2) sl38, RdS.idx (OS.rd how5_2) sl38, RdS.cellN (OS.rd how5_2), RdS.cells (OS.rd how5_2), RdS.len (OS.rd hod6_1) sl37, RdS.idx (OS.rd hod6_1) sl37, R1.intN (OS.rd hod6_1), RdS.cells (OS.rd hod6_1), RdS.len (OS.rd hom6_1) sl38, RdS.idx (OS.rd hom6_1) sl38, RdS.cellN (OS.rd hom6_1), RdS.cells (OS.rd hom6_1), RdS.len (OS.rd how7_1) sl38, RdS.idx (OS.rd how7_1) sl38, RdS.cellN (OS.rd how7_1), RdS.cells (OS.rd how7_1), RdS.len (OS.rd hod10_2) sl37, RdS.idx (OS.rd hod10_2) sl37, R1.intN (OS.rd hod10_2), RdS.cells (OS.rd hod10_2), RdS.len (OS.rd hom10_2) sl38, RdS.idx (OS.rd hom10_2) sl38, RdS.cellN (OS.rd hom10_2), RdS.cells (OS.rd hom10_2), BoxAt.cellB hb0_0 eB, BoxAt.cell hb6_2]
      refine hK _ _ ?_
      clear hK K
      refine den_cond rfl (fun c2 => ?_) (fun c2 => ?_)
      · try simp only [decide_eq_true_eq, decide_eq_false_iff_not, beq_iff_eq, beq_eq_false_iff_ne, bne_iff_ne, ne_eq, Bool.not_eq_true', Bool.not_eq_false', Bool.and_eq_true, Bool.or_eq_true, bne_eq_false_iff_eq] at c2
        refine den_seq ?_
        refine den_region TTok ?_
        intro K hK
        simp -implicitDefEqProofs (disch := first | decide | assumption | omega) only [go_sem, RdS.len hd sl37, RdS.idx hd sl37, R1.intB hd (Ext.pres eB), RdS.cells hd, RdS.len hm sl38, RdS.idx hm sl38, RdS.cellB hm (Ext.pres eB), RdS.cells hm, BoxAt.cellB hb0_0 eB]
        refine hK _ _ ?_
        clear hK K
        refine den_ret ?_
        simp (disch := decide) only [resP_1, puts_same, puts_ne]
        exact absurd c2 (by simp [eqC_self])
      · try simp only [decide_eq_true_eq, decide_eq_false_iff_not, beq_iff_eq, beq_eq_false_iff_ne, bne_iff_ne, ne_eq, Bool.not_eq_true', Bool.not_eq_false', Bool.and_eq_true, Bool.or_eq_true, bne_eq_false_iff_eq] at c2
        refine den_skip ?_
        refine den_seq ?_
        refine den_region TTok ?_
        intro K hK
        simp -implicitDefEqProofs (disch := first | decide | assumption | omega) only [go_sem, RdS.len hd sl37, RdS.idx hd sl37, R1.intB hd (Ext.pres eB), RdS.cells hd, RdS.len hm sl38, RdS.idx hm sl38, RdS.cellB hm (Ext.pres eB), RdS.cells hm, RdS.len (OS.rd how5_2) sl38, RdS.idx (OS.rd how5_2) sl38, RdS.cellN (OS.rd how5_2), RdS.cells (OS.rd how5_2), RdS.len (OS.rd hod6_1) sl37, RdS.idx (OS.rd hod6_1) sl37, R1.intN (OS.rd hod6_1), RdS.cells (OS.rd hod6_1), RdS.len (OS.rd hom6_1) sl38, RdS.idx (OS.rd hom6_1) sl38, RdS.cellN (OS.rd hom6_1), RdS.cells (OS.rd hom6_1), RdS.len (OS.rd how7_1) sl38, RdS.idx (OS.rd how7_1) sl38, RdS.cellN (OS.rd how7_1), RdS.cells (OS.rd how7_1), BoxAt.cellB hb0_0 eB, BoxAt.cell hb6_2]
        refine hK _ _ ?_
        clear hK K
        refine den_seq ?_
        refine den_region TTok ?_
        intro K hK
        simp -implicitDefEqProofs (disch := first | decide | assumption | omega) only [go_sem, ld44, RdS.len hd sl37, RdS.idx hd sl37, R1.intB hd (Ext.pres eB), RdS.cells hd, RdS.len hm sl38, RdS.idx hm sl38, RdS.cellB hm (Ext.pres eB), RdS.cells hm, RdS.len (OS.rd how5_2) sl38, RdS.idx (OS.rd how5_2) sl38, RdS.cellN (OS.rd how5_2), RdS.cells (OS.rd how5_2), RdS.len (OS.rd hod6_1) sl37, RdS.idx (OS.rd hod6_1) sl37, R1.intN (OS.rd hod6_1), RdS.cells (OS.rd hod6_1), RdS.len (OS.rd hom6_1) sl38, RdS.idx (OS.rd hom6_1) sl38, RdS.cellN (OS.rd hom6_1), RdS.cells (OS.rd hom6_1), RdS.len (OS.rd how7_1) sl38, RdS.idx (OS.rd how7_1) sl38, RdS.cellN (OS.rd how7_1), RdS.cells (OS.rd how7_1), BoxAt.cellB hb0_0 eB, BoxAt.cell hb6_2]
        try simp -implicitDefEqProofs (disch := first | decide | assumption | omega) only [go_sem, RdS.len hd sl37, RdS.idx hd sl37, R1.intB hd (Ext.pres eB), RdS.cells hd, RdS.len hm sl38, RdS.idx hm sl38, RdS.cellB hm (Ext.pres eB), RdS.cells hm, RdS.len (OS.rd how5_2) sl38, RdS.idx (OS.rd how5_2) sl38, RdS.cellN (OS.rd how5_2), RdS.cells (OS.rd how5_2), RdS.len (OS.rd hod6_1) sl37, RdS.idx (OS.rd hod6_1) sl37, R1.intN (OS.rd hod6_1), RdS.cells (OS.rd hod6_1), RdS.len (OS.rd hom6_1) sl38, RdS.idx (OS.rd hom6_1) sl38, RdS.cellN (OS.rd hom6_1), RdS.cells (OS.rd hom6_1), RdS.len (OS.rd how7_1) sl38, RdS.idx (OS.rd how7_1) sl38, RdS.cellN (OS.rd how7_1), RdS.cells (OS.rd how7_1), BoxAt.cellB hb0_0 eB, BoxAt.cell hb6_2]
        refine CallA.mono (markC_ok _ _ X 1 _ _ _ hod6_1 hom6_1 hf6_1.nodup (by omega)) ?_
        intro v_ h13_2
        rintro ⟨⟨qm, rfl, hqm, hqM⟩, cM⟩
        replace how5_2 := OS.chg how5_2 cM (fun b hb hm => by
  have a1 := hfw5_2.ge b hb
  have a2 := hlhow5_2 b hb
  rcases List.mem_append.1 hm with hm | hm
  · have a3 := hfd6_1.ge b hm
    have a4 := hlhod6_1 b hm
    omega
  · have a3 := hfm6_1.ge b hm
    have a4 := hlhom6_1 b hm
    omega)
        replace how7_1 := OS.chg how7_1 cM (fun b hb hm => by
  have a1 := hfw7_1.ge b hb
  have a2 := hlhow7_1 b hb
  rcases List.mem_append.1 hm with hm | hm
  · have a3 := hfd6_1.ge b hm
    have a4 := hlhod6_1 b hm
    omega
  · have a3 := hfm6_1.ge b hm
    have a4 := hlhom6_1 b hm
    omega)
        have := cM.size
        replace eB := Ext.then eB cM (fun b hm => by
  rcases List.mem_append.1 hm with hm | hm
  · have a4 := hfd6_1.ge b hm
    omega
  · have a4 := hfm6_1.ge b hm
    omega)
        try simp -implicitDefEqProofs (disch := first | decide | assumption | omega) only [go_sem, RdS.len hd sl37, RdS.idx hd sl37, R1.intB hd (Ext.pres eB), RdS.cells hd, RdS.len hm sl38, RdS.idx hm sl38, RdS.cellB hm (Ext.pres eB), RdS.cells hm, RdS.len (OS.rd how5_2) sl38, RdS.idx (OS.rd how5_2) sl38, RdS.cellN (OS.rd how5_2), RdS.cells (OS.rd how5_2), RdS.len (OS.rd hod6_1) sl37, RdS.idx (OS.rd hod6_1) sl37, R1.intN (OS.rd hod6_1), RdS.cells (OS.rd hod6_1), RdS.len (OS.rd hom6_1) sl38, RdS.idx (OS.rd hom6_1) sl38, RdS.cellN (OS.rd hom6_1), RdS.cells (OS.rd hom6_1), RdS.len (OS.rd how7_1) sl38, RdS.idx (OS.rd how7_1) sl38, RdS.cellN (OS.rd how7_1), RdS.cells (OS.rd how7_1), BoxAt.cellB hb0_0 eB, BoxAt.cell hb6_2]
        refine hK _ _ ?_
        clear hK K
        refine den_seq ?_
        refine den_seq ?_
        refine den_mergeH [(61, .bool ((((decide (qm < (0 : Int))) || (!(true))) || (((zmP X).2) != ((zmP X).2)))))] [1, 4, 5, 7] ?_ ?_
          -- a way
        · refine den_region TTok ?_
          intro K hK
          simp -implicitDefEqProofs (disch := first | decide | assumption | (simp (disch := decide) only [slotOf_zero, slotOf_succ, Option.map_some, puts_same, puts_ne, gv_bool, gv_undef, tt, tf, ft, ff, eq_self, if_true, if_false, Bool.false_eq_true, Bool.not_true, Bool.not_false]; done) | omega) only [go_sem, RdS.len hd sl37, RdS.idx hd sl37, R1.intB hd (Ext.pres eB), RdS.cells hd, RdS.len hm sl38, RdS.idx hm sl38, RdS.cellB hm (Ext.pres eB), RdS.cells hm, RdS.len (OS.rd how5_2) sl38, RdS.idx (OS.rd how5_2) sl38, RdS.cellN (OS.rd how5_2), RdS.cells (OS.rd how5_2), RdS.len (OS.rd how7_1) sl38, RdS.idx (OS.rd how7_1) sl38, RdS.cellN (OS.rd how7_1), RdS.cells (OS.rd how7_1), BoxAt.cellB hb0_0 eB]
          refine opsP_F (by simp (disch := decide) only [slotOf_zero, slotOf_succ, Option.map_some, puts_same, puts_ne, gv_bool, gv_undef, tt, tf, ft, ff, eq_self, if_true, if_false, Bool.false_eq_true, Bool.not_true, Bool.not_false]; rfl) (fun g4 => ?_) (fun g4 => ?_)
          · try simp -implicitDefEqProofs (disch := first | decide | assumption | (simp (disch := decide) only [slotOf_zero, slotOf_succ, Option.map_some, puts_same, puts_ne, gv_bool, gv_undef, tt, tf, ft, ff, eq_self, if_true, if_false, Bool.false_eq_true, Bool.not_true, Bool.not_false, g4]; done) | omega) only [go_sem, RdS.len hd sl37, RdS.idx hd sl37, R1.intB hd (Ext.pres eB), RdS.cells hd, RdS.len hm sl38, RdS.idx hm sl38, RdS.cellB hm (Ext.pres eB), RdS.cells hm, RdS.len (OS.rd how5_2) sl38, RdS.idx (OS.rd how5_2) sl38, RdS.cellN (OS.rd how5_2), RdS.cells (OS.rd how5_2), RdS.len (OS.rd how7_1) sl38, RdS.idx (OS.rd how7_1) sl38, RdS.cellN (OS.rd how7_1), RdS.cells (OS.rd how7_1), BoxAt.cellB hb0_0 eB, g4, eq_self, if_true, if_false, Bool.false_eq_true]
            try simp -implicitDefEqProofs (disch := first | decide | assumption | omega) only [go_sem, RdS.len hd sl37, RdS.idx hd sl37, R1.intB hd (Ext.pres eB), RdS.cells hd, RdS.len hm sl38, RdS.idx hm sl38, RdS.cellB hm (Ext.pres eB), RdS.cells hm, RdS.len (OS.rd how5_2) sl38, RdS.idx (OS.rd how5_2) sl38, RdS.cellN (OS.rd how5_2), RdS.cells (OS.rd how5_2), RdS.len (OS.rd how7_1) sl38, RdS.idx (OS.rd how7_1) sl38, RdS.cellN (OS.rd how7_1), RdS.cells (OS.rd how7_1), BoxAt.cellB hb0_0 eB]
            refine CallA.pure (eqSSS_self _ _ _ _ (OS.rd how7_1) (OS.rd how5_2)) ?_
            try simp -implicitDefEqProofs (disch := first | decide | assumption | (simp (disch := decide) only [slotOf_zero, slotOf_succ, Option.map_some, puts_same, puts_ne, gv_bool, gv_undef, tt, tf, ft, ff, eq_self, if_true, if_false, Bool.false_eq_true, Bool.not_true, Bool.not_false, g4]; done) | omega) only [go_sem, RdS.len hd sl37, RdS.idx hd sl37, R1.intB hd (Ext.pres eB), RdS.cells hd, RdS.len hm sl38, RdS.idx hm sl38, RdS.cellB hm (Ext.pres eB), RdS.cells hm, RdS.len (OS.rd how5_2) sl38, RdS.idx (OS.rd how5_2) sl38, RdS.cellN (OS.rd how5_2), RdS.cells (OS.rd how5_2), RdS.len (OS.rd how7_1) sl38, RdS.idx (OS.rd how7_1) sl38, RdS.cellN (OS.rd how7_1), RdS.cells (OS.rd how7_1), BoxAt.cellB hb0_0 eB, g4, eq_self, if_true, if_false, Bool.false_eq_true]
            try simp -implicitDefEqProofs (disch := first | decide | assumption | (simp (disch := decide) only [slotOf_zero, slotOf_succ, Option.map_some, puts_same, puts_ne, gv_bool, gv_undef, tt, tf, ft, ff, eq_self, if_true, if_false, Bool.false_eq_true, Bool.not_true, Bool.not_false, g4]; done) | omega) only [go_sem, RdS.len hd sl37, RdS.idx hd sl37, R1.intB hd (Ext.pres eB), RdS.cells hd, RdS.len hm sl38, RdS.idx hm sl38, RdS.cellB hm (Ext.pres eB), RdS.cells hm, RdS.len (OS.rd how5_2) sl38, RdS.idx (OS.rd how5_2) sl38, RdS.cellN (OS.rd how5_2), RdS.cells (OS.rd how5_2), RdS.len (OS.rd how7_1) sl38, RdS.idx (OS.rd how7_1) sl38, RdS.cellN (OS.rd how7_1), RdS.cells (OS.rd how7_1), BoxAt.cellB hb0_0 eB, g4, eq_self, if_true, if_false, Bool.false_eq_true]
            refine hK _ _ ?_
            clear hK K
            refine den_stop ?_
            refine ⟨?_, rfl⟩
            first | (simp (disch := decide) only [go_sem, g4, eq_self, Bool.true_and, Bool.and_true, Bool.false_and, Bool.and_false, Bool.true_or, Bool.or_true, Bool.false_or, Bool.or_false, if_true, if_false, Bool.false_eq_true]; done) | simp [HasL, sel, puts_at, g4]
          · try simp -implicitDefEqProofs (disch := first | decide | assumption | (simp (disch := decide) only [slotOf_zero, slotOf_succ, Option.map_some, puts_same, puts_ne, gv_bool, gv_undef, tt, tf, ft, ff, eq_self, if_true, if_false, Bool.false_eq_true, Bool.not_true, Bool.not_false, g4]; done) | omega) only [go_sem, RdS.len hd sl37, RdS.idx hd sl37, R1.intB hd (Ext.pres eB), RdS.cells hd, RdS.len hm sl38, RdS.idx hm sl38, RdS.cellB hm (Ext.pres eB), RdS.cells hm, RdS.len (OS.rd how5_2) sl38, RdS.idx (OS.rd how5_2) sl38, RdS.cellN (OS.rd how5_2), RdS.cells (OS.rd how5_2), RdS.len (OS.rd how7_1) sl38, RdS.idx (OS.rd how7_1) sl38, RdS.cellN (OS.rd how7_1), RdS.cells (OS.rd how7_1), BoxAt.cellB hb0_0 eB, g4, eq_self, if_true, if_false, Bool.false_eq_true]
            try simp -implicitDefEqProofs (disch := first | decide | assumption | (simp (disch := decide) only [slotOf_zero, slotOf_succ, Option.map_some, puts_same, puts_ne, gv_bool, gv_undef, tt, tf, ft, ff, eq_self, if_true, if_false, Bool.false_eq_true, Bool.not_true, Bool.not_false, g4]; done) | omega) only [go_sem, RdS.len hd sl37, RdS.idx hd sl37, R1.intB hd (Ext.pres eB), RdS.cells hd, RdS.len hm sl38, RdS.idx hm sl38, RdS.cellB hm (Ext.pres eB), RdS.cells hm, RdS.len (OS.rd how5_2) sl38, RdS.idx (OS.rd how5_2) sl38, RdS.cellN (OS.rd how5_2), RdS.cells (OS.rd how5_2), RdS.len (OS.rd how7_1) sl38, RdS.idx (OS.rd how7_1) sl38, RdS.cellN (OS.rd how7_1), RdS.cells (OS.rd how7_1), BoxAt.cellB hb0_0 eB, g4, eq_self, if_true, if_false, Bool.false_eq_true]
            refine hK _ _ ?_
            clear hK K
            refine den_stop ?_
            refine ⟨?_, rfl⟩
            first | (simp (disch := decide) only [go_sem, g4, eq_self, Bool.true_and, Bool.and_true, Bool.false_and, Bool.and_false, Bool.true_or, Bool.or_true, Bool.false_or, Bool.or_false, if_true, if_false, Bool.false_eq_true]; done) | simp [HasL, sel, puts_at, g4]
        intro en5
        simp (disch := decide) only [go_sem]
        refine den_cond rfl (fun c3 => ?_) (fun c3 => ?_)
        · try simp only [decide_eq_true_eq, decide_eq_false_iff_not, beq_iff_eq, beq_eq_false_iff_ne, bne_iff_ne, ne_eq, Bool.not_eq_true', Bool.not_eq_false', Bool.and_eq_true, Bool.or_eq_true, bne_eq_false_iff_eq] at c3
          refine den_seq ?_
          refine den_region TTok ?_
          intro K hK
          simp -implicitDefEqProofs (disch := first | decide | assumption | omega) only [go_sem, RdS.len hd sl37, RdS.idx hd sl37, R1.intB hd (Ext.pres eB), RdS.cells hd, RdS.len hm sl38, RdS.idx hm sl38, RdS.cellB hm (Ext.pres eB), RdS.cells hm, BoxAt.cellB hb0_0 eB]
          refine hK _ _ ?_
          clear hK K
          refine den_ret ?_
          simp (disch := decide) only [resP_1, puts_same, puts_ne]
          exact absurd c3 (by simp; omega)
        · try simp only [decide_eq_true_eq, decide_eq_false_iff_not, beq_iff_eq, beq_eq_false_iff_ne, bne_iff_ne, ne_eq, Bool.not_eq_true', Bool.not_eq_false', Bool.and_eq_true, Bool.or_eq_true, bne_eq_false_iff_eq] at c3
          refine den_skip ?_
          refine den_seq ?_
          refine den_region TTok ?_
          intro K hK
          simp -implicitDefEqProofs (disch := first | decide | assumption | omega) only [go_sem, RdS.len hd sl37, RdS.idx hd sl37, R1.intB hd (Ext.pres eB), RdS.cells hd, RdS.len hm sl38, RdS.idx hm sl38, RdS.cellB hm (Ext.pres eB), RdS.cells hm, RdS.len (OS.rd how5_2) sl38, RdS.idx (OS.rd how5_2) sl38, RdS.cellN (OS.rd how5_2), RdS.cells (OS.rd how5_2), RdS.len (OS.rd how7_1) sl38, RdS.idx (OS.rd how7_1) sl38, RdS.cellN (OS.rd how7_1), RdS.cells (OS.rd how7_1), BoxAt.cellB hb0_0 eB]
          refine hK _ _ ?_
          clear hK K
          refine den_seq ?_
          refine den_region TTok ?_
          intro K hK
          simp -implicitDefEqProofs (disch := first | decide | assumption | omega) only [go_sem, RdS.len hd sl37, RdS.idx hd sl37, R1.intB hd (Ext.pres eB), RdS.cells hd, RdS.len hm sl38, RdS.idx hm sl38, RdS.cellB hm (Ext.pres eB), RdS.cells hm, RdS.len (OS.rd how5_2) sl38, RdS.idx (OS.rd how5_2) sl38, RdS.cellN (OS.rd how5_2), RdS.cells (OS.rd how5_2), RdS.len (OS.rd how7_1) sl38, RdS.idx (OS.rd how7_1) sl38, RdS.cellN (OS.rd how7_1), RdS.cells (OS.rd how7_1), BoxAt.cellB hb0_0 eB]
          try simp -implicitDefEqProofs (disch := first | decide | assumption | omega) only [go_sem, RdS.len hd sl37, RdS.idx hd sl37, R1.intB hd (Ext.pres eB), RdS.cells hd, RdS.len hm sl38, RdS.idx hm sl38, RdS.cellB hm (Ext.pres eB), RdS.cells hm, RdS.len (OS.rd how5_2) sl38, RdS.idx (OS.rd how5_2) sl38, RdS.cellN (OS.rd how5_2), RdS.cells (OS.rd how5_2), RdS.len (OS.rd how7_1) sl38, RdS.idx (OS.rd how7_1) sl38, RdS.cellN (OS.rd how7_1), RdS.cells (OS.rd how7_1), BoxAt.cellB hb0_0 eB]
          refine CallA.mono (markSSS_ok _ (zmP X).1 1 _ _ how7_1 hfw7_1.nodup (by omega)) ?_
          intro v_ h17_2
          rintro ⟨rfl, hog, cG⟩
          replace how5_2 := OS.chg how5_2 cG (fun b hb hm => by have a1 := hlhow5_2 b hb; have a2 := hfw7_1.ge b hm; omega)
          have := cG.size
          replace eB := Ext.then eB cG (fun b hm => by have a2 := hfw7_1.ge b hm; omega)
          try simp -implicitDefEqProofs (disch := first | decide | assumption | omega) only [go_sem, RdS.len hd sl37, RdS.idx hd sl37, R1.intB hd (Ext.pres eB), RdS.cells hd, RdS.len hm sl38, RdS.idx hm sl38, RdS.cellB hm (Ext.pres eB), RdS.cells hm, RdS.len (OS.rd how5_2) sl38, RdS.idx (OS.rd how5_2) sl38, RdS.cellN (OS.rd how5_2), RdS.cells (OS.rd how5_2), RdS.len (OS.rd hog) sl38, RdS.idx (OS.rd hog) sl38, RdS.cellN (OS.rd hog), RdS.cells (OS.rd hog), BoxAt.cellB hb0_0 eB]
          refine hK _ _ ?_
          clear hK K
          refine den_seq ?_
          refine den_region TTok ?_
          intro K hK
          simp -implicitDefEqProofs (disch := first | decide | assumption | omega) only [go_sem, RdS.len hd sl37, RdS.idx hd sl37, R1.intB hd (Ext.pres eB), RdS.cells hd, RdS.len hm sl38, RdS.idx hm sl38, RdS.cellB hm (Ext.pres eB), RdS.cells hm, RdS.len (OS.rd how5_2) sl38, RdS.idx (OS.rd how5_2) sl38, RdS.cellN (OS.rd how5_2), RdS.cells (OS.rd how5_2), RdS.len (OS.rd hog) sl38, RdS.idx (OS.rd hog) sl38, RdS.cellN (OS.rd hog), RdS.cells (OS.rd hog), BoxAt.cellB hb0_0 eB]
          refine hK _ _ ?_
          clear hK K
          refine den_seq ?_
          refine den_region TTok ?_
          intro K hK
          simp -implicitDefEqProofs (disch := first | decide | assumption | omega) only [go_sem, RdS.len hd sl37, RdS.idx hd sl37, R1.intB hd (Ext.pres eB), RdS.cells hd, RdS.len hm sl38, RdS.idx hm sl38, RdS.cellB hm (Ext.pres eB), RdS.cells hm, RdS.len (OS.rd how5_2) sl38, RdS.idx (OS.rd how5_2) sl38, RdS.cellN (OS.rd how5_2), RdS.cells (OS.rd how5_2), RdS.len (OS.rd hog) sl38, RdS.idx (OS.rd hog) sl38, RdS.cellN (OS.rd hog), RdS.cells (OS.rd hog), BoxAt.cellB hb0_0 eB]
          try simp -implicitDefEqProofs (disch := first | decide | assumption | omega) only [go_sem, RdS.len hd sl37, RdS.idx hd sl37, R1.intB hd (Ext.pres eB), RdS.cells hd, RdS.len hm sl38, RdS.idx hm sl38, RdS.cellB hm (Ext.pres eB), RdS.cells hm, RdS.len (OS.rd how5_2) sl38, RdS.idx (OS.rd how5_2) sl38, RdS.cellN (OS.rd how5_2), RdS.cells (OS.rd how5_2), RdS.len (OS.rd hog) sl38, RdS.idx (OS.rd hog) sl38, RdS.cellN (OS.rd hog), RdS.cells (OS.rd hog), BoxAt.cellB hb0_0 eB]
          refine CallA.pure (heldSSS_ok _ (zmP X).1 1 _ (OS.rd hog) (by omega)) ?_
          try simp -implicitDefEqProofs (disch := first | decide | assumption | omega) only [go_sem, RdS.len hd sl37, RdS.idx hd sl37, R1.intB hd (Ext.pres eB), RdS.cells hd, RdS.len hm sl38, RdS.idx hm sl38, RdS.cellB hm (Ext.pres eB), RdS.cells hm, RdS.len (OS.rd how5_2) sl38, RdS.idx (OS.rd how5_2) sl38, RdS.cellN (OS.rd how5_2), RdS.cells (OS.rd how5_2), RdS.len (OS.rd hog) sl38, RdS.idx (OS.rd hog) sl38, RdS.cellN (OS.rd hog), RdS.cells (OS.rd hog), BoxAt.cellB hb0_0 eB]
          refine hK _ _ ?_
          clear hK K
          refine den_seq ?_
          refine den_seq ?_
          refine den_region TTok ?_
          intro K hK
          simp -implicitDefEqProofs (disch := first | decide | assumption | omega) only [go_sem, RdS.len hd sl37, RdS.idx hd sl37, R1.intB hd (Ext.pres eB), RdS.cells hd, RdS.len hm sl38, RdS.idx hm sl38, RdS.cellB hm (Ext.pres eB), RdS.cells hm, RdS.len (OS.rd how5_2) sl38, RdS.idx (OS.rd how5_2) sl38, RdS.cellN (OS.rd how5_2), RdS.cells (OS.rd how5_2), RdS.len (OS.rd hog) sl38, RdS.idx (OS.rd hog) sl38, RdS.cellN (OS.rd hog), RdS.cells (OS.rd hog), BoxAt.cellB hb0_0 eB]
          refine hK _ _ ?_
          clear hK K
          refine den_cond rfl (fun c4 => ?_) (fun c4 => ?_)
          · try simp only [decide_eq_true_eq, decide_eq_false_iff_not, beq_iff_eq, beq_eq_false_iff_ne, bne_iff_ne, ne_eq, Bool.not_eq_true', Bool.not_eq_false', Bool.and_eq_true, Bool.or_eq_true, bne_eq_false_iff_eq] at c4
            refine den_seq ?_
            refine den_region TTok ?_
            intro K hK
            simp -implicitDefEqProofs (disch := first | decide | assumption | omega) only [go_sem, RdS.len hd sl37, RdS.idx hd sl37, R1.intB hd (Ext.pres eB), RdS.cells hd, RdS.len hm sl38, RdS.idx hm sl38, RdS.cellB hm (Ext.pres eB), RdS.cells hm, BoxAt.cellB hb0_0 eB]
            refine hK _ _ ?_
            clear hK K
            refine den_ret ?_
            simp (disch := decide) only [resP_1, puts_same, puts_ne]
            exact absurd c4 (by omega)
          · try simp only [decide_eq_true_eq, decide_eq_false_iff_not, beq_iff_eq, beq_eq_false_iff_ne, bne_iff_ne, ne_eq, Bool.not_eq_true', Bool.not_eq_false', Bool.and_eq_true, Bool.or_eq_true, bne_eq_false_iff_eq] at c4
            refine den_skip ?_
            refine den_seq ?_
            refine den_seq ?_
            refine den_region TTok ?_
            intro K hK
            simp -implicitDefEqProofs (disch := first | decide | assumption | omega) only [go_sem, RdS.len hd sl37, RdS.idx hd sl37, R1.intB hd (Ext.pres eB), RdS.cells hd, RdS.len hm sl38, RdS.idx hm sl38, RdS.cellB hm (Ext.pres eB), RdS.cells hm, RdS.len (OS.rd how5_2) sl38, RdS.idx (OS.rd how5_2) sl38, RdS.cellN (OS.rd how5_2), RdS.cells (OS.rd how5_2), RdS.len (OS.rd hog) sl38, RdS.idx (OS.rd hog) sl38, RdS.cellN (OS.rd hog), RdS.cells (OS.rd hog), BoxAt.cellB hb0_0 eB]
            refine hK _ _ ?_
            clear hK K
            refine den_cond rfl (fun c5 => ?_) (fun c5 => ?_)
            · try simp only [decide_eq_true_eq, decide_eq_false_iff_not, beq_iff_eq, beq_eq_false_iff_ne, bne_iff_ne, ne_eq, Bool.not_eq_true', Bool.not_eq_false', Bool.and_eq_true, Bool.or_eq_true, bne_eq_false_iff_eq] at c5
              refine den_seq ?_
              refine den_region TTok ?_
              intro K hK
              simp -implicitDefEqProofs (disch := first | decide | assumption | omega) only [go_sem, RdS.len hd sl37, RdS.idx hd sl37, R1.intB hd (Ext.pres eB), RdS.cells hd, RdS.len hm sl38, RdS.idx hm sl38, RdS.cellB hm (Ext.pres eB), RdS.cells hm, BoxAt.cellB hb0_0 eB]
              refine hK _ _ ?_
              clear hK K
              refine den_ret ?_
              simp (disch := decide) only [resP_1, puts_same, puts_ne]
              exact absurd c5 (by simp)
            · try simp only [decide_eq_true_eq, decide_eq_false_iff_not, beq_iff_eq, beq_eq_false_iff_ne, bne_iff_ne, ne_eq, Bool.not_eq_true', Bool.not_eq_false', Bool.and_eq_true, Bool.or_eq_true, bne_eq_false_iff_eq] at c5
              refine den_skip ?_
              refine den_seq ?_
              refine den_region TTok ?_
              intro K hK
              simp -implicitDefEqProofs (disch := first | decide | assumption | omega) only [go_sem, ld40, RdS.len hd sl37, RdS.idx hd sl37, R1.intB hd (Ext.pres eB), RdS.cells hd, RdS.len hm sl38, RdS.idx hm sl38, RdS.cellB hm (Ext.pres eB), RdS.cells hm, RdS.len (OS.rd how5_2) sl38, RdS.idx (OS.rd how5_2) sl38, RdS.cellN (OS.rd how5_2), RdS.cells (OS.rd how5_2), RdS.len (OS.rd hog) sl38, RdS.idx (OS.rd hog) sl38, RdS.cellN (OS.rd hog), RdS.cells (OS.rd hog), BoxAt.cellB hb0_0 eB]
              try simp -implicitDefEqProofs (disch := first | decide | assumption | omega) only [go_sem, RdS.len hd sl37, RdS.idx hd sl37, R1.intB hd (Ext.pres eB), RdS.cells hd, RdS.len hm sl38, RdS.idx hm sl38, RdS.cellB hm (Ext.pres eB), RdS.cells hm, RdS.len (OS.rd how5_2) sl38, RdS.idx (OS.rd how5_2) sl38, RdS.cellN (OS.rd how5_2), RdS.cells (OS.rd how5_2), RdS.len (OS.rd hog) sl38, RdS.idx (OS.rd hog) sl38, RdS.cellN (OS.rd hog), RdS.cells (OS.rd hog), BoxAt.cellB hb0_0 eB]
              refine CallA.mono (toC_ok _ X _ ⟨_, _, rfl, (RdS.pres hd (Ext.pres eB)), (RdS.pres hm (Ext.pres eB))⟩ hMX) ?_
              intro v_ h24_1
              rintro ⟨vd24_1, vm24_1, fd24_1, fm24_1, rfl, hod24_1, hom24_1, hf24_1, e24_1⟩
              replace how5_2 := OS.ext how5_2 e24_1
              replace hog := OS.ext hog e24_1
              have := Ext.size e24_1
              replace eB := Ext.trans eB e24_1
              have hfd24_1 := hf24_1.left
              have hfm24_1 := hf24_1.right
              have hlhod24_1 := OS.lt hod24_1
              have hlhom24_1 := OS.lt hom24_1
              try simp -implicitDefEqProofs (disch := first | decide | assumption | omega) only [go_sem, RdS.len hd sl37, RdS.idx hd sl37, R1.intB hd (Ext.pres eB), RdS.cells hd, RdS.len hm sl38, RdS.idx hm sl38, RdS.cellB hm (Ext.pres eB), RdS.cells hm, RdS.len (OS.rd how5_2) sl38, RdS.idx (OS.rd how5_2) sl38, RdS.cellN (OS.rd how5_2), RdS.cells (OS.rd how5_2), RdS.len (OS.rd hog) sl38, RdS.idx (OS.rd hog) sl38, RdS.cellN (OS.rd hog), RdS.cells (OS.rd hog), RdS.len (OS.rd hod24_1) sl37, RdS.idx (OS.rd hod24_1) sl37, R1.intN (OS.rd hod24_1), RdS.cells (OS.rd hod24_1), RdS.len (OS.rd hom24_1) sl38, RdS.idx (OS.rd hom24_1) sl38, RdS.cellN (OS.rd hom24_1), RdS.cells (OS.rd hom24_1), BoxAt.cellB hb0_0 eB]
              try simp -implicitDefEqProofs (disch := first | decide | assumption | omega) only [go_sem, RdS.len hd sl37, RdS.idx hd sl37, R1.intB hd (Ext.pres eB), RdS.cells hd, RdS.len hm sl38, RdS.idx hm sl38, RdS.cellB hm (Ext.pres eB), RdS.cells hm, RdS.len (OS.rd how5_2) sl38, RdS.idx (OS.rd how5_2) sl38, RdS.cellN (OS.rd how5_2), RdS.cells (OS.rd how5_2), RdS.len (OS.rd hog) sl38, RdS.idx (OS.rd hog) sl38, RdS.cellN (OS.rd hog), RdS.cells (OS.rd hog), RdS.len (OS.rd hod24_1) sl37, RdS.idx (OS.rd hod24_1) sl37, R1.intN (OS.rd hod24_1), RdS.cells (OS.rd hod24_1), RdS.len (OS.rd hom24_1) sl38, RdS.idx (OS.rd hom24_1) sl38, RdS.cellN (OS.rd hom24_1), RdS.cells (OS.rd hom24_1), BoxAt.cellB hb0_0 eB]
              refine CallA.mono (iZero_ok _ X _ ⟨_, _, rfl, (OS.rd hod24_1), (OS.rd hom24_1)⟩) ?_
              intro v_ h24_2
              rintro ⟨vw24_2, fw24_2, rfl, how24_2, hfw24_2, e24_2⟩
              replace how5_2 := OS.ext how5_2 e24_2
              replace hog := OS.ext hog e24_2
              replace hod24_1 := OS.ext hod24_1 e24_2
              replace hom24_1 := OS.ext hom24_1 e24_2
              have := Ext.size e24_2
              replace eB := Ext.trans eB e24_2
              have hlhow24_2 := OS.lt how24_2
              try simp -implicitDefEqProofs (disch := first | decide | assumption | omega) only [go_sem, RdS.len hd sl37, RdS.idx hd sl37, R1.intB hd (Ext.pres eB), RdS.cells hd, RdS.len hm sl38, RdS.idx hm sl38, RdS.cellB hm (Ext.pres eB), RdS.cells hm, RdS.len (OS.rd how5_2) sl38, RdS.idx (OS.rd how5_2) sl38, RdS.cellN (OS.rd how5_2), RdS.cells (OS.rd how5_2), RdS.len (OS.rd hog) sl38, RdS.idx (OS.rd hog) sl38, RdS.cellN (OS.rd hog), RdS.cells (OS.rd hog), RdS.len (OS.rd hod24_1) sl37, RdS.idx (OS.rd hod24_1) sl37, R1.intN (OS.rd hod24_1), RdS.cells (OS.rd hod24_1), RdS.len (OS.rd hom24_1) sl38, RdS.idx (OS.rd hom24_1) sl38, RdS.cellN (OS.rd hom24_1), RdS.cells (OS.rd hom24_1), RdS.len (OS.rd how24_2) sl38, RdS.idx (OS.rd how24_2) sl38, RdS.cellN (OS.rd how24_2), RdS.cells (OS.rd how24_2), BoxAt.cellB hb0_0 eB]
              refine hK _ _ ?_
              clear hK K
              refine den_seq ?_
              refine den_seq ?_
              refine den_mergeH [(87, .bool (((!(true)) || (((zmP X).2) != ((zmP X).2)))))] [7, 10] ?_ ?_
                -- a way
              · refine den_region TTok ?_
                intro K hK
                simp -implicitDefEqProofs (disch := first | decide | assumption | (simp (disch := decide) only [slotOf_zero, slotOf_succ, Option.map_some, puts_same, puts_ne, gv_bool, gv_undef, tt, tf, ft, ff, eq_self, if_true, if_false, Bool.false_eq_true, Bool.not_true, Bool.not_false]; done) | omega) only [go_sem, RdS.len hd sl37, RdS.idx hd sl37, R1.intB hd (Ext.pres eB), RdS.cells hd, RdS.len hm sl38, RdS.idx hm sl38, RdS.cellB hm (Ext.pres eB), RdS.cells hm, RdS.len (OS.rd how5_2) sl38, RdS.idx (OS.rd how5_2) sl38, RdS.cellN (OS.rd how5_2), RdS.cells (OS.rd how5_2), RdS.len (OS.rd hog) sl38, RdS.idx (OS.rd hog) sl38, RdS.cellN (OS.rd hog), RdS.cells (OS.rd hog), RdS.len (OS.rd how24_2) sl38, RdS.idx (OS.rd how24_2) sl38, RdS.cellN (OS.rd how24_2), RdS.cells (OS.rd how24_2), BoxAt.cellB hb0_0 eB]
                try simp -implicitDefEqProofs (disch := first | decide | assumption | omega) only [go_sem, RdS.len hd sl37, RdS.idx hd sl37, R1.intB hd (Ext.pres eB), RdS.cells hd, RdS.len hm sl38, RdS.idx hm sl38, RdS.cellB hm (Ext.pres eB), RdS.cells hm, RdS.len (OS.rd how5_2) sl38, RdS.idx (OS.rd how5_2) sl38, RdS.cellN (OS.rd how5_2), RdS.cells (OS.rd how5_2), RdS.len (OS.rd hog) sl38, RdS.idx (OS.rd hog) sl38, RdS.cellN (OS.rd hog), RdS.cells (OS.rd hog), RdS.len (OS.rd how24_2) sl38, RdS.idx (OS.rd how24_2) sl38, RdS.cellN (OS.rd how24_2), RdS.cells (OS.rd how24_2), BoxAt.cellB hb0_0 eB]
                refine CallA.pure (eqSSS_self _ _ _ _ (OS.rd how24_2) (OS.rd how5_2)) ?_
                try simp -implicitDefEqProofs (disch := first | decide | assumption | (simp (disch := decide) only [slotOf_zero, slotOf_succ, Option.map_some, puts_same, puts_ne, gv_bool, gv_undef, tt, tf, ft, ff, eq_self, if_true, if_false, Bool.false_eq_true, Bool.not_true, Bool.not_false]; done) | omega) only [go_sem, RdS.len hd sl37, RdS.idx hd sl37, R1.intB hd (Ext.pres eB), RdS.cells hd, RdS.len hm sl38, RdS.idx hm sl38, RdS.cellB hm (Ext.pres eB), RdS.cells hm, RdS.len (OS.rd how5_2) sl38, RdS.idx (OS.rd how5_2) sl38, RdS.cellN (OS.rd how5_2), RdS.cells (OS.rd how5_2), RdS.len (OS.rd hog) sl38, RdS.idx (OS.rd hog) sl38, RdS.cellN (OS.rd hog), RdS.cells (OS.rd hog), RdS.len (OS.rd how24_2) sl38, RdS.idx (OS.rd how24_2) sl38, RdS.cellN (OS.rd how24_2), RdS.cells (OS.rd how24_2), BoxAt.cellB hb0_0 eB]
                try simp -implicitDefEqProofs (disch := first | decide | assumption | (simp (disch := decide) only [slotOf_zero, slotOf_succ, Option.map_some, puts_same, puts_ne, gv_bool, gv_undef, tt, tf, ft, ff, eq_self, if_true, if_false, Bool.false_eq_true, Bool.not_true, Bool.not_false]; done) | omega) only [go_sem, RdS.len hd sl37, RdS.idx hd sl37, R1.intB hd (Ext.pres eB), RdS.cells hd, RdS.len hm sl38, RdS.idx hm sl38, RdS.cellB hm (Ext.pres eB), RdS.cells hm, RdS.len (OS.rd how5_2) sl38, RdS.idx (OS.rd how5_2) sl38, RdS.cellN (OS.rd how5_2), RdS.cells (OS.rd how5_2), RdS.len (OS.rd hog) sl38, RdS.idx (OS.rd hog) sl38, RdS.cellN (OS.rd hog), RdS.cells (OS.rd hog), RdS.len (OS.rd how24_2) sl38, RdS.idx (OS.rd how24_2) sl38, RdS.cellN (OS.rd how24_2), RdS.cells (OS.rd how24_2), BoxAt.cellB hb0_0 eB]
                refine hK _ _ ?_
                clear hK K
                refine den_stop ?_
                refine ⟨?_, rfl⟩
                first | (simp (disch := decide) only [go_sem, eq_self, Bool.true_and, Bool.and_true, Bool.false_and, Bool.and_false, Bool.true_or, Bool.or_true, Bool.false_or, Bool.or_false, if_true, if_false, Bool.false_eq_true]; done) | simp [HasL, sel, puts_at]
              intro en8
              simp (disch := decide) only [go_sem]
              refine den_cond rfl (fun c6 => ?_) (fun c6 => ?_)
              · try simp only [decide_eq_true_eq, decide_eq_false_iff_not, beq_iff_eq, beq_eq_false_iff_ne, bne_iff_ne, ne_eq, Bool.not_eq_true', Bool.not_eq_false', Bool.and_eq_true, Bool.or_eq_true, bne_eq_false_iff_eq] at c6
                refine den_seq ?_
                refine den_region TTok ?_
                intro K hK
                simp -implicitDefEqProofs (disch := first | decide | assumption | omega) only [go_sem, RdS.len hd sl37, RdS.idx hd sl37, R1.intB hd (Ext.pres eB), RdS.cells hd, RdS.len hm sl38, RdS.idx hm sl38, RdS.cellB hm (Ext.pres eB), RdS.cells hm, BoxAt.cellB hb0_0 eB]
                refine hK _ _ ?_
                clear hK K
                refine den_ret ?_
                simp (disch := decide) only [resP_1, puts_same, puts_ne]
                exact absurd c6 (by simp)
              · try simp only [decide_eq_true_eq, decide_eq_false_iff_not, beq_iff_eq, beq_eq_false_iff_ne, bne_iff_ne, ne_eq, Bool.not_eq_true', Bool.not_eq_false', Bool.and_eq_true, Bool.or_eq_true, bne_eq_false_iff_eq] at c6
                refine den_skip ?_
                refine den_seq ?_
                refine den_region TTok ?_
                intro K hK
                simp -implicitDefEqProofs (disch := first | decide | assumption | omega) only [go_sem, RdS.len hd sl37, RdS.idx hd sl37, R1.intB hd (Ext.pres eB), RdS.cells hd, RdS.len hm sl38, RdS.idx hm sl38, RdS.cellB hm (Ext.pres eB), RdS.cells hm, RdS.len (OS.rd hog) sl38, RdS.idx (OS.rd hog) sl38, RdS.cellN (OS.rd hog), RdS.cells (OS.rd hog), BoxAt.cellB hb0_0 eB]
                refine hK _ _ ?_
                clear hK K
                refine den_seq ?_
                refine den_region TTok ?_
                intro K hK
                simp -implicitDefEqProofs (disch := first | decide | assumption | omega) only [go_sem, RdS.len hd sl37, RdS.idx hd sl37, R1.intB hd (Ext.pres eB), RdS.cells hd, RdS.len hm sl38, RdS.idx hm sl38, RdS.cellB hm (Ext.pres eB), RdS.cells hm, RdS.len (OS.rd hog) sl38, RdS.idx (OS.rd hog) sl38, RdS.cellN (OS.rd hog), RdS.cells (OS.rd hog), BoxAt.cellB hb0_0 eB]
                try simp -implicitDefEqProofs (disch := first | decide | assumption | omega) only [go_sem, RdS.len hd sl37, RdS.idx hd sl37, R1.intB hd (Ext.pres eB), RdS.cells hd, RdS.len hm sl38, RdS.idx hm sl38, RdS.cellB hm (Ext.pres eB), RdS.cells hm, RdS.len (OS.rd hog) sl38, RdS.idx (OS.rd hog) sl38, RdS.cellN (OS.rd hog), RdS.cells (OS.rd hog), BoxAt.cellB hb0_0 eB]
                refine CallA.pure (heldSSS_ok _ (zmP X).1 1 _ (OS.rd hog) (by omega)) ?_
                try simp -implicitDefEqProofs (disch := first | decide | assumption | omega) only [go_sem, RdS.len hd sl37, RdS.idx hd sl37, R1.intB hd (Ext.pres eB), RdS.cells hd, RdS.len hm sl38, RdS.idx hm sl38, RdS.cellB hm (Ext.pres eB), RdS.cells hm, RdS.len (OS.rd hog) sl38, RdS.idx (OS.rd hog) sl38, RdS.cellN (OS.rd hog), RdS.cells (OS.rd hog), BoxAt.cellB hb0_0 eB]
                refine hK _ _ ?_
                clear hK K
                refine den_seq ?_
                refine den_seq ?_
                refine den_region TTok ?_
                intro K hK
                simp -implicitDefEqProofs (disch := first | decide | assumption | omega) only [go_sem, RdS.len hd sl37, RdS.idx hd sl37, R1.intB hd (Ext.pres eB), RdS.cells hd, RdS.len hm sl38, RdS.idx hm sl38, RdS.cellB hm (Ext.pres eB), RdS.cells hm, BoxAt.cellB hb0_0 eB]
                refine hK _ _ ?_
                clear hK K
                refine den_cond rfl (fun c7 => ?_) (fun c7 => ?_)
                · try simp only [decide_eq_true_eq, decide_eq_false_iff_not, beq_iff_eq, beq_eq_false_iff_ne, bne_iff_ne, ne_eq, Bool.not_eq_true', Bool.not_eq_false', Bool.and_eq_true, Bool.or_eq_true, bne_eq_false_iff_eq] at c7
                  refine den_seq ?_
                  refine den_region TTok ?_
                  intro K hK
                  simp -implicitDefEqProofs (disch := first | decide | assumption | omega) only [go_sem, RdS.len hd sl37, RdS.idx hd sl37, R1.intB hd (Ext.pres eB), RdS.cells hd, RdS.len hm sl38, RdS.idx hm sl38, RdS.cellB hm (Ext.pres eB), RdS.cells hm, BoxAt.cellB hb0_0 eB]
                  refine hK _ _ ?_
                  clear hK K
                  refine den_ret ?_
                  simp (disch := decide) only [resP_1, puts_same, puts_ne]
                  exact absurd c7 (by omega)
                · try simp only [decide_eq_true_eq, decide_eq_false_iff_not, beq_iff_eq, beq_eq_false_iff_ne, bne_iff_ne, ne_eq, Bool.not_eq_true', Bool.not_eq_false', Bool.and_eq_true, Bool.or_eq_true, bne_eq_false_iff_eq] at c7
                  refine den_skip ?_
                  refine den_seq ?_
                  refine den_seq ?_
                  refine den_region TTok ?_
                  intro K hK
                  simp -implicitDefEqProofs (disch := first | decide | assumption | omega) only [go_sem, RdS.len hd sl37, RdS.idx hd sl37, R1.intB hd (Ext.pres eB), RdS.cells hd, RdS.len hm sl38, RdS.idx hm sl38, RdS.cellB hm (Ext.pres eB), RdS.cells hm, BoxAt.cellB hb0_0 eB]
                  refine hK _ _ ?_
                  clear hK K
                  refine den_cond rfl (fun c8 => ?_) (fun c8 => ?_)
                  · try simp only [decide_eq_true_eq, decide_eq_false_iff_not, beq_iff_eq, beq_eq_false_iff_ne, bne_iff_ne, ne_eq, Bool.not_eq_true', Bool.not_eq_false', Bool.and_eq_true, Bool.or_eq_true, bne_eq_false_iff_eq] at c8
                    refine den_seq ?_
                    refine den_region TTok ?_
                    intro K hK
                    simp -implicitDefEqProofs (disch := first | decide | assumption | omega) only [go_sem, RdS.len hd sl37, RdS.idx hd sl37, R1.intB hd (Ext.pres eB), RdS.cells hd, RdS.len hm sl38, RdS.idx hm sl38, RdS.cellB hm (Ext.pres eB), RdS.cells hm, BoxAt.cellB hb0_0 eB]
                    refine hK _ _ ?_
                    clear hK K
                    refine den_ret ?_
                    simp (disch := decide) only [resP_1, puts_same, puts_ne]
                    exact absurd c8 (by simp)
                  · try simp only [decide_eq_true_eq, decide_eq_false_iff_not, beq_iff_eq, beq_eq_false_iff_ne, bne_iff_ne, ne_eq, Bool.not_eq_true', Bool.not_eq_false', Bool.and_eq_true, Bool.or_eq_true, bne_eq_false_iff_eq] at c8
                    refine den_skip ?_
                    refine den_seq ?_
                    refine den_region TTok ?_
                    intro K hK
                    simp -implicitDefEqProofs (disch := first | decide | assumption | omega) only [go_sem, RdS.len hd sl37, RdS.idx hd sl37, R1.intB hd (Ext.pres eB), RdS.cells hd, RdS.len hm sl38, RdS.idx hm sl38, RdS.cellB hm (Ext.pres eB), RdS.cells hm, BoxAt.cellB hb0_0 eB]
                    refine hK _ _ ?_
                    clear hK K
                    refine den_ret ?_
                    simp (disch := decide) only [resP_1, puts_same, puts_ne]
                    exact ⟨by first | rfl | trivial, (Ext.trans e0_0 eB)⟩

end Go.Proofs.Ytkkjhomhndpphaa
