/-
  Walks: the statement's function.
  Conditions: each theorem's own.
-/
import Derived.Test.YtkkjhomhndpphaaS13
set_option linter.unusedVariables false
set_option linter.unusedSimpArgs false
namespace Go.Proofs.Ytkkjhomhndpphaa
open Go
theorem szI_ok {xs : List Int} {l : Int} (hl : l ≤ 1048576) (h : ¬ szI xs l < 0) : HM1 xs := by
  unfold szI at h
  unfold HM1
  split at h <;> omega
theorem szRows_ok {α : Type} {f : α → Int → Int} {P : α → Prop} (hle : ∀ x l, 0 ≤ l → -1 ≤ f x l ∧ f x l ≤ l) (hP : ∀ x l, 0 ≤ l → l ≤ 1048576 → ¬ f x l < 0 → P x) : ∀ (r : List α) (l : Int), 0 ≤ l → l ≤ 1048576 → ¬ szRows f r l < 0 → ∀ x ∈ r, P x
  | [], _, _, _, _, x, hx => by cases hx
  | y :: r, l, h0, h1, h, x, hx => by
    unfold szRows at h
    split at h
    · omega
    · rename_i hc
      have := hle y l h0
      rcases List.mem_cons.1 hx with rfl | hx
      · exact hP _ l h0 h1 hc
      · exact szRows_ok hle hP r (f y l) (by omega) (by omega) h x hx
theorem szL_ok {α : Type} {f : α → Int → Int} {P : α → Prop} (hle : ∀ x l, 0 ≤ l → -1 ≤ f x l ∧ f x l ≤ l) (hP : ∀ x l, 0 ≤ l → l ≤ 1048576 → ¬ f x l < 0 → P x) {r : List α} {l : Int} (h1 : l ≤ 1048576) (h : ¬ szL f r l < 0) : (r.length : Int) ≤ 1048576 ∧ ∀ x ∈ r, P x := by
  unfold szL at h
  split at h
  · omega
  · exact ⟨by omega, szRows_ok hle hP r _ (by omega) (by omega) h⟩
theorem sz2_ok {r : List (List Int)} {l : Int} (h0 : 0 ≤ l) (h1 : l ≤ 1048576) (h : ¬ sz2 r l < 0) : HM2 r := szL_ok szI_le (fun x l _ h1 h => szI_ok h1 h) h1 h
theorem sz3_ok {r : List (List (List Int))} {l : Int} (h0 : 0 ≤ l) (h1 : l ≤ 1048576) (h : ¬ sz3 r l < 0) : HM3 r := szL_ok sz2_le (fun x l h0 h1 h => sz2_ok h0 h1 h) h1 h
theorem szC_ok' {X : Cx} {l : Int} (h0 : 0 ≤ l) (h1 : l ≤ 1048576) (h : ¬ szC X l < 0) : HMC X := by
  unfold szC at h
  have hle := szI_le X.dims l h0
  split at h
  · omega
  · rename_i hc
    split at h
    · omega
    · rename_i hc2
      exact ⟨szI_ok h1 hc, sz3_ok (by omega) (by omega) hc2⟩
theorem Fresh.left {lo : Nat} {f1 f2 : List Nat} (h : Fresh lo (f1 ++ f2)) : Fresh lo f1 := ⟨(List.nodup_append.1 h.nodup).1, fun b hb => h.ge b (List.mem_append_left _ hb)⟩
theorem Fresh.right {lo : Nat} {f1 f2 : List Nat} (h : Fresh lo (f1 ++ f2)) : Fresh lo f2 := ⟨(List.nodup_append.1 h.nodup).2.1, fun b hb => h.ge b (List.mem_append_right _ hb)⟩

set_option maxRecDepth 100000 in
theorem placeOfPair_ok (vx vy : Value) (X Y : Cx) (i a j b : Int) (h : Heap) (hx : RC h vx X) (hy : RC h vy Y) : CallA Try.prog 4 #[vx, vy, .int .i64 i, .int .i64 a, .int .i64 j, .int .i64 b] h fun v' h' => v' = .bool true ∧ Ext h h' := by
  obtain ⟨vd, vm, rfl, hd, hm⟩ := hx
  obtain ⟨vdy, vmy, rfl, hdy, hmy⟩ := hy
  refine callA_intro TTok (args := [_, _, _, _, _, _]) Try.func4 (by kernel_rfl) rfl 74 rfl (by simp) [.tmp 12] rfl ?_
  simp only [idxs, Nat.reduceAdd]
  refine den_seq ?_
  refine den_region TTok ?_
  intro K hK
  simp -implicitDefEqProofs (disch := first | decide | assumption | omega) only [go_sem, RdS.len hd sl37, RdS.idx hd sl37, R1.intB hd (HPres.refl _), RdS.cells hd, RdS.len hm sl38, RdS.idx hm sl38, RdS.cellB hm (HPres.refl _), RdS.cells hm, RdS.len hdy sl37, RdS.idx hdy sl37, R1.intB hdy (HPres.refl _), RdS.cells hdy, RdS.len hmy sl38, RdS.idx hmy sl38, RdS.cellB hmy (HPres.refl _), RdS.cells hmy]
  refine op_box (cs := #[.int .i64 (X.p), vd, vm]) rfl ?_
  intro h0_0 e0_0 hb0_0 z0_0
  replace hd := RdS.pres hd (Ext.pres e0_0)
  replace hm := RdS.pres hm (Ext.pres e0_0)
  replace hdy := RdS.pres hdy (Ext.pres e0_0)
  replace hmy := RdS.pres hmy (Ext.pres e0_0)
  try simp -implicitDefEqProofs (disch := first | decide | assumption | omega) only [go_sem, RdS.len hd sl37, RdS.idx hd sl37, R1.intB hd (HPres.refl _), RdS.cells hd, RdS.len hm sl38, RdS.idx hm sl38, RdS.cellB hm (HPres.refl _), RdS.cells hm, RdS.len hdy sl37, RdS.idx hdy sl37, R1.intB hdy (HPres.refl _), RdS.cells hdy, RdS.len hmy sl38, RdS.idx hmy sl38, RdS.cellB hmy (HPres.refl _), RdS.cells hmy, BoxAt.cell hb0_0]
  refine op_box (cs := #[.int .i64 (Y.p), vdy, vmy]) rfl ?_
  intro h0_1 e0_1 hb0_1 z0_1
  replace hd := RdS.pres hd (Ext.pres e0_1)
  replace hm := RdS.pres hm (Ext.pres e0_1)
  replace hdy := RdS.pres hdy (Ext.pres e0_1)
  replace hmy := RdS.pres hmy (Ext.pres e0_1)
  replace hb0_0 := BoxAt.ext hb0_0 e0_1
  try simp -implicitDefEqProofs (disch := first | decide | assumption | omega) only [go_sem, RdS.len hd sl37, RdS.idx hd sl37, R1.intB hd (HPres.refl _), RdS.cells hd, RdS.len hm sl38, RdS.idx hm sl38, RdS.cellB hm (HPres.refl _), RdS.cells hm, RdS.len hdy sl37, RdS.idx hdy sl37, R1.intB hdy (HPres.refl _), RdS.cells hdy, RdS.len hmy sl38, RdS.idx hmy sl38, RdS.cellB hmy (HPres.refl _), RdS.cells hmy, BoxAt.cell hb0_0, BoxAt.cell hb0_1]
  refine hK _ _ ?_
  clear hK K
  refine den_seq ?_
  refine den_region TTok ?_
  intro K hK
  simp -implicitDefEqProofs (disch := first | decide | assumption | omega) only [go_sem, RdS.len hd sl37, RdS.idx hd sl37, R1.intB hd (HPres.refl _), RdS.cells hd, RdS.len hm sl38, RdS.idx hm sl38, RdS.cellB hm (HPres.refl _), RdS.cells hm, RdS.len hdy sl37, RdS.idx hdy sl37, R1.intB hdy (HPres.refl _), RdS.cells hdy, RdS.len hmy sl38, RdS.idx hmy sl38, RdS.cellB hmy (HPres.refl _), RdS.cells hmy, BoxAt.cell hb0_0, BoxAt.cell hb0_1]
  refine hK _ _ ?_
  clear hK K
  refine den_seq ?_
  refine den_region TTok ?_
  intro K hK
  simp -implicitDefEqProofs (disch := first | decide | assumption | omega) only [go_sem, ld40, RdS.len hd sl37, RdS.idx hd sl37, R1.intB hd (HPres.refl _), RdS.cells hd, RdS.len hm sl38, RdS.idx hm sl38, RdS.cellB hm (HPres.refl _), RdS.cells hm, RdS.len hdy sl37, RdS.idx hdy sl37, R1.intB hdy (HPres.refl _), RdS.cells hdy, RdS.len hmy sl38, RdS.idx hmy sl38, RdS.cellB hmy (HPres.refl _), RdS.cells hmy, BoxAt.cell hb0_0, BoxAt.cell hb0_1]
  try simp -implicitDefEqProofs (disch := first | decide | assumption | omega) only [go_sem, RdS.len hd sl37, RdS.idx hd sl37, R1.intB hd (HPres.refl _), RdS.cells hd, RdS.len hm sl38, RdS.idx hm sl38, RdS.cellB hm (HPres.refl _), RdS.cells hm, RdS.len hdy sl37, RdS.idx hdy sl37, R1.intB hdy (HPres.refl _), RdS.cells hdy, RdS.len hmy sl38, RdS.idx hmy sl38, RdS.cellB hmy (HPres.refl _), RdS.cells hmy, BoxAt.cell hb0_0, BoxAt.cell hb0_1]
  refine CallA.mono (szC_ok _ X _ _ ⟨_, _, rfl, hd, hm⟩ (by omega) (by omega)) ?_
  intro v_ h2_2
  rintro ⟨rfl, e2_2⟩
  have := Ext.size e2_2
  have eB := e2_2
  have := szC_le X (1048576 : Int) (by omega)
  try simp -implicitDefEqProofs (disch := first | decide | assumption | omega) only [go_sem, RdS.len hd sl37, RdS.idx hd sl37, R1.intB hd (Ext.pres eB), RdS.cells hd, RdS.len hm sl38, RdS.idx hm sl38, RdS.cellB hm (Ext.pres eB), RdS.cells hm, RdS.len hdy sl37, RdS.idx hdy sl37, R1.intB hdy (Ext.pres eB), RdS.cells hdy, RdS.len hmy sl38, RdS.idx hmy sl38, RdS.cellB hmy (Ext.pres eB), RdS.cells hmy, BoxAt.cellB hb0_0 eB, BoxAt.cellB hb0_1 eB]
  refine hK _ _ ?_
  clear hK K
  refine den_seq ?_
  refine den_seq ?_
  refine den_region TTok ?_
  intro K hK
  simp -implicitDefEqProofs (disch := first | decide | assumption | omega) only [go_sem, RdS.len hd sl37, RdS.idx hd sl37, R1.intB hd (Ext.pres eB), RdS.cells hd, RdS.len hm sl38, RdS.idx hm sl38, RdS.cellB hm (Ext.pres eB), RdS.cells hm, RdS.len hdy sl37, RdS.idx hdy sl37, R1.intB hdy (Ext.pres eB), RdS.cells hdy, RdS.len hmy sl38, RdS.idx hmy sl38, RdS.cellB hmy (Ext.pres eB), RdS.cells hmy, BoxAt.cellB hb0_0 eB, BoxAt.cellB hb0_1 eB]
  refine hK _ _ ?_
  clear hK K
  refine den_cond rfl (fun c0 => ?_) (fun c0 => ?_)
  · try simp only [decide_eq_true_eq, decide_eq_false_iff_not, beq_iff_eq, beq_eq_false_iff_ne, bne_iff_ne, ne_eq, Bool.not_eq_true', Bool.not_eq_false', Bool.and_eq_true, Bool.or_eq_true, bne_eq_false_iff_eq] at c0
    refine den_seq ?_
    refine den_region TTok ?_
    intro K hK
    simp -implicitDefEqProofs (disch := first | decide | assumption | omega) only [go_sem, RdS.len hd sl37, RdS.idx hd sl37, R1.intB hd (Ext.pres eB), RdS.cells hd, RdS.len hm sl38, RdS.idx hm sl38, RdS.cellB hm (Ext.pres eB), RdS.cells hm, RdS.len hdy sl37, RdS.idx hdy sl37, R1.intB hdy (Ext.pres eB), RdS.cells hdy, RdS.len hmy sl38, RdS.idx hmy sl38, RdS.cellB hmy (Ext.pres eB), RdS.cells hmy, BoxAt.cellB hb0_0 eB, BoxAt.cellB hb0_1 eB]
    refine hK _ _ ?_
    clear hK K
    refine den_ret ?_
    simp (disch := decide) only [resP_1, puts_same, puts_ne]
    exact ⟨by first | rfl | trivial, (Ext.trans (Ext.trans e0_0 e0_1) eB)⟩
  · try simp only [decide_eq_true_eq, decide_eq_false_iff_not, beq_iff_eq, beq_eq_false_iff_ne, bne_iff_ne, ne_eq, Bool.not_eq_true', Bool.not_eq_false', Bool.and_eq_true, Bool.or_eq_true, bne_eq_false_iff_eq] at c0
    refine den_skip ?_
    refine den_seq ?_
    have hMX := szC_ok' (by omega) (by omega) c0
    refine den_region TTok ?_
    intro K hK
    simp -implicitDefEqProofs (disch := first | decide | assumption | omega) only [go_sem, ld40, RdS.len hd sl37, RdS.idx hd sl37, R1.intB hd (Ext.pres eB), RdS.cells hd, RdS.len hm sl38, RdS.idx hm sl38, RdS.cellB hm (Ext.pres eB), RdS.cells hm, RdS.len hdy sl37, RdS.idx hdy sl37, R1.intB hdy (Ext.pres eB), RdS.cells hdy, RdS.len hmy sl38, RdS.idx hmy sl38, RdS.cellB hmy (Ext.pres eB), RdS.cells hmy, BoxAt.cellB hb0_0 eB, BoxAt.cellB hb0_1 eB]
    try simp -implicitDefEqProofs (disch := first | decide | assumption | omega) only [go_sem, RdS.len hd sl37, RdS.idx hd sl37, R1.intB hd (Ext.pres eB), RdS.cells hd, RdS.len hm sl38, RdS.idx hm sl38, RdS.cellB hm (Ext.pres eB), RdS.cells hm, RdS.len hdy sl37, RdS.idx hdy sl37, R1.intB hdy (Ext.pres eB), RdS.cells hdy, RdS.len hmy sl38, RdS.idx hmy sl38, RdS.cellB hmy (Ext.pres eB), RdS.cells hmy, BoxAt.cellB hb0_0 eB, BoxAt.cellB hb0_1 eB]
    refine CallA.mono (szC_ok _ Y _ _ ⟨_, _, rfl, (RdS.pres hdy (Ext.pres eB)), (RdS.pres hmy (Ext.pres eB))⟩ (by omega) (by omega)) ?_
    intro v_ h5_2
    rintro ⟨rfl, e5_2⟩
    have := Ext.size e5_2
    replace eB := Ext.trans eB e5_2
    have := szC_le Y (szC X (1048576 : Int)) (by omega)
    try simp -implicitDefEqProofs (disch := first | decide | assumption | omega) only [go_sem, RdS.len hd sl37, RdS.idx hd sl37, R1.intB hd (Ext.pres eB), RdS.cells hd, RdS.len hm sl38, RdS.idx hm sl38, RdS.cellB hm (Ext.pres eB), RdS.cells hm, RdS.len hdy sl37, RdS.idx hdy sl37, R1.intB hdy (Ext.pres eB), RdS.cells hdy, RdS.len hmy sl38, RdS.idx hmy sl38, RdS.cellB hmy (Ext.pres eB), RdS.cells hmy, BoxAt.cellB hb0_0 eB, BoxAt.cellB hb0_1 eB]
    refine hK _ _ ?_
    clear hK K
    refine den_seq ?_
    refine den_seq ?_
    refine den_region TTok ?_
    intro K hK
    simp -implicitDefEqProofs (disch := first | decide | assumption | omega) only [go_sem, RdS.len hd sl37, RdS.idx hd sl37, R1.intB hd (Ext.pres eB), RdS.cells hd, RdS.len hm sl38, RdS.idx hm sl38, RdS.cellB hm (Ext.pres eB), RdS.cells hm, RdS.len hdy sl37, RdS.idx hdy sl37, R1.intB hdy (Ext.pres eB), RdS.cells hdy, RdS.len hmy sl38, RdS.idx hmy sl38, RdS.cellB hmy (Ext.pres eB), RdS.cells hmy, BoxAt.cellB hb0_0 eB, BoxAt.cellB hb0_1 eB]
    refine hK _ _ ?_
    clear hK K
    refine den_cond rfl (fun c1 => ?_) (fun c1 => ?_)
    · try simp only [decide_eq_true_eq, decide_eq_false_iff_not, beq_iff_eq, beq_eq_false_iff_ne, bne_iff_ne, ne_eq, Bool.not_eq_true', Bool.not_eq_false', Bool.and_eq_true, Bool.or_eq_true, bne_eq_false_iff_eq] at c1
      refine den_seq ?_
      refine den_region TTok ?_
      intro K hK
      simp -implicitDefEqProofs (disch := first | decide | assumption | omega) only [go_sem, RdS.len hd sl37, RdS.idx hd sl37, R1.intB hd (Ext.pres eB), RdS.cells hd, RdS.len hm sl38, RdS.idx hm sl38, RdS.cellB hm (Ext.pres eB), RdS.cells hm, RdS.len hdy sl37, RdS.idx hdy sl37, R1.intB hdy (Ext.pres eB), RdS.cells hdy, RdS.len hmy sl38, RdS.idx hmy sl38, RdS.cellB hmy (Ext.pres eB), RdS.cells hmy, BoxAt.cellB hb0_0 eB, BoxAt.cellB hb0_1 eB]
      refine hK _ _ ?_
      clear hK K
      refine den_ret ?_
      simp (disch := decide) only [resP_1, puts_same, puts_ne]
      exact ⟨by first | rfl | trivial, (Ext.trans (Ext.trans e0_0 e0_1) eB)⟩
    · try simp only [decide_eq_true_eq, decide_eq_false_iff_not, beq_iff_eq, beq_eq_false_iff_ne, bne_iff_ne, ne_eq, Bool.not_eq_true', Bool.not_eq_false', Bool.and_eq_true, Bool.or_eq_true, bne_eq_false_iff_eq] at c1
      refine den_skip ?_
      refine den_seq ?_
      have hMY := szC_ok' (by omega) (by omega) c1
      refine den_draw TTok mixed [] [(0, true), (2, true), (4, true), (5, true), (6, true), (7, true), (1, false), (3, false), (8, false), (9, true), (10, true), (11, true), (12, true), (13, true)] (by kernel_rfl) ?_
      intro K hK
      simp -implicitDefEqProofs (disch := first | decide | assumption | omega) only [go_sem, ld40, RdS.len hd sl37, RdS.idx hd sl37, R1.intB hd (Ext.pres eB), RdS.cells hd, RdS.len hm sl38, RdS.idx hm sl38, RdS.cellB hm (Ext.pres eB), RdS.cells hm, RdS.len hdy sl37, RdS.idx hdy sl37, R1.intB hdy (Ext.pres eB), RdS.cells hdy, RdS.len hmy sl38, RdS.idx hmy sl38, RdS.cellB hmy (Ext.pres eB), RdS.cells hmy, BoxAt.cellB hb0_0 eB, BoxAt.cellB hb0_1 eB]
      try simp -implicitDefEqProofs (disch := first | decide | assumption | omega) only [go_sem, RdS.len hd sl37, RdS.idx hd sl37, R1.intB hd (Ext.pres eB), RdS.cells hd, RdS.len hm sl38, RdS.idx hm sl38, RdS.cellB hm (Ext.pres eB), RdS.cells hm, RdS.len hdy sl37, RdS.idx hdy sl37, R1.intB hdy (Ext.pres eB), RdS.cells hdy, RdS.len hmy sl38, RdS.idx hmy sl38, RdS.cellB hmy (Ext.pres eB), RdS.cells hmy, BoxAt.cellB hb0_0 eB, BoxAt.cellB hb0_1 eB]
      refine CallA.mono (toC_ok _ X _ ⟨_, _, rfl, (RdS.pres hd (Ext.pres eB)), (RdS.pres hm (Ext.pres eB))⟩ hMX) ?_
      intro v_ h8_1
      rintro ⟨vd8_1, vm8_1, fd8_1, fm8_1, rfl, hod8_1, hom8_1, hf8_1, e8_1⟩
      have := Ext.size e8_1
      replace eB := Ext.trans eB e8_1
      have hfd8_1 := hf8_1.left
      have hfm8_1 := hf8_1.right
      have hlhod8_1 := OS.lt hod8_1
      have hlhom8_1 := OS.lt hom8_1
      try simp (disch := decide) only [outv_some, outv_none, put_puts]
      refine plK_pres (Ext.pres e8_1) ?_
      try simp -implicitDefEqProofs (disch := first | decide | assumption | omega) only [go_sem, RdS.len hd sl37, RdS.idx hd sl37, R1.intB hd (Ext.pres eB), RdS.cells hd, RdS.len hm sl38, RdS.idx hm sl38, RdS.cellB hm (Ext.pres eB), RdS.cells hm, RdS.len hdy sl37, RdS.idx hdy sl37, R1.intB hdy (Ext.pres eB), RdS.cells hdy, RdS.len hmy sl38, RdS.idx hmy sl38, RdS.cellB hmy (Ext.pres eB), RdS.cells hmy, RdS.len (OS.rd hod8_1) sl37, RdS.idx (OS.rd hod8_1) sl37, R1.intN (OS.rd hod8_1), RdS.cells (OS.rd hod8_1), RdS.len (OS.rd hom8_1) sl38, RdS.idx (OS.rd hom8_1) sl38, RdS.cellN (OS.rd hom8_1), RdS.cells (OS.rd hom8_1), BoxAt.cellB hb0_0 eB, BoxAt.cellB hb0_1 eB]
      try simp -implicitDefEqProofs (disch := first | decide | assumption | omega) only [go_sem, RdS.len hd sl37, RdS.idx hd sl37, R1.intB hd (Ext.pres eB), RdS.cells hd, RdS.len hm sl38, RdS.idx hm sl38, RdS.cellB hm (Ext.pres eB), RdS.cells hm, RdS.len hdy sl37, RdS.idx hdy sl37, R1.intB hdy (Ext.pres eB), RdS.cells hdy, RdS.len hmy sl38, RdS.idx hmy sl38, RdS.cellB hmy (Ext.pres eB), RdS.cells hmy, RdS.len (OS.rd hod8_1) sl37, RdS.idx (OS.rd hod8_1) sl37, R1.intN (OS.rd hod8_1), RdS.cells (OS.rd hod8_1), RdS.len (OS.rd hom8_1) sl38, RdS.idx (OS.rd hom8_1) sl38, RdS.cellN (OS.rd hom8_1), RdS.cells (OS.rd hom8_1), BoxAt.cellB hb0_0 eB, BoxAt.cellB hb0_1 eB]
      refine CallA.mono (toC_ok _ Y _ ⟨_, _, rfl, (RdS.pres hdy (Ext.pres eB)), (RdS.pres hmy (Ext.pres eB))⟩ hMY) ?_
      intro v_ h8_3
      rintro ⟨vd8_3, vm8_3, fd8_3, fm8_3, rfl, hod8_3, hom8_3, hf8_3, e8_3⟩
      replace hod8_1 := OS.ext hod8_1 e8_3
      replace hom8_1 := OS.ext hom8_1 e8_3
      have := Ext.size e8_3
      replace eB := Ext.trans eB e8_3
      have hfd8_3 := hf8_3.left
      have hfm8_3 := hf8_3.right
      have hlhod8_3 := OS.lt hod8_3
      have hlhom8_3 := OS.lt hom8_3
      try simp (disch := decide) only [outv_some, outv_none, put_puts]
      refine plK_pres (Ext.pres e8_3) ?_
      try simp -implicitDefEqProofs (disch := first | decide | assumption | omega) only [go_sem, RdS.len hd sl37, RdS.idx hd sl37, R1.intB hd (Ext.pres eB), RdS.cells hd, RdS.len hm sl38, RdS.idx hm sl38, RdS.cellB hm (Ext.pres eB), RdS.cells hm, RdS.len hdy sl37, RdS.idx hdy sl37, R1.intB hdy (Ext.pres eB), RdS.cells hdy, RdS.len hmy sl38, RdS.idx hmy sl38, RdS.cellB hmy (Ext.pres eB), RdS.cells hmy, RdS.len (OS.rd hod8_1) sl37, RdS.idx (OS.rd hod8_1) sl37, R1.intN (OS.rd hod8_1), RdS.cells (OS.rd hod8_1), RdS.len (OS.rd hom8_1) sl38, RdS.idx (OS.rd hom8_1) sl38, RdS.cellN (OS.rd hom8_1), RdS.cells (OS.rd hom8_1), RdS.len (OS.rd hod8_3) sl37, RdS.idx (OS.rd hod8_3) sl37, R1.intN (OS.rd hod8_3), RdS.cells (OS.rd hod8_3), RdS.len (OS.rd hom8_3) sl38, RdS.idx (OS.rd hom8_3) sl38, RdS.cellN (OS.rd hom8_3), RdS.cells (OS.rd hom8_3), BoxAt.cellB hb0_0 eB, BoxAt.cellB hb0_1 eB]
      try simp -implicitDefEqProofs (disch := first | decide | assumption | omega) only [go_sem, RdS.len hd sl37, RdS.idx hd sl37, R1.intB hd (Ext.pres eB), RdS.cells hd, RdS.len hm sl38, RdS.idx hm sl38, RdS.cellB hm (Ext.pres eB), RdS.cells hm, RdS.len hdy sl37, RdS.idx hdy sl37, R1.intB hdy (Ext.pres eB), RdS.cells hdy, RdS.len hmy sl38, RdS.idx hmy sl38, RdS.cellB hmy (Ext.pres eB), RdS.cells hmy, RdS.len (OS.rd hod8_1) sl37, RdS.idx (OS.rd hod8_1) sl37, R1.intN (OS.rd hod8_1), RdS.cells (OS.rd hod8_1), RdS.len (OS.rd hom8_1) sl38, RdS.idx (OS.rd hom8_1) sl38, RdS.cellN (OS.rd hom8_1), RdS.cells (OS.rd hom8_1), RdS.len (OS.rd hod8_3) sl37, RdS.idx (OS.rd hod8_3) sl37, R1.intN (OS.rd hod8_3), RdS.cells (OS.rd hod8_3), RdS.len (OS.rd hom8_3) sl38, RdS.idx (OS.rd hom8_3) sl38, RdS.cellN (OS.rd hom8_3), RdS.cells (OS.rd hom8_3), BoxAt.cellB hb0_0 eB, BoxAt.cellB hb0_1 eB]
      refine CallA.mono (sPOP_ok _ _ X Y _ _ _ _ _ ⟨_, _, rfl, (OS.rd hod8_1), (OS.rd hom8_1)⟩ ⟨_, _, rfl, (OS.rd hod8_3), (OS.rd hom8_3)⟩) ?_
      intro v_ h8_8
      rintro ⟨rfl, e8_8⟩
      replace hod8_1 := OS.ext hod8_1 e8_8
      replace hom8_1 := OS.ext hom8_1 e8_8
      replace hod8_3 := OS.ext hod8_3 e8_8
      replace hom8_3 := OS.ext hom8_3 e8_8
      have := Ext.size e8_8
      replace eB := Ext.trans eB e8_8
      try simp (disch := decide) only [outv_some, outv_none, put_puts]
      refine plK_pres (Ext.pres e8_8) ?_
      try simp -implicitDefEqProofs (disch := first | decide | assumption | omega) only [go_sem, RdS.len hd sl37, RdS.idx hd sl37, R1.intB hd (Ext.pres eB), RdS.cells hd, RdS.len hm sl38, RdS.idx hm sl38, RdS.cellB hm (Ext.pres eB), RdS.cells hm, RdS.len hdy sl37, RdS.idx hdy sl37, R1.intB hdy (Ext.pres eB), RdS.cells hdy, RdS.len hmy sl38, RdS.idx hmy sl38, RdS.cellB hmy (Ext.pres eB), RdS.cells hmy, RdS.len (OS.rd hod8_1) sl37, RdS.idx (OS.rd hod8_1) sl37, R1.intN (OS.rd hod8_1), RdS.cells (OS.rd hod8_1), RdS.len (OS.rd hom8_1) sl38, RdS.idx (OS.rd hom8_1) sl38, RdS.cellN (OS.rd hom8_1), RdS.cells (OS.rd hom8_1), RdS.len (OS.rd hod8_3) sl37, RdS.idx (OS.rd hod8_3) sl37, R1.intN (OS.rd hod8_3), RdS.cells (OS.rd hod8_3), RdS.len (OS.rd hom8_3) sl38, RdS.idx (OS.rd hom8_3) sl38, RdS.cellN (OS.rd hom8_3), RdS.cells (OS.rd hom8_3), BoxAt.cellB hb0_0 eB, BoxAt.cellB hb0_1 eB]
      refine hK _ _ ?_
      clear hK K
      refine den_seq ?_
      refine den_region TTok ?_
      intro K hK
      simp -implicitDefEqProofs (disch := first | decide | assumption | omega) only [go_sem, ld40, RdS.len hd sl37, RdS.idx hd sl37, R1.intB hd (Ext.pres eB), RdS.cells hd, RdS.len hm sl38, RdS.idx hm sl38, RdS.cellB hm (Ext.pres eB), RdS.cells hm, RdS.len hdy sl37, RdS.idx hdy sl37, R1.intB hdy (Ext.pres eB), RdS.cells hdy, RdS.len hmy sl38, RdS.idx hmy sl38, RdS.cellB hmy (Ext.pres eB), RdS.cells hmy, BoxAt.cellB hb0_0 eB, BoxAt.cellB hb0_1 eB]
      try simp -implicitDefEqProofs (disch := first | decide | assumption | omega) only [go_sem, RdS.len hd sl37, RdS.idx hd sl37, R1.intB hd (Ext.pres eB), RdS.cells hd, RdS.len hm sl38, RdS.idx hm sl38, RdS.cellB hm (Ext.pres eB), RdS.cells hm, RdS.len hdy sl37, RdS.idx hdy sl37, R1.intB hdy (Ext.pres eB), RdS.cells hdy, RdS.len hmy sl38, RdS.idx hmy sl38, RdS.cellB hmy (Ext.pres eB), RdS.cells hmy, BoxAt.cellB hb0_0 eB, BoxAt.cellB hb0_1 eB]
      refine CallA.mono (toC_ok _ X _ ⟨_, _, rfl, (RdS.pres hd (Ext.pres eB)), (RdS.pres hm (Ext.pres eB))⟩ hMX) ?_
      intro v_ h9_1
      rintro ⟨vd9_1, vm9_1, fd9_1, fm9_1, rfl, hod9_1, hom9_1, hf9_1, e9_1⟩
      have := Ext.size e9_1
      replace eB := Ext.trans eB e9_1
      have hfd9_1 := hf9_1.left
      have hfm9_1 := hf9_1.right
      have hlhod9_1 := OS.lt hod9_1
      have hlhom9_1 := OS.lt hom9_1
      try simp -implicitDefEqProofs (disch := first | decide | assumption | omega) only [go_sem, RdS.len hd sl37, RdS.idx hd sl37, R1.intB hd (Ext.pres eB), RdS.cells hd, RdS.len hm sl38, RdS.idx hm sl38, RdS.cellB hm (Ext.pres eB), RdS.cells hm, RdS.len hdy sl37, RdS.idx hdy sl37, R1.intB hdy (Ext.pres eB), RdS.cells hdy, RdS.len hmy sl38, RdS.idx hmy sl38, RdS.cellB hmy (Ext.pres eB), RdS.cells hmy, RdS.len (OS.rd hod9_1) sl37, RdS.idx (OS.rd hod9_1) sl37, R1.intN (OS.rd hod9_1), RdS.cells (OS.rd hod9_1), RdS.len (OS.rd hom9_1) sl38, RdS.idx (OS.rd hom9_1) sl38, RdS.cellN (OS.rd hom9_1), RdS.cells (OS.rd hom9_1), BoxAt.cellB hb0_0 eB, BoxAt.cellB hb0_1 eB]
      refine op_alloc (cs := #[.int .i64 0, .slice none 0 0, .slice none 0 0]) (by kernel_rfl) ?_
      intro h9_2 e9_2 hb9_2 z9_2
      replace hod9_1 := OS.ext hod9_1 e9_2
      replace hom9_1 := OS.ext hom9_1 e9_2
      have := Ext.size e9_2
      replace eB := Ext.trans eB e9_2
      try simp -implicitDefEqProofs (disch := first | decide | assumption | omega) only [go_sem, RdS.len hd sl37, RdS.idx hd sl37, R1.intB hd (Ext.pres eB), RdS.cells hd, RdS.len hm sl38, RdS.idx hm sl38, RdS.cellB hm (Ext.pres eB), RdS.cells hm, RdS.len hdy sl37, RdS.idx hdy sl37, R1.intB hdy (Ext.pres eB), RdS.cells hdy, RdS.len hmy sl38, RdS.idx hmy sl38, RdS.cellB hmy (Ext.pres eB), RdS.cells hmy, RdS.len (OS.rd hod9_1) sl37, RdS.idx (OS.rd hod9_1) sl37, R1.intN (OS.rd hod9_1), RdS.cells (OS.rd hod9_1), RdS.len (OS.rd hom9_1) sl38, RdS.idx (OS.rd hom9_1) sl38, RdS.cellN (OS.rd hom9_1), RdS.cells (OS.rd hom9_1), BoxAt.cellB hb0_0 eB, BoxAt.cellB hb0_1 eB, BoxAt.cell hb9_2]
      refine op_storeB (cs' := #[.int .i64 (X.p), vd9_1, vm9_1]) st44 hb9_2 rfl rfl rfl (by simp) (allOne_mem (l := [.int .i64 (X.p), vd9_1, vm9_1]) ⟨rfl, (OS.one hod9_1).1, (OS.one hom9_1).1, trivial⟩) rfl ?_
      intro h9_3 hb9_2 c9_3
      replace hod9_1 := OS.chg hod9_1 c9_3 (fun b hb hm => by simp at hm; have := hfd9_1.ge b hb; have := hlhod9_1 b hb; omega)
      replace hom9_1 := OS.chg hom9_1 c9_3 (fun b hb hm => by simp at hm; have := hfm9_1.ge b hb; have := hlhom9_1 b hb; omega)
      have := c9_3.size
      replace eB := Ext.then eB c9_3 (fun b hb => by simp at hb; omega)
      try simp -implicitDefEqProofs (disch := first | decide | assumption | omega) only [go_sem, RdS.len hd sl37, RdS.idx hd sl37, R1.intB hd (Ext.pres eB), RdS.cells hd, RdS.len hm sl38, RdS.idx hm sl38, RdS.cellB hm (Ext.pres eB), RdS.cells hm, RdS.len hdy sl37, RdS.idx hdy sl37, R1.intB hdy (Ext.pres eB), RdS.cells hdy, RdS.len hmy sl38, RdS.idx hmy sl38, RdS.cellB hmy (Ext.pres eB), RdS.cells hmy, RdS.len (OS.rd hod9_1) sl37, RdS.idx (OS.rd hod9_1) sl37, R1.intN (OS.rd hod9_1), RdS.cells (OS.rd hod9_1), RdS.len (OS.rd hom9_1) sl38, RdS.idx (OS.rd hom9_1) sl38, RdS.cellN (OS.rd hom9_1), RdS.cells (OS.rd hom9_1), BoxAt.cellB hb0_0 eB, BoxAt.cellB hb0_1 eB, BoxAt.cell hb9_2]
      refine hK _ _ ?_
      clear hK K
      refine den_seq ?_
      refine den_region TTok ?_
      intro K hK
      simp -implicitDefEqProofs (disch := first | decide | assumption | omega) only [go_sem, ld40, RdS.len hd sl37, RdS.idx hd sl37, R1.intB hd (Ext.pres eB), RdS.cells hd, RdS.len hm sl38, RdS.idx hm sl38, RdS.cellB hm (Ext.pres eB), RdS.cells hm, RdS.len hdy sl37, RdS.idx hdy sl37, R1.intB hdy (Ext.pres eB), RdS.cells hdy, RdS.len hmy sl38, RdS.idx hmy sl38, RdS.cellB hmy (Ext.pres eB), RdS.cells hmy, RdS.len (OS.rd hod9_1) sl37, RdS.idx (OS.rd hod9_1) sl37, R1.intN (OS.rd hod9_1), RdS.cells (OS.rd hod9_1), RdS.len (OS.rd hom9_1) sl38, RdS.idx (OS.rd hom9_1) sl38, RdS.cellN (OS.rd hom9_1), RdS.cells (OS.rd hom9_1), BoxAt.cellB hb0_0 eB, BoxAt.cellB hb0_1 eB, BoxAt.cell hb9_2]
      try simp -implicitDefEqProofs (disch := first | decide | assumption | omega) only [go_sem, RdS.len hd sl37, RdS.idx hd sl37, R1.intB hd (Ext.pres eB), RdS.cells hd, RdS.len hm sl38, RdS.idx hm sl38, RdS.cellB hm (Ext.pres eB), RdS.cells hm, RdS.len hdy sl37, RdS.idx hdy sl37, R1.intB hdy (Ext.pres eB), RdS.cells hdy, RdS.len hmy sl38, RdS.idx hmy sl38, RdS.cellB hmy (Ext.pres eB), RdS.cells hmy, RdS.len (OS.rd hod9_1) sl37, RdS.idx (OS.rd hod9_1) sl37, R1.intN (OS.rd hod9_1), RdS.cells (OS.rd hod9_1), RdS.len (OS.rd hom9_1) sl38, RdS.idx (OS.rd hom9_1) sl38, RdS.cellN (OS.rd hom9_1), RdS.cells (OS.rd hom9_1), BoxAt.cellB hb0_0 eB, BoxAt.cellB hb0_1 eB, BoxAt.cell hb9_2]
      refine CallA.mono (toC_ok _ Y _ ⟨_, _, rfl, (RdS.pres hdy (Ext.pres eB)), (RdS.pres hmy (Ext.pres eB))⟩ hMY) ?_
      intro v_ h10_1
      rintro ⟨vd10_1, vm10_1, fd10_1, fm10_1, rfl, hod10_1, hom10_1, hf10_1, e10_1⟩
      replace hod9_1 := OS.ext hod9_1 e10_1
      replace hom9_1 := OS.ext hom9_1 e10_1
      replace hb9_2 := BoxAt.ext hb9_2 e10_1
      have := Ext.size e10_1
      replace eB := Ext.trans eB e10_1
      have hfd10_1 := hf10_1.left
      have hfm10_1 := hf10_1.right
      have hlhod10_1 := OS.lt hod10_1
      have hlhom10_1 := OS.lt hom10_1
      try simp -implicitDefEqProofs (disch := first | decide | assumption | omega) only [go_sem, RdS.len hd sl37, RdS.idx hd sl37, R1.intB hd (Ext.pres eB), RdS.cells hd, RdS.len hm sl38, RdS.idx hm sl38, RdS.cellB hm (Ext.pres eB), RdS.cells hm, RdS.len hdy sl37, RdS.idx hdy sl37, R1.intB hdy (Ext.pres eB), RdS.cells hdy, RdS.len hmy sl38, RdS.idx hmy sl38, RdS.cellB hmy (Ext.pres eB), RdS.cells hmy, RdS.len (OS.rd hod9_1) sl37, RdS.idx (OS.rd hod9_1) sl37, R1.intN (OS.rd hod9_1), RdS.cells (OS.rd hod9_1), RdS.len (OS.rd hom9_1) sl38, RdS.idx (OS.rd hom9_1) sl38, RdS.cellN (OS.rd hom9_1), RdS.cells (OS.rd hom9_1), RdS.len (OS.rd hod10_1) sl37, RdS.idx (OS.rd hod10_1) sl37, R1.intN (OS.rd hod10_1), RdS.cells (OS.rd hod10_1), RdS.len (OS.rd hom10_1) sl38, RdS.idx (OS.rd hom10_1) sl38, RdS.cellN (OS.rd hom10_1), RdS.cells (OS.rd hom10_1), BoxAt.cellB hb0_0 eB, BoxAt.cellB hb0_1 eB, BoxAt.cell hb9_2]
      refine op_alloc (cs := #[.int .i64 0, .slice none 0 0, .slice none 0 0]) (by kernel_rfl) ?_
      intro h10_2 e10_2 hb10_2 z10_2
      replace hod9_1 := OS.ext hod9_1 e10_2
      replace hom9_1 := OS.ext hom9_1 e10_2
      replace hod10_1 := OS.ext hod10_1 e10_2
      replace hom10_1 := OS.ext hom10_1 e10_2
      replace hb9_2 := BoxAt.ext hb9_2 e10_2
      have := Ext.size e10_2
      replace eB := Ext.trans eB e10_2
      try simp -implicitDefEqProofs (disch := first | decide | assumption | omega) only [go_sem, RdS.len hd sl37, RdS.idx hd sl37, R1.intB hd (Ext.pres eB), RdS.cells hd, RdS.len hm sl38, RdS.idx hm sl38, RdS.cellB hm (Ext.pres eB), RdS.cells hm, RdS.len hdy sl37, RdS.idx hdy sl37, R1.intB hdy (Ext.pres eB), RdS.cells hdy, RdS.len hmy sl38, RdS.idx hmy sl38, RdS.cellB hmy (Ext.pres eB), RdS.cells hmy, RdS.len (OS.rd hod9_1) sl37, RdS.idx (OS.rd hod9_1) sl37, R1.intN (OS.rd hod9_1), RdS.cells (OS.rd hod9_1), RdS.len (OS.rd hom9_1) sl38, RdS.idx (OS.rd hom9_1) sl38, RdS.cellN (OS.rd hom9_1), RdS.cells (OS.rd hom9_1), RdS.len (OS.rd hod10_1) sl37, RdS.idx (OS.rd hod10_1) sl37, R1.intN (OS.rd hod10_1), RdS.cells (OS.rd hod10_1), RdS.len (OS.rd hom10_1) sl38, RdS.idx (OS.rd hom10_1) sl38, RdS.cellN (OS.rd hom10_1), RdS.cells (OS.rd hom10_1), BoxAt.cellB hb0_0 eB, BoxAt.cellB hb0_1 eB, BoxAt.cell hb9_2, BoxAt.cell hb10_2]
      refine op_storeB (cs' := #[.int .i64 (Y.p), vd10_1, vm10_1]) st44 hb10_2 rfl rfl rfl (by simp) (allOne_mem (l := [.int .i64 (Y.p), vd10_1, vm10_1]) ⟨rfl, (OS.one hod10_1).1, (OS.one hom10_1).1, trivial⟩) rfl ?_
      intro h10_3 hb10_2 c10_3
      replace hod9_1 := OS.chg hod9_1 c10_3 (fun b hb hm => by simp at hm; have := hfd9_1.ge b hb; have := hlhod9_1 b hb; omega)
      replace hom9_1 := OS.chg hom9_1 c10_3 (fun b hb hm => by simp at hm; have := hfm9_1.ge b hb; have := hlhom9_1 b hb; omega)
      replace hod10_1 := OS.chg hod10_1 c10_3 (fun b hb hm => by simp at hm; have := hfd10_1.ge b hb; have := hlhod10_1 b hb; omega)
      replace hom10_1 := OS.chg hom10_1 c10_3 (fun b hb hm => by simp at hm; have := hfm10_1.ge b hb; have := hlhom10_1 b hb; omega)
      replace hb9_2 := BoxAt.chg hb9_2 c10_3 (by simp; omega)
      have := c10_3.size
      replace eB := Ext.then eB c10_3 (fun b hb => by simp at hb; omega)
      try simp -implicitDefEqProofs (disch := first | decide | assumption | omega) only [go_sem, RdS.len hd sl37, RdS.idx hd sl37, R1.intB hd (Ext.pres eB), RdS.cells hd, RdS.len hm sl38, RdS.idx hm sl38, RdS.cellB hm (Ext.pres eB), RdS.cells hm, RdS.len hdy sl37, RdS.idx hdy sl37, R1.intB hdy (Ext.pres eB), RdS.cells hdy, RdS.len hmy sl38, RdS.idx hmy sl38, RdS.cellB hmy (Ext.pres eB), RdS.cells hmy, RdS.len (OS.rd hod9_1) sl37, RdS.idx (OS.rd hod9_1) sl37, R1.intN (OS.rd hod9_1), RdS.cells (OS.rd hod9_1), RdS.len (OS.rd hom9_1) sl38, RdS.idx (OS.rd hom9_1) sl38, RdS.cellN (OS.rd hom9_1), RdS.cells (OS.rd hom9_1), RdS.len (OS.rd hod10_1) sl37, RdS.idx (OS.rd hod10_1) sl37, R1.intN (OS.rd hod10_1), RdS.cells (OS.rd hod10_1), RdS.len (OS.rd hom10_1) sl38, RdS.idx (OS.rd hom10_1) sl38, RdS.cellN (OS.rd hom10_1), RdS.cells (OS.rd hom10_1), BoxAt.cellB hb0_0 eB, BoxAt.cellB hb0_1 eB, BoxAt.cell hb9_2, BoxAt.cell hb10_2]
      refine hK _ _ ?_
      clear hK K
      refine den_seq ?_
      refine den_region TTok ?_
      intro K hK
      simp -implicitDefEqProofs (disch := first | decide | assumption | omega) only [go_sem, ld44, RdS.len hd sl37, RdS.idx hd sl37, R1.intB hd (Ext.pres eB), RdS.cells hd, RdS.len hm sl38, RdS.idx hm sl38, RdS.cellB hm (Ext.pres eB), RdS.cells hm, RdS.len hdy sl37, RdS.idx hdy sl37, R1.intB hdy (Ext.pres eB), RdS.cells hdy, RdS.len hmy sl38, RdS.idx hmy sl38, RdS.cellB hmy (Ext.pres eB), RdS.cells hmy, RdS.len (OS.rd hod9_1) sl37, RdS.idx (OS.rd hod9_1) sl37, R1.intN (OS.rd hod9_1), RdS.cells (OS.rd hod9_1), RdS.len (OS.rd hom9_1) sl38, RdS.idx (OS.rd hom9_1) sl38, RdS.cellN (OS.rd hom9_1), RdS.cells (OS.rd hom9_1), RdS.len (OS.rd hod10_1) sl37, RdS.idx (OS.rd hod10_1) sl37, R1.intN (OS.rd hod10_1), RdS.cells (OS.rd hod10_1), RdS.len (OS.rd hom10_1) sl38, RdS.idx (OS.rd hom10_1) sl38, RdS.cellN (OS.rd hom10_1), RdS.cells (OS.rd hom10_1), BoxAt.cellB hb0_0 eB, BoxAt.cellB hb0_1 eB, BoxAt.cell hb9_2, BoxAt.cell hb10_2]
      try simp -implicitDefEqProofs (disch := first | decide | assumption | omega) only [go_sem, RdS.len hd sl37, RdS.idx hd sl37, R1.intB hd (Ext.pres eB), RdS.cells hd, RdS.len hm sl38, RdS.idx hm sl38, RdS.cellB hm (Ext.pres eB), RdS.cells hm, RdS.len hdy sl37, RdS.idx hdy sl37, R1.intB hdy (Ext.pres eB), RdS.cells hdy, RdS.len hmy sl38, RdS.idx hmy sl38, RdS.cellB hmy (Ext.pres eB), RdS.cells hmy, RdS.len (OS.rd hod9_1) sl37, RdS.idx (OS.rd hod9_1) sl37, R1.intN (OS.rd hod9_1), RdS.cells (OS.rd hod9_1), RdS.len (OS.rd hom9_1) sl38, RdS.idx (OS.rd hom9_1) sl38, RdS.cellN (OS.rd hom9_1), RdS.cells (OS.rd hom9_1), RdS.len (OS.rd hod10_1) sl37, RdS.idx (OS.rd hod10_1) sl37, R1.intN (OS.rd hod10_1), RdS.cells (OS.rd hod10_1), RdS.len (OS.rd hom10_1) sl38, RdS.idx (OS.rd hom10_1) sl38, RdS.cellN (OS.rd hom10_1), RdS.cells (OS.rd hom10_1), BoxAt.cellB hb0_0 eB, BoxAt.cellB hb0_1 eB, BoxAt.cell hb9_2, BoxAt.cell hb10_2]
      refine CallA.mono (iPOP_ok _ _ X Y _ _ _ _ _ ⟨_, _, rfl, (OS.rd hod9_1), (OS.rd hom9_1)⟩ ⟨_, _, rfl, (OS.rd hod10_1), (OS.rd hom10_1)⟩) ?_
      intro v_ h11_6
      rintro ⟨rfl, e11_6⟩
      replace hod9_1 := OS.ext hod9_1 e11_6
      replace hom9_1 := OS.ext hom9_1 e11_6
      replace hod10_1 := OS.ext hod10_1 e11_6
      replace hom10_1 := OS.ext hom10_1 e11_6
      replace hb9_2 := BoxAt.ext hb9_2 e11_6
      replace hb10_2 := BoxAt.ext hb10_2 e11_6
      have := Ext.size e11_6
      replace eB := Ext.trans eB e11_6
      try simp -implicitDefEqProofs (disch := first | decide | assumption | omega) only [go_sem, RdS.len hd sl37, RdS.idx hd sl37, R1.intB hd (Ext.pres eB), RdS.cells hd, RdS.len hm sl38, RdS.idx hm sl38, RdS.cellB hm (Ext.pres eB), RdS.cells hm, RdS.len hdy sl37, RdS.idx hdy sl37, R1.intB hdy (Ext.pres eB), RdS.cells hdy, RdS.len hmy sl38, RdS.idx hmy sl38, RdS.cellB hmy (Ext.pres eB), RdS.cells hmy, RdS.len (OS.rd hod9_1) sl37, RdS.idx (OS.rd hod9_1) sl37, R1.intN (OS.rd hod9_1), RdS.cells (OS.rd hod9_1), RdS.len (OS.rd hom9_1) sl38, RdS.idx (OS.rd hom9_1) sl38, RdS.cellN (OS.rd hom9_1), RdS.cells (OS.rd hom9_1), RdS.len (OS.rd hod10_1) sl37, RdS.idx (OS.rd hod10_1) sl37, R1.intN (OS.rd hod10_1), RdS.cells (OS.rd hod10_1), RdS.len (OS.rd hom10_1) sl38, RdS.idx (OS.rd hom10_1) sl38, RdS.cellN (OS.rd hom10_1), RdS.cells (OS.rd hom10_1), BoxAt.cellB hb0_0 eB, BoxAt.cellB hb0_1 eB, BoxAt.cell hb9_2, BoxAt.cell hb10_2]
      refine hK _ _ ?_
      clear hK K
      refine den_seq ?_
      refine den_seq ?_
      refine den_mergeH [(63, .bool (((((placeR X Y i a j b).1) != ((placeR X Y i a j b).1)) || (((placeR X Y i a j b).2) != ((placeR X Y i a j b).2)))))] [6, 7, 16, 17] ?_ ?_
        -- a way
      · refine den_region TTok ?_
        intro K hK
        simp -implicitDefEqProofs (disch := first | decide | assumption | (simp (disch := decide) only [slotOf_zero, slotOf_succ, Option.map_some, puts_same, puts_ne, gv_bool, gv_undef, tt, tf, ft, ff, eq_self, if_true, if_false, Bool.false_eq_true, Bool.not_true, Bool.not_false]; done) | omega) only [go_sem, RdS.len hd sl37, RdS.idx hd sl37, R1.intB hd (Ext.pres eB), RdS.cells hd, RdS.len hm sl38, RdS.idx hm sl38, RdS.cellB hm (Ext.pres eB), RdS.cells hm, RdS.len hdy sl37, RdS.idx hdy sl37, R1.intB hdy (Ext.pres eB), RdS.cells hdy, RdS.len hmy sl38, RdS.idx hmy sl38, RdS.cellB hmy (Ext.pres eB), RdS.cells hmy, RdS.len (OS.rd hod9_1) sl37, RdS.idx (OS.rd hod9_1) sl37, R1.intN (OS.rd hod9_1), RdS.cells (OS.rd hod9_1), RdS.len (OS.rd hom9_1) sl38, RdS.idx (OS.rd hom9_1) sl38, RdS.cellN (OS.rd hom9_1), RdS.cells (OS.rd hom9_1), RdS.len (OS.rd hod10_1) sl37, RdS.idx (OS.rd hod10_1) sl37, R1.intN (OS.rd hod10_1), RdS.cells (OS.rd hod10_1), RdS.len (OS.rd hom10_1) sl38, RdS.idx (OS.rd hom10_1) sl38, RdS.cellN (OS.rd hom10_1), RdS.cells (OS.rd hom10_1), BoxAt.cellB hb0_0 eB, BoxAt.cellB hb0_1 eB, BoxAt.cell hb9_2, BoxAt.cell hb10_2]
        refine opsP_F (by simp (disch := decide) only [slotOf_zero, slotOf_succ, Option.map_some, puts_same, puts_ne, gv_bool, gv_undef, tt, tf, ft, ff, eq_self, if_true, if_false, Bool.false_eq_true, Bool.not_true, Bool.not_false]; rfl) (fun g1 => ?_) (fun g1 => ?_)
        · try simp -implicitDefEqProofs (disch := first | decide | assumption | (simp (disch := decide) only [slotOf_zero, slotOf_succ, Option.map_some, puts_same, puts_ne, gv_bool, gv_undef, tt, tf, ft, ff, eq_self, if_true, if_false, Bool.false_eq_true, Bool.not_true, Bool.not_false, g1]; done) | omega) only [go_sem, RdS.len hd sl37, RdS.idx hd sl37, R1.intB hd (Ext.pres eB), RdS.cells hd, RdS.len hm sl38, RdS.idx hm sl38, RdS.cellB hm (Ext.pres eB), RdS.cells hm, RdS.len hdy sl37, RdS.idx hdy sl37, R1.intB hdy (Ext.pres eB), RdS.cells hdy, RdS.len hmy sl38, RdS.idx hmy sl38, RdS.cellB hmy (Ext.pres eB), RdS.cells hmy, RdS.len (OS.rd hod9_1) sl37, RdS.idx (OS.rd hod9_1) sl37, R1.intN (OS.rd hod9_1), RdS.cells (OS.rd hod9_1), RdS.len (OS.rd hom9_1) sl38, RdS.idx (OS.rd hom9_1) sl38, RdS.cellN (OS.rd hom9_1), RdS.cells (OS.rd hom9_1), RdS.len (OS.rd hod10_1) sl37, RdS.idx (OS.rd hod10_1) sl37, R1.intN (OS.rd hod10_1), RdS.cells (OS.rd hod10_1), RdS.len (OS.rd hom10_1) sl38, RdS.idx (OS.rd hom10_1) sl38, RdS.cellN (OS.rd hom10_1), RdS.cells (OS.rd hom10_1), BoxAt.cellB hb0_0 eB, BoxAt.cellB hb0_1 eB, BoxAt.cell hb9_2, BoxAt.cell hb10_2, g1, eq_self, if_true, if_false, Bool.false_eq_true]
          refine hK _ _ ?_
          clear hK K
          refine den_stop ?_
          refine ⟨?_, rfl⟩
          first | (simp (disch := decide) only [go_sem, g1, eq_self, Bool.true_and, Bool.and_true, Bool.false_and, Bool.and_false, Bool.true_or, Bool.or_true, Bool.false_or, Bool.or_false, if_true, if_false, Bool.false_eq_true]; done) | simp [HasL, sel, puts_at, g1]
        · try simp -implicitDefEqProofs (disch := first | decide | assumption | (simp (disch := decide) only [slotOf_zero, slotOf_succ, Option.map_some, puts_same, puts_ne, gv_bool, gv_undef, tt, tf, ft, ff, eq_self, if_true, if_false, Bool.false_eq_true, Bool.not_true, Bool.not_false, g1]; done) | omega) only [go_sem, RdS.len hd sl37, RdS.idx hd sl37, R1.intB hd (Ext.pres eB), RdS.cells hd, RdS.len hm sl38, RdS.idx hm sl38, RdS.cellB hm (Ext.pres eB), RdS.cells hm, RdS.len hdy sl37, RdS.idx hdy sl37, R1.intB hdy (Ext.pres eB), RdS.cells hdy, RdS.len hmy sl38, RdS.idx hmy sl38, RdS.cellB hmy (Ext.pres eB), RdS.cells hmy, RdS.len (OS.rd hod9_1) sl37, RdS.idx (OS.rd hod9_1) sl37, R1.intN (OS.rd hod9_1), RdS.cells (OS.rd hod9_1), RdS.len (OS.rd hom9_1) sl38, RdS.idx (OS.rd hom9_1) sl38, RdS.cellN (OS.rd hom9_1), RdS.cells (OS.rd hom9_1), RdS.len (OS.rd hod10_1) sl37, RdS.idx (OS.rd hod10_1) sl37, R1.intN (OS.rd hod10_1), RdS.cells (OS.rd hod10_1), RdS.len (OS.rd hom10_1) sl38, RdS.idx (OS.rd hom10_1) sl38, RdS.cellN (OS.rd hom10_1), RdS.cells (OS.rd hom10_1), BoxAt.cellB hb0_0 eB, BoxAt.cellB hb0_1 eB, BoxAt.cell hb9_2, BoxAt.cell hb10_2, g1, eq_self, if_true, if_false, Bool.false_eq_true]
          refine hK _ _ ?_
          clear hK K
          refine den_stop ?_
          refine ⟨?_, rfl⟩
          first | (simp (disch := decide) only [go_sem, g1, eq_self, Bool.true_and, Bool.and_true, Bool.false_and, Bool.and_false, Bool.true_or, Bool.or_true, Bool.false_or, Bool.or_false, if_true, if_false, Bool.false_eq_true]; done) | simp [HasL, sel, puts_at, g1]
      intro en2
      simp (disch := decide) only [go_sem]
      refine den_cond rfl (fun c2 => ?_) (fun c2 => ?_)
      · try simp only [decide_eq_true_eq, decide_eq_false_iff_not, beq_iff_eq, beq_eq_false_iff_ne, bne_iff_ne, ne_eq, Bool.not_eq_true', Bool.not_eq_false', Bool.and_eq_true, Bool.or_eq_true, bne_eq_false_iff_eq] at c2
        refine den_seq ?_
        refine den_region TTok ?_
        intro K hK
        simp -implicitDefEqProofs (disch := first | decide | assumption | omega) only [go_sem, RdS.len hd sl37, RdS.idx hd sl37, R1.intB hd (Ext.pres eB), RdS.cells hd, RdS.len hm sl38, RdS.idx hm sl38, RdS.cellB hm (Ext.pres eB), RdS.cells hm, RdS.len hdy sl37, RdS.idx hdy sl37, R1.intB hdy (Ext.pres eB), RdS.cells hdy, RdS.len hmy sl38, RdS.idx hmy sl38, RdS.cellB hmy (Ext.pres eB), RdS.cells hmy, BoxAt.cellB hb0_0 eB, BoxAt.cellB hb0_1 eB]
        refine hK _ _ ?_
        clear hK K
        refine den_ret ?_
        simp (disch := decide) only [resP_1, puts_same, puts_ne]
        exact absurd c2 (by simp)
      · try simp only [decide_eq_true_eq, decide_eq_false_iff_not, beq_iff_eq, beq_eq_false_iff_ne, bne_iff_ne, ne_eq, Bool.not_eq_true', Bool.not_eq_false', Bool.and_eq_true, Bool.or_eq_true, bne_eq_false_iff_eq] at c2
        refine den_skip ?_
        refine den_seq ?_
        refine den_seq ?_
        refine den_draw TTok mixed [] [(0, true), (1, true), (2, false), (3, false), (4, true)] (by kernel_rfl) ?_
        intro K hK
        simp -implicitDefEqProofs (disch := first | decide | assumption | omega) only [go_sem, ld44, ld40, RdS.len hd sl37, RdS.idx hd sl37, R1.intB hd (Ext.pres eB), RdS.cells hd, RdS.len hm sl38, RdS.idx hm sl38, RdS.cellB hm (Ext.pres eB), RdS.cells hm, RdS.len hdy sl37, RdS.idx hdy sl37, R1.intB hdy (Ext.pres eB), RdS.cells hdy, RdS.len hmy sl38, RdS.idx hmy sl38, RdS.cellB hmy (Ext.pres eB), RdS.cells hmy, RdS.len (OS.rd hod9_1) sl37, RdS.idx (OS.rd hod9_1) sl37, R1.intN (OS.rd hod9_1), RdS.cells (OS.rd hod9_1), RdS.len (OS.rd hom9_1) sl38, RdS.idx (OS.rd hom9_1) sl38, RdS.cellN (OS.rd hom9_1), RdS.cells (OS.rd hom9_1), RdS.len (OS.rd hod10_1) sl37, RdS.idx (OS.rd hod10_1) sl37, R1.intN (OS.rd hod10_1), RdS.cells (OS.rd hod10_1), RdS.len (OS.rd hom10_1) sl38, RdS.idx (OS.rd hom10_1) sl38, RdS.cellN (OS.rd hom10_1), RdS.cells (OS.rd hom10_1), BoxAt.cellB hb0_0 eB, BoxAt.cellB hb0_1 eB, BoxAt.cell hb9_2, BoxAt.cell hb10_2]
        try simp -implicitDefEqProofs (disch := first | decide | assumption | omega) only [go_sem, RdS.len hd sl37, RdS.idx hd sl37, R1.intB hd (Ext.pres eB), RdS.cells hd, RdS.len hm sl38, RdS.idx hm sl38, RdS.cellB hm (Ext.pres eB), RdS.cells hm, RdS.len hdy sl37, RdS.idx hdy sl37, R1.intB hdy (Ext.pres eB), RdS.cells hdy, RdS.len hmy sl38, RdS.idx hmy sl38, RdS.cellB hmy (Ext.pres eB), RdS.cells hmy, RdS.len (OS.rd hod9_1) sl37, RdS.idx (OS.rd hod9_1) sl37, R1.intN (OS.rd hod9_1), RdS.cells (OS.rd hod9_1), RdS.len (OS.rd hom9_1) sl38, RdS.idx (OS.rd hom9_1) sl38, RdS.cellN (OS.rd hom9_1), RdS.cells (OS.rd hom9_1), RdS.len (OS.rd hod10_1) sl37, RdS.idx (OS.rd hod10_1) sl37, R1.intN (OS.rd hod10_1), RdS.cells (OS.rd hod10_1), RdS.len (OS.rd hom10_1) sl38, RdS.idx (OS.rd hom10_1) sl38, RdS.cellN (OS.rd hom10_1), RdS.cells (OS.rd hom10_1), BoxAt.cellB hb0_0 eB, BoxAt.cellB hb0_1 eB, BoxAt.cell hb9_2, BoxAt.cell hb10_2]
        refine CallA.mono (toC_ok _ X _ ⟨_, _, rfl, (RdS.pres hd (Ext.pres eB)), (RdS.pres hm (Ext.pres eB))⟩ hMX) ?_
        intro v_ h14_2
        rintro ⟨vd14_2, vm14_2, fd14_2, fm14_2, rfl, hod14_2, hom14_2, hf14_2, e14_2⟩
        replace hod9_1 := OS.ext hod9_1 e14_2
        replace hom9_1 := OS.ext hom9_1 e14_2
        replace hod10_1 := OS.ext hod10_1 e14_2
        replace hom10_1 := OS.ext hom10_1 e14_2
        replace hb9_2 := BoxAt.ext hb9_2 e14_2
        replace hb10_2 := BoxAt.ext hb10_2 e14_2
        have := Ext.size e14_2
        replace eB := Ext.trans eB e14_2
        have hfd14_2 := hf14_2.left
        have hfm14_2 := hf14_2.right
        have hlhod14_2 := OS.lt hod14_2
        have hlhom14_2 := OS.lt hom14_2
        try simp (disch := decide) only [outv_some, outv_none, put_puts]
        refine plK_pres (Ext.pres e14_2) ?_
        try simp -implicitDefEqProofs (disch := first | decide | assumption | omega) only [go_sem, RdS.len hd sl37, RdS.idx hd sl37, R1.intB hd (Ext.pres eB), RdS.cells hd, RdS.len hm sl38, RdS.idx hm sl38, RdS.cellB hm (Ext.pres eB), RdS.cells hm, RdS.len hdy sl37, RdS.idx hdy sl37, R1.intB hdy (Ext.pres eB), RdS.cells hdy, RdS.len hmy sl38, RdS.idx hmy sl38, RdS.cellB hmy (Ext.pres eB), RdS.cells hmy, RdS.len (OS.rd hod9_1) sl37, RdS.idx (OS.rd hod9_1) sl37, R1.intN (OS.rd hod9_1), RdS.cells (OS.rd hod9_1), RdS.len (OS.rd hom9_1) sl38, RdS.idx (OS.rd hom9_1) sl38, RdS.cellN (OS.rd hom9_1), RdS.cells (OS.rd hom9_1), RdS.len (OS.rd hod10_1) sl37, RdS.idx (OS.rd hod10_1) sl37, R1.intN (OS.rd hod10_1), RdS.cells (OS.rd hod10_1), RdS.len (OS.rd hom10_1) sl38, RdS.idx (OS.rd hom10_1) sl38, RdS.cellN (OS.rd hom10_1), RdS.cells (OS.rd hom10_1), RdS.len (OS.rd hod14_2) sl37, RdS.idx (OS.rd hod14_2) sl37, R1.intN (OS.rd hod14_2), RdS.cells (OS.rd hod14_2), RdS.len (OS.rd hom14_2) sl38, RdS.idx (OS.rd hom14_2) sl38, RdS.cellN (OS.rd hom14_2), RdS.cells (OS.rd hom14_2), BoxAt.cellB hb0_0 eB, BoxAt.cellB hb0_1 eB, BoxAt.cell hb9_2, BoxAt.cell hb10_2]
        try simp -implicitDefEqProofs (disch := first | decide | assumption | omega) only [go_sem, RdS.len hd sl37, RdS.idx hd sl37, R1.intB hd (Ext.pres eB), RdS.cells hd, RdS.len hm sl38, RdS.idx hm sl38, RdS.cellB hm (Ext.pres eB), RdS.cells hm, RdS.len hdy sl37, RdS.idx hdy sl37, R1.intB hdy (Ext.pres eB), RdS.cells hdy, RdS.len hmy sl38, RdS.idx hmy sl38, RdS.cellB hmy (Ext.pres eB), RdS.cells hmy, RdS.len (OS.rd hod9_1) sl37, RdS.idx (OS.rd hod9_1) sl37, R1.intN (OS.rd hod9_1), RdS.cells (OS.rd hod9_1), RdS.len (OS.rd hom9_1) sl38, RdS.idx (OS.rd hom9_1) sl38, RdS.cellN (OS.rd hom9_1), RdS.cells (OS.rd hom9_1), RdS.len (OS.rd hod10_1) sl37, RdS.idx (OS.rd hod10_1) sl37, R1.intN (OS.rd hod10_1), RdS.cells (OS.rd hod10_1), RdS.len (OS.rd hom10_1) sl38, RdS.idx (OS.rd hom10_1) sl38, RdS.cellN (OS.rd hom10_1), RdS.cells (OS.rd hom10_1), RdS.len (OS.rd hod14_2) sl37, RdS.idx (OS.rd hod14_2) sl37, R1.intN (OS.rd hod14_2), RdS.cells (OS.rd hod14_2), RdS.len (OS.rd hom14_2) sl38, RdS.idx (OS.rd hom14_2) sl38, RdS.cellN (OS.rd hom14_2), RdS.cells (OS.rd hom14_2), BoxAt.cellB hb0_0 eB, BoxAt.cellB hb0_1 eB, BoxAt.cell hb9_2, BoxAt.cell hb10_2]
        refine CallA.mono (eqC_ok _ _ X X _ ⟨_, _, rfl, (OS.rd hod9_1), (OS.rd hom9_1)⟩ ⟨_, _, rfl, (OS.rd hod14_2), (OS.rd hom14_2)⟩) ?_
        intro v_ h14_3
        rintro ⟨rfl, e14_3⟩
        replace hod9_1 := OS.ext hod9_1 e14_3
        replace hom9_1 := OS.ext hom9_1 e14_3
        replace hod10_1 := OS.ext hod10_1 e14_3
        replace hom10_1 := OS.ext hom10_1 e14_3
        replace hod14_2 := OS.ext hod14_2 e14_3
        replace hom14_2 := OS.ext hom14_2 e14_3
        replace hb9_2 := BoxAt.ext hb9_2 e14_3
        replace hb10_2 := BoxAt.ext hb10_2 e14_3
        have := Ext.size e14_3
        replace eB := Ext.trans eB e14_3
        try simp (disch := decide) only [outv_some, outv_none, put_puts]
        refine plK_pres (Ext.pres e14_3) ?_
        try simp -implicitDefEqProofs (disch := first | decide | assumption | omega) only [go_sem, RdS.len hd sl37, RdS.idx hd sl37, R1.intB hd (Ext.pres eB), RdS.cells hd, RdS.len hm sl38, RdS.idx hm sl38, RdS.cellB hm (Ext.pres eB), RdS.cells hm, RdS.len hdy sl37, RdS.idx hdy sl37, R1.intB hdy (Ext.pres eB), RdS.cells hdy, RdS.len hmy sl38, RdS.idx hmy sl38, RdS.cellB hmy (Ext.pres eB), RdS.cells hmy, RdS.len (OS.rd hod9_1) sl37, RdS.idx (OS.rd hod9_1) sl37, R1.intN (OS.rd hod9_1), RdS.cells (OS.rd hod9_1), RdS.len (OS.rd hom9_1) sl38, RdS.idx (OS.rd hom9_1) sl38, RdS.cellN (OS.rd hom9_1), RdS.cells (OS.rd hom9_1), RdS.len (OS.rd hod10_1) sl37, RdS.idx (OS.rd hod10_1) sl37, R1.intN (OS.rd hod10_1), RdS.cells (OS.rd hod10_1), RdS.len (OS.rd hom10_1) sl38, RdS.idx (OS.rd hom10_1) sl38, RdS.cellN (OS.rd hom10_1), RdS.cells (OS.rd hom10_1), RdS.len (OS.rd hod14_2) sl37, RdS.idx (OS.rd hod14_2) sl37, R1.intN (OS.rd hod14_2), RdS.cells (OS.rd hod14_2), RdS.len (OS.rd hom14_2) sl38, RdS.idx (OS.rd hom14_2) sl38, RdS.cellN (OS.rd hom14_2), RdS.cells (OS.rd hom14_2), BoxAt.cellB hb0_0 eB, BoxAt.cellB hb0_1 eB, BoxAt.cell hb9_2, BoxAt.cell hb10_2]
        refine hK _ _ ?_
        clear hK K
        refine den_cond rfl (fun c3 => ?_) (fun c3 => ?_)
        · try simp only [decide_eq_true_eq, decide_eq_false_iff_not, beq_iff_eq, beq_eq_false_iff_ne, bne_iff_ne, ne_eq, Bool.not_eq_true', Bool.not_eq_false', Bool.and_eq_true, Bool.or_eq_true, bne_eq_false_iff_eq] at c3
          refine den_seq ?_
          refine den_region TTok ?_
          intro K hK
          simp -implicitDefEqProofs (disch := first | decide | assumption | omega) only [go_sem, RdS.len hd sl37, RdS.idx hd sl37, R1.intB hd (Ext.pres eB), RdS.cells hd, RdS.len hm sl38, RdS.idx hm sl38, RdS.cellB hm (Ext.pres eB), RdS.cells hm, RdS.len hdy sl37, RdS.idx hdy sl37, R1.intB hdy (Ext.pres eB), RdS.cells hdy, RdS.len hmy sl38, RdS.idx hmy sl38, RdS.cellB hmy (Ext.pres eB), RdS.cells hmy, BoxAt.cellB hb0_0 eB, BoxAt.cellB hb0_1 eB]
          refine hK _ _ ?_
          clear hK K
          refine den_ret ?_
          simp (disch := decide) only [resP_1, puts_same, puts_ne]
          exact absurd c3 (by simp [eqC_self])
        · try simp only [decide_eq_true_eq, decide_eq_false_iff_not, beq_iff_eq, beq_eq_false_iff_ne, bne_iff_ne, ne_eq, Bool.not_eq_true', Bool.not_eq_false', Bool.and_eq_true, Bool.or_eq_true, bne_eq_false_iff_eq] at c3
          refine den_skip ?_
          refine den_seq ?_
          refine den_seq ?_
          refine den_draw TTok mixed [] [(0, true), (1, true), (2, false), (3, false), (4, true)] (by kernel_rfl) ?_
          intro K hK
          simp -implicitDefEqProofs (disch := first | decide | assumption | omega) only [go_sem, ld44, ld40, RdS.len hd sl37, RdS.idx hd sl37, R1.intB hd (Ext.pres eB), RdS.cells hd, RdS.len hm sl38, RdS.idx hm sl38, RdS.cellB hm (Ext.pres eB), RdS.cells hm, RdS.len hdy sl37, RdS.idx hdy sl37, R1.intB hdy (Ext.pres eB), RdS.cells hdy, RdS.len hmy sl38, RdS.idx hmy sl38, RdS.cellB hmy (Ext.pres eB), RdS.cells hmy, RdS.len (OS.rd hod10_1) sl37, RdS.idx (OS.rd hod10_1) sl37, R1.intN (OS.rd hod10_1), RdS.cells (OS.rd hod10_1), RdS.len (OS.rd hom10_1) sl38, RdS.idx (OS.rd hom10_1) sl38, RdS.cellN (OS.rd hom10_1), RdS.cells (OS.rd hom10_1), BoxAt.cellB hb0_0 eB, BoxAt.cellB hb0_1 eB, BoxAt.cell hb10_2]
          try simp -implicitDefEqProofs (disch := first | decide | assumption | omega) only [go_sem, RdS.len hd sl37, RdS.idx hd sl37, R1.intB hd (Ext.pres eB), RdS.cells hd, RdS.len hm sl38, RdS.idx hm sl38, RdS.cellB hm (Ext.pres eB), RdS.cells hm, RdS.len hdy sl37, RdS.idx hdy sl37, R1.intB hdy (Ext.pres eB), RdS.cells hdy, RdS.len hmy sl38, RdS.idx hmy sl38, RdS.cellB hmy (Ext.pres eB), RdS.cells hmy, RdS.len (OS.rd hod10_1) sl37, RdS.idx (OS.rd hod10_1) sl37, R1.intN (OS.rd hod10_1), RdS.cells (OS.rd hod10_1), RdS.len (OS.rd hom10_1) sl38, RdS.idx (OS.rd hom10_1) sl38, RdS.cellN (OS.rd hom10_1), RdS.cells (OS.rd hom10_1), BoxAt.cellB hb0_0 eB, BoxAt.cellB hb0_1 eB, BoxAt.cell hb10_2]
          refine CallA.mono (toC_ok _ Y _ ⟨_, _, rfl, (RdS.pres hdy (Ext.pres eB)), (RdS.pres hmy (Ext.pres eB))⟩ hMY) ?_
          intro v_ h16_2
          rintro ⟨vd16_2, vm16_2, fd16_2, fm16_2, rfl, hod16_2, hom16_2, hf16_2, e16_2⟩
          replace hod10_1 := OS.ext hod10_1 e16_2
          replace hom10_1 := OS.ext hom10_1 e16_2
          replace hb10_2 := BoxAt.ext hb10_2 e16_2
          have := Ext.size e16_2
          replace eB := Ext.trans eB e16_2
          have hfd16_2 := hf16_2.left
          have hfm16_2 := hf16_2.right
          have hlhod16_2 := OS.lt hod16_2
          have hlhom16_2 := OS.lt hom16_2
          try simp (disch := decide) only [outv_some, outv_none, put_puts]
          refine plK_pres (Ext.pres e16_2) ?_
          try simp -implicitDefEqProofs (disch := first | decide | assumption | omega) only [go_sem, RdS.len hd sl37, RdS.idx hd sl37, R1.intB hd (Ext.pres eB), RdS.cells hd, RdS.len hm sl38, RdS.idx hm sl38, RdS.cellB hm (Ext.pres eB), RdS.cells hm, RdS.len hdy sl37, RdS.idx hdy sl37, R1.intB hdy (Ext.pres eB), RdS.cells hdy, RdS.len hmy sl38, RdS.idx hmy sl38, RdS.cellB hmy (Ext.pres eB), RdS.cells hmy, RdS.len (OS.rd hod10_1) sl37, RdS.idx (OS.rd hod10_1) sl37, R1.intN (OS.rd hod10_1), RdS.cells (OS.rd hod10_1), RdS.len (OS.rd hom10_1) sl38, RdS.idx (OS.rd hom10_1) sl38, RdS.cellN (OS.rd hom10_1), RdS.cells (OS.rd hom10_1), RdS.len (OS.rd hod16_2) sl37, RdS.idx (OS.rd hod16_2) sl37, R1.intN (OS.rd hod16_2), RdS.cells (OS.rd hod16_2), RdS.len (OS.rd hom16_2) sl38, RdS.idx (OS.rd hom16_2) sl38, RdS.cellN (OS.rd hom16_2), RdS.cells (OS.rd hom16_2), BoxAt.cellB hb0_0 eB, BoxAt.cellB hb0_1 eB, BoxAt.cell hb10_2]
          try simp -implicitDefEqProofs (disch := first | decide | assumption | omega) only [go_sem, RdS.len hd sl37, RdS.idx hd sl37, R1.intB hd (Ext.pres eB), RdS.cells hd, RdS.len hm sl38, RdS.idx hm sl38, RdS.cellB hm (Ext.pres eB), RdS.cells hm, RdS.len hdy sl37, RdS.idx hdy sl37, R1.intB hdy (Ext.pres eB), RdS.cells hdy, RdS.len hmy sl38, RdS.idx hmy sl38, RdS.cellB hmy (Ext.pres eB), RdS.cells hmy, RdS.len (OS.rd hod10_1) sl37, RdS.idx (OS.rd hod10_1) sl37, R1.intN (OS.rd hod10_1), RdS.cells (OS.rd hod10_1), RdS.len (OS.rd hom10_1) sl38, RdS.idx (OS.rd hom10_1) sl38, RdS.cellN (OS.rd hom10_1), RdS.cells (OS.rd hom10_1), RdS.len (OS.rd hod16_2) sl37, RdS.idx (OS.rd hod16_2) sl37, R1.intN (OS.rd hod16_2), RdS.cells (OS.rd hod16_2), RdS.len (OS.rd hom16_2) sl38, RdS.idx (OS.rd hom16_2) sl38, RdS.cellN (OS.rd hom16_2), RdS.cells (OS.rd hom16_2), BoxAt.cellB hb0_0 eB, BoxAt.cellB hb0_1 eB, BoxAt.cell hb10_2]
          refine CallA.mono (eqC_ok _ _ Y Y _ ⟨_, _, rfl, (OS.rd hod10_1), (OS.rd hom10_1)⟩ ⟨_, _, rfl, (OS.rd hod16_2), (OS.rd hom16_2)⟩) ?_
          intro v_ h16_3
          rintro ⟨rfl, e16_3⟩
          replace hod10_1 := OS.ext hod10_1 e16_3
          replace hom10_1 := OS.ext hom10_1 e16_3
          replace hod16_2 := OS.ext hod16_2 e16_3
          replace hom16_2 := OS.ext hom16_2 e16_3
          replace hb10_2 := BoxAt.ext hb10_2 e16_3
          have := Ext.size e16_3
          replace eB := Ext.trans eB e16_3
          try simp (disch := decide) only [outv_some, outv_none, put_puts]
          refine plK_pres (Ext.pres e16_3) ?_
          try simp -implicitDefEqProofs (disch := first | decide | assumption | omega) only [go_sem, RdS.len hd sl37, RdS.idx hd sl37, R1.intB hd (Ext.pres eB), RdS.cells hd, RdS.len hm sl38, RdS.idx hm sl38, RdS.cellB hm (Ext.pres eB), RdS.cells hm, RdS.len hdy sl37, RdS.idx hdy sl37, R1.intB hdy (Ext.pres eB), RdS.cells hdy, RdS.len hmy sl38, RdS.idx hmy sl38, RdS.cellB hmy (Ext.pres eB), RdS.cells hmy, RdS.len (OS.rd hod10_1) sl37, RdS.idx (OS.rd hod10_1) sl37, R1.intN (OS.rd hod10_1), RdS.cells (OS.rd hod10_1), RdS.len (OS.rd hom10_1) sl38, RdS.idx (OS.rd hom10_1) sl38, RdS.cellN (OS.rd hom10_1), RdS.cells (OS.rd hom10_1), RdS.len (OS.rd hod16_2) sl37, RdS.idx (OS.rd hod16_2) sl37, R1.intN (OS.rd hod16_2), RdS.cells (OS.rd hod16_2), RdS.len (OS.rd hom16_2) sl38, RdS.idx (OS.rd hom16_2) sl38, RdS.cellN (OS.rd hom16_2), RdS.cells (OS.rd hom16_2), BoxAt.cellB hb0_0 eB, BoxAt.cellB hb0_1 eB, BoxAt.cell hb10_2]
          refine hK _ _ ?_
          clear hK K
          refine den_cond rfl (fun c4 => ?_) (fun c4 => ?_)
          · try simp only [decide_eq_true_eq, decide_eq_false_iff_not, beq_iff_eq, beq_eq_false_iff_ne, bne_iff_ne, ne_eq, Bool.not_eq_true', Bool.not_eq_false', Bool.and_eq_true, Bool.or_eq_true, bne_eq_false_iff_eq] at c4
            refine den_seq ?_
            refine den_region TTok ?_
            intro K hK
            simp -implicitDefEqProofs (disch := first | decide | assumption | omega) only [go_sem, RdS.len hd sl37, RdS.idx hd sl37, R1.intB hd (Ext.pres eB), RdS.cells hd, RdS.len hm sl38, RdS.idx hm sl38, RdS.cellB hm (Ext.pres eB), RdS.cells hm, RdS.len hdy sl37, RdS.idx hdy sl37, R1.intB hdy (Ext.pres eB), RdS.cells hdy, RdS.len hmy sl38, RdS.idx hmy sl38, RdS.cellB hmy (Ext.pres eB), RdS.cells hmy, BoxAt.cellB hb0_0 eB, BoxAt.cellB hb0_1 eB]
            refine hK _ _ ?_
            clear hK K
            refine den_ret ?_
            simp (disch := decide) only [resP_1, puts_same, puts_ne]
            exact absurd c4 (by simp [eqC_self])
          · try simp only [decide_eq_true_eq, decide_eq_false_iff_not, beq_iff_eq, beq_eq_false_iff_ne, bne_iff_ne, ne_eq, Bool.not_eq_true', Bool.not_eq_false', Bool.and_eq_true, Bool.or_eq_true, bne_eq_false_iff_eq] at c4
            refine den_skip ?_
            refine den_seq ?_
            refine den_region TTok ?_
            intro K hK
            simp -implicitDefEqProofs (disch := first | decide | assumption | omega) only [go_sem, RdS.len hd sl37, RdS.idx hd sl37, R1.intB hd (Ext.pres eB), RdS.cells hd, RdS.len hm sl38, RdS.idx hm sl38, RdS.cellB hm (Ext.pres eB), RdS.cells hm, RdS.len hdy sl37, RdS.idx hdy sl37, R1.intB hdy (Ext.pres eB), RdS.cells hdy, RdS.len hmy sl38, RdS.idx hmy sl38, RdS.cellB hmy (Ext.pres eB), RdS.cells hmy, BoxAt.cellB hb0_0 eB, BoxAt.cellB hb0_1 eB]
            refine hK _ _ ?_
            clear hK K
            refine den_ret ?_
            simp (disch := decide) only [resP_1, puts_same, puts_ne]
            exact ⟨by first | rfl | trivial, (Ext.trans (Ext.trans e0_0 e0_1) eB)⟩

end Go.Proofs.Ytkkjhomhndpphaa
