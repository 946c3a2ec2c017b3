/-
  Walks: vectors and rows.
  Conditions: each theorem's own.
-/
import Derived.Test.YtacajcjibhifmaaDoorS7
set_option linter.unusedVariables false
set_option linter.unusedSimpArgs false
namespace Go.Proofs.YtacajcjibhifmaaDoor
open Go
theorem isRow_any {p n : Int} {xs : List Int} : (((xs.length : Int) == n) && !(xs.any fun x => !in3 x 0 (p - 1))) = isRow p n xs := by
  rw [isRow, List.not_any_eq_all_not]
  congr 1
  congr 1
  funext x
  exact Bool.not_not _
theorem rows_any {p n : Int} {R : List (List Int)} : (!(R.any fun r => !isRow p n r)) = R.all (isRow p n) := by
  rw [List.not_any_eq_all_not]
  congr 1
  funext x
  exact Bool.not_not _
theorem isP_bnd {p : Int} (h : isP p = true) : 0 < p ∧ p ≤ 7 := by
  simp only [isP, Bool.or_eq_true, beq_iff_eq] at h; omega

set_option maxRecDepth 100000 in
theorem isVec1_ok (p x : Int) (b : Nat) (h : Heap) (hb : BoxAt h b #[.int .i64 p] 2) (hp : -9223372036854775807 ≤ p ∧ p ≤ 9223372036854775807) : CallA Tryd.prog 55 #[.int .i64 x, .pointer (some ⟨b, 0, none⟩)] h fun v h' => v = .bool (!in3 x 0 (p - 1)) ∧ h' = h := by
  refine callA_intro TTok (args := [_, _]) Tryd.func55 (by kernel_rfl) rfl 9 rfl (by simp) [.tmp 3] rfl ?_
  simp only [idxs, Nat.reduceAdd]
  refine den_seq ?_
  refine den_region TTok ?_
  intro K hK
  simp -implicitDefEqProofs (disch := first | decide | assumption | omega) only [go_sem, BoxAt.cell hb, wrap_id]
  refine hK _ _ ?_
  clear hK K
  refine den_seq ?_
  refine den_region TTok ?_
  intro K hK
  simp -implicitDefEqProofs (disch := first | decide | assumption | omega) only [go_sem, ld2, BoxAt.cell hb, wrap_id]
  try simp -implicitDefEqProofs (disch := first | decide | assumption | omega) only [go_sem, BoxAt.cell hb, wrap_id]
  refine CallA.pure (iIn_ok _ _ _ _) ?_
  try simp -implicitDefEqProofs (disch := first | decide | assumption | omega) only [go_sem, BoxAt.cell hb, wrap_id]
  refine hK _ _ ?_
  clear hK K
  refine den_ret ?_
  simp (disch := decide) only [resP_1, puts_same, puts_ne]
  exact ⟨by first | rfl | trivial, trivial⟩

set_option maxRecDepth 100000 in
theorem isVec_ok (p n : Int) (v : Value) (xs : List Int) (h : Heap) (hv : R1 h v xs) (hp : -9223372036854775807 ≤ p ∧ p ≤ 9223372036854775807) : CallA Tryd.prog 47 #[.int .i64 p, .int .i64 n, v] h fun v' h' => v' = .bool (isRow p n xs) ∧ Ext h h' := by
  refine callA_intro TTok (args := [_, _, _]) Tryd.func47 (by kernel_rfl) rfl 17 rfl (by simp) [.tmp 6] rfl ?_
  simp only [idxs, Nat.reduceAdd]
  refine den_seq ?_
  refine den_region TTok ?_
  intro K hK
  simp -implicitDefEqProofs (disch := first | decide | assumption | omega) only [go_sem, RdS.len hv sl22, RdS.idx hv sl22, R1.intB hv (HPres.refl _), RdS.cells hv]
  refine op_box (cs := #[.int .i64 (p)]) rfl ?_
  intro h0_0 e0_0 hb0_0 z0_0
  replace hv := RdS.pres hv (Ext.pres e0_0)
  try simp -implicitDefEqProofs (disch := first | decide | assumption | omega) only [go_sem, RdS.len hv sl22, RdS.idx hv sl22, R1.intB hv (HPres.refl _), RdS.cells hv, BoxAt.cell hb0_0]
  refine hK _ _ ?_
  clear hK K
  refine den_seq ?_
  refine den_merge [(6, .bool (((((xs).length : Int) == n) && (!((xs.any fun x => !in3 x 0 (p - 1)))))))] [] (fun H => Ext h0_0 H) ?_ ?_
    -- a way
  · refine den_region TTok ?_
    intro K hK
    simp -implicitDefEqProofs (disch := first | decide | assumption | (simp (disch := decide) only [slotOf_zero, slotOf_succ, Option.map_some, puts_same, puts_ne, gv_bool, gv_undef, tt, tf, ft, ff, eq_self, if_true, if_false, Bool.false_eq_true, Bool.not_true, Bool.not_false]; done) | omega) only [go_sem, RdS.len hv sl22, RdS.idx hv sl22, R1.intB hv (HPres.refl _), RdS.cells hv, BoxAt.cell hb0_0]
    try simp -implicitDefEqProofs (disch := first | decide | assumption | omega) only [go_sem, RdS.len hv sl22, RdS.idx hv sl22, R1.intB hv (HPres.refl _), RdS.cells hv, BoxAt.cell hb0_0]
    refine CallA.pure (size1_ok _ _ _ hv) ?_
    try simp -implicitDefEqProofs (disch := first | decide | assumption | (simp (disch := decide) only [slotOf_zero, slotOf_succ, Option.map_some, puts_same, puts_ne, gv_bool, gv_undef, tt, tf, ft, ff, eq_self, if_true, if_false, Bool.false_eq_true, Bool.not_true, Bool.not_false]; done) | omega) only [go_sem, RdS.len hv sl22, RdS.idx hv sl22, R1.intB hv (HPres.refl _), RdS.cells hv, BoxAt.cell hb0_0]
    refine opsP_T (by simp (disch := decide) only [slotOf_zero, slotOf_succ, Option.map_some, puts_same, puts_ne, gv_bool, gv_undef, tt, tf, ft, ff, eq_self, if_true, if_false, Bool.false_eq_true, Bool.not_true, Bool.not_false]; rfl) (fun g1 => ?_) (fun g1 => ?_)
    · try simp -implicitDefEqProofs (disch := first | decide | assumption | (simp (disch := decide) only [slotOf_zero, slotOf_succ, Option.map_some, puts_same, puts_ne, gv_bool, gv_undef, tt, tf, ft, ff, eq_self, if_true, if_false, Bool.false_eq_true, Bool.not_true, Bool.not_false, g1]; done) | omega) only [go_sem, RdS.len hv sl22, RdS.idx hv sl22, R1.intB hv (HPres.refl _), RdS.cells hv, BoxAt.cell hb0_0, g1, eq_self, if_true, if_false, Bool.false_eq_true]
      try simp -implicitDefEqProofs (disch := first | decide | assumption | omega) only [go_sem, RdS.len hv sl22, RdS.idx hv sl22, R1.intB hv (HPres.refl _), RdS.cells hv, BoxAt.cell hb0_0]
      refine CallA.mono (has1_ok _ xs _ _ (fun x => !in3 x 0 (p - 1)) _ hv (fun j hj h' e => by
      simp only [List.append_toArray, List.cons_append, List.nil_append]
      exact CallA.mono (isVec1_ok p _ _ _ (BoxAt.ext hb0_0 e) hp) (fun _ _ ⟨e1, e2⟩ => ⟨e1, e2 ▸ Ext.refl _⟩))) ?_
      intro v_ h1_7
      rintro ⟨rfl, e1_7⟩
      have := Ext.size e1_7
      have eB := e1_7
      try simp -implicitDefEqProofs (disch := first | decide | assumption | (simp (disch := decide) only [slotOf_zero, slotOf_succ, Option.map_some, puts_same, puts_ne, gv_bool, gv_undef, tt, tf, ft, ff, eq_self, if_true, if_false, Bool.false_eq_true, Bool.not_true, Bool.not_false, g1]; done) | omega) only [go_sem, RdS.len hv sl22, RdS.idx hv sl22, R1.intB hv (Ext.pres eB), RdS.cells hv, BoxAt.cellB hb0_0 eB, g1, eq_self, if_true, if_false, Bool.false_eq_true]
      refine hK _ _ ?_
      clear hK K
      refine den_stop ?_
      refine ⟨?_, e1_7⟩
      first | (simp (disch := decide) only [go_sem, g1, eq_self, Bool.true_and, Bool.and_true, Bool.false_and, Bool.and_false, Bool.true_or, Bool.or_true, Bool.false_or, Bool.or_false, if_true, if_false, Bool.false_eq_true]; done) | simp [HasL, sel, puts_at, g1]
    · try simp -implicitDefEqProofs (disch := first | decide | assumption | (simp (disch := decide) only [slotOf_zero, slotOf_succ, Option.map_some, puts_same, puts_ne, gv_bool, gv_undef, tt, tf, ft, ff, eq_self, if_true, if_false, Bool.false_eq_true, Bool.not_true, Bool.not_false, g1]; done) | omega) only [go_sem, RdS.len hv sl22, RdS.idx hv sl22, R1.intB hv (HPres.refl _), RdS.cells hv, BoxAt.cell hb0_0, g1, eq_self, if_true, if_false, Bool.false_eq_true]
      refine hK _ _ ?_
      clear hK K
      refine den_stop ?_
      refine ⟨?_, Ext.refl _⟩
      first | (simp (disch := decide) only [go_sem, g1, eq_self, Bool.true_and, Bool.and_true, Bool.false_and, Bool.and_false, Bool.true_or, Bool.or_true, Bool.false_or, Bool.or_false, if_true, if_false, Bool.false_eq_true]; done) | simp [HasL, sel, puts_at, g1]
  intro en2 h3 e4
  have := Ext.size e4
  have eB := e4
  simp (disch := decide) only [go_sem]
  refine den_ret ?_
  simp (disch := decide) only [resP_1, puts_same, puts_ne]
  exact ⟨vbool isRow_any, (Ext.trans e0_0 eB)⟩

set_option maxRecDepth 100000 in
theorem areRows1_ok (p n : Int) (v : Value) (xs : List Int) (b c : Nat) (h : Heap) (hv : R1 h v xs) (hb : BoxAt h b #[.int .i64 p] 2) (hc : BoxAt h c #[.int .i64 n] 2) (hp : -9223372036854775807 ≤ p ∧ p ≤ 9223372036854775807) : CallA Tryd.prog 46 #[v, .pointer (some ⟨b, 0, none⟩), .pointer (some ⟨c, 0, none⟩)] h fun v' h' => v' = .bool (!isRow p n xs) ∧ Ext h h' := by
  refine callA_intro TTok (args := [_, _, _]) Tryd.func46 (by kernel_rfl) rfl 10 rfl (by simp) [.tmp 4] rfl ?_
  simp only [idxs, Nat.reduceAdd]
  refine den_seq ?_
  refine den_region TTok ?_
  intro K hK
  simp -implicitDefEqProofs (disch := first | decide | assumption | omega) only [go_sem, RdS.len hv sl22, RdS.idx hv sl22, R1.intB hv (HPres.refl _), RdS.cells hv, BoxAt.cell hb, BoxAt.cell hc]
  refine hK _ _ ?_
  clear hK K
  refine den_seq ?_
  refine den_region TTok ?_
  intro K hK
  simp -implicitDefEqProofs (disch := first | decide | assumption | omega) only [go_sem, ld2, RdS.len hv sl22, RdS.idx hv sl22, R1.intB hv (HPres.refl _), RdS.cells hv, BoxAt.cell hb, BoxAt.cell hc]
  try simp -implicitDefEqProofs (disch := first | decide | assumption | omega) only [go_sem, RdS.len hv sl22, RdS.idx hv sl22, R1.intB hv (HPres.refl _), RdS.cells hv, BoxAt.cell hb, BoxAt.cell hc]
  refine CallA.mono (isVec_ok _ _ _ _ _ hv (by omega)) ?_
  intro v_ h1_3
  rintro ⟨rfl, e1_3⟩
  have := Ext.size e1_3
  have eB := e1_3
  try simp -implicitDefEqProofs (disch := first | decide | assumption | omega) only [go_sem, RdS.len hv sl22, RdS.idx hv sl22, R1.intB hv (Ext.pres eB), RdS.cells hv, BoxAt.cellB hb eB, BoxAt.cellB hc eB]
  refine hK _ _ ?_
  clear hK K
  refine den_ret ?_
  simp (disch := decide) only [resP_1, puts_same, puts_ne]
  exact ⟨by first | rfl | trivial, eB⟩

set_option maxRecDepth 100000 in
theorem areRows_ok (p n : Int) (v : Value) (R : List (List Int)) (h : Heap) (hv : R2 h v R) (hp : -9223372036854775807 ≤ p ∧ p ≤ 9223372036854775807) : CallA Tryd.prog 35 #[.int .i64 p, .int .i64 n, v] h fun v' h' => v' = .bool (R.all (isRow p n)) ∧ Ext h h' := by
  refine callA_intro TTok (args := [_, _, _]) Tryd.func35 (by kernel_rfl) rfl 11 rfl (by simp) [.tmp 6] rfl ?_
  simp only [idxs, Nat.reduceAdd]
  refine den_seq ?_
  refine den_region TTok ?_
  intro K hK
  simp -implicitDefEqProofs (disch := first | decide | assumption | omega) only [go_sem, RdS.len hv sl43, RdS.idx hv sl43, RdS.cellB hv (HPres.refl _), RdS.cells hv]
  refine op_box (cs := #[.int .i64 (p)]) rfl ?_
  intro h0_0 e0_0 hb0_0 z0_0
  replace hv := RdS.pres hv (Ext.pres e0_0)
  try simp -implicitDefEqProofs (disch := first | decide | assumption | omega) only [go_sem, RdS.len hv sl43, RdS.idx hv sl43, RdS.cellB hv (HPres.refl _), RdS.cells hv, BoxAt.cell hb0_0]
  refine op_box (cs := #[.int .i64 (n)]) rfl ?_
  intro h0_1 e0_1 hb0_1 z0_1
  replace hv := RdS.pres hv (Ext.pres e0_1)
  replace hb0_0 := BoxAt.ext hb0_0 e0_1
  try simp -implicitDefEqProofs (disch := first | decide | assumption | omega) only [go_sem, RdS.len hv sl43, RdS.idx hv sl43, RdS.cellB hv (HPres.refl _), RdS.cells hv, BoxAt.cell hb0_0, BoxAt.cell hb0_1]
  refine hK _ _ ?_
  clear hK K
  refine den_seq ?_
  refine den_region TTok ?_
  intro K hK
  simp -implicitDefEqProofs (disch := first | decide | assumption | omega) only [go_sem, RdS.len hv sl43, RdS.idx hv sl43, RdS.cellB hv (HPres.refl _), RdS.cells hv, BoxAt.cell hb0_0, BoxAt.cell hb0_1]
  try simp -implicitDefEqProofs (disch := first | decide | assumption | omega) only [go_sem, RdS.len hv sl43, RdS.idx hv sl43, RdS.cellB hv (HPres.refl _), RdS.cells hv, BoxAt.cell hb0_0, BoxAt.cell hb0_1]
  refine CallA.mono (has2_ok _ R _ _ (fun r => !isRow p n r) _ hv (fun j hj h' e => by
      simp only [List.append_toArray, List.cons_append, List.nil_append]
      exact CallA.mono (areRows1_ok p n _ _ _ _ _ ((RdS.rowN hv j hj).pres (Ext.pres e)) (BoxAt.ext hb0_0 e) (BoxAt.ext hb0_1 e) hp) (fun _ _ ⟨e1, e2⟩ => ⟨e1, e2⟩))) ?_
  intro v_ h1_2
  rintro ⟨rfl, e1_2⟩
  have := Ext.size e1_2
  have eB := e1_2
  try simp -implicitDefEqProofs (disch := first | decide | assumption | omega) only [go_sem, RdS.len hv sl43, RdS.idx hv sl43, RdS.cellB hv (Ext.pres eB), RdS.cells hv, BoxAt.cellB hb0_0 eB, BoxAt.cellB hb0_1 eB]
  refine hK _ _ ?_
  clear hK K
  refine den_ret ?_
  simp (disch := decide) only [resP_1, puts_same, puts_ne]
  exact ⟨vbool rows_any, (Ext.trans (Ext.trans e0_0 e0_1) eB)⟩

set_option maxRecDepth 100000 in
theorem isZero1_ok (x : Int) (h : Heap) : CallA Tryd.prog 48 #[.int .i64 x] h fun v h' => v = .bool (x != 0) ∧ h' = h := by
  refine callA_intro TTok (args := [_]) Tryd.func48 (by kernel_rfl) rfl 5 rfl (by simp) [.tmp 2] rfl ?_
  simp only [idxs, Nat.reduceAdd]
  refine den_seq ?_
  refine den_region TTok ?_
  intro K hK
  simp -implicitDefEqProofs (disch := first | decide | assumption | omega) only [go_sem]
  refine hK _ _ ?_
  clear hK K
  refine den_seq ?_
  refine den_region TTok ?_
  intro K hK
  simp -implicitDefEqProofs (disch := first | decide | assumption | omega) only [go_sem]
  refine hK _ _ ?_
  clear hK K
  refine den_ret ?_
  simp (disch := decide) only [resP_1, puts_same, puts_ne]
  exact ⟨by first | rfl | trivial, trivial⟩

set_option maxRecDepth 100000 in
theorem isZero_ok (v : Value) (xs : List Int) (h : Heap) (hv : R1 h v xs) : CallA Tryd.prog 36 #[v] h fun v' h' => v' = .bool (!xs.any (fun x => x != 0)) ∧ Ext h h' := by
  refine callA_intro TTok (args := [_]) Tryd.func36 (by kernel_rfl) rfl 6 rfl (by simp) [.tmp 2] rfl ?_
  simp only [idxs, Nat.reduceAdd]
  refine den_seq ?_
  refine den_region TTok ?_
  intro K hK
  simp -implicitDefEqProofs (disch := first | decide | assumption | omega) only [go_sem, RdS.len hv sl22, RdS.idx hv sl22, R1.intB hv (HPres.refl _), RdS.cells hv]
  refine hK _ _ ?_
  clear hK K
  refine den_seq ?_
  refine den_region TTok ?_
  intro K hK
  simp -implicitDefEqProofs (disch := first | decide | assumption | omega) only [go_sem, RdS.len hv sl22, RdS.idx hv sl22, R1.intB hv (HPres.refl _), RdS.cells hv]
  try simp -implicitDefEqProofs (disch := first | decide | assumption | omega) only [go_sem, RdS.len hv sl22, RdS.idx hv sl22, R1.intB hv (HPres.refl _), RdS.cells hv]
  refine CallA.mono (has1_ok _ xs _ _ (fun x => x != 0) _ hv (fun j hj h' e => by
      simp only [List.append_toArray, List.cons_append, List.nil_append]
      exact CallA.mono (isZero1_ok _ _) (fun _ _ ⟨e1, e2⟩ => ⟨e1, e2 ▸ Ext.refl _⟩))) ?_
  intro v_ h1_1
  rintro ⟨rfl, e1_1⟩
  have := Ext.size e1_1
  have eB := e1_1
  try simp -implicitDefEqProofs (disch := first | decide | assumption | omega) only [go_sem, RdS.len hv sl22, RdS.idx hv sl22, R1.intB hv (Ext.pres eB), RdS.cells hv]
  refine hK _ _ ?_
  clear hK K
  refine den_ret ?_
  simp (disch := decide) only [resP_1, puts_same, puts_ne]
  exact ⟨by first | rfl | trivial, eB⟩

set_option maxRecDepth 100000 in
theorem isC1_ok (x : Int) (h : Heap) : CallA Tryd.prog 33 #[.int .i64 x] h fun v h' => v = .bool (!in3 x 0 8) ∧ h' = h := by
  refine callA_intro TTok (args := [_]) Tryd.func33 (by kernel_rfl) rfl 6 rfl (by simp) [.tmp 2] rfl ?_
  simp only [idxs, Nat.reduceAdd]
  refine den_seq ?_
  refine den_region TTok ?_
  intro K hK
  simp -implicitDefEqProofs (disch := first | decide | assumption | omega) only [go_sem]
  refine hK _ _ ?_
  clear hK K
  refine den_seq ?_
  refine den_region TTok ?_
  intro K hK
  simp -implicitDefEqProofs (disch := first | decide | assumption | omega) only [go_sem]
  try simp -implicitDefEqProofs (disch := first | decide | assumption | omega) only [go_sem]
  refine CallA.pure (iIn_ok _ _ _ _) ?_
  try simp -implicitDefEqProofs (disch := first | decide | assumption | omega) only [go_sem]
  refine hK _ _ ?_
  clear hK K
  refine den_ret ?_
  simp (disch := decide) only [resP_1, puts_same, puts_ne]
  exact ⟨by first | rfl | trivial, trivial⟩

end Go.Proofs.YtacajcjibhifmaaDoor
