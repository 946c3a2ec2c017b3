/-
  Walks: a vector through a table.
  Conditions: each theorem's own.
-/
import Derived.Test.YtacajcjibhifmaaDoorS5
set_option linter.unusedVariables false
set_option linter.unusedSimpArgs false
namespace Go.Proofs.YtacajcjibhifmaaDoor
open Go
/-- One row, times x, is added. -/
def stepRow (p x : Int) (row acc : List Int) : List Int := List.zipWith (fun o y => (o + x * y).tmod p) acc row
def accP (p : Int) : List Int → List (List Int) → List Int → List Int
  | x :: v, r :: rows, acc => accP p v rows (stepRow p x r acc)
  | _, _, acc => acc
def Bnd (p : Int) (v : List Int) : Prop := ∀ x ∈ v, 0 ≤ x ∧ x < p
theorem Bnd.at {p : Int} {v : List Int} (h : Bnd p v) {k : Nat} (hk : k < v.length) : 0 ≤ v.getD k 0 ∧ v.getD k 0 < p := by
  rw [List.getD_eq_getElem?_getD, List.getElem?_eq_getElem hk]; exact h _ (List.getElem_mem hk)
theorem Bnd.zeros {p : Int} (hp : 0 < p) (m : Nat) : Bnd p (List.replicate m 0) := fun x hx => by
  rw [List.eq_of_mem_replicate hx]; omega
theorem stepRow_len {p x : Int} {row acc : List Int} (h : row.length = acc.length) : (stepRow p x row acc).length = acc.length := by simp [stepRow, h]
theorem stepRow_get {p x : Int} {row acc : List Int} (h : row.length = acc.length) {m : Nat} (hm : m < acc.length) : (stepRow p x row acc).getD m 0 = (acc.getD m 0 + x * row.getD m 0).tmod p := by
  simp only [stepRow, List.getD_eq_getElem?_getD, List.getElem?_zipWith, List.getElem?_eq_getElem hm, List.getElem?_eq_getElem (by omega : m < row.length), Option.getD_some]
theorem mul36 {x y p : Int} (hx : 0 ≤ x ∧ x < p) (hy : 0 ≤ y ∧ y < p) (hp : p ≤ 7) : 0 ≤ x * y ∧ x * y ≤ 36 := by
  refine ⟨Int.mul_nonneg hx.1 hy.1, ?_⟩
  have := Int.mul_le_mul (show x ≤ 6 by omega) (show y ≤ 6 by omega) hy.1 (by omega : (0 : Int) ≤ 6)
  simpa using this
theorem tmod_bnd {a p : Int} (h : 0 ≤ a) (hp : 0 < p) : 0 ≤ a.tmod p ∧ a.tmod p < p := ⟨Int.tmod_nonneg _ h, Int.tmod_lt_of_pos _ hp⟩
theorem stepRow_bnd {p x : Int} {row acc : List Int} (hp : 0 < p) (hx : 0 ≤ x) (hr : Bnd p row) (ha : Bnd p acc) : Bnd p (stepRow p x row acc) := by
  intro z hz
  rw [stepRow, List.mem_iff_getElem] at hz
  obtain ⟨i, hi, rfl⟩ := hz
  rw [List.getElem_zipWith]
  exact tmod_bnd (Int.add_nonneg (ha _ (List.getElem_mem _)).1 (Int.mul_nonneg hx (hr _ (List.getElem_mem _)).1)) hp
theorem step_set {p x : Int} {row acc : List Int} {m : Nat} (h : row.length = acc.length) (hm : m < acc.length) :
    (mix (stepRow p x row acc) acc m).set m (((mix (stepRow p x row acc) acc m).getD m 0 + x * row.getD m 0).tmod p) = mix (stepRow p x row acc) acc (m + 1) := by
  rw [mix_get _ _ _ _ (stepRow_len h) hm, ← stepRow_get h hm, mix_set _ _ _ _ (stepRow_len h) hm]
theorem drop_get {α : Type} {xs : List α} {k : Nat} (d : α) (hk : k < xs.length) : xs.drop k = xs.getD k d :: xs.drop (k + 1) := by
  rw [List.drop_eq_getElem_cons hk, List.getD_eq_getElem?_getD, List.getElem?_eq_getElem hk]; rfl
theorem accP_step {p : Int} {v : List Int} {rows : List (List Int)} {acc : List Int} {k : Nat} (hk : k < v.length) (hr : k < rows.length) : accP p (v.drop k) (rows.drop k) acc = accP p (v.drop (k + 1)) (rows.drop (k + 1)) (stepRow p (v.getD k 0) (rows.getD k default) acc) := by
  rw [drop_get 0 hk, drop_get default hr]; rfl
theorem accP_end {p : Int} {v : List Int} {rows : List (List Int)} {acc : List Int} {k : Nat} (hk : ¬ k < v.length) : accP p (v.drop k) (rows.drop k) acc = acc := by
  rw [List.drop_eq_nil_of_le (by omega)]
  cases rows.drop k <;> rfl
/-- Rows of w numbers modulo p. -/
def Tbl (p w : Int) (rows : List (List Int)) : Prop := ∀ r ∈ rows, (r.length : Int) = w ∧ Bnd p r
theorem Tbl.at {p w : Int} {rows : List (List Int)} (h : Tbl p w rows) {k : Nat} (hk : k < rows.length) : ((rows.getD k default).length : Int) = w ∧ Bnd p (rows.getD k default) := h _ (getD_mem hk)
theorem isRow_iff {p n : Int} {r : List Int} : isRow p n r = true ↔ (r.length : Int) = n ∧ Bnd p r := by
  simp only [isRow, Bool.and_eq_true, decide_eq_true_eq, List.all_eq_true, in3_iff, Bnd]
  constructor <;> rintro ⟨h1, h2⟩ <;> exact ⟨h1, fun x hx => by have := h2 x hx; omega⟩
theorem tableP_iff {p : Int} {rows : List (List Int)} {c w : Int} : tableP p rows c w = true ↔ (rows.length : Int) = c ∧ Tbl p w rows := by
  simp only [tableP, Bool.and_eq_true, decide_eq_true_eq, List.all_eq_true, isRow_iff, Tbl]
theorem accP_bnd {p : Int} (hp : 0 < p) : ∀ {v : List Int} {rows : List (List Int)} {acc : List Int} {w : Int}, Bnd p v → Tbl p w rows → Bnd p acc → Bnd p (accP p v rows acc)
  | [], _, _, _, _, _, h => h
  | _ :: _, [], _, _, _, _, h => h
  | x :: v, r :: rows, acc, w, hv, ht, h => by
    rw [accP]
    exact accP_bnd hp (fun y hy => hv y (List.mem_cons_of_mem _ hy)) (w := w) (fun y hy => ht y (List.mem_cons_of_mem _ hy)) (stepRow_bnd hp (hv x (by simp)).1 (ht r (by simp)).2 h)
theorem accP_len {p : Int} : ∀ {v : List Int} {rows : List (List Int)} {acc : List Int}, Tbl p acc.length rows → (accP p v rows acc).length = acc.length
  | [], _, _, _ => rfl
  | _ :: _, [], _, _ => rfl
  | x :: v, r :: rows, acc, ht => by
    have h1 := (ht r (by simp)).1
    have h2 := stepRow_len (p := p) (x := x) (row := r) (acc := acc) (by omega)
    rw [accP, accP_len (by rw [h2]; exact fun y hy => ht y (List.mem_cons_of_mem _ hy)), h2]

set_option maxRecDepth 100000 in
theorem sApply_ok (p : Int) (vr vv : Value) (rows : List (List Int)) (v : List Int) (w : Int) (h : Heap) (hv : R1 h vv v) (hr : R2 h vr rows) (hp : 0 < p ∧ p ≤ 7) (hw : 0 ≤ w ∧ w ≤ 1048576) (hl : v.length ≤ rows.length) (hv0 : Bnd p v) (hr0 : Tbl p w rows) : CallA Tryd.prog 24 #[.int .i64 p, vr, vv, .int .i64 w] h fun v' h' => ∃ f, O1 h' v' (accP p v rows (List.replicate w.toNat 0)) f ∧ Fresh h.size f ∧ Ext h h' := by
  have hle := RdS.le hv
  refine callA_intro TTok (args := [_, _, _, _]) Tryd.func24 (by kernel_rfl) rfl 49 rfl (by simp) [.tmp 8] rfl ?_
  simp only [idxs, Nat.reduceAdd]
  refine den_seq ?_
  refine den_region TTok ?_
  intro K hK
  simp -implicitDefEqProofs (disch := first | decide | assumption | omega) only [go_sem, RdS.len hr sl43, RdS.idx hr sl43, RdS.cellB hr (HPres.refl _), RdS.cells hr, RdS.len hv sl22, RdS.idx hv sl22, R1.intB hv (HPres.refl _), RdS.cells hv, wrap_id]
  refine hK _ _ ?_
  clear hK K
  refine den_seq ?_
  refine den_region TTok ?_
  intro K hK
  simp -implicitDefEqProofs (disch := first | decide | assumption | omega) only [go_sem, RdS.len hr sl43, RdS.idx hr sl43, RdS.cellB hr (HPres.refl _), RdS.cells hr, RdS.len hv sl22, RdS.idx hv sl22, R1.intB hv (HPres.refl _), RdS.cells hv, wrap_id]
  refine op_make sz22 rfl rfl (by omega) (by omega) OI 0 (fun _ => ⟨rfl, rfl⟩) ?_
  intro v1_1 h1_1 ho1_1 e1_1
  have := Ext.size e1_1
  have eB := e1_1
  try simp -implicitDefEqProofs (disch := first | decide | assumption | omega) only [go_sem, RdS.len hr sl43, RdS.idx hr sl43, RdS.cellB hr (Ext.pres eB), RdS.cells hr, RdS.len hv sl22, RdS.idx hv sl22, R1.intB hv (Ext.pres eB), RdS.cells hv, RdS.len (OS.rd ho1_1) sl22, RdS.idx (OS.rd ho1_1) sl22, R1.intN (OS.rd ho1_1), RdS.cells (OS.rd ho1_1), wrap_id]
  refine hK _ _ ?_
  clear hK K
  refine den_seq ?_
  refine den_seq ?_
  refine den_region TTok ?_
  intro K hK
  simp -implicitDefEqProofs (disch := first | decide | assumption | omega) only [go_sem, RdS.len hr sl43, RdS.idx hr sl43, RdS.cellB hr (Ext.pres eB), RdS.cells hr, RdS.len hv sl22, RdS.idx hv sl22, R1.intB hv (Ext.pres eB), RdS.cells hv, RdS.len (OS.rd ho1_1) sl22, RdS.idx (OS.rd ho1_1) sl22, R1.intN (OS.rd ho1_1), RdS.cells (OS.rd ho1_1), wrap_id]
  refine hK _ _ ?_
  clear hK K
  refine den_block ?_
  refine den_sel [10, 0, 1, 2, 9] ?_
  intro env_1
  simp only [go_sem]
  refine den_loopS (σ := Nat × List Int) (fun s => [(10, .int .i64 (s.1 : Int))]) (fun s H => Ext h H ∧ s.1 ≤ v.length ∧ O1 H v1_1 s.2 [h.size] ∧ (s.2.length : Int) = w ∧ Bnd p s.2 ∧ accP p (v.drop s.1) (rows.drop s.1) s.2 = accP p v rows (List.replicate w.toNat 0)) (fun s => v.length - s.1) (0, List.replicate w.toNat 0) ?_ ?_
  · exact ⟨eB, by simp, by simpa using ho1_1, by simp; omega, Bnd.zeros hp.1 _, rfl⟩
  · rintro ⟨k, acc⟩ h4 ee3 ⟨eB, hk, ho, hol, hob, hac⟩
    simp only [List.cons_append, List.nil_append]
    have := Ext.size eB
    dsimp only at hk ho hol hob hac
    refine den_seq ?_
    refine den_seq ?_
    refine den_region TTok ?_
    intro K hK
    simp -implicitDefEqProofs (disch := first | decide | assumption | omega) only [go_sem, RdS.len hr sl43, RdS.idx hr sl43, RdS.cellB hr (Ext.pres eB), RdS.cells hr, RdS.len hv sl22, RdS.idx hv sl22, R1.intB hv (Ext.pres eB), RdS.cells hv, RdS.len (OS.rd ho) sl22, RdS.idx (OS.rd ho) sl22, R1.intN (OS.rd ho), RdS.cells (OS.rd ho), wrap_id]
    refine hK _ _ ?_
    clear hK K
    refine den_cond rfl (fun c0 => ?_) (fun c0 => ?_)
    · try simp only [decide_eq_true_eq, decide_eq_false_iff_not, beq_iff_eq, beq_eq_false_iff_ne, bne_iff_ne, ne_eq, Bool.not_eq_true', Bool.not_eq_false', Bool.and_eq_true, Bool.or_eq_true, bne_eq_false_iff_eq] at c0
      refine den_skip ?_
      refine den_seq ?_
      refine den_block ?_
      refine den_seq ?_
      refine den_region TTok ?_
      intro K hK
      simp -implicitDefEqProofs (disch := first | decide | assumption | omega) only [go_sem, RdS.len hr sl43, RdS.idx hr sl43, RdS.cellB hr (Ext.pres eB), RdS.cells hr, RdS.len hv sl22, RdS.idx hv sl22, R1.intB hv (Ext.pres eB), RdS.cells hv, RdS.len (OS.rd ho) sl22, RdS.idx (OS.rd ho) sl22, R1.intN (OS.rd ho), RdS.cells (OS.rd ho), wrap_id]
      refine hK _ _ ?_
      clear hK K
      refine den_block ?_
      refine den_sel [11, 0, 1, 2, 9, 10] ?_
      intro env_5
      simp only [go_sem]
      refine den_loopS (σ := Nat) (fun s => [(11, .int .i64 (s : Int))]) (fun s H => Ext h H ∧ s ≤ acc.length ∧ O1 H v1_1 (mix (stepRow p (v.getD k 0) (rows.getD k default) acc) acc s) [h.size]) (fun s => acc.length - s) 0 ?_ ?_
      · exact ⟨eB, by omega, by rw [mix_zero]; exact ho⟩
      · rintro m h8 ee7 ⟨eB, hm, ho⟩
        simp only [List.cons_append, List.nil_append]
        have := Ext.size eB
        refine den_seq ?_
        refine den_seq ?_
        have hml := mix_len (stepRow p (v.getD k 0) (rows.getD k default) acc) acc m (stepRow_len (by have := (hr0.at (k := k) (by omega)).1; omega))
        refine den_region TTok ?_
        intro K hK
        simp -implicitDefEqProofs (disch := first | decide | assumption | omega) only [go_sem, RdS.len hr sl43, RdS.idx hr sl43, RdS.cellB hr (Ext.pres eB), RdS.cells hr, RdS.len hv sl22, RdS.idx hv sl22, R1.intB hv (Ext.pres eB), RdS.cells hv, RdS.len (OS.rd ho) sl22, RdS.idx (OS.rd ho) sl22, R1.intN (OS.rd ho), RdS.cells (OS.rd ho), wrap_id]
        refine hK _ _ ?_
        clear hK K
        refine den_cond rfl (fun c1 => ?_) (fun c1 => ?_)
        · try simp only [decide_eq_true_eq, decide_eq_false_iff_not, beq_iff_eq, beq_eq_false_iff_ne, bne_iff_ne, ne_eq, Bool.not_eq_true', Bool.not_eq_false', Bool.and_eq_true, Bool.or_eq_true, bne_eq_false_iff_eq] at c1
          refine den_skip ?_
          refine den_seq ?_
          refine den_block ?_
          have hrl := hr0.at (k := k) (by omega)
          have hx := hv0.at (k := k) (by omega)
          have hy := hrl.2.at (k := m) (by omega)
          have ho2 := hob.at (k := m) (by omega)
          have hxy := mul36 hx hy hp.2
          have hmg := mix_get (stepRow p (v.getD k 0) (rows.getD k default) acc) acc m 0 (stepRow_len (by omega)) (by omega)
          refine den_draw TTok mixed [22] [(0, true), (1, true), (2, true), (3, true), (4, true), (5, true), (6, true), (7, true), (8, true), (9, true), (10, true), (11, true), (12, true), (13, true), (14, true), (15, true), (16, true), (17, true), (18, true), (19, true), (20, true), (21, true), (22, false)] (by kernel_rfl) ?_
          intro K hK
          have hr9 := RdS.rowN hr k (by omega)
          have hlhr9 := RdS.le hr9
          simp -implicitDefEqProofs (disch := first | decide | assumption | omega) only [go_sem, ld22, ld2, RdS.len hr sl43, RdS.idx hr sl43, RdS.cellB hr (Ext.pres eB), RdS.cells hr, RdS.len hv sl22, RdS.idx hv sl22, R1.intB hv (Ext.pres eB), RdS.cells hv, RdS.len hr9 sl22, RdS.idx hr9 sl22, R1.intB hr9 (Ext.pres eB), RdS.cells hr9, RdS.len (OS.rd ho) sl22, RdS.idx (OS.rd ho) sl22, R1.intN (OS.rd ho), RdS.cells (OS.rd ho), wrap_id]
          refine op_store1 (j := m) st2 ho (by simp) (by omega) rfl rfl ?_
          intro h8 ho8 c8
          replace eB := Ext.then eB c8 (fun b hb => by simp at hb; omega)
          rw [step_set (by omega) (by omega)] at ho8
          try simp (disch := decide) only [outv_some, outv_none, put_puts]
          refine plK_last (by decide) ?_
          try simp -implicitDefEqProofs (disch := first | decide | assumption | omega) only [go_sem, RdS.len hr sl43, RdS.idx hr sl43, RdS.cellB hr (Ext.pres eB), RdS.cells hr, RdS.len hv sl22, RdS.idx hv sl22, R1.intB hv (Ext.pres eB), RdS.cells hv, RdS.len hr9 sl22, RdS.idx hr9 sl22, R1.intB hr9 (Ext.pres eB), RdS.cells hr9, RdS.len (OS.rd ho) sl22, RdS.idx (OS.rd ho) sl22, R1.intN (OS.rd ho), RdS.cells (OS.rd ho), wrap_id]
          refine hK _ _ ?_
          clear hK K
          refine den_blk ?_
          refine den_region TTok ?_
          intro K hK
          simp -implicitDefEqProofs (disch := first | decide | assumption | omega) only [go_sem, RdS.len hr sl43, RdS.idx hr sl43, RdS.cellB hr (Ext.pres eB), RdS.cells hr, RdS.len hv sl22, RdS.idx hv sl22, R1.intB hv (Ext.pres eB), RdS.cells hv, RdS.len hr9 sl22, RdS.idx hr9 sl22, R1.intB hr9 (Ext.pres eB), RdS.cells hr9, RdS.len (OS.rd ho) sl22, RdS.idx (OS.rd ho) sl22, R1.intN (OS.rd ho), RdS.cells (OS.rd ho), wrap_id]
          refine hK _ _ ?_
          clear hK K
          refine den_stop ?_
          exact ⟨m + 1, by simp [HasL, puts_at], ⟨eB, by omega, ho8⟩, by omega⟩
        · try simp only [decide_eq_true_eq, decide_eq_false_iff_not, beq_iff_eq, beq_eq_false_iff_ne, bne_iff_ne, ne_eq, Bool.not_eq_true', Bool.not_eq_false', Bool.and_eq_true, Bool.or_eq_true, bne_eq_false_iff_eq] at c1
          refine den_exit ?_
          refine denX_code ?_
          refine denX_stop ?_
          refine denX_hit ?_
          refine den_blk ?_
          refine den_region TTok ?_
          intro K hK
          simp -implicitDefEqProofs (disch := first | decide | assumption | omega) only [go_sem, RdS.len hr sl43, RdS.idx hr sl43, RdS.cellB hr (Ext.pres eB), RdS.cells hr, RdS.len hv sl22, RdS.idx hv sl22, R1.intB hv (Ext.pres eB), RdS.cells hv, RdS.len (OS.rd ho) sl22, RdS.idx (OS.rd ho) sl22, R1.intN (OS.rd ho), RdS.cells (OS.rd ho), wrap_id]
          refine hK _ _ ?_
          clear hK K
          refine den_stop ?_
          have hrl := hr0.at (k := k) (by omega)
          rw [mix_end _ _ _ (stepRow_len (by omega)) (by omega)] at ho
          exact ⟨(k + 1, stepRow p (v.getD k 0) (rows.getD k default) acc), by simp [HasL, puts_at], ⟨eB, by dsimp only; omega, ho, by rw [stepRow_len (by omega)]; exact hol, stepRow_bnd hp.1 (hv0.at (by omega)).1 hrl.2 hob, by rw [← accP_step (by omega) (by omega)]; exact hac⟩, by dsimp only; omega⟩
    · try simp only [decide_eq_true_eq, decide_eq_false_iff_not, beq_iff_eq, beq_eq_false_iff_ne, bne_iff_ne, ne_eq, Bool.not_eq_true', Bool.not_eq_false', Bool.and_eq_true, Bool.or_eq_true, bne_eq_false_iff_eq] at c0
      refine den_exit ?_
      refine denX_code ?_
      refine denX_stop ?_
      refine denX_hit ?_
      refine den_seq ?_
      refine den_region TTok ?_
      intro K hK
      simp -implicitDefEqProofs (disch := first | decide | assumption | omega) only [go_sem, RdS.len hr sl43, RdS.idx hr sl43, RdS.cellB hr (Ext.pres eB), RdS.cells hr, RdS.len hv sl22, RdS.idx hv sl22, R1.intB hv (Ext.pres eB), RdS.cells hv, RdS.len (OS.rd ho) sl22, RdS.idx (OS.rd ho) sl22, R1.intN (OS.rd ho), RdS.cells (OS.rd ho), wrap_id]
      refine hK _ _ ?_
      clear hK K
      refine den_ret ?_
      simp (disch := decide) only [resP_1, puts_same, puts_ne]
      rw [accP_end (by omega)] at hac
      subst hac
      exact ⟨_, ho, Fresh.one _, eB⟩

set_option maxRecDepth 100000 in
theorem iApply_ok (p : Int) (w : Int) (vv vr : Value) (v : List Int) (rows : List (List Int)) (h : Heap) (hv : R1 h vv v) (hr : R2 h vr rows) (hp : 0 < p ∧ p ≤ 7) (hw : 0 ≤ w ∧ w ≤ 1048576) (hl : v.length ≤ rows.length) (hv0 : Bnd p v) (hr0 : Tbl p w rows) : CallA Tryd.prog 49 #[.int .i64 p, .int .i64 w, vv, vr] h fun v' h' => ∃ f, O1 h' v' (accP p v rows (List.replicate w.toNat 0)) f ∧ Fresh h.size f ∧ Ext h h' := by
  have hle := RdS.le hv
  refine callA_intro TTok (args := [_, _, _, _]) Tryd.func49 (by kernel_rfl) rfl 49 rfl (by simp) [.tmp 8] rfl ?_
  simp only [idxs, Nat.reduceAdd]
  refine den_seq ?_
  refine den_region TTok ?_
  intro K hK
  simp -implicitDefEqProofs (disch := first | decide | assumption | omega) only [go_sem, RdS.len hr sl43, RdS.idx hr sl43, RdS.cellB hr (HPres.refl _), RdS.cells hr, RdS.len hv sl22, RdS.idx hv sl22, R1.intB hv (HPres.refl _), RdS.cells hv, wrap_id]
  refine hK _ _ ?_
  clear hK K
  refine den_seq ?_
  refine den_region TTok ?_
  intro K hK
  simp -implicitDefEqProofs (disch := first | decide | assumption | omega) only [go_sem, RdS.len hr sl43, RdS.idx hr sl43, RdS.cellB hr (HPres.refl _), RdS.cells hr, RdS.len hv sl22, RdS.idx hv sl22, R1.intB hv (HPres.refl _), RdS.cells hv, wrap_id]
  refine op_make sz22 rfl rfl (by omega) (by omega) OI 0 (fun _ => ⟨rfl, rfl⟩) ?_
  intro v1_1 h1_1 ho1_1 e1_1
  have := Ext.size e1_1
  have eB := e1_1
  try simp -implicitDefEqProofs (disch := first | decide | assumption | omega) only [go_sem, RdS.len hr sl43, RdS.idx hr sl43, RdS.cellB hr (Ext.pres eB), RdS.cells hr, RdS.len hv sl22, RdS.idx hv sl22, R1.intB hv (Ext.pres eB), RdS.cells hv, RdS.len (OS.rd ho1_1) sl22, RdS.idx (OS.rd ho1_1) sl22, R1.intN (OS.rd ho1_1), RdS.cells (OS.rd ho1_1), wrap_id]
  refine hK _ _ ?_
  clear hK K
  refine den_seq ?_
  refine den_seq ?_
  refine den_region TTok ?_
  intro K hK
  simp -implicitDefEqProofs (disch := first | decide | assumption | omega) only [go_sem, RdS.len hr sl43, RdS.idx hr sl43, RdS.cellB hr (Ext.pres eB), RdS.cells hr, RdS.len hv sl22, RdS.idx hv sl22, R1.intB hv (Ext.pres eB), RdS.cells hv, RdS.len (OS.rd ho1_1) sl22, RdS.idx (OS.rd ho1_1) sl22, R1.intN (OS.rd ho1_1), RdS.cells (OS.rd ho1_1), wrap_id]
  refine hK _ _ ?_
  clear hK K
  refine den_block ?_
  refine den_sel [18, 0, 3, 9, 16, 17] ?_
  intro env_1
  simp only [go_sem]
  refine den_loopS (σ := Nat × List Int) (fun s => [(18, .int .i64 (s.1 : Int))]) (fun s H => Ext h H ∧ s.1 ≤ v.length ∧ O1 H v1_1 s.2 [h.size] ∧ (s.2.length : Int) = w ∧ Bnd p s.2 ∧ accP p (v.drop s.1) (rows.drop s.1) s.2 = accP p v rows (List.replicate w.toNat 0)) (fun s => v.length - s.1) (0, List.replicate w.toNat 0) ?_ ?_
  · exact ⟨eB, by simp, by simpa using ho1_1, by simp; omega, Bnd.zeros hp.1 _, rfl⟩
  · rintro ⟨k, acc⟩ h4 ee3 ⟨eB, hk, ho, hol, hob, hac⟩
    simp only [List.cons_append, List.nil_append]
    have := Ext.size eB
    dsimp only at hk ho hol hob hac
    refine den_seq ?_
    refine den_region TTok ?_
    intro K hK
    simp -implicitDefEqProofs (disch := first | decide | assumption | omega) only [go_sem, RdS.len hr sl43, RdS.idx hr sl43, RdS.cellB hr (Ext.pres eB), RdS.cells hr, RdS.len hv sl22, RdS.idx hv sl22, R1.intB hv (Ext.pres eB), RdS.cells hv, RdS.len (OS.rd ho) sl22, RdS.idx (OS.rd ho) sl22, R1.intN (OS.rd ho), RdS.cells (OS.rd ho), wrap_id]
    refine hK _ _ ?_
    clear hK K
    refine den_seq ?_
    refine den_cond rfl (fun c0 => ?_) (fun c0 => ?_)
    · try simp only [decide_eq_true_eq, decide_eq_false_iff_not, beq_iff_eq, beq_eq_false_iff_ne, bne_iff_ne, ne_eq, Bool.not_eq_true', Bool.not_eq_false', Bool.and_eq_true, Bool.or_eq_true, bne_eq_false_iff_eq] at c0
      refine den_skip ?_
      refine den_seq ?_
      refine den_block ?_
      refine den_seq ?_
      refine den_region TTok ?_
      intro K hK
      simp -implicitDefEqProofs (disch := first | decide | assumption | omega) only [go_sem, ld2, RdS.len hr sl43, RdS.idx hr sl43, RdS.cellB hr (Ext.pres eB), RdS.cells hr, RdS.len hv sl22, RdS.idx hv sl22, R1.intB hv (Ext.pres eB), RdS.cells hv, RdS.len (OS.rd ho) sl22, RdS.idx (OS.rd ho) sl22, R1.intN (OS.rd ho), RdS.cells (OS.rd ho), wrap_id]
      refine hK _ _ ?_
      clear hK K
      refine den_seq ?_
      refine den_region TTok ?_
      intro K hK
      have hr5 := RdS.rowN hr k (by omega)
      have hlhr5 := RdS.le hr5
      simp -implicitDefEqProofs (disch := first | decide | assumption | omega) only [go_sem, ld22, RdS.len hr sl43, RdS.idx hr sl43, RdS.cellB hr (Ext.pres eB), RdS.cells hr, RdS.len hv sl22, RdS.idx hv sl22, R1.intB hv (Ext.pres eB), RdS.cells hv, RdS.len hr5 sl22, RdS.idx hr5 sl22, R1.intB hr5 (Ext.pres eB), RdS.cells hr5, RdS.len (OS.rd ho) sl22, RdS.idx (OS.rd ho) sl22, R1.intN (OS.rd ho), RdS.cells (OS.rd ho), wrap_id]
      refine hK _ _ ?_
      clear hK K
      refine den_block ?_
      refine den_sel [28, 0, 3, 9, 11, 16, 17, 18, 26, 27] ?_
      intro env_6
      simp only [go_sem]
      refine den_loopS (σ := Nat) (fun s => [(28, .int .i64 (s : Int))]) (fun s H => Ext h H ∧ s ≤ acc.length ∧ O1 H v1_1 (mix (stepRow p (v.getD k 0) (rows.getD k default) acc) acc s) [h.size]) (fun s => acc.length - s) 0 ?_ ?_
      · exact ⟨eB, by omega, by rw [mix_zero]; exact ho⟩
      · rintro m h9 ee8 ⟨eB, hm, ho⟩
        simp only [List.cons_append, List.nil_append]
        have := Ext.size eB
        refine den_seq ?_
        have hml := mix_len (stepRow p (v.getD k 0) (rows.getD k default) acc) acc m (stepRow_len (by have := (hr0.at (k := k) (by omega)).1; omega))
        refine den_region TTok ?_
        intro K hK
        simp -implicitDefEqProofs (disch := first | decide | assumption | omega) only [go_sem, RdS.len hr sl43, RdS.idx hr sl43, RdS.cellB hr (Ext.pres eB), RdS.cells hr, RdS.len hv sl22, RdS.idx hv sl22, R1.intB hv (Ext.pres eB), RdS.cells hv, RdS.len hr5 sl22, RdS.idx hr5 sl22, R1.intB hr5 (Ext.pres eB), RdS.cells hr5, RdS.len (OS.rd ho) sl22, RdS.idx (OS.rd ho) sl22, R1.intN (OS.rd ho), RdS.cells (OS.rd ho), wrap_id]
        refine hK _ _ ?_
        clear hK K
        refine den_seq ?_
        refine den_cond rfl (fun c1 => ?_) (fun c1 => ?_)
        · try simp only [decide_eq_true_eq, decide_eq_false_iff_not, beq_iff_eq, beq_eq_false_iff_ne, bne_iff_ne, ne_eq, Bool.not_eq_true', Bool.not_eq_false', Bool.and_eq_true, Bool.or_eq_true, bne_eq_false_iff_eq] at c1
          refine den_skip ?_
          refine den_seq ?_
          refine den_block ?_
          refine den_seq ?_
          refine den_region TTok ?_
          intro K hK
          simp -implicitDefEqProofs (disch := first | decide | assumption | omega) only [go_sem, ld2, RdS.len hr sl43, RdS.idx hr sl43, RdS.cellB hr (Ext.pres eB), RdS.cells hr, RdS.len hv sl22, RdS.idx hv sl22, R1.intB hv (Ext.pres eB), RdS.cells hv, RdS.len hr5 sl22, RdS.idx hr5 sl22, R1.intB hr5 (Ext.pres eB), RdS.cells hr5, RdS.len (OS.rd ho) sl22, RdS.idx (OS.rd ho) sl22, R1.intN (OS.rd ho), RdS.cells (OS.rd ho), wrap_id]
          refine hK _ _ ?_
          clear hK K
          have hrl := hr0.at (k := k) (by omega)
          have hx := hv0.at (k := k) (by omega)
          have hy := hrl.2.at (k := m) (by omega)
          have ho2 := hob.at (k := m) (by omega)
          have hxy := mul36 hx hy hp.2
          have hmg := mix_get (stepRow p (v.getD k 0) (rows.getD k default) acc) acc m 0 (stepRow_len (by omega)) (by omega)
          refine den_region TTok ?_
          intro K hK
          simp -implicitDefEqProofs (disch := first | decide | assumption | omega) only [go_sem, ld2, RdS.len hr sl43, RdS.idx hr sl43, RdS.cellB hr (Ext.pres eB), RdS.cells hr, RdS.len hv sl22, RdS.idx hv sl22, R1.intB hv (Ext.pres eB), RdS.cells hv, RdS.len hr5 sl22, RdS.idx hr5 sl22, R1.intB hr5 (Ext.pres eB), RdS.cells hr5, RdS.len (OS.rd ho) sl22, RdS.idx (OS.rd ho) sl22, R1.intN (OS.rd ho), RdS.cells (OS.rd ho), wrap_id]
          refine op_store1 (j := m) st2 ho (by simp) (by omega) rfl rfl ?_
          intro h8 ho8 c8
          replace eB := Ext.then eB c8 (fun b hb => by simp at hb; omega)
          rw [step_set (by omega) (by omega)] at ho8
          try simp -implicitDefEqProofs (disch := first | decide | assumption | omega) only [go_sem, RdS.len hr sl43, RdS.idx hr sl43, RdS.cellB hr (Ext.pres eB), RdS.cells hr, RdS.len hv sl22, RdS.idx hv sl22, R1.intB hv (Ext.pres eB), RdS.cells hv, RdS.len hr5 sl22, RdS.idx hr5 sl22, R1.intB hr5 (Ext.pres eB), RdS.cells hr5, RdS.len (OS.rd ho) sl22, RdS.idx (OS.rd ho) sl22, R1.intN (OS.rd ho), RdS.cells (OS.rd ho), wrap_id]
          refine hK _ _ ?_
          clear hK K
          refine den_blk ?_
          refine den_region TTok ?_
          intro K hK
          simp -implicitDefEqProofs (disch := first | decide | assumption | omega) only [go_sem, RdS.len hr sl43, RdS.idx hr sl43, RdS.cellB hr (Ext.pres eB), RdS.cells hr, RdS.len hv sl22, RdS.idx hv sl22, R1.intB hv (Ext.pres eB), RdS.cells hv, RdS.len hr5 sl22, RdS.idx hr5 sl22, R1.intB hr5 (Ext.pres eB), RdS.cells hr5, RdS.len (OS.rd ho) sl22, RdS.idx (OS.rd ho) sl22, R1.intN (OS.rd ho), RdS.cells (OS.rd ho), wrap_id]
          refine hK _ _ ?_
          clear hK K
          refine den_stop ?_
          exact ⟨m + 1, by simp [HasL, puts_at], ⟨eB, by omega, ho8⟩, by omega⟩
        · try simp only [decide_eq_true_eq, decide_eq_false_iff_not, beq_iff_eq, beq_eq_false_iff_ne, bne_iff_ne, ne_eq, Bool.not_eq_true', Bool.not_eq_false', Bool.and_eq_true, Bool.or_eq_true, bne_eq_false_iff_eq] at c1
          refine den_exit ?_
          refine denX_code ?_
          refine denX_stop ?_
          refine denX_hit ?_
          refine den_blk ?_
          refine den_region TTok ?_
          intro K hK
          simp -implicitDefEqProofs (disch := first | decide | assumption | omega) only [go_sem, RdS.len hr sl43, RdS.idx hr sl43, RdS.cellB hr (Ext.pres eB), RdS.cells hr, RdS.len hv sl22, RdS.idx hv sl22, R1.intB hv (Ext.pres eB), RdS.cells hv, RdS.len hr5 sl22, RdS.idx hr5 sl22, R1.intB hr5 (Ext.pres eB), RdS.cells hr5, RdS.len (OS.rd ho) sl22, RdS.idx (OS.rd ho) sl22, R1.intN (OS.rd ho), RdS.cells (OS.rd ho), wrap_id]
          refine hK _ _ ?_
          clear hK K
          refine den_stop ?_
          have hrl := hr0.at (k := k) (by omega)
          rw [mix_end _ _ _ (stepRow_len (by omega)) (by omega)] at ho
          exact ⟨(k + 1, stepRow p (v.getD k 0) (rows.getD k default) acc), by simp [HasL, puts_at], ⟨eB, by dsimp only; omega, ho, by rw [stepRow_len (by omega)]; exact hol, stepRow_bnd hp.1 (hv0.at (by omega)).1 hrl.2 hob, by rw [← accP_step (by omega) (by omega)]; exact hac⟩, by dsimp only; omega⟩
    · try simp only [decide_eq_true_eq, decide_eq_false_iff_not, beq_iff_eq, beq_eq_false_iff_ne, bne_iff_ne, ne_eq, Bool.not_eq_true', Bool.not_eq_false', Bool.and_eq_true, Bool.or_eq_true, bne_eq_false_iff_eq] at c0
      refine den_exit ?_
      refine denX_code ?_
      refine denX_stop ?_
      refine denX_hit ?_
      refine den_seq ?_
      refine den_region TTok ?_
      intro K hK
      simp -implicitDefEqProofs (disch := first | decide | assumption | omega) only [go_sem, RdS.len hr sl43, RdS.idx hr sl43, RdS.cellB hr (Ext.pres eB), RdS.cells hr, RdS.len hv sl22, RdS.idx hv sl22, R1.intB hv (Ext.pres eB), RdS.cells hv, RdS.len (OS.rd ho) sl22, RdS.idx (OS.rd ho) sl22, R1.intN (OS.rd ho), RdS.cells (OS.rd ho), wrap_id]
      refine hK _ _ ?_
      clear hK K
      refine den_ret ?_
      simp (disch := decide) only [resP_1, puts_same, puts_ne]
      rw [accP_end (by omega)] at hac
      subst hac
      exact ⟨_, ho, Fresh.one _, eB⟩

end Go.Proofs.YtacajcjibhifmaaDoor
