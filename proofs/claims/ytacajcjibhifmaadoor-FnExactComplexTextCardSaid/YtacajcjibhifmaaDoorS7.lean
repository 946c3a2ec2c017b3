/-
  Walks: functions handed on.
  Conditions: each theorem's own.
-/
import Derived.Test.YtacajcjibhifmaaDoorS6
set_option linter.unusedVariables false
set_option linter.unusedSimpArgs false
namespace Go.Proofs.YtacajcjibhifmaaDoor
open Go
/-- The place of the first element that f takes. -/
def idxP {α : Type} (f : α → Bool) : List α → Int
  | [] => -1
  | x :: r => if f x = true then 0 else if idxP f r < 0 then -1 else idxP f r + 1
theorem idxP_none {α : Type} {f : α → Bool} : ∀ {xs : List α}, (∀ x ∈ xs, f x = false) → idxP f xs = -1
  | [], _ => rfl
  | x :: r, h => by
    rw [idxP, if_neg (by simp [h x]), idxP_none (fun y hy => h y (List.mem_cons_of_mem _ hy))]; rfl
theorem idxP_at {α : Type} {f : α → Bool} {d : α} : ∀ {xs : List α} {k : Nat}, k < xs.length → (∀ j, j < k → f (xs.getD j d) = false) → f (xs.getD k d) = true → idxP f xs = k
  | x :: r, 0, _, _, h => by rw [idxP, if_pos (by simpa using h)]; rfl
  | x :: r, k + 1, hk, hz, h => by
    have := idxP_at (xs := r) (k := k) (d := d) (by simpa using hk) (fun j hj => by simpa using hz (j + 1) (by omega)) (by simpa using h)
    rw [idxP, if_neg (by simpa using hz 0 (by omega)), this, if_neg (by omega)]; omega
theorem all_getD {α : Type} {P : α → Prop} {d : α} {xs : List α} (h : ∀ j, j < xs.length → P (xs.getD j d)) : ∀ x ∈ xs, P x := by
  intro x hx
  obtain ⟨j, hj, rfl⟩ := List.getElem_of_mem hx
  have := h j hj
  rwa [List.getD_eq_getElem?_getD, List.getElem?_eq_getElem hj] at this
theorem idxP_ge {α : Type} {f : α → Bool} : ∀ {xs : List α}, -1 ≤ idxP f xs
  | [] => by simp [idxP]
  | x :: r => by
    have := idxP_ge (f := f) (xs := r)
    rw [idxP]
    split
    · omega
    · split <;> omega
theorem idxP_any {α : Type} {f : α → Bool} : ∀ {xs : List α}, decide (0 ≤ idxP f xs) = xs.any f
  | [] => rfl
  | x :: r => by
    have := idxP_any (f := f) (xs := r)
    rw [idxP, List.any_cons, ← this]
    by_cases hf : f x = true
    · simp [hf]
    · have h0 := idxP_ge (f := f) (xs := r)
      rw [if_neg hf, Bool.not_eq_true] at *
      rw [hf, Bool.false_or]
      apply decide_eq_decide.2
      split <;> omega
theorem leadP_idx : ∀ xs : List Int, leadP xs = idxP (fun x => x != 0) xs
  | [] => rfl
  | x :: r => by
    rw [leadP, idxP, leadP_idx r]
    by_cases h : x = 0 <;> simp [h]

set_option maxRecDepth 100000 in
theorem idx1_ok (v : Value) (xs : List Int) (g : FuncId) (cs : Array Value) (f : Int → Bool) (h : Heap) (hv : R1 h v xs) (hf : ∀ j, j < xs.length → ∀ h', Ext h h' → CallA Tryd.prog g (#[.int .i64 (xs.getD j 0)] ++ cs) h' fun u h'' => u = .bool (f (xs.getD j 0)) ∧ Ext h' h'') : CallA Tryd.prog 44 #[v, .func (.func g) #[] cs] h fun v' h' => v' = .int .i64 (idxP f xs) ∧ Ext h h' := by
  have hle := RdS.le hv
  refine callA_intro TTok (args := [_, _]) Tryd.func44 (by kernel_rfl) rfl 19 rfl (by simp) [.tmp 4] rfl ?_
  simp only [idxs, Nat.reduceAdd]
  refine den_seq ?_
  refine den_region TTok ?_
  intro K hK
  simp -implicitDefEqProofs (disch := first | decide | assumption | omega) only [go_sem, RdS.len hv sl22, RdS.idx hv sl22, R1.intB hv (HPres.refl _), RdS.cells hv, wrap_id]
  refine hK _ _ ?_
  clear hK K
  refine den_seq ?_
  refine den_seq ?_
  refine den_region TTok ?_
  intro K hK
  simp -implicitDefEqProofs (disch := first | decide | assumption | omega) only [go_sem, RdS.len hv sl22, RdS.idx hv sl22, R1.intB hv (HPres.refl _), RdS.cells hv, wrap_id]
  refine hK _ _ ?_
  clear hK K
  refine den_block ?_
  refine den_sel [8, 0, 1, 7] ?_
  intro env_1
  simp only [go_sem]
  refine den_loopS (σ := Nat) (fun s => [(8, .int .i64 (s : Int))]) (fun s H => Ext h H ∧ s ≤ xs.length ∧ ∀ j, j < s → f (xs.getD j 0) = false) (fun s => xs.length - s) 0 ?_ ?_
  · exact ⟨Ext.refl _, by omega, fun j hj => by omega⟩
  · rintro k h4 ee3 ⟨eB, hk, hz⟩
    simp only [List.cons_append, List.nil_append]
    have := Ext.size eB
    refine den_seq ?_
    refine den_region TTok ?_
    intro K hK
    simp -implicitDefEqProofs (disch := first | decide | assumption | omega) only [go_sem, RdS.len hv sl22, RdS.idx hv sl22, R1.intB hv (Ext.pres eB), RdS.cells hv, wrap_id]
    refine hK _ _ ?_
    clear hK K
    refine den_seq ?_
    refine den_cond rfl (fun c0 => ?_) (fun c0 => ?_)
    · try simp only [decide_eq_true_eq, decide_eq_false_iff_not, beq_iff_eq, beq_eq_false_iff_ne, bne_iff_ne, ne_eq, Bool.not_eq_true', Bool.not_eq_false', Bool.and_eq_true, Bool.or_eq_true, bne_eq_false_iff_eq] at c0
      refine den_skip ?_
      refine den_seq ?_
      refine den_block ?_
      refine den_seq ?_
      refine den_region TTok ?_
      intro K hK
      simp -implicitDefEqProofs (disch := first | decide | assumption | omega) only [go_sem, RdS.len hv sl22, RdS.idx hv sl22, R1.intB hv (Ext.pres eB), RdS.cells hv, wrap_id]
      refine hK _ _ ?_
      clear hK K
      refine den_seq ?_
      refine den_region TTok ?_
      intro K hK
      simp -implicitDefEqProofs (disch := first | decide | assumption | omega) only [go_sem, ld2, RdS.len hv sl22, RdS.idx hv sl22, R1.intB hv (Ext.pres eB), RdS.cells hv, wrap_id]
      try simp -implicitDefEqProofs (disch := first | decide | assumption | omega) only [go_sem, RdS.len hv sl22, RdS.idx hv sl22, R1.intB hv (Ext.pres eB), RdS.cells hv, wrap_id]
      refine CallA.mono (hf k (by omega) _ eB) ?_
      intro v_ h4_5
      rintro ⟨rfl, e4_5⟩
      have := Ext.size e4_5
      replace eB := Ext.trans eB e4_5
      try simp -implicitDefEqProofs (disch := first | decide | assumption | omega) only [go_sem, RdS.len hv sl22, RdS.idx hv sl22, R1.intB hv (Ext.pres eB), RdS.cells hv, wrap_id]
      refine hK _ _ ?_
      clear hK K
      refine den_cond rfl (fun c1 => ?_) (fun c1 => ?_)
      · try simp only [decide_eq_true_eq, decide_eq_false_iff_not, beq_iff_eq, beq_eq_false_iff_ne, bne_iff_ne, ne_eq, Bool.not_eq_true', Bool.not_eq_false', Bool.and_eq_true, Bool.or_eq_true, bne_eq_false_iff_eq] at c1
        refine den_seq ?_
        refine den_region TTok ?_
        intro K hK
        simp -implicitDefEqProofs (disch := first | decide | assumption | omega) only [go_sem, RdS.len hv sl22, RdS.idx hv sl22, R1.intB hv (Ext.pres eB), RdS.cells hv, wrap_id]
        refine hK _ _ ?_
        clear hK K
        refine den_ret ?_
        simp (disch := decide) only [resP_1, puts_same, puts_ne]
        exact ⟨vint (idxP_at (by omega) hz (by simpa using c1)).symm, eB⟩
      · try simp only [decide_eq_true_eq, decide_eq_false_iff_not, beq_iff_eq, beq_eq_false_iff_ne, bne_iff_ne, ne_eq, Bool.not_eq_true', Bool.not_eq_false', Bool.and_eq_true, Bool.or_eq_true, bne_eq_false_iff_eq] at c1
        refine den_skip ?_
        refine den_blk ?_
        refine den_region TTok ?_
        intro K hK
        simp -implicitDefEqProofs (disch := first | decide | assumption | omega) only [go_sem, RdS.len hv sl22, RdS.idx hv sl22, R1.intB hv (Ext.pres eB), RdS.cells hv, wrap_id]
        refine hK _ _ ?_
        clear hK K
        refine den_stop ?_
        exact ⟨k + 1, by simp [HasL, puts_at], ⟨eB, by omega, fun j hj => by
          rcases Nat.lt_succ_iff_lt_or_eq.1 hj with h1 | h1
          · exact hz j h1
          · rw [h1]; simpa using c1⟩, by omega⟩
    · try simp only [decide_eq_true_eq, decide_eq_false_iff_not, beq_iff_eq, beq_eq_false_iff_ne, bne_iff_ne, ne_eq, Bool.not_eq_true', Bool.not_eq_false', Bool.and_eq_true, Bool.or_eq_true, bne_eq_false_iff_eq] at c0
      refine den_exit ?_
      refine denX_code ?_
      refine denX_stop ?_
      refine denX_hit ?_
      refine den_seq ?_
      refine den_region TTok ?_
      intro K hK
      simp -implicitDefEqProofs (disch := first | decide | assumption | omega) only [go_sem, RdS.len hv sl22, RdS.idx hv sl22, R1.intB hv (Ext.pres eB), RdS.cells hv, wrap_id]
      refine hK _ _ ?_
      clear hK K
      refine den_ret ?_
      simp (disch := decide) only [resP_1, puts_same, puts_ne]
      exact ⟨vint (idxP_none (all_getD (d := 0) fun j hj => hz j (by omega))).symm, eB⟩

set_option maxRecDepth 100000 in
theorem has1_ok (v : Value) (xs : List Int) (g : FuncId) (cs : Array Value) (f : Int → Bool) (h : Heap) (hv : R1 h v xs) (hf : ∀ j, j < xs.length → ∀ h', Ext h h' → CallA Tryd.prog g (#[.int .i64 (xs.getD j 0)] ++ cs) h' fun u h'' => u = .bool (f (xs.getD j 0)) ∧ Ext h' h'') : CallA Tryd.prog 32 #[v, .func (.func g) #[] cs] h fun v' h' => v' = .bool (xs.any f) ∧ Ext h h' := by
  refine callA_intro TTok (args := [_, _]) Tryd.func32 (by kernel_rfl) rfl 9 rfl (by simp) [.tmp 4] rfl ?_
  simp only [idxs, Nat.reduceAdd]
  refine den_seq ?_
  refine den_region TTok ?_
  intro K hK
  simp -implicitDefEqProofs (disch := first | decide | assumption | omega) only [go_sem, RdS.len hv sl22, RdS.idx hv sl22, R1.intB hv (HPres.refl _), RdS.cells hv]
  refine hK _ _ ?_
  clear hK K
  refine den_seq ?_
  refine den_region TTok ?_
  intro K hK
  simp -implicitDefEqProofs (disch := first | decide | assumption | omega) only [go_sem, RdS.len hv sl22, RdS.idx hv sl22, R1.intB hv (HPres.refl _), RdS.cells hv]
  try simp -implicitDefEqProofs (disch := first | decide | assumption | omega) only [go_sem, RdS.len hv sl22, RdS.idx hv sl22, R1.intB hv (HPres.refl _), RdS.cells hv]
  refine CallA.mono (idx1_ok _ xs _ _ f _ hv hf) ?_
  intro v_ h1_2
  rintro ⟨rfl, e1_2⟩
  have := Ext.size e1_2
  have eB := e1_2
  try simp -implicitDefEqProofs (disch := first | decide | assumption | omega) only [go_sem, RdS.len hv sl22, RdS.idx hv sl22, R1.intB hv (Ext.pres eB), RdS.cells hv]
  refine hK _ _ ?_
  clear hK K
  refine den_ret ?_
  simp (disch := decide) only [resP_1, puts_same, puts_ne]
  exact ⟨vbool idxP_any, eB⟩

set_option maxRecDepth 100000 in
theorem idx2_ok (v : Value) (xs : List (List Int)) (g : FuncId) (cs : Array Value) (f : List Int → Bool) (h : Heap) (hv : R2 h v xs) (hf : ∀ j, j < xs.length → ∀ h', Ext h h' → CallA Tryd.prog g (#[rowV h v j] ++ cs) h' fun u h'' => u = .bool (f (xs.getD j default)) ∧ Ext h' h'') : CallA Tryd.prog 54 #[v, .func (.func g) #[] cs] h fun v' h' => v' = .int .i64 (idxP f xs) ∧ Ext h h' := by
  have hle := RdS.le hv
  refine callA_intro TTok (args := [_, _]) Tryd.func54 (by kernel_rfl) rfl 19 rfl (by simp) [.tmp 4] rfl ?_
  simp only [idxs, Nat.reduceAdd]
  refine den_seq ?_
  refine den_region TTok ?_
  intro K hK
  simp -implicitDefEqProofs (disch := first | decide | assumption | omega) only [go_sem, RdS.len hv sl43, RdS.idx hv sl43, RdS.cellB hv (HPres.refl _), RdS.cells hv, wrap_id]
  refine hK _ _ ?_
  clear hK K
  refine den_seq ?_
  refine den_seq ?_
  refine den_region TTok ?_
  intro K hK
  simp -implicitDefEqProofs (disch := first | decide | assumption | omega) only [go_sem, RdS.len hv sl43, RdS.idx hv sl43, RdS.cellB hv (HPres.refl _), RdS.cells hv, wrap_id]
  refine hK _ _ ?_
  clear hK K
  refine den_block ?_
  refine den_sel [8, 0, 1, 7] ?_
  intro env_1
  simp only [go_sem]
  refine den_loopS (σ := Nat) (fun s => [(8, .int .i64 (s : Int))]) (fun s H => Ext h H ∧ s ≤ xs.length ∧ ∀ j, j < s → f (xs.getD j default) = false) (fun s => xs.length - s) 0 ?_ ?_
  · exact ⟨Ext.refl _, by omega, fun j hj => by omega⟩
  · rintro k h4 ee3 ⟨eB, hk, hz⟩
    simp only [List.cons_append, List.nil_append]
    have := Ext.size eB
    refine den_seq ?_
    refine den_region TTok ?_
    intro K hK
    simp -implicitDefEqProofs (disch := first | decide | assumption | omega) only [go_sem, RdS.len hv sl43, RdS.idx hv sl43, RdS.cellB hv (Ext.pres eB), RdS.cells hv, wrap_id]
    refine hK _ _ ?_
    clear hK K
    refine den_seq ?_
    refine den_cond rfl (fun c0 => ?_) (fun c0 => ?_)
    · try simp only [decide_eq_true_eq, decide_eq_false_iff_not, beq_iff_eq, beq_eq_false_iff_ne, bne_iff_ne, ne_eq, Bool.not_eq_true', Bool.not_eq_false', Bool.and_eq_true, Bool.or_eq_true, bne_eq_false_iff_eq] at c0
      refine den_skip ?_
      refine den_seq ?_
      refine den_block ?_
      refine den_seq ?_
      refine den_region TTok ?_
      intro K hK
      simp -implicitDefEqProofs (disch := first | decide | assumption | omega) only [go_sem, RdS.len hv sl43, RdS.idx hv sl43, RdS.cellB hv (Ext.pres eB), RdS.cells hv, wrap_id]
      refine hK _ _ ?_
      clear hK K
      refine den_seq ?_
      refine den_region TTok ?_
      intro K hK
      have hr5 := RdS.rowN hv k (by omega)
      have hlhr5 := RdS.le hr5
      simp -implicitDefEqProofs (disch := first | decide | assumption | omega) only [go_sem, ld22, RdS.len hv sl43, RdS.idx hv sl43, RdS.cellB hv (Ext.pres eB), RdS.cells hv, RdS.len hr5 sl22, RdS.idx hr5 sl22, R1.intB hr5 (Ext.pres eB), RdS.cells hr5, wrap_id]
      try simp -implicitDefEqProofs (disch := first | decide | assumption | omega) only [go_sem, RdS.len hv sl43, RdS.idx hv sl43, RdS.cellB hv (Ext.pres eB), RdS.cells hv, RdS.len hr5 sl22, RdS.idx hr5 sl22, R1.intB hr5 (Ext.pres eB), RdS.cells hr5, wrap_id]
      refine CallA.mono (hf k (by omega) _ eB) ?_
      intro v_ h4_5
      rintro ⟨rfl, e4_5⟩
      have := Ext.size e4_5
      replace eB := Ext.trans eB e4_5
      try simp -implicitDefEqProofs (disch := first | decide | assumption | omega) only [go_sem, RdS.len hv sl43, RdS.idx hv sl43, RdS.cellB hv (Ext.pres eB), RdS.cells hv, RdS.len hr5 sl22, RdS.idx hr5 sl22, R1.intB hr5 (Ext.pres eB), RdS.cells hr5, wrap_id]
      refine hK _ _ ?_
      clear hK K
      refine den_cond rfl (fun c1 => ?_) (fun c1 => ?_)
      · try simp only [decide_eq_true_eq, decide_eq_false_iff_not, beq_iff_eq, beq_eq_false_iff_ne, bne_iff_ne, ne_eq, Bool.not_eq_true', Bool.not_eq_false', Bool.and_eq_true, Bool.or_eq_true, bne_eq_false_iff_eq] at c1
        refine den_seq ?_
        refine den_region TTok ?_
        intro K hK
        simp -implicitDefEqProofs (disch := first | decide | assumption | omega) only [go_sem, RdS.len hv sl43, RdS.idx hv sl43, RdS.cellB hv (Ext.pres eB), RdS.cells hv, RdS.len hr5 sl22, RdS.idx hr5 sl22, R1.intB hr5 (Ext.pres eB), RdS.cells hr5, wrap_id]
        refine hK _ _ ?_
        clear hK K
        refine den_ret ?_
        simp (disch := decide) only [resP_1, puts_same, puts_ne]
        exact ⟨vint (idxP_at (by omega) hz (by simpa using c1)).symm, eB⟩
      · try simp only [decide_eq_true_eq, decide_eq_false_iff_not, beq_iff_eq, beq_eq_false_iff_ne, bne_iff_ne, ne_eq, Bool.not_eq_true', Bool.not_eq_false', Bool.and_eq_true, Bool.or_eq_true, bne_eq_false_iff_eq] at c1
        refine den_skip ?_
        refine den_blk ?_
        refine den_region TTok ?_
        intro K hK
        simp -implicitDefEqProofs (disch := first | decide | assumption | omega) only [go_sem, RdS.len hv sl43, RdS.idx hv sl43, RdS.cellB hv (Ext.pres eB), RdS.cells hv, RdS.len hr5 sl22, RdS.idx hr5 sl22, R1.intB hr5 (Ext.pres eB), RdS.cells hr5, wrap_id]
        refine hK _ _ ?_
        clear hK K
        refine den_stop ?_
        exact ⟨k + 1, by simp [HasL, puts_at], ⟨eB, by omega, fun j hj => by
          rcases Nat.lt_succ_iff_lt_or_eq.1 hj with h1 | h1
          · exact hz j h1
          · rw [h1]; simpa using c1⟩, by omega⟩
    · try simp only [decide_eq_true_eq, decide_eq_false_iff_not, beq_iff_eq, beq_eq_false_iff_ne, bne_iff_ne, ne_eq, Bool.not_eq_true', Bool.not_eq_false', Bool.and_eq_true, Bool.or_eq_true, bne_eq_false_iff_eq] at c0
      refine den_exit ?_
      refine denX_code ?_
      refine denX_stop ?_
      refine denX_hit ?_
      refine den_seq ?_
      refine den_region TTok ?_
      intro K hK
      simp -implicitDefEqProofs (disch := first | decide | assumption | omega) only [go_sem, RdS.len hv sl43, RdS.idx hv sl43, RdS.cellB hv (Ext.pres eB), RdS.cells hv, wrap_id]
      refine hK _ _ ?_
      clear hK K
      refine den_ret ?_
      simp (disch := decide) only [resP_1, puts_same, puts_ne]
      exact ⟨vint (idxP_none (all_getD (d := default) fun j hj => hz j (by omega))).symm, eB⟩

set_option maxRecDepth 100000 in
theorem has2_ok (v : Value) (xs : List (List Int)) (g : FuncId) (cs : Array Value) (f : List Int → Bool) (h : Heap) (hv : R2 h v xs) (hf : ∀ j, j < xs.length → ∀ h', Ext h h' → CallA Tryd.prog g (#[rowV h v j] ++ cs) h' fun u h'' => u = .bool (f (xs.getD j default)) ∧ Ext h' h'') : CallA Tryd.prog 45 #[v, .func (.func g) #[] cs] h fun v' h' => v' = .bool (xs.any f) ∧ Ext h h' := by
  refine callA_intro TTok (args := [_, _]) Tryd.func45 (by kernel_rfl) rfl 9 rfl (by simp) [.tmp 4] rfl ?_
  simp only [idxs, Nat.reduceAdd]
  refine den_seq ?_
  refine den_region TTok ?_
  intro K hK
  simp -implicitDefEqProofs (disch := first | decide | assumption | omega) only [go_sem, RdS.len hv sl43, RdS.idx hv sl43, RdS.cellB hv (HPres.refl _), RdS.cells hv]
  refine hK _ _ ?_
  clear hK K
  refine den_seq ?_
  refine den_region TTok ?_
  intro K hK
  simp -implicitDefEqProofs (disch := first | decide | assumption | omega) only [go_sem, RdS.len hv sl43, RdS.idx hv sl43, RdS.cellB hv (HPres.refl _), RdS.cells hv]
  try simp -implicitDefEqProofs (disch := first | decide | assumption | omega) only [go_sem, RdS.len hv sl43, RdS.idx hv sl43, RdS.cellB hv (HPres.refl _), RdS.cells hv]
  refine CallA.mono (idx2_ok _ xs _ _ f _ hv hf) ?_
  intro v_ h1_2
  rintro ⟨rfl, e1_2⟩
  have := Ext.size e1_2
  have eB := e1_2
  try simp -implicitDefEqProofs (disch := first | decide | assumption | omega) only [go_sem, RdS.len hv sl43, RdS.idx hv sl43, RdS.cellB hv (Ext.pres eB), RdS.cells hv]
  refine hK _ _ ?_
  clear hK K
  refine den_ret ?_
  simp (disch := decide) only [resP_1, puts_same, puts_ne]
  exact ⟨vbool idxP_any, eB⟩

end Go.Proofs.YtacajcjibhifmaaDoor
