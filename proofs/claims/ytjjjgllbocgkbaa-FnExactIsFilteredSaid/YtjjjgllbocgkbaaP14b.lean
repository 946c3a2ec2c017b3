/-
  Walks: numbers that are added to a place.
  Conditions: each theorem's own.
-/
import Derived.Test.YtjjjgllbocgkbaaP14a
set_option linter.unusedVariables false
set_option linter.unusedSimpArgs false
namespace Go.Proofs.Ytjjjgllbocgkbaa
open Go
theorem add_nn {X Y : Cx} (hX : IsC X) (hY : IsC Y) : ∀ x ∈ addD X Y, 0 ≤ x := fun x hx => by
  obtain ⟨q, _, rfl⟩ := List.mem_map.1 hx
  rw [dimP_nat, dimP_nat]
  have := dims_nat hX q; have := dims_nat hY q
  omega
theorem add_small {X Y : Cx} (hX : IsC X) (hY : IsC Y) (h : ((addD X Y).any fun x => decide (8 < x)) = false) : (addD X Y).all (fun x => in3 x 0 8) = true := List.all_eq_true.2 fun x hx => in3_iff.2 ⟨add_nn hX hY x hx, by
  have := List.any_eq_false.1 h x hx
  simpa using this⟩
theorem add_large {X Y : Cx} (h : ((addD X Y).any fun x => decide (8 < x)) = true) : ¬ (addD X Y).all (fun x => in3 x 0 8) = true := fun ha => by
  obtain ⟨x, hx, h8⟩ := List.any_eq_true.1 h
  have h8 : 8 < x := by simpa using h8
  have := in3_iff.1 (List.all_eq_true.1 ha x hx)
  omega
theorem add_at {X Y : Cx} {n : Nat} (h : n < addN X Y) (h8 : 8 < dimP X (n : Int) + dimP Y (n : Int)) : ¬ (addD X Y).all (fun x => in3 x 0 8) = true := fun ha => by
  have := in3_iff.1 (all_at (f := fun x => in3 x 0 8) (d := 0) ha (k := n) (by rw [addD_len]; exact h))
  rw [addD_get, ← dimP_nat, ← dimP_nat] at this
  omega
theorem add_all {X Y : Cx} (hX : IsC X) (hY : IsC Y) {n : Nat} (h : addN X Y ≤ n) (h8 : ∀ q, q < n → dimP X (q : Int) + dimP Y (q : Int) ≤ 8) : (addD X Y).all (fun x => in3 x 0 8) = true := List.all_eq_true.2 fun x hx => in3_iff.2 ⟨add_nn hX hY x hx, by
  obtain ⟨q, hq, rfl⟩ := List.mem_map.1 hx
  rw [List.mem_range] at hq
  exact h8 q (by omega)⟩
theorem add_step {X Y : Cx} {n : Nat} (h : 1 ≤ n) : ((List.range (n - 1)).map fun q : Nat => addRows X Y (q + 1)) ++ [addRows X Y n] = (List.range (n + 1 - 1)).map fun q : Nat => addRows X Y (q + 1) := by
  obtain ⟨q, rfl⟩ : ∃ q, n = q + 1 := ⟨n - 1, by omega⟩
  exact range_step (fun q : Nat => addRows X Y (q + 1)) (k := q)
theorem add_rows_end {X Y : Cx} {n : Nat} {A B : Nat} (hA : A = (dimP X (n : Int)).toNat) (hB : B = (dimP Y (n : Int)).toNat) : (List.range A).map (fun q : Nat => addTop X Y n q) ++ (List.range B).map (fun q : Nat => addBot X Y n q) = addRows X Y n := by subst hA; subst hB; rfl

set_option maxRecDepth 100000 in
theorem arS1_ok (n : Int) (h : Heap) : CallA Try.prog 214 #[.int .i64 n] h fun v h' => v = .bool (decide (8 < n)) ∧ h' = h := by
  refine callA_intro TTok (args := [_]) Try.func214 (by kernel_rfl) rfl 5 rfl (by simp) [.tmp 2] rfl ?_
  simp only [idxs, Nat.reduceAdd]
  refine den_seq ?_
  refine den_region TTok ?_
  intro K hK
  simp -implicitDefEqProofs (disch := first | decide | assumption | omega) only [go_sem]
  refine hK _ _ ?_
  clear hK K
  refine den_seq ?_
  refine den_region TTok ?_
  intro K hK
  simp -implicitDefEqProofs (disch := first | decide | assumption | omega) only [go_sem]
  refine hK _ _ ?_
  clear hK K
  refine den_ret ?_
  simp (disch := decide) only [resP_1, puts_same, puts_ne]
  exact ⟨by first | rfl | trivial, trivial⟩

set_option maxRecDepth 100000 in
theorem arS_ok (v : Value) (xs : List Int) (h : Heap) (hv : R1 h v xs) : CallA Try.prog 196 #[v] h fun v' h' => v' = .bool (!xs.any (fun x => decide (8 < x))) ∧ Ext h h' := by
  refine callA_intro TTok (args := [_]) Try.func196 (by kernel_rfl) rfl 6 rfl (by simp) [.tmp 2] rfl ?_
  simp only [idxs, Nat.reduceAdd]
  refine den_seq ?_
  refine den_region TTok ?_
  intro K hK
  simp -implicitDefEqProofs (disch := first | decide | assumption | omega) only [go_sem, RdS.len hv sl22, RdS.idx hv sl22, R1.intB hv (HPres.refl _), RdS.cells hv]
  refine hK _ _ ?_
  clear hK K
  refine den_seq ?_
  refine den_region TTok ?_
  intro K hK
  simp -implicitDefEqProofs (disch := first | decide | assumption | omega) only [go_sem, RdS.len hv sl22, RdS.idx hv sl22, R1.intB hv (HPres.refl _), RdS.cells hv]
  try simp -implicitDefEqProofs (disch := first | decide | assumption | omega) only [go_sem, RdS.len hv sl22, RdS.idx hv sl22, R1.intB hv (HPres.refl _), RdS.cells hv]
  refine CallA.mono (has1_ok _ xs _ _ (fun x => decide (8 < x)) _ hv (fun j hj h' e => by
      simp only [List.append_toArray, List.cons_append, List.nil_append]
      exact CallA.mono (arS1_ok _ _) (fun _ _ ⟨e1, e2⟩ => ⟨e1, e2 ▸ Ext.refl _⟩))) ?_
  intro v_ h1_1
  rintro ⟨rfl, e1_1⟩
  have := Ext.size e1_1
  have eB := e1_1
  try simp -implicitDefEqProofs (disch := first | decide | assumption | omega) only [go_sem, RdS.len hv sl22, RdS.idx hv sl22, R1.intB hv (Ext.pres eB), RdS.cells hv]
  refine hK _ _ ?_
  clear hK K
  refine den_ret ?_
  simp (disch := decide) only [resP_1, puts_same, puts_ne]
  exact ⟨by first | rfl | trivial, eB⟩

set_option maxRecDepth 100000 in
theorem eachB_ok (p : Int) (Rel : M3 → Heap → Prop) (U : UF) (fpC : List Nat) (g : FuncId) (bs cs : Array Value) (X : Cx) (vd vm : Value) (h0 : Heap) (hd : R1 h0 vd X.dims) (hm : R3 h0 vm X.maps) (s0 : M3) (h : Heap) (hR : Rel s0 h) (hRe : ∀ s H H', Rel s H → Ext H H' → Rel s H') (hR0 : ∀ s H, Rel s H → Ext h0 H) (hfp : ∀ b ∈ fpC, b < h.size) (hst : ∀ s H k i j, k < X.maps.length → i < (X.maps.getD k default).length → j < ((X.maps.getD k default).getD i default).length → Rel s H → CallA Try.prog g (bs ++ #[.int .i64 ((k : Int) + 1), .int .i64 (i : Int), .int .i64 (j : Int), .int .i64 (((X.maps.getD k default).getD i default).getD j 0)] ++ cs) H fun u H' => Rel (applyU p s (U k i j (((X.maps.getD k default).getD i default).getD j 0))) H' ∧ Chg fpC H H') : CallA Try.prog 75 #[.agg #[.int .i64 X.p, vd, vm], .func (.func g) bs cs] h fun v' h' => v' = .tuple #[] ∧ Rel (applyU p s0 (uK U X.maps X.maps.length)) h' ∧ Chg fpC h h' := by
  have hle := RdS.le hd
  have hlm := RdS.le hm
  have eB := hR0 _ _ hR
  refine callA_intro TTok (args := [_, _]) Try.func75 (by kernel_rfl) rfl 42 rfl (by simp) [] rfl ?_
  simp only [idxs, Nat.reduceAdd]
  refine den_seq ?_
  refine den_region TTok ?_
  intro K hK
  simp -implicitDefEqProofs (disch := first | decide | assumption | omega) only [go_sem, RdS.len hd sl22, RdS.idx hd sl22, R1.intB hd (Ext.pres eB), RdS.cells hd, RdS.len hm sl23, RdS.idx hm sl23, RdS.cellB hm (Ext.pres eB), RdS.cells hm, wrap_id]
  refine op_box (cs := #[.int .i64 (X.p), vd, vm]) rfl ?_
  intro h0_0 e0_0 hb0_0 z0_0
  have := Ext.size e0_0
  replace eB := Ext.trans eB e0_0
  try simp -implicitDefEqProofs (disch := first | decide | assumption | omega) only [go_sem, RdS.len hd sl22, RdS.idx hd sl22, R1.intB hd (Ext.pres eB), RdS.cells hd, RdS.len hm sl23, RdS.idx hm sl23, RdS.cellB hm (Ext.pres eB), RdS.cells hm, BoxAt.cell hb0_0, wrap_id]
  refine hK _ _ ?_
  clear hK K
  refine den_seq ?_
  refine den_region TTok ?_
  intro K hK
  simp -implicitDefEqProofs (disch := first | decide | assumption | omega) only [go_sem, fa31_2, ld23, RdS.len hd sl22, RdS.idx hd sl22, R1.intB hd (Ext.pres eB), RdS.cells hd, RdS.len hm sl23, RdS.idx hm sl23, RdS.cellB hm (Ext.pres eB), RdS.cells hm, BoxAt.cell hb0_0, wrap_id]
  refine hK _ _ ?_
  clear hK K
  refine den_block ?_
  refine den_sel [13, 1, 11, 12] ?_
  intro env_1
  simp only [go_sem]
  refine den_loopS (σ := Nat) (fun s => [(13, .int .i64 (s : Int))]) (fun s H => Ext h0 H ∧ s ≤ X.maps.length ∧ Rel (applyU p s0 (uK U X.maps s)) H ∧ Chg fpC h H ∧ BoxAt H h.size #[.int .i64 X.p, vd, vm] 31) (fun s => X.maps.length - s) 0 ?_ ?_
  · exact ⟨eB, by omega, hRe _ _ _ hR e0_0, Ext.chg e0_0 _, hb0_0⟩
  · rintro k h4 ee3 ⟨eB, hk, hR, hch, hb⟩
    simp only [List.cons_append, List.nil_append]
    have := Ext.size eB
    refine den_seq ?_
    refine den_region TTok ?_
    intro K hK
    simp -implicitDefEqProofs (disch := first | decide | assumption | omega) only [go_sem, RdS.len hd sl22, RdS.idx hd sl22, R1.intB hd (Ext.pres eB), RdS.cells hd, RdS.len hm sl23, RdS.idx hm sl23, RdS.cellB hm (Ext.pres eB), RdS.cells hm, BoxAt.cell hb, wrap_id]
    refine hK _ _ ?_
    clear hK K
    refine den_seq ?_
    refine den_cond rfl (fun c0 => ?_) (fun c0 => ?_)
    · try simp only [decide_eq_true_eq, decide_eq_false_iff_not, beq_iff_eq, beq_eq_false_iff_ne, bne_iff_ne, ne_eq, Bool.not_eq_true', Bool.not_eq_false', Bool.and_eq_true, Bool.or_eq_true, bne_eq_false_iff_eq] at c0
      refine den_skip ?_
      refine den_seq ?_
      refine den_block ?_
      refine den_seq ?_
      refine den_region TTok ?_
      intro K hK
      have hr5 := RdS.rowN hm k (by omega)
      have hlhr5 := RdS.le hr5
      simp -implicitDefEqProofs (disch := first | decide | assumption | omega) only [go_sem, ld26, RdS.len hd sl22, RdS.idx hd sl22, R1.intB hd (Ext.pres eB), RdS.cells hd, RdS.len hm sl23, RdS.idx hm sl23, RdS.cellB hm (Ext.pres eB), RdS.cells hm, RdS.len hr5 sl26, RdS.idx hr5 sl26, RdS.cellB hr5 (Ext.pres eB), RdS.cells hr5, BoxAt.cell hb, wrap_id]
      refine hK _ _ ?_
      clear hK K
      refine den_seq ?_
      refine den_region TTok ?_
      intro K hK
      simp -implicitDefEqProofs (disch := first | decide | assumption | omega) only [go_sem, RdS.len hd sl22, RdS.idx hd sl22, R1.intB hd (Ext.pres eB), RdS.cells hd, RdS.len hm sl23, RdS.idx hm sl23, RdS.cellB hm (Ext.pres eB), RdS.cells hm, RdS.len hr5 sl26, RdS.idx hr5 sl26, RdS.cellB hr5 (Ext.pres eB), RdS.cells hr5, BoxAt.cell hb, wrap_id]
      refine hK _ _ ?_
      clear hK K
      refine den_block ?_
      refine den_sel [20, 1, 4, 11, 12, 13, 18, 19] ?_
      intro env_6
      simp only [go_sem]
      refine den_loopS (σ := Nat) (fun s => [(20, .int .i64 (s : Int))]) (fun s H => Ext h0 H ∧ s ≤ (X.maps.getD k default).length ∧ Rel (applyU p (applyU p s0 (uK U X.maps k)) (uI U k (X.maps.getD k default) s)) H ∧ Chg fpC h H ∧ BoxAt H h.size #[.int .i64 X.p, vd, vm] 31) (fun s => (X.maps.getD k default).length - s) 0 ?_ ?_
      · exact ⟨eB, by omega, hR, hch, hb⟩
      · rintro i h9 ee8 ⟨eB, hi, hR, hch, hb⟩
        simp only [List.cons_append, List.nil_append]
        have := Ext.size eB
        refine den_seq ?_
        refine den_region TTok ?_
        intro K hK
        simp -implicitDefEqProofs (disch := first | decide | assumption | omega) only [go_sem, RdS.len hd sl22, RdS.idx hd sl22, R1.intB hd (Ext.pres eB), RdS.cells hd, RdS.len hm sl23, RdS.idx hm sl23, RdS.cellB hm (Ext.pres eB), RdS.cells hm, RdS.len hr5 sl26, RdS.idx hr5 sl26, RdS.cellB hr5 (Ext.pres eB), RdS.cells hr5, BoxAt.cell hb, wrap_id]
        refine hK _ _ ?_
        clear hK K
        refine den_seq ?_
        refine den_cond rfl (fun c1 => ?_) (fun c1 => ?_)
        · try simp only [decide_eq_true_eq, decide_eq_false_iff_not, beq_iff_eq, beq_eq_false_iff_ne, bne_iff_ne, ne_eq, Bool.not_eq_true', Bool.not_eq_false', Bool.and_eq_true, Bool.or_eq_true, bne_eq_false_iff_eq] at c1
          refine den_skip ?_
          refine den_seq ?_
          refine den_block ?_
          refine den_seq ?_
          refine den_region TTok ?_
          intro K hK
          have hr10 := RdS.rowN hr5 i (by omega)
          have hlhr10 := RdS.le hr10
          simp -implicitDefEqProofs (disch := first | decide | assumption | omega) only [go_sem, ld22, RdS.len hd sl22, RdS.idx hd sl22, R1.intB hd (Ext.pres eB), RdS.cells hd, RdS.len hm sl23, RdS.idx hm sl23, RdS.cellB hm (Ext.pres eB), RdS.cells hm, RdS.len hr5 sl26, RdS.idx hr5 sl26, RdS.cellB hr5 (Ext.pres eB), RdS.cells hr5, RdS.len hr10 sl22, RdS.idx hr10 sl22, R1.intB hr10 (Ext.pres eB), RdS.cells hr10, BoxAt.cell hb, wrap_id]
          refine hK _ _ ?_
          clear hK K
          refine den_seq ?_
          refine den_region TTok ?_
          intro K hK
          simp -implicitDefEqProofs (disch := first | decide | assumption | omega) only [go_sem, RdS.len hd sl22, RdS.idx hd sl22, R1.intB hd (Ext.pres eB), RdS.cells hd, RdS.len hm sl23, RdS.idx hm sl23, RdS.cellB hm (Ext.pres eB), RdS.cells hm, RdS.len hr5 sl26, RdS.idx hr5 sl26, RdS.cellB hr5 (Ext.pres eB), RdS.cells hr5, RdS.len hr10 sl22, RdS.idx hr10 sl22, R1.intB hr10 (Ext.pres eB), RdS.cells hr10, BoxAt.cell hb, wrap_id]
          refine hK _ _ ?_
          clear hK K
          refine den_block ?_
          refine den_sel [27, 1, 4, 6, 11, 12, 13, 18, 19, 20, 25, 26] ?_
          intro env_11
          simp only [go_sem]
          refine den_loopS (σ := Nat) (fun s => [(27, .int .i64 (s : Int))]) (fun s H => Ext h0 H ∧ s ≤ ((X.maps.getD k default).getD i default).length ∧ Rel (applyU p (applyU p (applyU p s0 (uK U X.maps k)) (uI U k (X.maps.getD k default) i)) (uJ U k i ((X.maps.getD k default).getD i default) s)) H ∧ Chg fpC h H ∧ BoxAt H h.size #[.int .i64 X.p, vd, vm] 31) (fun s => ((X.maps.getD k default).getD i default).length - s) 0 ?_ ?_
          · exact ⟨eB, by omega, hR, hch, hb⟩
          · rintro j h14 ee13 ⟨eB, hj, hR, hch, hb⟩
            simp only [List.cons_append, List.nil_append]
            have := Ext.size eB
            refine den_seq ?_
            refine den_region TTok ?_
            intro K hK
            simp -implicitDefEqProofs (disch := first | decide | assumption | omega) only [go_sem, RdS.len hd sl22, RdS.idx hd sl22, R1.intB hd (Ext.pres eB), RdS.cells hd, RdS.len hm sl23, RdS.idx hm sl23, RdS.cellB hm (Ext.pres eB), RdS.cells hm, RdS.len hr5 sl26, RdS.idx hr5 sl26, RdS.cellB hr5 (Ext.pres eB), RdS.cells hr5, RdS.len hr10 sl22, RdS.idx hr10 sl22, R1.intB hr10 (Ext.pres eB), RdS.cells hr10, BoxAt.cell hb, wrap_id]
            refine hK _ _ ?_
            clear hK K
            refine den_seq ?_
            refine den_cond rfl (fun c2 => ?_) (fun c2 => ?_)
            · try simp only [decide_eq_true_eq, decide_eq_false_iff_not, beq_iff_eq, beq_eq_false_iff_ne, bne_iff_ne, ne_eq, Bool.not_eq_true', Bool.not_eq_false', Bool.and_eq_true, Bool.or_eq_true, bne_eq_false_iff_eq] at c2
              refine den_skip ?_
              refine den_seq ?_
              refine den_block ?_
              refine den_seq ?_
              refine den_region TTok ?_
              intro K hK
              simp -implicitDefEqProofs (disch := first | decide | assumption | omega) only [go_sem, ld2, RdS.len hd sl22, RdS.idx hd sl22, R1.intB hd (Ext.pres eB), RdS.cells hd, RdS.len hm sl23, RdS.idx hm sl23, RdS.cellB hm (Ext.pres eB), RdS.cells hm, RdS.len hr5 sl26, RdS.idx hr5 sl26, RdS.cellB hr5 (Ext.pres eB), RdS.cells hr5, RdS.len hr10 sl22, RdS.idx hr10 sl22, R1.intB hr10 (Ext.pres eB), RdS.cells hr10, BoxAt.cell hb, wrap_id]
              refine hK _ _ ?_
              clear hK K
              refine den_region TTok ?_
              intro K hK
              simp -implicitDefEqProofs (disch := first | decide | assumption | omega) only [go_sem, RdS.len hd sl22, RdS.idx hd sl22, R1.intB hd (Ext.pres eB), RdS.cells hd, RdS.len hm sl23, RdS.idx hm sl23, RdS.cellB hm (Ext.pres eB), RdS.cells hm, RdS.len hr5 sl26, RdS.idx hr5 sl26, RdS.cellB hr5 (Ext.pres eB), RdS.cells hr5, RdS.len hr10 sl22, RdS.idx hr10 sl22, R1.intB hr10 (Ext.pres eB), RdS.cells hr10, BoxAt.cell hb, wrap_id]
              try simp -implicitDefEqProofs (disch := first | decide | assumption | omega) only [go_sem, RdS.len hd sl22, RdS.idx hd sl22, R1.intB hd (Ext.pres eB), RdS.cells hd, RdS.len hm sl23, RdS.idx hm sl23, RdS.cellB hm (Ext.pres eB), RdS.cells hm, RdS.len hr5 sl26, RdS.idx hr5 sl26, RdS.cellB hr5 (Ext.pres eB), RdS.cells hr5, RdS.len hr10 sl22, RdS.idx hr10 sl22, R1.intB hr10 (Ext.pres eB), RdS.cells hr10, BoxAt.cell hb, wrap_id]
              refine CallA.mono (hst _ _ k i j (by omega) (by omega) (by omega) hR) ?_
              intro u h10_6
              rintro ⟨hR2, cv⟩
              have hbl := hb.lt
              replace hb := BoxAt.chg hb cv (fun hm => by have := hfp _ hm; omega)
              replace hch := hch.trans cv
              replace eB := hR0 _ _ hR2
              try simp -implicitDefEqProofs (disch := first | decide | assumption | omega) only [go_sem, RdS.len hd sl22, RdS.idx hd sl22, R1.intB hd (Ext.pres eB), RdS.cells hd, RdS.len hm sl23, RdS.idx hm sl23, RdS.cellB hm (Ext.pres eB), RdS.cells hm, RdS.len hr5 sl26, RdS.idx hr5 sl26, RdS.cellB hr5 (Ext.pres eB), RdS.cells hr5, RdS.len hr10 sl22, RdS.idx hr10 sl22, R1.intB hr10 (Ext.pres eB), RdS.cells hr10, BoxAt.cell hb, wrap_id]
              refine hK _ _ ?_
              clear hK K
              refine den_blk ?_
              refine den_region TTok ?_
              intro K hK
              simp -implicitDefEqProofs (disch := first | decide | assumption | omega) only [go_sem, RdS.len hd sl22, RdS.idx hd sl22, R1.intB hd (Ext.pres eB), RdS.cells hd, RdS.len hm sl23, RdS.idx hm sl23, RdS.cellB hm (Ext.pres eB), RdS.cells hm, RdS.len hr5 sl26, RdS.idx hr5 sl26, RdS.cellB hr5 (Ext.pres eB), RdS.cells hr5, RdS.len hr10 sl22, RdS.idx hr10 sl22, R1.intB hr10 (Ext.pres eB), RdS.cells hr10, BoxAt.cell hb, wrap_id]
              refine hK _ _ ?_
              clear hK K
              refine den_stop ?_
              refine ⟨j + 1, by simp [HasL, puts_at], ⟨eB, by omega, ?_, hch, hb⟩, by omega⟩
              rw [uJ, applyU_app]
              exact hR2
            · try simp only [decide_eq_true_eq, decide_eq_false_iff_not, beq_iff_eq, beq_eq_false_iff_ne, bne_iff_ne, ne_eq, Bool.not_eq_true', Bool.not_eq_false', Bool.and_eq_true, Bool.or_eq_true, bne_eq_false_iff_eq] at c2
              refine den_exit ?_
              refine denX_code ?_
              refine denX_stop ?_
              refine denX_hit ?_
              refine den_blk ?_
              refine den_region TTok ?_
              intro K hK
              simp -implicitDefEqProofs (disch := first | decide | assumption | omega) only [go_sem, RdS.len hd sl22, RdS.idx hd sl22, R1.intB hd (Ext.pres eB), RdS.cells hd, RdS.len hm sl23, RdS.idx hm sl23, RdS.cellB hm (Ext.pres eB), RdS.cells hm, RdS.len hr5 sl26, RdS.idx hr5 sl26, RdS.cellB hr5 (Ext.pres eB), RdS.cells hr5, RdS.len hr10 sl22, RdS.idx hr10 sl22, R1.intB hr10 (Ext.pres eB), RdS.cells hr10, BoxAt.cell hb, wrap_id]
              refine hK _ _ ?_
              clear hK K
              refine den_stop ?_
              refine ⟨i + 1, by simp [HasL, puts_at], ⟨eB, by omega, ?_, hch, hb⟩, by omega⟩
              rw [uI, applyU_app, show ((X.maps.getD k default).getD i default).length = j by omega]
              exact hR
        · try simp only [decide_eq_true_eq, decide_eq_false_iff_not, beq_iff_eq, beq_eq_false_iff_ne, bne_iff_ne, ne_eq, Bool.not_eq_true', Bool.not_eq_false', Bool.and_eq_true, Bool.or_eq_true, bne_eq_false_iff_eq] at c1
          refine den_exit ?_
          refine denX_code ?_
          refine denX_stop ?_
          refine denX_hit ?_
          refine den_blk ?_
          refine den_region TTok ?_
          intro K hK
          simp -implicitDefEqProofs (disch := first | decide | assumption | omega) only [go_sem, RdS.len hd sl22, RdS.idx hd sl22, R1.intB hd (Ext.pres eB), RdS.cells hd, RdS.len hm sl23, RdS.idx hm sl23, RdS.cellB hm (Ext.pres eB), RdS.cells hm, RdS.len hr5 sl26, RdS.idx hr5 sl26, RdS.cellB hr5 (Ext.pres eB), RdS.cells hr5, BoxAt.cell hb, wrap_id]
          refine hK _ _ ?_
          clear hK K
          refine den_stop ?_
          refine ⟨k + 1, by simp [HasL, puts_at], ⟨eB, by omega, ?_, hch, hb⟩, by omega⟩
          rw [uK, applyU_app, show (X.maps.getD k default).length = i by omega]
          exact hR
    · try simp only [decide_eq_true_eq, decide_eq_false_iff_not, beq_iff_eq, beq_eq_false_iff_ne, bne_iff_ne, ne_eq, Bool.not_eq_true', Bool.not_eq_false', Bool.and_eq_true, Bool.or_eq_true, bne_eq_false_iff_eq] at c0
      refine den_exit ?_
      refine denX_code ?_
      refine denX_stop ?_
      refine denX_hit ?_
      refine den_nil ?_
      simp (disch := decide) only [resP_0, puts_same, puts_ne]
      rw [show X.maps.length = k by omega]
      exact ⟨by first | rfl | trivial, hR, hch⟩

theorem eachB_upd {p : Int} {L : Nat} {A B : Nat → Nat} {Ot : Heap → Prop} {U : UF} {vw : Value} {fw : List Nat} {g : FuncId} {bs cs : Array Value} {X : Cx} {vd vm : Value} {h0 : Heap} (hp : 0 < p) (hd : R1 h0 vd X.dims) (hm : R3 h0 vm X.maps) {s0 : M3} {h : Heap} (hR : ORel p h0 vw fw L A B Ot s0 h) (hot : ∀ H H', Chg fw H H' → Ot H → Ot H') (hge : ∀ b ∈ fw, h0.size ≤ b)
    (hU : ∀ k i j, k < X.maps.length → i < (X.maps.getD k default).length → j < ((X.maps.getD k default).getD i default).length → ∀ u ∈ U k i j (((X.maps.getD k default).getD i default).getD j 0), InU L A B u)
    (hcl : ∀ s H k i j, k < X.maps.length → i < (X.maps.getD k default).length → j < ((X.maps.getD k default).getD i default).length → ORel p h0 vw fw L A B Ot s H → CallA Try.prog g (bs ++ #[.int .i64 ((k : Int) + 1), .int .i64 (i : Int), .int .i64 (j : Int), .int .i64 (((X.maps.getD k default).getD i default).getD j 0)] ++ cs) H fun u H' => O3 H' vw (applyU p s (U k i j (((X.maps.getD k default).getD i default).getD j 0))) fw ∧ Chg fw H H') :
    CallA Try.prog 75 #[.agg #[.int .i64 X.p, vd, vm], .func (.func g) bs cs] h fun v' h' => v' = .tuple #[] ∧ O3 h' vw (applyU p s0 (uK U X.maps X.maps.length)) fw ∧ Chg fw h h' := by
  refine (eachB_ok p (ORel p h0 vw fw L A B Ot) U fw g bs cs X vd vm h0 hd hm s0 h hR ?_ (fun s H r => r.e) (OS.lt hR.o) ?_).mono (fun v' h' q => ⟨q.1, q.2.1.o, q.2.2⟩)
  · exact fun s H H' r e => ⟨OS.ext r.o e, r.sh, r.i3, r.e.trans e, hot _ _ (e.chg _) r.ot⟩
  · intro s H k i j hk hi hj r
    refine (hcl s H k i j hk hi hj r).mono (fun u H' q => ⟨⟨q.1, applyU_sh r.sh (hU k i j hk hi hj), applyU_in hp r.sh r.i3 (hU k i j hk hi hj), Ext.then r.e q.2 hge, hot _ _ q.2 r.ot⟩, q.2⟩)

end Go.Proofs.Ytjjjgllbocgkbaa
