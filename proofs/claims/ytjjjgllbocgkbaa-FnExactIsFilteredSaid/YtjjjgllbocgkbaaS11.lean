/-
  Walks: pairs of complexes.
  Conditions: each theorem's own.
-/
import Derived.Test.YtjjjgllbocgkbaaS10
import Derived.Test.YtjjjgllbocgkbaaG15
set_option linter.unusedVariables false
set_option linter.unusedSimpArgs false
namespace Go.Proofs.Ytjjjgllbocgkbaa
open Go
/-- What the program says of a list of complexes: 0, 1 for an invalid one, 2 for two primes. -/
noncomputable def sameP (L : List Cx) : Int := if L.all isC = true then (if L.all (fun X => X.p == (L.getD 0 default).p) = true then 0 else 2) else 1
noncomputable def twoP (X Y : Cx) : Int := if isC X = true ∧ isC Y = true then (if X.p = Y.p then 0 else 2) else 1
theorem sameP_two (X Y : Cx) : sameP [X, Y] = twoP X Y := by
  unfold sameP twoP
  by_cases h1 : isC X = true <;> by_cases h2 : isC Y = true <;> by_cases h3 : X.p = Y.p <;> simp [h1, h2, h3, eq_comm (a := Y.p)]
theorem vint_i {k : IntKind} {x y : Int} (e : x = y) : Value.int k x = Value.int k y := by rw [e]

set_option maxRecDepth 100000 in
theorem same_ok (v : Value) (L : List Cx) (h : Heap) (hv : RdA 3 RC h v L) : CallA Try.prog 127 #[v] h fun v' h' => v' = .int .i64 (sameP L) ∧ Ext h h' := by
  have hle := RdA.le hv
  refine callA_intro TTok (args := [_]) Try.func127 (by kernel_rfl) rfl 31 rfl (by simp) [.tmp 2] rfl ?_
  simp only [idxs, Nat.reduceAdd]
  refine den_seq ?_
  refine den_region TTok ?_
  intro K hK
  simp -implicitDefEqProofs (disch := first | decide | assumption | omega) only [go_sem, RdA.len hv slC, RdA.idx hv slC, wrap_id, Int.toNat_zero]
  refine hK _ _ ?_
  clear hK K
  refine den_seq ?_
  refine den_seq ?_
  refine den_region TTok ?_
  intro K hK
  simp -implicitDefEqProofs (disch := first | decide | assumption | omega) only [go_sem, RdA.len hv slC, RdA.idx hv slC, wrap_id, Int.toNat_zero]
  refine hK _ _ ?_
  clear hK K
  refine den_block ?_
  refine den_sel [9, 0, 7, 8] ?_
  intro env_1
  simp only [go_sem]
  refine den_loopS (σ := Nat) (fun s => [(9, .int .i64 (s : Int))]) (fun s H => Ext h H ∧ s ≤ L.length ∧ (L.take s).all isC = true) (fun s => L.length - s) 0 ?_ ?_
  · exact ⟨Ext.refl _, by omega, by simp⟩
  · rintro k h4 ee3 ⟨eB, hk, hz⟩
    simp only [List.cons_append, List.nil_append]
    have := Ext.size eB
    refine den_seq ?_
    refine den_region TTok ?_
    intro K hK
    simp -implicitDefEqProofs (disch := first | decide | assumption | omega) only [go_sem, RdA.len hv slC, RdA.idx hv slC, wrap_id, Int.toNat_zero]
    refine hK _ _ ?_
    clear hK K
    refine den_seq ?_
    refine den_cond rfl (fun c0 => ?_) (fun c0 => ?_)
    · try simp only [decide_eq_true_eq, decide_eq_false_iff_not, beq_iff_eq, beq_eq_false_iff_ne, bne_iff_ne, ne_eq, Bool.not_eq_true', Bool.not_eq_false', Bool.and_eq_true, Bool.or_eq_true, bne_eq_false_iff_eq] at c0
      refine den_skip ?_
      refine den_seq ?_
      refine den_block ?_
      refine den_seq ?_
      obtain ⟨vda, vma, hp0a, hp1a, hp2a, hda, hma⟩ := RdA.at3 hv k (by omega)
      refine den_region TTok ?_
      intro K hK
      simp -implicitDefEqProofs (disch := first | decide | assumption | omega) only [go_sem, ld31, RdA.len hv slC, RdA.idx hv slC, wrap_id, Int.toNat_zero, (Ext.pres eB) _ _ hp0a, (Ext.pres eB) _ _ hp1a, (Ext.pres eB) _ _ hp2a]
      refine op_alloc (cs := #[.int .i64 0, .slice none 0 0, .slice none 0 0]) (by kernel_rfl) ?_
      intro h3_2 e3_2 hb3_2 z3_2
      have := Ext.size e3_2
      replace eB := Ext.trans eB e3_2
      try simp -implicitDefEqProofs (disch := first | decide | assumption | omega) only [go_sem, RdA.len hv slC, RdA.idx hv slC, BoxAt.cell hb3_2, wrap_id, Int.toNat_zero, (Ext.pres eB) _ _ hp0a, (Ext.pres eB) _ _ hp1a, (Ext.pres eB) _ _ hp2a]
      refine op_storeB (cs' := #[.int .i64 (((L.getD k default).p)), vda, vma]) st31 hb3_2 rfl rfl rfl (by simp) (allOne_mem (l := [.int .i64 (((L.getD k default).p)), vda, vma]) ⟨rfl, (RdS.one hda), (RdS.one hma), trivial⟩) rfl ?_
      intro h3_3 hb3_2 c3_3
      have := c3_3.size
      replace eB := Ext.then eB c3_3 (fun b hb => by simp at hb; omega)
      try simp -implicitDefEqProofs (disch := first | decide | assumption | omega) only [go_sem, RdA.len hv slC, RdA.idx hv slC, BoxAt.cell hb3_2, wrap_id, Int.toNat_zero, (Ext.pres eB) _ _ hp0a, (Ext.pres eB) _ _ hp1a, (Ext.pres eB) _ _ hp2a]
      refine hK _ _ ?_
      clear hK K
      refine den_seq ?_
      refine den_region TTok ?_
      intro K hK
      simp -implicitDefEqProofs (disch := first | decide | assumption | omega) only [go_sem, ld31, RdA.len hv slC, RdA.idx hv slC, BoxAt.cell hb3_2, wrap_id, Int.toNat_zero]
      try simp -implicitDefEqProofs (disch := first | decide | assumption | omega) only [go_sem, RdA.len hv slC, RdA.idx hv slC, BoxAt.cell hb3_2, wrap_id, Int.toNat_zero]
      refine CallA.mono (iIs_ok _ (L.getD k default) _ ⟨_, _, rfl, (RdS.pres hda (Ext.pres eB)), (RdS.pres hma (Ext.pres eB))⟩) ?_
      intro v_ h4_1
      rintro ⟨rfl, e4_1⟩
      replace hb3_2 := BoxAt.ext hb3_2 e4_1
      have := Ext.size e4_1
      replace eB := Ext.trans eB e4_1
      try simp -implicitDefEqProofs (disch := first | decide | assumption | omega) only [go_sem, RdA.len hv slC, RdA.idx hv slC, BoxAt.cell hb3_2, wrap_id, Int.toNat_zero]
      refine hK _ _ ?_
      clear hK K
      refine den_cond rfl (fun c1 => ?_) (fun c1 => ?_)
      · try simp only [decide_eq_true_eq, decide_eq_false_iff_not, beq_iff_eq, beq_eq_false_iff_ne, bne_iff_ne, ne_eq, Bool.not_eq_true', Bool.not_eq_false', Bool.and_eq_true, Bool.or_eq_true, bne_eq_false_iff_eq] at c1
        refine den_seq ?_
        refine den_region TTok ?_
        intro K hK
        simp -implicitDefEqProofs (disch := first | decide | assumption | omega) only [go_sem, RdA.len hv slC, RdA.idx hv slC, BoxAt.cell hb3_2, wrap_id, Int.toNat_zero]
        refine hK _ _ ?_
        clear hK K
        refine den_ret ?_
        simp (disch := decide) only [resP_1, puts_same, puts_ne]
        exact ⟨vint (by rw [sameP, all_stop (d := default) (by omega) c1]; rfl), eB⟩
      · try simp only [decide_eq_true_eq, decide_eq_false_iff_not, beq_iff_eq, beq_eq_false_iff_ne, bne_iff_ne, ne_eq, Bool.not_eq_true', Bool.not_eq_false', Bool.and_eq_true, Bool.or_eq_true, bne_eq_false_iff_eq] at c1
        refine den_skip ?_
        refine den_blk ?_
        refine den_region TTok ?_
        intro K hK
        simp -implicitDefEqProofs (disch := first | decide | assumption | omega) only [go_sem, RdA.len hv slC, RdA.idx hv slC, BoxAt.cell hb3_2, wrap_id, Int.toNat_zero]
        refine hK _ _ ?_
        clear hK K
        refine den_stop ?_
        exact ⟨k + 1, by simp [HasL, puts_at], ⟨eB, by omega, all_step (d := default) (by omega) hz c1⟩, by omega⟩
    · try simp only [decide_eq_true_eq, decide_eq_false_iff_not, beq_iff_eq, beq_eq_false_iff_ne, bne_iff_ne, ne_eq, Bool.not_eq_true', Bool.not_eq_false', Bool.and_eq_true, Bool.or_eq_true, bne_eq_false_iff_eq] at c0
      refine den_exit ?_
      refine denX_code ?_
      refine denX_stop ?_
      refine denX_hit ?_
      refine den_seq ?_
      refine den_seq ?_
      refine den_region TTok ?_
      intro K hK
      simp -implicitDefEqProofs (disch := first | decide | assumption | omega) only [go_sem, RdA.len hv slC, RdA.idx hv slC, wrap_id, Int.toNat_zero]
      refine hK _ _ ?_
      clear hK K
      refine den_block ?_
      refine den_sel [19, 0, 17, 18] ?_
      intro env_5
      simp only [go_sem]
      refine den_loopS (σ := Nat) (fun s => [(19, .int .i64 (s : Int))]) (fun s H => Ext h H ∧ s ≤ L.length ∧ (L.take s).all (fun X => X.p == (L.getD 0 default).p) = true) (fun s => L.length - s) 0 ?_ ?_
      · exact ⟨eB, by omega, by simp⟩
      · rintro k h8 ee7 ⟨eB, hk, hz2⟩
        simp only [List.cons_append, List.nil_append]
        have := Ext.size eB
        refine den_seq ?_
        refine den_region TTok ?_
        intro K hK
        simp -implicitDefEqProofs (disch := first | decide | assumption | omega) only [go_sem, RdA.len hv slC, RdA.idx hv slC, wrap_id, Int.toNat_zero]
        refine hK _ _ ?_
        clear hK K
        refine den_seq ?_
        refine den_cond rfl (fun c2 => ?_) (fun c2 => ?_)
        · try simp only [decide_eq_true_eq, decide_eq_false_iff_not, beq_iff_eq, beq_eq_false_iff_ne, bne_iff_ne, ne_eq, Bool.not_eq_true', Bool.not_eq_false', Bool.and_eq_true, Bool.or_eq_true, bne_eq_false_iff_eq] at c2
          refine den_skip ?_
          refine den_seq ?_
          refine den_block ?_
          refine den_seq ?_
          obtain ⟨vdb, vmb, hp0b, hp1b, hp2b, hdb, hmb⟩ := RdA.at3 hv k (by omega)
          obtain ⟨vdz, vmz, hp0z, hp1z, hp2z, hdz, hmz⟩ := RdA.at3 hv 0 (by omega)
          refine den_region TTok ?_
          intro K hK
          simp -implicitDefEqProofs (disch := first | decide | assumption | omega) only [go_sem, ld31, RdA.len hv slC, RdA.idx hv slC, wrap_id, Int.toNat_zero, (Ext.pres eB) _ _ hp0b, (Ext.pres eB) _ _ hp1b, (Ext.pres eB) _ _ hp2b]
          refine op_alloc (cs := #[.int .i64 0, .slice none 0 0, .slice none 0 0]) (by kernel_rfl) ?_
          intro h9_2 e9_2 hb9_2 z9_2
          have := Ext.size e9_2
          replace eB := Ext.trans eB e9_2
          try simp -implicitDefEqProofs (disch := first | decide | assumption | omega) only [go_sem, RdA.len hv slC, RdA.idx hv slC, BoxAt.cell hb9_2, wrap_id, Int.toNat_zero, (Ext.pres eB) _ _ hp0b, (Ext.pres eB) _ _ hp1b, (Ext.pres eB) _ _ hp2b]
          refine op_storeB (cs' := #[.int .i64 (((L.getD k default).p)), vdb, vmb]) st31 hb9_2 rfl rfl rfl (by simp) (allOne_mem (l := [.int .i64 (((L.getD k default).p)), vdb, vmb]) ⟨rfl, (RdS.one hdb), (RdS.one hmb), trivial⟩) rfl ?_
          intro h9_3 hb9_2 c9_3
          have := c9_3.size
          replace eB := Ext.then eB c9_3 (fun b hb => by simp at hb; omega)
          try simp -implicitDefEqProofs (disch := first | decide | assumption | omega) only [go_sem, RdA.len hv slC, RdA.idx hv slC, BoxAt.cell hb9_2, wrap_id, Int.toNat_zero, (Ext.pres eB) _ _ hp0b, (Ext.pres eB) _ _ hp1b, (Ext.pres eB) _ _ hp2b]
          refine hK _ _ ?_
          clear hK K
          refine den_seq ?_
          refine den_draw TTok mixed [] [(0, true), (1, true), (2, true), (3, true), (4, true), (5, true), (6, true)] (by kernel_rfl) ?_
          intro K hK
          simp -implicitDefEqProofs (disch := first | decide | assumption | omega) only [go_sem, fa31_0, ld2, RdA.len hv slC, RdA.idx hv slC, BoxAt.cell hb9_2, wrap_id, Int.toNat_zero, (Ext.pres eB) _ _ hp0z, (Ext.pres eB) _ _ hp1z, (Ext.pres eB) _ _ hp2z]
          refine hK _ _ ?_
          clear hK K
          refine den_cond rfl (fun c3 => ?_) (fun c3 => ?_)
          · try simp only [decide_eq_true_eq, decide_eq_false_iff_not, beq_iff_eq, beq_eq_false_iff_ne, bne_iff_ne, ne_eq, Bool.not_eq_true', Bool.not_eq_false', Bool.and_eq_true, Bool.or_eq_true, bne_eq_false_iff_eq] at c3
            refine den_seq ?_
            refine den_region TTok ?_
            intro K hK
            simp -implicitDefEqProofs (disch := first | decide | assumption | omega) only [go_sem, RdA.len hv slC, RdA.idx hv slC, BoxAt.cell hb9_2, wrap_id, Int.toNat_zero]
            refine hK _ _ ?_
            clear hK K
            refine den_ret ?_
            simp (disch := decide) only [resP_1, puts_same, puts_ne]
            exact ⟨vint (by rw [sameP, if_pos (all_end (by omega) hz), all_stop (d := default) (k := k) (by omega) (by simpa using c3)]; rfl), eB⟩
          · try simp only [decide_eq_true_eq, decide_eq_false_iff_not, beq_iff_eq, beq_eq_false_iff_ne, bne_iff_ne, ne_eq, Bool.not_eq_true', Bool.not_eq_false', Bool.and_eq_true, Bool.or_eq_true, bne_eq_false_iff_eq] at c3
            refine den_skip ?_
            refine den_blk ?_
            refine den_region TTok ?_
            intro K hK
            simp -implicitDefEqProofs (disch := first | decide | assumption | omega) only [go_sem, RdA.len hv slC, RdA.idx hv slC, BoxAt.cell hb9_2, wrap_id, Int.toNat_zero]
            refine hK _ _ ?_
            clear hK K
            refine den_stop ?_
            exact ⟨k + 1, by simp [HasL, puts_at], ⟨eB, by omega, all_step (d := default) (by omega) hz2 (by simpa using c3)⟩, by omega⟩
        · try simp only [decide_eq_true_eq, decide_eq_false_iff_not, beq_iff_eq, beq_eq_false_iff_ne, bne_iff_ne, ne_eq, Bool.not_eq_true', Bool.not_eq_false', Bool.and_eq_true, Bool.or_eq_true, bne_eq_false_iff_eq] at c2
          refine den_exit ?_
          refine denX_code ?_
          refine denX_stop ?_
          refine denX_hit ?_
          refine den_seq ?_
          refine den_region TTok ?_
          intro K hK
          simp -implicitDefEqProofs (disch := first | decide | assumption | omega) only [go_sem, RdA.len hv slC, RdA.idx hv slC, wrap_id, Int.toNat_zero]
          refine hK _ _ ?_
          clear hK K
          refine den_ret ?_
          simp (disch := decide) only [resP_1, puts_same, puts_ne]
          exact ⟨vint (by rw [sameP, if_pos (all_end (by omega) hz), if_pos (all_end (by omega) hz2)]), eB⟩

end Go.Proofs.Ytjjjgllbocgkbaa
