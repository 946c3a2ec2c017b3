/-
  Walks: what is called for each number.
  Conditions: each theorem's own.
-/
import Derived.Test.YtjjjgllbocgkbaaF1
import Derived.Test.YtjjjgllbocgkbaaP14d
set_option linter.unusedVariables false
set_option linter.unusedSimpArgs false
namespace Go.Proofs.Ytjjjgllbocgkbaa
open Go
def lvP (X : Fl) (n i : Int) : Int := (X.lv.getD n.toNat default).getD i.toNat 0
def goodP (X : Fl) (k i j : Nat) (v : Int) : Bool := (v == 0) || decide (lvP X (k : Int) (j : Int) ≤ lvP X ((k : Int) + 1) (i : Int))
def upJ (X : Fl) (k i : Nat) (row : List Int) (m : Nat) : Bool := (List.range m).all fun j => goodP X k i j (row.getD j 0)
def upI (X : Fl) (k : Nat) (R : List (List Int)) (m : Nat) : Bool := (List.range m).all fun i => upJ X k i (R.getD i default) (R.getD i default).length
def upK (X : Fl) (M : List (List (List Int))) (m : Nat) : Bool := (List.range m).all fun k => upI X k (M.getD k default) (M.getD k default).length
theorem all_range_succ {f : Nat → Bool} {m : Nat} : (List.range (m + 1)).all f = ((List.range m).all f && f m) := by
  rw [List.range_succ, List.all_append]; simp
theorem all_range_t {f : Nat → Bool} {m : Nat} : (List.range m).all f = true ↔ ∀ q, q < m → f q = true := by
  rw [List.all_eq_true]
  exact ⟨fun h q hq => h q (List.mem_range.2 hq), fun h q hq => h q (List.mem_range.1 hq)⟩
theorem all_range_f {f : Nat → Bool} {m q : Nat} (hq : q < m) (h : f q = false) : (List.range m).all f = false := by
  rw [List.all_eq_false]
  exact ⟨q, List.mem_range.2 hq, by rw [h]; decide⟩
structure IsF (X : Fl) : Prop where
  c : IsC X.c
  ln : X.lv.length = X.c.dims.length
  rl : ∀ n, n < X.lv.length → ((X.lv.getD n default).length : Int) = X.c.dims.getD n 0
  rr : ∀ n, n < X.lv.length → (X.lv.getD n default).all (fun q => in3 q 0 5) = true
  up : upK X X.c.maps X.c.maps.length = true
noncomputable def isF (X : Fl) : Bool := @decide (IsF X) (Classical.propDecidable _)
theorem isF_t {X : Fl} : isF X = true ↔ IsF X := by
  unfold isF
  exact @decide_eq_true_iff _ (Classical.propDecidable _)
theorem isF_no {X : Fl} (h : ¬ IsF X) : false = isF X := by
  cases e : isF X
  · rfl
  · exact absurd (isF_t.1 e) h
theorem isF_yes {X : Fl} (h : IsF X) : true = isF X := (isF_t.2 h).symm
theorem IsF.lvb {X : Fl} (h : IsF X) {n : Nat} (hn : n < X.lv.length) {i : Nat} (hi : i < (X.lv.getD n default).length) : 0 ≤ (X.lv.getD n default).getD i 0 ∧ (X.lv.getD n default).getD i 0 ≤ 5 := in3_iff.1 (all_at (d := 0) (h.rr n hn) hi)
/-- What the lengths of maps say of those of the levels. -/
theorem up_lens {X : Fl} (hC : IsC X.c) (ln : X.lv.length = X.c.dims.length) (rl : ∀ n, n < X.lv.length → ((X.lv.getD n default).length : Int) = X.c.dims.getD n 0) {k i j : Nat} (hk : k < X.c.maps.length) (hi : i < (X.c.maps.getD k default).length) (hj : j < ((X.c.maps.getD k default).getD i default).length) : k + 1 < X.lv.length ∧ i < (X.lv.getD (k + 1) default).length ∧ j < (X.lv.getD k default).length := by
  have hm := hC.ml
  have l := hC.lens hk
  have l2 := l.2 i hi
  have r1 := rl (k + 1) (by omega)
  have r2 := rl k (by omega)
  exact ⟨by omega, by omega, by omega⟩

set_option maxRecDepth 100000 in
theorem eachG_ok (Rel : Nat → Nat → Nat → Heap → Prop) (fpC : List Nat) (g : FuncId) (cs : Array Value) (X : Cx) (vd vm : Value) (h0 : Heap) (hd : R1 h0 vd X.dims) (hm : R3 h0 vm X.maps) (h : Heap) (hR : Rel 0 0 0 h) (hRe : ∀ k i j H H', Rel k i j H → Ext H H' → Rel k i j H') (hR0 : ∀ k i j H, Rel k i j H → Ext h0 H) (hK : ∀ k H, k < X.maps.length → Rel k (X.maps.getD k default).length 0 H → Rel (k + 1) 0 0 H) (hI : ∀ k i H, k < X.maps.length → i < (X.maps.getD k default).length → Rel k i ((X.maps.getD k default).getD i default).length H → Rel k (i + 1) 0 H) (hfp : ∀ b ∈ fpC, b < h.size) (hst : ∀ H k i j, k < X.maps.length → i < (X.maps.getD k default).length → j < ((X.maps.getD k default).getD i default).length → Rel k i j H → CallA Try.prog g (#[.int .i64 ((k : Int) + 1), .int .i64 (i : Int), .int .i64 (j : Int), .int .i64 (((X.maps.getD k default).getD i default).getD j 0)] ++ cs) H fun u H' => Rel k i (j + 1) H' ∧ Chg fpC H H') : CallA Try.prog 75 #[.agg #[.int .i64 X.p, vd, vm], .func (.func g) #[] cs] h fun v' h' => v' = .tuple #[] ∧ Rel X.maps.length 0 0 h' ∧ Chg fpC h h' := by
  have hle := RdS.le hd
  have hlm := RdS.le hm
  have eB := hR0 _ _ _ _ hR
  refine callA_intro TTok (args := [_, _]) Try.func75 (by kernel_rfl) rfl 42 rfl (by simp) [] rfl ?_
  simp only [idxs, Nat.reduceAdd]
  refine den_seq ?_
  refine den_region TTok ?_
  intro K hK
  simp -implicitDefEqProofs (disch := first | decide | assumption | omega) only [go_sem, RdS.len hd sl22, RdS.idx hd sl22, R1.intB hd (Ext.pres eB), RdS.cells hd, RdS.len hm sl23, RdS.idx hm sl23, RdS.cellB hm (Ext.pres eB), RdS.cells hm, wrap_id]
  refine op_box (cs := #[.int .i64 (X.p), vd, vm]) rfl ?_
  intro h0_0 e0_0 hb0_0 z0_0
  have := Ext.size e0_0
  replace eB := Ext.trans eB e0_0
  try simp -implicitDefEqProofs (disch := first | decide | assumption | omega) only [go_sem, RdS.len hd sl22, RdS.idx hd sl22, R1.intB hd (Ext.pres eB), RdS.cells hd, RdS.len hm sl23, RdS.idx hm sl23, RdS.cellB hm (Ext.pres eB), RdS.cells hm, BoxAt.cell hb0_0, wrap_id]
  refine hK _ _ ?_
  clear hK K
  refine den_seq ?_
  refine den_region TTok ?_
  intro K hK
  simp -implicitDefEqProofs (disch := first | decide | assumption | omega) only [go_sem, fa31_2, ld23, RdS.len hd sl22, RdS.idx hd sl22, R1.intB hd (Ext.pres eB), RdS.cells hd, RdS.len hm sl23, RdS.idx hm sl23, RdS.cellB hm (Ext.pres eB), RdS.cells hm, BoxAt.cell hb0_0, wrap_id]
  refine hK _ _ ?_
  clear hK K
  refine den_block ?_
  refine den_sel [13, 1, 11, 12] ?_
  intro env_1
  simp only [go_sem]
  refine den_loopS (σ := Nat) (fun s => [(13, .int .i64 (s : Int))]) (fun s H => Ext h0 H ∧ s ≤ X.maps.length ∧ Rel s 0 0 H ∧ Chg fpC h H ∧ BoxAt H h.size #[.int .i64 X.p, vd, vm] 31) (fun s => X.maps.length - s) 0 ?_ ?_
  · exact ⟨eB, by omega, hRe _ _ _ _ _ hR e0_0, Ext.chg e0_0 _, hb0_0⟩
  · rintro k h4 ee3 ⟨eB, hk, hR, hch, hb⟩
    simp only [List.cons_append, List.nil_append]
    have := Ext.size eB
    refine den_seq ?_
    refine den_region TTok ?_
    intro K hK
    simp -implicitDefEqProofs (disch := first | decide | assumption | omega) only [go_sem, RdS.len hd sl22, RdS.idx hd sl22, R1.intB hd (Ext.pres eB), RdS.cells hd, RdS.len hm sl23, RdS.idx hm sl23, RdS.cellB hm (Ext.pres eB), RdS.cells hm, BoxAt.cell hb, wrap_id]
    refine hK _ _ ?_
    clear hK K
    refine den_seq ?_
    refine den_cond rfl (fun c0 => ?_) (fun c0 => ?_)
    · try simp only [decide_eq_true_eq, decide_eq_false_iff_not, beq_iff_eq, beq_eq_false_iff_ne, bne_iff_ne, ne_eq, Bool.not_eq_true', Bool.not_eq_false', Bool.and_eq_true, Bool.or_eq_true, bne_eq_false_iff_eq] at c0
      refine den_skip ?_
      refine den_seq ?_
      refine den_block ?_
      refine den_seq ?_
      refine den_region TTok ?_
      intro K hK
      have hr5 := RdS.rowN hm k (by omega)
      have hlhr5 := RdS.le hr5
      simp -implicitDefEqProofs (disch := first | decide | assumption | omega) only [go_sem, ld26, RdS.len hd sl22, RdS.idx hd sl22, R1.intB hd (Ext.pres eB), RdS.cells hd, RdS.len hm sl23, RdS.idx hm sl23, RdS.cellB hm (Ext.pres eB), RdS.cells hm, RdS.len hr5 sl26, RdS.idx hr5 sl26, RdS.cellB hr5 (Ext.pres eB), RdS.cells hr5, BoxAt.cell hb, wrap_id]
      refine hK _ _ ?_
      clear hK K
      refine den_seq ?_
      refine den_region TTok ?_
      intro K hK
      simp -implicitDefEqProofs (disch := first | decide | assumption | omega) only [go_sem, RdS.len hd sl22, RdS.idx hd sl22, R1.intB hd (Ext.pres eB), RdS.cells hd, RdS.len hm sl23, RdS.idx hm sl23, RdS.cellB hm (Ext.pres eB), RdS.cells hm, RdS.len hr5 sl26, RdS.idx hr5 sl26, RdS.cellB hr5 (Ext.pres eB), RdS.cells hr5, BoxAt.cell hb, wrap_id]
      refine hK _ _ ?_
      clear hK K
      refine den_block ?_
      refine den_sel [20, 1, 4, 11, 12, 13, 18, 19] ?_
      intro env_6
      simp only [go_sem]
      refine den_loopS (σ := Nat) (fun s => [(20, .int .i64 (s : Int))]) (fun s H => Ext h0 H ∧ s ≤ (X.maps.getD k default).length ∧ Rel k s 0 H ∧ Chg fpC h H ∧ BoxAt H h.size #[.int .i64 X.p, vd, vm] 31) (fun s => (X.maps.getD k default).length - s) 0 ?_ ?_
      · exact ⟨eB, by omega, hR, hch, hb⟩
      · rintro i h9 ee8 ⟨eB, hi, hR, hch, hb⟩
        simp only [List.cons_append, List.nil_append]
        have := Ext.size eB
        refine den_seq ?_
        refine den_region TTok ?_
        intro K hK
        simp -implicitDefEqProofs (disch := first | decide | assumption | omega) only [go_sem, RdS.len hd sl22, RdS.idx hd sl22, R1.intB hd (Ext.pres eB), RdS.cells hd, RdS.len hm sl23, RdS.idx hm sl23, RdS.cellB hm (Ext.pres eB), RdS.cells hm, RdS.len hr5 sl26, RdS.idx hr5 sl26, RdS.cellB hr5 (Ext.pres eB), RdS.cells hr5, BoxAt.cell hb, wrap_id]
        refine hK _ _ ?_
        clear hK K
        refine den_seq ?_
        refine den_cond rfl (fun c1 => ?_) (fun c1 => ?_)
        · try simp only [decide_eq_true_eq, decide_eq_false_iff_not, beq_iff_eq, beq_eq_false_iff_ne, bne_iff_ne, ne_eq, Bool.not_eq_true', Bool.not_eq_false', Bool.and_eq_true, Bool.or_eq_true, bne_eq_false_iff_eq] at c1
          refine den_skip ?_
          refine den_seq ?_
          refine den_block ?_
          refine den_seq ?_
          refine den_region TTok ?_
          intro K hK
          have hr10 := RdS.rowN hr5 i (by omega)
          have hlhr10 := RdS.le hr10
          simp -implicitDefEqProofs (disch := first | decide | assumption | omega) only [go_sem, ld22, RdS.len hd sl22, RdS.idx hd sl22, R1.intB hd (Ext.pres eB), RdS.cells hd, RdS.len hm sl23, RdS.idx hm sl23, RdS.cellB hm (Ext.pres eB), RdS.cells hm, RdS.len hr5 sl26, RdS.idx hr5 sl26, RdS.cellB hr5 (Ext.pres eB), RdS.cells hr5, RdS.len hr10 sl22, RdS.idx hr10 sl22, R1.intB hr10 (Ext.pres eB), RdS.cells hr10, BoxAt.cell hb, wrap_id]
          refine hK _ _ ?_
          clear hK K
          refine den_seq ?_
          refine den_region TTok ?_
          intro K hK
          simp -implicitDefEqProofs (disch := first | decide | assumption | omega) only [go_sem, RdS.len hd sl22, RdS.idx hd sl22, R1.intB hd (Ext.pres eB), RdS.cells hd, RdS.len hm sl23, RdS.idx hm sl23, RdS.cellB hm (Ext.pres eB), RdS.cells hm, RdS.len hr5 sl26, RdS.idx hr5 sl26, RdS.cellB hr5 (Ext.pres eB), RdS.cells hr5, RdS.len hr10 sl22, RdS.idx hr10 sl22, R1.intB hr10 (Ext.pres eB), RdS.cells hr10, BoxAt.cell hb, wrap_id]
          refine hK _ _ ?_
          clear hK K
          refine den_block ?_
          refine den_sel [27, 1, 4, 6, 11, 12, 13, 18, 19, 20, 25, 26] ?_
          intro env_11
          simp only [go_sem]
          refine den_loopS (σ := Nat) (fun s => [(27, .int .i64 (s : Int))]) (fun s H => Ext h0 H ∧ s ≤ ((X.maps.getD k default).getD i default).length ∧ Rel k i s H ∧ Chg fpC h H ∧ BoxAt H h.size #[.int .i64 X.p, vd, vm] 31) (fun s => ((X.maps.getD k default).getD i default).length - s) 0 ?_ ?_
          · exact ⟨eB, by omega, hR, hch, hb⟩
          · rintro j h14 ee13 ⟨eB, hj, hR, hch, hb⟩
            simp only [List.cons_append, List.nil_append]
            have := Ext.size eB
            refine den_seq ?_
            refine den_region TTok ?_
            intro K hK
            simp -implicitDefEqProofs (disch := first | decide | assumption | omega) only [go_sem, RdS.len hd sl22, RdS.idx hd sl22, R1.intB hd (Ext.pres eB), RdS.cells hd, RdS.len hm sl23, RdS.idx hm sl23, RdS.cellB hm (Ext.pres eB), RdS.cells hm, RdS.len hr5 sl26, RdS.idx hr5 sl26, RdS.cellB hr5 (Ext.pres eB), RdS.cells hr5, RdS.len hr10 sl22, RdS.idx hr10 sl22, R1.intB hr10 (Ext.pres eB), RdS.cells hr10, BoxAt.cell hb, wrap_id]
            refine hK _ _ ?_
            clear hK K
            refine den_seq ?_
            refine den_cond rfl (fun c2 => ?_) (fun c2 => ?_)
            · try simp only [decide_eq_true_eq, decide_eq_false_iff_not, beq_iff_eq, beq_eq_false_iff_ne, bne_iff_ne, ne_eq, Bool.not_eq_true', Bool.not_eq_false', Bool.and_eq_true, Bool.or_eq_true, bne_eq_false_iff_eq] at c2
              refine den_skip ?_
              refine den_seq ?_
              refine den_block ?_
              refine den_seq ?_
              refine den_region TTok ?_
              intro K hK
              simp -implicitDefEqProofs (disch := first | decide | assumption | omega) only [go_sem, ld2, RdS.len hd sl22, RdS.idx hd sl22, R1.intB hd (Ext.pres eB), RdS.cells hd, RdS.len hm sl23, RdS.idx hm sl23, RdS.cellB hm (Ext.pres eB), RdS.cells hm, RdS.len hr5 sl26, RdS.idx hr5 sl26, RdS.cellB hr5 (Ext.pres eB), RdS.cells hr5, RdS.len hr10 sl22, RdS.idx hr10 sl22, R1.intB hr10 (Ext.pres eB), RdS.cells hr10, BoxAt.cell hb, wrap_id]
              refine hK _ _ ?_
              clear hK K
              refine den_region TTok ?_
              intro K hK
              simp -implicitDefEqProofs (disch := first | decide | assumption | omega) only [go_sem, RdS.len hd sl22, RdS.idx hd sl22, R1.intB hd (Ext.pres eB), RdS.cells hd, RdS.len hm sl23, RdS.idx hm sl23, RdS.cellB hm (Ext.pres eB), RdS.cells hm, RdS.len hr5 sl26, RdS.idx hr5 sl26, RdS.cellB hr5 (Ext.pres eB), RdS.cells hr5, RdS.len hr10 sl22, RdS.idx hr10 sl22, R1.intB hr10 (Ext.pres eB), RdS.cells hr10, BoxAt.cell hb, wrap_id]
              try simp -implicitDefEqProofs (disch := first | decide | assumption | omega) only [go_sem, RdS.len hd sl22, RdS.idx hd sl22, R1.intB hd (Ext.pres eB), RdS.cells hd, RdS.len hm sl23, RdS.idx hm sl23, RdS.cellB hm (Ext.pres eB), RdS.cells hm, RdS.len hr5 sl26, RdS.idx hr5 sl26, RdS.cellB hr5 (Ext.pres eB), RdS.cells hr5, RdS.len hr10 sl22, RdS.idx hr10 sl22, R1.intB hr10 (Ext.pres eB), RdS.cells hr10, BoxAt.cell hb, wrap_id]
              refine CallA.mono (hst _ k i j (by omega) (by omega) (by omega) hR) ?_
              intro u h10_6
              rintro ⟨hR2, cv⟩
              have hbl := hb.lt
              replace hb := BoxAt.chg hb cv (fun hm => by have := hfp _ hm; omega)
              replace hch := hch.trans cv
              replace eB := hR0 _ _ _ _ hR2
              try simp -implicitDefEqProofs (disch := first | decide | assumption | omega) only [go_sem, RdS.len hd sl22, RdS.idx hd sl22, R1.intB hd (Ext.pres eB), RdS.cells hd, RdS.len hm sl23, RdS.idx hm sl23, RdS.cellB hm (Ext.pres eB), RdS.cells hm, RdS.len hr5 sl26, RdS.idx hr5 sl26, RdS.cellB hr5 (Ext.pres eB), RdS.cells hr5, RdS.len hr10 sl22, RdS.idx hr10 sl22, R1.intB hr10 (Ext.pres eB), RdS.cells hr10, BoxAt.cell hb, wrap_id]
              refine hK _ _ ?_
              clear hK K
              refine den_blk ?_
              refine den_region TTok ?_
              intro K hK
              simp -implicitDefEqProofs (disch := first | decide | assumption | omega) only [go_sem, RdS.len hd sl22, RdS.idx hd sl22, R1.intB hd (Ext.pres eB), RdS.cells hd, RdS.len hm sl23, RdS.idx hm sl23, RdS.cellB hm (Ext.pres eB), RdS.cells hm, RdS.len hr5 sl26, RdS.idx hr5 sl26, RdS.cellB hr5 (Ext.pres eB), RdS.cells hr5, RdS.len hr10 sl22, RdS.idx hr10 sl22, R1.intB hr10 (Ext.pres eB), RdS.cells hr10, BoxAt.cell hb, wrap_id]
              refine hK _ _ ?_
              clear hK K
              refine den_stop ?_
              exact ⟨j + 1, by simp [HasL, puts_at], ⟨eB, by omega, hR2, hch, hb⟩, by omega⟩
            · try simp only [decide_eq_true_eq, decide_eq_false_iff_not, beq_iff_eq, beq_eq_false_iff_ne, bne_iff_ne, ne_eq, Bool.not_eq_true', Bool.not_eq_false', Bool.and_eq_true, Bool.or_eq_true, bne_eq_false_iff_eq] at c2
              refine den_exit ?_
              refine denX_code ?_
              refine denX_stop ?_
              refine denX_hit ?_
              refine den_blk ?_
              refine den_region TTok ?_
              intro K hK
              simp -implicitDefEqProofs (disch := first | decide | assumption | omega) only [go_sem, RdS.len hd sl22, RdS.idx hd sl22, R1.intB hd (Ext.pres eB), RdS.cells hd, RdS.len hm sl23, RdS.idx hm sl23, RdS.cellB hm (Ext.pres eB), RdS.cells hm, RdS.len hr5 sl26, RdS.idx hr5 sl26, RdS.cellB hr5 (Ext.pres eB), RdS.cells hr5, RdS.len hr10 sl22, RdS.idx hr10 sl22, R1.intB hr10 (Ext.pres eB), RdS.cells hr10, BoxAt.cell hb, wrap_id]
              refine hK _ _ ?_
              clear hK K
              refine den_stop ?_
              refine ⟨i + 1, by simp [HasL, puts_at], ⟨eB, by omega, hI _ _ _ (by omega) (by omega) ?_, hch, hb⟩, by omega⟩
              rw [show ((X.maps.getD k default).getD i default).length = j by omega]
              exact hR
        · try simp only [decide_eq_true_eq, decide_eq_false_iff_not, beq_iff_eq, beq_eq_false_iff_ne, bne_iff_ne, ne_eq, Bool.not_eq_true', Bool.not_eq_false', Bool.and_eq_true, Bool.or_eq_true, bne_eq_false_iff_eq] at c1
          refine den_exit ?_
          refine denX_code ?_
          refine denX_stop ?_
          refine denX_hit ?_
          refine den_blk ?_
          refine den_region TTok ?_
          intro K hK
          simp -implicitDefEqProofs (disch := first | decide | assumption | omega) only [go_sem, RdS.len hd sl22, RdS.idx hd sl22, R1.intB hd (Ext.pres eB), RdS.cells hd, RdS.len hm sl23, RdS.idx hm sl23, RdS.cellB hm (Ext.pres eB), RdS.cells hm, RdS.len hr5 sl26, RdS.idx hr5 sl26, RdS.cellB hr5 (Ext.pres eB), RdS.cells hr5, BoxAt.cell hb, wrap_id]
          refine hK _ _ ?_
          clear hK K
          refine den_stop ?_
          refine ⟨k + 1, by simp [HasL, puts_at], ⟨eB, by omega, hK _ _ (by omega) ?_, hch, hb⟩, by omega⟩
          rw [show (X.maps.getD k default).length = i by omega]
          exact hR
    · try simp only [decide_eq_true_eq, decide_eq_false_iff_not, beq_iff_eq, beq_eq_false_iff_ne, bne_iff_ne, ne_eq, Bool.not_eq_true', Bool.not_eq_false', Bool.and_eq_true, Bool.or_eq_true, bne_eq_false_iff_eq] at c0
      refine den_exit ?_
      refine denX_code ?_
      refine denX_stop ?_
      refine denX_hit ?_
      refine den_nil ?_
      simp (disch := decide) only [resP_0, puts_same, puts_ne]
      rw [show X.maps.length = k by omega]
      exact ⟨by first | rfl | trivial, hR, hch⟩

set_option maxRecDepth 100000 in
theorem isF1_ok (x : Int) (h : Heap) : CallA Try.prog 73 #[.int .i64 x] h fun v h' => v = .bool (!in3 x 0 5) ∧ h' = h := by
  refine callA_intro TTok (args := [_]) Try.func73 (by kernel_rfl) rfl 6 rfl (by simp) [.tmp 2] rfl ?_
  simp only [idxs, Nat.reduceAdd]
  refine den_seq ?_
  refine den_region TTok ?_
  intro K hK
  simp -implicitDefEqProofs (disch := first | decide | assumption | omega) only [go_sem]
  refine hK _ _ ?_
  clear hK K
  refine den_seq ?_
  refine den_region TTok ?_
  intro K hK
  simp -implicitDefEqProofs (disch := first | decide | assumption | omega) only [go_sem]
  try simp -implicitDefEqProofs (disch := first | decide | assumption | omega) only [go_sem]
  refine CallA.pure (iIn_ok _ _ _ _) ?_
  try simp -implicitDefEqProofs (disch := first | decide | assumption | omega) only [go_sem]
  refine hK _ _ ?_
  clear hK K
  refine den_ret ?_
  simp (disch := decide) only [resP_1, puts_same, puts_ne]
  exact ⟨by first | rfl | trivial, trivial⟩

set_option maxRecDepth 100000 in
theorem isF2_ok (X : Fl) (vdX vmX vvX : Value) (k i j : Nat) (x : Int) (b : Bool) (bB bX : Nat) (h0 h : Heap) (hdX : R1 h0 vdX X.c.dims) (hmX : R3 h0 vmX X.c.maps) (hvX : R2 h0 vvX X.lv) (eB : Ext h0 h) (hbB : BoxAt h bB #[.bool b] 4) (hbX : BoxAt h bX #[.int .i64 X.c.p, vdX, vmX, vvX] 33) (hne : bB ≠ bX) (hB0 : h0.size ≤ bB) (hk : k + 1 < X.lv.length) (hi : i < (X.lv.getD (k + 1) default).length) (hj : j < (X.lv.getD k default).length) : CallA Try.prog 76 #[.int .i64 ((k : Int) + 1), .int .i64 (i : Int), .int .i64 (j : Int), .int .i64 x, .pointer (some ⟨bB, 0, none⟩), .pointer (some ⟨bX, 0, none⟩)] h fun v' h' => v' = .tuple #[] ∧ BoxAt h' bB #[.bool (b && goodP X k i j x)] 4 ∧ Chg [bB] h h' := by
  have hlv := RdS.le hvX
  have hj' : j < (X.lv.getD ((k : Int) + 1 - 1).toNat default).length := by rw [show ((k : Int) + 1 - 1).toNat = k by omega]; exact hj
  have hi' : i < (X.lv.getD ((k : Int) + 1).toNat default).length := by rw [show ((k : Int) + 1).toNat = k + 1 by omega]; exact hi
  have ek : ((k : Int) + 1).toNat = k + 1 := by omega
  refine callA_intro TTok (args := [_, _, _, _, _, _]) Try.func76 (by kernel_rfl) rfl 35 rfl (by simp) [] rfl ?_
  simp only [idxs, Nat.reduceAdd]
  refine den_draw TTok mixed [25] [(0, true), (1, true), (2, true), (3, true), (4, true), (5, true), (6, true), (7, true), (8, true), (9, true), (10, true), (11, true), (12, true), (13, true), (14, true), (15, true), (16, true), (17, true), (18, true), (19, true), (20, true), (21, true), (22, true), (23, true), (24, true), (25, false)] (by kernel_rfl) ?_
  intro K hK
  simp -implicitDefEqProofs (disch := first | decide | assumption | (simp (disch := decide) only [slotOf_zero, slotOf_succ, Option.map_some, puts_same, puts_ne, gv_bool, gv_undef, tt, tf, ft, ff, eq_self, if_true, if_false, Bool.false_eq_true, Bool.not_true, Bool.not_false]; done) | omega) only [go_sem, ld4, RdS.len hdX sl22, RdS.idx hdX sl22, R1.intB hdX (Ext.pres eB), RdS.cells hdX, RdS.len hmX sl23, RdS.idx hmX sl23, RdS.cellB hmX (Ext.pres eB), RdS.cells hmX, RdS.len hvX sl26, RdS.idx hvX sl26, RdS.cellB hvX (Ext.pres eB), RdS.cells hvX, BoxAt.cell hbB, BoxAt.cell hbX, wrap_id]
  refine plG_T (by simp (disch := decide) only [slotOf_zero, slotOf_succ, Option.map_some, puts_same, puts_ne, gv_bool, gv_undef, tt, tf, ft, ff, eq_self, if_true, if_false, Bool.false_eq_true, Bool.not_true, Bool.not_false]; rfl) (fun g1 => ?_) (fun g1 => ?_)
  · try simp -implicitDefEqProofs (disch := first | decide | assumption | (simp (disch := decide) only [slotOf_zero, slotOf_succ, Option.map_some, puts_same, puts_ne, gv_bool, gv_undef, tt, tf, ft, ff, eq_self, if_true, if_false, Bool.false_eq_true, Bool.not_true, Bool.not_false, g1]; done) | omega) only [go_sem, RdS.len hdX sl22, RdS.idx hdX sl22, R1.intB hdX (Ext.pres eB), RdS.cells hdX, RdS.len hmX sl23, RdS.idx hmX sl23, RdS.cellB hmX (Ext.pres eB), RdS.cells hmX, RdS.len hvX sl26, RdS.idx hvX sl26, RdS.cellB hvX (Ext.pres eB), RdS.cells hvX, BoxAt.cell hbB, BoxAt.cell hbX, wrap_id, g1, eq_self, if_true, if_false, Bool.false_eq_true]
    refine plG_F (by simp (disch := decide) only [slotOf_zero, slotOf_succ, Option.map_some, puts_same, puts_ne, gv_bool, gv_undef, tt, tf, ft, ff, eq_self, if_true, if_false, Bool.false_eq_true, Bool.not_true, Bool.not_false, g1]; rfl) (fun g2 => ?_) (fun g2 => ?_)
    · have hr3 := RdS.rowN hvX ((((k : Int) + 1) - (1 : Int))).toNat (by omega)
      have hlhr3 := RdS.le hr3
      have hr4 := RdS.rowN hvX (((k : Int) + 1)).toNat (by omega)
      have hlhr4 := RdS.le hr4
      try simp -implicitDefEqProofs (disch := first | decide | assumption | (simp (disch := decide) only [slotOf_zero, slotOf_succ, Option.map_some, puts_same, puts_ne, gv_bool, gv_undef, tt, tf, ft, ff, eq_self, if_true, if_false, Bool.false_eq_true, Bool.not_true, Bool.not_false, g1, g2]; done) | omega) only [go_sem, fa33_1, ld26, ld22, ld2, RdS.len hdX sl22, RdS.idx hdX sl22, R1.intB hdX (Ext.pres eB), RdS.cells hdX, RdS.len hmX sl23, RdS.idx hmX sl23, RdS.cellB hmX (Ext.pres eB), RdS.cells hmX, RdS.len hvX sl26, RdS.idx hvX sl26, RdS.cellB hvX (Ext.pres eB), RdS.cells hvX, RdS.len hr3 sl22, RdS.idx hr3 sl22, R1.intB hr3 (Ext.pres eB), RdS.cells hr3, RdS.len hr4 sl22, RdS.idx hr4 sl22, R1.intB hr4 (Ext.pres eB), RdS.cells hr4, BoxAt.cell hbB, BoxAt.cell hbX, wrap_id, g1, g2, eq_self, if_true, if_false, Bool.false_eq_true]
      refine op_storeB (o := 0) (vs := #[.bool ((b && goodP X k i j x))]) (cs' := #[.bool ((b && goodP X k i j x))]) st4 hbB ?_ ?_ rfl (by simp) (allOne_mem (l := [.bool ((b && goodP X k i j x))]) ⟨rfl, trivial⟩) rfl ?_
      · rfl
      · simp (disch := decide) [go_sem, goodP, lvP, ek, g1, g2]
      intro h0_25 hbB c0_25
      replace hbX := BoxAt.chg hbX c0_25 (by simp; omega)
      have := c0_25.size
      replace eB := Ext.then eB c0_25 (fun b hb => by simp at hb; omega)
      try simp (disch := decide) only [outv_some, outv_none, put_puts]
      refine plK_last (by decide) ?_
      try simp -implicitDefEqProofs (disch := first | decide | assumption | (simp (disch := decide) only [slotOf_zero, slotOf_succ, Option.map_some, puts_same, puts_ne, gv_bool, gv_undef, tt, tf, ft, ff, eq_self, if_true, if_false, Bool.false_eq_true, Bool.not_true, Bool.not_false, g1, g2]; done) | omega) only [go_sem, RdS.len hdX sl22, RdS.idx hdX sl22, R1.intB hdX (Ext.pres eB), RdS.cells hdX, RdS.len hmX sl23, RdS.idx hmX sl23, RdS.cellB hmX (Ext.pres eB), RdS.cells hmX, RdS.len hvX sl26, RdS.idx hvX sl26, RdS.cellB hvX (Ext.pres eB), RdS.cells hvX, RdS.len hr3 sl22, RdS.idx hr3 sl22, R1.intB hr3 (Ext.pres eB), RdS.cells hr3, RdS.len hr4 sl22, RdS.idx hr4 sl22, R1.intB hr4 (Ext.pres eB), RdS.cells hr4, BoxAt.cell hbB, BoxAt.cell hbX, wrap_id, g1, g2, eq_self, if_true, if_false, Bool.false_eq_true]
      refine hK _ _ ?_
      clear hK K
      refine den_nil ?_
      simp (disch := decide) only [resP_0, puts_same, puts_ne]
      exact ⟨by first | rfl | trivial, hbB, c0_25⟩
    · try simp -implicitDefEqProofs (disch := first | decide | assumption | (simp (disch := decide) only [slotOf_zero, slotOf_succ, Option.map_some, puts_same, puts_ne, gv_bool, gv_undef, tt, tf, ft, ff, eq_self, if_true, if_false, Bool.false_eq_true, Bool.not_true, Bool.not_false, g1, g2]; done) | omega) only [go_sem, RdS.len hdX sl22, RdS.idx hdX sl22, R1.intB hdX (Ext.pres eB), RdS.cells hdX, RdS.len hmX sl23, RdS.idx hmX sl23, RdS.cellB hmX (Ext.pres eB), RdS.cells hmX, RdS.len hvX sl26, RdS.idx hvX sl26, RdS.cellB hvX (Ext.pres eB), RdS.cells hvX, BoxAt.cell hbB, BoxAt.cell hbX, wrap_id, g1, g2, eq_self, if_true, if_false, Bool.false_eq_true]
      refine op_storeB (o := 0) (vs := #[.bool ((b && goodP X k i j x))]) (cs' := #[.bool ((b && goodP X k i j x))]) st4 hbB ?_ ?_ rfl (by simp) (allOne_mem (l := [.bool ((b && goodP X k i j x))]) ⟨rfl, trivial⟩) rfl ?_
      · rfl
      · simp (disch := decide) [go_sem, goodP, lvP, ek, g1, g2]
      intro h0_25_1 hbB c0_25_1
      replace hbX := BoxAt.chg hbX c0_25_1 (by simp; omega)
      have := c0_25_1.size
      replace eB := Ext.then eB c0_25_1 (fun b hb => by simp at hb; omega)
      try simp (disch := decide) only [outv_some, outv_none, put_puts]
      refine plK_last (by decide) ?_
      try simp -implicitDefEqProofs (disch := first | decide | assumption | (simp (disch := decide) only [slotOf_zero, slotOf_succ, Option.map_some, puts_same, puts_ne, gv_bool, gv_undef, tt, tf, ft, ff, eq_self, if_true, if_false, Bool.false_eq_true, Bool.not_true, Bool.not_false, g1, g2]; done) | omega) only [go_sem, RdS.len hdX sl22, RdS.idx hdX sl22, R1.intB hdX (Ext.pres eB), RdS.cells hdX, RdS.len hmX sl23, RdS.idx hmX sl23, RdS.cellB hmX (Ext.pres eB), RdS.cells hmX, RdS.len hvX sl26, RdS.idx hvX sl26, RdS.cellB hvX (Ext.pres eB), RdS.cells hvX, BoxAt.cell hbB, BoxAt.cell hbX, wrap_id, g1, g2, eq_self, if_true, if_false, Bool.false_eq_true]
      refine hK _ _ ?_
      clear hK K
      refine den_nil ?_
      simp (disch := decide) only [resP_0, puts_same, puts_ne]
      exact ⟨by first | rfl | trivial, hbB, c0_25_1⟩
  · try simp -implicitDefEqProofs (disch := first | decide | assumption | (simp (disch := decide) only [slotOf_zero, slotOf_succ, Option.map_some, puts_same, puts_ne, gv_bool, gv_undef, tt, tf, ft, ff, eq_self, if_true, if_false, Bool.false_eq_true, Bool.not_true, Bool.not_false, g1]; done) | omega) only [go_sem, RdS.len hdX sl22, RdS.idx hdX sl22, R1.intB hdX (Ext.pres eB), RdS.cells hdX, RdS.len hmX sl23, RdS.idx hmX sl23, RdS.cellB hmX (Ext.pres eB), RdS.cells hmX, RdS.len hvX sl26, RdS.idx hvX sl26, RdS.cellB hvX (Ext.pres eB), RdS.cells hvX, BoxAt.cell hbB, BoxAt.cell hbX, wrap_id, g1, eq_self, if_true, if_false, Bool.false_eq_true]
    try simp -implicitDefEqProofs (disch := first | decide | assumption | (simp (disch := decide) only [slotOf_zero, slotOf_succ, Option.map_some, puts_same, puts_ne, gv_bool, gv_undef, tt, tf, ft, ff, eq_self, if_true, if_false, Bool.false_eq_true, Bool.not_true, Bool.not_false, g1]; done) | omega) only [go_sem, RdS.len hdX sl22, RdS.idx hdX sl22, R1.intB hdX (Ext.pres eB), RdS.cells hdX, RdS.len hmX sl23, RdS.idx hmX sl23, RdS.cellB hmX (Ext.pres eB), RdS.cells hmX, RdS.len hvX sl26, RdS.idx hvX sl26, RdS.cellB hvX (Ext.pres eB), RdS.cells hvX, BoxAt.cell hbB, BoxAt.cell hbX, wrap_id, g1, eq_self, if_true, if_false, Bool.false_eq_true]
    refine op_storeB (o := 0) (vs := #[.bool ((b && goodP X k i j x))]) (cs' := #[.bool ((b && goodP X k i j x))]) st4 hbB ?_ ?_ rfl (by simp) (allOne_mem (l := [.bool ((b && goodP X k i j x))]) ⟨rfl, trivial⟩) rfl ?_
    · rfl
    · simp (disch := decide) [go_sem, goodP, lvP, ek, g1]
    intro h0_25_2 hbB c0_25_2
    replace hbX := BoxAt.chg hbX c0_25_2 (by simp; omega)
    have := c0_25_2.size
    replace eB := Ext.then eB c0_25_2 (fun b hb => by simp at hb; omega)
    try simp (disch := decide) only [outv_some, outv_none, put_puts]
    refine plK_last (by decide) ?_
    try simp -implicitDefEqProofs (disch := first | decide | assumption | (simp (disch := decide) only [slotOf_zero, slotOf_succ, Option.map_some, puts_same, puts_ne, gv_bool, gv_undef, tt, tf, ft, ff, eq_self, if_true, if_false, Bool.false_eq_true, Bool.not_true, Bool.not_false, g1]; done) | omega) only [go_sem, RdS.len hdX sl22, RdS.idx hdX sl22, R1.intB hdX (Ext.pres eB), RdS.cells hdX, RdS.len hmX sl23, RdS.idx hmX sl23, RdS.cellB hmX (Ext.pres eB), RdS.cells hmX, RdS.len hvX sl26, RdS.idx hvX sl26, RdS.cellB hvX (Ext.pres eB), RdS.cells hvX, BoxAt.cell hbB, BoxAt.cell hbX, wrap_id, g1, eq_self, if_true, if_false, Bool.false_eq_true]
    refine hK _ _ ?_
    clear hK K
    refine den_nil ?_
    simp (disch := decide) only [resP_0, puts_same, puts_ne]
    exact ⟨by first | rfl | trivial, hbB, c0_25_2⟩

end Go.Proofs.Ytjjjgllbocgkbaa
