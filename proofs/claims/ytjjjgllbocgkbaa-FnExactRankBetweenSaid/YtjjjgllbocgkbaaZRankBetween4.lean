/-
  What the statement FnExactRankBetween uses of the walks, part 4.
  Conditions: each theorem's own.
-/
import Derived.Test.YtjjjgllbocgkbaaG16
import Derived.Test.YtjjjgllbocgkbaaG17
import Derived.Test.YtjjjgllbocgkbaaG14
import Derived.Test.YtjjjgllbocgkbaaG13
import Derived.Test.YtjjjgllbocgkbaaG15
import Derived.Test.YtjjjgllbocgkbaaG18
import Derived.Test.YtjjjgllbocgkbaaG19
import Derived.Test.YtjjjgllbocgkbaaZRankBetween1
import Derived.Test.YtjjjgllbocgkbaaZRankBetween2
import Derived.Test.YtjjjgllbocgkbaaZRankBetween3
set_option linter.unusedVariables false
set_option linter.unusedSimpArgs false
namespace Go.Proofs.Ytjjjgllbocgkbaa
open Go
noncomputable def cycP (X : Cx) (n : Int) : List (List Int) := kerQ X.p (mapP X n)
theorem mapP_in {X : Cx} {n : Int} (h0 : 1 ≤ n) (h1 : n ≤ (X.dims.length : Int) - 1) : mapP X n = X.maps.getD (n - 1).toNat default := by rw [mapP, if_pos (in3_iff.2 ⟨h0, h1⟩)]
theorem mapP_out {X : Cx} {n : Int} (h : n ≤ 0 ∨ (X.dims.length : Int) - 1 < n) : mapP X n = List.replicate (dimP X n).toNat [] := by rw [mapP, if_neg (by rw [in3_iff]; omega)]
/-- The rows of a degree: how many, and how long. -/
theorem mapP_tbl {X : Cx} (hC : IsC X) (n : Int) : ((mapP X n).length : Int) = dimP X n ∧ ∀ r ∈ mapP X n, r.length = (if 1 ≤ n then (dimP X (n - 1)).toNat else 0) ∧ Bnd X.p r := by
 have hd := dimP_bnd hC n
 by_cases h : 0 ≤ n ∧ n ≤ (X.dims.length : Int) - 1
 ·obtain ⟨h1, h2⟩ := mapP_ok hC h.1 h.2
  refine ⟨by rw [h1, dimP, if_pos (in3_iff.2 h)], fun r hr => ?_⟩
  have := h2 r hr
  refine ⟨?_, this.2⟩
  split
  ·omega
  ·have e : n - 1 < 0 := by omega
   rw [dimP_out (n := n - 1) (by omega)] at this; omega
 ·rw [mapP_out (by omega), dimP_out h]
  exact ⟨rfl, fun r hr => by cases hr⟩
def mapW (X : Cx) (n : Int) : Nat := if 1 ≤ n then (dimP X (n - 1)).toNat else 0
theorem mapW_le {X : Cx} (hC : IsC X) (n : Int) : mapW X n ≤ 8 := by
 have := dimP_bnd hC (n - 1)
 unfold mapW; split <;> omega
theorem mapP_len {X : Cx} (hC : IsC X) (n : Int) : (mapP X n).length ≤ 8 := by
 have := (mapP_tbl hC n).1
 have := dimP_bnd hC n
 omega
/-- The cycles of a degree are reduced. -/
theorem cyc_rr {X : Cx} (hC : IsC X) (n : Int) : ∃ l, Rr X.p (dimP X n).toNat (cycP X n) l := by
 obtain ⟨h1, h2⟩ := mapP_tbl hC n
 have hl : (mapP X n).length = (dimP X n).toNat := by omega
 by_cases hn : mapP X n = []
 ·rw [cycP, hn, kerQ_nil (isP_two hC.p).1]; exact ⟨fun i => i, Rr.nil⟩
 ·rw [cycP, kerQ_w h2 hn, ← hl]; exact kerP_rr hC.p h2
theorem Rr.tbl {p : Int} {w : Nat} {L : List (List Int)} {l : Nat → Nat} (r : Rr p w L l) : ∀ x ∈ L, x.length = w ∧ Bnd p x := fun x hx => by
 obtain ⟨i, hi, rfl⟩ := List.getElem_of_mem hx
 have a := r.len i hi
 have b := r.bnd i hi
 rw [List.getD_eq_getElem?_getD, List.getElem?_eq_getElem hi] at a b
 exact ⟨a, b⟩

set_option maxRecDepth 100000 in
theorem sKernel_ok (vR : Value) (p : Int) (n : Int) (R : List (List Int)) (h : Heap) (rR : R2 h vR R) {w : Nat} (hP : isP p = true) (hT : ∀ r ∈ R, r.length = w ∧ Bnd p r) (hw : w ≤ 500) (hl : R.length ≤ 500) (hn : n = (R.length : Int)) : CallA Try.prog 149 #[.int .i64 p, .int .i64 n, vR] h fun v' h' => ∃ w0 f0, v' = w0 ∧ O2 h' w0 (kerQ p R) f0 ∧ Fresh h.size f0 ∧ Ext h h' := by
 have hleR := RdS.le rR
 have hp := isP_two hP
 have hLT := longP_tbl hp.1 hT
 have hEl := ech_len_le hP hLT
 obtain ⟨⟨l, hrE⟩, _⟩ := ech_red hP hLT
 have hll := len_longP R
 have hE0 : R = [] → (ech p (longP R)).length = 0 := fun e => by subst e; rw [longP]; simp only [List.length_nil, List.range_zero, List.map_nil]; rw [ech_nil hp.1]; rfl
 refine callA_intro TTok (args := [_, _, _]) Try.func149 (by kernel_rfl) rfl 68 rfl (by simp) [.tmp 6] rfl ?_
 simp only [idxs, Nat.reduceAdd]
 refine den_seq ?_
 refine den_region TTok ?_
 intro K hK
 simp -implicitDefEqProofs (disch := first | decide | assumption | omega) only [go_sem, RdS.len rR sl26, RdS.idx rR sl26, RdS.cellB rR (HPres.refl _), RdS.cells rR, wrap_id]
 refine hK _ _ ?_
 clear hK K
 refine den_seq ?_
 refine den_region TTok ?_
 intro K hK
 simp -implicitDefEqProofs (disch := first | decide | assumption | omega) only [go_sem, RdS.len rR sl26, RdS.idx rR sl26, RdS.cellB rR (HPres.refl _), RdS.cells rR, wrap_id]
 refine op_bs0 sz26 O1 ?_
 intro v1_0 h1_0 ho1_0 e1_0
 have := Ext.size e1_0
 have eB := e1_0
 have hfho1_0 : Fresh h.size [h.size] := Fresh.one _
 have hlho1_0 := OS.lt ho1_0
 try simp -implicitDefEqProofs (disch := first | decide | assumption | omega) only [go_sem, RdS.len rR sl26, RdS.idx rR sl26, RdS.cellB rR (Ext.pres eB), RdS.cells rR, RdS.len (OS.rd ho1_0) sl26, RdS.idx (OS.rd ho1_0) sl26, RdS.cellN (OS.rd ho1_0), RdS.cells (OS.rd ho1_0), wrap_id]
 refine hK _ _ ?_
 clear hK K
 refine den_seq ?_
 refine den_region TTok ?_
 intro K hK
 simp -implicitDefEqProofs (disch := first | decide | assumption | omega) only [go_sem, RdS.len rR sl26, RdS.idx rR sl26, RdS.cellB rR (Ext.pres eB), RdS.cells rR, RdS.len (OS.rd ho1_0) sl26, RdS.idx (OS.rd ho1_0) sl26, RdS.cellN (OS.rd ho1_0), RdS.cells (OS.rd ho1_0), wrap_id]
 refine hK _ _ ?_
 clear hK K
 refine den_seq ?_
 refine den_seq ?_
 refine den_region TTok ?_
 intro K hK
 simp -implicitDefEqProofs (disch := first | decide | assumption | omega) only [go_sem, RdS.len rR sl26, RdS.idx rR sl26, RdS.cellB rR (Ext.pres eB), RdS.cells rR, RdS.len (OS.rd ho1_0) sl26, RdS.idx (OS.rd ho1_0) sl26, RdS.cellN (OS.rd ho1_0), RdS.cells (OS.rd ho1_0), wrap_id]
 refine hK _ _ ?_
 clear hK K
 refine den_block ?_
 refine den_sel [7, 8, 9, 0, 1, 2] ?_
 intro env_1
 simp only [go_sem]
 refine den_loopS (σ := Nat × Nat × Value × List Nat) (fun st_ => [(7, st_.2.2.1), (8, .int .i64 (st_.2.1 : Int)), (9, .int .i64 (st_.1 : Int))]) (fun st_ H => (st_.1 ≤ R.length) ∧ (0 < st_.1 → st_.2.1 = w) ∧ (O2 H st_.2.2.1 ((List.range st_.1).map fun i => R.getD i default ++ unitP R.length i) st_.2.2.2) ∧ (Fresh (h.size) st_.2.2.2) ∧ (Sub [h.size] h1_0.size st_.2.2.2) ∧ (Chg [h.size] h1_0 H)) (fun st_ => R.length - st_.1) (0, 0, v1_0, [h.size]) ?_ ?_
 ·exact ⟨by simp, fun h => absurd h (by simp), by simpa using ho1_0, hfho1_0, Sub.refl, Chg.refl _ _⟩
 ·rintro ⟨m, wn, vhL, fphL⟩ h4 ee3 ⟨hk, hwd_, hL, hfhL, sbhL, cL2⟩
  dsimp only at hk hwd_ hL hfhL sbhL cL2
  have := cL2.size
  replace eB := Ext.then eB cL2 (ge_of hfho1_0 (by omega))
  have hlhL := OS.lt hL
  simp only [List.cons_append, List.nil_append]
  have hlo_ : ((List.range m).map fun i => R.getD i default ++ unitP R.length i).length = m := by simp
  refine den_seq ?_
  refine den_seq ?_
  refine den_region TTok ?_
  intro K hK
  simp -implicitDefEqProofs (disch := first | decide | assumption | omega) only [go_sem, RdS.len rR sl26, RdS.idx rR sl26, RdS.cellB rR (Ext.pres eB), RdS.cells rR, RdS.len (OS.rd hL) sl26, RdS.idx (OS.rd hL) sl26, RdS.cellN (OS.rd hL), RdS.cells (OS.rd hL), wrap_id]
  refine hK _ _ ?_
  clear hK K
  refine den_cond rfl (fun c0 => ?_) (fun c0 => ?_)
  ·try simp only [decide_eq_true_eq, decide_eq_false_iff_not, beq_iff_eq, beq_eq_false_iff_ne, bne_iff_ne, ne_eq, Bool.not_eq_true', Bool.not_eq_false', Bool.and_eq_true, Bool.or_eq_true, bne_eq_false_iff_eq] at c0
   refine den_skip ?_
   refine den_seq ?_
   refine den_block ?_
   refine den_seq ?_
   refine den_region TTok ?_
   intro K hK
   simp -implicitDefEqProofs (disch := first | decide | assumption | omega) only [go_sem, RdS.len rR sl26, RdS.idx rR sl26, RdS.cellB rR (Ext.pres eB), RdS.cells rR, RdS.len (OS.rd hL) sl26, RdS.idx (OS.rd hL) sl26, RdS.cellN (OS.rd hL), RdS.cells (OS.rd hL), wrap_id]
   refine op_make sz22 rfl rfl (by omega) (by omega) OI 0 (fun _ => ⟨rfl, rfl⟩) ?_
   intro v6_1 h6_1 ho6_1 e6_1
   replace hL := OS.ext hL e6_1
   have := Ext.size e6_1
   replace eB := Ext.trans eB e6_1
   replace cL2 := Chg.stepE cL2 e6_1
   have hfho6_1 : Fresh h4.size [h4.size] := Fresh.one _
   have hlenho6_1 : (List.replicate (n).toNat (0 : Int)).length = (n).toNat := List.length_replicate
   have hlho6_1 := OS.lt ho6_1
   try simp -implicitDefEqProofs (disch := first | decide | assumption | omega) only [go_sem, RdS.len rR sl26, RdS.idx rR sl26, RdS.cellB rR (Ext.pres eB), RdS.cells rR, RdS.len (OS.rd hL) sl26, RdS.idx (OS.rd hL) sl26, RdS.cellN (OS.rd hL), RdS.cells (OS.rd hL), RdS.len (OS.rd ho6_1) sl22, RdS.idx (OS.rd ho6_1) sl22, R1.intN (OS.rd ho6_1), RdS.cells (OS.rd ho6_1), wrap_id]
   refine hK _ _ ?_
   clear hK K
   refine den_seq ?_
   refine den_region TTok ?_
   intro K hK
   simp -implicitDefEqProofs (disch := first | decide | assumption | omega) only [go_sem, RdS.len rR sl26, RdS.idx rR sl26, RdS.cellB rR (Ext.pres eB), RdS.cells rR, RdS.len (OS.rd hL) sl26, RdS.idx (OS.rd hL) sl26, RdS.cellN (OS.rd hL), RdS.cells (OS.rd hL), RdS.len (OS.rd ho6_1) sl22, RdS.idx (OS.rd ho6_1) sl22, R1.intN (OS.rd ho6_1), RdS.cells (OS.rd ho6_1), wrap_id]
   refine op_store1 (j := m) st2 ho6_1 hfho6_1.nodup (by first | omega | (simp; omega)) rfl rfl ?_
   intro h7_3 ho7_3 c7_3
   have hsz7_3 := c7_3.size
   replace hL := OS.chg hL c7_3 (apart_lt hlhL hfho6_1 (by omega))
   have := c7_3.size
   replace eB := Ext.then eB c7_3 (ge_of hfho6_1 (by omega))
   replace cL2 := Chg.step cL2 c7_3 (Sub.fresh hfho6_1 (by omega))
   have hlho7_3 := hlho6_1
   have hlenho7_3 : ((List.replicate (n).toNat 0).set m (1 : Int) : List Int).length = (List.replicate (n).toNat 0 : List Int).length := List.length_set
   try simp -implicitDefEqProofs (disch := first | decide | assumption | omega) only [go_sem, RdS.len rR sl26, RdS.idx rR sl26, RdS.cellB rR (Ext.pres eB), RdS.cells rR, RdS.len (OS.rd hL) sl26, RdS.idx (OS.rd hL) sl26, RdS.cellN (OS.rd hL), RdS.cells (OS.rd hL), RdS.len (OS.rd ho7_3) sl22, RdS.idx (OS.rd ho7_3) sl22, R1.intN (OS.rd ho7_3), RdS.cells (OS.rd ho7_3), wrap_id]
   refine hK _ _ ?_
   clear hK K
   refine den_seq ?_
   have hRk := hT _ (getD_mem (show m < R.length by omega))
   refine den_region TTok ?_
   intro K hK
   have hr5 := RdS.rowN rR m (by omega)
   have hlhr5 := RdS.le hr5
   simp -implicitDefEqProofs (disch := first | decide | assumption | omega) only [go_sem, ld22, RdS.len rR sl26, RdS.idx rR sl26, RdS.cellB rR (Ext.pres eB), RdS.cells rR, RdS.len hr5 sl22, RdS.idx hr5 sl22, R1.intB hr5 (Ext.pres eB), RdS.cells hr5, RdS.len (OS.rd hL) sl26, RdS.idx (OS.rd hL) sl26, RdS.cellN (OS.rd hL), RdS.cells (OS.rd hL), RdS.len (OS.rd ho7_3) sl22, RdS.idx (OS.rd ho7_3) sl22, R1.intN (OS.rd ho7_3), RdS.cells (OS.rd ho7_3), wrap_id]
   refine hK _ _ ?_
   clear hK K
   refine den_region TTok ?_
   intro K hK
   have hr6 := RdS.rowN rR m (by omega)
   have hlhr6 := RdS.le hr6
   simp -implicitDefEqProofs (disch := first | decide | assumption | omega) only [go_sem, ld22, RdS.len rR sl26, RdS.idx rR sl26, RdS.cellB rR (Ext.pres eB), RdS.cells rR, RdS.len hr5 sl22, RdS.idx hr5 sl22, R1.intB hr5 (Ext.pres eB), RdS.cells hr5, RdS.len hr6 sl22, RdS.idx hr6 sl22, R1.intB hr6 (Ext.pres eB), RdS.cells hr6, RdS.len (OS.rd hL) sl26, RdS.idx (OS.rd hL) sl26, RdS.cellN (OS.rd hL), RdS.cells (OS.rd hL), RdS.len (OS.rd ho7_3) sl22, RdS.idx (OS.rd ho7_3) sl22, R1.intN (OS.rd ho7_3), RdS.cells (OS.rd ho7_3), wrap_id]
   try simp -implicitDefEqProofs (disch := first | decide | assumption | omega) only [go_sem, RdS.len rR sl26, RdS.idx rR sl26, RdS.cellB rR (Ext.pres eB), RdS.cells rR, RdS.len hr5 sl22, RdS.idx hr5 sl22, R1.intB hr5 (Ext.pres eB), RdS.cells hr5, RdS.len hr6 sl22, RdS.idx hr6 sl22, R1.intB hr6 (Ext.pres eB), RdS.cells hr6, RdS.len (OS.rd hL) sl26, RdS.idx (OS.rd hL) sl26, RdS.cellN (OS.rd hL), RdS.cells (OS.rd hL), RdS.len (OS.rd ho7_3) sl22, RdS.idx (OS.rd ho7_3) sl22, R1.intN (OS.rd ho7_3), RdS.cells (OS.rd ho7_3), wrap_id]
   refine CallA.mono (sOwn_ok _ ((R).getD m default) _ (RdS.pres hr6 (Ext.pres eB)) (by omega)) ?_
   intro vw9_5_0 h9_5
   rintro ⟨zvw9_5_0, fw9_5_0, rfl, how9_5_0, hfw9_5_0, e9_5⟩
   replace hL := OS.ext hL e9_5
   replace ho7_3 := OS.ext ho7_3 e9_5
   have := Ext.size e9_5
   replace eB := Ext.trans eB e9_5
   replace cL2 := Chg.stepE cL2 e9_5
   have hlhow9_5_0 := OS.lt how9_5_0
   try simp -implicitDefEqProofs (disch := first | decide | assumption | omega) only [go_sem, RdS.len rR sl26, RdS.idx rR sl26, RdS.cellB rR (Ext.pres eB), RdS.cells rR, RdS.len hr5 sl22, RdS.idx hr5 sl22, R1.intB hr5 (Ext.pres eB), RdS.cells hr5, RdS.len hr6 sl22, RdS.idx hr6 sl22, R1.intB hr6 (Ext.pres eB), RdS.cells hr6, RdS.len (OS.rd hL) sl26, RdS.idx (OS.rd hL) sl26, RdS.cellN (OS.rd hL), RdS.cells (OS.rd hL), RdS.len (OS.rd ho7_3) sl22, RdS.idx (OS.rd ho7_3) sl22, R1.intN (OS.rd ho7_3), RdS.cells (OS.rd ho7_3), RdS.len (OS.rd how9_5_0) sl22, RdS.idx (OS.rd how9_5_0) sl22, R1.intN (OS.rd how9_5_0), RdS.cells (OS.rd how9_5_0), wrap_id]
   refine op_appendR how9_5_0 (OS.rd ho7_3) (by first | omega | (simp; omega)) rfl ?_
   intro v9_7 h9_7 fp9_7 ho9_7 hn9_7 hs9_7 c9_7
   have hsz9_7 := c9_7.size
   have hfho9_7 : Fresh h7_3.size fp9_7 := Fresh.appd hfw9_5_0 (Fresh.nil h9_5.size) (by omega) (by omega) hn9_7 hs9_7
   replace hL := OS.chg hL c9_7 (apart_lt hlhL hfw9_5_0 (by omega))
   replace ho7_3 := OS.chg ho7_3 c9_7 (apart_lt hlho7_3 hfw9_5_0 (by omega))
   have := c9_7.size
   replace eB := Ext.then eB c9_7 (ge_of hfw9_5_0 (by omega))
   replace cL2 := Chg.step cL2 c9_7 (Sub.fresh hfw9_5_0 (by omega))
   have hlho9_7 := OS.lt ho9_7
   try simp -implicitDefEqProofs (disch := first | decide | assumption | omega) only [go_sem, RdS.len rR sl26, RdS.idx rR sl26, RdS.cellB rR (Ext.pres eB), RdS.cells rR, RdS.len hr5 sl22, RdS.idx hr5 sl22, R1.intB hr5 (Ext.pres eB), RdS.cells hr5, RdS.len hr6 sl22, RdS.idx hr6 sl22, R1.intB hr6 (Ext.pres eB), RdS.cells hr6, RdS.len (OS.rd hL) sl26, RdS.idx (OS.rd hL) sl26, RdS.cellN (OS.rd hL), RdS.cells (OS.rd hL), RdS.len (OS.rd ho7_3) sl22, RdS.idx (OS.rd ho7_3) sl22, R1.intN (OS.rd ho7_3), RdS.cells (OS.rd ho7_3), RdS.len (OS.rd ho9_7) sl22, RdS.idx (OS.rd ho9_7) sl22, R1.intN (OS.rd ho9_7), RdS.cells (OS.rd ho9_7), wrap_id]
   refine op_bs1 sz26 rfl (OS.one ho9_7).2 ?_
   try simp -implicitDefEqProofs (disch := first | decide | assumption | omega) only [go_sem, RdS.len rR sl26, RdS.idx rR sl26, RdS.cellB rR (Ext.pres eB), RdS.cells rR, RdS.len hr5 sl22, RdS.idx hr5 sl22, R1.intB hr5 (Ext.pres eB), RdS.cells hr5, RdS.len hr6 sl22, RdS.idx hr6 sl22, R1.intB hr6 (Ext.pres eB), RdS.cells hr6, RdS.len (OS.rd hL) sl26, RdS.idx (OS.rd hL) sl26, RdS.cellN (OS.rd hL), RdS.cells (OS.rd hL), RdS.len (OS.rd ho7_3) sl22, RdS.idx (OS.rd ho7_3) sl22, R1.intN (OS.rd ho7_3), RdS.cells (OS.rd ho7_3), RdS.len (OS.rd ho9_7) sl22, RdS.idx (OS.rd ho9_7) sl22, R1.intN (OS.rd ho9_7), RdS.cells (OS.rd ho9_7), wrap_id]
   refine op_append1 sz26 hL hfhL.nodup ho9_7 hfho9_7.nodup (apart_lt hlhL hfho9_7 (by omega)) (by first | omega | (simp; omega)) rfl rfl ?_
   intro v9_9 h9_9 fp9_9 ho9_9 hn9_9 hs9_9 c9_9
   have hsz9_9 := c9_9.size
   have hfho9_9 : Fresh h.size fp9_9 := Fresh.appd hfhL hfho9_7 (by omega) (by omega) hn9_9 hs9_9
   have sb7 : Sub [h.size] h1_0.size fp9_9 := Sub.grow sbhL (Sub.fresh hfho9_7 (by omega)) (by omega) hs9_9
   replace ho7_3 := OS.chg ho7_3 c9_9 (apart_gt hfho6_1 hlhL (by omega))
   have := c9_9.size
   replace eB := Ext.then eB c9_9 (ge_of hfhL (by omega))
   replace cL2 := Chg.step cL2 c9_9 sbhL
   have ap8 : Apart [h4.size] fp9_9 := Apart.grow hlho7_3 (by omega) (apart_gt hfho6_1 hlhL (by omega)) (apart_lt hlho7_3 hfho9_7 (by omega)) hs9_9
   have hlho9_9 := OS.lt ho9_9
   try simp -implicitDefEqProofs (disch := first | decide | assumption | omega) only [go_sem, RdS.len rR sl26, RdS.idx rR sl26, RdS.cellB rR (Ext.pres eB), RdS.cells rR, RdS.len hr5 sl22, RdS.idx hr5 sl22, R1.intB hr5 (Ext.pres eB), RdS.cells hr5, RdS.len hr6 sl22, RdS.idx hr6 sl22, R1.intB hr6 (Ext.pres eB), RdS.cells hr6, RdS.len (OS.rd ho7_3) sl22, RdS.idx (OS.rd ho7_3) sl22, R1.intN (OS.rd ho7_3), RdS.cells (OS.rd ho7_3), RdS.len (OS.rd ho9_9) sl26, RdS.idx (OS.rd ho9_9) sl26, RdS.cellN (OS.rd ho9_9), RdS.cells (OS.rd ho9_9), wrap_id]
   refine hK _ _ ?_
   clear hK K
   refine den_blk ?_
   refine den_region TTok ?_
   intro K hK
   simp -implicitDefEqProofs (disch := first | decide | assumption | omega) only [go_sem, RdS.len rR sl26, RdS.idx rR sl26, RdS.cellB rR (Ext.pres eB), RdS.cells rR, RdS.len hr5 sl22, RdS.idx hr5 sl22, R1.intB hr5 (Ext.pres eB), RdS.cells hr5, RdS.len hr6 sl22, RdS.idx hr6 sl22, R1.intB hr6 (Ext.pres eB), RdS.cells hr6, RdS.len (OS.rd ho9_9) sl26, RdS.idx (OS.rd ho9_9) sl26, RdS.cellN (OS.rd ho9_9), RdS.cells (OS.rd ho9_9), wrap_id]
   refine hK _ _ ?_
   clear hK K
   refine den_stop ?_
   rw [show (List.replicate n.toNat (0 : Int)).set m 1 = unitP R.length m by rw [hn, Int.toNat_natCast]; rfl, longP_step (by omega)] at ho9_9
   exact ⟨(m + 1, (R.getD m default).length, v9_9, fp9_9), by simp [HasL, puts_at], ⟨by dsimp only; omega, (fun _ => hRk.1), ho9_9, hfho9_9, sb7, cL2⟩, by first | omega | (dsimp only; omega)⟩
  ·try simp only [decide_eq_true_eq, decide_eq_false_iff_not, beq_iff_eq, beq_eq_false_iff_ne, bne_iff_ne, ne_eq, Bool.not_eq_true', Bool.not_eq_false', Bool.and_eq_true, Bool.or_eq_true, bne_eq_false_iff_eq] at c0
   refine den_exit ?_
   refine denX_code ?_
   refine denX_stop ?_
   refine denX_hit ?_
   refine den_seq ?_
   rw [show ((List.range m).map fun i => R.getD i default ++ unitP R.length i) = longP R by rw [longP, show R.length = m by omega]] at hL
   have hredT := hLT
   refine den_region TTok ?_
   intro K hK
   simp -implicitDefEqProofs (disch := first | decide | assumption | omega) only [go_sem, RdS.len rR sl26, RdS.idx rR sl26, RdS.cellB rR (Ext.pres eB), RdS.cells rR, RdS.len (OS.rd hL) sl26, RdS.idx (OS.rd hL) sl26, RdS.cellN (OS.rd hL), RdS.cells (OS.rd hL), wrap_id]
   try simp -implicitDefEqProofs (disch := first | decide | assumption | omega) only [go_sem, RdS.len rR sl26, RdS.idx rR sl26, RdS.cellB rR (Ext.pres eB), RdS.cells rR, RdS.len (OS.rd hL) sl26, RdS.idx (OS.rd hL) sl26, RdS.cellN (OS.rd hL), RdS.cells (OS.rd hL), wrap_id]
   refine CallA.mono (sEch_ok _ p (longP R) _ (OS.rd hL) hP hredT (by omega) (by omega)) ?_
   intro vw10_2_0 h10_2
   rintro ⟨zvw10_2_0, fw10_2_0, rfl, how10_2_0, hfw10_2_0, e10_2⟩
   replace hL := OS.ext hL e10_2
   have := Ext.size e10_2
   replace eB := Ext.trans eB e10_2
   have hlhow10_2_0 := OS.lt how10_2_0
   try simp -implicitDefEqProofs (disch := first | decide | assumption | omega) only [go_sem, RdS.len rR sl26, RdS.idx rR sl26, RdS.cellB rR (Ext.pres eB), RdS.cells rR, RdS.len (OS.rd hL) sl26, RdS.idx (OS.rd hL) sl26, RdS.cellN (OS.rd hL), RdS.cells (OS.rd hL), RdS.len (OS.rd how10_2_0) sl26, RdS.idx (OS.rd how10_2_0) sl26, RdS.cellN (OS.rd how10_2_0), RdS.cells (OS.rd how10_2_0), wrap_id]
   refine op_bs0 sz26 O1 ?_
   intro v10_3 h10_3 ho10_3 e10_3
   replace hL := OS.ext hL e10_3
   replace how10_2_0 := OS.ext how10_2_0 e10_3
   have := Ext.size e10_3
   replace eB := Ext.trans eB e10_3
   have hfho10_3 : Fresh h10_2.size [h10_2.size] := Fresh.one _
   have hlho10_3 := OS.lt ho10_3
   try simp -implicitDefEqProofs (disch := first | decide | assumption | omega) only [go_sem, RdS.len rR sl26, RdS.idx rR sl26, RdS.cellB rR (Ext.pres eB), RdS.cells rR, RdS.len (OS.rd hL) sl26, RdS.idx (OS.rd hL) sl26, RdS.cellN (OS.rd hL), RdS.cells (OS.rd hL), RdS.len (OS.rd how10_2_0) sl26, RdS.idx (OS.rd how10_2_0) sl26, RdS.cellN (OS.rd how10_2_0), RdS.cells (OS.rd how10_2_0), RdS.len (OS.rd ho10_3) sl26, RdS.idx (OS.rd ho10_3) sl26, RdS.cellN (OS.rd ho10_3), RdS.cells (OS.rd ho10_3), wrap_id]
   refine hK _ _ ?_
   clear hK K
   refine den_seq ?_
   refine den_seq ?_
   refine den_region TTok ?_
   intro K hK
   simp -implicitDefEqProofs (disch := first | decide | assumption | omega) only [go_sem, RdS.len rR sl26, RdS.idx rR sl26, RdS.cellB rR (Ext.pres eB), RdS.cells rR, RdS.len (OS.rd how10_2_0) sl26, RdS.idx (OS.rd how10_2_0) sl26, RdS.cellN (OS.rd how10_2_0), RdS.cells (OS.rd how10_2_0), RdS.len (OS.rd ho10_3) sl26, RdS.idx (OS.rd ho10_3) sl26, RdS.cellN (OS.rd ho10_3), RdS.cells (OS.rd ho10_3), wrap_id]
   refine hK _ _ ?_
   clear hK K
   refine den_block ?_
   refine den_sel [12, 13, 8, 11] ?_
   intro env_9
   simp only [go_sem]
   refine den_loopS (σ := Nat × Value × List Nat) (fun st_ => [(12, st_.2.1), (13, .int .i64 (st_.1 : Int))]) (fun st_ H => (st_.1 ≤ (ech p (longP R)).length) ∧ (O2 H st_.2.1 ((((ech p (longP R)).take st_.1).filter (fun r : List Int => decide ((w : Int) ≤ leadP r))).map (fun r : List Int => r.drop w)) st_.2.2) ∧ (Fresh (h10_2.size) st_.2.2) ∧ (Sub [h10_2.size] h10_3.size st_.2.2) ∧ (Chg [h10_2.size] h10_3 H)) (fun st_ => (ech p (longP R)).length - st_.1) (0, v10_3, [h10_2.size]) ?_ ?_
   ·exact ⟨by simp, by simpa using ho10_3, hfho10_3, Sub.refl, Chg.refl _ _⟩
   ·rintro ⟨k, vhN, fphN⟩ h12 ee11 ⟨hk2, hN, hfhN, sbhN, cL10⟩
    dsimp only at hk2 hN hfhN sbhN cL10
    replace how10_2_0 := OS.chg how10_2_0 cL10 (apart_lt hlhow10_2_0 hfho10_3 (by omega))
    have := cL10.size
    replace eB := Ext.then eB cL10 (ge_of hfho10_3 (by omega))
    have hlhN := OS.lt hN
    simp only [List.cons_append, List.nil_append]
    have hol := fm_len (f := (fun r : List Int => decide ((w : Int) ≤ leadP r))) (g := (fun r : List Int => r.drop w)) (xs := (ech p (longP R))) hk2
    refine den_seq ?_
    refine den_seq ?_
    refine den_region TTok ?_
    intro K hK
    simp -implicitDefEqProofs (disch := first | decide | assumption | omega) only [go_sem, RdS.len rR sl26, RdS.idx rR sl26, RdS.cellB rR (Ext.pres eB), RdS.cells rR, RdS.len (OS.rd how10_2_0) sl26, RdS.idx (OS.rd how10_2_0) sl26, RdS.cellN (OS.rd how10_2_0), RdS.cells (OS.rd how10_2_0), RdS.len (OS.rd hN) sl26, RdS.idx (OS.rd hN) sl26, RdS.cellN (OS.rd hN), RdS.cells (OS.rd hN), wrap_id]
    refine hK _ _ ?_
    clear hK K
    refine den_cond rfl (fun c1 => ?_) (fun c1 => ?_)
    ·try simp only [decide_eq_true_eq, decide_eq_false_iff_not, beq_iff_eq, beq_eq_false_iff_ne, bne_iff_ne, ne_eq, Bool.not_eq_true', Bool.not_eq_false', Bool.and_eq_true, Bool.or_eq_true, bne_eq_false_iff_eq] at c1
     refine den_skip ?_
     refine den_seq ?_
     refine den_block ?_
     refine den_seq ?_
     have hR0 : 0 < R.length := Nat.pos_of_ne_zero fun e_ => by have := hE0 (List.length_eq_zero_iff.1 e_); omega
     have hwd := hwd_ (by omega)
     refine den_region TTok ?_
     intro K hK
     have hr13 := RdS.rowN (OS.rd how10_2_0) k (by omega)
     have hlhr13 := RdS.le hr13
     have xr14 := Ext.refl h12
     simp -implicitDefEqProofs (disch := first | decide | assumption | omega) only [go_sem, ld22, RdS.len rR sl26, RdS.idx rR sl26, RdS.cellB rR (Ext.pres eB), RdS.cells rR, RdS.len (OS.rd how10_2_0) sl26, RdS.idx (OS.rd how10_2_0) sl26, RdS.cellN (OS.rd how10_2_0), RdS.cells (OS.rd how10_2_0), RdS.len (OS.rd hN) sl26, RdS.idx (OS.rd hN) sl26, RdS.cellN (OS.rd hN), RdS.cells (OS.rd hN), RdS.len hr13 sl22, RdS.idx hr13 sl22, R1.intB hr13 (Ext.pres xr14), RdS.cells hr13, wrap_id, hwd]
     try simp -implicitDefEqProofs (disch := first | decide | assumption | omega) only [go_sem, RdS.len rR sl26, RdS.idx rR sl26, RdS.cellB rR (Ext.pres eB), RdS.cells rR, RdS.len (OS.rd how10_2_0) sl26, RdS.idx (OS.rd how10_2_0) sl26, RdS.cellN (OS.rd how10_2_0), RdS.cells (OS.rd how10_2_0), RdS.len (OS.rd hN) sl26, RdS.idx (OS.rd hN) sl26, RdS.cellN (OS.rd hN), RdS.cells (OS.rd hN), RdS.len hr13 sl22, RdS.idx hr13 sl22, R1.intB hr13 (Ext.pres xr14), RdS.cells hr13, wrap_id, hwd]
     refine CallA.pure (sLead_ok _ ((ech p (longP R)).getD k default) _ (RdS.pres hr13 (Ext.pres xr14))) ?_
     try simp -implicitDefEqProofs (disch := first | decide | assumption | omega) only [go_sem, RdS.len rR sl26, RdS.idx rR sl26, RdS.cellB rR (Ext.pres eB), RdS.cells rR, RdS.len (OS.rd how10_2_0) sl26, RdS.idx (OS.rd how10_2_0) sl26, RdS.cellN (OS.rd how10_2_0), RdS.cells (OS.rd how10_2_0), RdS.len (OS.rd hN) sl26, RdS.idx (OS.rd hN) sl26, RdS.cellN (OS.rd hN), RdS.cells (OS.rd hN), RdS.len hr13 sl22, RdS.idx hr13 sl22, R1.intB hr13 (Ext.pres xr14), RdS.cells hr13, wrap_id, hwd]
     refine hK _ _ ?_
     clear hK K
     refine den_cond rfl (fun c2 => ?_) (fun c2 => ?_)
     ·try simp only [decide_eq_true_eq, decide_eq_false_iff_not, beq_iff_eq, beq_eq_false_iff_ne, bne_iff_ne, ne_eq, Bool.not_eq_true', Bool.not_eq_false', Bool.and_eq_true, Bool.or_eq_true, bne_eq_false_iff_eq] at c2
      obtain ⟨vs, hes, hRs⟩ := RdS.dropV (k := .i64) (RdS.rowN (OS.rd how10_2_0) k (by omega)) sl22 (lo := (w : Int)) (by omega) (by have := hrE.len k (by omega); omega)
      rw [Int.toNat_natCast] at hRs
      have hdl_ : (((ech p (longP R)).getD k default).drop w).length ≤ 1000 := by rw [List.length_drop]; have := hrE.len k (by omega); omega
      refine den_region TTok ?_
      intro K hK
      have hr15 := RdS.rowN (OS.rd how10_2_0) k (by omega)
      have hlhr15 := RdS.le hr15
      have xr16 := Ext.refl h12
      simp -implicitDefEqProofs (disch := first | decide | assumption | omega) only [go_sem, ld22, RdS.len rR sl26, RdS.idx rR sl26, RdS.cellB rR (Ext.pres eB), RdS.cells rR, RdS.len (OS.rd how10_2_0) sl26, RdS.idx (OS.rd how10_2_0) sl26, RdS.cellN (OS.rd how10_2_0), RdS.cells (OS.rd how10_2_0), RdS.len (OS.rd hN) sl26, RdS.idx (OS.rd hN) sl26, RdS.cellN (OS.rd hN), RdS.cells (OS.rd hN), RdS.len hr13 sl22, RdS.idx hr13 sl22, R1.intB hr13 (Ext.pres xr14), RdS.cells hr13, RdS.len hr15 sl22, RdS.idx hr15 sl22, R1.intB hr15 (Ext.pres xr16), RdS.cells hr15, wrap_id, hwd, hes, Option.map_some, Option.map_none]
      try simp -implicitDefEqProofs (disch := first | decide | assumption | omega) only [go_sem, RdS.len rR sl26, RdS.idx rR sl26, RdS.cellB rR (Ext.pres eB), RdS.cells rR, RdS.len (OS.rd how10_2_0) sl26, RdS.idx (OS.rd how10_2_0) sl26, RdS.cellN (OS.rd how10_2_0), RdS.cells (OS.rd how10_2_0), RdS.len (OS.rd hN) sl26, RdS.idx (OS.rd hN) sl26, RdS.cellN (OS.rd hN), RdS.cells (OS.rd hN), RdS.len hr13 sl22, RdS.idx hr13 sl22, R1.intB hr13 (Ext.pres xr14), RdS.cells hr13, RdS.len hr15 sl22, RdS.idx hr15 sl22, R1.intB hr15 (Ext.pres xr16), RdS.cells hr15, wrap_id, hwd, hes, Option.map_some, Option.map_none]
      refine CallA.mono (sOwn_ok _ (((ech p (longP R)).getD k default).drop w) _ hRs (by omega)) ?_
      intro vw15_7_0 h15_7
      rintro ⟨zvw15_7_0, fw15_7_0, rfl, how15_7_0, hfw15_7_0, e15_7⟩
      replace how10_2_0 := OS.ext how10_2_0 e15_7
      replace hN := OS.ext hN e15_7
      have := Ext.size e15_7
      replace eB := Ext.trans eB e15_7
      replace xr14 := Ext.trans xr14 e15_7
      replace xr16 := Ext.trans xr16 e15_7
      replace cL10 := Chg.stepE cL10 e15_7
      have hlhow15_7_0 := OS.lt how15_7_0
      try simp -implicitDefEqProofs (disch := first | decide | assumption | omega) only [go_sem, RdS.len rR sl26, RdS.idx rR sl26, RdS.cellB rR (Ext.pres eB), RdS.cells rR, RdS.len (OS.rd how10_2_0) sl26, RdS.idx (OS.rd how10_2_0) sl26, RdS.cellN (OS.rd how10_2_0), RdS.cells (OS.rd how10_2_0), RdS.len (OS.rd hN) sl26, RdS.idx (OS.rd hN) sl26, RdS.cellN (OS.rd hN), RdS.cells (OS.rd hN), RdS.len (OS.rd how15_7_0) sl22, RdS.idx (OS.rd how15_7_0) sl22, R1.intN (OS.rd how15_7_0), RdS.cells (OS.rd how15_7_0), RdS.len hr13 sl22, RdS.idx hr13 sl22, R1.intB hr13 (Ext.pres xr14), RdS.cells hr13, RdS.len hr15 sl22, RdS.idx hr15 sl22, R1.intB hr15 (Ext.pres xr16), RdS.cells hr15, wrap_id, hwd, hes, Option.map_some, Option.map_none]
      refine op_bs1 sz26 rfl (OS.one how15_7_0).2 ?_
      try simp -implicitDefEqProofs (disch := first | decide | assumption | omega) only [go_sem, RdS.len rR sl26, RdS.idx rR sl26, RdS.cellB rR (Ext.pres eB), RdS.cells rR, RdS.len (OS.rd how10_2_0) sl26, RdS.idx (OS.rd how10_2_0) sl26, RdS.cellN (OS.rd how10_2_0), RdS.cells (OS.rd how10_2_0), RdS.len (OS.rd hN) sl26, RdS.idx (OS.rd hN) sl26, RdS.cellN (OS.rd hN), RdS.cells (OS.rd hN), RdS.len (OS.rd how15_7_0) sl22, RdS.idx (OS.rd how15_7_0) sl22, R1.intN (OS.rd how15_7_0), RdS.cells (OS.rd how15_7_0), RdS.len hr13 sl22, RdS.idx hr13 sl22, R1.intB hr13 (Ext.pres xr14), RdS.cells hr13, RdS.len hr15 sl22, RdS.idx hr15 sl22, R1.intB hr15 (Ext.pres xr16), RdS.cells hr15, wrap_id, hwd, hes, Option.map_some, Option.map_none]
      refine op_append1 sz26 hN hfhN.nodup how15_7_0 hfw15_7_0.nodup (apart_lt hlhN hfw15_7_0 (by omega)) (by first | omega | (simp; omega)) rfl rfl ?_
      intro v15_9 h15_9 fp15_9 ho15_9 hn15_9 hs15_9 c15_9
      have hsz15_9 := c15_9.size
      have hfho15_9 : Fresh h10_2.size fp15_9 := Fresh.appd hfhN hfw15_7_0 (by omega) (by omega) hn15_9 hs15_9
      have sb17 : Sub [h10_2.size] h10_3.size fp15_9 := Sub.grow sbhN (Sub.fresh hfw15_7_0 (by omega)) (by omega) hs15_9
      replace how10_2_0 := OS.chg how10_2_0 c15_9 (apart_lt hlhow10_2_0 hfhN (by omega))
      have := c15_9.size
      replace eB := Ext.then eB c15_9 (ge_of hfhN (by omega))
      replace cL10 := Chg.step cL10 c15_9 sbhN
      have hlho15_9 := OS.lt ho15_9
      try simp -implicitDefEqProofs (disch := first | decide | assumption | omega) only [go_sem, RdS.len rR sl26, RdS.idx rR sl26, RdS.cellB rR (Ext.pres eB), RdS.cells rR, RdS.len (OS.rd how10_2_0) sl26, RdS.idx (OS.rd how10_2_0) sl26, RdS.cellN (OS.rd how10_2_0), RdS.cells (OS.rd how10_2_0), RdS.len (OS.rd ho15_9) sl26, RdS.idx (OS.rd ho15_9) sl26, RdS.cellN (OS.rd ho15_9), RdS.cells (OS.rd ho15_9), wrap_id, hwd, hes, Option.map_some, Option.map_none]
      refine hK _ _ ?_
      clear hK K
      refine den_blk ?_
      refine den_region TTok ?_
      intro K hK
      simp -implicitDefEqProofs (disch := first | decide | assumption | omega) only [go_sem, RdS.len rR sl26, RdS.idx rR sl26, RdS.cellB rR (Ext.pres eB), RdS.cells rR, RdS.len (OS.rd how10_2_0) sl26, RdS.idx (OS.rd how10_2_0) sl26, RdS.cellN (OS.rd how10_2_0), RdS.cells (OS.rd how10_2_0), RdS.len (OS.rd ho15_9) sl26, RdS.idx (OS.rd ho15_9) sl26, RdS.cellN (OS.rd ho15_9), RdS.cells (OS.rd ho15_9), wrap_id]
      refine hK _ _ ?_
      clear hK K
      refine den_stop ?_
      first | rw [fm_yes (f := (fun r : List Int => decide ((w : Int) ≤ leadP r))) (g := (fun r : List Int => r.drop w)) (by omega) (decide_eq_true (by have h1 := c2; omega))] at ho15_9 | rw [fm_no (f := (fun r : List Int => decide ((w : Int) ≤ leadP r))) (g := (fun r : List Int => r.drop w)) (d := default) (by omega) (decide_eq_false (by have h1 := c2; omega))] at ho15_9
      exact ⟨(k + 1, v15_9, fp15_9), by simp [HasL, puts_at, hwd], ⟨by first | omega | (dsimp only; omega), ho15_9, hfho15_9, sb17, cL10⟩, by first | omega | (dsimp only; omega)⟩
     ·try simp only [decide_eq_true_eq, decide_eq_false_iff_not, beq_iff_eq, beq_eq_false_iff_ne, bne_iff_ne, ne_eq, Bool.not_eq_true', Bool.not_eq_false', Bool.and_eq_true, Bool.or_eq_true, bne_eq_false_iff_eq] at c2
      refine den_skip ?_
      refine den_blk ?_
      refine den_region TTok ?_
      intro K hK
      simp -implicitDefEqProofs (disch := first | decide | assumption | omega) only [go_sem, RdS.len rR sl26, RdS.idx rR sl26, RdS.cellB rR (Ext.pres eB), RdS.cells rR, RdS.len (OS.rd how10_2_0) sl26, RdS.idx (OS.rd how10_2_0) sl26, RdS.cellN (OS.rd how10_2_0), RdS.cells (OS.rd how10_2_0), RdS.len (OS.rd hN) sl26, RdS.idx (OS.rd hN) sl26, RdS.cellN (OS.rd hN), RdS.cells (OS.rd hN), RdS.len hr13 sl22, RdS.idx hr13 sl22, R1.intB hr13 (Ext.pres xr14), RdS.cells hr13, wrap_id]
      refine hK _ _ ?_
      clear hK K
      refine den_stop ?_
      first | rw [fm_yes (f := (fun r : List Int => decide ((w : Int) ≤ leadP r))) (g := (fun r : List Int => r.drop w)) (by omega) (decide_eq_true (by have h1 := c2; omega))] at hN | rw [fm_no (f := (fun r : List Int => decide ((w : Int) ≤ leadP r))) (g := (fun r : List Int => r.drop w)) (d := default) (by omega) (decide_eq_false (by have h1 := c2; omega))] at hN
      exact ⟨(k + 1, vhN, fphN), by simp [HasL, puts_at, hwd], ⟨by first | omega | (dsimp only; omega), hN, hfhN, sbhN, cL10⟩, by first | omega | (dsimp only; omega)⟩
    ·try simp only [decide_eq_true_eq, decide_eq_false_iff_not, beq_iff_eq, beq_eq_false_iff_ne, bne_iff_ne, ne_eq, Bool.not_eq_true', Bool.not_eq_false', Bool.and_eq_true, Bool.or_eq_true, bne_eq_false_iff_eq] at c1
     refine den_exit ?_
     refine denX_code ?_
     refine denX_stop ?_
     refine denX_hit ?_
     refine den_seq ?_
     refine den_region TTok ?_
     intro K hK
     simp -implicitDefEqProofs (disch := first | decide | assumption | omega) only [go_sem, RdS.len rR sl26, RdS.idx rR sl26, RdS.cellB rR (Ext.pres eB), RdS.cells rR, RdS.len (OS.rd hN) sl26, RdS.idx (OS.rd hN) sl26, RdS.cellN (OS.rd hN), RdS.cells (OS.rd hN), wrap_id]
     refine hK _ _ ?_
     clear hK K
     refine den_ret ?_
     simp (disch := decide) only [resP_1, puts_same, puts_ne]
     have hec : kerQ p R = (((ech p (longP R)).take k).filter (fun r : List Int => decide ((w : Int) ≤ leadP r))).map (fun r : List Int => r.drop w) := by
      by_cases e_ : R = []
      ·subst e_
       rw [kerQ_nil hp.1, List.length_eq_zero_iff.1 (hE0 rfl)]; simp
      ·rw [kerQ_w hT e_, kerP, List.take_of_length_le (i := k) (by omega)]
     rw [hec]
     exact ⟨_, _, rfl, hN, hfhN.mono (by omega), eB⟩

set_option maxRecDepth 100000 in
theorem sCyc_ok (vX : Value) (X : Cx) (n : Int) (h : Heap) (rX : RC h vX X) (hC : IsC X) (hn : -1000 ≤ n ∧ n ≤ 1000) : CallA Try.prog 153 #[vX, .int .i64 n] h fun v' h' => ∃ w0 f0, v' = w0 ∧ O2 h' w0 (cycP X n) f0 ∧ Fresh h.size f0 ∧ Ext h h' := by
 obtain ⟨vdX, vmX, rfl, hdX, hmX⟩ := rX
 have hledX := RdS.le hdX
 have hlemX := RdS.le hmX
 have hP := hC.p
 have hmt := mapP_tbl hC n
 have hkerT := hmt.2
 have hkern := hmt.1.symm
 have hkl := mapP_len hC n
 have hkw : (if 1 ≤ n then (dimP X (n - 1)).toNat else 0) ≤ 8 := mapW_le hC n
 refine callA_intro TTok (args := [_, _]) Try.func153 (by kernel_rfl) rfl 14 rfl (by simp) [.tmp 4] rfl ?_
 simp only [idxs, Nat.reduceAdd]
 refine den_seq ?_
 refine den_region TTok ?_
 intro K hK
 simp -implicitDefEqProofs (disch := first | decide | assumption | omega) only [go_sem, RdS.len hdX sl22, RdS.idx hdX sl22, R1.intB hdX (HPres.refl _), RdS.cells hdX, RdS.len hmX sl23, RdS.idx hmX sl23, RdS.cellB hmX (HPres.refl _), RdS.cells hmX, wrap_id]
 refine op_box (cs := #[.int .i64 (X.p), vdX, vmX]) rfl ?_
 intro h0_0 e0_0 hb0_0 z0_0
 have := Ext.size e0_0
 have eB := e0_0
 have hfhb0_0 : Fresh h.size [h.size] := Fresh.one _
 have hlhb0_0 := one_lt (show h.size < h0_0.size by omega)
 try simp -implicitDefEqProofs (disch := first | decide | assumption | omega) only [go_sem, RdS.len hdX sl22, RdS.idx hdX sl22, R1.intB hdX (Ext.pres eB), RdS.cells hdX, RdS.len hmX sl23, RdS.idx hmX sl23, RdS.cellB hmX (Ext.pres eB), RdS.cells hmX, BoxAt.cell hb0_0, wrap_id]
 refine hK _ _ ?_
 clear hK K
 refine den_seq ?_
 refine den_draw TTok mixed [] [(0, true), (1, true), (2, true), (3, true), (5, true), (6, true), (4, false), (7, false), (8, false), (9, true)] (by kernel_rfl) ?_
 intro K hK
 simp -implicitDefEqProofs (disch := first | decide | assumption | omega) only [go_sem, fa31_0, ld2, ld31, RdS.len hdX sl22, RdS.idx hdX sl22, R1.intB hdX (Ext.pres eB), RdS.cells hdX, RdS.len hmX sl23, RdS.idx hmX sl23, RdS.cellB hmX (Ext.pres eB), RdS.cells hmX, BoxAt.cell hb0_0, wrap_id]
 try simp -implicitDefEqProofs (disch := first | decide | assumption | omega) only [go_sem, RdS.len hdX sl22, RdS.idx hdX sl22, R1.intB hdX (Ext.pres eB), RdS.cells hdX, RdS.len hmX sl23, RdS.idx hmX sl23, RdS.cellB hmX (Ext.pres eB), RdS.cells hmX, BoxAt.cell hb0_0, wrap_id]
 refine CallA.mono (sDim_ok _ X _ _ ⟨_, _, rfl, (RdS.pres hdX (Ext.pres eB)), (RdS.pres hmX (Ext.pres eB))⟩) ?_
 intro v_ h1_4
 rintro ⟨rfl, e1_4⟩
 replace hb0_0 := BoxAt.ext hb0_0 e1_4
 have := Ext.size e1_4
 replace eB := Ext.trans eB e1_4
 try simp (disch := decide) only [outv_some, outv_none, put_puts]
 refine plK_pres (Ext.pres e1_4) ?_
 try simp -implicitDefEqProofs (disch := first | decide | assumption | omega) only [go_sem, RdS.len hdX sl22, RdS.idx hdX sl22, R1.intB hdX (Ext.pres eB), RdS.cells hdX, RdS.len hmX sl23, RdS.idx hmX sl23, RdS.cellB hmX (Ext.pres eB), RdS.cells hmX, BoxAt.cell hb0_0, wrap_id]
 try simp -implicitDefEqProofs (disch := first | decide | assumption | omega) only [go_sem, RdS.len hdX sl22, RdS.idx hdX sl22, R1.intB hdX (Ext.pres eB), RdS.cells hdX, RdS.len hmX sl23, RdS.idx hmX sl23, RdS.cellB hmX (Ext.pres eB), RdS.cells hmX, BoxAt.cell hb0_0, wrap_id]
 refine CallA.mono (sMap_ok _ X n _ ⟨_, _, rfl, (RdS.pres hdX (Ext.pres eB)), (RdS.pres hmX (Ext.pres eB))⟩ hC) ?_
 intro vw1_7_0 h1_7
 rintro ⟨zvw1_7_0, rfl, hrw1_7_0, e1_7⟩
 replace hb0_0 := BoxAt.ext hb0_0 e1_7
 have := Ext.size e1_7
 replace eB := Ext.trans eB e1_7
 have xrw1_7_0 := Ext.refl h1_7
 have hlrw1_7_0 := RdS.le hrw1_7_0
 try simp (disch := decide) only [outv_some, outv_none, put_puts]
 refine plK_pres (Ext.pres e1_7) ?_
 try simp -implicitDefEqProofs (disch := first | decide | assumption | omega) only [go_sem, RdS.len hdX sl22, RdS.idx hdX sl22, R1.intB hdX (Ext.pres eB), RdS.cells hdX, RdS.len hmX sl23, RdS.idx hmX sl23, RdS.cellB hmX (Ext.pres eB), RdS.cells hmX, BoxAt.cell hb0_0, RdS.len hrw1_7_0 sl26, RdS.idx hrw1_7_0 sl26, RdS.cellB hrw1_7_0 (Ext.pres xrw1_7_0), RdS.cells hrw1_7_0, wrap_id]
 try simp -implicitDefEqProofs (disch := first | decide | assumption | omega) only [go_sem, RdS.len hdX sl22, RdS.idx hdX sl22, R1.intB hdX (Ext.pres eB), RdS.cells hdX, RdS.len hmX sl23, RdS.idx hmX sl23, RdS.cellB hmX (Ext.pres eB), RdS.cells hmX, BoxAt.cell hb0_0, RdS.len hrw1_7_0 sl26, RdS.idx hrw1_7_0 sl26, RdS.cellB hrw1_7_0 (Ext.pres xrw1_7_0), RdS.cells hrw1_7_0, wrap_id]
 refine CallA.mono (sKernel_ok _ X.p (dimP X n) (mapP X n) _ (RdS.pres hrw1_7_0 (Ext.pres xrw1_7_0)) hP hkerT (by omega) (by omega) hkern) ?_
 intro vw1_8_0 h1_8
 rintro ⟨zvw1_8_0, fw1_8_0, rfl, how1_8_0, hfw1_8_0, e1_8⟩
 replace hb0_0 := BoxAt.ext hb0_0 e1_8
 have := Ext.size e1_8
 replace eB := Ext.trans eB e1_8
 replace xrw1_7_0 := Ext.trans xrw1_7_0 e1_8
 have hlhow1_8_0 := OS.lt how1_8_0
 try simp (disch := decide) only [outv_some, outv_none, put_puts]
 refine plK_pres (Ext.pres e1_8) ?_
 try simp -implicitDefEqProofs (disch := first | decide | assumption | omega) only [go_sem, RdS.len hdX sl22, RdS.idx hdX sl22, R1.intB hdX (Ext.pres eB), RdS.cells hdX, RdS.len hmX sl23, RdS.idx hmX sl23, RdS.cellB hmX (Ext.pres eB), RdS.cells hmX, RdS.len (OS.rd how1_8_0) sl26, RdS.idx (OS.rd how1_8_0) sl26, RdS.cellN (OS.rd how1_8_0), RdS.cells (OS.rd how1_8_0), BoxAt.cell hb0_0, RdS.len hrw1_7_0 sl26, RdS.idx hrw1_7_0 sl26, RdS.cellB hrw1_7_0 (Ext.pres xrw1_7_0), RdS.cells hrw1_7_0, wrap_id]
 refine hK _ _ ?_
 clear hK K
 refine den_ret ?_
 simp (disch := decide) only [resP_1, puts_same, puts_ne]
 exact ⟨_, _, rfl, how1_8_0, hfw1_8_0.mono (by omega), eB⟩
end Go.Proofs.Ytjjjgllbocgkbaa

namespace Go.Proofs.Ytjjjgllbocgkbaa
open Go
def posI : List Int → Int → Int
 | [], _ => -1
 | x :: r, v => if x = v then 0 else if posI r v < 0 then -1 else posI r v + 1
theorem posI_ge (v : Int) : ∀ xs : List Int, -1 ≤ posI xs v ∧ posI xs v < xs.length
 | [] => by simp [posI]
 | x :: r => by
  have := posI_ge v r
  rw [posI]
  simp only [List.length_cons]
  split
  ·omega
  ·split <;> omega
theorem posI_hit {v : Int} : ∀ {xs : List Int} {s : Nat}, (∀ q, q < s → xs.getD q 0 ≠ v) → s < xs.length → xs.getD s 0 = v → posI xs v = s
 | [], s, _, hs, _ => by simp at hs
 | x :: r, 0, _, _, h => by rw [posI, if_pos (by simpa using h)]; rfl
 | x :: r, s + 1, h, hs, e => by
  have h0 : x ≠ v := by simpa using h 0 (by omega)
  have := posI_hit (xs := r) (s := s) (fun q hq => by simpa using h (q + 1) (by omega)) (by simpa using hs) (by simpa using e)
  rw [posI, if_neg h0, if_neg (by omega), this]; omega
theorem posI_none {v : Int} : ∀ {xs : List Int}, (∀ q, q < xs.length → xs.getD q 0 ≠ v) → posI xs v = -1
 | [], _ => rfl
 | x :: r, h => by
  have h0 : x ≠ v := by simpa using h 0 (by simp)
  have := posI_none (xs := r) (fun q hq => by simpa using h (q + 1) (by simpa using hq))
  rw [posI, if_neg h0, if_pos (by omega)]
theorem posI_get {v : Int} : ∀ {xs : List Int}, 0 ≤ posI xs v → xs.getD (posI xs v).toNat 0 = v
 | [], h => by simp [posI] at h
 | x :: r, h => by
  rw [posI] at h ⊢
  split
  ·rename_i e; simpa using e
  ·rename_i e
   rw [if_neg e] at h
   split at h
   ·omega
   ·rename_i h2
    have := posI_get (xs := r) (v := v) (by omega)
    rw [if_neg h2, show (posI r v + 1).toNat = (posI r v).toNat + 1 by omega, List.getD_cons_succ]
    exact this
theorem posI_mem {v : Int} {xs : List Int} : 0 ≤ posI xs v ↔ v ∈ xs := by
 constructor
 ·intro h
  have h1 := posI_get h
  have h2 := posI_ge v xs
  rw [← h1, List.getD_eq_getElem?_getD, List.getElem?_eq_getElem (by omega)]
  exact List.getElem_mem _
 ·intro h
  by_cases hc : 0 ≤ posI xs v
  ·exact hc
  ·exfalso
   induction xs with
   | nil => cases h
   | cons x r ih =>
    rw [posI] at hc
    split at hc
    ·exact hc (Int.le_refl 0)
    ·rename_i e
     have h3 : v ∈ r := (List.mem_cons.1 h).resolve_left (fun q => e q.symm)
     split at hc
     ·exact ih h3 (by omega)
     ·omega
def farT (X : Fl) (m t : Int) (k : Nat) : List Int := ((List.range k).filter fun i : Nat => !decide (lvP X m (i : Int) ≤ t)).map fun i : Nat => (i : Int)
def farP (X : Fl) (m t : Int) : List Int := farT X m t (dimP X.c m).toNat
theorem farT_yes {X : Fl} {m t : Int} {k : Nat} (h : ¬ lvP X m (k : Int) ≤ t) : farT X m t k ++ [(k : Int)] = farT X m t (k + 1) := by
 unfold farT
 rw [List.range_succ, List.filter_append, List.map_append]
 simp [h]
theorem farT_no {X : Fl} {m t : Int} {k : Nat} (h : lvP X m (k : Int) ≤ t) : farT X m t k = farT X m t (k + 1) := by
 unfold farT
 rw [List.range_succ, List.filter_append, List.map_append]
 simp [h]
theorem farT_len (X : Fl) (m t : Int) (k : Nat) : (farT X m t k).length ≤ k := by
 unfold farT
 rw [List.length_map]
 exact Nat.le_trans (List.length_filter_le _ _) (by simp)
theorem farT_at {X : Fl} {m t : Int} {n k : Nat} (hk : k < (farT X m t n).length) : ∃ i : Nat, (farT X m t n).getD k 0 = (i : Int) ∧ i < n := by
 have h : (farT X m t n)[k] ∈ farT X m t n := List.getElem_mem hk
 obtain ⟨i, hi, e⟩ := List.mem_map.1 h
 rw [List.mem_filter, List.mem_range] at hi
 exact ⟨i, by rw [List.getD_eq_getElem?_getD, List.getElem?_eq_getElem hk]; exact e.symm, hi.1⟩
theorem far_idx {X : Fl} {m t : Int} {i : Nat} (hi : (i : Int) < dimP X.c m) : 0 ≤ posI (keptP X m t) (i : Int) ↔ lvP X m (i : Int) ≤ t := by
 rw [posI_mem, keptP, keptT_mem]
 exact ⟨fun h => h.2, fun h => ⟨by omega, h⟩⟩
def entP (X : Fl) (n i : Int) (k : Nat) : Int := ((mapP X.c n).getD i.toNat default).getD k 0
def rowT (X : Fl) (n i t : Int) (m : Nat) : List Int := ((List.range m).filter fun k : Nat => !decide (lvP X (n - 1) (k : Int) ≤ t)).map fun k : Nat => entP X n i k
theorem rowT_len (X : Fl) (n i t : Int) (m : Nat) : (rowT X n i t m).length = (farT X (n - 1) t m).length := by simp [rowT, farT]
theorem far_row (X : Fl) (n i t : Int) (m : Nat) : ((farT X (n - 1) t m).map fun z : Int => entP X n i z.toNat) = rowT X n i t m := by
 unfold rowT farT
 rw [List.map_map]
 apply List.map_congr_left
 intro z _
 simp
def rowsN (X : Fl) (n q t : Int) (s : Nat) : List (List Int) := (List.range s).map fun z : Nat => rowT X n ((keptP X n q).getD z 0) t (dimP X.c (n - 1)).toNat
def rowsP (X : Fl) (n q t : Int) : List (List Int) := rowsN X n q t (keptP X n q).length
theorem rowsN_len (X : Fl) (n q t : Int) (s : Nat) : (rowsN X n q t s).length = s := by simp [rowsN]
theorem rowsN_step (X : Fl) (n q t : Int) (s : Nat) : rowsN X n q t s ++ [rowT X n ((keptP X n q).getD s 0) t (dimP X.c (n - 1)).toNat] = rowsN X n q t (s + 1) := range_step (fun z : Nat => rowT X n ((keptP X n q).getD z 0) t (dimP X.c (n - 1)).toNat) s
theorem bnd_getD {p : Int} (hp : 0 < p) {v : List Int} (h : Bnd p v) (k : Nat) : 0 ≤ v.getD k 0 ∧ v.getD k 0 < p := by
 by_cases hk : k < v.length
 ·exact h.at hk
 ·rw [getD_out (by omega)]; omega
theorem entP_bnd {X : Fl} (hC : IsC X.c) (n i : Int) (k : Nat) : 0 ≤ entP X n i k ∧ entP X n i k < X.c.p := by
 have hp := isP_bnd hC.p
 have ht := (mapP_tbl hC n).2
 unfold entP
 by_cases hi : i.toNat < (mapP X.c n).length
 ·exact bnd_getD hp.1 (ht _ (getD_mem hi)).2 k
 ·have e : (mapP X.c n).getD i.toNat default = [] := by rw [List.getD_eq_getElem?_getD, List.getElem?_eq_none (by omega)]; rfl
  rw [e]
  exact bnd_getD hp.1 (fun x hx => by cases hx) k
theorem rowT_bnd {X : Fl} (hC : IsC X.c) (n i t : Int) (m : Nat) : Bnd X.c.p (rowT X n i t m) := fun x hx => by
 obtain ⟨k, _, rfl⟩ := List.mem_map.1 hx
 exact entP_bnd hC n i k
theorem rows_tbl {X : Fl} (hC : IsC X.c) (n q t : Int) : ∀ r ∈ rowsP X n q t, r.length = (farP X (n - 1) t).length ∧ Bnd X.c.p r := fun r hr => by
 obtain ⟨z, _, rfl⟩ := List.mem_map.1 hr
 exact ⟨rowT_len X n _ t _, rowT_bnd hC n _ t _⟩
theorem kerQ_tbl {p : Int} {w : Nat} (hP : isP p = true) {rows : List (List Int)} (h : ∀ r ∈ rows, r.length = w ∧ Bnd p r) : ∀ r ∈ kerQ p rows, r.length = rows.length ∧ Bnd p r := by
 by_cases e : rows = []
 ·subst e; rw [kerQ_nil (isP_two hP).1]; intro r hr; cases hr
 ·rw [kerQ_w h e]; exact kerP_tbl hP h
theorem kerQ_le {p : Int} {w : Nat} (hP : isP p = true) {rows : List (List Int)} (h : ∀ r ∈ rows, r.length = w ∧ Bnd p r) : (kerQ p rows).length ≤ rows.length := by
 by_cases e : rows = []
 ·subst e; rw [kerQ_nil (isP_two hP).1]; exact Nat.le_refl _
 ·rw [kerQ_w h e]; obtain ⟨l, r⟩ := kerP_rr hP h; exact r.le_w
def wideN (kept v : List Int) (d : Nat) : Nat → List Int
 | 0 => List.replicate d 0
 | k + 1 => (wideN kept v d k).set (kept.getD k 0).toNat (v.getD k 0)
theorem wideN_len (kept v : List Int) (d : Nat) : ∀ k, (wideN kept v d k).length = d
 | 0 => List.length_replicate
 | k + 1 => by rw [wideN, List.length_set, wideN_len kept v d k]
theorem wideN_bnd {p : Int} (hp : 0 < p) {kept v : List Int} {d : Nat} (h : Bnd p v) : ∀ k, Bnd p (wideN kept v d k)
 | 0 => Bnd.zeros hp d
 | k + 1 => fun x hx => by
  rw [wideN] at hx
  rcases List.mem_or_eq_of_mem_set hx with h1 | h1
  ·exact wideN_bnd hp h k x h1
  ·rw [h1]; exact bnd_getD hp h k
noncomputable def wideP (X : Fl) (r n q : Int) : List (List Int) := (kerQ X.c.p (rowsP X n q (q - r))).map fun v => wideN (keptP X n q) v (dimP X.c n).toNat (keptP X n q).length
noncomputable def nearP (X : Fl) (r n q : Int) : List (List Int) := ech X.c.p (wideP X r n q)
theorem wide_tbl {X : Fl} (hC : IsC X.c) (r n q : Int) : ∀ x ∈ wideP X r n q, x.length = (dimP X.c n).toNat ∧ Bnd X.c.p x := fun x hx => by
 obtain ⟨v, hv, rfl⟩ := List.mem_map.1 hx
 exact ⟨wideN_len _ _ _ _, wideN_bnd (isP_bnd hC.p).1 (kerQ_tbl hC.p (rows_tbl hC n q _) v hv).2 _⟩
theorem wide_len {X : Fl} (hC : IsF X) (r n q : Int) : (wideP X r n q).length ≤ 8 := by
 rw [wideP, List.length_map]
 have h1 := kerQ_le hC.c.p (rows_tbl hC.c n q (q - r))
 have h2 := keptP_len hC n q
 rw [show (rowsP X n q (q - r)).length = (keptP X n q).length from rowsN_len _ _ _ _ _] at h1
 omega
theorem near_rr {X : Fl} (hC : IsC X.c) (r n q : Int) : ∃ l, Rr X.c.p (dimP X.c n).toNat (nearP X r n q) l := (ech_red hC.p (wide_tbl hC r n q)).1
theorem near_tbl {X : Fl} (hC : IsC X.c) (r n q : Int) : ∀ x ∈ nearP X r n q, x.length = (dimP X.c n).toNat ∧ Bnd X.c.p x := by
 obtain ⟨l, h⟩ := near_rr hC r n q
 exact h.tbl
theorem near_len {X : Fl} (hC : IsC X.c) (r n q : Int) : (nearP X r n q).length ≤ 8 := by
 obtain ⟨l, h⟩ := near_rr hC r n q
 have := h.le_w
 have := dimP_bnd hC n
 omega
theorem map_takeL {α β : Type} {f : α → β} {xs : List α} {k : Nat} {d : α} (h : k < xs.length) : (xs.take k).map f ++ [f (xs.getD k d)] = (xs.take (k + 1)).map f := by
 rw [List.take_succ_eq_append_getElem h, List.map_append, List.getD_eq_getElem?_getD, List.getElem?_eq_getElem h]; rfl
theorem map_takeE {α β : Type} {f : α → β} {xs : List α} {k : Nat} (h : ¬ k < xs.length) : (xs.take k).map f = xs.map f := by rw [List.take_of_length_le (by omega)]

set_option maxRecDepth 100000 in
theorem index1_ok (vu : Value) (u : List Int) (x : Int) (h : Heap) (ru : R1 h vu u)  : CallA Try.prog 85 #[vu, .int .i64 x] h fun v' h' => v' = .int .i64 (posI u x) ∧ Ext h h' := by
 have hleu := RdS.le ru
 refine callA_intro TTok (args := [_, _]) Try.func85 (by kernel_rfl) rfl 19 rfl (by simp) [.tmp 4] rfl ?_
 simp only [idxs, Nat.reduceAdd]
 refine den_seq ?_
 refine den_region TTok ?_
 intro K hK
 simp -implicitDefEqProofs (disch := first | decide | assumption | omega) only [go_sem, RdS.len ru sl22, RdS.idx ru sl22, R1.intB ru (HPres.refl _), RdS.cells ru, wrap_id]
 refine hK _ _ ?_
 clear hK K
 refine den_seq ?_
 refine den_seq ?_
 refine den_region TTok ?_
 intro K hK
 simp -implicitDefEqProofs (disch := first | decide | assumption | omega) only [go_sem, RdS.len ru sl22, RdS.idx ru sl22, R1.intB ru (HPres.refl _), RdS.cells ru, wrap_id]
 refine hK _ _ ?_
 clear hK K
 refine den_block ?_
 refine den_sel [8, 0, 1, 7] ?_
 intro env_1
 simp only [go_sem]
 refine den_loopS (σ := Nat) (fun st_ => [(8, .int .i64 (st_ : Int))]) (fun st_ H => (st_ ≤ u.length) ∧ (∀ a, a < st_ → u.getD a 0 ≠ x) ∧ (Ext h H)) (fun st_ => u.length - st_) 0 ?_ ?_
 ·exact ⟨by omega, fun a h => by omega, Ext.refl _⟩
 ·rintro k h4 ee3 ⟨hi0, hno, cL2⟩
  have := Ext.size cL2
  have eB := cL2
  simp only [List.cons_append, List.nil_append]
  refine den_seq ?_
  refine den_region TTok ?_
  intro K hK
  simp -implicitDefEqProofs (disch := first | decide | assumption | omega) only [go_sem, RdS.len ru sl22, RdS.idx ru sl22, R1.intB ru (Ext.pres eB), RdS.cells ru, wrap_id]
  refine hK _ _ ?_
  clear hK K
  refine den_seq ?_
  refine den_cond rfl (fun c0 => ?_) (fun c0 => ?_)
  ·try simp only [decide_eq_true_eq, decide_eq_false_iff_not, beq_iff_eq, beq_eq_false_iff_ne, bne_iff_ne, ne_eq, Bool.not_eq_true', Bool.not_eq_false', Bool.and_eq_true, Bool.or_eq_true, bne_eq_false_iff_eq] at c0
   refine den_skip ?_
   refine den_seq ?_
   refine den_block ?_
   refine den_seq ?_
   refine den_region TTok ?_
   intro K hK
   simp -implicitDefEqProofs (disch := first | decide | assumption | omega) only [go_sem, RdS.len ru sl22, RdS.idx ru sl22, R1.intB ru (Ext.pres eB), RdS.cells ru, wrap_id]
   refine hK _ _ ?_
   clear hK K
   refine den_seq ?_
   refine den_region TTok ?_
   intro K hK
   simp -implicitDefEqProofs (disch := first | decide | assumption | omega) only [go_sem, ld2, RdS.len ru sl22, RdS.idx ru sl22, R1.intB ru (Ext.pres eB), RdS.cells ru, wrap_id]
   refine hK _ _ ?_
   clear hK K
   refine den_cond rfl (fun c1 => ?_) (fun c1 => ?_)
   ·try simp only [decide_eq_true_eq, decide_eq_false_iff_not, beq_iff_eq, beq_eq_false_iff_ne, bne_iff_ne, ne_eq, Bool.not_eq_true', Bool.not_eq_false', Bool.and_eq_true, Bool.or_eq_true, bne_eq_false_iff_eq] at c1
    refine den_seq ?_
    refine den_region TTok ?_
    intro K hK
    simp -implicitDefEqProofs (disch := first | decide | assumption | omega) only [go_sem, RdS.len ru sl22, RdS.idx ru sl22, R1.intB ru (Ext.pres eB), RdS.cells ru, wrap_id]
    refine hK _ _ ?_
    clear hK K
    refine den_ret ?_
    simp (disch := decide) only [resP_1, puts_same, puts_ne]
    exact ⟨vint (posI_hit hno (by omega) (Eq.symm c1)).symm, eB⟩
   ·try simp only [decide_eq_true_eq, decide_eq_false_iff_not, beq_iff_eq, beq_eq_false_iff_ne, bne_iff_ne, ne_eq, Bool.not_eq_true', Bool.not_eq_false', Bool.and_eq_true, Bool.or_eq_true, bne_eq_false_iff_eq] at c1
    refine den_skip ?_
    refine den_blk ?_
    refine den_region TTok ?_
    intro K hK
    simp -implicitDefEqProofs (disch := first | decide | assumption | omega) only [go_sem, RdS.len ru sl22, RdS.idx ru sl22, R1.intB ru (Ext.pres eB), RdS.cells ru, wrap_id]
    refine hK _ _ ?_
    clear hK K
    refine den_stop ?_
    exact ⟨k + 1, by simp [HasL, puts_at], ⟨by first | omega | (dsimp only; omega), fun a ha => by
 by_cases hak : a < k
 ·exact hno a hak
 ·rw [show a = k by omega]; exact fun e => c1 e.symm, cL2⟩, by first | omega | (dsimp only; omega)⟩
  ·try simp only [decide_eq_true_eq, decide_eq_false_iff_not, beq_iff_eq, beq_eq_false_iff_ne, bne_iff_ne, ne_eq, Bool.not_eq_true', Bool.not_eq_false', Bool.and_eq_true, Bool.or_eq_true, bne_eq_false_iff_eq] at c0
   refine den_exit ?_
   refine denX_code ?_
   refine denX_stop ?_
   refine denX_hit ?_
   refine den_seq ?_
   refine den_region TTok ?_
   intro K hK
   simp -implicitDefEqProofs (disch := first | decide | assumption | omega) only [go_sem, RdS.len ru sl22, RdS.idx ru sl22, R1.intB ru (Ext.pres eB), RdS.cells ru, wrap_id]
   refine hK _ _ ?_
   clear hK K
   refine den_ret ?_
   simp (disch := decide) only [resP_1, puts_same, puts_ne]
   exact ⟨vint (posI_none (fun a ha => hno a (by omega))).symm, eB⟩

set_option maxRecDepth 100000 in
theorem contains1_ok (vu : Value) (u : List Int) (x : Int) (h : Heap) (ru : R1 h vu u)  : CallA Try.prog 150 #[vu, .int .i64 x] h fun v' h' => v' = .bool (decide ((0 : Int) ≤ posI u x)) ∧ Ext h h' := by
 have hleu := RdS.le ru
 have hig := posI_ge x u
 refine callA_intro TTok (args := [_, _]) Try.func150 (by kernel_rfl) rfl 9 rfl (by simp) [.tmp 4] rfl ?_
 simp only [idxs, Nat.reduceAdd]
 refine den_seq ?_
 refine den_region TTok ?_
 intro K hK
 simp -implicitDefEqProofs (disch := first | decide | assumption | omega) only [go_sem, RdS.len ru sl22, RdS.idx ru sl22, R1.intB ru (HPres.refl _), RdS.cells ru, wrap_id]
 refine hK _ _ ?_
 clear hK K
 refine den_seq ?_
 refine den_region TTok ?_
 intro K hK
 simp -implicitDefEqProofs (disch := first | decide | assumption | omega) only [go_sem, RdS.len ru sl22, RdS.idx ru sl22, R1.intB ru (HPres.refl _), RdS.cells ru, wrap_id]
 try simp -implicitDefEqProofs (disch := first | decide | assumption | omega) only [go_sem, RdS.len ru sl22, RdS.idx ru sl22, R1.intB ru (HPres.refl _), RdS.cells ru, wrap_id]
 refine CallA.mono (index1_ok _ u x _ ru ) ?_
 intro v_ h1_2
 rintro ⟨rfl, e1_2⟩
 have := Ext.size e1_2
 have eB := e1_2
 try simp -implicitDefEqProofs (disch := first | decide | assumption | omega) only [go_sem, RdS.len ru sl22, RdS.idx ru sl22, R1.intB ru (Ext.pres eB), RdS.cells ru, wrap_id]
 refine hK _ _ ?_
 clear hK K
 refine den_ret ?_
 simp (disch := decide) only [resP_1, puts_same, puts_ne]
 exact ⟨by first | rfl | trivial, eB⟩
end Go.Proofs.Ytjjjgllbocgkbaa

namespace Go.Proofs.Ytjjjgllbocgkbaa
open Go
theorem dimP_in {X : Cx} {m : Int} (h : 0 < dimP X m) : 0 ≤ m ∧ m < X.dims.length := by
 unfold dimP at h
 split at h
 ·rename_i h2; rw [in3_iff] at h2; omega
 ·omega
theorem farP_row (X : Fl) (n i t : Int) : ((farP X (n - 1) t).map fun z : Int => entP X n i z.toNat) = rowT X n i t (dimP X.c (n - 1)).toNat := far_row X n i t _
theorem keptP_at {X : Fl} {n q : Int} {k : Nat} (hk : k < (keptP X n q).length) : 0 ≤ (keptP X n q).getD k 0 ∧ (keptP X n q).getD k 0 < dimP X.c n := by
 obtain ⟨i, e, h, _⟩ := keptT_at hk
 rw [show (keptP X n q).getD k 0 = (i : Int) from e]; omega
theorem farP_at {X : Fl} {m t : Int} {k : Nat} (hk : k < (farP X m t).length) : 0 ≤ (farP X m t).getD k 0 ∧ (farP X m t).getD k 0 < dimP X.c m := by
 obtain ⟨i, e, h⟩ := farT_at hk
 rw [show (farP X m t).getD k 0 = (i : Int) from e]; omega
theorem farP_len {X : Fl} (hC : IsC X.c) (m t : Int) : (farP X m t).length ≤ 8 := by
 have h1 := farT_len X m t (dimP X.c m).toNat
 have h2 := dimP_bnd hC m
 unfold farP; omega
/-- The place of an entry that is asked. -/
theorem near_at {X : Fl} (hC : IsC X.c) {n q t : Int} {s k : Nat} (hs : s < (keptP X n q).length) (hk : k < (farP X (n - 1) t).length) : 1 ≤ n ∧ n ≤ (X.c.dims.length : Int) - 1 ∧ X.c.maps.getD (n - 1).toNat default = mapP X.c n ∧ ((keptP X n q).getD s 0).toNat < (X.c.maps.getD (n - 1).toNat default).length ∧ ((farP X (n - 1) t).getD k 0).toNat < ((X.c.maps.getD (n - 1).toNat default).getD ((keptP X n q).getD s 0).toNat default).length := by
 have h1 := keptP_at hs
 have h2 := farP_at hk
 have h3 := dimP_in (X := X.c) (m := n) (by omega)
 have h4 := dimP_in (X := X.c) (m := n - 1) (by omega)
 have e := mapP_in (X := X.c) (n := n) (by omega) (by omega)
 have ht := mapP_tbl hC n
 rw [← e]
 have h5 : ((keptP X n q).getD s 0).toNat < (mapP X.c n).length := by omega
 have h6 := (ht.2 _ (getD_mem h5)).1
 rw [if_pos (by omega)] at h6
 exact ⟨by omega, by omega, rfl, h5, by omega⟩
theorem rowsP_len (X : Fl) (n q t : Int) : (rowsP X n q t).length = (keptP X n q).length := rowsN_len _ _ _ _ _
theorem ker_row {X : Fl} (hC : IsC X.c) {n q t : Int} {v : Nat} (hv : v < (kerQ X.c.p (rowsP X n q t)).length) : ((kerQ X.c.p (rowsP X n q t)).getD v default).length = (keptP X n q).length := by
 rw [(kerQ_tbl hC.p (rows_tbl hC n q t) _ (getD_mem hv)).1, rowsP_len]

set_option maxRecDepth 100000 in
set_option maxHeartbeats 4000000 in
theorem iNear_ok (vX : Value) (X : Fl) (r : Int) (n : Int) (q : Int) (h : Heap) (rX : RF h vX X) (hF : IsF X) (hr : -100 ≤ r ∧ r ≤ 100) (hn : 0 ≤ n ∧ n ≤ X.c.dims.length) (hq : -100 ≤ q ∧ q ≤ 200) : CallA Try.prog 96 #[vX, .int .i64 r, .int .i64 n, .int .i64 q] h fun v' h' => ∃ w0 f0, v' = w0 ∧ O2 h' w0 (nearP X r n q) f0 ∧ Fresh h.size f0 ∧ Ext h h' := by
 obtain ⟨vdX, vmX, vvX, rfl, hdX, hmX, hvX⟩ := rX
 have hledX := RdS.le hdX
 have hlemX := RdS.le hmX
 have hlevX := RdS.le hvX
 have hC := hF.c
 have hlC := hC.len
 have hml := hC.ml
 have hln := hF.ln
 have hdb := dimP_bnd hC n
 have hdb1 := dimP_bnd hC (n - 1)
 have hkl := keptP_len hF n q
 have hpb := isP_bnd hC.p
 have hP := hC.p
 refine callA_intro TTok (args := [_, _, _, _]) Try.func96 (by kernel_rfl) rfl 127 rfl (by simp) [.tmp 8] rfl ?_
 simp only [idxs, Nat.reduceAdd]
 refine den_seq ?_
 refine den_region TTok ?_
 intro K hK
 simp -implicitDefEqProofs (disch := first | decide | assumption | omega) only [go_sem, RdS.len hdX sl22, RdS.idx hdX sl22, R1.intB hdX (HPres.refl _), RdS.cells hdX, RdS.len hmX sl23, RdS.idx hmX sl23, RdS.cellB hmX (HPres.refl _), RdS.cells hmX, RdS.len hvX sl26, RdS.idx hvX sl26, RdS.cellB hvX (HPres.refl _), RdS.cells hvX, wrap_id]
 refine op_box (cs := #[.int .i64 (X.c.p), vdX, vmX, vvX]) rfl ?_
 intro h0_0 e0_0 hb0_0 z0_0
 have := Ext.size e0_0
 have eB := e0_0
 have hfhb0_0 : Fresh h.size [h.size] := Fresh.one _
 have hlhb0_0 := one_lt (show h.size < h0_0.size by omega)
 try simp -implicitDefEqProofs (disch := first | decide | assumption | omega) only [go_sem, RdS.len hdX sl22, RdS.idx hdX sl22, R1.intB hdX (Ext.pres eB), RdS.cells hdX, RdS.len hmX sl23, RdS.idx hmX sl23, RdS.cellB hmX (Ext.pres eB), RdS.cells hmX, RdS.len hvX sl26, RdS.idx hvX sl26, RdS.cellB hvX (Ext.pres eB), RdS.cells hvX, BoxAt.cell hb0_0, wrap_id]
 refine hK _ _ ?_
 clear hK K
 refine den_seq ?_
 refine den_region TTok ?_
 intro K hK
 simp -implicitDefEqProofs (disch := first | decide | assumption | omega) only [go_sem, fa33_0, ld31, RdS.len hdX sl22, RdS.idx hdX sl22, R1.intB hdX (Ext.pres eB), RdS.cells hdX, RdS.len hmX sl23, RdS.idx hmX sl23, RdS.cellB hmX (Ext.pres eB), RdS.cells hmX, RdS.len hvX sl26, RdS.idx hvX sl26, RdS.cellB hvX (Ext.pres eB), RdS.cells hvX, BoxAt.cell hb0_0, wrap_id]
 refine op_alloc (cs := #[.int .i64 0, .slice none 0 0, .slice none 0 0]) (by kernel_rfl) ?_
 intro h1_2 e1_2 hb1_2 z1_2
 replace hb0_0 := BoxAt.ext hb0_0 e1_2
 have := Ext.size e1_2
 replace eB := Ext.trans eB e1_2
 have hfhb1_2 : Fresh h0_0.size [h0_0.size] := Fresh.one _
 have hlhb1_2 := one_lt (show h0_0.size < h1_2.size by omega)
 try simp -implicitDefEqProofs (disch := first | decide | assumption | omega) only [go_sem, RdS.len hdX sl22, RdS.idx hdX sl22, R1.intB hdX (Ext.pres eB), RdS.cells hdX, RdS.len hmX sl23, RdS.idx hmX sl23, RdS.cellB hmX (Ext.pres eB), RdS.cells hmX, RdS.len hvX sl26, RdS.idx hvX sl26, RdS.cellB hvX (Ext.pres eB), RdS.cells hvX, BoxAt.cell hb0_0, BoxAt.cell hb1_2, wrap_id]
 refine op_storeB (cs' := #[.int .i64 (X.c.p), vdX, vmX]) st31 hb1_2 rfl rfl rfl (by simp) (allOne_mem (l := [.int .i64 (X.c.p), vdX, vmX]) ⟨rfl, (RdS.one hdX), (RdS.one hmX), trivial⟩) rfl ?_
 intro h1_3 hb1_2 c1_3
 replace hb0_0 := BoxAt.chgA hb0_0 c1_3 (apart_lt hlhb0_0 hfhb1_2 (by omega))
 have := c1_3.size
 replace eB := Ext.then eB c1_3 (ge_of hfhb1_2 (by omega))
 try simp -implicitDefEqProofs (disch := first | decide | assumption | omega) only [go_sem, RdS.len hdX sl22, RdS.idx hdX sl22, R1.intB hdX (Ext.pres eB), RdS.cells hdX, RdS.len hmX sl23, RdS.idx hmX sl23, RdS.cellB hmX (Ext.pres eB), RdS.cells hmX, RdS.len hvX sl26, RdS.idx hvX sl26, RdS.cellB hvX (Ext.pres eB), RdS.cells hvX, BoxAt.cell hb0_0, BoxAt.cell hb1_2, wrap_id]
 refine hK _ _ ?_
 clear hK K
 refine den_seq ?_
 refine den_region TTok ?_
 intro K hK
 simp -implicitDefEqProofs (disch := first | decide | assumption | omega) only [go_sem, ld33, RdS.len hdX sl22, RdS.idx hdX sl22, R1.intB hdX (Ext.pres eB), RdS.cells hdX, RdS.len hmX sl23, RdS.idx hmX sl23, RdS.cellB hmX (Ext.pres eB), RdS.cells hmX, RdS.len hvX sl26, RdS.idx hvX sl26, RdS.cellB hvX (Ext.pres eB), RdS.cells hvX, BoxAt.cell hb0_0, BoxAt.cell hb1_2, wrap_id]
 try simp -implicitDefEqProofs (disch := first | decide | assumption | omega) only [go_sem, RdS.len hdX sl22, RdS.idx hdX sl22, R1.intB hdX (Ext.pres eB), RdS.cells hdX, RdS.len hmX sl23, RdS.idx hmX sl23, RdS.cellB hmX (Ext.pres eB), RdS.cells hmX, RdS.len hvX sl26, RdS.idx hvX sl26, RdS.cellB hvX (Ext.pres eB), RdS.cells hvX, BoxAt.cell hb0_0, BoxAt.cell hb1_2, wrap_id]
 refine CallA.mono (iKept_ok _ X n q _ ⟨_, _, _, rfl, (RdS.pres hdX (Ext.pres eB)), (RdS.pres hmX (Ext.pres eB)), (RdS.pres hvX (Ext.pres eB))⟩ hF (by omega)) ?_
 intro vw2_3_0 h2_3
 rintro ⟨zvw2_3_0, fw2_3_0, rfl, how2_3_0, hfw2_3_0, e2_3⟩
 replace hb0_0 := BoxAt.ext hb0_0 e2_3
 replace hb1_2 := BoxAt.ext hb1_2 e2_3
 have := Ext.size e2_3
 replace eB := Ext.trans eB e2_3
 have hlhow2_3_0 := OS.lt how2_3_0
 try simp -implicitDefEqProofs (disch := first | decide | assumption | omega) only [go_sem, RdS.len hdX sl22, RdS.idx hdX sl22, R1.intB hdX (Ext.pres eB), RdS.cells hdX, RdS.len hmX sl23, RdS.idx hmX sl23, RdS.cellB hmX (Ext.pres eB), RdS.cells hmX, RdS.len hvX sl26, RdS.idx hvX sl26, RdS.cellB hvX (Ext.pres eB), RdS.cells hvX, RdS.len (OS.rd how2_3_0) sl22, RdS.idx (OS.rd how2_3_0) sl22, R1.intN (OS.rd how2_3_0), RdS.cells (OS.rd how2_3_0), BoxAt.cell hb0_0, BoxAt.cell hb1_2, wrap_id]
 refine op_bs0 sz26 O1 ?_
 intro v2_4 h2_4 ho2_4 e2_4
 replace how2_3_0 := OS.ext how2_3_0 e2_4
 replace hb0_0 := BoxAt.ext hb0_0 e2_4
 replace hb1_2 := BoxAt.ext hb1_2 e2_4
 have := Ext.size e2_4
 replace eB := Ext.trans eB e2_4
 have hfho2_4 : Fresh h2_3.size [h2_3.size] := Fresh.one _
 have hlho2_4 := OS.lt ho2_4
 try simp -implicitDefEqProofs (disch := first | decide | assumption | omega) only [go_sem, RdS.len hdX sl22, RdS.idx hdX sl22, R1.intB hdX (Ext.pres eB), RdS.cells hdX, RdS.len hmX sl23, RdS.idx hmX sl23, RdS.cellB hmX (Ext.pres eB), RdS.cells hmX, RdS.len hvX sl26, RdS.idx hvX sl26, RdS.cellB hvX (Ext.pres eB), RdS.cells hvX, RdS.len (OS.rd how2_3_0) sl22, RdS.idx (OS.rd how2_3_0) sl22, R1.intN (OS.rd how2_3_0), RdS.cells (OS.rd how2_3_0), RdS.len (OS.rd ho2_4) sl26, RdS.idx (OS.rd ho2_4) sl26, RdS.cellN (OS.rd ho2_4), RdS.cells (OS.rd ho2_4), BoxAt.cell hb0_0, BoxAt.cell hb1_2, wrap_id]
 refine hK _ _ ?_
 clear hK K
 refine den_seq ?_
 refine den_region TTok ?_
 intro K hK
 simp -implicitDefEqProofs (disch := first | decide | assumption | omega) only [go_sem, RdS.len hdX sl22, RdS.idx hdX sl22, R1.intB hdX (Ext.pres eB), RdS.cells hdX, RdS.len hmX sl23, RdS.idx hmX sl23, RdS.cellB hmX (Ext.pres eB), RdS.cells hmX, RdS.len hvX sl26, RdS.idx hvX sl26, RdS.cellB hvX (Ext.pres eB), RdS.cells hvX, RdS.len (OS.rd how2_3_0) sl22, RdS.idx (OS.rd how2_3_0) sl22, R1.intN (OS.rd how2_3_0), RdS.cells (OS.rd how2_3_0), RdS.len (OS.rd ho2_4) sl26, RdS.idx (OS.rd ho2_4) sl26, RdS.cellN (OS.rd ho2_4), RdS.cells (OS.rd ho2_4), BoxAt.cell hb0_0, BoxAt.cell hb1_2, wrap_id]
 refine op_bs0 sz22 OI ?_
 intro v3_0 h3_0 ho3_0 e3_0
 replace how2_3_0 := OS.ext how2_3_0 e3_0
 replace ho2_4 := OS.ext ho2_4 e3_0
 replace hb0_0 := BoxAt.ext hb0_0 e3_0
 replace hb1_2 := BoxAt.ext hb1_2 e3_0
 have := Ext.size e3_0
 replace eB := Ext.trans eB e3_0
 have hfho3_0 : Fresh h2_4.size [h2_4.size] := Fresh.one _
 have hlho3_0 := OS.lt ho3_0
 try simp -implicitDefEqProofs (disch := first | decide | assumption | omega) only [go_sem, RdS.len hdX sl22, RdS.idx hdX sl22, R1.intB hdX (Ext.pres eB), RdS.cells hdX, RdS.len hmX sl23, RdS.idx hmX sl23, RdS.cellB hmX (Ext.pres eB), RdS.cells hmX, RdS.len hvX sl26, RdS.idx hvX sl26, RdS.cellB hvX (Ext.pres eB), RdS.cells hvX, RdS.len (OS.rd how2_3_0) sl22, RdS.idx (OS.rd how2_3_0) sl22, R1.intN (OS.rd how2_3_0), RdS.cells (OS.rd how2_3_0), RdS.len (OS.rd ho2_4) sl26, RdS.idx (OS.rd ho2_4) sl26, RdS.cellN (OS.rd ho2_4), RdS.cells (OS.rd ho2_4), RdS.len (OS.rd ho3_0) sl22, RdS.idx (OS.rd ho3_0) sl22, R1.intN (OS.rd ho3_0), RdS.cells (OS.rd ho3_0), BoxAt.cell hb0_0, BoxAt.cell hb1_2, wrap_id]
 refine hK _ _ ?_
 clear hK K
 refine den_seq ?_
 refine den_seq ?_
 refine den_region TTok ?_
 intro K hK
 simp -implicitDefEqProofs (disch := first | decide | assumption | omega) only [go_sem, ld31, RdS.len hdX sl22, RdS.idx hdX sl22, R1.intB hdX (Ext.pres eB), RdS.cells hdX, RdS.len hmX sl23, RdS.idx hmX sl23, RdS.cellB hmX (Ext.pres eB), RdS.cells hmX, RdS.len hvX sl26, RdS.idx hvX sl26, RdS.cellB hvX (Ext.pres eB), RdS.cells hvX, RdS.len (OS.rd how2_3_0) sl22, RdS.idx (OS.rd how2_3_0) sl22, R1.intN (OS.rd how2_3_0), RdS.cells (OS.rd how2_3_0), RdS.len (OS.rd ho2_4) sl26, RdS.idx (OS.rd ho2_4) sl26, RdS.cellN (OS.rd ho2_4), RdS.cells (OS.rd ho2_4), RdS.len (OS.rd ho3_0) sl22, RdS.idx (OS.rd ho3_0) sl22, R1.intN (OS.rd ho3_0), RdS.cells (OS.rd ho3_0), BoxAt.cell hb0_0, BoxAt.cell hb1_2, wrap_id]
 try simp -implicitDefEqProofs (disch := first | decide | assumption | omega) only [go_sem, RdS.len hdX sl22, RdS.idx hdX sl22, R1.intB hdX (Ext.pres eB), RdS.cells hdX, RdS.len hmX sl23, RdS.idx hmX sl23, RdS.cellB hmX (Ext.pres eB), RdS.cells hmX, RdS.len hvX sl26, RdS.idx hvX sl26, RdS.cellB hvX (Ext.pres eB), RdS.cells hvX, RdS.len (OS.rd how2_3_0) sl22, RdS.idx (OS.rd how2_3_0) sl22, R1.intN (OS.rd how2_3_0), RdS.cells (OS.rd how2_3_0), RdS.len (OS.rd ho2_4) sl26, RdS.idx (OS.rd ho2_4) sl26, RdS.cellN (OS.rd ho2_4), RdS.cells (OS.rd ho2_4), RdS.len (OS.rd ho3_0) sl22, RdS.idx (OS.rd ho3_0) sl22, R1.intN (OS.rd ho3_0), RdS.cells (OS.rd ho3_0), BoxAt.cell hb0_0, BoxAt.cell hb1_2, wrap_id]
 refine CallA.mono (iDim_ok _ X.c _ _ ⟨_, _, rfl, (RdS.pres hdX (Ext.pres eB)), (RdS.pres hmX (Ext.pres eB))⟩) ?_
 intro v_ h4_3
 rintro ⟨rfl, e4_3⟩
 replace how2_3_0 := OS.ext how2_3_0 e4_3
 replace ho2_4 := OS.ext ho2_4 e4_3
 replace ho3_0 := OS.ext ho3_0 e4_3
 replace hb0_0 := BoxAt.ext hb0_0 e4_3
 replace hb1_2 := BoxAt.ext hb1_2 e4_3
 have := Ext.size e4_3
 replace eB := Ext.trans eB e4_3
 try simp -implicitDefEqProofs (disch := first | decide | assumption | omega) only [go_sem, RdS.len hdX sl22, RdS.idx hdX sl22, R1.intB hdX (Ext.pres eB), RdS.cells hdX, RdS.len hmX sl23, RdS.idx hmX sl23, RdS.cellB hmX (Ext.pres eB), RdS.cells hmX, RdS.len hvX sl26, RdS.idx hvX sl26, RdS.cellB hvX (Ext.pres eB), RdS.cells hvX, RdS.len (OS.rd how2_3_0) sl22, RdS.idx (OS.rd how2_3_0) sl22, R1.intN (OS.rd how2_3_0), RdS.cells (OS.rd how2_3_0), RdS.len (OS.rd ho2_4) sl26, RdS.idx (OS.rd ho2_4) sl26, RdS.cellN (OS.rd ho2_4), RdS.cells (OS.rd ho2_4), RdS.len (OS.rd ho3_0) sl22, RdS.idx (OS.rd ho3_0) sl22, R1.intN (OS.rd ho3_0), RdS.cells (OS.rd ho3_0), BoxAt.cell hb0_0, BoxAt.cell hb1_2, wrap_id]
 refine hK _ _ ?_
 clear hK K
 refine den_block ?_
 refine den_sel [12, 37, 1, 2, 3, 4, 9, 10, 11, 36] ?_
 intro env_1
 simp only [go_sem]
 refine den_loopS (σ := Nat × Value × List Nat) (fun st_ => [(12, st_.2.1), (37, .int .i64 (st_.1 : Int))]) (fun st_ H => ((st_.1 : Int) ≤ dimP X.c (n - 1)) ∧ (O1 H st_.2.1 (farT X (n - 1) (q - r) st_.1) st_.2.2) ∧ (Fresh (h2_4.size) st_.2.2) ∧ (Sub [h2_4.size] h4_3.size st_.2.2) ∧ (Chg [h2_4.size] h4_3 H)) (fun st_ => (dimP X.c (n - 1)).toNat - st_.1) (0, v3_0, [h2_4.size]) ?_ ?_
 ·exact ⟨by omega, by show O1 _ _ [] _; exact ho3_0, hfho3_0, Sub.refl, Chg.refl _ _⟩
 ·rintro ⟨i, vhFr, fphFr⟩ h4 ee3 ⟨hi0, hFr, hfhFr, sbhFr, cL2⟩
  dsimp only at hi0 hFr hfhFr sbhFr cL2
  replace how2_3_0 := OS.chg how2_3_0 cL2 (apart_lt hlhow2_3_0 hfho3_0 (by omega))
  replace ho2_4 := OS.chg ho2_4 cL2 (apart_lt hlho2_4 hfho3_0 (by omega))
  replace hb0_0 := BoxAt.chgA hb0_0 cL2 (apart_lt hlhb0_0 hfho3_0 (by omega))
  replace hb1_2 := BoxAt.chgA hb1_2 cL2 (apart_lt hlhb1_2 hfho3_0 (by omega))
  have := cL2.size
  replace eB := Ext.then eB cL2 (ge_of hfho3_0 (by omega))
  have hlhFr := OS.lt hFr
  simp only [List.cons_append, List.nil_append]
  have hkl0 := farT_len X (n - 1) (q - r) i
  refine den_seq ?_
  refine den_region TTok ?_
  intro K hK
  simp -implicitDefEqProofs (disch := first | decide | assumption | omega) only [go_sem, RdS.len hdX sl22, RdS.idx hdX sl22, R1.intB hdX (Ext.pres eB), RdS.cells hdX, RdS.len hmX sl23, RdS.idx hmX sl23, RdS.cellB hmX (Ext.pres eB), RdS.cells hmX, RdS.len hvX sl26, RdS.idx hvX sl26, RdS.cellB hvX (Ext.pres eB), RdS.cells hvX, RdS.len (OS.rd how2_3_0) sl22, RdS.idx (OS.rd how2_3_0) sl22, R1.intN (OS.rd how2_3_0), RdS.cells (OS.rd how2_3_0), RdS.len (OS.rd ho2_4) sl26, RdS.idx (OS.rd ho2_4) sl26, RdS.cellN (OS.rd ho2_4), RdS.cells (OS.rd ho2_4), RdS.len (OS.rd hFr) sl22, RdS.idx (OS.rd hFr) sl22, R1.intN (OS.rd hFr), RdS.cells (OS.rd hFr), BoxAt.cell hb0_0, BoxAt.cell hb1_2, wrap_id]
  refine hK _ _ ?_
  clear hK K
  refine den_seq ?_
  refine den_cond rfl (fun c0 => ?_) (fun c0 => ?_)
  ·try simp only [decide_eq_true_eq, decide_eq_false_iff_not, beq_iff_eq, beq_eq_false_iff_ne, bne_iff_ne, ne_eq, Bool.not_eq_true', Bool.not_eq_false', Bool.and_eq_true, Bool.or_eq_true, bne_eq_false_iff_eq] at c0
   refine den_skip ?_
   refine den_seq ?_
   refine den_block ?_
   refine den_seq ?_
   refine den_region TTok ?_
   intro K hK
   simp -implicitDefEqProofs (disch := first | decide | assumption | omega) only [go_sem, RdS.len hdX sl22, RdS.idx hdX sl22, R1.intB hdX (Ext.pres eB), RdS.cells hdX, RdS.len hmX sl23, RdS.idx hmX sl23, RdS.cellB hmX (Ext.pres eB), RdS.cells hmX, RdS.len hvX sl26, RdS.idx hvX sl26, RdS.cellB hvX (Ext.pres eB), RdS.cells hvX, RdS.len (OS.rd how2_3_0) sl22, RdS.idx (OS.rd how2_3_0) sl22, R1.intN (OS.rd how2_3_0), RdS.cells (OS.rd how2_3_0), RdS.len (OS.rd ho2_4) sl26, RdS.idx (OS.rd ho2_4) sl26, RdS.cellN (OS.rd ho2_4), RdS.cells (OS.rd ho2_4), RdS.len (OS.rd hFr) sl22, RdS.idx (OS.rd hFr) sl22, R1.intN (OS.rd hFr), RdS.cells (OS.rd hFr), BoxAt.cell hb0_0, BoxAt.cell hb1_2, wrap_id]
   refine hK _ _ ?_
   clear hK K
   refine den_seq ?_
   have hfi := far_idx (X := X) (t := q - r) (m := n - 1) (i := i) (by omega)
   refine den_region TTok ?_
   intro K hK
   simp -implicitDefEqProofs (disch := first | decide | assumption | omega) only [go_sem, ld33, RdS.len hdX sl22, RdS.idx hdX sl22, R1.intB hdX (Ext.pres eB), RdS.cells hdX, RdS.len hmX sl23, RdS.idx hmX sl23, RdS.cellB hmX (Ext.pres eB), RdS.cells hmX, RdS.len hvX sl26, RdS.idx hvX sl26, RdS.cellB hvX (Ext.pres eB), RdS.cells hvX, RdS.len (OS.rd how2_3_0) sl22, RdS.idx (OS.rd how2_3_0) sl22, R1.intN (OS.rd how2_3_0), RdS.cells (OS.rd how2_3_0), RdS.len (OS.rd ho2_4) sl26, RdS.idx (OS.rd ho2_4) sl26, RdS.cellN (OS.rd ho2_4), RdS.cells (OS.rd ho2_4), RdS.len (OS.rd hFr) sl22, RdS.idx (OS.rd hFr) sl22, R1.intN (OS.rd hFr), RdS.cells (OS.rd hFr), BoxAt.cell hb0_0, BoxAt.cell hb1_2, wrap_id]
   try simp -implicitDefEqProofs (disch := first | decide | assumption | omega) only [go_sem, RdS.len hdX sl22, RdS.idx hdX sl22, R1.intB hdX (Ext.pres eB), RdS.cells hdX, RdS.len hmX sl23, RdS.idx hmX sl23, RdS.cellB hmX (Ext.pres eB), RdS.cells hmX, RdS.len hvX sl26, RdS.idx hvX sl26, RdS.cellB hvX (Ext.pres eB), RdS.cells hvX, RdS.len (OS.rd how2_3_0) sl22, RdS.idx (OS.rd how2_3_0) sl22, R1.intN (OS.rd how2_3_0), RdS.cells (OS.rd how2_3_0), RdS.len (OS.rd ho2_4) sl26, RdS.idx (OS.rd ho2_4) sl26, RdS.cellN (OS.rd ho2_4), RdS.cells (OS.rd ho2_4), RdS.len (OS.rd hFr) sl22, RdS.idx (OS.rd hFr) sl22, R1.intN (OS.rd hFr), RdS.cells (OS.rd hFr), BoxAt.cell hb0_0, BoxAt.cell hb1_2, wrap_id]
   refine CallA.mono (iKept_ok _ X (n - (1 : Int)) (q - r) _ ⟨_, _, _, rfl, (RdS.pres hdX (Ext.pres eB)), (RdS.pres hmX (Ext.pres eB)), (RdS.pres hvX (Ext.pres eB))⟩ hF (by omega)) ?_
   intro vw7_6_0 h7_6
   rintro ⟨zvw7_6_0, fw7_6_0, rfl, how7_6_0, hfw7_6_0, e7_6⟩
   replace how2_3_0 := OS.ext how2_3_0 e7_6
   replace ho2_4 := OS.ext ho2_4 e7_6
   replace hFr := OS.ext hFr e7_6
   replace hb0_0 := BoxAt.ext hb0_0 e7_6
   replace hb1_2 := BoxAt.ext hb1_2 e7_6
   have := Ext.size e7_6
   replace eB := Ext.trans eB e7_6
   replace cL2 := Chg.stepE cL2 e7_6
   have hlhow7_6_0 := OS.lt how7_6_0
   try simp -implicitDefEqProofs (disch := first | decide | assumption | omega) only [go_sem, RdS.len hdX sl22, RdS.idx hdX sl22, R1.intB hdX (Ext.pres eB), RdS.cells hdX, RdS.len hmX sl23, RdS.idx hmX sl23, RdS.cellB hmX (Ext.pres eB), RdS.cells hmX, RdS.len hvX sl26, RdS.idx hvX sl26, RdS.cellB hvX (Ext.pres eB), RdS.cells hvX, RdS.len (OS.rd how2_3_0) sl22, RdS.idx (OS.rd how2_3_0) sl22, R1.intN (OS.rd how2_3_0), RdS.cells (OS.rd how2_3_0), RdS.len (OS.rd ho2_4) sl26, RdS.idx (OS.rd ho2_4) sl26, RdS.cellN (OS.rd ho2_4), RdS.cells (OS.rd ho2_4), RdS.len (OS.rd hFr) sl22, RdS.idx (OS.rd hFr) sl22, R1.intN (OS.rd hFr), RdS.cells (OS.rd hFr), RdS.len (OS.rd how7_6_0) sl22, RdS.idx (OS.rd how7_6_0) sl22, R1.intN (OS.rd how7_6_0), RdS.cells (OS.rd how7_6_0), BoxAt.cell hb0_0, BoxAt.cell hb1_2, wrap_id]
   try simp -implicitDefEqProofs (disch := first | decide | assumption | omega) only [go_sem, RdS.len hdX sl22, RdS.idx hdX sl22, R1.intB hdX (Ext.pres eB), RdS.cells hdX, RdS.len hmX sl23, RdS.idx hmX sl23, RdS.cellB hmX (Ext.pres eB), RdS.cells hmX, RdS.len hvX sl26, RdS.idx hvX sl26, RdS.cellB hvX (Ext.pres eB), RdS.cells hvX, RdS.len (OS.rd how2_3_0) sl22, RdS.idx (OS.rd how2_3_0) sl22, R1.intN (OS.rd how2_3_0), RdS.cells (OS.rd how2_3_0), RdS.len (OS.rd ho2_4) sl26, RdS.idx (OS.rd ho2_4) sl26, RdS.cellN (OS.rd ho2_4), RdS.cells (OS.rd ho2_4), RdS.len (OS.rd hFr) sl22, RdS.idx (OS.rd hFr) sl22, R1.intN (OS.rd hFr), RdS.cells (OS.rd hFr), RdS.len (OS.rd how7_6_0) sl22, RdS.idx (OS.rd how7_6_0) sl22, R1.intN (OS.rd how7_6_0), RdS.cells (OS.rd how7_6_0), BoxAt.cell hb0_0, BoxAt.cell hb1_2, wrap_id]
   refine CallA.mono (contains1_ok _ (keptP X (n - (1 : Int)) (q - r)) (i : Int) _ (OS.rd how7_6_0) ) ?_
   intro v_ h7_8
   rintro ⟨rfl, e7_8⟩
   replace how2_3_0 := OS.ext how2_3_0 e7_8
   replace ho2_4 := OS.ext ho2_4 e7_8
   replace hFr := OS.ext hFr e7_8
   replace how7_6_0 := OS.ext how7_6_0 e7_8
   replace hb0_0 := BoxAt.ext hb0_0 e7_8
   replace hb1_2 := BoxAt.ext hb1_2 e7_8
   have := Ext.size e7_8
   replace eB := Ext.trans eB e7_8
   replace cL2 := Chg.stepE cL2 e7_8
   try simp -implicitDefEqProofs (disch := first | decide | assumption | omega) only [go_sem, RdS.len hdX sl22, RdS.idx hdX sl22, R1.intB hdX (Ext.pres eB), RdS.cells hdX, RdS.len hmX sl23, RdS.idx hmX sl23, RdS.cellB hmX (Ext.pres eB), RdS.cells hmX, RdS.len hvX sl26, RdS.idx hvX sl26, RdS.cellB hvX (Ext.pres eB), RdS.cells hvX, RdS.len (OS.rd how2_3_0) sl22, RdS.idx (OS.rd how2_3_0) sl22, R1.intN (OS.rd how2_3_0), RdS.cells (OS.rd how2_3_0), RdS.len (OS.rd ho2_4) sl26, RdS.idx (OS.rd ho2_4) sl26, RdS.cellN (OS.rd ho2_4), RdS.cells (OS.rd ho2_4), RdS.len (OS.rd hFr) sl22, RdS.idx (OS.rd hFr) sl22, R1.intN (OS.rd hFr), RdS.cells (OS.rd hFr), RdS.len (OS.rd how7_6_0) sl22, RdS.idx (OS.rd how7_6_0) sl22, R1.intN (OS.rd how7_6_0), RdS.cells (OS.rd how7_6_0), BoxAt.cell hb0_0, BoxAt.cell hb1_2, wrap_id]
   refine hK _ _ ?_
   clear hK K
   refine den_cond rfl (fun c1 => ?_) (fun c1 => ?_)
   ·try simp only [decide_eq_true_eq, decide_eq_false_iff_not, beq_iff_eq, beq_eq_false_iff_ne, bne_iff_ne, ne_eq, Bool.not_eq_true', Bool.not_eq_false', Bool.and_eq_true, Bool.or_eq_true, bne_eq_false_iff_eq] at c1
    refine den_region TTok ?_
    intro K hK
    simp -implicitDefEqProofs (disch := first | decide | assumption | omega) only [go_sem, RdS.len hdX sl22, RdS.idx hdX sl22, R1.intB hdX (Ext.pres eB), RdS.cells hdX, RdS.len hmX sl23, RdS.idx hmX sl23, RdS.cellB hmX (Ext.pres eB), RdS.cells hmX, RdS.len hvX sl26, RdS.idx hvX sl26, RdS.cellB hvX (Ext.pres eB), RdS.cells hvX, RdS.len (OS.rd how2_3_0) sl22, RdS.idx (OS.rd how2_3_0) sl22, R1.intN (OS.rd how2_3_0), RdS.cells (OS.rd how2_3_0), RdS.len (OS.rd ho2_4) sl26, RdS.idx (OS.rd ho2_4) sl26, RdS.cellN (OS.rd ho2_4), RdS.cells (OS.rd ho2_4), RdS.len (OS.rd hFr) sl22, RdS.idx (OS.rd hFr) sl22, R1.intN (OS.rd hFr), RdS.cells (OS.rd hFr), BoxAt.cell hb0_0, BoxAt.cell hb1_2, wrap_id]
    refine op_bs1 sz22 rfl rfl ?_
    try simp -implicitDefEqProofs (disch := first | decide | assumption | omega) only [go_sem, RdS.len hdX sl22, RdS.idx hdX sl22, R1.intB hdX (Ext.pres eB), RdS.cells hdX, RdS.len hmX sl23, RdS.idx hmX sl23, RdS.cellB hmX (Ext.pres eB), RdS.cells hmX, RdS.len hvX sl26, RdS.idx hvX sl26, RdS.cellB hvX (Ext.pres eB), RdS.cells hvX, RdS.len (OS.rd how2_3_0) sl22, RdS.idx (OS.rd how2_3_0) sl22, R1.intN (OS.rd how2_3_0), RdS.cells (OS.rd how2_3_0), RdS.len (OS.rd ho2_4) sl26, RdS.idx (OS.rd ho2_4) sl26, RdS.cellN (OS.rd ho2_4), RdS.cells (OS.rd ho2_4), RdS.len (OS.rd hFr) sl22, RdS.idx (OS.rd hFr) sl22, R1.intN (OS.rd hFr), RdS.cells (OS.rd hFr), BoxAt.cell hb0_0, BoxAt.cell hb1_2, wrap_id]
    refine op_append1 sz22 hFr hfhFr.nodup ⟨rfl, rfl⟩ List.nodup_nil (Apart.nil _) (by first | omega | (simp; omega)) rfl rfl ?_
    intro v8_3 h8_3 fp8_3 ho8_3 hn8_3 hs8_3 c8_3
    have hsz8_3 := c8_3.size
    have hfho8_3 : Fresh h2_4.size fp8_3 := Fresh.appd hfhFr (Fresh.nil h7_8.size) (by omega) (by omega) hn8_3 hs8_3
    have sb5 : Sub [h2_4.size] h4_3.size fp8_3 := Sub.grow sbhFr Sub.nil (by omega) hs8_3
    replace how2_3_0 := OS.chg how2_3_0 c8_3 (apart_lt hlhow2_3_0 hfhFr (by omega))
    replace ho2_4 := OS.chg ho2_4 c8_3 (apart_lt hlho2_4 hfhFr (by omega))
    replace hb0_0 := BoxAt.chgA hb0_0 c8_3 (apart_lt hlhb0_0 hfhFr (by omega))
    replace hb1_2 := BoxAt.chgA hb1_2 c8_3 (apart_lt hlhb1_2 hfhFr (by omega))
    have := c8_3.size
    replace eB := Ext.then eB c8_3 (ge_of hfhFr (by omega))
    replace cL2 := Chg.step cL2 c8_3 sbhFr
    have hlho8_3 := OS.lt ho8_3
    try simp -implicitDefEqProofs (disch := first | decide | assumption | omega) only [go_sem, RdS.len hdX sl22, RdS.idx hdX sl22, R1.intB hdX (Ext.pres eB), RdS.cells hdX, RdS.len hmX sl23, RdS.idx hmX sl23, RdS.cellB hmX (Ext.pres eB), RdS.cells hmX, RdS.len hvX sl26, RdS.idx hvX sl26, RdS.cellB hvX (Ext.pres eB), RdS.cells hvX, RdS.len (OS.rd how2_3_0) sl22, RdS.idx (OS.rd how2_3_0) sl22, R1.intN (OS.rd how2_3_0), RdS.cells (OS.rd how2_3_0), RdS.len (OS.rd ho2_4) sl26, RdS.idx (OS.rd ho2_4) sl26, RdS.cellN (OS.rd ho2_4), RdS.cells (OS.rd ho2_4), RdS.len (OS.rd ho8_3) sl22, RdS.idx (OS.rd ho8_3) sl22, R1.intN (OS.rd ho8_3), RdS.cells (OS.rd ho8_3), BoxAt.cell hb0_0, BoxAt.cell hb1_2, wrap_id]
    refine hK _ _ ?_
    clear hK K
    refine den_blk ?_
    refine den_region TTok ?_
    intro K hK
    simp -implicitDefEqProofs (disch := first | decide | assumption | omega) only [go_sem, RdS.len hdX sl22, RdS.idx hdX sl22, R1.intB hdX (Ext.pres eB), RdS.cells hdX, RdS.len hmX sl23, RdS.idx hmX sl23, RdS.cellB hmX (Ext.pres eB), RdS.cells hmX, RdS.len hvX sl26, RdS.idx hvX sl26, RdS.cellB hvX (Ext.pres eB), RdS.cells hvX, RdS.len (OS.rd how2_3_0) sl22, RdS.idx (OS.rd how2_3_0) sl22, R1.intN (OS.rd how2_3_0), RdS.cells (OS.rd how2_3_0), RdS.len (OS.rd ho2_4) sl26, RdS.idx (OS.rd ho2_4) sl26, RdS.cellN (OS.rd ho2_4), RdS.cells (OS.rd ho2_4), RdS.len (OS.rd ho8_3) sl22, RdS.idx (OS.rd ho8_3) sl22, R1.intN (OS.rd ho8_3), RdS.cells (OS.rd ho8_3), BoxAt.cell hb0_0, BoxAt.cell hb1_2, wrap_id]
    refine hK _ _ ?_
    clear hK K
    refine den_stop ?_
    first | rw [farT_yes (fun h => c1 (hfi.2 h))] at ho8_3 | rw [farT_no (hfi.1 c1)] at ho8_3
    exact ⟨(i + 1, v8_3, fp8_3), by simp [HasL, puts_at], ⟨by first | omega | (dsimp only; omega), ho8_3, hfho8_3, sb5, cL2⟩, by first | omega | (dsimp only; omega)⟩
   ·try simp only [decide_eq_true_eq, decide_eq_false_iff_not, beq_iff_eq, beq_eq_false_iff_ne, bne_iff_ne, ne_eq, Bool.not_eq_true', Bool.not_eq_false', Bool.and_eq_true, Bool.or_eq_true, bne_eq_false_iff_eq] at c1
    refine den_skip ?_
    refine den_blk ?_
    refine den_region TTok ?_
    intro K hK
    simp -implicitDefEqProofs (disch := first | decide | assumption | omega) only [go_sem, RdS.len hdX sl22, RdS.idx hdX sl22, R1.intB hdX (Ext.pres eB), RdS.cells hdX, RdS.len hmX sl23, RdS.idx hmX sl23, RdS.cellB hmX (Ext.pres eB), RdS.cells hmX, RdS.len hvX sl26, RdS.idx hvX sl26, RdS.cellB hvX (Ext.pres eB), RdS.cells hvX, RdS.len (OS.rd how2_3_0) sl22, RdS.idx (OS.rd how2_3_0) sl22, R1.intN (OS.rd how2_3_0), RdS.cells (OS.rd how2_3_0), RdS.len (OS.rd ho2_4) sl26, RdS.idx (OS.rd ho2_4) sl26, RdS.cellN (OS.rd ho2_4), RdS.cells (OS.rd ho2_4), RdS.len (OS.rd hFr) sl22, RdS.idx (OS.rd hFr) sl22, R1.intN (OS.rd hFr), RdS.cells (OS.rd hFr), BoxAt.cell hb0_0, BoxAt.cell hb1_2, wrap_id]
    refine hK _ _ ?_
    clear hK K
    refine den_stop ?_
    first | rw [farT_yes (fun h => c1 (hfi.2 h))] at hFr | rw [farT_no (hfi.1 c1)] at hFr
    exact ⟨(i + 1, vhFr, fphFr), by simp [HasL, puts_at], ⟨by first | omega | (dsimp only; omega), hFr, hfhFr, sbhFr, cL2⟩, by first | omega | (dsimp only; omega)⟩
  ·try simp only [decide_eq_true_eq, decide_eq_false_iff_not, beq_iff_eq, beq_eq_false_iff_ne, bne_iff_ne, ne_eq, Bool.not_eq_true', Bool.not_eq_false', Bool.and_eq_true, Bool.or_eq_true, bne_eq_false_iff_eq] at c0
   refine den_exit ?_
   refine denX_code ?_
   refine denX_stop ?_
   refine denX_hit ?_
   refine den_seq ?_
   refine den_seq ?_
   rw [show i = (dimP X.c (n - 1)).toNat by omega] at hFr
   change O1 _ _ (farP X (n - 1) (q - r)) _ at hFr
   have hfl := farP_len hC (n - 1) (q - r)
   refine den_region TTok ?_
   intro K hK
   simp -implicitDefEqProofs (disch := first | decide | assumption | omega) only [go_sem, RdS.len hdX sl22, RdS.idx hdX sl22, R1.intB hdX (Ext.pres eB), RdS.cells hdX, RdS.len hmX sl23, RdS.idx hmX sl23, RdS.cellB hmX (Ext.pres eB), RdS.cells hmX, RdS.len hvX sl26, RdS.idx hvX sl26, RdS.cellB hvX (Ext.pres eB), RdS.cells hvX, RdS.len (OS.rd how2_3_0) sl22, RdS.idx (OS.rd how2_3_0) sl22, R1.intN (OS.rd how2_3_0), RdS.cells (OS.rd how2_3_0), RdS.len (OS.rd ho2_4) sl26, RdS.idx (OS.rd ho2_4) sl26, RdS.cellN (OS.rd ho2_4), RdS.cells (OS.rd ho2_4), RdS.len (OS.rd hFr) sl22, RdS.idx (OS.rd hFr) sl22, R1.intN (OS.rd hFr), RdS.cells (OS.rd hFr), BoxAt.cell hb1_2, wrap_id]
   refine hK _ _ ?_
   clear hK K
   refine den_block ?_
   refine den_sel [11, 57, 2, 9, 10, 12, 55, 56] ?_
   intro env_6
   simp only [go_sem]
   refine den_loopS (σ := Nat × Value × List Nat) (fun st_ => [(11, st_.2.1), (57, .int .i64 (st_.1 : Int))]) (fun st_ H => (st_.1 ≤ (keptP X n q).length) ∧ (O2 H st_.2.1 (rowsN X n q (q - r) st_.1) st_.2.2) ∧ (Fresh (h2_3.size) st_.2.2) ∧ (Sub [h2_3.size] h4.size st_.2.2) ∧ (Chg [h2_3.size] h4 H)) (fun st_ => (keptP X n q).length - st_.1) (0, v2_4, [h2_3.size]) ?_ ?_
   ·exact ⟨by first | (simp; done) | (dsimp only; omega) | (simp; omega), by show O2 _ _ [] _; exact ho2_4, hfho2_4, Sub.refl, Chg.refl _ _⟩
   ·rintro ⟨s, vhR, fphR⟩ h9 ee8 ⟨hi0, hR, hfhR, sbhR, cL7⟩
    dsimp only at hi0 hR hfhR sbhR cL7
    replace how2_3_0 := OS.chg how2_3_0 cL7 (apart_lt hlhow2_3_0 hfho2_4 (by omega))
    replace hFr := OS.chg hFr cL7 (apart_gt hfhFr hlho2_4 (by omega))
    replace hb1_2 := BoxAt.chgA hb1_2 cL7 (apart_lt hlhb1_2 hfho2_4 (by omega))
    have := cL7.size
    replace eB := Ext.then eB cL7 (ge_of hfho2_4 (by omega))
    have ap10 : Apart fphFr fphR := Apart.sub_ hlhFr (by omega) (apart_gt hfhFr hlho2_4 (by omega)) sbhR
    have hlhR := OS.lt hR
    simp only [List.cons_append, List.nil_append]
    refine den_seq ?_
    refine den_region TTok ?_
    intro K hK
    simp -implicitDefEqProofs (disch := first | decide | assumption | omega) only [go_sem, RdS.len hdX sl22, RdS.idx hdX sl22, R1.intB hdX (Ext.pres eB), RdS.cells hdX, RdS.len hmX sl23, RdS.idx hmX sl23, RdS.cellB hmX (Ext.pres eB), RdS.cells hmX, RdS.len hvX sl26, RdS.idx hvX sl26, RdS.cellB hvX (Ext.pres eB), RdS.cells hvX, RdS.len (OS.rd how2_3_0) sl22, RdS.idx (OS.rd how2_3_0) sl22, R1.intN (OS.rd how2_3_0), RdS.cells (OS.rd how2_3_0), RdS.len (OS.rd hFr) sl22, RdS.idx (OS.rd hFr) sl22, R1.intN (OS.rd hFr), RdS.cells (OS.rd hFr), RdS.len (OS.rd hR) sl26, RdS.idx (OS.rd hR) sl26, RdS.cellN (OS.rd hR), RdS.cells (OS.rd hR), BoxAt.cell hb1_2, wrap_id]
    refine hK _ _ ?_
    clear hK K
    refine den_seq ?_
    refine den_cond rfl (fun c2 => ?_) (fun c2 => ?_)
    ·try simp only [decide_eq_true_eq, decide_eq_false_iff_not, beq_iff_eq, beq_eq_false_iff_ne, bne_iff_ne, ne_eq, Bool.not_eq_true', Bool.not_eq_false', Bool.and_eq_true, Bool.or_eq_true, bne_eq_false_iff_eq] at c2
     refine den_skip ?_
     refine den_seq ?_
     refine den_block ?_
     refine den_seq ?_
     refine den_region TTok ?_
     intro K hK
     simp -implicitDefEqProofs (disch := first | decide | assumption | omega) only [go_sem, ld2, RdS.len hdX sl22, RdS.idx hdX sl22, R1.intB hdX (Ext.pres eB), RdS.cells hdX, RdS.len hmX sl23, RdS.idx hmX sl23, RdS.cellB hmX (Ext.pres eB), RdS.cells hmX, RdS.len hvX sl26, RdS.idx hvX sl26, RdS.cellB hvX (Ext.pres eB), RdS.cells hvX, RdS.len (OS.rd how2_3_0) sl22, RdS.idx (OS.rd how2_3_0) sl22, R1.intN (OS.rd how2_3_0), RdS.cells (OS.rd how2_3_0), RdS.len (OS.rd hFr) sl22, RdS.idx (OS.rd hFr) sl22, R1.intN (OS.rd hFr), RdS.cells (OS.rd hFr), RdS.len (OS.rd hR) sl26, RdS.idx (OS.rd hR) sl26, RdS.cellN (OS.rd hR), RdS.cells (OS.rd hR), BoxAt.cell hb1_2, wrap_id]
     refine hK _ _ ?_
     clear hK K
     refine den_seq ?_
     refine den_region TTok ?_
     intro K hK
     simp -implicitDefEqProofs (disch := first | decide | assumption | omega) only [go_sem, RdS.len hdX sl22, RdS.idx hdX sl22, R1.intB hdX (Ext.pres eB), RdS.cells hdX, RdS.len hmX sl23, RdS.idx hmX sl23, RdS.cellB hmX (Ext.pres eB), RdS.cells hmX, RdS.len hvX sl26, RdS.idx hvX sl26, RdS.cellB hvX (Ext.pres eB), RdS.cells hvX, RdS.len (OS.rd how2_3_0) sl22, RdS.idx (OS.rd how2_3_0) sl22, R1.intN (OS.rd how2_3_0), RdS.cells (OS.rd how2_3_0), RdS.len (OS.rd hFr) sl22, RdS.idx (OS.rd hFr) sl22, R1.intN (OS.rd hFr), RdS.cells (OS.rd hFr), RdS.len (OS.rd hR) sl26, RdS.idx (OS.rd hR) sl26, RdS.cellN (OS.rd hR), RdS.cells (OS.rd hR), BoxAt.cell hb1_2, wrap_id]
     refine op_bs0 sz22 OI ?_
     intro v13_0 h13_0 ho13_0 e13_0
     replace how2_3_0 := OS.ext how2_3_0 e13_0
     replace hFr := OS.ext hFr e13_0
     replace hR := OS.ext hR e13_0
     replace hb1_2 := BoxAt.ext hb1_2 e13_0
     have := Ext.size e13_0
     replace eB := Ext.trans eB e13_0
     replace cL7 := Chg.stepE cL7 e13_0
     have hfho13_0 : Fresh h9.size [h9.size] := Fresh.one _
     have hlho13_0 := OS.lt ho13_0
     try simp -implicitDefEqProofs (disch := first | decide | assumption | omega) only [go_sem, RdS.len hdX sl22, RdS.idx hdX sl22, R1.intB hdX (Ext.pres eB), RdS.cells hdX, RdS.len hmX sl23, RdS.idx hmX sl23, RdS.cellB hmX (Ext.pres eB), RdS.cells hmX, RdS.len hvX sl26, RdS.idx hvX sl26, RdS.cellB hvX (Ext.pres eB), RdS.cells hvX, RdS.len (OS.rd how2_3_0) sl22, RdS.idx (OS.rd how2_3_0) sl22, R1.intN (OS.rd how2_3_0), RdS.cells (OS.rd how2_3_0), RdS.len (OS.rd hFr) sl22, RdS.idx (OS.rd hFr) sl22, R1.intN (OS.rd hFr), RdS.cells (OS.rd hFr), RdS.len (OS.rd hR) sl26, RdS.idx (OS.rd hR) sl26, RdS.cellN (OS.rd hR), RdS.cells (OS.rd hR), RdS.len (OS.rd ho13_0) sl22, RdS.idx (OS.rd ho13_0) sl22, R1.intN (OS.rd ho13_0), RdS.cells (OS.rd ho13_0), BoxAt.cell hb1_2, wrap_id]
     refine hK _ _ ?_
     clear hK K
     refine den_seq ?_
     refine den_seq ?_
     refine den_region TTok ?_
     intro K hK
     simp -implicitDefEqProofs (disch := first | decide | assumption | omega) only [go_sem, RdS.len hdX sl22, RdS.idx hdX sl22, R1.intB hdX (Ext.pres eB), RdS.cells hdX, RdS.len hmX sl23, RdS.idx hmX sl23, RdS.cellB hmX (Ext.pres eB), RdS.cells hmX, RdS.len hvX sl26, RdS.idx hvX sl26, RdS.cellB hvX (Ext.pres eB), RdS.cells hvX, RdS.len (OS.rd how2_3_0) sl22, RdS.idx (OS.rd how2_3_0) sl22, R1.intN (OS.rd how2_3_0), RdS.cells (OS.rd how2_3_0), RdS.len (OS.rd hFr) sl22, RdS.idx (OS.rd hFr) sl22, R1.intN (OS.rd hFr), RdS.cells (OS.rd hFr), RdS.len (OS.rd hR) sl26, RdS.idx (OS.rd hR) sl26, RdS.cellN (OS.rd hR), RdS.cells (OS.rd hR), RdS.len (OS.rd ho13_0) sl22, RdS.idx (OS.rd ho13_0) sl22, R1.intN (OS.rd ho13_0), RdS.cells (OS.rd ho13_0), BoxAt.cell hb1_2, wrap_id]
     refine hK _ _ ?_
     clear hK K
     refine den_block ?_
     refine den_sel [16, 64, 2, 9, 10, 11, 12, 15, 55, 56, 57, 62, 63] ?_
     intro env_11
     simp only [go_sem]
     refine den_loopS (σ := Nat × Value × List Nat) (fun st_ => [(16, st_.2.1), (64, .int .i64 (st_.1 : Int))]) (fun st_ H => (st_.1 ≤ (farP X (n - 1) (q - r)).length) ∧ (O1 H st_.2.1 (((farP X (n - 1) (q - r)).take st_.1).map fun z : Int => entP X n ((keptP X n q).getD s 0) z.toNat) st_.2.2) ∧ (Fresh (h9.size) st_.2.2) ∧ (Sub [h9.size] h13_0.size st_.2.2) ∧ (Chg [h9.size] h13_0 H)) (fun st_ => (farP X (n - 1) (q - r)).length - st_.1) (0, v13_0, [h9.size]) ?_ ?_
     ·exact ⟨by first | (simp; done) | (dsimp only; omega) | (simp; omega), by simpa using ho13_0, hfho13_0, Sub.refl, Chg.refl _ _⟩
     ·rintro ⟨k, vhW, fphW⟩ h14 ee13 ⟨hi0, hW, hfhW, sbhW, cL12⟩
      dsimp only at hi0 hW hfhW sbhW cL12
      replace how2_3_0 := OS.chg how2_3_0 cL12 (apart_lt hlhow2_3_0 hfho13_0 (by omega))
      replace hFr := OS.chg hFr cL12 (apart_lt hlhFr hfho13_0 (by omega))
      replace hR := OS.chg hR cL12 (apart_lt hlhR hfho13_0 (by omega))
      replace hb1_2 := BoxAt.chgA hb1_2 cL12 (apart_lt hlhb1_2 hfho13_0 (by omega))
      have := cL12.size
      replace eB := Ext.then eB cL12 (ge_of hfho13_0 (by omega))
      replace cL7 := Chg.step cL7 cL12 (Sub.fresh hfho13_0 (by omega))
      have hlhW := OS.lt hW
      simp only [List.cons_append, List.nil_append]
      refine den_seq ?_
      refine den_region TTok ?_
      intro K hK
      simp -implicitDefEqProofs (disch := first | decide | assumption | omega) only [go_sem, RdS.len hdX sl22, RdS.idx hdX sl22, R1.intB hdX (Ext.pres eB), RdS.cells hdX, RdS.len hmX sl23, RdS.idx hmX sl23, RdS.cellB hmX (Ext.pres eB), RdS.cells hmX, RdS.len hvX sl26, RdS.idx hvX sl26, RdS.cellB hvX (Ext.pres eB), RdS.cells hvX, RdS.len (OS.rd how2_3_0) sl22, RdS.idx (OS.rd how2_3_0) sl22, R1.intN (OS.rd how2_3_0), RdS.cells (OS.rd how2_3_0), RdS.len (OS.rd hFr) sl22, RdS.idx (OS.rd hFr) sl22, R1.intN (OS.rd hFr), RdS.cells (OS.rd hFr), RdS.len (OS.rd hR) sl26, RdS.idx (OS.rd hR) sl26, RdS.cellN (OS.rd hR), RdS.cells (OS.rd hR), RdS.len (OS.rd hW) sl22, RdS.idx (OS.rd hW) sl22, R1.intN (OS.rd hW), RdS.cells (OS.rd hW), BoxAt.cell hb1_2, wrap_id]
      refine hK _ _ ?_
      clear hK K
      refine den_seq ?_
      refine den_cond rfl (fun c3 => ?_) (fun c3 => ?_)
      ·try simp only [decide_eq_true_eq, decide_eq_false_iff_not, beq_iff_eq, beq_eq_false_iff_ne, bne_iff_ne, ne_eq, Bool.not_eq_true', Bool.not_eq_false', Bool.and_eq_true, Bool.or_eq_true, bne_eq_false_iff_eq] at c3
       refine den_skip ?_
       refine den_seq ?_
       refine den_block ?_
       refine den_seq ?_
       refine den_region TTok ?_
       intro K hK
       simp -implicitDefEqProofs (disch := first | decide | assumption | omega) only [go_sem, ld2, RdS.len hdX sl22, RdS.idx hdX sl22, R1.intB hdX (Ext.pres eB), RdS.cells hdX, RdS.len hmX sl23, RdS.idx hmX sl23, RdS.cellB hmX (Ext.pres eB), RdS.cells hmX, RdS.len hvX sl26, RdS.idx hvX sl26, RdS.cellB hvX (Ext.pres eB), RdS.cells hvX, RdS.len (OS.rd how2_3_0) sl22, RdS.idx (OS.rd how2_3_0) sl22, R1.intN (OS.rd how2_3_0), RdS.cells (OS.rd how2_3_0), RdS.len (OS.rd hFr) sl22, RdS.idx (OS.rd hFr) sl22, R1.intN (OS.rd hFr), RdS.cells (OS.rd hFr), RdS.len (OS.rd hR) sl26, RdS.idx (OS.rd hR) sl26, RdS.cellN (OS.rd hR), RdS.cells (OS.rd hR), RdS.len (OS.rd hW) sl22, RdS.idx (OS.rd hW) sl22, R1.intN (OS.rd hW), RdS.cells (OS.rd hW), BoxAt.cell hb1_2, wrap_id]
       refine hK _ _ ?_
       clear hK K
       obtain ⟨hn1, hn2, hmp, hx1, hy1⟩ := near_at hC (n := n) (q := q) (t := q - r) (s := s) (k := k) (by omega) (by omega)
       have hx0 := keptP_at (X := X) (n := n) (q := q) (k := s) (by omega)
       have hy0 := farP_at (X := X) (m := n - 1) (t := q - r) (k := k) (by omega)
       have hmtl : (((farP X (n - 1) (q - r)).take k).map fun z : Int => entP X n ((keptP X n q).getD s 0) z.toNat).length ≤ 8 := by rw [List.length_map, List.length_take]; omega
       refine den_region TTok ?_
       intro K hK
       have hr15 := RdS.rowN hmX ((n - (1 : Int))).toNat (by omega)
       have hlhr15 := RdS.le hr15
       have hr16 := RdS.rowN hr15 (((keptP X n q).getD s 0)).toNat (by omega)
       have hlhr16 := RdS.le hr16
       simp -implicitDefEqProofs (disch := first | decide | assumption | omega) only [go_sem, fa31_2, ld23, ld26, ld22, ld2, RdS.len hdX sl22, RdS.idx hdX sl22, R1.intB hdX (Ext.pres eB), RdS.cells hdX, RdS.len hmX sl23, RdS.idx hmX sl23, RdS.cellB hmX (Ext.pres eB), RdS.cells hmX, RdS.len hvX sl26, RdS.idx hvX sl26, RdS.cellB hvX (Ext.pres eB), RdS.cells hvX, RdS.len hr15 sl26, RdS.idx hr15 sl26, RdS.cellB hr15 (Ext.pres eB), RdS.cells hr15, RdS.len hr16 sl22, RdS.idx hr16 sl22, R1.intB hr16 (Ext.pres eB), RdS.cells hr16, RdS.len (OS.rd how2_3_0) sl22, RdS.idx (OS.rd how2_3_0) sl22, R1.intN (OS.rd how2_3_0), RdS.cells (OS.rd how2_3_0), RdS.len (OS.rd hFr) sl22, RdS.idx (OS.rd hFr) sl22, R1.intN (OS.rd hFr), RdS.cells (OS.rd hFr), RdS.len (OS.rd hR) sl26, RdS.idx (OS.rd hR) sl26, RdS.cellN (OS.rd hR), RdS.cells (OS.rd hR), RdS.len (OS.rd hW) sl22, RdS.idx (OS.rd hW) sl22, R1.intN (OS.rd hW), RdS.cells (OS.rd hW), BoxAt.cell hb1_2, wrap_id]
       refine op_bs1 sz22 rfl rfl ?_
       try simp -implicitDefEqProofs (disch := first | decide | assumption | omega) only [go_sem, RdS.len hdX sl22, RdS.idx hdX sl22, R1.intB hdX (Ext.pres eB), RdS.cells hdX, RdS.len hmX sl23, RdS.idx hmX sl23, RdS.cellB hmX (Ext.pres eB), RdS.cells hmX, RdS.len hvX sl26, RdS.idx hvX sl26, RdS.cellB hvX (Ext.pres eB), RdS.cells hvX, RdS.len hr15 sl26, RdS.idx hr15 sl26, RdS.cellB hr15 (Ext.pres eB), RdS.cells hr15, RdS.len hr16 sl22, RdS.idx hr16 sl22, R1.intB hr16 (Ext.pres eB), RdS.cells hr16, RdS.len (OS.rd how2_3_0) sl22, RdS.idx (OS.rd how2_3_0) sl22, R1.intN (OS.rd how2_3_0), RdS.cells (OS.rd how2_3_0), RdS.len (OS.rd hFr) sl22, RdS.idx (OS.rd hFr) sl22, R1.intN (OS.rd hFr), RdS.cells (OS.rd hFr), RdS.len (OS.rd hR) sl26, RdS.idx (OS.rd hR) sl26, RdS.cellN (OS.rd hR), RdS.cells (OS.rd hR), RdS.len (OS.rd hW) sl22, RdS.idx (OS.rd hW) sl22, R1.intN (OS.rd hW), RdS.cells (OS.rd hW), BoxAt.cell hb1_2, wrap_id]
       refine op_append1 sz22 hW hfhW.nodup ⟨rfl, rfl⟩ List.nodup_nil (Apart.nil _) (by first | omega | (simp; omega)) rfl rfl ?_
       intro v17_14 h17_14 fp17_14 ho17_14 hn17_14 hs17_14 c17_14
       have hsz17_14 := c17_14.size
       have hfho17_14 : Fresh h9.size fp17_14 := Fresh.appd hfhW (Fresh.nil h14.size) (by omega) (by omega) hn17_14 hs17_14
       have sb17 : Sub [h9.size] h13_0.size fp17_14 := Sub.grow sbhW Sub.nil (by omega) hs17_14
       replace how2_3_0 := OS.chg how2_3_0 c17_14 (apart_lt hlhow2_3_0 hfhW (by omega))
       replace hFr := OS.chg hFr c17_14 (apart_lt hlhFr hfhW (by omega))
       replace hR := OS.chg hR c17_14 (apart_lt hlhR hfhW (by omega))
       replace hb1_2 := BoxAt.chgA hb1_2 c17_14 (apart_lt hlhb1_2 hfhW (by omega))
       have := c17_14.size
       replace eB := Ext.then eB c17_14 (ge_of hfhW (by omega))
       replace cL7 := Chg.step cL7 c17_14 (Sub.fresh hfhW (by omega))
       replace cL12 := Chg.step cL12 c17_14 sbhW
       have hlho17_14 := OS.lt ho17_14
       try simp -implicitDefEqProofs (disch := first | decide | assumption | omega) only [go_sem, RdS.len hdX sl22, RdS.idx hdX sl22, R1.intB hdX (Ext.pres eB), RdS.cells hdX, RdS.len hmX sl23, RdS.idx hmX sl23, RdS.cellB hmX (Ext.pres eB), RdS.cells hmX, RdS.len hvX sl26, RdS.idx hvX sl26, RdS.cellB hvX (Ext.pres eB), RdS.cells hvX, RdS.len hr15 sl26, RdS.idx hr15 sl26, RdS.cellB hr15 (Ext.pres eB), RdS.cells hr15, RdS.len hr16 sl22, RdS.idx hr16 sl22, R1.intB hr16 (Ext.pres eB), RdS.cells hr16, RdS.len (OS.rd how2_3_0) sl22, RdS.idx (OS.rd how2_3_0) sl22, R1.intN (OS.rd how2_3_0), RdS.cells (OS.rd how2_3_0), RdS.len (OS.rd hFr) sl22, RdS.idx (OS.rd hFr) sl22, R1.intN (OS.rd hFr), RdS.cells (OS.rd hFr), RdS.len (OS.rd hR) sl26, RdS.idx (OS.rd hR) sl26, RdS.cellN (OS.rd hR), RdS.cells (OS.rd hR), RdS.len (OS.rd ho17_14) sl22, RdS.idx (OS.rd ho17_14) sl22, R1.intN (OS.rd ho17_14), RdS.cells (OS.rd ho17_14), BoxAt.cell hb1_2, wrap_id]
       refine hK _ _ ?_
       clear hK K
       refine den_blk ?_
       refine den_region TTok ?_
       intro K hK
       simp -implicitDefEqProofs (disch := first | decide | assumption | omega) only [go_sem, RdS.len hdX sl22, RdS.idx hdX sl22, R1.intB hdX (Ext.pres eB), RdS.cells hdX, RdS.len hmX sl23, RdS.idx hmX sl23, RdS.cellB hmX (Ext.pres eB), RdS.cells hmX, RdS.len hvX sl26, RdS.idx hvX sl26, RdS.cellB hvX (Ext.pres eB), RdS.cells hvX, RdS.len hr15 sl26, RdS.idx hr15 sl26, RdS.cellB hr15 (Ext.pres eB), RdS.cells hr15, RdS.len hr16 sl22, RdS.idx hr16 sl22, R1.intB hr16 (Ext.pres eB), RdS.cells hr16, RdS.len (OS.rd how2_3_0) sl22, RdS.idx (OS.rd how2_3_0) sl22, R1.intN (OS.rd how2_3_0), RdS.cells (OS.rd how2_3_0), RdS.len (OS.rd hFr) sl22, RdS.idx (OS.rd hFr) sl22, R1.intN (OS.rd hFr), RdS.cells (OS.rd hFr), RdS.len (OS.rd hR) sl26, RdS.idx (OS.rd hR) sl26, RdS.cellN (OS.rd hR), RdS.cells (OS.rd hR), RdS.len (OS.rd ho17_14) sl22, RdS.idx (OS.rd ho17_14) sl22, R1.intN (OS.rd ho17_14), RdS.cells (OS.rd ho17_14), BoxAt.cell hb1_2, wrap_id]
       refine hK _ _ ?_
       clear hK K
       refine den_stop ?_
       rw [show ((X.c.maps.getD (n - 1).toNat default).getD ((keptP X n q).getD s 0).toNat default).getD ((farP X (n - 1) (q - r)).getD k 0).toNat 0 = entP X n ((keptP X n q).getD s 0) ((farP X (n - 1) (q - r)).getD k 0).toNat by rw [entP, hmp], map_takeL (f := fun z : Int => entP X n ((keptP X n q).getD s 0) z.toNat) (d := 0) (by omega)] at ho17_14
       exact ⟨(k + 1, v17_14, fp17_14), by simp [HasL, puts_at], ⟨by first | omega | (dsimp only; omega), ho17_14, hfho17_14, sb17, cL12⟩, by first | omega | (dsimp only; omega)⟩
      ·try simp only [decide_eq_true_eq, decide_eq_false_iff_not, beq_iff_eq, beq_eq_false_iff_ne, bne_iff_ne, ne_eq, Bool.not_eq_true', Bool.not_eq_false', Bool.and_eq_true, Bool.or_eq_true, bne_eq_false_iff_eq] at c3
       refine den_exit ?_
       refine denX_code ?_
       refine denX_stop ?_
       refine denX_hit ?_
       have hrn := rowsN_len X n q (q - r) s
       refine den_region TTok ?_
       intro K hK
       simp -implicitDefEqProofs (disch := first | decide | assumption | omega) only [go_sem, RdS.len hdX sl22, RdS.idx hdX sl22, R1.intB hdX (Ext.pres eB), RdS.cells hdX, RdS.len hmX sl23, RdS.idx hmX sl23, RdS.cellB hmX (Ext.pres eB), RdS.cells hmX, RdS.len hvX sl26, RdS.idx hvX sl26, RdS.cellB hvX (Ext.pres eB), RdS.cells hvX, RdS.len (OS.rd how2_3_0) sl22, RdS.idx (OS.rd how2_3_0) sl22, R1.intN (OS.rd how2_3_0), RdS.cells (OS.rd how2_3_0), RdS.len (OS.rd hFr) sl22, RdS.idx (OS.rd hFr) sl22, R1.intN (OS.rd hFr), RdS.cells (OS.rd hFr), RdS.len (OS.rd hR) sl26, RdS.idx (OS.rd hR) sl26, RdS.cellN (OS.rd hR), RdS.cells (OS.rd hR), RdS.len (OS.rd hW) sl22, RdS.idx (OS.rd hW) sl22, R1.intN (OS.rd hW), RdS.cells (OS.rd hW), BoxAt.cell hb1_2, wrap_id]
       refine op_bs1 sz26 rfl (OS.one hW).2 ?_
       try simp -implicitDefEqProofs (disch := first | decide | assumption | omega) only [go_sem, RdS.len hdX sl22, RdS.idx hdX sl22, R1.intB hdX (Ext.pres eB), RdS.cells hdX, RdS.len hmX sl23, RdS.idx hmX sl23, RdS.cellB hmX (Ext.pres eB), RdS.cells hmX, RdS.len hvX sl26, RdS.idx hvX sl26, RdS.cellB hvX (Ext.pres eB), RdS.cells hvX, RdS.len (OS.rd how2_3_0) sl22, RdS.idx (OS.rd how2_3_0) sl22, R1.intN (OS.rd how2_3_0), RdS.cells (OS.rd how2_3_0), RdS.len (OS.rd hFr) sl22, RdS.idx (OS.rd hFr) sl22, R1.intN (OS.rd hFr), RdS.cells (OS.rd hFr), RdS.len (OS.rd hR) sl26, RdS.idx (OS.rd hR) sl26, RdS.cellN (OS.rd hR), RdS.cells (OS.rd hR), RdS.len (OS.rd hW) sl22, RdS.idx (OS.rd hW) sl22, R1.intN (OS.rd hW), RdS.cells (OS.rd hW), BoxAt.cell hb1_2, wrap_id]
       refine op_append1 sz26 hR hfhR.nodup hW hfhW.nodup (apart_lt hlhR hfhW (by omega)) (by first | omega | (simp; omega)) rfl rfl ?_
       intro v19_3 h19_3 fp19_3 ho19_3 hn19_3 hs19_3 c19_3
       have hsz19_3 := c19_3.size
       have hfho19_3 : Fresh h2_3.size fp19_3 := Fresh.appd hfhR hfhW (by omega) (by omega) hn19_3 hs19_3
       have sb18 : Sub [h2_3.size] h4.size fp19_3 := Sub.grow sbhR (Sub.fresh hfhW (by omega)) (by omega) hs19_3
       replace how2_3_0 := OS.chg how2_3_0 c19_3 (apart_lt hlhow2_3_0 hfhR (by omega))
       replace hFr := OS.chg hFr c19_3 ap10
       replace hb1_2 := BoxAt.chgA hb1_2 c19_3 (apart_lt hlhb1_2 hfhR (by omega))
       have := c19_3.size
       replace eB := Ext.then eB c19_3 (ge_of hfhR (by omega))
       replace cL7 := Chg.step cL7 c19_3 sbhR
       have ap19 : Apart fphFr fp19_3 := Apart.grow hlhFr (by omega) ap10 (apart_lt hlhFr hfhW (by omega)) hs19_3
       have hlho19_3 := OS.lt ho19_3
       try simp -implicitDefEqProofs (disch := first | decide | assumption | omega) only [go_sem, RdS.len hdX sl22, RdS.idx hdX sl22, R1.intB hdX (Ext.pres eB), RdS.cells hdX, RdS.len hmX sl23, RdS.idx hmX sl23, RdS.cellB hmX (Ext.pres eB), RdS.cells hmX, RdS.len hvX sl26, RdS.idx hvX sl26, RdS.cellB hvX (Ext.pres eB), RdS.cells hvX, RdS.len (OS.rd how2_3_0) sl22, RdS.idx (OS.rd how2_3_0) sl22, R1.intN (OS.rd how2_3_0), RdS.cells (OS.rd how2_3_0), RdS.len (OS.rd hFr) sl22, RdS.idx (OS.rd hFr) sl22, R1.intN (OS.rd hFr), RdS.cells (OS.rd hFr), RdS.len (OS.rd ho19_3) sl26, RdS.idx (OS.rd ho19_3) sl26, RdS.cellN (OS.rd ho19_3), RdS.cells (OS.rd ho19_3), BoxAt.cell hb1_2, wrap_id]
       refine hK _ _ ?_
       clear hK K
       refine den_blk ?_
       refine den_region TTok ?_
       intro K hK
       simp -implicitDefEqProofs (disch := first | decide | assumption | omega) only [go_sem, RdS.len hdX sl22, RdS.idx hdX sl22, R1.intB hdX (Ext.pres eB), RdS.cells hdX, RdS.len hmX sl23, RdS.idx hmX sl23, RdS.cellB hmX (Ext.pres eB), RdS.cells hmX, RdS.len hvX sl26, RdS.idx hvX sl26, RdS.cellB hvX (Ext.pres eB), RdS.cells hvX, RdS.len (OS.rd how2_3_0) sl22, RdS.idx (OS.rd how2_3_0) sl22, R1.intN (OS.rd how2_3_0), RdS.cells (OS.rd how2_3_0), RdS.len (OS.rd hFr) sl22, RdS.idx (OS.rd hFr) sl22, R1.intN (OS.rd hFr), RdS.cells (OS.rd hFr), RdS.len (OS.rd ho19_3) sl26, RdS.idx (OS.rd ho19_3) sl26, RdS.cellN (OS.rd ho19_3), RdS.cells (OS.rd ho19_3), BoxAt.cell hb1_2, wrap_id]
       refine hK _ _ ?_
       clear hK K
       refine den_stop ?_
       rw [map_takeE (by omega), farP_row, rowsN_step] at ho19_3
       exact ⟨(s + 1, v19_3, fp19_3), by simp [HasL, puts_at], ⟨by first | omega | (dsimp only; omega), ho19_3, hfho19_3, sb18, cL7⟩, by first | omega | (dsimp only; omega)⟩
    ·try simp only [decide_eq_true_eq, decide_eq_false_iff_not, beq_iff_eq, beq_eq_false_iff_ne, bne_iff_ne, ne_eq, Bool.not_eq_true', Bool.not_eq_false', Bool.and_eq_true, Bool.or_eq_true, bne_eq_false_iff_eq] at c2
     refine den_exit ?_
     refine denX_code ?_
     refine denX_stop ?_
     refine denX_hit ?_
     refine den_seq ?_
     refine den_region TTok ?_
     intro K hK
     simp -implicitDefEqProofs (disch := first | decide | assumption | omega) only [go_sem, RdS.len hdX sl22, RdS.idx hdX sl22, R1.intB hdX (Ext.pres eB), RdS.cells hdX, RdS.len hmX sl23, RdS.idx hmX sl23, RdS.cellB hmX (Ext.pres eB), RdS.cells hmX, RdS.len hvX sl26, RdS.idx hvX sl26, RdS.cellB hvX (Ext.pres eB), RdS.cells hvX, RdS.len (OS.rd how2_3_0) sl22, RdS.idx (OS.rd how2_3_0) sl22, R1.intN (OS.rd how2_3_0), RdS.cells (OS.rd how2_3_0), RdS.len (OS.rd hR) sl26, RdS.idx (OS.rd hR) sl26, RdS.cellN (OS.rd hR), RdS.cells (OS.rd hR), BoxAt.cell hb1_2, wrap_id]
     refine op_bs0 sz26 O1 ?_
     intro v21_0 h21_0 ho21_0 e21_0
     replace how2_3_0 := OS.ext how2_3_0 e21_0
     replace hR := OS.ext hR e21_0
     replace hb1_2 := BoxAt.ext hb1_2 e21_0
     have := Ext.size e21_0
     replace eB := Ext.trans eB e21_0
     have hfho21_0 : Fresh h9.size [h9.size] := Fresh.one _
     have hlho21_0 := OS.lt ho21_0
     try simp -implicitDefEqProofs (disch := first | decide | assumption | omega) only [go_sem, RdS.len hdX sl22, RdS.idx hdX sl22, R1.intB hdX (Ext.pres eB), RdS.cells hdX, RdS.len hmX sl23, RdS.idx hmX sl23, RdS.cellB hmX (Ext.pres eB), RdS.cells hmX, RdS.len hvX sl26, RdS.idx hvX sl26, RdS.cellB hvX (Ext.pres eB), RdS.cells hvX, RdS.len (OS.rd how2_3_0) sl22, RdS.idx (OS.rd how2_3_0) sl22, R1.intN (OS.rd how2_3_0), RdS.cells (OS.rd how2_3_0), RdS.len (OS.rd hR) sl26, RdS.idx (OS.rd hR) sl26, RdS.cellN (OS.rd hR), RdS.cells (OS.rd hR), RdS.len (OS.rd ho21_0) sl26, RdS.idx (OS.rd ho21_0) sl26, RdS.cellN (OS.rd ho21_0), RdS.cells (OS.rd ho21_0), BoxAt.cell hb1_2, wrap_id]
     refine hK _ _ ?_
     clear hK K
     refine den_seq ?_
     refine den_seq ?_
     rw [show s = (keptP X n q).length by omega] at hR
     change O2 _ _ (rowsP X n q (q - r)) _ at hR
     have hkerT := rows_tbl hC n q (q - r)
     have hrl := rowsP_len X n q (q - r)
     have hkq := kerQ_le hC.p hkerT
     refine den_region TTok ?_
     intro K hK
     simp -implicitDefEqProofs (disch := first | decide | assumption | omega) only [go_sem, fa31_0, ld2, RdS.len hdX sl22, RdS.idx hdX sl22, R1.intB hdX (Ext.pres eB), RdS.cells hdX, RdS.len hmX sl23, RdS.idx hmX sl23, RdS.cellB hmX (Ext.pres eB), RdS.cells hmX, RdS.len hvX sl26, RdS.idx hvX sl26, RdS.cellB hvX (Ext.pres eB), RdS.cells hvX, RdS.len (OS.rd how2_3_0) sl22, RdS.idx (OS.rd how2_3_0) sl22, R1.intN (OS.rd how2_3_0), RdS.cells (OS.rd how2_3_0), RdS.len (OS.rd hR) sl26, RdS.idx (OS.rd hR) sl26, RdS.cellN (OS.rd hR), RdS.cells (OS.rd hR), RdS.len (OS.rd ho21_0) sl26, RdS.idx (OS.rd ho21_0) sl26, RdS.cellN (OS.rd ho21_0), RdS.cells (OS.rd ho21_0), BoxAt.cell hb1_2, wrap_id]
     try simp -implicitDefEqProofs (disch := first | decide | assumption | omega) only [go_sem, RdS.len hdX sl22, RdS.idx hdX sl22, R1.intB hdX (Ext.pres eB), RdS.cells hdX, RdS.len hmX sl23, RdS.idx hmX sl23, RdS.cellB hmX (Ext.pres eB), RdS.cells hmX, RdS.len hvX sl26, RdS.idx hvX sl26, RdS.cellB hvX (Ext.pres eB), RdS.cells hvX, RdS.len (OS.rd how2_3_0) sl22, RdS.idx (OS.rd how2_3_0) sl22, R1.intN (OS.rd how2_3_0), RdS.cells (OS.rd how2_3_0), RdS.len (OS.rd hR) sl26, RdS.idx (OS.rd hR) sl26, RdS.cellN (OS.rd hR), RdS.cells (OS.rd hR), RdS.len (OS.rd ho21_0) sl26, RdS.idx (OS.rd ho21_0) sl26, RdS.cellN (OS.rd ho21_0), RdS.cells (OS.rd ho21_0), BoxAt.cell hb1_2, wrap_id]
     refine CallA.mono (iKernel_ok _ X.c.p (rowsP X n q (q - r)) _ (OS.rd hR) hP hkerT (by omega) (by omega)) ?_
     intro vw22_3_0 h22_3
     rintro ⟨zvw22_3_0, fw22_3_0, rfl, how22_3_0, hfw22_3_0, e22_3⟩
     replace how2_3_0 := OS.ext how2_3_0 e22_3
     replace hR := OS.ext hR e22_3
     replace ho21_0 := OS.ext ho21_0 e22_3
     replace hb1_2 := BoxAt.ext hb1_2 e22_3
     have := Ext.size e22_3
     replace eB := Ext.trans eB e22_3
     have hlhow22_3_0 := OS.lt how22_3_0
     try simp -implicitDefEqProofs (disch := first | decide | assumption | omega) only [go_sem, RdS.len hdX sl22, RdS.idx hdX sl22, R1.intB hdX (Ext.pres eB), RdS.cells hdX, RdS.len hmX sl23, RdS.idx hmX sl23, RdS.cellB hmX (Ext.pres eB), RdS.cells hmX, RdS.len hvX sl26, RdS.idx hvX sl26, RdS.cellB hvX (Ext.pres eB), RdS.cells hvX, RdS.len (OS.rd how2_3_0) sl22, RdS.idx (OS.rd how2_3_0) sl22, R1.intN (OS.rd how2_3_0), RdS.cells (OS.rd how2_3_0), RdS.len (OS.rd hR) sl26, RdS.idx (OS.rd hR) sl26, RdS.cellN (OS.rd hR), RdS.cells (OS.rd hR), RdS.len (OS.rd ho21_0) sl26, RdS.idx (OS.rd ho21_0) sl26, RdS.cellN (OS.rd ho21_0), RdS.cells (OS.rd ho21_0), RdS.len (OS.rd how22_3_0) sl26, RdS.idx (OS.rd how22_3_0) sl26, RdS.cellN (OS.rd how22_3_0), RdS.cells (OS.rd how22_3_0), BoxAt.cell hb1_2, wrap_id]
     refine hK _ _ ?_
     clear hK K
     refine den_block ?_
     refine den_sel [19, 95, 2, 9, 10, 93, 94] ?_
     intro env_20
     simp only [go_sem]
     refine den_loopS (σ := Nat × Value × List Nat) (fun st_ => [(19, st_.2.1), (95, .int .i64 (st_.1 : Int))]) (fun st_ H => (st_.1 ≤ (kerQ X.c.p (rowsP X n q (q - r))).length) ∧ (O2 H st_.2.1 (((kerQ X.c.p (rowsP X n q (q - r))).take st_.1).map fun z => wideN (keptP X n q) z (dimP X.c n).toNat (keptP X n q).length) st_.2.2) ∧ (Fresh (h9.size) st_.2.2) ∧ (Sub [h9.size] h22_3.size st_.2.2) ∧ (Chg [h9.size] h22_3 H)) (fun st_ => (kerQ X.c.p (rowsP X n q (q - r))).length - st_.1) (0, v21_0, [h9.size]) ?_ ?_
     ·exact ⟨by first | (simp; done) | (dsimp only; omega) | (simp; omega), by simpa using ho21_0, hfho21_0, Sub.refl, Chg.refl _ _⟩
     ·rintro ⟨v, vhV, fphV⟩ h23 ee22 ⟨hi0, hV, hfhV, sbhV, cL21⟩
      dsimp only at hi0 hV hfhV sbhV cL21
      replace how2_3_0 := OS.chg how2_3_0 cL21 (apart_lt hlhow2_3_0 hfho21_0 (by omega))
      replace hR := OS.chg hR cL21 (apart_lt hlhR hfho21_0 (by omega))
      replace how22_3_0 := OS.chg how22_3_0 cL21 (apart_gt hfw22_3_0 hlho21_0 (by omega))
      replace hb1_2 := BoxAt.chgA hb1_2 cL21 (apart_lt hlhb1_2 hfho21_0 (by omega))
      have := cL21.size
      replace eB := Ext.then eB cL21 (ge_of hfho21_0 (by omega))
      have ap24 : Apart fw22_3_0 fphV := Apart.sub_ hlhow22_3_0 (by omega) (apart_gt hfw22_3_0 hlho21_0 (by omega)) sbhV
      have hlhV := OS.lt hV
      simp only [List.cons_append, List.nil_append]
      refine den_seq ?_
      refine den_region TTok ?_
      intro K hK
      simp -implicitDefEqProofs (disch := first | decide | assumption | omega) only [go_sem, RdS.len hdX sl22, RdS.idx hdX sl22, R1.intB hdX (Ext.pres eB), RdS.cells hdX, RdS.len hmX sl23, RdS.idx hmX sl23, RdS.cellB hmX (Ext.pres eB), RdS.cells hmX, RdS.len hvX sl26, RdS.idx hvX sl26, RdS.cellB hvX (Ext.pres eB), RdS.cells hvX, RdS.len (OS.rd how2_3_0) sl22, RdS.idx (OS.rd how2_3_0) sl22, R1.intN (OS.rd how2_3_0), RdS.cells (OS.rd how2_3_0), RdS.len (OS.rd how22_3_0) sl26, RdS.idx (OS.rd how22_3_0) sl26, RdS.cellN (OS.rd how22_3_0), RdS.cells (OS.rd how22_3_0), RdS.len (OS.rd hV) sl26, RdS.idx (OS.rd hV) sl26, RdS.cellN (OS.rd hV), RdS.cells (OS.rd hV), BoxAt.cell hb1_2, wrap_id]
      refine hK _ _ ?_
      clear hK K
      refine den_seq ?_
      refine den_cond rfl (fun c4 => ?_) (fun c4 => ?_)
      ·try simp only [decide_eq_true_eq, decide_eq_false_iff_not, beq_iff_eq, beq_eq_false_iff_ne, bne_iff_ne, ne_eq, Bool.not_eq_true', Bool.not_eq_false', Bool.and_eq_true, Bool.or_eq_true, bne_eq_false_iff_eq] at c4
       refine den_skip ?_
       refine den_seq ?_
       refine den_block ?_
       refine den_seq ?_
       refine den_region TTok ?_
       intro K hK
       have hr25 := RdS.rowN (OS.rd how22_3_0) v (by omega)
       have hlhr25 := RdS.le hr25
       have xr26 := Ext.refl h23
       simp -implicitDefEqProofs (disch := first | decide | assumption | omega) only [go_sem, ld22, RdS.len hdX sl22, RdS.idx hdX sl22, R1.intB hdX (Ext.pres eB), RdS.cells hdX, RdS.len hmX sl23, RdS.idx hmX sl23, RdS.cellB hmX (Ext.pres eB), RdS.cells hmX, RdS.len hvX sl26, RdS.idx hvX sl26, RdS.cellB hvX (Ext.pres eB), RdS.cells hvX, RdS.len (OS.rd how2_3_0) sl22, RdS.idx (OS.rd how2_3_0) sl22, R1.intN (OS.rd how2_3_0), RdS.cells (OS.rd how2_3_0), RdS.len (OS.rd how22_3_0) sl26, RdS.idx (OS.rd how22_3_0) sl26, RdS.cellN (OS.rd how22_3_0), RdS.cells (OS.rd how22_3_0), RdS.len (OS.rd hV) sl26, RdS.idx (OS.rd hV) sl26, RdS.cellN (OS.rd hV), RdS.cells (OS.rd hV), BoxAt.cell hb1_2, RdS.len hr25 sl22, RdS.idx hr25 sl22, R1.intB hr25 (Ext.pres xr26), RdS.cells hr25, wrap_id]
       refine hK _ _ ?_
       clear hK K
       refine den_seq ?_
       refine den_region TTok ?_
       intro K hK
       simp -implicitDefEqProofs (disch := first | decide | assumption | omega) only [go_sem, ld31, RdS.len hdX sl22, RdS.idx hdX sl22, R1.intB hdX (Ext.pres eB), RdS.cells hdX, RdS.len hmX sl23, RdS.idx hmX sl23, RdS.cellB hmX (Ext.pres eB), RdS.cells hmX, RdS.len hvX sl26, RdS.idx hvX sl26, RdS.cellB hvX (Ext.pres eB), RdS.cells hvX, RdS.len (OS.rd how2_3_0) sl22, RdS.idx (OS.rd how2_3_0) sl22, R1.intN (OS.rd how2_3_0), RdS.cells (OS.rd how2_3_0), RdS.len (OS.rd how22_3_0) sl26, RdS.idx (OS.rd how22_3_0) sl26, RdS.cellN (OS.rd how22_3_0), RdS.cells (OS.rd how22_3_0), RdS.len (OS.rd hV) sl26, RdS.idx (OS.rd hV) sl26, RdS.cellN (OS.rd hV), RdS.cells (OS.rd hV), BoxAt.cell hb1_2, RdS.len hr25 sl22, RdS.idx hr25 sl22, R1.intB hr25 (Ext.pres xr26), RdS.cells hr25, wrap_id]
       try simp -implicitDefEqProofs (disch := first | decide | assumption | omega) only [go_sem, RdS.len hdX sl22, RdS.idx hdX sl22, R1.intB hdX (Ext.pres eB), RdS.cells hdX, RdS.len hmX sl23, RdS.idx hmX sl23, RdS.cellB hmX (Ext.pres eB), RdS.cells hmX, RdS.len hvX sl26, RdS.idx hvX sl26, RdS.cellB hvX (Ext.pres eB), RdS.cells hvX, RdS.len (OS.rd how2_3_0) sl22, RdS.idx (OS.rd how2_3_0) sl22, R1.intN (OS.rd how2_3_0), RdS.cells (OS.rd how2_3_0), RdS.len (OS.rd how22_3_0) sl26, RdS.idx (OS.rd how22_3_0) sl26, RdS.cellN (OS.rd how22_3_0), RdS.cells (OS.rd how22_3_0), RdS.len (OS.rd hV) sl26, RdS.idx (OS.rd hV) sl26, RdS.cellN (OS.rd hV), RdS.cells (OS.rd hV), BoxAt.cell hb1_2, RdS.len hr25 sl22, RdS.idx hr25 sl22, R1.intB hr25 (Ext.pres xr26), RdS.cells hr25, wrap_id]
       refine CallA.mono (iDim_ok _ X.c _ _ ⟨_, _, rfl, (RdS.pres hdX (Ext.pres eB)), (RdS.pres hmX (Ext.pres eB))⟩) ?_
       intro v_ h25_2
       rintro ⟨rfl, e25_2⟩
       replace how2_3_0 := OS.ext how2_3_0 e25_2
       replace how22_3_0 := OS.ext how22_3_0 e25_2
       replace hV := OS.ext hV e25_2
       replace hb1_2 := BoxAt.ext hb1_2 e25_2
       have := Ext.size e25_2
       replace eB := Ext.trans eB e25_2
       replace xr26 := Ext.trans xr26 e25_2
       replace cL21 := Chg.stepE cL21 e25_2
       try simp -implicitDefEqProofs (disch := first | decide | assumption | omega) only [go_sem, RdS.len hdX sl22, RdS.idx hdX sl22, R1.intB hdX (Ext.pres eB), RdS.cells hdX, RdS.len hmX sl23, RdS.idx hmX sl23, RdS.cellB hmX (Ext.pres eB), RdS.cells hmX, RdS.len hvX sl26, RdS.idx hvX sl26, RdS.cellB hvX (Ext.pres eB), RdS.cells hvX, RdS.len (OS.rd how2_3_0) sl22, RdS.idx (OS.rd how2_3_0) sl22, R1.intN (OS.rd how2_3_0), RdS.cells (OS.rd how2_3_0), RdS.len (OS.rd how22_3_0) sl26, RdS.idx (OS.rd how22_3_0) sl26, RdS.cellN (OS.rd how22_3_0), RdS.cells (OS.rd how22_3_0), RdS.len (OS.rd hV) sl26, RdS.idx (OS.rd hV) sl26, RdS.cellN (OS.rd hV), RdS.cells (OS.rd hV), BoxAt.cell hb1_2, RdS.len hr25 sl22, RdS.idx hr25 sl22, R1.intB hr25 (Ext.pres xr26), RdS.cells hr25, wrap_id]
       refine op_make sz22 rfl rfl (by omega) (by omega) OI 0 (fun _ => ⟨rfl, rfl⟩) ?_
       intro v25_3 h25_3 ho25_3 e25_3
       replace how2_3_0 := OS.ext how2_3_0 e25_3
       replace how22_3_0 := OS.ext how22_3_0 e25_3
       replace hV := OS.ext hV e25_3
       replace hb1_2 := BoxAt.ext hb1_2 e25_3
       have := Ext.size e25_3
       replace eB := Ext.trans eB e25_3
       replace xr26 := Ext.trans xr26 e25_3
       replace cL21 := Chg.stepE cL21 e25_3
       have hfho25_3 : Fresh h25_2.size [h25_2.size] := Fresh.one _
       have hlenho25_3 : (List.replicate ((dimP X.c n)).toNat (0 : Int)).length = ((dimP X.c n)).toNat := List.length_replicate
       have hlho25_3 := OS.lt ho25_3
       try simp -implicitDefEqProofs (disch := first | decide | assumption | omega) only [go_sem, RdS.len hdX sl22, RdS.idx hdX sl22, R1.intB hdX (Ext.pres eB), RdS.cells hdX, RdS.len hmX sl23, RdS.idx hmX sl23, RdS.cellB hmX (Ext.pres eB), RdS.cells hmX, RdS.len hvX sl26, RdS.idx hvX sl26, RdS.cellB hvX (Ext.pres eB), RdS.cells hvX, RdS.len (OS.rd how2_3_0) sl22, RdS.idx (OS.rd how2_3_0) sl22, R1.intN (OS.rd how2_3_0), RdS.cells (OS.rd how2_3_0), RdS.len (OS.rd how22_3_0) sl26, RdS.idx (OS.rd how22_3_0) sl26, RdS.cellN (OS.rd how22_3_0), RdS.cells (OS.rd how22_3_0), RdS.len (OS.rd hV) sl26, RdS.idx (OS.rd hV) sl26, RdS.cellN (OS.rd hV), RdS.cells (OS.rd hV), RdS.len (OS.rd ho25_3) sl22, RdS.idx (OS.rd ho25_3) sl22, R1.intN (OS.rd ho25_3), RdS.cells (OS.rd ho25_3), BoxAt.cell hb1_2, RdS.len hr25 sl22, RdS.idx hr25 sl22, R1.intB hr25 (Ext.pres xr26), RdS.cells hr25, wrap_id]
       refine hK _ _ ?_
       clear hK K
       refine den_seq ?_
       refine den_seq ?_
       refine den_region TTok ?_
       intro K hK
       simp -implicitDefEqProofs (disch := first | decide | assumption | omega) only [go_sem, RdS.len hdX sl22, RdS.idx hdX sl22, R1.intB hdX (Ext.pres eB), RdS.cells hdX, RdS.len hmX sl23, RdS.idx hmX sl23, RdS.cellB hmX (Ext.pres eB), RdS.cells hmX, RdS.len hvX sl26, RdS.idx hvX sl26, RdS.cellB hvX (Ext.pres eB), RdS.cells hvX, RdS.len (OS.rd how2_3_0) sl22, RdS.idx (OS.rd how2_3_0) sl22, R1.intN (OS.rd how2_3_0), RdS.cells (OS.rd how2_3_0), RdS.len (OS.rd how22_3_0) sl26, RdS.idx (OS.rd how22_3_0) sl26, RdS.cellN (OS.rd how22_3_0), RdS.cells (OS.rd how22_3_0), RdS.len (OS.rd hV) sl26, RdS.idx (OS.rd hV) sl26, RdS.cellN (OS.rd hV), RdS.cells (OS.rd hV), RdS.len (OS.rd ho25_3) sl22, RdS.idx (OS.rd ho25_3) sl22, R1.intN (OS.rd ho25_3), RdS.cells (OS.rd ho25_3), BoxAt.cell hb1_2, RdS.len hr25 sl22, RdS.idx hr25 sl22, R1.intB hr25 (Ext.pres xr26), RdS.cells hr25, wrap_id]
       refine hK _ _ ?_
       clear hK K
       refine den_block ?_
       refine den_sel [105, 2, 9, 10, 19, 21, 22, 93, 94, 95, 103, 104] ?_
       intro env_27
       simp only [go_sem]
       refine den_loopS (σ := Nat) (fun st_ => [(105, .int .i64 (st_ : Int))]) (fun st_ H => (st_ ≤ (keptP X n q).length) ∧ (O1 H v25_3 (wideN (keptP X n q) ((kerQ X.c.p (rowsP X n q (q - r))).getD v default) (dimP X.c n).toNat st_) [h25_2.size]) ∧ (Chg [h25_2.size] h25_3 H)) (fun st_ => (keptP X n q).length - st_) 0 ?_ ?_
       ·exact ⟨by first | (simp; done) | (dsimp only; omega) | (simp; omega), by exact ho25_3, Chg.refl _ _⟩
       ·rintro k h30 ee29 ⟨hi0, hU, cL28⟩
        replace how2_3_0 := OS.chg how2_3_0 cL28 (apart_lt hlhow2_3_0 hfho25_3 (by omega))
        replace how22_3_0 := OS.chg how22_3_0 cL28 (apart_lt hlhow22_3_0 hfho25_3 (by omega))
        replace hV := OS.chg hV cL28 (apart_lt hlhV hfho25_3 (by omega))
        replace hb1_2 := BoxAt.chgA hb1_2 cL28 (apart_lt hlhb1_2 hfho25_3 (by omega))
        have := cL28.size
        replace eB := Ext.then eB cL28 (ge_of hfho25_3 (by omega))
        replace xr26 := Ext.then xr26 cL28 (ge_of hfho25_3 (by omega))
        replace cL21 := Chg.step cL21 cL28 (Sub.fresh hfho25_3 (by omega))
        have sbhU : Sub [h25_2.size] h25_3.size [h25_2.size] := Sub.refl
        have hfhU := hfho25_3
        have hlhU := hlho25_3
        simp only [List.cons_append, List.nil_append]
        refine den_seq ?_
        refine den_region TTok ?_
        intro K hK
        simp -implicitDefEqProofs (disch := first | decide | assumption | omega) only [go_sem, RdS.len hdX sl22, RdS.idx hdX sl22, R1.intB hdX (Ext.pres eB), RdS.cells hdX, RdS.len hmX sl23, RdS.idx hmX sl23, RdS.cellB hmX (Ext.pres eB), RdS.cells hmX, RdS.len hvX sl26, RdS.idx hvX sl26, RdS.cellB hvX (Ext.pres eB), RdS.cells hvX, RdS.len (OS.rd how2_3_0) sl22, RdS.idx (OS.rd how2_3_0) sl22, R1.intN (OS.rd how2_3_0), RdS.cells (OS.rd how2_3_0), RdS.len (OS.rd how22_3_0) sl26, RdS.idx (OS.rd how22_3_0) sl26, RdS.cellN (OS.rd how22_3_0), RdS.cells (OS.rd how22_3_0), RdS.len (OS.rd hV) sl26, RdS.idx (OS.rd hV) sl26, RdS.cellN (OS.rd hV), RdS.cells (OS.rd hV), RdS.len (OS.rd hU) sl22, RdS.idx (OS.rd hU) sl22, R1.intN (OS.rd hU), RdS.cells (OS.rd hU), BoxAt.cell hb1_2, RdS.len hr25 sl22, RdS.idx hr25 sl22, R1.intB hr25 (Ext.pres xr26), RdS.cells hr25, wrap_id]
        refine hK _ _ ?_
        clear hK K
        refine den_seq ?_
        refine den_cond rfl (fun c5 => ?_) (fun c5 => ?_)
        ·try simp only [decide_eq_true_eq, decide_eq_false_iff_not, beq_iff_eq, beq_eq_false_iff_ne, bne_iff_ne, ne_eq, Bool.not_eq_true', Bool.not_eq_false', Bool.and_eq_true, Bool.or_eq_true, bne_eq_false_iff_eq] at c5
         refine den_skip ?_
         refine den_seq ?_
         refine den_block ?_
         refine den_seq ?_
         refine den_region TTok ?_
         intro K hK
         simp -implicitDefEqProofs (disch := first | decide | assumption | omega) only [go_sem, ld2, RdS.len hdX sl22, RdS.idx hdX sl22, R1.intB hdX (Ext.pres eB), RdS.cells hdX, RdS.len hmX sl23, RdS.idx hmX sl23, RdS.cellB hmX (Ext.pres eB), RdS.cells hmX, RdS.len hvX sl26, RdS.idx hvX sl26, RdS.cellB hvX (Ext.pres eB), RdS.cells hvX, RdS.len (OS.rd how2_3_0) sl22, RdS.idx (OS.rd how2_3_0) sl22, R1.intN (OS.rd how2_3_0), RdS.cells (OS.rd how2_3_0), RdS.len (OS.rd how22_3_0) sl26, RdS.idx (OS.rd how22_3_0) sl26, RdS.cellN (OS.rd how22_3_0), RdS.cells (OS.rd how22_3_0), RdS.len (OS.rd hV) sl26, RdS.idx (OS.rd hV) sl26, RdS.cellN (OS.rd hV), RdS.cells (OS.rd hV), RdS.len (OS.rd hU) sl22, RdS.idx (OS.rd hU) sl22, R1.intN (OS.rd hU), RdS.cells (OS.rd hU), BoxAt.cell hb1_2, RdS.len hr25 sl22, RdS.idx hr25 sl22, R1.intB hr25 (Ext.pres xr26), RdS.cells hr25, wrap_id]
         refine hK _ _ ?_
         clear hK K
         have hx0 := keptP_at (X := X) (n := n) (q := q) (k := k) (by omega)
         have hvl := ker_row hC (n := n) (q := q) (t := q - r) (v := v) (by omega)
         have hwn := wideN_len (keptP X n q) ((kerQ X.c.p (rowsP X n q (q - r))).getD v default) (dimP X.c n).toNat k
         refine den_region TTok ?_
         intro K hK
         simp -implicitDefEqProofs (disch := first | decide | assumption | omega) only [go_sem, ld2, RdS.len hdX sl22, RdS.idx hdX sl22, R1.intB hdX (Ext.pres eB), RdS.cells hdX, RdS.len hmX sl23, RdS.idx hmX sl23, RdS.cellB hmX (Ext.pres eB), RdS.cells hmX, RdS.len hvX sl26, RdS.idx hvX sl26, RdS.cellB hvX (Ext.pres eB), RdS.cells hvX, RdS.len (OS.rd how2_3_0) sl22, RdS.idx (OS.rd how2_3_0) sl22, R1.intN (OS.rd how2_3_0), RdS.cells (OS.rd how2_3_0), RdS.len (OS.rd how22_3_0) sl26, RdS.idx (OS.rd how22_3_0) sl26, RdS.cellN (OS.rd how22_3_0), RdS.cells (OS.rd how22_3_0), RdS.len (OS.rd hV) sl26, RdS.idx (OS.rd hV) sl26, RdS.cellN (OS.rd hV), RdS.cells (OS.rd hV), RdS.len (OS.rd hU) sl22, RdS.idx (OS.rd hU) sl22, R1.intN (OS.rd hU), RdS.cells (OS.rd hU), BoxAt.cell hb1_2, RdS.len hr25 sl22, RdS.idx hr25 sl22, R1.intB hr25 (Ext.pres xr26), RdS.cells hr25, wrap_id]
         refine op_store1 (j := (((keptP X n q).getD k 0)).toNat) st2 hU hfhU.nodup (by first | omega | (simp; omega)) rfl rfl ?_
         intro h29_7 ho29_7 c29_7
         have hsz29_7 := c29_7.size
         replace how2_3_0 := OS.chg how2_3_0 c29_7 (apart_lt hlhow2_3_0 hfhU (by omega))
         replace how22_3_0 := OS.chg how22_3_0 c29_7 (apart_lt hlhow22_3_0 hfhU (by omega))
         replace hV := OS.chg hV c29_7 (apart_lt hlhV hfhU (by omega))
         replace hb1_2 := BoxAt.chgA hb1_2 c29_7 (apart_lt hlhb1_2 hfhU (by omega))
         have := c29_7.size
         replace eB := Ext.then eB c29_7 (ge_of hfhU (by omega))
         replace xr26 := Ext.then xr26 c29_7 (ge_of hfhU (by omega))
         replace cL21 := Chg.step cL21 c29_7 (Sub.fresh hfhU (by omega))
         replace cL28 := Chg.step cL28 c29_7 sbhU
         have hlho29_7 := hlhU
         have hlenho29_7 : ((wideN (keptP X n q) ((kerQ X.c.p (rowsP X n q (q - r))).getD v default) (dimP X.c n).toNat k).set ((((keptP X n q).getD k 0)).toNat) (((kerQ X.c.p (rowsP X n q (q - r))).getD v default).getD k 0) : List Int).length = (wideN (keptP X n q) ((kerQ X.c.p (rowsP X n q (q - r))).getD v default) (dimP X.c n).toNat k : List Int).length := List.length_set
         try simp -implicitDefEqProofs (disch := first | decide | assumption | omega) only [go_sem, RdS.len hdX sl22, RdS.idx hdX sl22, R1.intB hdX (Ext.pres eB), RdS.cells hdX, RdS.len hmX sl23, RdS.idx hmX sl23, RdS.cellB hmX (Ext.pres eB), RdS.cells hmX, RdS.len hvX sl26, RdS.idx hvX sl26, RdS.cellB hvX (Ext.pres eB), RdS.cells hvX, RdS.len (OS.rd how2_3_0) sl22, RdS.idx (OS.rd how2_3_0) sl22, R1.intN (OS.rd how2_3_0), RdS.cells (OS.rd how2_3_0), RdS.len (OS.rd how22_3_0) sl26, RdS.idx (OS.rd how22_3_0) sl26, RdS.cellN (OS.rd how22_3_0), RdS.cells (OS.rd how22_3_0), RdS.len (OS.rd hV) sl26, RdS.idx (OS.rd hV) sl26, RdS.cellN (OS.rd hV), RdS.cells (OS.rd hV), RdS.len (OS.rd ho29_7) sl22, RdS.idx (OS.rd ho29_7) sl22, R1.intN (OS.rd ho29_7), RdS.cells (OS.rd ho29_7), BoxAt.cell hb1_2, RdS.len hr25 sl22, RdS.idx hr25 sl22, R1.intB hr25 (Ext.pres xr26), RdS.cells hr25, wrap_id]
         refine hK _ _ ?_
         clear hK K
         refine den_blk ?_
         refine den_region TTok ?_
         intro K hK
         simp -implicitDefEqProofs (disch := first | decide | assumption | omega) only [go_sem, RdS.len hdX sl22, RdS.idx hdX sl22, R1.intB hdX (Ext.pres eB), RdS.cells hdX, RdS.len hmX sl23, RdS.idx hmX sl23, RdS.cellB hmX (Ext.pres eB), RdS.cells hmX, RdS.len hvX sl26, RdS.idx hvX sl26, RdS.cellB hvX (Ext.pres eB), RdS.cells hvX, RdS.len (OS.rd how2_3_0) sl22, RdS.idx (OS.rd how2_3_0) sl22, R1.intN (OS.rd how2_3_0), RdS.cells (OS.rd how2_3_0), RdS.len (OS.rd how22_3_0) sl26, RdS.idx (OS.rd how22_3_0) sl26, RdS.cellN (OS.rd how22_3_0), RdS.cells (OS.rd how22_3_0), RdS.len (OS.rd hV) sl26, RdS.idx (OS.rd hV) sl26, RdS.cellN (OS.rd hV), RdS.cells (OS.rd hV), RdS.len (OS.rd ho29_7) sl22, RdS.idx (OS.rd ho29_7) sl22, R1.intN (OS.rd ho29_7), RdS.cells (OS.rd ho29_7), BoxAt.cell hb1_2, RdS.len hr25 sl22, RdS.idx hr25 sl22, R1.intB hr25 (Ext.pres xr26), RdS.cells hr25, wrap_id]
         refine hK _ _ ?_
         clear hK K
         refine den_stop ?_
         change O1 _ _ (wideN _ _ _ (k + 1)) _ at ho29_7
         exact ⟨k + 1, by simp [HasL, puts_at], ⟨by first | omega | (dsimp only; omega), ho29_7, cL28⟩, by first | omega | (dsimp only; omega)⟩
        ·try simp only [decide_eq_true_eq, decide_eq_false_iff_not, beq_iff_eq, beq_eq_false_iff_ne, bne_iff_ne, ne_eq, Bool.not_eq_true', Bool.not_eq_false', Bool.and_eq_true, Bool.or_eq_true, bne_eq_false_iff_eq] at c5
         refine den_exit ?_
         refine denX_code ?_
         refine denX_stop ?_
         refine denX_hit ?_
         have hvt : (((kerQ X.c.p (rowsP X n q (q - r))).take v).map fun z => wideN (keptP X n q) z (dimP X.c n).toNat (keptP X n q).length).length ≤ 8 := by rw [List.length_map, List.length_take]; omega
         refine den_region TTok ?_
         intro K hK
         simp -implicitDefEqProofs (disch := first | decide | assumption | omega) only [go_sem, RdS.len hdX sl22, RdS.idx hdX sl22, R1.intB hdX (Ext.pres eB), RdS.cells hdX, RdS.len hmX sl23, RdS.idx hmX sl23, RdS.cellB hmX (Ext.pres eB), RdS.cells hmX, RdS.len hvX sl26, RdS.idx hvX sl26, RdS.cellB hvX (Ext.pres eB), RdS.cells hvX, RdS.len (OS.rd how2_3_0) sl22, RdS.idx (OS.rd how2_3_0) sl22, R1.intN (OS.rd how2_3_0), RdS.cells (OS.rd how2_3_0), RdS.len (OS.rd how22_3_0) sl26, RdS.idx (OS.rd how22_3_0) sl26, RdS.cellN (OS.rd how22_3_0), RdS.cells (OS.rd how22_3_0), RdS.len (OS.rd hV) sl26, RdS.idx (OS.rd hV) sl26, RdS.cellN (OS.rd hV), RdS.cells (OS.rd hV), RdS.len (OS.rd hU) sl22, RdS.idx (OS.rd hU) sl22, R1.intN (OS.rd hU), RdS.cells (OS.rd hU), BoxAt.cell hb1_2, RdS.len hr25 sl22, RdS.idx hr25 sl22, R1.intB hr25 (Ext.pres xr26), RdS.cells hr25, wrap_id]
         refine op_bs1 sz26 rfl (OS.one hU).2 ?_
         try simp -implicitDefEqProofs (disch := first | decide | assumption | omega) only [go_sem, RdS.len hdX sl22, RdS.idx hdX sl22, R1.intB hdX (Ext.pres eB), RdS.cells hdX, RdS.len hmX sl23, RdS.idx hmX sl23, RdS.cellB hmX (Ext.pres eB), RdS.cells hmX, RdS.len hvX sl26, RdS.idx hvX sl26, RdS.cellB hvX (Ext.pres eB), RdS.cells hvX, RdS.len (OS.rd how2_3_0) sl22, RdS.idx (OS.rd how2_3_0) sl22, R1.intN (OS.rd how2_3_0), RdS.cells (OS.rd how2_3_0), RdS.len (OS.rd how22_3_0) sl26, RdS.idx (OS.rd how22_3_0) sl26, RdS.cellN (OS.rd how22_3_0), RdS.cells (OS.rd how22_3_0), RdS.len (OS.rd hV) sl26, RdS.idx (OS.rd hV) sl26, RdS.cellN (OS.rd hV), RdS.cells (OS.rd hV), RdS.len (OS.rd hU) sl22, RdS.idx (OS.rd hU) sl22, R1.intN (OS.rd hU), RdS.cells (OS.rd hU), BoxAt.cell hb1_2, RdS.len hr25 sl22, RdS.idx hr25 sl22, R1.intB hr25 (Ext.pres xr26), RdS.cells hr25, wrap_id]
         refine op_append1 sz26 hV hfhV.nodup hU hfhU.nodup (apart_lt hlhV hfhU (by omega)) (by first | omega | (simp; omega)) rfl rfl ?_
         intro v31_3 h31_3 fp31_3 ho31_3 hn31_3 hs31_3 c31_3
         have hsz31_3 := c31_3.size
         have hfho31_3 : Fresh h9.size fp31_3 := Fresh.appd hfhV hfhU (by omega) (by omega) hn31_3 hs31_3
         have sb31 : Sub [h9.size] h22_3.size fp31_3 := Sub.grow sbhV (Sub.fresh hfhU (by omega)) (by omega) hs31_3
         replace how2_3_0 := OS.chg how2_3_0 c31_3 (apart_lt hlhow2_3_0 hfhV (by omega))
         replace how22_3_0 := OS.chg how22_3_0 c31_3 ap24
         replace hb1_2 := BoxAt.chgA hb1_2 c31_3 (apart_lt hlhb1_2 hfhV (by omega))
         have := c31_3.size
         replace eB := Ext.then eB c31_3 (ge_of hfhV (by omega))
         replace cL21 := Chg.step cL21 c31_3 sbhV
         have ap32 : Apart fw22_3_0 fp31_3 := Apart.grow hlhow22_3_0 (by omega) ap24 (apart_lt hlhow22_3_0 hfhU (by omega)) hs31_3
         have hlho31_3 := OS.lt ho31_3
         try simp -implicitDefEqProofs (disch := first | decide | assumption | omega) only [go_sem, RdS.len hdX sl22, RdS.idx hdX sl22, R1.intB hdX (Ext.pres eB), RdS.cells hdX, RdS.len hmX sl23, RdS.idx hmX sl23, RdS.cellB hmX (Ext.pres eB), RdS.cells hmX, RdS.len hvX sl26, RdS.idx hvX sl26, RdS.cellB hvX (Ext.pres eB), RdS.cells hvX, RdS.len (OS.rd how2_3_0) sl22, RdS.idx (OS.rd how2_3_0) sl22, R1.intN (OS.rd how2_3_0), RdS.cells (OS.rd how2_3_0), RdS.len (OS.rd how22_3_0) sl26, RdS.idx (OS.rd how22_3_0) sl26, RdS.cellN (OS.rd how22_3_0), RdS.cells (OS.rd how22_3_0), RdS.len (OS.rd ho31_3) sl26, RdS.idx (OS.rd ho31_3) sl26, RdS.cellN (OS.rd ho31_3), RdS.cells (OS.rd ho31_3), BoxAt.cell hb1_2, wrap_id]
         refine hK _ _ ?_
         clear hK K
         refine den_blk ?_
         refine den_region TTok ?_
         intro K hK
         simp -implicitDefEqProofs (disch := first | decide | assumption | omega) only [go_sem, RdS.len hdX sl22, RdS.idx hdX sl22, R1.intB hdX (Ext.pres eB), RdS.cells hdX, RdS.len hmX sl23, RdS.idx hmX sl23, RdS.cellB hmX (Ext.pres eB), RdS.cells hmX, RdS.len hvX sl26, RdS.idx hvX sl26, RdS.cellB hvX (Ext.pres eB), RdS.cells hvX, RdS.len (OS.rd how2_3_0) sl22, RdS.idx (OS.rd how2_3_0) sl22, R1.intN (OS.rd how2_3_0), RdS.cells (OS.rd how2_3_0), RdS.len (OS.rd how22_3_0) sl26, RdS.idx (OS.rd how22_3_0) sl26, RdS.cellN (OS.rd how22_3_0), RdS.cells (OS.rd how22_3_0), RdS.len (OS.rd ho31_3) sl26, RdS.idx (OS.rd ho31_3) sl26, RdS.cellN (OS.rd ho31_3), RdS.cells (OS.rd ho31_3), BoxAt.cell hb1_2, wrap_id]
         refine hK _ _ ?_
         clear hK K
         refine den_stop ?_
         rw [show k = (keptP X n q).length by omega, map_takeL (f := fun z => wideN (keptP X n q) z (dimP X.c n).toNat (keptP X n q).length) (d := default) (by omega)] at ho31_3
         exact ⟨(v + 1, v31_3, fp31_3), by simp [HasL, puts_at], ⟨by first | omega | (dsimp only; omega), ho31_3, hfho31_3, sb31, cL21⟩, by first | omega | (dsimp only; omega)⟩
      ·try simp only [decide_eq_true_eq, decide_eq_false_iff_not, beq_iff_eq, beq_eq_false_iff_ne, bne_iff_ne, ne_eq, Bool.not_eq_true', Bool.not_eq_false', Bool.and_eq_true, Bool.or_eq_true, bne_eq_false_iff_eq] at c4
       refine den_exit ?_
       refine denX_code ?_
       refine denX_stop ?_
       refine denX_hit ?_
       refine den_seq ?_
       rw [map_takeE (by omega)] at hV
       change O2 _ _ (wideP X r n q) _ at hV
       have hredT := wide_tbl hC r n q
       have hwl := wide_len hF r n q
       refine den_region TTok ?_
       intro K hK
       simp -implicitDefEqProofs (disch := first | decide | assumption | omega) only [go_sem, fa31_0, ld2, RdS.len hdX sl22, RdS.idx hdX sl22, R1.intB hdX (Ext.pres eB), RdS.cells hdX, RdS.len hmX sl23, RdS.idx hmX sl23, RdS.cellB hmX (Ext.pres eB), RdS.cells hmX, RdS.len hvX sl26, RdS.idx hvX sl26, RdS.cellB hvX (Ext.pres eB), RdS.cells hvX, RdS.len (OS.rd hV) sl26, RdS.idx (OS.rd hV) sl26, RdS.cellN (OS.rd hV), RdS.cells (OS.rd hV), BoxAt.cell hb1_2, wrap_id]
       try simp -implicitDefEqProofs (disch := first | decide | assumption | omega) only [go_sem, RdS.len hdX sl22, RdS.idx hdX sl22, R1.intB hdX (Ext.pres eB), RdS.cells hdX, RdS.len hmX sl23, RdS.idx hmX sl23, RdS.cellB hmX (Ext.pres eB), RdS.cells hmX, RdS.len hvX sl26, RdS.idx hvX sl26, RdS.cellB hvX (Ext.pres eB), RdS.cells hvX, RdS.len (OS.rd hV) sl26, RdS.idx (OS.rd hV) sl26, RdS.cellN (OS.rd hV), RdS.cells (OS.rd hV), BoxAt.cell hb1_2, wrap_id]
       refine CallA.mono (iReduce_ok _ X.c.p (wideP X r n q) _ (OS.rd hV) hP hredT (by omega) (by omega)) ?_
       intro vw33_3_0 h33_3
       rintro ⟨zvw33_3_0, fw33_3_0, rfl, how33_3_0, hfw33_3_0, e33_3⟩
       replace hV := OS.ext hV e33_3
       replace hb1_2 := BoxAt.ext hb1_2 e33_3
       have := Ext.size e33_3
       replace eB := Ext.trans eB e33_3
       have hlhow33_3_0 := OS.lt how33_3_0
       try simp -implicitDefEqProofs (disch := first | decide | assumption | omega) only [go_sem, RdS.len hdX sl22, RdS.idx hdX sl22, R1.intB hdX (Ext.pres eB), RdS.cells hdX, RdS.len hmX sl23, RdS.idx hmX sl23, RdS.cellB hmX (Ext.pres eB), RdS.cells hmX, RdS.len hvX sl26, RdS.idx hvX sl26, RdS.cellB hvX (Ext.pres eB), RdS.cells hvX, RdS.len (OS.rd hV) sl26, RdS.idx (OS.rd hV) sl26, RdS.cellN (OS.rd hV), RdS.cells (OS.rd hV), RdS.len (OS.rd how33_3_0) sl26, RdS.idx (OS.rd how33_3_0) sl26, RdS.cellN (OS.rd how33_3_0), RdS.cells (OS.rd how33_3_0), BoxAt.cell hb1_2, wrap_id]
       refine hK _ _ ?_
       clear hK K
       refine den_ret ?_
       simp (disch := decide) only [resP_1, puts_same, puts_ne]
       exact ⟨_, _, rfl, how33_3_0, hfw33_3_0.mono (by omega), eB⟩
end Go.Proofs.Ytjjjgllbocgkbaa

namespace Go.Proofs.Ytjjjgllbocgkbaa
open Go
structure PvOk (X Y : Cx) (i : Int) (u : List Int) (j : Int) (v : List Int) : Prop where
 cX : IsC X
 cY : IsC Y
 p : 0 < X.p ∧ X.p ≤ 7
 ci : 0 ≤ i ∧ i ≤ (X.dims.length : Int) - 1
 cj : 0 ≤ j ∧ j ≤ (Y.dims.length : Int) - 1
 lX : X.dims.length ≤ 6
 lY : Y.dims.length ≤ 6
 cu : (u.length : Int) = dimP X i ∧ Bnd X.p u
 cv : (v.length : Int) = dimP Y j ∧ Bnd X.p v
end Go.Proofs.Ytjjjgllbocgkbaa

namespace Go.Proofs.Ytjjjgllbocgkbaa
open Go
section
variable {P : Program} {n : Nat} {K : Env → Heap → Prop} {env : Env} {h : Heap} {d : Option Tmp} {ty : TypeId} {p : String} {a : Array Edge} {g : Option (Nat × Bool)}
end
def famAt (X Y : Cx) (f : List (List (List Int))) (s : Int) (n : Nat) : Bool := tableP X.p (f.getD n default) (X.dims.getD n 0) (dimP Y ((n : Int) + s))
structure IsFam (X Y : Cx) (f : List (List (List Int))) (s : Int) : Prop where
 len : f.length = X.dims.length
 rows : ∀ n, n < f.length → famAt X Y f s n = true
theorem famAt_iff {X Y : Cx} {f : List (List (List Int))} {s : Int} {n : Nat} : famAt X Y f s n = true ↔ ((f.getD n default).length : Int) = X.dims.getD n 0 ∧ (f.getD n default).all (isRow X.p (dimP Y ((n : Int) + s))) = true := by
 simp only [famAt, tableP, Bool.and_eq_true, decide_eq_true_eq]
theorem IsFam.at {X Y : Cx} {f : List (List (List Int))} {s : Int} (h : IsFam X Y f s) {n : Nat} (hn : n < f.length) : ((f.getD n default).length : Int) = X.dims.getD n 0 ∧ Tbl X.p (dimP Y ((n : Int) + s)) (f.getD n default) := tableP_iff.1 (h.rows n hn)
theorem IsFam.row {X Y : Cx} {f : List (List (List Int))} {s : Int} (h : IsFam X Y f s) {n i : Nat} (hn : n < f.length) (hi : i < (f.getD n default).length) : isRow X.p (dimP Y ((n : Int) + s)) ((f.getD n default).getD i default) = true := all_at (d := default) (famAt_iff.1 (h.rows n hn)).2 hi
end Go.Proofs.Ytjjjgllbocgkbaa

namespace Go.Proofs.Ytjjjgllbocgkbaa
open Go
/-- What a round of the test of chain maps knows. -/
structure ChnR (X Y : Cx) (f : List (List (List Int))) (k i : Nat) : Prop where
 hi : i < (X.maps.getD k default).length
 ml : k < X.maps.length
 row : (((X.maps.getD k default).getD i default).length : Int) = X.dims.getD k 0 ∧ Bnd X.p ((X.maps.getD k default).getD i default)
 img : (((f.getD ((k : Int) + 1).toNat default).getD i default).length : Int) = Y.dims.getD ((k : Int) + 1).toNat 0 ∧ Bnd Y.p ((f.getD ((k : Int) + 1).toNat default).getD i default)
end Go.Proofs.Ytjjjgllbocgkbaa

namespace Go.Proofs.Ytjjjgllbocgkbaa
open Go
structure SumOk (p : Int) (f g : List (List (List Int))) : Prop where
 len : f.length = g.length ∧ f.length ≤ 6
 rows : ∀ n, n < f.length → (f.getD n default).length = (g.getD n default).length ∧ (f.getD n default).length ≤ 8
 row : ∀ n i, n < f.length → i < (f.getD n default).length → ((f.getD n default).getD i default).length = ((g.getD n default).getD i default).length ∧ ((f.getD n default).getD i default).length ≤ 8 ∧ Bnd p ((f.getD n default).getD i default) ∧ Bnd p ((g.getD n default).getD i default)
end Go.Proofs.Ytjjjgllbocgkbaa

namespace Go.Proofs.Ytjjjgllbocgkbaa
open Go
/-- A row that is one's own, or one that lies in other blocks. -/
def EM (h0 : Heap) (fE : List Nat) (h : Heap) (u : Value) (x : List Int) (fp : List Nat) : Prop := O1 h u x fp ∨ ESt h0 fE h u x fp
instance {h0 : Heap} {fE : List Nat} : Own (EM h0 fE) := ⟨fun hl h => h.elim (fun a => .inl (Own.loc hl a)) .inr, (fun h => h.elim Own.lt fun a b hb => by rw [a.1] at hb; cases hb), (fun h => h.elim Own.one fun a => a.2.1)⟩
abbrev O2M (h0 : Heap) (fE : List Nat) : Heap → Value → List (List Int) → List Nat → Prop := OS 22 (EM h0 fE)
theorem O2M.nil {h0 : Heap} {fE : List Nat} {h : Heap} {v : Value} {fp : List Nat} (ho : O2 h v [] fp) : O2M h0 fE h v [] fp := by
 rcases ho with ⟨h1, _, h3⟩ | ⟨b, c, cur, fps, rfl, r⟩
 ·exact .inl ⟨h1, rfl, h3⟩
 ·exact .inr ⟨b, c, cur, fps, rfl, ⟨r.val, r.box, r.size, r.max, r.le, r.len, fun j hj => by simp at hj⟩⟩
theorem O2M.rd {h0 : Heap} {fE : List Nat} {h : Heap} {v : Value} {xs : List (List Int)} {fp : List Nat} (ho : O2M h0 fE h v xs fp) (hag : Agr fE h0 h) : R2 h v xs := by
 rcases ho with ⟨rfl, rfl, _⟩ | ⟨b, c, cur, fps, _, r⟩
 ·exact ⟨none, 0, rfl, .inr rfl, by simp, by omega, fun j hj => by simp at hj⟩
 ·refine ⟨some ⟨b, 0, none⟩, c, r.val, .inl rfl, r.le, r.max, fun j hj => ?_⟩
  obtain ⟨u, f, h1, _, h4⟩ := r.el j hj
  refine ⟨u, ?_, h4.elim (fun a => OS.rd a) fun a => a.2.2 h hag⟩
  rw [r.val]
  simp only [sA]
  rw [addr_add, r.box.cell, Nat.zero_add, h1]
theorem ES.row {h : Heap} {vE : Value} {E : List (List Int)} {fE : List Nat} (hE : O2 h vE E fE) (hn : fE.Nodup) {i : Nat} (hi : i < E.length) {H : Heap} : ESt h fE H (rowV h vE i) (E.getD i default) [] := by
 obtain ⟨f, hO, hsub, _, _⟩ := OS.elem hE hn i hi
 exact ⟨rfl, Own.one hO, fun h' hg => OS.rd (show O1 h' (rowV h vE i) (E.getD i default) f from Own.loc (fun b hb => hg b (hsub b hb)) hO)⟩
theorem getD_elem {α : Type} [Inhabited α] {xs : List α} {j : Nat} (hj : j < xs.length) : xs[j] = xs.getD j default := by
 rw [List.getD_eq_getElem?_getD, List.getElem?_eq_getElem hj]; rfl
structure RkOk (X Y : Cx) (f : List (List (List Int))) (n : Int) : Prop where
 cX : IsC X
 cY : IsC Y
 cf : IsFam X Y f 0
 p : X.p = Y.p
 n0 : 0 ≤ n
 n1 : n ≤ (X.dims.length : Int) - 1
end Go.Proofs.Ytjjjgllbocgkbaa

namespace Go.Proofs.Ytjjjgllbocgkbaa
open Go
noncomputable def pgC (X : Fl) (r n q : Int) : Int := if isF X = true then (if in3 r 0 8 = true ∧ in3 n 0 ((X.c.dims.length : Int) - 1) = true ∧ in3 q 0 5 = true then 0 else 2) else 1
theorem pgC_0 {X : Fl} {r n q : Int} (h : pgC X r n q = 0) : IsF X ∧ (0 ≤ r ∧ r ≤ 8) ∧ (0 ≤ n ∧ n ≤ (X.c.dims.length : Int) - 1) ∧ (0 ≤ q ∧ q ≤ 5) := by
 unfold pgC at h
 split at h
 ·rename_i h1
  split at h
  ·rename_i h2
   exact ⟨isF_t.1 h1, in3_iff.1 h2.1, in3_iff.1 h2.2.1, in3_iff.1 h2.2.2⟩
  ·cases h
 ·cases h
theorem Agr.app {f1 f2 : List Nat} {h0 h : Heap} (a : Agr f1 h0 h) (b : Agr f2 h0 h) : Agr (f1 ++ f2) h0 h := fun x hx => (List.mem_append.1 hx).elim (a x) (b x)
theorem ESt.left {h0 : Heap} {f1 f2 : List Nat} {H : Heap} {u : Value} {x : List Int} {fp : List Nat} (h : ESt h0 f1 H u x fp) : ESt h0 (f1 ++ f2) H u x fp := ⟨h.1, h.2.1, fun h' g => h.2.2 h' (fun b hb => g b (List.mem_append_left _ hb))⟩
theorem ESt.right {h0 : Heap} {f1 f2 : List Nat} {H : Heap} {u : Value} {x : List Int} {fp : List Nat} (h : ESt h0 f2 H u x fp) : ESt h0 (f1 ++ f2) H u x fp := ⟨h.1, h.2.1, fun h' g => h.2.2 h' (fun b hb => g b (List.mem_append_right _ hb))⟩
theorem ESt.move {h0 h1 : Heap} {fE : List Nat} {H : Heap} {u : Value} {x : List Int} {fp : List Nat} (a : Agr fE h0 h1) (h : ESt h0 fE H u x fp) : ESt h1 fE H u x fp := ⟨h.1, h.2.1, fun h' g => h.2.2 h' (fun b hb => (g b hb).trans (a b hb))⟩
theorem OS.mapE {α : Type} {e : TypeId} {E F : Heap → Value → α → List Nat → Prop} (k : ∀ h u x fp, E h u x fp → F h u x fp) {h : Heap} {v : Value} {xs : List α} {fp : List Nat} (ho : OS e E h v xs fp) : OS e F h v xs fp := by
 rcases ho with ⟨h1, h2, h3⟩ | ⟨b, c, cur, fps, rfl, r⟩
 ·exact .inl ⟨h1, h2, h3⟩
 ·exact .inr ⟨b, c, cur, fps, rfl, ⟨r.val, r.box, r.size, r.max, r.le, r.len, fun j hj => let ⟨u, f, q1, q2, q3⟩ := r.el j hj; ⟨u, f, q1, q2, k _ _ _ _ q3⟩⟩⟩
/-- A list with borrowed rows, told at a later heap, and of more blocks. -/
theorem O2M.more {h0 h1 : Heap} {f1 f2 : List Nat} {h : Heap} {v : Value} {xs : List (List Int)} {fp : List Nat} (a : Agr f1 h0 h1) (ho : O2M h0 f1 h v xs fp) : O2M h1 (f1 ++ f2) h v xs fp :=
 OS.mapE (fun h u x fp q => q.imp id (fun s => (s.move a).left)) ho

set_option maxRecDepth 100000 in
theorem iPg_ok (vX : Value) (X : Fl) (r : Int) (n : Int) (q : Int) (h : Heap) (rX : RF h vX X)  : CallA Try.prog 81 #[vX, .int .i64 r, .int .i64 n, .int .i64 q] h fun v' h' => v' = .int .i64 (pgC X r n q) ∧ Ext h h' := by
 obtain ⟨vdX, vmX, vvX, rfl, hdX, hmX, hvX⟩ := rX
 have hledX := RdS.le hdX
 have hlemX := RdS.le hmX
 have hlevX := RdS.le hvX
 refine callA_intro TTok (args := [_, _, _, _]) Try.func81 (by kernel_rfl) rfl 30 rfl (by simp) [.tmp 8] rfl ?_
 simp only [idxs, Nat.reduceAdd]
 refine den_seq ?_
 refine den_region TTok ?_
 intro K hK
 simp -implicitDefEqProofs (disch := first | decide | assumption | omega) only [go_sem, wrap_id]
 refine op_box (cs := #[.int .i64 (X.c.p), vdX, vmX, vvX]) rfl ?_
 intro h0_0 e0_0 hb0_0 z0_0
 have := Ext.size e0_0
 have eB := e0_0
 have hfhb0_0 : Fresh h.size [h.size] := Fresh.one _
 have hlhb0_0 := one_lt (show h.size < h0_0.size by omega)
 try simp -implicitDefEqProofs (disch := first | decide | assumption | omega) only [go_sem, wrap_id]
 refine hK _ _ ?_
 clear hK K
 refine den_seq ?_
 refine den_block ?_
 refine den_seq ?_
 refine den_region TTok ?_
 intro K hK
 simp -implicitDefEqProofs (disch := first | decide | assumption | omega) only [go_sem, ld33, RdS.len hdX sl22, RdS.idx hdX sl22, R1.intB hdX (Ext.pres eB), RdS.cells hdX, RdS.len hmX sl23, RdS.idx hmX sl23, RdS.cellB hmX (Ext.pres eB), RdS.cells hmX, RdS.len hvX sl26, RdS.idx hvX sl26, RdS.cellB hvX (Ext.pres eB), RdS.cells hvX, BoxAt.cell hb0_0, wrap_id]
 try simp -implicitDefEqProofs (disch := first | decide | assumption | omega) only [go_sem, wrap_id]
 refine CallA.mono (iIsF_ok _ X _ ⟨_, _, _, rfl, (RdS.pres hdX (Ext.pres eB)), (RdS.pres hmX (Ext.pres eB)), (RdS.pres hvX (Ext.pres eB))⟩ ) ?_
 intro v_ h1_1
 rintro ⟨rfl, e1_1⟩
 replace hb0_0 := BoxAt.ext hb0_0 e1_1
 have := Ext.size e1_1
 replace eB := Ext.trans eB e1_1
 try simp -implicitDefEqProofs (disch := first | decide | assumption | omega) only [go_sem, wrap_id]
 refine hK _ _ ?_
 clear hK K
 refine den_cond rfl (fun c0 => ?_) (fun c0 => ?_)
 ·try simp only [decide_eq_true_eq, decide_eq_false_iff_not, beq_iff_eq, beq_eq_false_iff_ne, bne_iff_ne, ne_eq, Bool.not_eq_true', Bool.not_eq_false', Bool.and_eq_true, Bool.or_eq_true, bne_eq_false_iff_eq, Bool.or_eq_false_iff, Bool.and_eq_false_iff] at c0
  refine den_seq ?_
  refine den_region TTok ?_
  intro K hK
  simp -implicitDefEqProofs (disch := first | decide | assumption | omega) only [go_sem, wrap_id]
  refine hK _ _ ?_
  clear hK K
  refine den_ret ?_
  simp (disch := decide) only [resP_1, puts_same, puts_ne]
  exact ⟨vint (by rw [pgC, if_neg (by rw [c0]; decide)]), eB⟩
 ·try simp only [decide_eq_true_eq, decide_eq_false_iff_not, beq_iff_eq, beq_eq_false_iff_ne, bne_iff_ne, ne_eq, Bool.not_eq_true', Bool.not_eq_false', Bool.and_eq_true, Bool.or_eq_true, bne_eq_false_iff_eq, Bool.or_eq_false_iff, Bool.and_eq_false_iff] at c0
  refine den_seq ?_
  refine den_merge [(13, .bool ((((!((in3 r (0 : Int) (8 : Int)))) || (!((in3 n (0 : Int) (((X.c.dims).length : Int) - 1))))) || (!((in3 q (0 : Int) (5 : Int)))))))] [] (fun H => Ext h1_1 H) ?_ ?_
   -- a way
  ·refine den_region TTok ?_
   intro K hK
   simp -implicitDefEqProofs (disch := first | decide | assumption | (simp (disch := decide) only [slotOf_zero, slotOf_succ, Option.map_some, puts_same, puts_ne, gv_bool, gv_undef, tt, tf, ft, ff, eq_self, if_true, if_false, Bool.false_eq_true, Bool.not_true, Bool.not_false]; done) | omega) only [go_sem, wrap_id]
   try simp -implicitDefEqProofs (disch := first | decide | assumption | omega) only [go_sem, wrap_id]
   refine CallA.pure (iIn_ok _ _ _ _) ?_
   try simp -implicitDefEqProofs (disch := first | decide | assumption | (simp (disch := decide) only [slotOf_zero, slotOf_succ, Option.map_some, puts_same, puts_ne, gv_bool, gv_undef, tt, tf, ft, ff, eq_self, if_true, if_false, Bool.false_eq_true, Bool.not_true, Bool.not_false]; done) | omega) only [go_sem, wrap_id]
   refine opsP_F (by simp (disch := decide) only [slotOf_zero, slotOf_succ, Option.map_some, puts_same, puts_ne, gv_bool, gv_undef, tt, tf, ft, ff, eq_self, if_true, if_false, Bool.false_eq_true, Bool.not_true, Bool.not_false]; rfl) (fun g1 => ?_) (fun g1 => ?_)
   ·try simp -implicitDefEqProofs (disch := first | decide | assumption | (simp (disch := decide) only [slotOf_zero, slotOf_succ, Option.map_some, puts_same, puts_ne, gv_bool, gv_undef, tt, tf, ft, ff, eq_self, if_true, if_false, Bool.false_eq_true, Bool.not_true, Bool.not_false, g1]; done) | omega) only [go_sem, fa33_0, ld31, RdS.len hdX sl22, RdS.idx hdX sl22, R1.intB hdX (Ext.pres eB), RdS.cells hdX, RdS.len hmX sl23, RdS.idx hmX sl23, RdS.cellB hmX (Ext.pres eB), RdS.cells hmX, RdS.len hvX sl26, RdS.idx hvX sl26, RdS.cellB hvX (Ext.pres eB), RdS.cells hvX, BoxAt.cell hb0_0, wrap_id, g1, eq_self, if_true, if_false, Bool.false_eq_true]
    try simp -implicitDefEqProofs (disch := first | decide | assumption | omega) only [go_sem, wrap_id]
    refine CallA.mono (top_ok _ X.c _ ⟨_, _, rfl, (RdS.pres hdX (Ext.pres eB)), (RdS.pres hmX (Ext.pres eB))⟩) ?_
    intro v_ h3_7
    rintro ⟨rfl, e3_7⟩
    replace hb0_0 := BoxAt.ext hb0_0 e3_7
    have := Ext.size e3_7
    replace eB := Ext.trans eB e3_7
    try simp -implicitDefEqProofs (disch := first | decide | assumption | (simp (disch := decide) only [slotOf_zero, slotOf_succ, Option.map_some, puts_same, puts_ne, gv_bool, gv_undef, tt, tf, ft, ff, eq_self, if_true, if_false, Bool.false_eq_true, Bool.not_true, Bool.not_false, g1]; done) | omega) only [go_sem, wrap_id, g1, eq_self, if_true, if_false, Bool.false_eq_true]
    try simp -implicitDefEqProofs (disch := first | decide | assumption | omega) only [go_sem, wrap_id]
    refine CallA.pure (iIn_ok _ _ _ _) ?_
    try simp -implicitDefEqProofs (disch := first | decide | assumption | (simp (disch := decide) only [slotOf_zero, slotOf_succ, Option.map_some, puts_same, puts_ne, gv_bool, gv_undef, tt, tf, ft, ff, eq_self, if_true, if_false, Bool.false_eq_true, Bool.not_true, Bool.not_false, g1]; done) | omega) only [go_sem, wrap_id, g1, eq_self, if_true, if_false, Bool.false_eq_true]
    refine opsP_F (by simp (disch := decide) only [slotOf_zero, slotOf_succ, Option.map_some, puts_same, puts_ne, gv_bool, gv_undef, tt, tf, ft, ff, eq_self, if_true, if_false, Bool.false_eq_true, Bool.not_true, Bool.not_false, g1]; rfl) (fun g2 => ?_) (fun g2 => ?_)
    ·try simp -implicitDefEqProofs (disch := first | decide | assumption | (simp (disch := decide) only [slotOf_zero, slotOf_succ, Option.map_some, puts_same, puts_ne, gv_bool, gv_undef, tt, tf, ft, ff, eq_self, if_true, if_false, Bool.false_eq_true, Bool.not_true, Bool.not_false, g1, g2]; done) | omega) only [go_sem, wrap_id, g1, g2, eq_self, if_true, if_false, Bool.false_eq_true]
     try simp -implicitDefEqProofs (disch := first | decide | assumption | omega) only [go_sem, wrap_id]
     refine CallA.pure (iIn_ok _ _ _ _) ?_
     try simp -implicitDefEqProofs (disch := first | decide | assumption | (simp (disch := decide) only [slotOf_zero, slotOf_succ, Option.map_some, puts_same, puts_ne, gv_bool, gv_undef, tt, tf, ft, ff, eq_self, if_true, if_false, Bool.false_eq_true, Bool.not_true, Bool.not_false, g1, g2]; done) | omega) only [go_sem, wrap_id, g1, g2, eq_self, if_true, if_false, Bool.false_eq_true]
     refine hK _ _ ?_
     clear hK K
     refine den_stop ?_
     refine ⟨?_, e3_7⟩
     first | (simp (disch := decide) only [go_sem, g1, g2, eq_self, Bool.true_and, Bool.and_true, Bool.false_and, Bool.and_false, Bool.true_or, Bool.or_true, Bool.false_or, Bool.or_false, if_true, if_false, Bool.false_eq_true]; done) | simp [HasL, sel, puts_at, g1, g2]
    ·try simp -implicitDefEqProofs (disch := first | decide | assumption | (simp (disch := decide) only [slotOf_zero, slotOf_succ, Option.map_some, puts_same, puts_ne, gv_bool, gv_undef, tt, tf, ft, ff, eq_self, if_true, if_false, Bool.false_eq_true, Bool.not_true, Bool.not_false, g1, g2]; done) | omega) only [go_sem, wrap_id, g1, g2, eq_self, if_true, if_false, Bool.false_eq_true]
     refine hK _ _ ?_
     clear hK K
     refine den_stop ?_
     refine ⟨?_, e3_7⟩
     first | (simp (disch := decide) only [go_sem, g1, g2, eq_self, Bool.true_and, Bool.and_true, Bool.false_and, Bool.and_false, Bool.true_or, Bool.or_true, Bool.false_or, Bool.or_false, if_true, if_false, Bool.false_eq_true]; done) | simp [HasL, sel, puts_at, g1, g2]
   ·try simp -implicitDefEqProofs (disch := first | decide | assumption | (simp (disch := decide) only [slotOf_zero, slotOf_succ, Option.map_some, puts_same, puts_ne, gv_bool, gv_undef, tt, tf, ft, ff, eq_self, if_true, if_false, Bool.false_eq_true, Bool.not_true, Bool.not_false, g1]; done) | omega) only [go_sem, wrap_id, g1, eq_self, if_true, if_false, Bool.false_eq_true]
    try simp -implicitDefEqProofs (disch := first | decide | assumption | (simp (disch := decide) only [slotOf_zero, slotOf_succ, Option.map_some, puts_same, puts_ne, gv_bool, gv_undef, tt, tf, ft, ff, eq_self, if_true, if_false, Bool.false_eq_true, Bool.not_true, Bool.not_false, g1]; done) | omega) only [go_sem, wrap_id, g1, eq_self, if_true, if_false, Bool.false_eq_true]
    refine hK _ _ ?_
    clear hK K
    refine den_stop ?_
    refine ⟨?_, Ext.refl _⟩
    first | (simp (disch := decide) only [go_sem, g1, eq_self, Bool.true_and, Bool.and_true, Bool.false_and, Bool.and_false, Bool.true_or, Bool.or_true, Bool.false_or, Bool.or_false, if_true, if_false, Bool.false_eq_true]; done) | simp [HasL, sel, puts_at, g1]
  intro en3 h4 e5
  replace hb0_0 := BoxAt.ext hb0_0 e5
  have := Ext.size e5
  replace eB := Ext.trans eB e5
  simp (disch := decide) only [go_sem]
  refine den_cond rfl (fun c1 => ?_) (fun c1 => ?_)
  ·try simp only [decide_eq_true_eq, decide_eq_false_iff_not, beq_iff_eq, beq_eq_false_iff_ne, bne_iff_ne, ne_eq, Bool.not_eq_true', Bool.not_eq_false', Bool.and_eq_true, Bool.or_eq_true, bne_eq_false_iff_eq, Bool.or_eq_false_iff, Bool.and_eq_false_iff] at c1
   refine den_seq ?_
   refine den_region TTok ?_
   intro K hK
   simp -implicitDefEqProofs (disch := first | decide | assumption | omega) only [go_sem, wrap_id]
   refine hK _ _ ?_
   clear hK K
   refine den_ret ?_
   simp (disch := decide) only [resP_1, puts_same, puts_ne]
   exact ⟨vint (by rw [pgC, if_pos c0, if_neg (by rintro ⟨h1, h2, h3⟩; simp [h1, h2, h3] at c1)]), eB⟩
  ·try simp only [decide_eq_true_eq, decide_eq_false_iff_not, beq_iff_eq, beq_eq_false_iff_ne, bne_iff_ne, ne_eq, Bool.not_eq_true', Bool.not_eq_false', Bool.and_eq_true, Bool.or_eq_true, bne_eq_false_iff_eq, Bool.or_eq_false_iff, Bool.and_eq_false_iff] at c1
   refine den_skip ?_
   refine den_blk ?_
   refine den_seq ?_
   refine den_region TTok ?_
   intro K hK
   simp -implicitDefEqProofs (disch := first | decide | assumption | omega) only [go_sem, wrap_id]
   refine hK _ _ ?_
   clear hK K
   refine den_ret ?_
   simp (disch := decide) only [resP_1, puts_same, puts_ne]
   exact ⟨vint (by rw [pgC, if_pos c0, if_pos (by simpa [and_assoc] using c1)]), eB⟩
end Go.Proofs.Ytjjjgllbocgkbaa

namespace Go.Proofs.Ytjjjgllbocgkbaa
open Go
theorem rowV_extF {α : Type} {E : Heap → Value → α → Prop} {h h' : Heap} {v : Value} {xs : List α} (hv : RdS E h v xs) (e : Ext h h') {j : Nat} (hj : j < xs.length) : rowV h' v j = rowV h v j := by
 obtain ⟨A, c, rfl, _, _, _, hr⟩ := hv
 obtain ⟨u, h1, _⟩ := hr j hj
 unfold rowV
 rw [h1, Ext.pres e _ _ h1]
theorem RdS.nilF {α β : Type} {E : Heap → Value → α → Prop} {F : Heap → Value → β → Prop} {h h' : Heap} {v : Value} {xs : List α} (hv : RdS E h v xs) (hx : xs = []) : RdS F h' v [] := by
 obtain ⟨A, c, e, _, _, hm, _⟩ := hv
 subst hx
 exact ⟨A, c, e, .inr rfl, Nat.zero_le _, hm, fun j hj => by cases hj⟩

set_option maxRecDepth 100000 in
theorem sMapF_ok (vdX vmX : Value) (X : Cx) (n : Int) (h0 h : Heap) (hd0 : R1 h0 vdX X.dims) (hm0 : R3 h0 vmX X.maps) (e0 : Ext h0 h) (hC : IsC X) (hn : 1 ≤ n ∧ n ≤ 1000) : CallA Try.prog 80 #[.agg #[.int .i64 X.p, vdX, vmX], .int .i64 n] h fun v' h' => ∃ w, v' = w ∧ R2 h0 w (mapP X n) ∧ Ext h h' := by
 have hdX := RdS.pres hd0 (Ext.pres e0)
 have hmX := RdS.pres hm0 (Ext.pres e0)
 have hledX := RdS.le hdX
 have hlemX := RdS.le hmX
 have hml := hC.ml
 have hdb := dimP_bnd hC n
 refine callA_intro TTok (args := [_, _]) Try.func80 (by kernel_rfl) rfl 32 rfl (by simp) [.tmp 4] rfl ?_
 simp only [idxs, Nat.reduceAdd]
 refine den_seq ?_
 refine den_region TTok ?_
 intro K hK
 simp -implicitDefEqProofs (disch := first | decide | assumption | omega) only [go_sem, wrap_id]
 refine op_box (cs := #[.int .i64 (X.p), vdX, vmX]) rfl ?_
 intro h0_0 e0_0 hb0_0 z0_0
 have := Ext.size e0_0
 have eB := e0_0
 have hfhb0_0 : Fresh h.size [h.size] := Fresh.one _
 have hlhb0_0 := one_lt (show h.size < h0_0.size by omega)
 try simp -implicitDefEqProofs (disch := first | decide | assumption | omega) only [go_sem, wrap_id]
 refine hK _ _ ?_
 clear hK K
 refine den_seq ?_
 refine den_seq ?_
 refine den_region TTok ?_
 intro K hK
 simp -implicitDefEqProofs (disch := first | decide | assumption | omega) only [go_sem, fa31_1, ld22, RdS.len hdX sl22, RdS.idx hdX sl22, R1.intB hdX (Ext.pres eB), RdS.cells hdX, RdS.len hmX sl23, RdS.idx hmX sl23, RdS.cellB hmX (Ext.pres eB), RdS.cells hmX, BoxAt.cell hb0_0, wrap_id]
 try simp -implicitDefEqProofs (disch := first | decide | assumption | omega) only [go_sem, wrap_id]
 refine CallA.pure (sIn_ok _ _ _ _) ?_
 try simp -implicitDefEqProofs (disch := first | decide | assumption | omega) only [go_sem, wrap_id]
 refine hK _ _ ?_
 clear hK K
 refine den_cond rfl (fun c0 => ?_) (fun c0 => ?_)
 ·try simp only [decide_eq_true_eq, decide_eq_false_iff_not, beq_iff_eq, beq_eq_false_iff_ne, bne_iff_ne, ne_eq, Bool.not_eq_true', Bool.not_eq_false', Bool.and_eq_true, Bool.or_eq_true, bne_eq_false_iff_eq, in3_iff, in3_f] at c0
  refine den_seq ?_
  refine den_region TTok ?_
  intro K hK
  have hr1 := RdS.rowN hmX ((n - (1 : Int))).toNat (by omega)
  have hlhr1 := RdS.le hr1
  simp -implicitDefEqProofs (disch := first | decide | assumption | omega) only [go_sem, fa31_2, ld23, ld26, RdS.len hdX sl22, RdS.idx hdX sl22, R1.intB hdX (Ext.pres eB), RdS.cells hdX, RdS.len hmX sl23, RdS.idx hmX sl23, RdS.cellB hmX (Ext.pres eB), RdS.cells hmX, RdS.len hr1 sl26, RdS.idx hr1 sl26, RdS.cellB hr1 (Ext.pres eB), RdS.cells hr1, BoxAt.cell hb0_0, wrap_id]
  refine hK _ _ ?_
  clear hK K
  refine den_ret ?_
  simp (disch := decide) only [resP_1, puts_same, puts_ne]
  exact ⟨_, rfl, by rw [mapP, if_pos (in3_iff.2 c0), rowV_extF hm0 e0 (by omega)]; exact RdS.rowN hm0 _ (by omega), eB⟩
 ·try simp only [decide_eq_true_eq, decide_eq_false_iff_not, beq_iff_eq, beq_eq_false_iff_ne, bne_iff_ne, ne_eq, Bool.not_eq_true', Bool.not_eq_false', Bool.and_eq_true, Bool.or_eq_true, bne_eq_false_iff_eq, in3_iff, in3_f] at c0
  refine den_skip ?_
  refine den_seq ?_
  refine den_region TTok ?_
  intro K hK
  simp -implicitDefEqProofs (disch := first | decide | assumption | omega) only [go_sem, wrap_id]
  refine op_bs0 sz26 O1 ?_
  intro v3_0 h3_0 ho3_0 e3_0
  replace hb0_0 := BoxAt.ext hb0_0 e3_0
  have := Ext.size e3_0
  replace eB := Ext.trans eB e3_0
  have hfho3_0 : Fresh h0_0.size [h0_0.size] := Fresh.one _
  have hlho3_0 := OS.lt ho3_0
  try simp -implicitDefEqProofs (disch := first | decide | assumption | omega) only [go_sem, RdS.len (OS.rd ho3_0) sl26, RdS.idx (OS.rd ho3_0) sl26, RdS.cellN (OS.rd ho3_0), RdS.cells (OS.rd ho3_0), wrap_id]
  refine hK _ _ ?_
  clear hK K
  refine den_seq ?_
  refine den_seq ?_
  refine den_region TTok ?_
  intro K hK
  simp -implicitDefEqProofs (disch := first | decide | assumption | omega) only [go_sem, wrap_id]
  refine hK _ _ ?_
  clear hK K
  refine den_block ?_
  refine den_sel [5, 6, 1, 2] ?_
  intro env_2
  simp only [go_sem]
  refine den_loopS (σ := Nat × Value × List Nat) (fun st_ => [(5, st_.2.1), (6, .int .i64 (st_.1 : Int))]) (fun st_ H => ((st_.1 : Int) ≤ dimP X n) ∧ (O2 H st_.2.1 (List.replicate st_.1 []) st_.2.2) ∧ (Fresh (h0_0.size) st_.2.2) ∧ (Sub [h0_0.size] h3_0.size st_.2.2) ∧ (Chg [h0_0.size] h3_0 H)) (fun st_ => (dimP X n).toNat - st_.1) (0, v3_0, [h0_0.size]) ?_ ?_
  ·exact ⟨by first | (simp; done) | (dsimp only; omega) | (simp; omega), by simpa using ho3_0, hfho3_0, Sub.refl, Chg.refl _ _⟩
  ·rintro ⟨k, vhI, fphI⟩ h5 ee4 ⟨hi0, hI, hfhI, sbhI, cL3⟩
   dsimp only at hi0 hI hfhI sbhI cL3
   replace hb0_0 := BoxAt.chgA hb0_0 cL3 (apart_lt hlhb0_0 hfho3_0 (by omega))
   have := cL3.size
   replace eB := Ext.then eB cL3 (ge_of hfho3_0 (by omega))
   have hlhI := OS.lt hI
   simp only [List.cons_append, List.nil_append]
   have hlr : (List.replicate k ([] : List Int)).length = k := List.length_replicate
   refine den_seq ?_
   refine den_seq ?_
   refine den_region TTok ?_
   intro K hK
   simp -implicitDefEqProofs (disch := first | decide | assumption | omega) only [go_sem, ld31, RdS.len hdX sl22, RdS.idx hdX sl22, R1.intB hdX (Ext.pres eB), RdS.cells hdX, RdS.len hmX sl23, RdS.idx hmX sl23, RdS.cellB hmX (Ext.pres eB), RdS.cells hmX, BoxAt.cell hb0_0, wrap_id]
   try simp -implicitDefEqProofs (disch := first | decide | assumption | omega) only [go_sem, wrap_id]
   refine CallA.mono (sDim_ok _ X _ _ ⟨_, _, rfl, (RdS.pres hdX (Ext.pres eB)), (RdS.pres hmX (Ext.pres eB))⟩) ?_
   intro v_ h5_3
   rintro ⟨rfl, e5_3⟩
   replace hI := OS.ext hI e5_3
   replace hb0_0 := BoxAt.ext hb0_0 e5_3
   have := Ext.size e5_3
   replace eB := Ext.trans eB e5_3
   replace cL3 := Chg.stepE cL3 e5_3
   try simp -implicitDefEqProofs (disch := first | decide | assumption | omega) only [go_sem, wrap_id]
   refine hK _ _ ?_
   clear hK K
   refine den_cond rfl (fun c1 => ?_) (fun c1 => ?_)
   ·try simp only [decide_eq_true_eq, decide_eq_false_iff_not, beq_iff_eq, beq_eq_false_iff_ne, bne_iff_ne, ne_eq, Bool.not_eq_true', Bool.not_eq_false', Bool.and_eq_true, Bool.or_eq_true, bne_eq_false_iff_eq, in3_iff, in3_f] at c1
    refine den_skip ?_
    refine den_seq ?_
    refine den_block ?_
    refine den_region TTok ?_
    intro K hK
    simp -implicitDefEqProofs (disch := first | decide | assumption | omega) only [go_sem, RdS.len (OS.rd hI) sl26, RdS.idx (OS.rd hI) sl26, RdS.cellN (OS.rd hI), RdS.cells (OS.rd hI), wrap_id]
    refine op_bs0 sz22 OI ?_
    intro v7_1 h7_1 ho7_1 e7_1
    replace hI := OS.ext hI e7_1
    replace hb0_0 := BoxAt.ext hb0_0 e7_1
    have := Ext.size e7_1
    replace eB := Ext.trans eB e7_1
    replace cL3 := Chg.stepE cL3 e7_1
    have hfho7_1 : Fresh h5_3.size [h5_3.size] := Fresh.one _
    have hlho7_1 := OS.lt ho7_1
    try simp -implicitDefEqProofs (disch := first | decide | assumption | omega) only [go_sem, wrap_id]
    refine op_bs1 sz26 rfl (OS.one ho7_1).2 ?_
    try simp -implicitDefEqProofs (disch := first | decide | assumption | omega) only [go_sem, wrap_id]
    refine op_append1 sz26 hI hfhI.nodup ho7_1 hfho7_1.nodup (apart_lt hlhI hfho7_1 (by omega)) (by first | omega | (simp; omega)) rfl rfl ?_
    intro v7_3 h7_3 fp7_3 ho7_3 hn7_3 hs7_3 c7_3
    have hsz7_3 := c7_3.size
    have hfho7_3 : Fresh h0_0.size fp7_3 := Fresh.appd hfhI hfho7_1 (by omega) (by omega) hn7_3 hs7_3
    have sb6 : Sub [h0_0.size] h3_0.size fp7_3 := Sub.grow sbhI (Sub.fresh hfho7_1 (by omega)) (by omega) hs7_3
    replace hb0_0 := BoxAt.chgA hb0_0 c7_3 (apart_lt hlhb0_0 hfhI (by omega))
    have := c7_3.size
    replace eB := Ext.then eB c7_3 (ge_of hfhI (by omega))
    replace cL3 := Chg.step cL3 c7_3 sbhI
    have hlho7_3 := OS.lt ho7_3
    try simp -implicitDefEqProofs (disch := first | decide | assumption | omega) only [go_sem, RdS.len (OS.rd ho7_3) sl26, RdS.idx (OS.rd ho7_3) sl26, RdS.cellN (OS.rd ho7_3), RdS.cells (OS.rd ho7_3), wrap_id]
    refine hK _ _ ?_
    clear hK K
    refine den_blk ?_
    refine den_region TTok ?_
    intro K hK
    simp -implicitDefEqProofs (disch := first | decide | assumption | omega) only [go_sem, wrap_id]
    refine hK _ _ ?_
    clear hK K
    refine den_stop ?_
    rw [← List.replicate_succ'] at ho7_3
    exact ⟨(k + 1, v7_3, fp7_3), by simp [HasL, puts_at], ⟨by first | omega | (dsimp only; omega), ho7_3, hfho7_3, sb6, cL3⟩, by first | omega | (dsimp only; omega)⟩
   ·try simp only [decide_eq_true_eq, decide_eq_false_iff_not, beq_iff_eq, beq_eq_false_iff_ne, bne_iff_ne, ne_eq, Bool.not_eq_true', Bool.not_eq_false', Bool.and_eq_true, Bool.or_eq_true, bne_eq_false_iff_eq, in3_iff, in3_f] at c1
    refine den_exit ?_
    refine denX_code ?_
    refine denX_stop ?_
    refine denX_hit ?_
    refine den_seq ?_
    refine den_region TTok ?_
    intro K hK
    simp -implicitDefEqProofs (disch := first | decide | assumption | omega) only [go_sem, RdS.len (OS.rd hI) sl26, RdS.idx (OS.rd hI) sl26, RdS.cellN (OS.rd hI), RdS.cells (OS.rd hI), wrap_id]
    refine hK _ _ ?_
    clear hK K
    refine den_ret ?_
    simp (disch := decide) only [resP_1, puts_same, puts_ne]
    have e : dimP X n = 0 := by rw [dimP, if_neg (by rw [in3_iff]; omega)]
    exact ⟨_, rfl, by rw [mapP, if_neg (by rw [in3_iff]; omega), e]; exact RdS.nilF (OS.rd hI) (by rw [show k = 0 by omega]; rfl), eB⟩
end Go.Proofs.Ytjjjgllbocgkbaa

namespace Go.Proofs.Ytjjjgllbocgkbaa
open Go
theorem keptT_pw (X : Fl) (n q : Int) (m : Nat) : (keptT X n q m).Pairwise (· < ·) := by
 unfold keptT
 rw [List.pairwise_map]
 refine List.Pairwise.imp ?_ ((List.pairwise_lt_range (n := m)).filter _)
 intro a b h
 omega
theorem kept_lt {X : Fl} {n q : Int} {a b : Nat} (h : a < b) (hb : b < (keptP X n q).length) : (keptP X n q).getD a 0 < (keptP X n q).getD b 0 := by
 have := List.pairwise_iff_getElem.1 (keptT_pw X n q (dimP X.c n).toNat) a b (by unfold keptP at hb; omega) hb h
 rw [List.getD_eq_getElem?_getD, List.getElem?_eq_getElem (by omega), List.getD_eq_getElem?_getD, List.getElem?_eq_getElem hb]
 exact this
end Go.Proofs.Ytjjjgllbocgkbaa

namespace Go.Proofs.Ytjjjgllbocgkbaa
open Go
theorem OS.vl {α : Type} {e : TypeId} {E : Heap → Value → α → List Nat → Prop} {h : Heap} {v : Value} {xs : List α} {fp : List Nat} (ho : OS e E h v xs fp) : ∃ A c, v = .slice A xs.length c := by
 rcases ho with ⟨rfl, rfl, _⟩ | ⟨b, c, cur, fps, rfl, r⟩
 ·exact ⟨_, _, rfl⟩
 ·exact ⟨_, _, r.val⟩
end Go.Proofs.Ytjjjgllbocgkbaa

namespace Go.Proofs.Ytjjjgllbocgkbaa
open Go
/-- A couple, as data. -/
structure Cp where
 p : Int
 d : Int
 e : Int
 i : List (List Int)
 j : List (List Int)
 k : List (List Int)
def RP (h : Heap) (v : Value) (X : Cp) : Prop := ∃ vi vj vk, v = .agg #[.int .i64 X.p, .int .i64 X.d, .int .i64 X.e, vi, vj, vk] ∧ R2 h vi X.i ∧ R2 h vj X.j ∧ R2 h vk X.k
instance : Mono RP := ⟨fun hp ⟨vd, vm, vl, e, h1, h2, h3⟩ => ⟨vd, vm, vl, e, h1.pres hp, h2.pres hp, h3.pres hp⟩⟩
theorem RP.pres {h h' : Heap} {v : Value} {X : Cp} (hv : RP h v X) (hp : HPres h h') : RP h' v X := Mono.mono hp hv

structure HMP (X : Cp) : Prop where
 i : HM2 X.i
 j : HM2 X.j
 k : HM2 X.k
open Go.ChangeShapes Go.WideShapes Go.ChangeAt Go.RowKit Go.Joins
end Go.Proofs.Ytjjjgllbocgkbaa

namespace Go.Proofs.Ytjjjgllbocgkbaa
open Go
theorem stepRow_cg {p x : Int} {row acc : List Int} {w : Nat} (hl : row.length = acc.length) (hx : 0 ≤ x) (hr : Bnd p row) (ha : Bnd p acc) (j : Nat) : Cg p ((stepRow p x row acc).getD j 0) (acc.getD j 0 + x * row.getD j 0) := by
 rcases Nat.lt_or_ge j acc.length with h | h
 ·have h1 := ha.at h
  have h2 := hr.at (k := j) (by omega)
  have h3 : 0 ≤ x * row.getD j 0 := Int.mul_nonneg hx h2.1
  rw [stepRow_get hl h, tmod_e (by omega)]; exact Cg.mod _
 ·rw [getD_out (by rw [stepRow_len hl]; exact h), getD_out h, getD_out (by omega), Int.mul_zero]; exact Cg.refl _
theorem sm_head (n : Nat) (f : Nat → Int) : sm (n + 1) f = f 0 + sm n fun i => f (i + 1) := by
 induction n with
 | zero => simp [sm]
 | succ n ih => rw [sm, ih, sm]; omega
/-- What a vector makes of rows, as a sum. -/
theorem accP_cg {p : Int} (hp : 0 < p) : ∀ {v : List Int} {rows : List (List Int)} {acc : List Int}, v.length ≤ rows.length → Bnd p v → Tbl p acc.length rows → Bnd p acc → ∀ j, Cg p ((accP p v rows acc).getD j 0) (acc.getD j 0 + sm v.length fun i => v.getD i 0 * g2 rows i j)
 | [], rows, acc, _, _, _, _, j => by cases rows <;> (simp only [accP, List.length_nil, sm]; exact Cg.of_eq (by omega))
 | x :: v, [], acc, h, _, _, _, j => by simp at h
 | x :: v, r :: rows, acc, h, hv, ht, ha, j => by
  have hr := ht r (by simp)
  have hx := hv x (by simp)
  have hsl : (stepRow p x r acc).length = acc.length := stepRow_len (by omega)
  have hsb := stepRow_bnd hp hx.1 hr.2 ha
  rw [accP]
  refine (accP_cg hp (v := v) (rows := rows) (by simpa using h) (fun y hy => hv y (List.mem_cons_of_mem _ hy)) (fun y hy => by rw [hsl]; exact ht y (List.mem_cons_of_mem _ hy)) hsb j).trans ?_
  refine (Cg.add (stepRow_cg (w := acc.length) (by omega) hx.1 hr.2 ha j) (Cg.refl _)).trans (Cg.of_eq ?_)
  rw [List.length_cons, sm_head]
  have e1 : (x :: v).getD 0 0 * g2 (r :: rows) 0 j = x * r.getD j 0 := rfl
  have e2 : (sm v.length fun i => (x :: v).getD (i + 1) 0 * g2 (r :: rows) (i + 1) j) = sm v.length fun i => v.getD i 0 * g2 rows i j := sm_eq fun i _ => rfl
  rw [e1, e2]; omega
theorem zeros_get (n j : Nat) : (List.replicate n (0 : Int)).getD j 0 = 0 := by
 rcases Nat.lt_or_ge j n with h | h
 ·exact getD_repl h
 ·exact getD_out (by simpa using h)
theorem Sp.mem {p : Int} {L : List (List Int)} {x : List Int} (hx : x ∈ L) : Sp p L fun j => x.getD j 0 := by
 obtain ⟨i, hi, rfl⟩ := List.getElem_of_mem hx
 exact Sp.at hi (getD_elem hi).symm
theorem Le.of_mem {p : Int} {A B : List (List Int)} (h : ∀ x ∈ A, Sp p B fun j => x.getD j 0) : Le p A B := fun i hi => h _ (getD_mem hi)
structure ArOk (X Y : Cx) (f g : List (List (List Int))) : Prop where
 cX : IsC X
 cY : IsC Y
 cf : IsFam X Y f 0
 cg : IsFam X Y g 0
 p : X.p = Y.p
 l : X.dims.length = Y.dims.length
end Go.Proofs.Ytjjjgllbocgkbaa

namespace Go.Proofs.Ytjjjgllbocgkbaa
open Go
theorem sm_split (q : Nat) (f : Nat → Int) : ∀ r, sm (q + r) f = sm q f + sm r fun i => f (q + i)
 | 0 => by simp [sm]
 | r + 1 => by rw [← Nat.add_assoc, sm, sm_split q f r, sm]; omega
theorem unitP_get {n i j : Nat} (hi : i < n) : (unitP n i).getD j 0 = if i = j then 1 else 0 := by
 rw [unitP, getD_set (by simpa using hi), zeros_get]
theorem long_len {rows : List (List Int)} : (longP rows).length = rows.length := by simp [longP]
theorem long_lo {w : Nat} {rows : List (List Int)} (hl : ∀ r ∈ rows, r.length = w) {i j : Nat} (hi : i < rows.length) (hj : j < w) : g2 (longP rows) i j = g2 rows i j := by
 have hr := hl _ (getD_mem hi)
 rw [g2, longP, getD_map_range (fun i => rows.getD i default ++ unitP rows.length i) hi, List.getD_eq_getElem?_getD, List.getElem?_append_left (by omega), ← List.getD_eq_getElem?_getD]
theorem long_hi {w : Nat} {rows : List (List Int)} (hl : ∀ r ∈ rows, r.length = w) {i k : Nat} (hi : i < rows.length) : g2 (longP rows) i (w + k) = if i = k then 1 else 0 := by
 have hr := hl _ (getD_mem hi)
 rw [g2, longP, getD_map_range (fun i => rows.getD i default ++ unitP rows.length i) hi, List.getD_eq_getElem?_getD, List.getElem?_append_right (by omega), hr, Nat.add_sub_cancel_left, ← List.getD_eq_getElem?_getD, unitP_get hi]
theorem long_sp {p : Int} {w : Nat} {rows : List (List Int)} (hl : ∀ r ∈ rows, r.length = w) {u : Nat → Int} : Sp p (longP rows) u ↔ (∀ j, j < w → Cg p (u j) (sm rows.length fun i => u (w + i) * g2 rows i j)) ∧ ∀ k, rows.length ≤ k → Cg p (u (w + k)) 0 := by
 constructor
 ·rintro ⟨c, hc⟩
  rw [long_len] at hc
  have ck : ∀ k, k < rows.length → Cg p (u (w + k)) (c k) := fun k hk => (hc (w + k)).trans (Cg.of_eq (by
   rw [sm_one (k := k) hk (fun i hi he => by rw [long_hi hl hi, if_neg he, Int.mul_zero]), long_hi hl hk, if_pos rfl, Int.mul_one]))
  refine ⟨fun j hj => (hc j).trans (sm_cg fun i hi => ?_), fun k hk => (hc (w + k)).trans (Cg.of_eq (sm_zero fun i hi => by rw [long_hi hl hi, if_neg (by omega), Int.mul_zero]))⟩
  rw [long_lo hl hi hj]
  exact (ck i hi).symm.mul (Cg.refl _)
 ·rintro ⟨h1, h2⟩
  refine ⟨fun i => u (w + i), fun j => ?_⟩
  rw [long_len]
  rcases Nat.lt_or_ge j w with hj | hj
  ·exact (h1 j hj).trans (Cg.of_eq (sm_eq fun i hi => by rw [long_lo hl hi hj]))
  ·obtain ⟨k, rfl⟩ : ∃ k, j = w + k := ⟨j - w, by omega⟩
   rcases Nat.lt_or_ge k rows.length with hk | hk
   ·exact Cg.of_eq (by rw [sm_one (k := k) hk (fun i hi he => by rw [long_hi hl hi, if_neg he, Int.mul_zero]), long_hi hl hk, if_pos rfl, Int.mul_one])
   ·exact (h2 k hk).trans (Cg.of_eq (sm_zero fun i hi => by rw [long_hi hl hi, if_neg (by omega), Int.mul_zero]).symm)
/-- The kernel: the vectors of which the rows make 0. -/
theorem ker_sp {p : Int} {w : Nat} (hP : isP p = true) {rows : List (List Int)} (h : ∀ r ∈ rows, r.length = w ∧ Bnd p r) {v : Nat → Int} : Sp p (kerP p w rows) v ↔ (∀ j, j < w → Cg p (sm rows.length fun i => v i * g2 rows i j) 0) ∧ ∀ k, rows.length ≤ k → Cg p (v k) 0 := by
 have hl : ∀ r ∈ rows, r.length = w := fun r hr => (h r hr).1
 obtain ⟨⟨l, r⟩, ee⟩ := ech_red (w := w + rows.length) hP (longP_tbl (isP_two hP).1 h)
 obtain ⟨t1, t2, t3⟩ := posP_ok (at_ := w) r
 have hk : kerP p w rows = ((ech p (longP rows)).drop (posP (ech p (longP rows)) w)).map fun r => r.drop w := by rw [kerP, filter_suffix r]
 rw [hk]
 generalize ech p (longP rows) = E at *
 generalize posP E w = q at *
 have hlen : ((E.drop q).map fun r => r.drop w).length = E.length - q := by simp
 have gg : ∀ i j, i < E.length - q → g2 ((E.drop q).map fun r => r.drop w) i j = g2 E (q + i) (w + j) := fun i j hi => by
  rw [g2, List.getD_eq_getElem?_getD (l := List.map _ _), List.getElem?_map, List.getElem?_drop, List.getElem?_eq_getElem (by omega)]
  simp only [Option.map_some, Option.getD_some]
  rw [List.getD_eq_getElem?_getD, List.getElem?_drop, g2, getD_elem (by omega), List.getD_eq_getElem?_getD (l := E.getD (q + i) default)]
 constructor
 ·rintro ⟨c, hc⟩
  rw [hlen] at hc
  have hu : Sp p E fun j => sm (E.length - q) fun i => c i * g2 E (q + i) j := Sp.sm (fun i hi => Sp.row (by omega)) c
  obtain ⟨a, b⟩ := (long_sp hl).1 (hu.le ee.1)
  have hv : ∀ k, Cg p (v k) (sm (E.length - q) fun i => c i * g2 E (q + i) (w + k)) := fun k => (hc k).trans (Cg.of_eq (sm_eq fun i hi => by rw [gg i k hi]))
  refine ⟨fun j hj => ?_, fun k hk => (hv k).trans (b k hk)⟩
  have z : (sm (E.length - q) fun i => c i * g2 E (q + i) j) = 0 := sm_zero fun i hi => by rw [r.zb (q + i) j (by omega) (by have := t3 (q + i) (by omega) (by omega); omega), Int.mul_zero]
  have := a j hj
  rw [z] at this
  exact (sm_cg fun i hi => (hv i).mul (Cg.refl _)).trans this.symm
 ·rintro ⟨h1, h2⟩
  have hu : Sp p E fun j => if j < w then 0 else v (j - w) := by
   refine ((long_sp hl).2 ⟨fun j hj => ?_, fun k hk => ?_⟩).le ee.2
   ·rw [if_pos hj]
    refine (h1 j hj).symm.trans (Cg.of_eq (sm_eq fun i hi => ?_))
    rw [if_neg (by omega), Nat.add_sub_cancel_left]
   ·rw [if_neg (by omega), Nat.add_sub_cancel_left]; exact h2 k hk
  refine ⟨fun i => (if l (q + i) < w then 0 else v (l (q + i) - w)), fun k => ?_⟩
  have hc := r.coef hu (w + k)
  simp only [if_neg (show ¬ w + k < w by omega), Nat.add_sub_cancel_left] at hc
  refine hc.trans (Cg.of_eq ?_)
  rw [hlen, show E.length = q + (E.length - q) by omega, sm_split, sm_zero (n := q) (fun i hi => by rw [if_pos (t2 i hi), Int.zero_mul]), Int.zero_add, show q + (E.length - q) - q = E.length - q by omega]
  exact sm_eq fun i hi => by rw [gg i k hi]
theorem kerQ_sp {p : Int} {w : Nat} (hP : isP p = true) {rows : List (List Int)} (h : ∀ r ∈ rows, r.length = w ∧ Bnd p r) {v : Nat → Int} (h1 : ∀ j, j < w → Cg p (sm rows.length fun i => v i * g2 rows i j) 0) (h2 : ∀ k, rows.length ≤ k → Cg p (v k) 0) : Sp p (kerQ p rows) v := by
 by_cases hn : rows = []
 ·subst hn
  rw [kerQ_nil (isP_two hP).1]
  exact Sp.zero.cg fun j => h2 j (Nat.zero_le _)
 ·rw [kerQ_w h hn]; exact (ker_sp hP h).2 ⟨h1, h2⟩
end Go.Proofs.Ytjjjgllbocgkbaa

namespace Go.Proofs.Ytjjjgllbocgkbaa
open Go
theorem kerQ_tb2 {p : Int} {w : Nat} (hP : isP p = true) {rows : List (List Int)} (h : ∀ r ∈ rows, r.length = w ∧ Bnd p r) : ∀ r ∈ kerQ p rows, r.length = rows.length ∧ Bnd p r := by
 by_cases e : rows = []
 ·subst e; rw [kerQ_nil (isP_two hP).1]; intro r hr; cases hr
 ·rw [kerQ_w h e]; exact kerP_tbl hP h

def apV (M : List (List Int)) (v : Nat → Int) : Nat → Int := fun j => sm M.length fun i => v i * g2 M i j
section
variable {p : Int} {M N : List (List Int)}
theorem apV_cg {v w : Nat → Int} (h : ∀ i, i < M.length → Cg p (v i) (w i)) (j : Nat) : Cg p (apV M v j) (apV M w j) := sm_cg fun i hi => Cg.mul (h i hi) (Cg.refl _)
theorem apV_sm (n : Nat) (c : Nat → Int) (f : Nat → Nat → Int) (j : Nat) : apV M (fun i => sm n fun k => c k * f k i) j = sm n fun k => c k * apV M (f k) j := by
 unfold apV
 have e : ∀ i, (sm n fun k => c k * f k i) * g2 M i j = sm n fun k => c k * (f k i * g2 M i j) := fun i => by
  rw [Int.mul_comm, ← sm_mul]
  exact sm_eq fun k _ => by rw [Int.mul_comm, Int.mul_assoc]
 rw [sm_eq (fun i _ => e i), sm_swap]
 exact sm_eq fun k _ => sm_mul _ _ _
theorem apV_out {w : Nat} (hw : ∀ r ∈ M, r.length = w) {v : Nat → Int} {j : Nat} (hj : w ≤ j) : apV M v j = 0 := sm_zero fun i hi => by
 rw [g2_out (by rw [hw _ (getD_mem hi)]; exact hj), Int.mul_zero]
end
abbrev TB (p : Int) (w : Nat) (M : List (List Int)) : Prop := ∀ r ∈ M, r.length = w ∧ Bnd p r
def mvP (p : Int) (M : List (List Int)) (w : Nat) (v : List Int) : List Int := accP p v M (List.replicate w 0)
theorem TB.tbl {p : Int} {w : Nat} {M : List (List Int)} (h : TB p w M) : Tbl p ((List.replicate w (0 : Int)).length : Int) M := fun r hr => ⟨by rw [List.length_replicate]; exact congrArg Nat.cast (h r hr).1, (h r hr).2⟩
theorem mvP_len {p : Int} {w : Nat} {M : List (List Int)} (h : TB p w M) (v : List Int) : (mvP p M w v).length = w := by
 rw [mvP, accP_len h.tbl, List.length_replicate]
theorem mvP_bnd {p : Int} (hp : 0 < p) {w : Nat} {M : List (List Int)} (h : TB p w M) {v : List Int} (hv : Bnd p v) : Bnd p (mvP p M w v) := accP_bnd hp hv h.tbl (Bnd.zeros hp w)
theorem mvP_cg {p : Int} (hp : 0 < p) {w : Nat} {M : List (List Int)} (h : TB p w M) {v : List Int} (hl : v.length = M.length) (hv : Bnd p v) (j : Nat) : Cg p ((mvP p M w v).getD j 0) (apV M (fun i => v.getD i 0) j) := by
 refine (accP_cg hp (by omega) hv h.tbl (Bnd.zeros hp w) j).trans (Cg.of_eq ?_)
 rw [zeros_get, Int.zero_add, hl]; rfl
section
variable {p : Int} {w : Nat} {B : List (List Int)} {l : Nat → Nat}
end
theorem g2_map {α : Type} [Inhabited α] {L : List α} {f : α → List Int} {i : Nat} (hi : i < L.length) (j : Nat) : g2 (L.map f) i j = (f (L.getD i default)).getD j 0 := by
 have e : (L.map f).getD i default = f (L.getD i default) := by
  rw [List.getD_eq_getElem?_getD, List.getElem?_map, List.getElem?_eq_getElem hi, List.getD_eq_getElem?_getD, List.getElem?_eq_getElem hi]; rfl
 rw [g2, e]
structure IsCp (C : Cp) : Prop where
 p : isP C.p = true
 d : 0 ≤ C.d ∧ C.d ≤ 24
 e : 0 ≤ C.e ∧ C.e ≤ 24
 il : (C.i.length : Int) = C.d
 jl : (C.j.length : Int) = C.d
 kl : (C.k.length : Int) = C.e
 ir : TB C.p C.d.toNat C.i
 jr : TB C.p C.e.toNat C.j
 kr : TB C.p C.d.toNat C.k
/-- What of exactness is handed on. -/
structure Ex3 (C : Cp) : Prop where
 c : IsCp C
 a : ∀ v : Nat → Int, (∀ j, Cg C.p (apV C.i v j) 0) → (∀ k, C.d.toNat ≤ k → Cg C.p (v k) 0) → Sp C.p C.k v
 b : ∀ i, i < C.i.length → ∀ j, Cg C.p (apV C.j (g2 C.i i) j) 0
 k : ∀ i, i < C.j.length → ∀ j, Cg C.p (apV C.k (g2 C.j i) j) 0
section
variable {C : Cp}
end
end Go.Proofs.Ytjjjgllbocgkbaa

namespace Go.Proofs.Ytjjjgllbocgkbaa
open Go
section
variable {C : Cp}
theorem Sp.apV {p : Int} {M : List (List Int)} (v : Nat → Int) : Sp p M (apV M v) := ⟨v, fun _ => Cg.refl _⟩
end
end Go.Proofs.Ytjjjgllbocgkbaa

namespace Go.Proofs.Ytjjjgllbocgkbaa
open Go
theorem kerQ_rr {p : Int} {w : Nat} (hP : isP p = true) {rows : List (List Int)} (h : ∀ r ∈ rows, r.length = w ∧ Bnd p r) : ∃ l, Rr p rows.length (kerQ p rows) l := by
 by_cases e : rows = []
 ·subst e; rw [kerQ_nil (isP_two hP).1]; exact ⟨fun i => i, Rr.nil⟩
 ·rw [kerQ_w h e]; exact kerP_rr hP h

section
variable {o : Oper} {l m : List Oper} {j : Nat}
end
/-- The vectors that a table makes 0. -/
theorem kerQ_mem {p : Int} {w : Nat} (hP : isP p = true) {M : List (List Int)} (h : TB p w M) {v : Nat → Int} (hv : Sp p (kerQ p M) v) (j : Nat) : Cg p (apV M v j) 0 := by
 by_cases e : M = []
 ·subst e; exact Cg.refl _
 ·rw [kerQ_w h e] at hv
  have := (ker_sp hP h).1 hv
  by_cases hj : j < w
  ·exact this.1 j hj
  ·exact Cg.of_eq (apV_out (fun r hr => (h r hr).1) (by omega))
end Go.Proofs.Ytjjjgllbocgkbaa

namespace Go.Proofs.Ytjjjgllbocgkbaa
open Go
/-- A row that is read, from some heap on. -/
def ER (h0 : Heap) (_ : Heap) (u : Value) (x : List Int) (fp : List Nat) : Prop := fp = [] ∧ (u.oneCell' = true ∧ u.cells = #[u]) ∧ ∀ h' : Heap, Ext h0 h' → R1 h' u x
instance {h0 : Heap} : Own (ER h0) := ⟨fun _ h => h, (fun h b hb => by rw [h.1] at hb; cases hb), (fun h => h.2.1)⟩
abbrev O2R (h0 : Heap) : Heap → Value → List (List Int) → List Nat → Prop := OS 22 (ER h0)
theorem O2R.nil {h0 : Heap} {h : Heap} {v : Value} {fp : List Nat} (ho : O2 h v [] fp) : O2R h0 h v [] fp := by
 rcases ho with ⟨h1, _, h3⟩ | ⟨b, c, cur, fps, rfl, r⟩
 ·exact .inl ⟨h1, rfl, h3⟩
 ·exact .inr ⟨b, c, cur, fps, rfl, ⟨r.val, r.box, r.size, r.max, r.le, r.len, fun j hj => by simp at hj⟩⟩
theorem O2R.rd {h0 : Heap} {h : Heap} {v : Value} {xs : List (List Int)} {fp : List Nat} (ho : O2R h0 h v xs fp) (e : Ext h0 h) : R2 h v xs := by
 rcases ho with ⟨rfl, rfl, _⟩ | ⟨b, c, cur, fps, _, r⟩
 ·exact ⟨none, 0, rfl, .inr rfl, by simp, by omega, fun j hj => by simp at hj⟩
 ·refine ⟨some ⟨b, 0, none⟩, c, r.val, .inl rfl, r.le, r.max, fun j hj => ?_⟩
  obtain ⟨u, f, h1, _, h4⟩ := r.el j hj
  refine ⟨u, ?_, h4.2.2 h e⟩
  rw [r.val]
  simp only [sA]
  rw [addr_add, r.box.cell, Nat.zero_add, h1]
theorem ER.one {h0 H : Heap} {u : Value} {x : List Int} (hu : R1 h0 u x) : ER h0 H u x [] := ⟨rfl, ⟨RdS.one hu, RdS.cells hu⟩, fun h' e => hu.pres e.pres⟩
theorem rowV_extR {α : Type} {E : Heap → Value → α → Prop} {h h' : Heap} {v : Value} {xs : List α} (hv : RdS E h v xs) (e : Ext h h') {j : Nat} (hj : j < xs.length) : rowV h' v j = rowV h v j := by
 obtain ⟨A, c, rfl, _, _, _, hr⟩ := hv
 obtain ⟨u, h1, _⟩ := hr j hj
 unfold rowV
 rw [h1, Ext.pres e _ _ h1]
theorem ER.row {h0 h H : Heap} {v : Value} {xs : List (List Int)} (hv : R2 h0 v xs) (e : Ext h0 h) {j : Nat} (hj : j < xs.length) : ER h0 H (rowV h v j) (xs.getD j default) [] := by
 rw [rowV_extR hv e hj]
 exact ER.one (RdS.rowN hv j hj)
theorem getD_elemR {α : Type} [Inhabited α] {xs : List α} {j : Nat} (hj : j < xs.length) : xs[j] = xs.getD j default := by
 rw [List.getD_eq_getElem?_getD, List.getElem?_eq_getElem hj]; rfl
end Go.Proofs.Ytjjjgllbocgkbaa

namespace Go.Proofs.Ytjjjgllbocgkbaa
open Go
theorem bs2R (h : Heap) (A B : Option Addr) (n c m d : Nat) : buildSliceV TT h 23 2 [(0, .slice A n c), (1, .slice B m d)] = some (.slice (some ⟨h.size, 0, none⟩) 2 2, h.push (.cells #[.slice A n c, .slice B m d] 26)) := by kernel_rfl
section
variable {P : Program} {n : Nat} {K : Env → Heap → Prop} {env : Env} {h : Heap} {d : Option Tmp} {ty : TypeId} {p : String} {a : Array Edge} {g : Option (Nat × Bool)}
set_option maxRecDepth 100000 in
theorem op_bs2R {x y : Operand} {f g' : List (List Int)} (hx : R2 h (ev env x) f) (hy : R2 h (ev env y) g') (hk : ∀ v' h', R3 h' v' [f, g'] → Ext h h' → outv n ⟨d, .buildSlice 23 2 #[(0, x), (1, y)], ty, p, a, g⟩ K env h' v') :
  opP P TT n ⟨d, .buildSlice 23 2 #[(0, x), (1, y)], ty, p, a, g⟩ K env h := by
 have hx' := hx
 obtain ⟨A, c, e1, _⟩ := hx'
 have hy' := hy
 obtain ⟨B, c2, e2, _⟩ := hy'
 rw [opP_buildSlice]
 have : (#[(0, x), (1, y)].map (fun (i, x) => (i, ev env x)) : Array (Nat × Value)).toList = [(0, .slice A f.length c), (1, .slice B g'.length c2)] := by simp [e1, e2]
 rw [this, bs2R, Bd_some]
 have ex := Ext.push h (.cells #[.slice A f.length c, .slice B g'.length c2] 26)
 have hb := BoxAt.new h #[.slice A f.length c, .slice B g'.length c2] 26
 refine hk _ _ ⟨some ⟨h.size, 0, none⟩, 2, rfl, .inl rfl, by simp, by omega, fun j hj => ?_⟩ ex
 have hj' : j = 0 ∨ j = 1 := by simp at hj; omega
 rcases hj' with rfl | rfl
 ·exact ⟨.slice A f.length c, by simp only [sA, addr_add, hb.cell]; rfl, by rw [e1] at hx; exact hx.pres ex.pres⟩
 ·exact ⟨.slice B g'.length c2, by simp only [sA, addr_add, hb.cell]; rfl, by rw [e2] at hy; exact hy.pres ex.pres⟩
set_option maxRecDepth 100000 in
theorem op_appendZ2 {v : Value} {xs : List (List Int)} {fp : List Nat} {s q : Operand} {m : Int} {tx : TypeId} (htx : isIntT TT tx = some true) (ho : O2 h v xs fp) (hn : fp.Nodup) (hq : ev env q = .int .i64 m) (h0 : 0 ≤ m) (hlen : (xs.length + m.toNat) * 24 ≤ 140737488355328) (hs : ev env s = v)
  (hk : ∀ v' h' fp', O2 h' v' (xs ++ List.replicate m.toNat []) fp' → fp'.Nodup → (∀ b ∈ fp', b ∈ fp ∨ b ∈ ([] : List Nat) ∨ (h.size ≤ b)) → Chg fp h h' → outv n ⟨d, .call { callee := .builtin .append, args := #[s, q], argTypes := #[26, tx] }, ty, p, a, g⟩ K env h' v') :
  opP P TT n ⟨d, .call { callee := .builtin .append, args := #[s, q], argTypes := #[26, tx] }, ty, p, a, g⟩ K env h := by
 have sz := sz26
 obtain ⟨base, sLen, sCap, hv⟩ : ∃ base sLen sCap, v = .slice base sLen sCap := by
  rcases ho with ⟨rfl, _, _⟩ | ⟨b, c, cur, fps, _, r⟩
  ·exact ⟨_, _, _, rfl⟩
  ·exact ⟨_, _, _, r.val⟩
 rw [opP_append, sz.el, Bd_some, hs, hv, asSl_sl, Bd_some, htx, Bd_some, if_pos rfl, hq, asI_int, Bd_some]
 refine ⟨by rw [sz.one]; rfl, h0, by show m * 24 ≤ _; omega, by omega, ?_⟩
 have hz : (Builtin.zeroCells (Value.slice none 0 0).cells m.toNat).toList = List.replicate m.toNat (Value.slice none 0 0) := by
  simp [Builtin.zeroCells, Value.cells]
  apply List.ext_getElem
  ·simp
  ·intro j h1 h2
   simp [Nat.mod_one]
 have := append_many (E := O1) (T := TT) (us := List.replicate m.toNat (Value.slice none 0 0)) (ys := List.replicate m.toNat ([] : List Int)) sz ho hn (by simp) (fun j hj hj' h'' => by simp only [List.getElem_replicate]; exact OS.nil) (fun u hu => by rw [(List.mem_replicate.1 hu).2]; rfl) (by simpa using hlen) hv (j := ⟨((TT 22).map (·.desc)).getD .bool, 1, 24, .slice none 0 0⟩) rfl rfl rfl _ hk
 rw [← hz, List.length_replicate] at this
 exact this
end
theorem nilS26 : sliceV TT 26 (.slice none 0 0) none (some (.int .i64 0)) none = some (.slice none 0 0) := by kernel_rfl
theorem capN26 : capV TT 26 (.slice none 0 0) = some (.int .i64 0) := by kernel_rfl
theorem lenN26 : lenV TT 26 (.slice none 0 0) = some (.int .i64 0) := by kernel_rfl
theorem flat_take {α : Type} {L : List (List α)} {k : Nat} (h : k < L.length) : (L.take k).flatten ++ L.getD k default = (L.take (k + 1)).flatten := by
 rw [List.take_succ_eq_append_getElem h, List.flatten_append, List.getD_eq_getElem?_getD, List.getElem?_eq_getElem h]; simp
theorem flat_le {α : Type} (L : List (List α)) (k : Nat) : (L.take k).flatten.length ≤ L.flatten.length := by
 conv => rhs; rw [← List.take_append_drop k L, List.flatten_append, List.length_append]
 omega
theorem flat_end {α : Type} {L : List (List α)} {k : Nat} (h : ¬ k < L.length) : (L.take k).flatten = L.flatten := by rw [List.take_of_length_le (by omega)]
theorem lv_bnd {X : Fl} (h : IsF X) {n i : Int} (hn : 0 ≤ n ∧ n ≤ (X.c.dims.length : Int) - 1) (hi : 0 ≤ i ∧ i < dimP X.c n) : 0 ≤ lvP X n i ∧ lvP X n i ≤ 5 := by
 have h1 := h.ln
 have h2 := h.rl n.toNat (by omega)
 have h3 := h.rr n.toNat (by omega)
 have hd : dimP X.c n = X.c.dims.getD n.toNat 0 := by rw [dimP, if_pos (in3_iff.2 ⟨by omega, by omega⟩)]
 have hl : i.toNat < (X.lv.getD n.toNat default).length := by omega
 have h4 := List.all_eq_true.1 h3 _ (List.getElem_mem hl)
 unfold lvP
 rw [List.getD_eq_getElem?_getD, List.getElem?_eq_getElem hl]
 exact in3_iff.1 h4
set_option maxRecDepth 100000 in
theorem grow2_ok (n : Int) (h : Heap) (hn : 0 ≤ n ∧ n ≤ 1000) : CallA Try.prog 206 #[.slice none 0 0, .int .i64 n] h fun v' h' => ∃ w f, v' = w ∧ O2 h' w [] f ∧ Fresh h.size f ∧ Ext h h' := by
 refine callA_intro TTok (args := [_, _]) Try.func206 (by kernel_rfl) rfl 27 rfl (by simp) [.tmp 4] rfl ?_
 simp only [idxs, Nat.reduceAdd]
 refine den_seq ?_
 refine den_region TTok ?_
 intro K hK
 simp -implicitDefEqProofs (disch := first | decide | assumption | omega) only [go_sem, wrap_id, capN26, lenN26]
 refine hK _ _ ?_
 clear hK K
 refine den_seq ?_
 refine den_seq ?_
 refine den_region TTok ?_
 intro K hK
 simp -implicitDefEqProofs (disch := first | decide | assumption | omega) only [go_sem, wrap_id, capN26, lenN26]
 refine hK _ _ ?_
 clear hK K
 refine den_cond rfl (fun c0 => ?_) (fun c0 => ?_)
 ·try simp only [decide_eq_true_eq, decide_eq_false_iff_not, beq_iff_eq, beq_eq_false_iff_ne, bne_iff_ne, ne_eq, Bool.not_eq_true', Bool.not_eq_false', Bool.and_eq_true, Bool.or_eq_true, bne_eq_false_iff_eq] at c0
  exact absurd c0 (by omega)
 ·try simp only [decide_eq_true_eq, decide_eq_false_iff_not, beq_iff_eq, beq_eq_false_iff_ne, bne_iff_ne, ne_eq, Bool.not_eq_true', Bool.not_eq_false', Bool.and_eq_true, Bool.or_eq_true, bne_eq_false_iff_eq] at c0
  refine den_skip ?_
  refine den_seq ?_
  refine den_seq ?_
  refine den_region TTok ?_
  intro K hK
  simp -implicitDefEqProofs (disch := first | decide | assumption | omega) only [go_sem, wrap_id, capN26, lenN26]
  refine hK _ _ ?_
  clear hK K
  refine den_seq ?_
  refine den_region TTok ?_
  intro K hK
  simp -implicitDefEqProofs (disch := first | decide | assumption | omega) only [go_sem, wrap_id, capN26, lenN26]
  refine hK _ _ ?_
  clear hK K
  refine den_cond rfl (fun c1 => ?_) (fun c1 => ?_)
  ·try simp only [decide_eq_true_eq, decide_eq_false_iff_not, beq_iff_eq, beq_eq_false_iff_ne, bne_iff_ne, ne_eq, Bool.not_eq_true', Bool.not_eq_false', Bool.and_eq_true, Bool.or_eq_true, bne_eq_false_iff_eq] at c1
   refine den_region TTok ?_
   intro K hK
   simp -implicitDefEqProofs (disch := first | decide | assumption | omega) only [go_sem, wrap_id, capN26, lenN26, nilS26, Option.map_some, Option.map_none]
   have hnilg : O2 h (.slice none 0 0) [] [] := OS.nil
   have hfnilg : Fresh h.size [] := Fresh.nil _
   have hlhnilg := OS.lt hnilg
   refine op_appendZ2 (m := n - (0 - 0)) (by kernel_rfl) hnilg hfnilg.nodup rfl (by omega) (by simp; omega) rfl ?_
   intro v5_5 h5_5 fp5_5 ho5_5 hn5_5 hs5_5 c5_5
   have hsz5_5 := c5_5.size
   have hfho5_5 : Fresh h.size fp5_5 := Fresh.appd hfnilg (Fresh.nil h.size) (by omega) (by omega) hn5_5 hs5_5
   have := c5_5.size
   have hlho5_5 := OS.lt ho5_5
   obtain ⟨vt, ft, het, hot, hnt, hst⟩ := OS.takeV ho5_5 hfho5_5.nodup sl26 (k := .i64) (hi := 0) (Int.le_refl 0) (Int.natCast_nonneg _)
   try simp -implicitDefEqProofs (disch := first | decide | assumption | omega) only [go_sem, RdS.len (OS.rd ho5_5) sl26, RdS.idx (OS.rd ho5_5) sl26, RdS.cellN (OS.rd ho5_5), RdS.cells (OS.rd ho5_5), wrap_id, capN26, lenN26, nilS26, Option.map_some, Option.map_none, het]
   refine hK _ _ ?_
   clear hK K
   refine den_seq ?_
   refine den_region TTok ?_
   intro K hK
   simp -implicitDefEqProofs (disch := first | decide | assumption | omega) only [go_sem, wrap_id, capN26, lenN26]
   refine hK _ _ ?_
   clear hK K
   refine den_ret ?_
   simp (disch := decide) only [resP_1, puts_same, puts_ne]
   exact ⟨_, _, rfl, hot, ⟨hnt, fun b hb => hfho5_5.ge b (hst b hb)⟩, Chg.ext c5_5⟩
  ·try simp only [decide_eq_true_eq, decide_eq_false_iff_not, beq_iff_eq, beq_eq_false_iff_ne, bne_iff_ne, ne_eq, Bool.not_eq_true', Bool.not_eq_false', Bool.and_eq_true, Bool.or_eq_true, bne_eq_false_iff_eq] at c1
   refine den_skip ?_
   refine den_seq ?_
   refine den_region TTok ?_
   intro K hK
   simp -implicitDefEqProofs (disch := first | decide | assumption | omega) only [go_sem, wrap_id, capN26, lenN26]
   refine hK _ _ ?_
   clear hK K
   refine den_ret ?_
   simp (disch := decide) only [resP_1, puts_same, puts_ne]
   exact ⟨.slice none 0 0, [], rfl, OS.nil, Fresh.nil _, (Ext.refl _)⟩

set_option maxRecDepth 100000 in
set_option maxHeartbeats 4000000 in
theorem concat2_ok (vL : Value) (L : List (List (List Int))) (h : Heap) (rL : R3 h vL L) (hl : L.length ≤ 1000 ∧ L.flatten.length ≤ 1000) : CallA Try.prog 146 #[vL] h fun v' h' => ∃ w0, v' = w0 ∧ R2 h' w0 (L.flatten) ∧ Ext h h' := by
 have hleL := RdS.le rL
 refine callA_intro TTok (args := [_]) Try.func146 (by kernel_rfl) rfl 36 rfl (by simp) [.tmp 2] rfl ?_
 simp only [idxs, Nat.reduceAdd]
 refine den_seq ?_
 refine den_region TTok ?_
 intro K hK
 simp -implicitDefEqProofs (disch := first | decide | assumption | omega) only [go_sem, wrap_id]
 refine hK _ _ ?_
 clear hK K
 refine den_seq ?_
 refine den_region TTok ?_
 intro K hK
 simp -implicitDefEqProofs (disch := first | decide | assumption | omega) only [go_sem, wrap_id]
 refine hK _ _ ?_
 clear hK K
 refine den_seq ?_
 refine den_seq ?_
 refine den_region TTok ?_
 intro K hK
 simp -implicitDefEqProofs (disch := first | decide | assumption | omega) only [go_sem, RdS.len rL sl23, RdS.idx rL sl23, RdS.cellB rL (HPres.refl _), RdS.cells rL, wrap_id]
 refine hK _ _ ?_
 clear hK K
 refine den_block ?_
 refine den_sel [3, 11, 0, 9, 10] ?_
 intro env_1
 simp only [go_sem]
 refine den_loopS (σ := Nat × Int) (fun st_ => [(3, .int .i64 st_.2), (11, .int .i64 (st_.1 : Int))]) (fun st_ H => (st_.1 ≤ L.length) ∧ (st_.2 = (((L.take st_.1).flatten.length : Nat) : Int)) ∧ (Ext h H)) (fun st_ => L.length - st_.1) (0, 0) ?_ ?_
 ·exact ⟨by omega, by simp, Ext.refl _⟩
 ·rintro ⟨k, z⟩ h4 ee3 ⟨hk, hz, cL2⟩
  dsimp only at hk hz cL2
  have := Ext.size cL2
  have eB := cL2
  simp only [List.cons_append, List.nil_append]
  have hfk0 := flat_le L k
  refine den_seq ?_
  refine den_region TTok ?_
  intro K hK
  simp -implicitDefEqProofs (disch := first | decide | assumption | omega) only [go_sem, wrap_id]
  refine hK _ _ ?_
  clear hK K
  refine den_seq ?_
  refine den_cond rfl (fun c0 => ?_) (fun c0 => ?_)
  ·try simp only [decide_eq_true_eq, decide_eq_false_iff_not, beq_iff_eq, beq_eq_false_iff_ne, bne_iff_ne, ne_eq, Bool.not_eq_true', Bool.not_eq_false', Bool.and_eq_true, Bool.or_eq_true, bne_eq_false_iff_eq] at c0
   refine den_skip ?_
   refine den_seq ?_
   refine den_block ?_
   refine den_seq ?_
   refine den_region TTok ?_
   intro K hK
   have hr5 := RdS.rowN rL k (by omega)
   have hlhr5 := RdS.le hr5
   simp -implicitDefEqProofs (disch := first | decide | assumption | omega) only [go_sem, ld26, RdS.len rL sl23, RdS.idx rL sl23, RdS.cellB rL (Ext.pres eB), RdS.cells rL, RdS.len hr5 sl26, RdS.idx hr5 sl26, RdS.cellB hr5 (Ext.pres eB), RdS.cells hr5, wrap_id]
   refine hK _ _ ?_
   clear hK K
   refine den_seq ?_
   have hfk := flat_le L k
   have hfk1 := flat_le L (k + 1)
   have hfs := flat_take (L := L) (k := k) (by omega)
   have hfl := congrArg List.length hfs
   rw [List.length_append] at hfl
   refine den_region TTok ?_
   intro K hK
   simp -implicitDefEqProofs (disch := first | decide | assumption | omega) only [go_sem, RdS.len hr5 sl26, RdS.idx hr5 sl26, RdS.cellB hr5 (Ext.pres eB), RdS.cells hr5, wrap_id]
   refine hK _ _ ?_
   clear hK K
   refine den_seq ?_
   refine den_region TTok ?_
   intro K hK
   simp -implicitDefEqProofs (disch := first | decide | assumption | omega) only [go_sem, wrap_id]
   refine hK _ _ ?_
   clear hK K
   refine den_cond rfl (fun c1 => ?_) (fun c1 => ?_)
   ·try simp only [decide_eq_true_eq, decide_eq_false_iff_not, beq_iff_eq, beq_eq_false_iff_ne, bne_iff_ne, ne_eq, Bool.not_eq_true', Bool.not_eq_false', Bool.and_eq_true, Bool.or_eq_true, bne_eq_false_iff_eq] at c1
    exact absurd c1 (by omega)
   ·try simp only [decide_eq_true_eq, decide_eq_false_iff_not, beq_iff_eq, beq_eq_false_iff_ne, bne_iff_ne, ne_eq, Bool.not_eq_true', Bool.not_eq_false', Bool.and_eq_true, Bool.or_eq_true, bne_eq_false_iff_eq] at c1
    refine den_skip ?_
    refine den_blk ?_
    refine den_region TTok ?_
    intro K hK
    simp -implicitDefEqProofs (disch := first | decide | assumption | omega) only [go_sem, wrap_id]
    refine hK _ _ ?_
    clear hK K
    refine den_stop ?_
    exact ⟨(k + 1, z + ((L.getD k default).length : Int)), by simp [HasL, puts_at], ⟨by first | omega | (dsimp only; omega), by dsimp only; omega, cL2⟩, by first | omega | (dsimp only; omega)⟩
  ·try simp only [decide_eq_true_eq, decide_eq_false_iff_not, beq_iff_eq, beq_eq_false_iff_ne, bne_iff_ne, ne_eq, Bool.not_eq_true', Bool.not_eq_false', Bool.and_eq_true, Bool.or_eq_true, bne_eq_false_iff_eq] at c0
   refine den_exit ?_
   refine denX_code ?_
   refine denX_stop ?_
   refine denX_hit ?_
   refine den_seq ?_
   refine den_region TTok ?_
   intro K hK
   simp -implicitDefEqProofs (disch := first | decide | assumption | omega) only [go_sem, wrap_id]
   try simp -implicitDefEqProofs (disch := first | decide | assumption | omega) only [go_sem, wrap_id]
   refine CallA.mono (grow2_ok z _ (by omega)) ?_
   intro vw9_1 h9_1
   rintro ⟨zw9_1, fw9_1, rfl, how9_1, hfw9_1, e9_1⟩
   have := Ext.size e9_1
   replace eB := Ext.trans eB e9_1
   have hlhow9_1 := OS.lt how9_1
   try simp -implicitDefEqProofs (disch := first | decide | assumption | omega) only [go_sem, RdS.len (OS.rd how9_1) sl26, RdS.idx (OS.rd how9_1) sl26, RdS.cellN (OS.rd how9_1), RdS.cells (OS.rd how9_1), wrap_id]
   refine hK _ _ ?_
   clear hK K
   refine den_seq ?_
   refine den_seq ?_
   refine den_region TTok ?_
   intro K hK
   simp -implicitDefEqProofs (disch := first | decide | assumption | omega) only [go_sem, RdS.len rL sl23, RdS.idx rL sl23, RdS.cellB rL (Ext.pres eB), RdS.cells rL, wrap_id]
   refine hK _ _ ?_
   clear hK K
   refine den_block ?_
   replace how9_1 : O2R h _ _ _ _ := O2R.nil how9_1
   refine den_sel [6, 27, 25, 26] ?_
   intro env_6
   simp only [go_sem]
   refine den_loopS (σ := Nat × Value × List Nat) (fun st_ => [(6, st_.2.1), (27, .int .i64 (st_.1 : Int))]) (fun st_ H => (st_.1 ≤ L.length) ∧ (O2R h H st_.2.1 ((L.take st_.1).flatten) st_.2.2) ∧ (Fresh (h4.size) st_.2.2) ∧ (Sub fw9_1 h9_1.size st_.2.2) ∧ (Chg fw9_1 h9_1 H)) (fun st_ => L.length - st_.1) (0, vw9_1, fw9_1) ?_ ?_
   ·exact ⟨by first | (simp; done) | (dsimp only; omega) | (simp; omega), by simpa using how9_1, hfw9_1, Sub.refl, Chg.refl _ _⟩
   ·rintro ⟨k, vhO, fphO⟩ h9 ee8 ⟨hi0, hO, hfhO, sbhO, cL7⟩
    dsimp only at hi0 hO hfhO sbhO cL7
    have := cL7.size
    replace eB := Ext.then eB cL7 (ge_of hfw9_1 (by omega))
    have hlhO := OS.lt hO
    simp only [List.cons_append, List.nil_append]
    refine den_seq ?_
    refine den_region TTok ?_
    intro K hK
    simp -implicitDefEqProofs (disch := first | decide | assumption | omega) only [go_sem, wrap_id]
    refine hK _ _ ?_
    clear hK K
    refine den_seq ?_
    refine den_cond rfl (fun c2 => ?_) (fun c2 => ?_)
    ·try simp only [decide_eq_true_eq, decide_eq_false_iff_not, beq_iff_eq, beq_eq_false_iff_ne, bne_iff_ne, ne_eq, Bool.not_eq_true', Bool.not_eq_false', Bool.and_eq_true, Bool.or_eq_true, bne_eq_false_iff_eq] at c2
     refine den_skip ?_
     refine den_seq ?_
     refine den_block ?_
     refine den_seq ?_
     refine den_region TTok ?_
     intro K hK
     have hr10 := RdS.rowN rL k (by omega)
     have hlhr10 := RdS.le hr10
     simp -implicitDefEqProofs (disch := first | decide | assumption | omega) only [go_sem, ld26, RdS.len rL sl23, RdS.idx rL sl23, RdS.cellB rL (Ext.pres eB), RdS.cells rL, RdS.len hr10 sl26, RdS.idx hr10 sl26, RdS.cellB hr10 (Ext.pres eB), RdS.cells hr10, wrap_id]
     refine hK _ _ ?_
     clear hK K
     have hfk := flat_le L k
     have hfk1 := flat_le L (k + 1)
     have hfs := flat_take (L := L) (k := k) (by omega)
     have hfl := congrArg List.length hfs
     rw [List.length_append] at hfl
     refine den_region TTok ?_
     intro K hK
     simp -implicitDefEqProofs (disch := first | decide | assumption | omega) only [go_sem, RdS.len hr10 sl26, RdS.idx hr10 sl26, RdS.cellB hr10 (Ext.pres eB), RdS.cells hr10, wrap_id]
     refine op_appendM sz26 hO hfhO.nodup (RdS.pres hr10 (Ext.pres eB)) rfl (fun j hj => (ER.row (H := h9) hr10 eB hj).2.1.1) (fun j hj h'' => by rw [getD_elemR hj]; exact ER.row hr10 eB hj) (by first | omega | (simp; omega)) rfl ?_
     intro v13_2 h13_2 fp13_2 ho13_2 hn13_2 hs13_2 c13_2
     have hsz13_2 := c13_2.size
     have hfho13_2 : Fresh h4.size fp13_2 := Fresh.appd hfhO (Fresh.nil h9.size) (by omega) (by omega) hn13_2 hs13_2
     have sb11 : Sub fw9_1 h9_1.size fp13_2 := Sub.grow sbhO Sub.nil (by omega) hs13_2
     have := c13_2.size
     replace eB := Ext.then eB c13_2 (ge_of hfhO (by omega))
     replace cL7 := Chg.step cL7 c13_2 sbhO
     have hlho13_2 := OS.lt ho13_2
     try simp -implicitDefEqProofs (disch := first | decide | assumption | omega) only [go_sem, wrap_id]
     refine hK _ _ ?_
     clear hK K
     refine den_blk ?_
     refine den_region TTok ?_
     intro K hK
     simp -implicitDefEqProofs (disch := first | decide | assumption | omega) only [go_sem, wrap_id]
     refine hK _ _ ?_
     clear hK K
     refine den_stop ?_
     rw [hfs] at ho13_2
     exact ⟨(k + 1, v13_2, fp13_2), by simp [HasL, puts_at], ⟨by first | omega | (dsimp only; omega), ho13_2, hfho13_2, sb11, cL7⟩, by first | omega | (dsimp only; omega)⟩
    ·try simp only [decide_eq_true_eq, decide_eq_false_iff_not, beq_iff_eq, beq_eq_false_iff_ne, bne_iff_ne, ne_eq, Bool.not_eq_true', Bool.not_eq_false', Bool.and_eq_true, Bool.or_eq_true, bne_eq_false_iff_eq] at c2
     refine den_exit ?_
     refine denX_code ?_
     refine denX_stop ?_
     refine denX_hit ?_
     refine den_seq ?_
     refine den_region TTok ?_
     intro K hK
     simp -implicitDefEqProofs (disch := first | decide | assumption | omega) only [go_sem, wrap_id]
     refine hK _ _ ?_
     clear hK K
     refine den_ret ?_
     simp (disch := decide) only [resP_1, puts_same, puts_ne]
     rw [flat_end (by omega)] at hO
     exact ⟨_, rfl, O2R.rd hO eB, eB⟩
end Go.Proofs.Ytjjjgllbocgkbaa

namespace Go.Proofs.Ytjjjgllbocgkbaa
open Go
section
variable {p : Int} {w : Nat} {T : List (List Int)}
theorem take_getD0 {r : List Int} {w j : Nat} : (r.take w).getD j 0 = if j < w then r.getD j 0 else 0 := by
 rw [List.getD_eq_getElem?_getD, List.getElem?_take]
 split
 ·rw [List.getD_eq_getElem?_getD]
 ·rfl
end
end Go.Proofs.Ytjjjgllbocgkbaa

namespace Go.Proofs.Ytjjjgllbocgkbaa
open Go
theorem g2_app1 {L M : List (List Int)} {i j : Nat} (h : i < L.length) : g2 (L ++ M) i j = g2 L i j := by
 have e : (L ++ M).getD i default = L.getD i default := by rw [List.getD_eq_getElem?_getD, List.getElem?_append_left h, ← List.getD_eq_getElem?_getD]
 rw [g2, g2, e]
theorem g2_app2 {L M : List (List Int)} {i j : Nat} : g2 (L ++ M) (L.length + i) j = g2 M i j := by
 have e : (L ++ M).getD (L.length + i) default = M.getD i default := by rw [List.getD_eq_getElem?_getD, List.getElem?_append_right (by omega), Nat.add_sub_cancel_left, ← List.getD_eq_getElem?_getD]
 rw [g2, g2, e]
theorem apV_app (L M : List (List Int)) (v : Nat → Int) (j : Nat) : apV (L ++ M) v j = apV L v j + apV M (fun i => v (L.length + i)) j := by
 unfold apV
 rw [List.length_append, sm_split, sm_eq (fun i hi => by rw [g2_app1 hi])]
 congr 1
 exact sm_eq fun i _ => by rw [g2_app2]
theorem ech_same {p : Int} {w : Nat} (hP : isP p = true) {A B : List (List Int)} (hA : TB p w A) (hB : TB p w B) (h : ∀ u, Sp p A u ↔ Sp p B u) : ech p A = ech p B := by
 obtain ⟨r, e⟩ := ech_red hP hB
 exact Red.ech hP hA ⟨r, fun i hi => (h _).2 ((Sp.row hi).le e.1), fun i hi => ((h _).1 (Sp.row hi)).le e.2⟩
theorem TB.app {p : Int} {w : Nat} {A B : List (List Int)} (hA : TB p w A) (hB : TB p w B) : TB p w (A ++ B) := fun r hr => (List.mem_append.1 hr).elim (hA r) (hB r)
theorem ech_tb {p : Int} {w : Nat} (hP : isP p = true) {A : List (List Int)} (hA : TB p w A) : TB p w (ech p A) := by obtain ⟨⟨l, r⟩, _⟩ := ech_red hP hA; exact r.tbl
noncomputable def mtP (p : Int) (A B : List (List Int)) (w : Nat) : List (List Int) := (kerQ p (ech p A ++ ech p B)).map fun v => mvP p (ech p A) w (v.take (ech p A).length)
section
variable {p : Int} {w : Nat} {A B : List (List Int)} (hP : isP p = true) (hA : TB p w A) (hB : TB p w B)
include hP hA hB
theorem mt_ker {v : List Int} (hv : v ∈ kerQ p (ech p A ++ ech p B)) : v.length = (ech p A).length + (ech p B).length ∧ Bnd p v ∧ (∀ j, Cg p (apV (ech p A) (fun i => v.getD i 0) j + apV (ech p B) (fun i => v.getD ((ech p A).length + i) 0) j) 0) := by
 have hb := (ech_tb hP hA).app (ech_tb hP hB)
 have h1 := kerQ_tb2 hP hb v hv
 rw [List.length_append] at h1
 refine ⟨h1.1, h1.2, fun j => ?_⟩
 have := kerQ_mem hP hb (Sp.mem hv) j
 rwa [apV_app] at this
theorem mt_row {v : List Int} (hv : v ∈ kerQ p (ech p A ++ ech p B)) : (v.take (ech p A).length).length = (ech p A).length ∧ Bnd p (v.take (ech p A).length) ∧ ∀ j, Cg p ((mvP p (ech p A) w (v.take (ech p A).length)).getD j 0) (apV (ech p A) (fun i => v.getD i 0) j) := by
 obtain ⟨h1, h2, h3⟩ := mt_ker hP hA hB hv
 have hl : (v.take (ech p A).length).length = (ech p A).length := by rw [List.length_take]; omega
 have hb : Bnd p (v.take (ech p A).length) := fun x hx => h2 x (List.mem_of_mem_take hx)
 refine ⟨hl, hb, fun j => ?_⟩
 have hp := isP_two hP
 refine (mvP_cg (by omega) (ech_tb hP hA) hl hb j).trans (Cg.of_eq (sm_eq fun i hi => by dsimp only; rw [take_getD0, if_pos hi]))
theorem mt_tb : TB p w (mtP p A B w) := fun r hr => by
 obtain ⟨v, hv, rfl⟩ := List.mem_map.1 hr
 have hp := isP_two hP
 exact ⟨mvP_len (ech_tb hP hA) _, mvP_bnd (by omega) (ech_tb hP hA) (mt_row hP hA hB hv).2.1⟩
theorem mt_sp {u : Nat → Int} : Sp p (mtP p A B w) u ↔ Sp p A u ∧ Sp p B u := by
 have eA := (ech_red hP hA).2
 have eB := (ech_red hP hB).2
 constructor
 ·intro h
  refine ⟨h.le (Le.of_mem fun x hx => ?_), h.le (Le.of_mem fun x hx => ?_)⟩
  ·obtain ⟨v, hv, rfl⟩ := List.mem_map.1 hx
   exact Sp.cg (mt_row hP hA hB hv).2.2 ((Sp.apV _).le eA.1)
  ·obtain ⟨v, hv, rfl⟩ := List.mem_map.1 hx
   have h2 : Sp p B (apV (ech p B) fun i => v.getD ((ech p A).length + i) 0) := (Sp.apV _).le eB.1
   refine Sp.cg (fun j => ?_) (h2.mul (-1))
   have h3 := (mt_ker hP hA hB hv).2.2 j
   refine ((mt_row hP hA hB hv).2.2 j).trans ?_
   have h4 := Cg.sub h3 (Cg.refl (apV (ech p B) (fun i => v.getD ((ech p A).length + i) 0) j))
   rw [Int.add_sub_cancel] at h4
   exact h4.trans (Cg.of_eq (by omega))
 ·rintro ⟨h1, h2⟩
  obtain ⟨a, ha⟩ := h1.le eA.2
  obtain ⟨b, hb⟩ := h2.le eB.2
  have hbo := (ech_tb hP hA).app (ech_tb hP hB)
  have hk : Sp p (kerQ p (ech p A ++ ech p B)) fun i => if i < (ech p A).length then a i else if i < (ech p A).length + (ech p B).length then -(b (i - (ech p A).length)) else 0 := by
   refine kerQ_sp hP hbo (fun j _ => ?_) (fun k hk => ?_)
   ·have e := apV_app (ech p A) (ech p B) (fun i => if i < (ech p A).length then a i else if i < (ech p A).length + (ech p B).length then -(b (i - (ech p A).length)) else 0) j
    unfold apV at e
    rw [e, sm_eq (g := fun i => a i * g2 (ech p A) i j) (fun i hi => by dsimp only; rw [if_pos hi]), sm_eq (n := (ech p B).length) (g := fun i => -1 * (b i * g2 (ech p B) i j)) (fun i hi => by dsimp only; rw [if_neg (by omega), if_pos (by omega), Nat.add_sub_cancel_left, Int.neg_mul]; omega), sm_mul]
    have h3 := Cg.sub (ha j).symm (hb j).symm
    rw [Int.sub_self] at h3
    exact (Cg.of_eq (by omega)).trans h3
   ·rw [List.length_append] at hk
    rw [if_neg (by omega), if_neg (by omega)]; exact Cg.refl _
  obtain ⟨c, hc⟩ := hk
  refine ⟨c, fun j => (ha j).trans ?_⟩
  have e : sm (ech p A).length (fun i => (sm (kerQ p (ech p A ++ ech p B)).length fun k => c k * g2 (kerQ p (ech p A ++ ech p B)) k i) * g2 (ech p A) i j) = sm (kerQ p (ech p A ++ ech p B)).length fun k => c k * apV (ech p A) (g2 (kerQ p (ech p A ++ ech p B)) k) j := apV_sm (M := ech p A) _ c (fun k i => g2 (kerQ p (ech p A ++ ech p B)) k i) j
  refine Cg.trans (sm_cg fun i hi => Cg.mul ?_ (Cg.refl _)) ((Cg.of_eq e).trans ?_)
  ·have := hc i
   dsimp only at this
   rwa [if_pos hi] at this
  ·have hl : (mtP p A B w).length = (kerQ p (ech p A ++ ech p B)).length := List.length_map _
   rw [hl]
   refine sm_cg fun k hk => Cg.mul (Cg.refl _) ?_
   rw [mtP, g2_map hk]
   exact ((mt_row hP hA hB (getD_mem hk)).2.2 j).symm
end
def spP (X : Fl) (n q : Int) : List (List Int) := (keptP X n q).map fun z => unitP (dimP X.c n).toNat z.toNat
section
variable {X : Fl} {n q : Int}
theorem sp_len : (spP X n q).length = (keptP X n q).length := by simp [spP]
theorem sp_g2 {z i : Nat} (hz : z < (keptP X n q).length) : g2 (spP X n q) z i = if ((keptP X n q).getD z 0).toNat = i then 1 else 0 := by
 have h := keptP_at hz
 have e : (spP X n q).getD z default = unitP (dimP X.c n).toNat ((keptP X n q).getD z 0).toNat := by
  rw [spP, List.getD_eq_getElem?_getD, List.getElem?_map, List.getElem?_eq_getElem hz, List.getD_eq_getElem?_getD, List.getElem?_eq_getElem hz]; rfl
 rw [g2, e, unitP_get (by omega)]
theorem sp_tb (hF : IsF X) : TB X.c.p (dimP X.c n).toNat (spP X n q) := fun r hr => by
 obtain ⟨z, hz, rfl⟩ := List.mem_map.1 hr
 have hp := isP_two hF.c.p
 refine ⟨by rw [unitP, List.length_set, List.length_replicate], fun x hx => ?_⟩
 rcases List.mem_or_eq_of_mem_set hx with h | h
 ·rw [(List.mem_replicate.1 h).2]; omega
 ·rw [h]; omega
theorem wide_val {v : List Int} {i : Nat} : ∀ {k : Nat}, k ≤ (keptP X n q).length → (wideN (keptP X n q) v (dimP X.c n).toNat k).getD i 0 = sm k fun z => v.getD z 0 * g2 (spP X n q) z i
 | 0, _ => by rw [wideN, zeros_get]; rfl
 | k + 1, hk => by
  have h := keptP_at (X := X) (n := n) (q := q) (k := k) (by omega)
  rw [wideN, getD_set (by rw [wideN_len]; omega), wide_val (k := k) (by omega), sm, sp_g2 (z := k) (by omega)]
  by_cases hi : ((keptP X n q).getD k 0).toNat = i
  ·rw [if_pos hi, if_pos hi, sm_zero (fun z hz => by
    have h1 := kept_lt (X := X) (n := n) (q := q) hz (by omega)
    have h2 := keptP_at (X := X) (n := n) (q := q) (k := z) (by omega)
    rw [sp_g2 (by omega), if_neg (by omega), Int.mul_zero])]; omega
  ·rw [if_neg hi, if_neg hi]; omega
theorem wide_ap (v : List Int) (i : Nat) : (wideN (keptP X n q) v (dimP X.c n).toNat (keptP X n q).length).getD i 0 = apV (spP X n q) (fun z => v.getD z 0) i := by
 rw [wide_val (Nat.le_refl _), apV, sp_len]
theorem rows_g2 (hF : IsF X) {t : Int} (ht : t < 0) (hn : 0 ≤ n ∧ n ≤ (X.c.dims.length : Int) - 1) {z j : Nat} (hz : z < (keptP X n q).length) : g2 (rowsP X n q t) z j = g2 (mapP X.c n) ((keptP X n q).getD z 0).toNat j := by
 have hC := hF.c
 have h := keptP_at hz
 have hd := dimP_bnd hC (n - 1)
 have e : (rowsP X n q t).getD z default = rowT X n ((keptP X n q).getD z 0) t (dimP X.c (n - 1)).toNat := by rw [rowsP, rowsN, getD_map_range _ hz]
 have e2 : rowT X n ((keptP X n q).getD z 0) t (dimP X.c (n - 1)).toNat = (List.range (dimP X.c (n - 1)).toNat).map fun k => entP X n ((keptP X n q).getD z 0) k := by
  unfold rowT
  rw [List.filter_eq_self.2]
  intro k hk
  have hk := List.mem_range.1 hk
  have h0 := dimP_in (X := X.c) (m := n - 1) (by omega)
  have hl := lv_bnd hF (n := n - 1) (i := (k : Int)) (by omega) (by omega)
  rw [decide_eq_false (by omega)]; rfl
 rw [g2, e, e2]
 by_cases hj : j < (dimP X.c (n - 1)).toNat
 ·exact getD_map_range (α := Int) (fun k => entP X n ((keptP X n q).getD z 0) k) hj
 ·rw [getD_out (by simp; omega)]
  have ht := mapP_tbl hC n
  have hr := (ht.2 _ (getD_mem (k := ((keptP X n q).getD z 0).toNat) (by omega))).1
  rw [g2_out]
  rw [hr]
  split <;> omega
theorem ap_kept (hF : IsF X) {t : Int} (ht : t < 0) (hn : 0 ≤ n ∧ n ≤ (X.c.dims.length : Int) - 1) (v : Nat → Int) (j : Nat) : apV (mapP X.c n) (apV (spP X n q) v) j = apV (rowsP X n q t) v j := by
 have e : apV (mapP X.c n) (apV (spP X n q) v) j = sm (spP X n q).length fun k => v k * apV (mapP X.c n) (g2 (spP X n q) k) j := apV_sm (spP X n q).length v (fun k i => g2 (spP X n q) k i) j
 rw [e]
 unfold apV
 rw [rowsP_len, sp_len]
 refine sm_eq fun z hz => ?_
 have h := keptP_at hz
 have hm := (mapP_tbl hF.c n).1
 rw [rows_g2 hF ht hn hz, sm_one (k := ((keptP X n q).getD z 0).toNat) (by omega) (fun i hi hne => by rw [sp_g2 hz, if_neg (fun q => hne q.symm), Int.zero_mul]), sp_g2 hz, if_pos rfl, Int.one_mul]
theorem near_sp (hF : IsF X) (hn : 0 ≤ n ∧ n ≤ (X.c.dims.length : Int) - 1) (hq : q ≤ 5) {u : Nat → Int} : Sp X.c.p (wideP X 6 n q) u ↔ Sp X.c.p (cycP X.c n) u ∧ Sp X.c.p (spP X n q) u := by
 have hC := hF.c
 obtain ⟨hm, ht⟩ := mapP_tbl hC n
 have hr := rows_tbl hC n q (q - 6)
 have hd := dimP_bnd hC n
 constructor
 ·intro h
  have hw : ∀ v : List Int, ∀ j, Cg X.c.p ((wideN (keptP X n q) v (dimP X.c n).toNat (keptP X n q).length).getD j 0) (apV (spP X n q) (fun z => v.getD z 0) j) := fun v j => Cg.of_eq (wide_ap v j)
  refine ⟨h.le (Le.of_mem fun x hx => ?_), h.le (Le.of_mem fun x hx => ?_)⟩
  ·obtain ⟨v, hv, rfl⟩ := List.mem_map.1 hx
   refine kerQ_sp hC.p ht (fun j _ => ?_) (fun k hk => ?_)
   ·have e1 := ap_kept hF (t := q - 6) (q := q) (by omega) hn (fun z => v.getD z 0) j
    have e2 := kerQ_mem hC.p hr (Sp.mem hv) j
    rw [← e1] at e2
    exact (sm_cg fun i _ => Cg.mul (hw v i) (Cg.refl _)).trans e2
   ·rw [getD_out (by rw [wideN_len]; omega)]; exact Cg.refl _
  ·obtain ⟨v, hv, rfl⟩ := List.mem_map.1 hx
   exact Sp.cg (hw v) (Sp.apV _)
 ·rintro ⟨h1, b, hb⟩
  have hb' : ∀ j, Cg X.c.p (u j) (apV (spP X n q) (fun k => if k < (keptP X n q).length then b k else 0) j) := fun j => (hb j).trans (sm_cg fun i hi => Cg.mul (Cg.of_eq (by dsimp only; rw [if_pos (by rw [sp_len] at hi; exact hi)])) (Cg.refl _))
  have hk : Sp X.c.p (kerQ X.c.p (rowsP X n q (q - 6))) fun k => if k < (keptP X n q).length then b k else 0 := by
   refine kerQ_sp hC.p hr (fun j _ => ?_) (fun k hk => ?_)
   ·have e1 := ap_kept hF (t := q - 6) (q := q) (by omega) hn (fun k => if k < (keptP X n q).length then b k else 0) j
    have e2 := kerQ_mem hC.p ht h1 j
    refine (Cg.of_eq e1.symm).trans ((apV_cg (fun i _ => (hb' i).symm) j).trans e2)
   ·rw [rowsP_len] at hk
    rw [if_neg (by omega)]; exact Cg.refl _
  obtain ⟨c, hc⟩ := hk
  refine ⟨c, fun j => (hb' j).trans ?_⟩
  have e : apV (spP X n q) (fun i => sm (kerQ X.c.p (rowsP X n q (q - 6))).length fun k => c k * g2 (kerQ X.c.p (rowsP X n q (q - 6))) k i) j = sm (kerQ X.c.p (rowsP X n q (q - 6))).length fun k => c k * apV (spP X n q) (g2 (kerQ X.c.p (rowsP X n q (q - 6))) k) j := apV_sm _ c (fun k i => g2 (kerQ X.c.p (rowsP X n q (q - 6))) k i) j
  refine (apV_cg (fun i _ => hc i) j).trans ((Cg.of_eq e).trans ?_)
  have hl : (wideP X 6 n q).length = (kerQ X.c.p (rowsP X n q (q - 6))).length := List.length_map _
  rw [hl]
  refine sm_cg fun k hk => Cg.mul (Cg.refl _) (Cg.of_eq ?_)
  rw [wideP, g2_map hk, wide_ap]
theorem near_meet (hF : IsF X) (hn : 0 ≤ n ∧ n ≤ (X.c.dims.length : Int) - 1) (hq : q ≤ 5) : ech X.c.p (mtP X.c.p (cycP X.c n) (spP X n q) (dimP X.c n).toNat) = nearP X 6 n q := by
 have hC := hF.c
 obtain ⟨l, r⟩ := cyc_rr hC n
 refine ech_same hC.p (mt_tb hC.p r.tbl (sp_tb hF)) (wide_tbl hC 6 n q) fun u => ?_
 rw [mt_sp hC.p r.tbl (sp_tb hF), near_sp hF hn hq]
end
end Go.Proofs.Ytjjjgllbocgkbaa

namespace Go.Proofs.Ytjjjgllbocgkbaa
open Go
def bdRows (X : Fl) (n s : Int) : List (List Int) := (keptP X (n + 1) s).map fun z : Int => (mapP X.c (n + 1)).getD z.toNat default
noncomputable def bdsP (X : Fl) (n s : Int) : List (List Int) := ech X.c.p (bdRows X n s)
section
variable {X : Fl} {n s q : Int}
theorem bdRows_tb (hF : IsF X) (hn : 0 ≤ n) : TB X.c.p (dimP X.c n).toNat (bdRows X n s) := fun r hr => by
 obtain ⟨z, hz, rfl⟩ := List.mem_map.1 hr
 obtain ⟨k, hk, rfl⟩ := List.getElem_of_mem hz
 have h := keptP_at hk
 rw [List.getD_eq_getElem?_getD, List.getElem?_eq_getElem hk, Option.getD_some] at h
 obtain ⟨h1, h2⟩ := mapP_tbl hF.c (n + 1)
 have := h2 _ (getD_mem (k := ((keptP X (n + 1) s)[k]).toNat) (by omega))
 rw [if_pos (by omega), Int.add_sub_cancel] at this
 exact this
theorem bdRows_len (hF : IsF X) : (bdRows X n s).length ≤ 8 := by
 have := keptP_len hF (n + 1) s
 rw [bdRows, List.length_map]; omega
theorem bds_tb (hF : IsF X) (hn : 0 ≤ n) : TB X.c.p (dimP X.c n).toNat (bdsP X n s) := ech_tb hF.c.p (bdRows_tb hF hn)
theorem bds_len (hF : IsF X) (hn : 0 ≤ n) : (bdsP X n s).length ≤ 8 := by
 obtain ⟨⟨l, r⟩, _⟩ := ech_red hF.c.p (bdRows_tb hF hn (s := s))
 have h1 := r.le_w
 have h2 := dimP_bnd hF.c n
 unfold bdsP; omega
/-- The row that a kept element has. -/
theorem bd_at (hF : IsF X) {k : Nat} (hk : k < (keptP X (n + 1) s).length) (hn : 0 ≤ n) : n < X.c.maps.length ∧ X.c.maps.getD n.toNat default = mapP X.c (n + 1) ∧ 0 ≤ (keptP X (n + 1) s).getD k 0 ∧ ((keptP X (n + 1) s).getD k 0).toNat < (mapP X.c (n + 1)).length := by
 have h := keptP_at hk
 have h2 := dimP_in (X := X.c) (m := n + 1) (by omega)
 have h3 := hF.c.ml
 have e := mapP_in (X := X.c) (n := n + 1) (by omega) (by omega)
 have h4 := (mapP_tbl hF.c (n + 1)).1
 rw [Int.add_sub_cancel] at e
 exact ⟨by omega, e.symm, h.1, by omega⟩
noncomputable def rkB (X : Fl) (n q s : Int) : Int := if q < 0 then 0 else ((ech X.c.p (nearP X 6 n q ++ bdsP X n s)).length : Int) - ((bdsP X n s).length : Int)
theorem rkb_flat : ([nearP X 6 n q, bdsP X n s] : List (List (List Int))).flatten = nearP X 6 n q ++ bdsP X n s := by simp
theorem rkb_tb (hF : IsF X) (hn : 0 ≤ n) : TB X.c.p (dimP X.c n).toNat (nearP X 6 n q ++ bdsP X n s) := TB.app (near_tbl hF.c 6 n q) (bds_tb hF hn)
theorem rkb_len (hF : IsF X) (hn : 0 ≤ n) : (nearP X 6 n q ++ bdsP X n s).length ≤ 16 ∧ (ech X.c.p (nearP X 6 n q ++ bdsP X n s)).length ≤ 8 := by
 have h1 := near_len hF.c 6 n q
 have h2 := bds_len hF hn (s := s)
 obtain ⟨⟨l, r⟩, _⟩ := ech_red hF.c.p (rkb_tb hF hn (s := s) (q := q))
 have h3 := r.le_w
 have h4 := dimP_bnd hF.c n
 rw [List.length_append]
 omega
end
noncomputable def rbR (X : Fl) (n q s : Int) : Int × Int := if isF X = true then (if in3 n 0 ((X.c.dims.length : Int) - 1) = true ∧ in3 s 0 5 = true ∧ in3 q 0 s = true then (rkB X n q s, 0) else (0, 2)) else (0, 1)

set_option maxRecDepth 100000 in
set_option maxHeartbeats 4000000 in
theorem iBds_ok (vX : Value) (X : Fl) (n : Int) (s : Int) (h : Heap) (rX : RF h vX X) (hF : IsF X) (hn : 0 ≤ n ∧ n ≤ (X.c.dims.length : Int) - 1) (hs : 0 ≤ s ∧ s ≤ 5) : CallA Try.prog 157 #[vX, .int .i64 n, .int .i64 s] h fun v' h' => ∃ w0 f0, v' = w0 ∧ O2 h' w0 (bdsP X n s) f0 ∧ Fresh h.size f0 ∧ Ext h h' := by
 obtain ⟨vdX, vmX, vvX, rfl, hdX, hmX, hvX⟩ := rX
 have hledX := RdS.le hdX
 have hlemX := RdS.le hmX
 have hlevX := RdS.le hvX
 have hC := hF.c
 have hlC := hC.len
 have hml := hC.ml
 have hln := hF.ln
 have hP := hC.p
 have hpb := isP_bnd hC.p
 have hdb := dimP_bnd hC n
 have hdb1 := dimP_bnd hC (n + 1)
 have hkl := keptP_len hF (n + 1) s
 refine callA_intro TTok (args := [_, _, _]) Try.func157 (by kernel_rfl) rfl 39 rfl (by simp) [.tmp 6] rfl ?_
 simp only [idxs, Nat.reduceAdd]
 refine den_seq ?_
 refine den_region TTok ?_
 intro K hK
 simp -implicitDefEqProofs (disch := first | decide | assumption | omega) only [go_sem, wrap_id]
 refine op_box (cs := #[.int .i64 (X.c.p), vdX, vmX, vvX]) rfl ?_
 intro h0_0 e0_0 hb0_0 z0_0
 have := Ext.size e0_0
 have eB := e0_0
 have hfhb0_0 : Fresh h.size [h.size] := Fresh.one _
 have hlhb0_0 := one_lt (show h.size < h0_0.size by omega)
 try simp -implicitDefEqProofs (disch := first | decide | assumption | omega) only [go_sem, wrap_id]
 refine hK _ _ ?_
 clear hK K
 refine den_seq ?_
 refine den_region TTok ?_
 intro K hK
 simp -implicitDefEqProofs (disch := first | decide | assumption | omega) only [go_sem, wrap_id]
 refine op_bs0 sz26 O1 ?_
 intro v1_0 h1_0 ho1_0 e1_0
 replace hb0_0 := BoxAt.ext hb0_0 e1_0
 have := Ext.size e1_0
 replace eB := Ext.trans eB e1_0
 have hfho1_0 : Fresh h0_0.size [h0_0.size] := Fresh.one _
 have hlho1_0 := OS.lt ho1_0
 try simp -implicitDefEqProofs (disch := first | decide | assumption | omega) only [go_sem, RdS.len (OS.rd ho1_0) sl26, RdS.idx (OS.rd ho1_0) sl26, RdS.cellN (OS.rd ho1_0), RdS.cells (OS.rd ho1_0), wrap_id]
 refine hK _ _ ?_
 clear hK K
 refine den_seq ?_
 refine den_seq ?_
 refine den_region TTok ?_
 intro K hK
 simp -implicitDefEqProofs (disch := first | decide | assumption | omega) only [go_sem, ld33, RdS.len hdX sl22, RdS.idx hdX sl22, R1.intB hdX (Ext.pres eB), RdS.cells hdX, RdS.len hmX sl23, RdS.idx hmX sl23, RdS.cellB hmX (Ext.pres eB), RdS.cells hmX, RdS.len hvX sl26, RdS.idx hvX sl26, RdS.cellB hvX (Ext.pres eB), RdS.cells hvX, BoxAt.cell hb0_0, wrap_id]
 try simp -implicitDefEqProofs (disch := first | decide | assumption | omega) only [go_sem, wrap_id]
 refine CallA.mono (iKept_ok _ X (n + (1 : Int)) s _ ⟨_, _, _, rfl, (RdS.pres hdX (Ext.pres eB)), (RdS.pres hmX (Ext.pres eB)), (RdS.pres hvX (Ext.pres eB))⟩ hF (by omega)) ?_
 intro vw2_4_0 h2_4
 rintro ⟨zvw2_4_0, fw2_4_0, rfl, how2_4_0, hfw2_4_0, e2_4⟩
 replace ho1_0 := OS.ext ho1_0 e2_4
 replace hb0_0 := BoxAt.ext hb0_0 e2_4
 have := Ext.size e2_4
 replace eB := Ext.trans eB e2_4
 have hlhow2_4_0 := OS.lt how2_4_0
 try simp -implicitDefEqProofs (disch := first | decide | assumption | omega) only [go_sem, RdS.len (OS.rd how2_4_0) sl22, RdS.idx (OS.rd how2_4_0) sl22, R1.intN (OS.rd how2_4_0), RdS.cells (OS.rd how2_4_0), wrap_id]
 refine hK _ _ ?_
 clear hK K
 refine den_block ?_
 replace ho1_0 : O2R h _ _ _ _ := O2R.nil ho1_0
 refine den_sel [7, 17, 1, 3, 15, 16] ?_
 intro env_1
 simp only [go_sem]
 refine den_loopS (σ := Nat × Value × List Nat) (fun st_ => [(7, st_.2.1), (17, .int .i64 (st_.1 : Int))]) (fun st_ H => (st_.1 ≤ (keptP X (n + 1) s).length) ∧ (O2R h H st_.2.1 (((keptP X (n + 1) s).take st_.1).map (fun z : Int => (mapP X.c (n + 1)).getD z.toNat default)) st_.2.2) ∧ (Fresh (h0_0.size) st_.2.2) ∧ (Sub [h0_0.size] h2_4.size st_.2.2) ∧ (Chg [h0_0.size] h2_4 H)) (fun st_ => (keptP X (n + 1) s).length - st_.1) (0, v1_0, [h0_0.size]) ?_ ?_
 ·exact ⟨by first | (simp; done) | (dsimp only; omega) | (simp; omega), by simpa using ho1_0, hfho1_0, Sub.refl, Chg.refl _ _⟩
 ·rintro ⟨k, vhL, fphL⟩ h4 ee3 ⟨hi0, hL, hfhL, sbhL, cL2⟩
  dsimp only at hi0 hL hfhL sbhL cL2
  replace how2_4_0 := OS.chg how2_4_0 cL2 (apart_gt hfw2_4_0 hlho1_0 (by omega))
  replace hb0_0 := BoxAt.chgA hb0_0 cL2 (apart_lt hlhb0_0 hfho1_0 (by omega))
  have := cL2.size
  replace eB := Ext.then eB cL2 (ge_of hfho1_0 (by omega))
  have ap5 : Apart fw2_4_0 fphL := Apart.sub_ hlhow2_4_0 (by omega) (apart_gt hfw2_4_0 hlho1_0 (by omega)) sbhL
  have hlhL := OS.lt hL
  simp only [List.cons_append, List.nil_append]
  refine den_seq ?_
  refine den_region TTok ?_
  intro K hK
  simp -implicitDefEqProofs (disch := first | decide | assumption | omega) only [go_sem, wrap_id]
  refine hK _ _ ?_
  clear hK K
  refine den_seq ?_
  refine den_cond rfl (fun c0 => ?_) (fun c0 => ?_)
  ·try simp only [decide_eq_true_eq, decide_eq_false_iff_not, beq_iff_eq, beq_eq_false_iff_ne, bne_iff_ne, ne_eq, Bool.not_eq_true', Bool.not_eq_false', Bool.and_eq_true, Bool.or_eq_true, bne_eq_false_iff_eq] at c0
   refine den_skip ?_
   refine den_seq ?_
   refine den_block ?_
   refine den_seq ?_
   refine den_region TTok ?_
   intro K hK
   simp -implicitDefEqProofs (disch := first | decide | assumption | omega) only [go_sem, ld2, RdS.len (OS.rd how2_4_0) sl22, RdS.idx (OS.rd how2_4_0) sl22, R1.intN (OS.rd how2_4_0), RdS.cells (OS.rd how2_4_0), wrap_id]
   refine hK _ _ ?_
   clear hK K
   obtain ⟨hb1, hb2, hb3, hb4⟩ := bd_at hF (n := n) (s := s) (k := k) (by omega) (by omega)
   rw [← hb2] at hb4
   have hmt : (((keptP X (n + 1) s).take k).map (fun z : Int => (mapP X.c (n + 1)).getD z.toNat default)).length ≤ 8 := by rw [List.length_map, List.length_take]; omega
   refine den_region TTok ?_
   intro K hK
   have hr6 := RdS.rowN hmX (n).toNat (by omega)
   have hlhr6 := RdS.le hr6
   have hr7 := RdS.rowN hr6 (((keptP X (n + (1 : Int)) s).getD k 0)).toNat (by omega)
   have hlhr7 := RdS.le hr7
   simp -implicitDefEqProofs (disch := first | decide | assumption | omega) only [go_sem, fa31_2, fa33_0, ld23, ld26, ld22, RdS.len hdX sl22, RdS.idx hdX sl22, R1.intB hdX (Ext.pres eB), RdS.cells hdX, RdS.len hmX sl23, RdS.idx hmX sl23, RdS.cellB hmX (Ext.pres eB), RdS.cells hmX, RdS.len hvX sl26, RdS.idx hvX sl26, RdS.cellB hvX (Ext.pres eB), RdS.cells hvX, RdS.len hr6 sl26, RdS.idx hr6 sl26, RdS.cellB hr6 (Ext.pres eB), RdS.cells hr6, RdS.len hr7 sl22, RdS.idx hr7 sl22, R1.intB hr7 (Ext.pres eB), RdS.cells hr7, BoxAt.cell hb0_0, wrap_id]
   refine op_bs1 sz26 rfl (RdS.cells hr7) ?_
   try simp -implicitDefEqProofs (disch := first | decide | assumption | omega) only [go_sem, wrap_id]
   refine op_append1 sz26 hL hfhL.nodup (ER.one hr7) List.nodup_nil (Apart.nil _) (by first | omega | (simp; omega)) rfl rfl ?_
   intro v5_11 h5_11 fp5_11 ho5_11 hn5_11 hs5_11 c5_11
   have hsz5_11 := c5_11.size
   have hfho5_11 : Fresh h0_0.size fp5_11 := Fresh.appd hfhL (Fresh.nil h4.size) (by omega) (by omega) hn5_11 hs5_11
   have sb8 : Sub [h0_0.size] h2_4.size fp5_11 := Sub.grow sbhL Sub.nil (by omega) hs5_11
   replace how2_4_0 := OS.chg how2_4_0 c5_11 ap5
   replace hb0_0 := BoxAt.chgA hb0_0 c5_11 (apart_lt hlhb0_0 hfhL (by omega))
   have := c5_11.size
   replace eB := Ext.then eB c5_11 (ge_of hfhL (by omega))
   replace cL2 := Chg.step cL2 c5_11 sbhL
   have ap9 : Apart fw2_4_0 fp5_11 := Apart.grow hlhow2_4_0 (by omega) ap5 (Apart.nil _) hs5_11
   have hlho5_11 := OS.lt ho5_11
   try simp -implicitDefEqProofs (disch := first | decide | assumption | omega) only [go_sem, wrap_id]
   refine hK _ _ ?_
   clear hK K
   refine den_blk ?_
   refine den_region TTok ?_
   intro K hK
   simp -implicitDefEqProofs (disch := first | decide | assumption | omega) only [go_sem, wrap_id]
   refine hK _ _ ?_
   clear hK K
   refine den_stop ?_
   rw [hb2, map_takeL (f := fun z : Int => (mapP X.c (n + 1)).getD z.toNat default) (d := 0) (by omega)] at ho5_11
   exact ⟨(k + 1, v5_11, fp5_11), by simp [HasL, puts_at], ⟨by first | omega | (dsimp only; omega), ho5_11, hfho5_11, sb8, cL2⟩, by first | omega | (dsimp only; omega)⟩
  ·try simp only [decide_eq_true_eq, decide_eq_false_iff_not, beq_iff_eq, beq_eq_false_iff_ne, bne_iff_ne, ne_eq, Bool.not_eq_true', Bool.not_eq_false', Bool.and_eq_true, Bool.or_eq_true, bne_eq_false_iff_eq] at c0
   refine den_exit ?_
   refine denX_code ?_
   refine denX_stop ?_
   refine denX_hit ?_
   refine den_seq ?_
   rw [map_takeE (by omega)] at hL
   change OS _ _ _ _ (bdRows X n s) _ at hL
   have hredT := bdRows_tb hF (n := n) (s := s) (by omega)
   have hbrl := bdRows_len hF (n := n) (s := s)
   refine den_region TTok ?_
   intro K hK
   simp -implicitDefEqProofs (disch := first | decide | assumption | omega) only [go_sem, fa31_0, fa33_0, ld2, RdS.len hdX sl22, RdS.idx hdX sl22, R1.intB hdX (Ext.pres eB), RdS.cells hdX, RdS.len hmX sl23, RdS.idx hmX sl23, RdS.cellB hmX (Ext.pres eB), RdS.cells hmX, RdS.len hvX sl26, RdS.idx hvX sl26, RdS.cellB hvX (Ext.pres eB), RdS.cells hvX, BoxAt.cell hb0_0, wrap_id]
   try simp -implicitDefEqProofs (disch := first | decide | assumption | omega) only [go_sem, wrap_id]
   refine CallA.mono (iReduce_ok _ X.c.p (bdRows X n s) _ (O2R.rd hL eB) hP hredT (by omega) (by omega)) ?_
   intro vw7_4_0 h7_4
   rintro ⟨zvw7_4_0, fw7_4_0, rfl, how7_4_0, hfw7_4_0, e7_4⟩
   replace hL := OS.ext hL e7_4
   replace hb0_0 := BoxAt.ext hb0_0 e7_4
   have := Ext.size e7_4
   replace eB := Ext.trans eB e7_4
   have hlhow7_4_0 := OS.lt how7_4_0
   try simp -implicitDefEqProofs (disch := first | decide | assumption | omega) only [go_sem, RdS.len (OS.rd how7_4_0) sl26, RdS.idx (OS.rd how7_4_0) sl26, RdS.cellN (OS.rd how7_4_0), RdS.cells (OS.rd how7_4_0), wrap_id]
   refine hK _ _ ?_
   clear hK K
   refine den_ret ?_
   simp (disch := decide) only [resP_1, puts_same, puts_ne]
   exact ⟨_, _, rfl, how7_4_0, hfw7_4_0.mono (by omega), eB⟩

set_option maxRecDepth 100000 in
set_option maxHeartbeats 4000000 in
theorem iRkB_ok (vX : Value) (X : Fl) (n : Int) (q : Int) (s : Int) (h : Heap) (rX : RF h vX X) (hF : IsF X) (hn : 0 ≤ n ∧ n ≤ (X.c.dims.length : Int) - 1) (hq : q ≤ 5 ∧ -10 ≤ q) (hs : 0 ≤ s ∧ s ≤ 5) : CallA Try.prog 98 #[vX, .int .i64 n, .int .i64 q, .int .i64 s] h fun v' h' => v' = .int .i64 (rkB X n q s) ∧ Ext h h' := by
 obtain ⟨vdX, vmX, vvX, rfl, hdX, hmX, hvX⟩ := rX
 have hledX := RdS.le hdX
 have hlemX := RdS.le hmX
 have hlevX := RdS.le hvX
 have hC := hF.c
 have hlC := hC.len
 have hml := hC.ml
 have hln := hF.ln
 have hP := hC.p
 have hpb := isP_bnd hC.p
 have hdb := dimP_bnd hC n
 have hdb1 := dimP_bnd hC (n + 1)
 have hkl := keptP_len hF (n + 1) s
 refine callA_intro TTok (args := [_, _, _, _]) Try.func98 (by kernel_rfl) rfl 31 rfl (by simp) [.tmp 8] rfl ?_
 simp only [idxs, Nat.reduceAdd]
 refine den_seq ?_
 refine den_region TTok ?_
 intro K hK
 simp -implicitDefEqProofs (disch := first | decide | assumption | omega) only [go_sem, wrap_id]
 refine op_box (cs := #[.int .i64 (X.c.p), vdX, vmX, vvX]) rfl ?_
 intro h0_0 e0_0 hb0_0 z0_0
 have := Ext.size e0_0
 have eB := e0_0
 have hfhb0_0 : Fresh h.size [h.size] := Fresh.one _
 have hlhb0_0 := one_lt (show h.size < h0_0.size by omega)
 try simp -implicitDefEqProofs (disch := first | decide | assumption | omega) only [go_sem, wrap_id]
 refine hK _ _ ?_
 clear hK K
 refine den_seq ?_
 refine den_seq ?_
 refine den_region TTok ?_
 intro K hK
 simp -implicitDefEqProofs (disch := first | decide | assumption | omega) only [go_sem, wrap_id]
 refine hK _ _ ?_
 clear hK K
 refine den_cond rfl (fun c0 => ?_) (fun c0 => ?_)
 ·try simp only [decide_eq_true_eq, decide_eq_false_iff_not, beq_iff_eq, beq_eq_false_iff_ne, bne_iff_ne, ne_eq, Bool.not_eq_true', Bool.not_eq_false', Bool.and_eq_true, Bool.or_eq_true, bne_eq_false_iff_eq] at c0
  refine den_seq ?_
  refine den_region TTok ?_
  intro K hK
  simp -implicitDefEqProofs (disch := first | decide | assumption | omega) only [go_sem, wrap_id]
  refine hK _ _ ?_
  clear hK K
  refine den_ret ?_
  simp (disch := decide) only [resP_1, puts_same, puts_ne]
  exact ⟨vint (if_pos c0).symm, eB⟩
 ·try simp only [decide_eq_true_eq, decide_eq_false_iff_not, beq_iff_eq, beq_eq_false_iff_ne, bne_iff_ne, ne_eq, Bool.not_eq_true', Bool.not_eq_false', Bool.and_eq_true, Bool.or_eq_true, bne_eq_false_iff_eq] at c0
  refine den_skip ?_
  refine den_seq ?_
  refine den_region TTok ?_
  intro K hK
  simp -implicitDefEqProofs (disch := first | decide | assumption | omega) only [go_sem, ld33, RdS.len hdX sl22, RdS.idx hdX sl22, R1.intB hdX (Ext.pres eB), RdS.cells hdX, RdS.len hmX sl23, RdS.idx hmX sl23, RdS.cellB hmX (Ext.pres eB), RdS.cells hmX, RdS.len hvX sl26, RdS.idx hvX sl26, RdS.cellB hvX (Ext.pres eB), RdS.cells hvX, BoxAt.cell hb0_0, wrap_id]
  try simp -implicitDefEqProofs (disch := first | decide | assumption | omega) only [go_sem, wrap_id]
  refine CallA.mono (iBds_ok _ X n s _ ⟨_, _, _, rfl, (RdS.pres hdX (Ext.pres eB)), (RdS.pres hmX (Ext.pres eB)), (RdS.pres hvX (Ext.pres eB))⟩ hF (by omega) (by omega)) ?_
  intro vw3_3_0 h3_3
  rintro ⟨zvw3_3_0, fw3_3_0, rfl, how3_3_0, hfw3_3_0, e3_3⟩
  replace hb0_0 := BoxAt.ext hb0_0 e3_3
  have := Ext.size e3_3
  replace eB := Ext.trans eB e3_3
  have hlhow3_3_0 := OS.lt how3_3_0
  try simp -implicitDefEqProofs (disch := first | decide | assumption | omega) only [go_sem, RdS.len (OS.rd how3_3_0) sl26, RdS.idx (OS.rd how3_3_0) sl26, RdS.cellN (OS.rd how3_3_0), RdS.cells (OS.rd how3_3_0), wrap_id]
  refine hK _ _ ?_
  clear hK K
  refine den_seq ?_
  have hnl := near_len hC 6 n q
  have hbl := bds_len hF (n := n) (s := s) (by omega)
  have hrl := rkb_len hF (n := n) (s := s) (q := q) (by omega)
  have hflt : ([nearP X 6 n q, bdsP X n s] : List (List (List Int))).flatten.length ≤ 16 := by rw [rkb_flat]; omega
  have hcat : ([nearP X 6 n q, bdsP X n s] : List (List (List Int))).length ≤ 1000 ∧ ([nearP X 6 n q, bdsP X n s] : List (List (List Int))).flatten.length ≤ 1000 := ⟨by simp, by omega⟩
  have hredT := rkb_tb hF (n := n) (s := s) (q := q) (by omega)
  rw [← rkb_flat] at hredT hrl
  refine den_draw TTok mixed [] [(0, true), (1, true), (2, true), (3, true), (4, true), (5, true), (7, true), (12, true), (6, false), (8, false), (9, false), (10, false), (11, false), (13, false), (14, true), (15, true)] (by kernel_rfl) ?_
  intro K hK
  simp -implicitDefEqProofs (disch := first | decide | assumption | omega) only [go_sem, fa31_0, fa33_0, ld2, ld33, RdS.len hdX sl22, RdS.idx hdX sl22, R1.intB hdX (Ext.pres eB), RdS.cells hdX, RdS.len hmX sl23, RdS.idx hmX sl23, RdS.cellB hmX (Ext.pres eB), RdS.cells hmX, RdS.len hvX sl26, RdS.idx hvX sl26, RdS.cellB hvX (Ext.pres eB), RdS.cells hvX, RdS.len (OS.rd how3_3_0) sl26, RdS.idx (OS.rd how3_3_0) sl26, RdS.cellN (OS.rd how3_3_0), RdS.cells (OS.rd how3_3_0), BoxAt.cell hb0_0, wrap_id]
  try simp -implicitDefEqProofs (disch := first | decide | assumption | omega) only [go_sem, wrap_id]
  refine CallA.mono (iNear_ok _ X (6 : Int) n q _ ⟨_, _, _, rfl, (RdS.pres hdX (Ext.pres eB)), (RdS.pres hmX (Ext.pres eB)), (RdS.pres hvX (Ext.pres eB))⟩ hF (by omega) (by omega) (by omega)) ?_
  intro vw4_6_0 h4_6
  rintro ⟨zvw4_6_0, fw4_6_0, rfl, how4_6_0, hfw4_6_0, e4_6⟩
  replace how3_3_0 := OS.ext how3_3_0 e4_6
  replace hb0_0 := BoxAt.ext hb0_0 e4_6
  have := Ext.size e4_6
  replace eB := Ext.trans eB e4_6
  have hlhow4_6_0 := OS.lt how4_6_0
  try simp (disch := decide) only [outv_some, outv_none, put_puts]
  refine plK_pres (Ext.pres e4_6) ?_
  try simp -implicitDefEqProofs (disch := first | decide | assumption | omega) only [go_sem, wrap_id]
  refine op_bs2R (OS.rd how4_6_0) (OS.rd how3_3_0) ?_
  intro vl24_8 h4_8 hl24_8 e4_8
  replace how3_3_0 := OS.ext how3_3_0 e4_8
  replace how4_6_0 := OS.ext how4_6_0 e4_8
  replace hb0_0 := BoxAt.ext hb0_0 e4_8
  have := Ext.size e4_8
  replace eB := Ext.trans eB e4_8
  have xr24_8 := Ext.refl h4_8
  try simp (disch := decide) only [outv_some, outv_none, put_puts]
  refine plK_pres (Ext.pres e4_8) ?_
  try simp -implicitDefEqProofs (disch := first | decide | assumption | omega) only [go_sem, wrap_id]
  try simp -implicitDefEqProofs (disch := first | decide | assumption | omega) only [go_sem, wrap_id]
  refine CallA.mono (concat2_ok _ ([nearP X (6 : Int) n q, bdsP X n s]) _ (RdS.pres hl24_8 (Ext.pres xr24_8)) hcat) ?_
  intro vw4_9_0 h4_9
  rintro ⟨zvw4_9_0, rfl, hrw4_9_0, e4_9⟩
  replace how3_3_0 := OS.ext how3_3_0 e4_9
  replace how4_6_0 := OS.ext how4_6_0 e4_9
  replace hb0_0 := BoxAt.ext hb0_0 e4_9
  have := Ext.size e4_9
  replace eB := Ext.trans eB e4_9
  replace xr24_8 := Ext.trans xr24_8 e4_9
  have xrw4_9_0 := Ext.refl h4_9
  have hlrw4_9_0 := RdS.le hrw4_9_0
  try simp (disch := decide) only [outv_some, outv_none, put_puts]
  refine plK_pres (Ext.pres e4_9) ?_
  try simp -implicitDefEqProofs (disch := first | decide | assumption | omega) only [go_sem, wrap_id]
  try simp -implicitDefEqProofs (disch := first | decide | assumption | omega) only [go_sem, wrap_id]
  refine CallA.mono (iReduce_ok _ X.c.p (([nearP X (6 : Int) n q, bdsP X n s]).flatten) _ (RdS.pres hrw4_9_0 (Ext.pres xrw4_9_0)) hP hredT (by omega) (by omega)) ?_
  intro vw4_10_0 h4_10
  rintro ⟨zvw4_10_0, fw4_10_0, rfl, how4_10_0, hfw4_10_0, e4_10⟩
  replace how3_3_0 := OS.ext how3_3_0 e4_10
  replace how4_6_0 := OS.ext how4_6_0 e4_10
  replace hb0_0 := BoxAt.ext hb0_0 e4_10
  have := Ext.size e4_10
  replace eB := Ext.trans eB e4_10
  replace xr24_8 := Ext.trans xr24_8 e4_10
  replace xrw4_9_0 := Ext.trans xrw4_9_0 e4_10
  have hlhow4_10_0 := OS.lt how4_10_0
  try simp (disch := decide) only [outv_some, outv_none, put_puts]
  refine plK_pres (Ext.pres e4_10) ?_
  try simp -implicitDefEqProofs (disch := first | decide | assumption | omega) only [go_sem, wrap_id]
  try simp -implicitDefEqProofs (disch := first | decide | assumption | omega) only [go_sem, wrap_id]
  refine CallA.pure (size2_ok _ _ _ (OS.rd how4_10_0)) ?_
  try simp -implicitDefEqProofs (disch := first | decide | assumption | omega) only [go_sem, wrap_id]
  try simp -implicitDefEqProofs (disch := first | decide | assumption | omega) only [go_sem, wrap_id]
  refine CallA.pure (size2_ok _ _ _ (OS.rd how3_3_0)) ?_
  try simp -implicitDefEqProofs (disch := first | decide | assumption | omega) only [go_sem, wrap_id]
  refine hK _ _ ?_
  clear hK K
  refine den_ret ?_
  simp (disch := decide) only [resP_1, puts_same, puts_ne]
  have hz : rkB X n q s = ((ech X.c.p ([nearP X 6 n q, bdsP X n s] : List (List (List Int))).flatten).length : Int) - ((bdsP X n s).length : Int) := by rw [rkB, if_neg c0, rkb_flat]
  rw [hz]
  exact ⟨by first | rfl | trivial, eB⟩
end Go.Proofs.Ytjjjgllbocgkbaa

namespace Go.Proofs.Ytjjjgllbocgkbaa
open Go
theorem kept_yes {X : Fl} {n q : Int} {f : Int → List Int} {k : Nat} (h : lvP X n (k : Int) ≤ q) : (keptT X n q k).map f ++ [f (k : Int)] = (keptT X n q (k + 1)).map f := by rw [← keptT_yes h, List.map_append]; rfl
theorem kept_no {X : Fl} {n q : Int} {f : Int → List Int} {k : Nat} (h : ¬ lvP X n (k : Int) ≤ q) : (keptT X n q k).map f = (keptT X n q (k + 1)).map f := by rw [← keptT_no h]
theorem keptT_le (X : Fl) (n q : Int) (k : Nat) : (keptT X n q k).length ≤ k := by
 unfold keptT
 rw [List.length_map]
 exact Nat.le_trans (List.length_filter_le _ _) (by simp)

set_option maxRecDepth 100000 in
set_option maxHeartbeats 4000000 in
theorem sSpc_ok (vX : Value) (X : Fl) (n : Int) (q : Int) (h : Heap) (rX : RF h vX X) (hF : IsF X) (hn : 0 ≤ n ∧ n ≤ (X.c.dims.length : Int) - 1) (hq : q ≤ 5 ∧ -10 ≤ q) : CallA Try.prog 154 #[vX, .int .i64 n, .int .i64 q] h fun v' h' => ∃ w0 f0, v' = w0 ∧ O2 h' w0 (spP X n q) f0 ∧ Fresh h.size f0 ∧ Ext h h' := by
 obtain ⟨vdX, vmX, vvX, rfl, hdX, hmX, hvX⟩ := rX
 have hledX := RdS.le hdX
 have hlemX := RdS.le hmX
 have hlevX := RdS.le hvX
 have hC := hF.c
 have hlC := hC.len
 have hml := hC.ml
 have hln := hF.ln
 have hP := hC.p
 have hpb := isP_bnd hC.p
 have hdb := dimP_bnd hC n
 have hdb1 := dimP_bnd hC (n + 1)
 refine callA_intro TTok (args := [_, _, _]) Try.func154 (by kernel_rfl) rfl 41 rfl (by simp) [.tmp 6] rfl ?_
 simp only [idxs, Nat.reduceAdd]
 refine den_seq ?_
 refine den_region TTok ?_
 intro K hK
 simp -implicitDefEqProofs (disch := first | decide | assumption | omega) only [go_sem, wrap_id]
 refine op_box (cs := #[.int .i64 (X.c.p), vdX, vmX, vvX]) rfl ?_
 intro h0_0 e0_0 hb0_0 z0_0
 have := Ext.size e0_0
 have eB := e0_0
 have hfhb0_0 : Fresh h.size [h.size] := Fresh.one _
 have hlhb0_0 := one_lt (show h.size < h0_0.size by omega)
 try simp -implicitDefEqProofs (disch := first | decide | assumption | omega) only [go_sem, wrap_id]
 refine hK _ _ ?_
 clear hK K
 refine den_seq ?_
 refine den_region TTok ?_
 intro K hK
 simp -implicitDefEqProofs (disch := first | decide | assumption | omega) only [go_sem, wrap_id]
 refine op_bs0 sz26 O1 ?_
 intro v1_0 h1_0 ho1_0 e1_0
 replace hb0_0 := BoxAt.ext hb0_0 e1_0
 have := Ext.size e1_0
 replace eB := Ext.trans eB e1_0
 have hfho1_0 : Fresh h0_0.size [h0_0.size] := Fresh.one _
 have hlho1_0 := OS.lt ho1_0
 try simp -implicitDefEqProofs (disch := first | decide | assumption | omega) only [go_sem, fa33_0, ld31, RdS.len hdX sl22, RdS.idx hdX sl22, R1.intB hdX (Ext.pres eB), RdS.cells hdX, RdS.len hmX sl23, RdS.idx hmX sl23, RdS.cellB hmX (Ext.pres eB), RdS.cells hmX, RdS.len hvX sl26, RdS.idx hvX sl26, RdS.cellB hvX (Ext.pres eB), RdS.cells hvX, BoxAt.cell hb0_0, wrap_id]
 try simp -implicitDefEqProofs (disch := first | decide | assumption | omega) only [go_sem, wrap_id]
 refine CallA.mono (sDim_ok _ X.c _ _ ⟨_, _, rfl, (RdS.pres hdX (Ext.pres eB)), (RdS.pres hmX (Ext.pres eB))⟩) ?_
 intro v_ h1_4
 rintro ⟨rfl, e1_4⟩
 replace ho1_0 := OS.ext ho1_0 e1_4
 replace hb0_0 := BoxAt.ext hb0_0 e1_4
 have := Ext.size e1_4
 replace eB := Ext.trans eB e1_4
 try simp -implicitDefEqProofs (disch := first | decide | assumption | omega) only [go_sem, RdS.len (OS.rd ho1_0) sl26, RdS.idx (OS.rd ho1_0) sl26, RdS.cellN (OS.rd ho1_0), RdS.cells (OS.rd ho1_0), wrap_id]
 refine hK _ _ ?_
 clear hK K
 refine den_seq ?_
 refine den_seq ?_
 refine den_region TTok ?_
 intro K hK
 simp -implicitDefEqProofs (disch := first | decide | assumption | omega) only [go_sem, wrap_id]
 refine hK _ _ ?_
 clear hK K
 refine den_block ?_
 refine den_sel [7, 9, 1, 2, 3, 8] ?_
 intro env_1
 simp only [go_sem]
 refine den_loopS (σ := Nat × Value × List Nat) (fun st_ => [(7, st_.2.1), (9, .int .i64 (st_.1 : Int))]) (fun st_ H => ((st_.1 : Int) ≤ dimP X.c n) ∧ (O2 H st_.2.1 ((keptT X n q st_.1).map (fun z : Int => unitP (dimP X.c n).toNat z.toNat)) st_.2.2) ∧ (Fresh (h0_0.size) st_.2.2) ∧ (Sub [h0_0.size] h1_4.size st_.2.2) ∧ (Chg [h0_0.size] h1_4 H)) (fun st_ => (dimP X.c n).toNat - st_.1) (0, v1_0, [h0_0.size]) ?_ ?_
 ·exact ⟨by omega, by simpa [keptT] using ho1_0, hfho1_0, Sub.refl, Chg.refl _ _⟩
 ·rintro ⟨i, vhL, fphL⟩ h4 ee3 ⟨hi0, hL, hfhL, sbhL, cL2⟩
  dsimp only at hi0 hL hfhL sbhL cL2
  replace hb0_0 := BoxAt.chgA hb0_0 cL2 (apart_lt hlhb0_0 hfho1_0 (by omega))
  have := cL2.size
  replace eB := Ext.then eB cL2 (ge_of hfho1_0 (by omega))
  have hlhL := OS.lt hL
  simp only [List.cons_append, List.nil_append]
  refine den_seq ?_
  refine den_seq ?_
  refine den_region TTok ?_
  intro K hK
  simp -implicitDefEqProofs (disch := first | decide | assumption | omega) only [go_sem, wrap_id]
  refine hK _ _ ?_
  clear hK K
  refine den_cond rfl (fun c0 => ?_) (fun c0 => ?_)
  ·try simp only [decide_eq_true_eq, decide_eq_false_iff_not, beq_iff_eq, beq_eq_false_iff_ne, bne_iff_ne, ne_eq, Bool.not_eq_true', Bool.not_eq_false', Bool.and_eq_true, Bool.or_eq_true, bne_eq_false_iff_eq] at c0
   refine den_skip ?_
   refine den_seq ?_
   refine den_block ?_
   refine den_seq ?_
   have hnr_ := dimP_in (X := X.c) (m := n) (by omega)
   have hrl_ := hF.rl (n).toNat (by omega)
   have hdm_ : dimP X.c (n) = X.c.dims.getD (n).toNat 0 := by rw [dimP, if_pos (in3_iff.2 ⟨by omega, by omega⟩)]
   have hlv0 : 0 ≤ (i : Int) ∧ (i : Int) < ((X.lv.getD (n).toNat default).length : Int) := by omega
   refine den_region TTok ?_
   intro K hK
   have hr5 := RdS.rowN hvX (n).toNat (by omega)
   have hlhr5 := RdS.le hr5
   simp -implicitDefEqProofs (disch := first | decide | assumption | omega) only [go_sem, fa33_1, ld26, ld22, ld2, RdS.len hdX sl22, RdS.idx hdX sl22, R1.intB hdX (Ext.pres eB), RdS.cells hdX, RdS.len hmX sl23, RdS.idx hmX sl23, RdS.cellB hmX (Ext.pres eB), RdS.cells hmX, RdS.len hvX sl26, RdS.idx hvX sl26, RdS.cellB hvX (Ext.pres eB), RdS.cells hvX, RdS.len hr5 sl22, RdS.idx hr5 sl22, R1.intB hr5 (Ext.pres eB), RdS.cells hr5, BoxAt.cell hb0_0, wrap_id]
   refine hK _ _ ?_
   clear hK K
   refine den_cond rfl (fun c1 => ?_) (fun c1 => ?_)
   ·try simp only [decide_eq_true_eq, decide_eq_false_iff_not, beq_iff_eq, beq_eq_false_iff_ne, bne_iff_ne, ne_eq, Bool.not_eq_true', Bool.not_eq_false', Bool.and_eq_true, Bool.or_eq_true, bne_eq_false_iff_eq] at c1
    refine den_seq ?_
    refine den_region TTok ?_
    intro K hK
    simp -implicitDefEqProofs (disch := first | decide | assumption | omega) only [go_sem, wrap_id]
    refine op_make sz22 rfl rfl (by omega) (by omega) OI 0 (fun _ => ⟨rfl, rfl⟩) ?_
    intro v6_1 h6_1 ho6_1 e6_1
    replace hL := OS.ext hL e6_1
    replace hb0_0 := BoxAt.ext hb0_0 e6_1
    have := Ext.size e6_1
    replace eB := Ext.trans eB e6_1
    replace cL2 := Chg.stepE cL2 e6_1
    have hfho6_1 : Fresh h4.size [h4.size] := Fresh.one _
    have hlenho6_1 : (List.replicate ((dimP X.c n)).toNat (0 : Int)).length = ((dimP X.c n)).toNat := List.length_replicate
    have hlho6_1 := OS.lt ho6_1
    try simp -implicitDefEqProofs (disch := first | decide | assumption | omega) only [go_sem, RdS.len (OS.rd ho6_1) sl22, RdS.idx (OS.rd ho6_1) sl22, R1.intN (OS.rd ho6_1), RdS.cells (OS.rd ho6_1), wrap_id]
    refine hK _ _ ?_
    clear hK K
    refine den_seq ?_
    refine den_region TTok ?_
    intro K hK
    simp -implicitDefEqProofs (disch := first | decide | assumption | omega) only [go_sem, RdS.len (OS.rd ho6_1) sl22, RdS.idx (OS.rd ho6_1) sl22, R1.intN (OS.rd ho6_1), RdS.cells (OS.rd ho6_1), wrap_id]
    refine op_store1 (j := i) st2 ho6_1 hfho6_1.nodup (by first | omega | (simp; omega)) rfl rfl ?_
    intro h7_3 ho7_3 c7_3
    have hsz7_3 := c7_3.size
    replace hL := OS.chg hL c7_3 (apart_lt hlhL hfho6_1 (by omega))
    replace hb0_0 := BoxAt.chgA hb0_0 c7_3 (apart_lt hlhb0_0 hfho6_1 (by omega))
    have := c7_3.size
    replace eB := Ext.then eB c7_3 (ge_of hfho6_1 (by omega))
    replace cL2 := Chg.step cL2 c7_3 (Sub.fresh hfho6_1 (by omega))
    have hlho7_3 := hlho6_1
    have hlenho7_3 : ((List.replicate ((dimP X.c n)).toNat 0).set i (1 : Int) : List Int).length = (List.replicate ((dimP X.c n)).toNat 0 : List Int).length := List.length_set
    try simp -implicitDefEqProofs (disch := first | decide | assumption | omega) only [go_sem, wrap_id]
    refine hK _ _ ?_
    clear hK K
    have hmt : ((keptT X n q i).map (fun z : Int => unitP (dimP X.c n).toNat z.toNat)).length ≤ 8 := by have := keptT_le X n q i; rw [List.length_map]; omega
    refine den_region TTok ?_
    intro K hK
    simp -implicitDefEqProofs (disch := first | decide | assumption | omega) only [go_sem, RdS.len (OS.rd hL) sl26, RdS.idx (OS.rd hL) sl26, RdS.cellN (OS.rd hL), RdS.cells (OS.rd hL), RdS.len (OS.rd ho7_3) sl22, RdS.idx (OS.rd ho7_3) sl22, R1.intN (OS.rd ho7_3), RdS.cells (OS.rd ho7_3), wrap_id]
    refine op_bs1 sz26 rfl (OS.one ho7_3).2 ?_
    try simp -implicitDefEqProofs (disch := first | decide | assumption | omega) only [go_sem, wrap_id]
    refine op_append1 sz26 hL hfhL.nodup ho7_3 hfho6_1.nodup (apart_lt hlhL hfho6_1 (by omega)) (by first | omega | (simp; omega)) rfl rfl ?_
    intro v8_3 h8_3 fp8_3 ho8_3 hn8_3 hs8_3 c8_3
    have hsz8_3 := c8_3.size
    have hfho8_3 : Fresh h0_0.size fp8_3 := Fresh.appd hfhL hfho6_1 (by omega) (by omega) hn8_3 hs8_3
    have sb6 : Sub [h0_0.size] h1_4.size fp8_3 := Sub.grow sbhL (Sub.fresh hfho6_1 (by omega)) (by omega) hs8_3
    replace hb0_0 := BoxAt.chgA hb0_0 c8_3 (apart_lt hlhb0_0 hfhL (by omega))
    have := c8_3.size
    replace eB := Ext.then eB c8_3 (ge_of hfhL (by omega))
    replace cL2 := Chg.step cL2 c8_3 sbhL
    have hlho8_3 := OS.lt ho8_3
    try simp -implicitDefEqProofs (disch := first | decide | assumption | omega) only [go_sem, RdS.len (OS.rd ho8_3) sl26, RdS.idx (OS.rd ho8_3) sl26, RdS.cellN (OS.rd ho8_3), RdS.cells (OS.rd ho8_3), wrap_id]
    refine hK _ _ ?_
    clear hK K
    refine den_blk ?_
    refine den_region TTok ?_
    intro K hK
    simp -implicitDefEqProofs (disch := first | decide | assumption | omega) only [go_sem, wrap_id]
    refine hK _ _ ?_
    clear hK K
    refine den_stop ?_
    first | rw [show (List.replicate (dimP X.c n).toNat (0 : Int)).set i 1 = (fun z : Int => unitP (dimP X.c n).toNat z.toNat) (i : Int) by simp only [unitP, Int.toNat_natCast], kept_yes (f := fun z : Int => unitP (dimP X.c n).toNat z.toNat) (show lvP X n (i : Int) ≤ q by unfold lvP; rw [Int.toNat_natCast]; exact c1)] at ho8_3 | rw [kept_no (f := fun z : Int => unitP (dimP X.c n).toNat z.toNat) (show ¬ lvP X n (i : Int) ≤ q by unfold lvP; rw [Int.toNat_natCast]; exact c1)] at ho8_3
    exact ⟨(i + 1, v8_3, fp8_3), by simp [HasL, puts_at], ⟨by first | omega | (dsimp only; omega), ho8_3, hfho8_3, sb6, cL2⟩, by first | omega | (dsimp only; omega)⟩
   ·try simp only [decide_eq_true_eq, decide_eq_false_iff_not, beq_iff_eq, beq_eq_false_iff_ne, bne_iff_ne, ne_eq, Bool.not_eq_true', Bool.not_eq_false', Bool.and_eq_true, Bool.or_eq_true, bne_eq_false_iff_eq] at c1
    refine den_skip ?_
    refine den_blk ?_
    refine den_region TTok ?_
    intro K hK
    simp -implicitDefEqProofs (disch := first | decide | assumption | omega) only [go_sem, wrap_id]
    refine hK _ _ ?_
    clear hK K
    refine den_stop ?_
    first | rw [show (List.replicate (dimP X.c n).toNat (0 : Int)).set i 1 = (fun z : Int => unitP (dimP X.c n).toNat z.toNat) (i : Int) by simp only [unitP, Int.toNat_natCast], kept_yes (f := fun z : Int => unitP (dimP X.c n).toNat z.toNat) (show lvP X n (i : Int) ≤ q by unfold lvP; rw [Int.toNat_natCast]; exact c1)] at hL | rw [kept_no (f := fun z : Int => unitP (dimP X.c n).toNat z.toNat) (show ¬ lvP X n (i : Int) ≤ q by unfold lvP; rw [Int.toNat_natCast]; exact c1)] at hL
    exact ⟨(i + 1, vhL, fphL), by simp [HasL, puts_at], ⟨by first | omega | (dsimp only; omega), hL, hfhL, sbhL, cL2⟩, by first | omega | (dsimp only; omega)⟩
  ·try simp only [decide_eq_true_eq, decide_eq_false_iff_not, beq_iff_eq, beq_eq_false_iff_ne, bne_iff_ne, ne_eq, Bool.not_eq_true', Bool.not_eq_false', Bool.and_eq_true, Bool.or_eq_true, bne_eq_false_iff_eq] at c0
   refine den_exit ?_
   refine denX_code ?_
   refine denX_stop ?_
   refine denX_hit ?_
   refine den_seq ?_
   refine den_region TTok ?_
   intro K hK
   simp -implicitDefEqProofs (disch := first | decide | assumption | omega) only [go_sem, RdS.len (OS.rd hL) sl26, RdS.idx (OS.rd hL) sl26, RdS.cellN (OS.rd hL), RdS.cells (OS.rd hL), wrap_id]
   refine hK _ _ ?_
   clear hK K
   refine den_ret ?_
   simp (disch := decide) only [resP_1, puts_same, puts_ne]
   rw [show i = (dimP X.c n).toNat by omega] at hL
   change O2 _ _ (spP X n q) _ at hL
   exact ⟨_, _, rfl, hL, hfhL.mono (by omega), eB⟩

set_option maxRecDepth 100000 in
set_option maxHeartbeats 4000000 in
theorem sBds_ok (vX : Value) (X : Fl) (n : Int) (s : Int) (h : Heap) (rX : RF h vX X) (hF : IsF X) (hn : 0 ≤ n ∧ n ≤ (X.c.dims.length : Int) - 1) (hs : 0 ≤ s ∧ s ≤ 5) : CallA Try.prog 155 #[vX, .int .i64 n, .int .i64 s] h fun v' h' => ∃ w0 f0, v' = w0 ∧ O2 h' w0 (bdsP X n s) f0 ∧ Fresh h.size f0 ∧ Ext h h' := by
 obtain ⟨vdX, vmX, vvX, rfl, hdX, hmX, hvX⟩ := rX
 have hledX := RdS.le hdX
 have hlemX := RdS.le hmX
 have hlevX := RdS.le hvX
 have hC := hF.c
 have hlC := hC.len
 have hml := hC.ml
 have hln := hF.ln
 have hP := hC.p
 have hpb := isP_bnd hC.p
 have hdb := dimP_bnd hC n
 have hdb1 := dimP_bnd hC (n + 1)
 have hmt_ := mapP_tbl hC (n + 1)
 refine callA_intro TTok (args := [_, _, _]) Try.func155 (by kernel_rfl) rfl 48 rfl (by simp) [.tmp 6] rfl ?_
 simp only [idxs, Nat.reduceAdd]
 refine den_seq ?_
 refine den_region TTok ?_
 intro K hK
 simp -implicitDefEqProofs (disch := first | decide | assumption | omega) only [go_sem, wrap_id]
 refine op_box (cs := #[.int .i64 (X.c.p), vdX, vmX, vvX]) rfl ?_
 intro h0_0 e0_0 hb0_0 z0_0
 have := Ext.size e0_0
 have eB := e0_0
 have hfhb0_0 : Fresh h.size [h.size] := Fresh.one _
 have hlhb0_0 := one_lt (show h.size < h0_0.size by omega)
 try simp -implicitDefEqProofs (disch := first | decide | assumption | omega) only [go_sem, wrap_id]
 refine hK _ _ ?_
 clear hK K
 refine den_seq ?_
 refine den_region TTok ?_
 intro K hK
 simp -implicitDefEqProofs (disch := first | decide | assumption | omega) only [go_sem, wrap_id]
 refine op_bs0 sz26 O1 ?_
 intro v1_0 h1_0 ho1_0 e1_0
 replace hb0_0 := BoxAt.ext hb0_0 e1_0
 have := Ext.size e1_0
 replace eB := Ext.trans eB e1_0
 have hfho1_0 : Fresh h0_0.size [h0_0.size] := Fresh.one _
 have hlho1_0 := OS.lt ho1_0
 try simp -implicitDefEqProofs (disch := first | decide | assumption | omega) only [go_sem, fa33_0, ld31, RdS.len hdX sl22, RdS.idx hdX sl22, R1.intB hdX (Ext.pres eB), RdS.cells hdX, RdS.len hmX sl23, RdS.idx hmX sl23, RdS.cellB hmX (Ext.pres eB), RdS.cells hmX, RdS.len hvX sl26, RdS.idx hvX sl26, RdS.cellB hvX (Ext.pres eB), RdS.cells hvX, BoxAt.cell hb0_0, wrap_id]
 try simp -implicitDefEqProofs (disch := first | decide | assumption | omega) only [go_sem, wrap_id]
 refine CallA.mono (sMapF_ok _ _ X.c _ h _ hdX hmX eB hC (by omega)) ?_
 intro vw1_5 h1_5
 rintro ⟨zvw1_5, rfl, hrw1_5, e1_5⟩
 replace ho1_0 := OS.ext ho1_0 e1_5
 replace hb0_0 := BoxAt.ext hb0_0 e1_5
 have := Ext.size e1_5
 replace eB := Ext.trans eB e1_5
 have xrw1_5 := eB
 have hlrw1_5 := RdS.le hrw1_5
 try simp -implicitDefEqProofs (disch := first | decide | assumption | omega) only [go_sem, RdS.len (OS.rd ho1_0) sl26, RdS.idx (OS.rd ho1_0) sl26, RdS.cellN (OS.rd ho1_0), RdS.cells (OS.rd ho1_0), RdS.len hrw1_5 sl26, RdS.idx hrw1_5 sl26, RdS.cellB hrw1_5 (Ext.pres xrw1_5), RdS.cells hrw1_5, wrap_id]
 refine hK _ _ ?_
 clear hK K
 refine den_seq ?_
 refine den_seq ?_
 refine den_region TTok ?_
 intro K hK
 simp -implicitDefEqProofs (disch := first | decide | assumption | omega) only [go_sem, wrap_id]
 refine hK _ _ ?_
 clear hK K
 refine den_block ?_
 replace ho1_0 : O2R h _ _ _ _ := O2R.nil ho1_0
 refine den_sel [7, 9, 1, 2, 3, 8] ?_
 intro env_1
 simp only [go_sem]
 refine den_loopS (σ := Nat × Value × List Nat) (fun st_ => [(7, st_.2.1), (9, .int .i64 (st_.1 : Int))]) (fun st_ H => ((st_.1 : Int) ≤ dimP X.c (n + 1)) ∧ (O2R h H st_.2.1 ((keptT X (n + 1) s st_.1).map (fun z : Int => (mapP X.c (n + 1)).getD z.toNat default)) st_.2.2) ∧ (Fresh (h0_0.size) st_.2.2) ∧ (Sub [h0_0.size] h1_5.size st_.2.2) ∧ (Chg [h0_0.size] h1_5 H)) (fun st_ => (dimP X.c (n + 1)).toNat - st_.1) (0, v1_0, [h0_0.size]) ?_ ?_
 ·exact ⟨by omega, by simpa [keptT] using ho1_0, hfho1_0, Sub.refl, Chg.refl _ _⟩
 ·rintro ⟨i, vhL, fphL⟩ h4 ee3 ⟨hi0, hL, hfhL, sbhL, cL2⟩
  dsimp only at hi0 hL hfhL sbhL cL2
  replace hb0_0 := BoxAt.chgA hb0_0 cL2 (apart_lt hlhb0_0 hfho1_0 (by omega))
  have := cL2.size
  replace eB := Ext.then eB cL2 (ge_of hfho1_0 (by omega))
  replace xrw1_5 := Ext.then xrw1_5 cL2 (ge_of hfho1_0 (by omega))
  have hlhL := OS.lt hL
  simp only [List.cons_append, List.nil_append]
  refine den_seq ?_
  refine den_seq ?_
  refine den_region TTok ?_
  intro K hK
  simp -implicitDefEqProofs (disch := first | decide | assumption | omega) only [go_sem, fa33_0, ld31, RdS.len hdX sl22, RdS.idx hdX sl22, R1.intB hdX (Ext.pres eB), RdS.cells hdX, RdS.len hmX sl23, RdS.idx hmX sl23, RdS.cellB hmX (Ext.pres eB), RdS.cells hmX, RdS.len hvX sl26, RdS.idx hvX sl26, RdS.cellB hvX (Ext.pres eB), RdS.cells hvX, BoxAt.cell hb0_0, wrap_id]
  try simp -implicitDefEqProofs (disch := first | decide | assumption | omega) only [go_sem, wrap_id]
  refine CallA.mono (sDim_ok _ X.c _ _ ⟨_, _, rfl, (RdS.pres hdX (Ext.pres eB)), (RdS.pres hmX (Ext.pres eB))⟩) ?_
  intro v_ h3_5
  rintro ⟨rfl, e3_5⟩
  replace hL := OS.ext hL e3_5
  replace hb0_0 := BoxAt.ext hb0_0 e3_5
  have := Ext.size e3_5
  replace eB := Ext.trans eB e3_5
  replace xrw1_5 := Ext.trans xrw1_5 e3_5
  replace cL2 := Chg.stepE cL2 e3_5
  try simp -implicitDefEqProofs (disch := first | decide | assumption | omega) only [go_sem, wrap_id]
  refine hK _ _ ?_
  clear hK K
  refine den_cond rfl (fun c0 => ?_) (fun c0 => ?_)
  ·try simp only [decide_eq_true_eq, decide_eq_false_iff_not, beq_iff_eq, beq_eq_false_iff_ne, bne_iff_ne, ne_eq, Bool.not_eq_true', Bool.not_eq_false', Bool.and_eq_true, Bool.or_eq_true, bne_eq_false_iff_eq] at c0
   refine den_skip ?_
   refine den_seq ?_
   refine den_block ?_
   refine den_seq ?_
   have hnr_ := dimP_in (X := X.c) (m := n + 1) (by omega)
   have hrl_ := hF.rl (n + 1).toNat (by omega)
   have hdm_ : dimP X.c (n + 1) = X.c.dims.getD (n + 1).toNat 0 := by rw [dimP, if_pos (in3_iff.2 ⟨by omega, by omega⟩)]
   have hlv0 : 0 ≤ (i : Int) ∧ (i : Int) < ((X.lv.getD (n + 1).toNat default).length : Int) := by omega
   refine den_region TTok ?_
   intro K hK
   have hr5 := RdS.rowN hvX ((n + (1 : Int))).toNat (by omega)
   have hlhr5 := RdS.le hr5
   simp -implicitDefEqProofs (disch := first | decide | assumption | omega) only [go_sem, fa33_1, ld26, ld22, ld2, RdS.len hdX sl22, RdS.idx hdX sl22, R1.intB hdX (Ext.pres eB), RdS.cells hdX, RdS.len hmX sl23, RdS.idx hmX sl23, RdS.cellB hmX (Ext.pres eB), RdS.cells hmX, RdS.len hvX sl26, RdS.idx hvX sl26, RdS.cellB hvX (Ext.pres eB), RdS.cells hvX, RdS.len hr5 sl22, RdS.idx hr5 sl22, R1.intB hr5 (Ext.pres eB), RdS.cells hr5, BoxAt.cell hb0_0, wrap_id]
   refine hK _ _ ?_
   clear hK K
   refine den_cond rfl (fun c1 => ?_) (fun c1 => ?_)
   ·try simp only [decide_eq_true_eq, decide_eq_false_iff_not, beq_iff_eq, beq_eq_false_iff_ne, bne_iff_ne, ne_eq, Bool.not_eq_true', Bool.not_eq_false', Bool.and_eq_true, Bool.or_eq_true, bne_eq_false_iff_eq] at c1
    have hmt : ((keptT X (n + 1) s i).map (fun z : Int => (mapP X.c (n + 1)).getD z.toNat default)).length ≤ 8 := by have := keptT_le X (n + 1) s i; rw [List.length_map]; omega
    refine den_region TTok ?_
    intro K hK
    have hr6 := RdS.rowN hrw1_5 i (by omega)
    have hlhr6 := RdS.le hr6
    have xr7 := xrw1_5
    simp -implicitDefEqProofs (disch := first | decide | assumption | omega) only [go_sem, ld22, RdS.len hrw1_5 sl26, RdS.idx hrw1_5 sl26, RdS.cellB hrw1_5 (Ext.pres xrw1_5), RdS.cells hrw1_5, RdS.len hr6 sl22, RdS.idx hr6 sl22, R1.intB hr6 (Ext.pres xr7), RdS.cells hr6, wrap_id]
    refine op_bs1 sz26 rfl (RdS.cells hr6) ?_
    try simp -implicitDefEqProofs (disch := first | decide | assumption | omega) only [go_sem, wrap_id]
    refine op_append1 sz26 hL hfhL.nodup (ER.one hr6) List.nodup_nil (Apart.nil _) (by first | omega | (simp; omega)) rfl rfl ?_
    intro v6_6 h6_6 fp6_6 ho6_6 hn6_6 hs6_6 c6_6
    have hsz6_6 := c6_6.size
    have hfho6_6 : Fresh h0_0.size fp6_6 := Fresh.appd hfhL (Fresh.nil h3_5.size) (by omega) (by omega) hn6_6 hs6_6
    have sb8 : Sub [h0_0.size] h1_5.size fp6_6 := Sub.grow sbhL Sub.nil (by omega) hs6_6
    replace hb0_0 := BoxAt.chgA hb0_0 c6_6 (apart_lt hlhb0_0 hfhL (by omega))
    have := c6_6.size
    replace eB := Ext.then eB c6_6 (ge_of hfhL (by omega))
    replace xrw1_5 := Ext.then xrw1_5 c6_6 (ge_of hfhL (by omega))
    replace xr7 := Ext.then xr7 c6_6 (ge_of hfhL (by omega))
    replace cL2 := Chg.step cL2 c6_6 sbhL
    have hlho6_6 := OS.lt ho6_6
    try simp -implicitDefEqProofs (disch := first | decide | assumption | omega) only [go_sem, wrap_id]
    refine hK _ _ ?_
    clear hK K
    refine den_blk ?_
    refine den_region TTok ?_
    intro K hK
    simp -implicitDefEqProofs (disch := first | decide | assumption | omega) only [go_sem, wrap_id]
    refine hK _ _ ?_
    clear hK K
    refine den_stop ?_
    first | rw [show (mapP X.c (n + 1)).getD i default = (fun z : Int => (mapP X.c (n + 1)).getD z.toNat default) (i : Int) by simp only [Int.toNat_natCast], kept_yes (f := fun z : Int => (mapP X.c (n + 1)).getD z.toNat default) (show lvP X (n + 1) (i : Int) ≤ s by unfold lvP; rw [Int.toNat_natCast]; exact c1)] at ho6_6 | rw [kept_no (f := fun z : Int => (mapP X.c (n + 1)).getD z.toNat default) (show ¬ lvP X (n + 1) (i : Int) ≤ s by unfold lvP; rw [Int.toNat_natCast]; exact c1)] at ho6_6
    exact ⟨(i + 1, v6_6, fp6_6), by simp [HasL, puts_at], ⟨by first | omega | (dsimp only; omega), ho6_6, hfho6_6, sb8, cL2⟩, by first | omega | (dsimp only; omega)⟩
   ·try simp only [decide_eq_true_eq, decide_eq_false_iff_not, beq_iff_eq, beq_eq_false_iff_ne, bne_iff_ne, ne_eq, Bool.not_eq_true', Bool.not_eq_false', Bool.and_eq_true, Bool.or_eq_true, bne_eq_false_iff_eq] at c1
    refine den_skip ?_
    refine den_blk ?_
    refine den_region TTok ?_
    intro K hK
    simp -implicitDefEqProofs (disch := first | decide | assumption | omega) only [go_sem, wrap_id]
    refine hK _ _ ?_
    clear hK K
    refine den_stop ?_
    first | rw [show (mapP X.c (n + 1)).getD i default = (fun z : Int => (mapP X.c (n + 1)).getD z.toNat default) (i : Int) by simp only [Int.toNat_natCast], kept_yes (f := fun z : Int => (mapP X.c (n + 1)).getD z.toNat default) (show lvP X (n + 1) (i : Int) ≤ s by unfold lvP; rw [Int.toNat_natCast]; exact c1)] at hL | rw [kept_no (f := fun z : Int => (mapP X.c (n + 1)).getD z.toNat default) (show ¬ lvP X (n + 1) (i : Int) ≤ s by unfold lvP; rw [Int.toNat_natCast]; exact c1)] at hL
    exact ⟨(i + 1, vhL, fphL), by simp [HasL, puts_at], ⟨by first | omega | (dsimp only; omega), hL, hfhL, sbhL, cL2⟩, by first | omega | (dsimp only; omega)⟩
  ·try simp only [decide_eq_true_eq, decide_eq_false_iff_not, beq_iff_eq, beq_eq_false_iff_ne, bne_iff_ne, ne_eq, Bool.not_eq_true', Bool.not_eq_false', Bool.and_eq_true, Bool.or_eq_true, bne_eq_false_iff_eq] at c0
   refine den_exit ?_
   refine denX_code ?_
   refine denX_stop ?_
   refine denX_hit ?_
   refine den_seq ?_
   rw [show i = (dimP X.c (n + 1)).toNat by omega] at hL
   change OS _ _ _ _ (bdRows X n s) _ at hL
   have hredT := bdRows_tb hF (n := n) (s := s) (by omega)
   have hbrl := bdRows_len hF (n := n) (s := s)
   refine den_region TTok ?_
   intro K hK
   simp -implicitDefEqProofs (disch := first | decide | assumption | omega) only [go_sem, fa31_0, fa33_0, ld2, RdS.len hdX sl22, RdS.idx hdX sl22, R1.intB hdX (Ext.pres eB), RdS.cells hdX, RdS.len hmX sl23, RdS.idx hmX sl23, RdS.cellB hmX (Ext.pres eB), RdS.cells hmX, RdS.len hvX sl26, RdS.idx hvX sl26, RdS.cellB hvX (Ext.pres eB), RdS.cells hvX, BoxAt.cell hb0_0, wrap_id]
   try simp -implicitDefEqProofs (disch := first | decide | assumption | omega) only [go_sem, wrap_id]
   refine CallA.mono (sEch_ok _ X.c.p (bdRows X n s) _ (O2R.rd hL eB) hP hredT (by omega) (by omega)) ?_
   intro vw7_4_0 h7_4
   rintro ⟨zvw7_4_0, fw7_4_0, rfl, how7_4_0, hfw7_4_0, e7_4⟩
   replace hL := OS.ext hL e7_4
   replace hb0_0 := BoxAt.ext hb0_0 e7_4
   have := Ext.size e7_4
   replace eB := Ext.trans eB e7_4
   replace xrw1_5 := Ext.trans xrw1_5 e7_4
   have hlhow7_4_0 := OS.lt how7_4_0
   try simp -implicitDefEqProofs (disch := first | decide | assumption | omega) only [go_sem, RdS.len (OS.rd how7_4_0) sl26, RdS.idx (OS.rd how7_4_0) sl26, RdS.cellN (OS.rd how7_4_0), RdS.cells (OS.rd how7_4_0), wrap_id]
   refine hK _ _ ?_
   clear hK K
   refine den_ret ?_
   simp (disch := decide) only [resP_1, puts_same, puts_ne]
   exact ⟨_, _, rfl, how7_4_0, hfw7_4_0.mono (by omega), eB⟩
end Go.Proofs.Ytjjjgllbocgkbaa
