/-
  Walks: cycles and boundaries.
  Conditions: each theorem's own.
-/
import Derived.Test.YtbplnadngahgaaaD6
set_option linter.unusedVariables false
set_option linter.unusedSimpArgs false
namespace Go.Proofs.Ytbplnadngahgaaa
open Go
theorem Rr.units (m : Nat) {p : Int} (hp : 1 < p) : Rr p m (unitsP (m : Int)) fun i => i := by
  have hl : (unitsP (m : Int)).length = m := by simp [unitsP]
  have gt : ∀ i, i < m → (unitsP (m : Int)).getD i default = unitP m i := fun i hi => by rw [unitsP, Int.toNat_natCast, getD_map_range _ hi]
  have gg : ∀ i j, i < m → g2 (unitsP (m : Int)) i j = if i = j then 1 else 0 := fun i j hi => by
    rw [g2, gt i hi, unitP, getD_set (by simpa using hi)]
    split
    · rfl
    · rcases Nat.lt_or_ge j m with h | h
      · rw [List.getD_eq_getElem?_getD, List.getElem?_eq_getElem (by simpa using h)]; simp
      · exact getD_out (by simpa using h)
  refine ⟨fun i hi => ?_, fun i hi => ?_, fun i hi => ?_, fun i hi => ?_, fun i j hi hj => ?_, fun i k hik hk => hik, fun i k hi hk hne => ?_⟩
  · rw [hl] at hi; rw [gt i hi]; simp [unitP]
  · rw [hl] at hi; rw [gt i hi]
    intro x hx
    rcases List.mem_or_eq_of_mem_set hx with h2 | h2
    · have := List.eq_of_mem_replicate h2; omega
    · omega
  · rw [hl] at hi; exact hi
  · rw [hl] at hi; rw [gg i i hi, if_pos rfl]
  · rw [hl] at hi; rw [gg i j hi, if_neg (by omega)]
  · rw [hl] at hi hk; rw [gg k i hk, if_neg hne]
theorem longP_nils (m : Nat) : longP (List.replicate m []) = unitsP (m : Int) := by
  rw [longP, unitsP, List.length_replicate, Int.toNat_natCast]
  apply List.map_congr_left
  intro i hi
  rw [List.mem_range] at hi
  rw [getD_repl hi, List.nil_append]
theorem kerQ_nils {p : Int} (hP : isP p = true) (m : Nat) : kerQ p (List.replicate m []) = unitsP (m : Int) := by
  have hw : wd (List.replicate m ([] : List Int)) = 0 := by
    cases m with
    | zero => rfl
    | succ m => rfl
  rw [kerQ, kerP, hw, longP_nils, (Rr.units m (isP_two hP).1).self hP]
  have hf : (unitsP (m : Int)).filter (fun r => decide (((0 : Nat) : Int) ≤ leadP r)) = unitsP (m : Int) := by
    apply List.filter_eq_self.2
    intro r hr
    obtain ⟨i, hi, rfl⟩ := List.getElem_of_mem hr
    have := (Rr.units m (isP_two hP).1).lead hi
    rw [List.getD_eq_getElem?_getD, List.getElem?_eq_getElem hi] at this
    simp only [Option.getD_some] at this
    rw [this]; simp
  rw [hf]
  exact List.map_id'' (fun _ => rfl) _
noncomputable def cycP (X : Cx) (n : Int) : List (List Int) := kerQ X.p (mapP X n)
noncomputable def bndP (X : Cx) (n : Int) : List (List Int) := ech X.p (mapP X (n + 1))
theorem mapP_in {X : Cx} {n : Int} (h0 : 1 ≤ n) (h1 : n ≤ (X.dims.length : Int) - 1) : mapP X n = X.maps.getD (n - 1).toNat default := by rw [mapP, if_pos (in3_iff.2 ⟨h0, h1⟩)]
theorem mapP_out {X : Cx} {n : Int} (h : n ≤ 0 ∨ (X.dims.length : Int) - 1 < n) : mapP X n = List.replicate (dimP X n).toNat [] := by rw [mapP, if_neg (by rw [in3_iff]; omega)]
/-- The rows of a degree: how many, and how long. -/
theorem mapP_tbl {X : Cx} (hC : IsC X) (n : Int) : ((mapP X n).length : Int) = dimP X n ∧ ∀ r ∈ mapP X n, r.length = (if 1 ≤ n then (dimP X (n - 1)).toNat else 0) ∧ Bnd X.p r := by
  have hd := dimP_bnd hC n
  by_cases h : 0 ≤ n ∧ n ≤ (X.dims.length : Int) - 1
  · obtain ⟨h1, h2⟩ := mapP_ok hC h.1 h.2
    refine ⟨by rw [h1, dimP, if_pos (in3_iff.2 h)], fun r hr => ?_⟩
    have := h2 r hr
    refine ⟨?_, this.2⟩
    split
    · omega
    · have e : n - 1 < 0 := by omega
      rw [dimP_out (n := n - 1) (by omega)] at this; omega
  · rw [mapP_out (by omega), dimP_out h]
    exact ⟨rfl, fun r hr => by cases hr⟩
def mapW (X : Cx) (n : Int) : Nat := if 1 ≤ n then (dimP X (n - 1)).toNat else 0
theorem mapW_le {X : Cx} (hC : IsC X) (n : Int) : mapW X n ≤ 8 := by
  have := dimP_bnd hC (n - 1)
  unfold mapW; split <;> omega
theorem mapP_len {X : Cx} (hC : IsC X) (n : Int) : (mapP X n).length ≤ 8 := by
  have := (mapP_tbl hC n).1
  have := dimP_bnd hC n
  omega
theorem cycP_in {X : Cx} {n : Int} (h0 : 1 ≤ n) (h1 : n ≤ (X.dims.length : Int) - 1) : cycP X n = kerQ X.p (X.maps.getD (n - 1).toNat default) := by rw [cycP, mapP_in h0 h1]
theorem cycP_out {X : Cx} (hC : IsC X) {n : Int} (h : n ≤ 0 ∨ (X.dims.length : Int) - 1 < n) : cycP X n = unitsP (dimP X n) := by
  have := dimP_bnd hC n
  rw [cycP, mapP_out h, kerQ_nils hC.p, show (((dimP X n).toNat : Nat) : Int) = dimP X n by omega]
theorem bndP_in {X : Cx} {n : Int} (h0 : 0 ≤ n) (h1 : n < (X.dims.length : Int) - 1) : bndP X n = ech X.p (X.maps.getD n.toNat default) := by rw [bndP, mapP_in (by omega) (by omega), Int.add_sub_cancel]
theorem bndP_out {X : Cx} (hC : IsC X) {n : Int} (h0 : 0 ≤ n) (h1 : (X.dims.length : Int) - 1 ≤ n) : bndP X n = [] := by
  rw [bndP, mapP_out (by omega), dimP_out (by omega)]
  exact ech_nil (isP_two hC.p).1
/-- The cycles of a degree are reduced. -/
theorem cyc_rr {X : Cx} (hC : IsC X) (n : Int) : ∃ l, Rr X.p (dimP X n).toNat (cycP X n) l := by
  obtain ⟨h1, h2⟩ := mapP_tbl hC n
  have hl : (mapP X n).length = (dimP X n).toNat := by omega
  by_cases hn : mapP X n = []
  · rw [cycP, hn, kerQ_nil (isP_two hC.p).1]; exact ⟨fun i => i, Rr.nil⟩
  · rw [cycP, kerQ_w h2 hn, ← hl]; exact kerP_rr hC.p h2
theorem bnd_rr {X : Cx} (hC : IsC X) {n : Int} (h0 : 0 ≤ n) : ∃ l, Rr X.p (dimP X n).toNat (bndP X n) l := by
  obtain ⟨h1, h2⟩ := mapP_tbl hC (n + 1)
  rw [if_pos (by omega), Int.add_sub_cancel] at h2
  exact (ech_red hC.p h2).1
theorem Rr.tbl {p : Int} {w : Nat} {L : List (List Int)} {l : Nat → Nat} (r : Rr p w L l) : ∀ x ∈ L, x.length = w ∧ Bnd p x := fun x hx => by
  obtain ⟨i, hi, rfl⟩ := List.getElem_of_mem hx
  have a := r.len i hi
  have b := r.bnd i hi
  rw [List.getD_eq_getElem?_getD, List.getElem?_eq_getElem hi] at a b
  exact ⟨a, b⟩

set_option maxRecDepth 100000 in
theorem sKernel_ok (vR : Value) (p : Int) (n : Int) (R : List (List Int)) (h : Heap) (rR : R2 h vR R) {w : Nat} (hP : isP p = true) (hT : ∀ r ∈ R, r.length = w ∧ Bnd p r) (hw : w ≤ 500) (hl : R.length ≤ 500) (hn : n = (R.length : Int)) : CallA Try.prog 123 #[.int .i64 p, .int .i64 n, vR] h fun v' h' => ∃ w0 f0, v' = w0 ∧ O2 h' w0 (kerQ p R) f0 ∧ Fresh h.size f0 ∧ Ext h h' := by
  have hleR := RdS.le rR
  have hp := isP_two hP
  have hLT := longP_tbl hp.1 hT
  have hEl := ech_len_le hP hLT
  obtain ⟨⟨l, hrE⟩, _⟩ := ech_red hP hLT
  have hll := len_longP R
  have hE0 : R = [] → (ech p (longP R)).length = 0 := fun e => by subst e; rw [longP]; simp only [List.length_nil, List.range_zero, List.map_nil]; rw [ech_nil hp.1]; rfl
  refine callA_intro TTok (args := [_, _, _]) Try.func123 (by kernel_rfl) rfl 68 rfl (by simp) [.tmp 6] rfl ?_
  simp only [idxs, Nat.reduceAdd]
  refine den_seq ?_
  refine den_region TTok ?_
  intro K hK
  simp -implicitDefEqProofs (disch := first | decide | assumption | omega) only [go_sem, RdS.len rR sl36, RdS.idx rR sl36, RdS.cellB rR (HPres.refl _), RdS.cells rR, wrap_id]
  refine hK _ _ ?_
  clear hK K
  refine den_seq ?_
  refine den_region TTok ?_
  intro K hK
  simp -implicitDefEqProofs (disch := first | decide | assumption | omega) only [go_sem, RdS.len rR sl36, RdS.idx rR sl36, RdS.cellB rR (HPres.refl _), RdS.cells rR, wrap_id]
  refine op_bs0 sz36 O1 ?_
  intro v1_0 h1_0 ho1_0 e1_0
  have := Ext.size e1_0
  have eB := e1_0
  have hfho1_0 : Fresh h.size [h.size] := Fresh.one _
  have hlho1_0 := OS.lt ho1_0
  try simp -implicitDefEqProofs (disch := first | decide | assumption | omega) only [go_sem, RdS.len rR sl36, RdS.idx rR sl36, RdS.cellB rR (Ext.pres eB), RdS.cells rR, RdS.len (OS.rd ho1_0) sl36, RdS.idx (OS.rd ho1_0) sl36, RdS.cellN (OS.rd ho1_0), RdS.cells (OS.rd ho1_0), wrap_id]
  refine hK _ _ ?_
  clear hK K
  refine den_seq ?_
  refine den_region TTok ?_
  intro K hK
  simp -implicitDefEqProofs (disch := first | decide | assumption | omega) only [go_sem, RdS.len rR sl36, RdS.idx rR sl36, RdS.cellB rR (Ext.pres eB), RdS.cells rR, RdS.len (OS.rd ho1_0) sl36, RdS.idx (OS.rd ho1_0) sl36, RdS.cellN (OS.rd ho1_0), RdS.cells (OS.rd ho1_0), wrap_id]
  refine hK _ _ ?_
  clear hK K
  refine den_seq ?_
  refine den_seq ?_
  refine den_region TTok ?_
  intro K hK
  simp -implicitDefEqProofs (disch := first | decide | assumption | omega) only [go_sem, RdS.len rR sl36, RdS.idx rR sl36, RdS.cellB rR (Ext.pres eB), RdS.cells rR, RdS.len (OS.rd ho1_0) sl36, RdS.idx (OS.rd ho1_0) sl36, RdS.cellN (OS.rd ho1_0), RdS.cells (OS.rd ho1_0), wrap_id]
  refine hK _ _ ?_
  clear hK K
  refine den_block ?_
  refine den_sel [7, 8, 9, 0, 1, 2] ?_
  intro env_1
  simp only [go_sem]
  refine den_loopS (σ := Nat × Nat × Value × List Nat) (fun st_ => [(7, st_.2.2.1), (8, .int .i64 (st_.2.1 : Int)), (9, .int .i64 (st_.1 : Int))]) (fun st_ H => (st_.1 ≤ R.length) ∧ (0 < st_.1 → st_.2.1 = w) ∧ (O2 H st_.2.2.1 ((List.range st_.1).map fun i => R.getD i default ++ unitP R.length i) st_.2.2.2) ∧ (Fresh (h.size) st_.2.2.2) ∧ (Sub [h.size] h1_0.size st_.2.2.2) ∧ (Chg [h.size] h1_0 H)) (fun st_ => R.length - st_.1) (0, 0, v1_0, [h.size]) ?_ ?_
  · exact ⟨by simp, fun h => absurd h (by simp), by simpa using ho1_0, hfho1_0, Sub.refl, Chg.refl _ _⟩
  · rintro ⟨m, wn, vhL, fphL⟩ h4 ee3 ⟨hk, hwd_, hL, hfhL, sbhL, cL2⟩
    dsimp only at hk hwd_ hL hfhL sbhL cL2
    have := cL2.size
    replace eB := Ext.then eB cL2 (ge_of hfho1_0 (by omega))
    have hlhL := OS.lt hL
    simp only [List.cons_append, List.nil_append]
    have hlo_ : ((List.range m).map fun i => R.getD i default ++ unitP R.length i).length = m := by simp
    refine den_seq ?_
    refine den_seq ?_
    refine den_region TTok ?_
    intro K hK
    simp -implicitDefEqProofs (disch := first | decide | assumption | omega) only [go_sem, RdS.len rR sl36, RdS.idx rR sl36, RdS.cellB rR (Ext.pres eB), RdS.cells rR, RdS.len (OS.rd hL) sl36, RdS.idx (OS.rd hL) sl36, RdS.cellN (OS.rd hL), RdS.cells (OS.rd hL), wrap_id]
    refine hK _ _ ?_
    clear hK K
    refine den_cond rfl (fun c0 => ?_) (fun c0 => ?_)
    · try simp only [decide_eq_true_eq, decide_eq_false_iff_not, beq_iff_eq, beq_eq_false_iff_ne, bne_iff_ne, ne_eq, Bool.not_eq_true', Bool.not_eq_false', Bool.and_eq_true, Bool.or_eq_true, bne_eq_false_iff_eq] at c0
      refine den_skip ?_
      refine den_seq ?_
      refine den_block ?_
      refine den_seq ?_
      refine den_region TTok ?_
      intro K hK
      simp -implicitDefEqProofs (disch := first | decide | assumption | omega) only [go_sem, RdS.len rR sl36, RdS.idx rR sl36, RdS.cellB rR (Ext.pres eB), RdS.cells rR, RdS.len (OS.rd hL) sl36, RdS.idx (OS.rd hL) sl36, RdS.cellN (OS.rd hL), RdS.cells (OS.rd hL), wrap_id]
      refine op_make sz22 rfl rfl (by omega) (by omega) OI 0 (fun _ => ⟨rfl, rfl⟩) ?_
      intro v6_1 h6_1 ho6_1 e6_1
      replace hL := OS.ext hL e6_1
      have := Ext.size e6_1
      replace eB := Ext.trans eB e6_1
      replace cL2 := Chg.stepE cL2 e6_1
      have hfho6_1 : Fresh h4.size [h4.size] := Fresh.one _
      have hlenho6_1 : (List.replicate (n).toNat (0 : Int)).length = (n).toNat := List.length_replicate
      have hlho6_1 := OS.lt ho6_1
      try simp -implicitDefEqProofs (disch := first | decide | assumption | omega) only [go_sem, RdS.len rR sl36, RdS.idx rR sl36, RdS.cellB rR (Ext.pres eB), RdS.cells rR, RdS.len (OS.rd hL) sl36, RdS.idx (OS.rd hL) sl36, RdS.cellN (OS.rd hL), RdS.cells (OS.rd hL), RdS.len (OS.rd ho6_1) sl22, RdS.idx (OS.rd ho6_1) sl22, R1.intN (OS.rd ho6_1), RdS.cells (OS.rd ho6_1), wrap_id]
      refine hK _ _ ?_
      clear hK K
      refine den_seq ?_
      refine den_region TTok ?_
      intro K hK
      simp -implicitDefEqProofs (disch := first | decide | assumption | omega) only [go_sem, RdS.len rR sl36, RdS.idx rR sl36, RdS.cellB rR (Ext.pres eB), RdS.cells rR, RdS.len (OS.rd hL) sl36, RdS.idx (OS.rd hL) sl36, RdS.cellN (OS.rd hL), RdS.cells (OS.rd hL), RdS.len (OS.rd ho6_1) sl22, RdS.idx (OS.rd ho6_1) sl22, R1.intN (OS.rd ho6_1), RdS.cells (OS.rd ho6_1), wrap_id]
      refine op_store1 (j := m) st2 ho6_1 hfho6_1.nodup (by first | omega | (simp; omega)) rfl rfl ?_
      intro h7_3 ho7_3 c7_3
      have hsz7_3 := c7_3.size
      replace hL := OS.chg hL c7_3 (apart_lt hlhL hfho6_1 (by omega))
      have := c7_3.size
      replace eB := Ext.then eB c7_3 (ge_of hfho6_1 (by omega))
      replace cL2 := Chg.step cL2 c7_3 (Sub.fresh hfho6_1 (by omega))
      have hlho7_3 := hlho6_1
      have hlenho7_3 : ((List.replicate (n).toNat 0).set m (1 : Int) : List Int).length = (List.replicate (n).toNat 0 : List Int).length := List.length_set
      try simp -implicitDefEqProofs (disch := first | decide | assumption | omega) only [go_sem, RdS.len rR sl36, RdS.idx rR sl36, RdS.cellB rR (Ext.pres eB), RdS.cells rR, RdS.len (OS.rd hL) sl36, RdS.idx (OS.rd hL) sl36, RdS.cellN (OS.rd hL), RdS.cells (OS.rd hL), RdS.len (OS.rd ho7_3) sl22, RdS.idx (OS.rd ho7_3) sl22, R1.intN (OS.rd ho7_3), RdS.cells (OS.rd ho7_3), wrap_id]
      refine hK _ _ ?_
      clear hK K
      refine den_seq ?_
      have hRk := hT _ (getD_mem (show m < R.length by omega))
      refine den_region TTok ?_
      intro K hK
      have hr5 := RdS.rowN rR m (by omega)
      have hlhr5 := RdS.le hr5
      simp -implicitDefEqProofs (disch := first | decide | assumption | omega) only [go_sem, ld22, RdS.len rR sl36, RdS.idx rR sl36, RdS.cellB rR (Ext.pres eB), RdS.cells rR, RdS.len hr5 sl22, RdS.idx hr5 sl22, R1.intB hr5 (Ext.pres eB), RdS.cells hr5, RdS.len (OS.rd hL) sl36, RdS.idx (OS.rd hL) sl36, RdS.cellN (OS.rd hL), RdS.cells (OS.rd hL), RdS.len (OS.rd ho7_3) sl22, RdS.idx (OS.rd ho7_3) sl22, R1.intN (OS.rd ho7_3), RdS.cells (OS.rd ho7_3), wrap_id]
      refine hK _ _ ?_
      clear hK K
      refine den_region TTok ?_
      intro K hK
      have hr6 := RdS.rowN rR m (by omega)
      have hlhr6 := RdS.le hr6
      simp -implicitDefEqProofs (disch := first | decide | assumption | omega) only [go_sem, ld22, RdS.len rR sl36, RdS.idx rR sl36, RdS.cellB rR (Ext.pres eB), RdS.cells rR, RdS.len hr5 sl22, RdS.idx hr5 sl22, R1.intB hr5 (Ext.pres eB), RdS.cells hr5, RdS.len hr6 sl22, RdS.idx hr6 sl22, R1.intB hr6 (Ext.pres eB), RdS.cells hr6, RdS.len (OS.rd hL) sl36, RdS.idx (OS.rd hL) sl36, RdS.cellN (OS.rd hL), RdS.cells (OS.rd hL), RdS.len (OS.rd ho7_3) sl22, RdS.idx (OS.rd ho7_3) sl22, R1.intN (OS.rd ho7_3), RdS.cells (OS.rd ho7_3), wrap_id]
      try simp -implicitDefEqProofs (disch := first | decide | assumption | omega) only [go_sem, RdS.len rR sl36, RdS.idx rR sl36, RdS.cellB rR (Ext.pres eB), RdS.cells rR, RdS.len hr5 sl22, RdS.idx hr5 sl22, R1.intB hr5 (Ext.pres eB), RdS.cells hr5, RdS.len hr6 sl22, RdS.idx hr6 sl22, R1.intB hr6 (Ext.pres eB), RdS.cells hr6, RdS.len (OS.rd hL) sl36, RdS.idx (OS.rd hL) sl36, RdS.cellN (OS.rd hL), RdS.cells (OS.rd hL), RdS.len (OS.rd ho7_3) sl22, RdS.idx (OS.rd ho7_3) sl22, R1.intN (OS.rd ho7_3), RdS.cells (OS.rd ho7_3), wrap_id]
      refine CallA.mono (sOwn_ok _ ((R).getD m default) _ (RdS.pres hr6 (Ext.pres eB)) (by omega)) ?_
      intro vw9_5_0 h9_5
      rintro ⟨zvw9_5_0, fw9_5_0, rfl, how9_5_0, hfw9_5_0, e9_5⟩
      replace hL := OS.ext hL e9_5
      replace ho7_3 := OS.ext ho7_3 e9_5
      have := Ext.size e9_5
      replace eB := Ext.trans eB e9_5
      replace cL2 := Chg.stepE cL2 e9_5
      have hlhow9_5_0 := OS.lt how9_5_0
      try simp -implicitDefEqProofs (disch := first | decide | assumption | omega) only [go_sem, RdS.len rR sl36, RdS.idx rR sl36, RdS.cellB rR (Ext.pres eB), RdS.cells rR, RdS.len hr5 sl22, RdS.idx hr5 sl22, R1.intB hr5 (Ext.pres eB), RdS.cells hr5, RdS.len hr6 sl22, RdS.idx hr6 sl22, R1.intB hr6 (Ext.pres eB), RdS.cells hr6, RdS.len (OS.rd hL) sl36, RdS.idx (OS.rd hL) sl36, RdS.cellN (OS.rd hL), RdS.cells (OS.rd hL), RdS.len (OS.rd ho7_3) sl22, RdS.idx (OS.rd ho7_3) sl22, R1.intN (OS.rd ho7_3), RdS.cells (OS.rd ho7_3), RdS.len (OS.rd how9_5_0) sl22, RdS.idx (OS.rd how9_5_0) sl22, R1.intN (OS.rd how9_5_0), RdS.cells (OS.rd how9_5_0), wrap_id]
      refine op_appendR how9_5_0 (OS.rd ho7_3) (by first | omega | (simp; omega)) rfl ?_
      intro v9_7 h9_7 fp9_7 ho9_7 hn9_7 hs9_7 c9_7
      have hsz9_7 := c9_7.size
      have hfho9_7 : Fresh h7_3.size fp9_7 := Fresh.appd hfw9_5_0 (Fresh.nil h9_5.size) (by omega) (by omega) hn9_7 hs9_7
      replace hL := OS.chg hL c9_7 (apart_lt hlhL hfw9_5_0 (by omega))
      replace ho7_3 := OS.chg ho7_3 c9_7 (apart_lt hlho7_3 hfw9_5_0 (by omega))
      have := c9_7.size
      replace eB := Ext.then eB c9_7 (ge_of hfw9_5_0 (by omega))
      replace cL2 := Chg.step cL2 c9_7 (Sub.fresh hfw9_5_0 (by omega))
      have hlho9_7 := OS.lt ho9_7
      try simp -implicitDefEqProofs (disch := first | decide | assumption | omega) only [go_sem, RdS.len rR sl36, RdS.idx rR sl36, RdS.cellB rR (Ext.pres eB), RdS.cells rR, RdS.len hr5 sl22, RdS.idx hr5 sl22, R1.intB hr5 (Ext.pres eB), RdS.cells hr5, RdS.len hr6 sl22, RdS.idx hr6 sl22, R1.intB hr6 (Ext.pres eB), RdS.cells hr6, RdS.len (OS.rd hL) sl36, RdS.idx (OS.rd hL) sl36, RdS.cellN (OS.rd hL), RdS.cells (OS.rd hL), RdS.len (OS.rd ho7_3) sl22, RdS.idx (OS.rd ho7_3) sl22, R1.intN (OS.rd ho7_3), RdS.cells (OS.rd ho7_3), RdS.len (OS.rd ho9_7) sl22, RdS.idx (OS.rd ho9_7) sl22, R1.intN (OS.rd ho9_7), RdS.cells (OS.rd ho9_7), wrap_id]
      refine op_bs1 sz36 rfl (OS.one ho9_7).2 ?_
      try simp -implicitDefEqProofs (disch := first | decide | assumption | omega) only [go_sem, RdS.len rR sl36, RdS.idx rR sl36, RdS.cellB rR (Ext.pres eB), RdS.cells rR, RdS.len hr5 sl22, RdS.idx hr5 sl22, R1.intB hr5 (Ext.pres eB), RdS.cells hr5, RdS.len hr6 sl22, RdS.idx hr6 sl22, R1.intB hr6 (Ext.pres eB), RdS.cells hr6, RdS.len (OS.rd hL) sl36, RdS.idx (OS.rd hL) sl36, RdS.cellN (OS.rd hL), RdS.cells (OS.rd hL), RdS.len (OS.rd ho7_3) sl22, RdS.idx (OS.rd ho7_3) sl22, R1.intN (OS.rd ho7_3), RdS.cells (OS.rd ho7_3), RdS.len (OS.rd ho9_7) sl22, RdS.idx (OS.rd ho9_7) sl22, R1.intN (OS.rd ho9_7), RdS.cells (OS.rd ho9_7), wrap_id]
      refine op_append1 sz36 hL hfhL.nodup ho9_7 hfho9_7.nodup (apart_lt hlhL hfho9_7 (by omega)) (by first | omega | (simp; omega)) rfl rfl ?_
      intro v9_9 h9_9 fp9_9 ho9_9 hn9_9 hs9_9 c9_9
      have hsz9_9 := c9_9.size
      have hfho9_9 : Fresh h.size fp9_9 := Fresh.appd hfhL hfho9_7 (by omega) (by omega) hn9_9 hs9_9
      have sb7 : Sub [h.size] h1_0.size fp9_9 := Sub.grow sbhL (Sub.fresh hfho9_7 (by omega)) (by omega) hs9_9
      replace ho7_3 := OS.chg ho7_3 c9_9 (apart_gt hfho6_1 hlhL (by omega))
      have := c9_9.size
      replace eB := Ext.then eB c9_9 (ge_of hfhL (by omega))
      replace cL2 := Chg.step cL2 c9_9 sbhL
      have ap8 : Apart [h4.size] fp9_9 := Apart.grow hlho7_3 (by omega) (apart_gt hfho6_1 hlhL (by omega)) (apart_lt hlho7_3 hfho9_7 (by omega)) hs9_9
      have hlho9_9 := OS.lt ho9_9
      try simp -implicitDefEqProofs (disch := first | decide | assumption | omega) only [go_sem, RdS.len rR sl36, RdS.idx rR sl36, RdS.cellB rR (Ext.pres eB), RdS.cells rR, RdS.len hr5 sl22, RdS.idx hr5 sl22, R1.intB hr5 (Ext.pres eB), RdS.cells hr5, RdS.len hr6 sl22, RdS.idx hr6 sl22, R1.intB hr6 (Ext.pres eB), RdS.cells hr6, RdS.len (OS.rd ho7_3) sl22, RdS.idx (OS.rd ho7_3) sl22, R1.intN (OS.rd ho7_3), RdS.cells (OS.rd ho7_3), RdS.len (OS.rd ho9_9) sl36, RdS.idx (OS.rd ho9_9) sl36, RdS.cellN (OS.rd ho9_9), RdS.cells (OS.rd ho9_9), wrap_id]
      refine hK _ _ ?_
      clear hK K
      refine den_blk ?_
      refine den_region TTok ?_
      intro K hK
      simp -implicitDefEqProofs (disch := first | decide | assumption | omega) only [go_sem, RdS.len rR sl36, RdS.idx rR sl36, RdS.cellB rR (Ext.pres eB), RdS.cells rR, RdS.len hr5 sl22, RdS.idx hr5 sl22, R1.intB hr5 (Ext.pres eB), RdS.cells hr5, RdS.len hr6 sl22, RdS.idx hr6 sl22, R1.intB hr6 (Ext.pres eB), RdS.cells hr6, RdS.len (OS.rd ho9_9) sl36, RdS.idx (OS.rd ho9_9) sl36, RdS.cellN (OS.rd ho9_9), RdS.cells (OS.rd ho9_9), wrap_id]
      refine hK _ _ ?_
      clear hK K
      refine den_stop ?_
      rw [show (List.replicate n.toNat (0 : Int)).set m 1 = unitP R.length m by rw [hn, Int.toNat_natCast]; rfl, longP_step (by omega)] at ho9_9
      exact ⟨(m + 1, (R.getD m default).length, v9_9, fp9_9), by simp [HasL, puts_at], ⟨by dsimp only; omega, (fun _ => hRk.1), ho9_9, hfho9_9, sb7, cL2⟩, by first | omega | (dsimp only; omega)⟩
    · try simp only [decide_eq_true_eq, decide_eq_false_iff_not, beq_iff_eq, beq_eq_false_iff_ne, bne_iff_ne, ne_eq, Bool.not_eq_true', Bool.not_eq_false', Bool.and_eq_true, Bool.or_eq_true, bne_eq_false_iff_eq] at c0
      refine den_exit ?_
      refine denX_code ?_
      refine denX_stop ?_
      refine denX_hit ?_
      refine den_seq ?_
      rw [show ((List.range m).map fun i => R.getD i default ++ unitP R.length i) = longP R by rw [longP, show R.length = m by omega]] at hL
      have hredT := hLT
      refine den_region TTok ?_
      intro K hK
      simp -implicitDefEqProofs (disch := first | decide | assumption | omega) only [go_sem, RdS.len rR sl36, RdS.idx rR sl36, RdS.cellB rR (Ext.pres eB), RdS.cells rR, RdS.len (OS.rd hL) sl36, RdS.idx (OS.rd hL) sl36, RdS.cellN (OS.rd hL), RdS.cells (OS.rd hL), wrap_id]
      try simp -implicitDefEqProofs (disch := first | decide | assumption | omega) only [go_sem, RdS.len rR sl36, RdS.idx rR sl36, RdS.cellB rR (Ext.pres eB), RdS.cells rR, RdS.len (OS.rd hL) sl36, RdS.idx (OS.rd hL) sl36, RdS.cellN (OS.rd hL), RdS.cells (OS.rd hL), wrap_id]
      refine CallA.mono (sEch_ok _ p (longP R) _ (OS.rd hL) hP hredT (by omega) (by omega)) ?_
      intro vw10_2_0 h10_2
      rintro ⟨zvw10_2_0, fw10_2_0, rfl, how10_2_0, hfw10_2_0, e10_2⟩
      replace hL := OS.ext hL e10_2
      have := Ext.size e10_2
      replace eB := Ext.trans eB e10_2
      have hlhow10_2_0 := OS.lt how10_2_0
      try simp -implicitDefEqProofs (disch := first | decide | assumption | omega) only [go_sem, RdS.len rR sl36, RdS.idx rR sl36, RdS.cellB rR (Ext.pres eB), RdS.cells rR, RdS.len (OS.rd hL) sl36, RdS.idx (OS.rd hL) sl36, RdS.cellN (OS.rd hL), RdS.cells (OS.rd hL), RdS.len (OS.rd how10_2_0) sl36, RdS.idx (OS.rd how10_2_0) sl36, RdS.cellN (OS.rd how10_2_0), RdS.cells (OS.rd how10_2_0), wrap_id]
      refine op_bs0 sz36 O1 ?_
      intro v10_3 h10_3 ho10_3 e10_3
      replace hL := OS.ext hL e10_3
      replace how10_2_0 := OS.ext how10_2_0 e10_3
      have := Ext.size e10_3
      replace eB := Ext.trans eB e10_3
      have hfho10_3 : Fresh h10_2.size [h10_2.size] := Fresh.one _
      have hlho10_3 := OS.lt ho10_3
      try simp -implicitDefEqProofs (disch := first | decide | assumption | omega) only [go_sem, RdS.len rR sl36, RdS.idx rR sl36, RdS.cellB rR (Ext.pres eB), RdS.cells rR, RdS.len (OS.rd hL) sl36, RdS.idx (OS.rd hL) sl36, RdS.cellN (OS.rd hL), RdS.cells (OS.rd hL), RdS.len (OS.rd how10_2_0) sl36, RdS.idx (OS.rd how10_2_0) sl36, RdS.cellN (OS.rd how10_2_0), RdS.cells (OS.rd how10_2_0), RdS.len (OS.rd ho10_3) sl36, RdS.idx (OS.rd ho10_3) sl36, RdS.cellN (OS.rd ho10_3), RdS.cells (OS.rd ho10_3), wrap_id]
      refine hK _ _ ?_
      clear hK K
      refine den_seq ?_
      refine den_seq ?_
      refine den_region TTok ?_
      intro K hK
      simp -implicitDefEqProofs (disch := first | decide | assumption | omega) only [go_sem, RdS.len rR sl36, RdS.idx rR sl36, RdS.cellB rR (Ext.pres eB), RdS.cells rR, RdS.len (OS.rd how10_2_0) sl36, RdS.idx (OS.rd how10_2_0) sl36, RdS.cellN (OS.rd how10_2_0), RdS.cells (OS.rd how10_2_0), RdS.len (OS.rd ho10_3) sl36, RdS.idx (OS.rd ho10_3) sl36, RdS.cellN (OS.rd ho10_3), RdS.cells (OS.rd ho10_3), wrap_id]
      refine hK _ _ ?_
      clear hK K
      refine den_block ?_
      refine den_sel [12, 13, 8, 11] ?_
      intro env_9
      simp only [go_sem]
      refine den_loopS (σ := Nat × Value × List Nat) (fun st_ => [(12, st_.2.1), (13, .int .i64 (st_.1 : Int))]) (fun st_ H => (st_.1 ≤ (ech p (longP R)).length) ∧ (O2 H st_.2.1 ((((ech p (longP R)).take st_.1).filter (fun r : List Int => decide ((w : Int) ≤ leadP r))).map (fun r : List Int => r.drop w)) st_.2.2) ∧ (Fresh (h10_2.size) st_.2.2) ∧ (Sub [h10_2.size] h10_3.size st_.2.2) ∧ (Chg [h10_2.size] h10_3 H)) (fun st_ => (ech p (longP R)).length - st_.1) (0, v10_3, [h10_2.size]) ?_ ?_
      · exact ⟨by simp, by simpa using ho10_3, hfho10_3, Sub.refl, Chg.refl _ _⟩
      · rintro ⟨k, vhN, fphN⟩ h12 ee11 ⟨hk2, hN, hfhN, sbhN, cL10⟩
        dsimp only at hk2 hN hfhN sbhN cL10
        replace how10_2_0 := OS.chg how10_2_0 cL10 (apart_lt hlhow10_2_0 hfho10_3 (by omega))
        have := cL10.size
        replace eB := Ext.then eB cL10 (ge_of hfho10_3 (by omega))
        have hlhN := OS.lt hN
        simp only [List.cons_append, List.nil_append]
        have hol := fm_len (f := (fun r : List Int => decide ((w : Int) ≤ leadP r))) (g := (fun r : List Int => r.drop w)) (xs := (ech p (longP R))) hk2
        refine den_seq ?_
        refine den_seq ?_
        refine den_region TTok ?_
        intro K hK
        simp -implicitDefEqProofs (disch := first | decide | assumption | omega) only [go_sem, RdS.len rR sl36, RdS.idx rR sl36, RdS.cellB rR (Ext.pres eB), RdS.cells rR, RdS.len (OS.rd how10_2_0) sl36, RdS.idx (OS.rd how10_2_0) sl36, RdS.cellN (OS.rd how10_2_0), RdS.cells (OS.rd how10_2_0), RdS.len (OS.rd hN) sl36, RdS.idx (OS.rd hN) sl36, RdS.cellN (OS.rd hN), RdS.cells (OS.rd hN), wrap_id]
        refine hK _ _ ?_
        clear hK K
        refine den_cond rfl (fun c1 => ?_) (fun c1 => ?_)
        · try simp only [decide_eq_true_eq, decide_eq_false_iff_not, beq_iff_eq, beq_eq_false_iff_ne, bne_iff_ne, ne_eq, Bool.not_eq_true', Bool.not_eq_false', Bool.and_eq_true, Bool.or_eq_true, bne_eq_false_iff_eq] at c1
          refine den_skip ?_
          refine den_seq ?_
          refine den_block ?_
          refine den_seq ?_
          have hR0 : 0 < R.length := Nat.pos_of_ne_zero fun e_ => by have := hE0 (List.length_eq_zero_iff.1 e_); omega
          have hwd := hwd_ (by omega)
          refine den_region TTok ?_
          intro K hK
          have hr13 := RdS.rowN (OS.rd how10_2_0) k (by omega)
          have hlhr13 := RdS.le hr13
          have xr14 := Ext.refl h12
          simp -implicitDefEqProofs (disch := first | decide | assumption | omega) only [go_sem, ld22, RdS.len rR sl36, RdS.idx rR sl36, RdS.cellB rR (Ext.pres eB), RdS.cells rR, RdS.len (OS.rd how10_2_0) sl36, RdS.idx (OS.rd how10_2_0) sl36, RdS.cellN (OS.rd how10_2_0), RdS.cells (OS.rd how10_2_0), RdS.len (OS.rd hN) sl36, RdS.idx (OS.rd hN) sl36, RdS.cellN (OS.rd hN), RdS.cells (OS.rd hN), RdS.len hr13 sl22, RdS.idx hr13 sl22, R1.intB hr13 (Ext.pres xr14), RdS.cells hr13, wrap_id, hwd]
          try simp -implicitDefEqProofs (disch := first | decide | assumption | omega) only [go_sem, RdS.len rR sl36, RdS.idx rR sl36, RdS.cellB rR (Ext.pres eB), RdS.cells rR, RdS.len (OS.rd how10_2_0) sl36, RdS.idx (OS.rd how10_2_0) sl36, RdS.cellN (OS.rd how10_2_0), RdS.cells (OS.rd how10_2_0), RdS.len (OS.rd hN) sl36, RdS.idx (OS.rd hN) sl36, RdS.cellN (OS.rd hN), RdS.cells (OS.rd hN), RdS.len hr13 sl22, RdS.idx hr13 sl22, R1.intB hr13 (Ext.pres xr14), RdS.cells hr13, wrap_id, hwd]
          refine CallA.pure (sLead_ok _ ((ech p (longP R)).getD k default) _ (RdS.pres hr13 (Ext.pres xr14))) ?_
          try simp -implicitDefEqProofs (disch := first | decide | assumption | omega) only [go_sem, RdS.len rR sl36, RdS.idx rR sl36, RdS.cellB rR (Ext.pres eB), RdS.cells rR, RdS.len (OS.rd how10_2_0) sl36, RdS.idx (OS.rd how10_2_0) sl36, RdS.cellN (OS.rd how10_2_0), RdS.cells (OS.rd how10_2_0), RdS.len (OS.rd hN) sl36, RdS.idx (OS.rd hN) sl36, RdS.cellN (OS.rd hN), RdS.cells (OS.rd hN), RdS.len hr13 sl22, RdS.idx hr13 sl22, R1.intB hr13 (Ext.pres xr14), RdS.cells hr13, wrap_id, hwd]
          refine hK _ _ ?_
          clear hK K
          refine den_cond rfl (fun c2 => ?_) (fun c2 => ?_)
          · try simp only [decide_eq_true_eq, decide_eq_false_iff_not, beq_iff_eq, beq_eq_false_iff_ne, bne_iff_ne, ne_eq, Bool.not_eq_true', Bool.not_eq_false', Bool.and_eq_true, Bool.or_eq_true, bne_eq_false_iff_eq] at c2
            obtain ⟨vs, hes, hRs⟩ := RdS.dropV (k := .i64) (RdS.rowN (OS.rd how10_2_0) k (by omega)) sl22 (lo := (w : Int)) (by omega) (by have := hrE.len k (by omega); omega)
            rw [Int.toNat_natCast] at hRs
            have hdl_ : (((ech p (longP R)).getD k default).drop w).length ≤ 1000 := by rw [List.length_drop]; have := hrE.len k (by omega); omega
            refine den_region TTok ?_
            intro K hK
            have hr15 := RdS.rowN (OS.rd how10_2_0) k (by omega)
            have hlhr15 := RdS.le hr15
            have xr16 := Ext.refl h12
            simp -implicitDefEqProofs (disch := first | decide | assumption | omega) only [go_sem, ld22, RdS.len rR sl36, RdS.idx rR sl36, RdS.cellB rR (Ext.pres eB), RdS.cells rR, RdS.len (OS.rd how10_2_0) sl36, RdS.idx (OS.rd how10_2_0) sl36, RdS.cellN (OS.rd how10_2_0), RdS.cells (OS.rd how10_2_0), RdS.len (OS.rd hN) sl36, RdS.idx (OS.rd hN) sl36, RdS.cellN (OS.rd hN), RdS.cells (OS.rd hN), RdS.len hr13 sl22, RdS.idx hr13 sl22, R1.intB hr13 (Ext.pres xr14), RdS.cells hr13, RdS.len hr15 sl22, RdS.idx hr15 sl22, R1.intB hr15 (Ext.pres xr16), RdS.cells hr15, wrap_id, hwd, hes, Option.map_some, Option.map_none]
            try simp -implicitDefEqProofs (disch := first | decide | assumption | omega) only [go_sem, RdS.len rR sl36, RdS.idx rR sl36, RdS.cellB rR (Ext.pres eB), RdS.cells rR, RdS.len (OS.rd how10_2_0) sl36, RdS.idx (OS.rd how10_2_0) sl36, RdS.cellN (OS.rd how10_2_0), RdS.cells (OS.rd how10_2_0), RdS.len (OS.rd hN) sl36, RdS.idx (OS.rd hN) sl36, RdS.cellN (OS.rd hN), RdS.cells (OS.rd hN), RdS.len hr13 sl22, RdS.idx hr13 sl22, R1.intB hr13 (Ext.pres xr14), RdS.cells hr13, RdS.len hr15 sl22, RdS.idx hr15 sl22, R1.intB hr15 (Ext.pres xr16), RdS.cells hr15, wrap_id, hwd, hes, Option.map_some, Option.map_none]
            refine CallA.mono (sOwn_ok _ (((ech p (longP R)).getD k default).drop w) _ hRs (by omega)) ?_
            intro vw15_7_0 h15_7
            rintro ⟨zvw15_7_0, fw15_7_0, rfl, how15_7_0, hfw15_7_0, e15_7⟩
            replace how10_2_0 := OS.ext how10_2_0 e15_7
            replace hN := OS.ext hN e15_7
            have := Ext.size e15_7
            replace eB := Ext.trans eB e15_7
            replace xr14 := Ext.trans xr14 e15_7
            replace xr16 := Ext.trans xr16 e15_7
            replace cL10 := Chg.stepE cL10 e15_7
            have hlhow15_7_0 := OS.lt how15_7_0
            try simp -implicitDefEqProofs (disch := first | decide | assumption | omega) only [go_sem, RdS.len rR sl36, RdS.idx rR sl36, RdS.cellB rR (Ext.pres eB), RdS.cells rR, RdS.len (OS.rd how10_2_0) sl36, RdS.idx (OS.rd how10_2_0) sl36, RdS.cellN (OS.rd how10_2_0), RdS.cells (OS.rd how10_2_0), RdS.len (OS.rd hN) sl36, RdS.idx (OS.rd hN) sl36, RdS.cellN (OS.rd hN), RdS.cells (OS.rd hN), RdS.len (OS.rd how15_7_0) sl22, RdS.idx (OS.rd how15_7_0) sl22, R1.intN (OS.rd how15_7_0), RdS.cells (OS.rd how15_7_0), RdS.len hr13 sl22, RdS.idx hr13 sl22, R1.intB hr13 (Ext.pres xr14), RdS.cells hr13, RdS.len hr15 sl22, RdS.idx hr15 sl22, R1.intB hr15 (Ext.pres xr16), RdS.cells hr15, wrap_id, hwd, hes, Option.map_some, Option.map_none]
            refine op_bs1 sz36 rfl (OS.one how15_7_0).2 ?_
            try simp -implicitDefEqProofs (disch := first | decide | assumption | omega) only [go_sem, RdS.len rR sl36, RdS.idx rR sl36, RdS.cellB rR (Ext.pres eB), RdS.cells rR, RdS.len (OS.rd how10_2_0) sl36, RdS.idx (OS.rd how10_2_0) sl36, RdS.cellN (OS.rd how10_2_0), RdS.cells (OS.rd how10_2_0), RdS.len (OS.rd hN) sl36, RdS.idx (OS.rd hN) sl36, RdS.cellN (OS.rd hN), RdS.cells (OS.rd hN), RdS.len (OS.rd how15_7_0) sl22, RdS.idx (OS.rd how15_7_0) sl22, R1.intN (OS.rd how15_7_0), RdS.cells (OS.rd how15_7_0), RdS.len hr13 sl22, RdS.idx hr13 sl22, R1.intB hr13 (Ext.pres xr14), RdS.cells hr13, RdS.len hr15 sl22, RdS.idx hr15 sl22, R1.intB hr15 (Ext.pres xr16), RdS.cells hr15, wrap_id, hwd, hes, Option.map_some, Option.map_none]
            refine op_append1 sz36 hN hfhN.nodup how15_7_0 hfw15_7_0.nodup (apart_lt hlhN hfw15_7_0 (by omega)) (by first | omega | (simp; omega)) rfl rfl ?_
            intro v15_9 h15_9 fp15_9 ho15_9 hn15_9 hs15_9 c15_9
            have hsz15_9 := c15_9.size
            have hfho15_9 : Fresh h10_2.size fp15_9 := Fresh.appd hfhN hfw15_7_0 (by omega) (by omega) hn15_9 hs15_9
            have sb17 : Sub [h10_2.size] h10_3.size fp15_9 := Sub.grow sbhN (Sub.fresh hfw15_7_0 (by omega)) (by omega) hs15_9
            replace how10_2_0 := OS.chg how10_2_0 c15_9 (apart_lt hlhow10_2_0 hfhN (by omega))
            have := c15_9.size
            replace eB := Ext.then eB c15_9 (ge_of hfhN (by omega))
            replace cL10 := Chg.step cL10 c15_9 sbhN
            have hlho15_9 := OS.lt ho15_9
            try simp -implicitDefEqProofs (disch := first | decide | assumption | omega) only [go_sem, RdS.len rR sl36, RdS.idx rR sl36, RdS.cellB rR (Ext.pres eB), RdS.cells rR, RdS.len (OS.rd how10_2_0) sl36, RdS.idx (OS.rd how10_2_0) sl36, RdS.cellN (OS.rd how10_2_0), RdS.cells (OS.rd how10_2_0), RdS.len (OS.rd ho15_9) sl36, RdS.idx (OS.rd ho15_9) sl36, RdS.cellN (OS.rd ho15_9), RdS.cells (OS.rd ho15_9), wrap_id, hwd, hes, Option.map_some, Option.map_none]
            refine hK _ _ ?_
            clear hK K
            refine den_blk ?_
            refine den_region TTok ?_
            intro K hK
            simp -implicitDefEqProofs (disch := first | decide | assumption | omega) only [go_sem, RdS.len rR sl36, RdS.idx rR sl36, RdS.cellB rR (Ext.pres eB), RdS.cells rR, RdS.len (OS.rd how10_2_0) sl36, RdS.idx (OS.rd how10_2_0) sl36, RdS.cellN (OS.rd how10_2_0), RdS.cells (OS.rd how10_2_0), RdS.len (OS.rd ho15_9) sl36, RdS.idx (OS.rd ho15_9) sl36, RdS.cellN (OS.rd ho15_9), RdS.cells (OS.rd ho15_9), wrap_id]
            refine hK _ _ ?_
            clear hK K
            refine den_stop ?_
            first | rw [fm_yes (f := (fun r : List Int => decide ((w : Int) ≤ leadP r))) (g := (fun r : List Int => r.drop w)) (by omega) (decide_eq_true (by have h1 := c2; omega))] at ho15_9 | rw [fm_no (f := (fun r : List Int => decide ((w : Int) ≤ leadP r))) (g := (fun r : List Int => r.drop w)) (d := default) (by omega) (decide_eq_false (by have h1 := c2; omega))] at ho15_9
            exact ⟨(k + 1, v15_9, fp15_9), by simp [HasL, puts_at, hwd], ⟨by first | omega | (dsimp only; omega), ho15_9, hfho15_9, sb17, cL10⟩, by first | omega | (dsimp only; omega)⟩
          · try simp only [decide_eq_true_eq, decide_eq_false_iff_not, beq_iff_eq, beq_eq_false_iff_ne, bne_iff_ne, ne_eq, Bool.not_eq_true', Bool.not_eq_false', Bool.and_eq_true, Bool.or_eq_true, bne_eq_false_iff_eq] at c2
            refine den_skip ?_
            refine den_blk ?_
            refine den_region TTok ?_
            intro K hK
            simp -implicitDefEqProofs (disch := first | decide | assumption | omega) only [go_sem, RdS.len rR sl36, RdS.idx rR sl36, RdS.cellB rR (Ext.pres eB), RdS.cells rR, RdS.len (OS.rd how10_2_0) sl36, RdS.idx (OS.rd how10_2_0) sl36, RdS.cellN (OS.rd how10_2_0), RdS.cells (OS.rd how10_2_0), RdS.len (OS.rd hN) sl36, RdS.idx (OS.rd hN) sl36, RdS.cellN (OS.rd hN), RdS.cells (OS.rd hN), RdS.len hr13 sl22, RdS.idx hr13 sl22, R1.intB hr13 (Ext.pres xr14), RdS.cells hr13, wrap_id]
            refine hK _ _ ?_
            clear hK K
            refine den_stop ?_
            first | rw [fm_yes (f := (fun r : List Int => decide ((w : Int) ≤ leadP r))) (g := (fun r : List Int => r.drop w)) (by omega) (decide_eq_true (by have h1 := c2; omega))] at hN | rw [fm_no (f := (fun r : List Int => decide ((w : Int) ≤ leadP r))) (g := (fun r : List Int => r.drop w)) (d := default) (by omega) (decide_eq_false (by have h1 := c2; omega))] at hN
            exact ⟨(k + 1, vhN, fphN), by simp [HasL, puts_at, hwd], ⟨by first | omega | (dsimp only; omega), hN, hfhN, sbhN, cL10⟩, by first | omega | (dsimp only; omega)⟩
        · try simp only [decide_eq_true_eq, decide_eq_false_iff_not, beq_iff_eq, beq_eq_false_iff_ne, bne_iff_ne, ne_eq, Bool.not_eq_true', Bool.not_eq_false', Bool.and_eq_true, Bool.or_eq_true, bne_eq_false_iff_eq] at c1
          refine den_exit ?_
          refine denX_code ?_
          refine denX_stop ?_
          refine denX_hit ?_
          refine den_seq ?_
          refine den_region TTok ?_
          intro K hK
          simp -implicitDefEqProofs (disch := first | decide | assumption | omega) only [go_sem, RdS.len rR sl36, RdS.idx rR sl36, RdS.cellB rR (Ext.pres eB), RdS.cells rR, RdS.len (OS.rd hN) sl36, RdS.idx (OS.rd hN) sl36, RdS.cellN (OS.rd hN), RdS.cells (OS.rd hN), wrap_id]
          refine hK _ _ ?_
          clear hK K
          refine den_ret ?_
          simp (disch := decide) only [resP_1, puts_same, puts_ne]
          have hec : kerQ p R = (((ech p (longP R)).take k).filter (fun r : List Int => decide ((w : Int) ≤ leadP r))).map (fun r : List Int => r.drop w) := by
            by_cases e_ : R = []
            · subst e_
              rw [kerQ_nil hp.1, List.length_eq_zero_iff.1 (hE0 rfl)]; simp
            · rw [kerQ_w hT e_, kerP, List.take_of_length_le (i := k) (by omega)]
          rw [hec]
          exact ⟨_, _, rfl, hN, hfhN.mono (by omega), eB⟩

set_option maxRecDepth 100000 in
theorem iCyc_ok (vX : Value) (X : Cx) (n : Int) (h : Heap) (rX : RC h vX X) (hC : IsC X) (hn : -1000 ≤ n ∧ n ≤ 1000) : CallA Try.prog 62 #[vX, .int .i64 n] h fun v' h' => ∃ w0 f0, v' = w0 ∧ O2 h' w0 (cycP X n) f0 ∧ Fresh h.size f0 ∧ Ext h h' := by
  obtain ⟨vdX, vmX, rfl, hdX, hmX⟩ := rX
  have hledX := RdS.le hdX
  have hlemX := RdS.le hmX
  have hml := hC.ml
  have hlX := hC.len
  have hdb := dimP_bnd hC n
  have hpb := isP_bnd hC.p
  refine callA_intro TTok (args := [_, _]) Try.func62 (by kernel_rfl) rfl 26 rfl (by simp) [.tmp 4] rfl ?_
  simp only [idxs, Nat.reduceAdd]
  refine den_seq ?_
  refine den_region TTok ?_
  intro K hK
  simp -implicitDefEqProofs (disch := first | decide | assumption | omega) only [go_sem, RdS.len hdX sl22, RdS.idx hdX sl22, R1.intB hdX (HPres.refl _), RdS.cells hdX, RdS.len hmX sl23, RdS.idx hmX sl23, RdS.cellB hmX (HPres.refl _), RdS.cells hmX, wrap_id]
  refine op_box (cs := #[.int .i64 (X.p), vdX, vmX]) rfl ?_
  intro h0_0 e0_0 hb0_0 z0_0
  have := Ext.size e0_0
  have eB := e0_0
  have hfhb0_0 : Fresh h.size [h.size] := Fresh.one _
  have hlhb0_0 := one_lt (show h.size < h0_0.size by omega)
  try simp -implicitDefEqProofs (disch := first | decide | assumption | omega) only [go_sem, RdS.len hdX sl22, RdS.idx hdX sl22, R1.intB hdX (Ext.pres eB), RdS.cells hdX, RdS.len hmX sl23, RdS.idx hmX sl23, RdS.cellB hmX (Ext.pres eB), RdS.cells hmX, BoxAt.cell hb0_0, wrap_id]
  refine hK _ _ ?_
  clear hK K
  refine den_seq ?_
  refine den_seq ?_
  refine den_merge [(12, .bool (((decide (n ≤ (0 : Int))) || (decide ((((X.dims).length : Int) - 1) < n)))))] [1, 2] (fun H => Ext h0_0 H) ?_ ?_
    -- a way
  · refine den_region TTok ?_
    intro K hK
    simp -implicitDefEqProofs (disch := first | decide | assumption | (simp (disch := decide) only [slotOf_zero, slotOf_succ, Option.map_some, puts_same, puts_ne, gv_bool, gv_undef, tt, tf, ft, ff, eq_self, if_true, if_false, Bool.false_eq_true, Bool.not_true, Bool.not_false]; done) | omega) only [go_sem, RdS.len hdX sl22, RdS.idx hdX sl22, R1.intB hdX (Ext.pres eB), RdS.cells hdX, RdS.len hmX sl23, RdS.idx hmX sl23, RdS.cellB hmX (Ext.pres eB), RdS.cells hmX, BoxAt.cell hb0_0, wrap_id]
    refine opsP_F (by simp (disch := decide) only [slotOf_zero, slotOf_succ, Option.map_some, puts_same, puts_ne, gv_bool, gv_undef, tt, tf, ft, ff, eq_self, if_true, if_false, Bool.false_eq_true, Bool.not_true, Bool.not_false]; rfl) (fun g1 => ?_) (fun g1 => ?_)
    · try simp -implicitDefEqProofs (disch := first | decide | assumption | (simp (disch := decide) only [slotOf_zero, slotOf_succ, Option.map_some, puts_same, puts_ne, gv_bool, gv_undef, tt, tf, ft, ff, eq_self, if_true, if_false, Bool.false_eq_true, Bool.not_true, Bool.not_false, g1]; done) | omega) only [go_sem, ld30, RdS.len hdX sl22, RdS.idx hdX sl22, R1.intB hdX (Ext.pres eB), RdS.cells hdX, RdS.len hmX sl23, RdS.idx hmX sl23, RdS.cellB hmX (Ext.pres eB), RdS.cells hmX, BoxAt.cell hb0_0, wrap_id, g1, eq_self, if_true, if_false, Bool.false_eq_true]
      try simp -implicitDefEqProofs (disch := first | decide | assumption | omega) only [go_sem, RdS.len hdX sl22, RdS.idx hdX sl22, R1.intB hdX (Ext.pres eB), RdS.cells hdX, RdS.len hmX sl23, RdS.idx hmX sl23, RdS.cellB hmX (Ext.pres eB), RdS.cells hmX, BoxAt.cell hb0_0, wrap_id]
      refine CallA.mono (top_ok _ X _ ⟨_, _, rfl, (RdS.pres hdX (Ext.pres eB)), (RdS.pres hmX (Ext.pres eB))⟩) ?_
      intro v_ h1_5
      rintro ⟨rfl, e1_5⟩
      replace hb0_0 := BoxAt.ext hb0_0 e1_5
      have := Ext.size e1_5
      replace eB := Ext.trans eB e1_5
      try simp -implicitDefEqProofs (disch := first | decide | assumption | (simp (disch := decide) only [slotOf_zero, slotOf_succ, Option.map_some, puts_same, puts_ne, gv_bool, gv_undef, tt, tf, ft, ff, eq_self, if_true, if_false, Bool.false_eq_true, Bool.not_true, Bool.not_false, g1]; done) | omega) only [go_sem, RdS.len hdX sl22, RdS.idx hdX sl22, R1.intB hdX (Ext.pres eB), RdS.cells hdX, RdS.len hmX sl23, RdS.idx hmX sl23, RdS.cellB hmX (Ext.pres eB), RdS.cells hmX, BoxAt.cell hb0_0, wrap_id, g1, eq_self, if_true, if_false, Bool.false_eq_true]
      refine hK _ _ ?_
      clear hK K
      refine den_stop ?_
      refine ⟨?_, e1_5⟩
      first | (simp (disch := decide) only [go_sem, g1, eq_self, Bool.true_and, Bool.and_true, Bool.false_and, Bool.and_false, Bool.true_or, Bool.or_true, Bool.false_or, Bool.or_false, if_true, if_false, Bool.false_eq_true]; done) | simp [HasL, sel, puts_at, g1]
    · try simp -implicitDefEqProofs (disch := first | decide | assumption | (simp (disch := decide) only [slotOf_zero, slotOf_succ, Option.map_some, puts_same, puts_ne, gv_bool, gv_undef, tt, tf, ft, ff, eq_self, if_true, if_false, Bool.false_eq_true, Bool.not_true, Bool.not_false, g1]; done) | omega) only [go_sem, RdS.len hdX sl22, RdS.idx hdX sl22, R1.intB hdX (Ext.pres eB), RdS.cells hdX, RdS.len hmX sl23, RdS.idx hmX sl23, RdS.cellB hmX (Ext.pres eB), RdS.cells hmX, BoxAt.cell hb0_0, wrap_id, g1, eq_self, if_true, if_false, Bool.false_eq_true]
      refine hK _ _ ?_
      clear hK K
      refine den_stop ?_
      refine ⟨?_, Ext.refl _⟩
      first | (simp (disch := decide) only [go_sem, g1, eq_self, Bool.true_and, Bool.and_true, Bool.false_and, Bool.and_false, Bool.true_or, Bool.or_true, Bool.false_or, Bool.or_false, if_true, if_false, Bool.false_eq_true]; done) | simp [HasL, sel, puts_at, g1]
  intro en2 h3 e4
  replace hb0_0 := BoxAt.ext hb0_0 e4
  have := Ext.size e4
  replace eB := Ext.trans eB e4
  simp (disch := decide) only [go_sem]
  refine den_cond rfl (fun c0 => ?_) (fun c0 => ?_)
  · try simp only [decide_eq_true_eq, decide_eq_false_iff_not, beq_iff_eq, beq_eq_false_iff_ne, bne_iff_ne, ne_eq, Bool.not_eq_true', Bool.not_eq_false', Bool.and_eq_true, Bool.or_eq_true, bne_eq_false_iff_eq, Bool.or_eq_false_iff, Bool.or_eq_true] at c0
    refine den_seq ?_
    refine den_region TTok ?_
    intro K hK
    simp -implicitDefEqProofs (disch := first | decide | assumption | omega) only [go_sem, ld30, RdS.len hdX sl22, RdS.idx hdX sl22, R1.intB hdX (Ext.pres eB), RdS.cells hdX, RdS.len hmX sl23, RdS.idx hmX sl23, RdS.cellB hmX (Ext.pres eB), RdS.cells hmX, BoxAt.cell hb0_0, wrap_id]
    try simp -implicitDefEqProofs (disch := first | decide | assumption | omega) only [go_sem, RdS.len hdX sl22, RdS.idx hdX sl22, R1.intB hdX (Ext.pres eB), RdS.cells hdX, RdS.len hmX sl23, RdS.idx hmX sl23, RdS.cellB hmX (Ext.pres eB), RdS.cells hmX, BoxAt.cell hb0_0, wrap_id]
    refine CallA.mono (iDim_ok _ X _ _ ⟨_, _, rfl, (RdS.pres hdX (Ext.pres eB)), (RdS.pres hmX (Ext.pres eB))⟩) ?_
    intro v_ h2_2
    rintro ⟨rfl, e2_2⟩
    replace hb0_0 := BoxAt.ext hb0_0 e2_2
    have := Ext.size e2_2
    replace eB := Ext.trans eB e2_2
    try simp -implicitDefEqProofs (disch := first | decide | assumption | omega) only [go_sem, RdS.len hdX sl22, RdS.idx hdX sl22, R1.intB hdX (Ext.pres eB), RdS.cells hdX, RdS.len hmX sl23, RdS.idx hmX sl23, RdS.cellB hmX (Ext.pres eB), RdS.cells hmX, BoxAt.cell hb0_0, wrap_id]
    try simp -implicitDefEqProofs (disch := first | decide | assumption | omega) only [go_sem, RdS.len hdX sl22, RdS.idx hdX sl22, R1.intB hdX (Ext.pres eB), RdS.cells hdX, RdS.len hmX sl23, RdS.idx hmX sl23, RdS.cellB hmX (Ext.pres eB), RdS.cells hmX, BoxAt.cell hb0_0, wrap_id]
    refine CallA.mono (iUnits_ok  (dimP X n) _  (by omega)) ?_
    intro vw2_3_0 h2_3
    rintro ⟨zvw2_3_0, fw2_3_0, rfl, how2_3_0, hfw2_3_0, e2_3⟩
    replace hb0_0 := BoxAt.ext hb0_0 e2_3
    have := Ext.size e2_3
    replace eB := Ext.trans eB e2_3
    have hlhow2_3_0 := OS.lt how2_3_0
    try simp -implicitDefEqProofs (disch := first | decide | assumption | omega) only [go_sem, RdS.len hdX sl22, RdS.idx hdX sl22, R1.intB hdX (Ext.pres eB), RdS.cells hdX, RdS.len hmX sl23, RdS.idx hmX sl23, RdS.cellB hmX (Ext.pres eB), RdS.cells hmX, RdS.len (OS.rd how2_3_0) sl36, RdS.idx (OS.rd how2_3_0) sl36, RdS.cellN (OS.rd how2_3_0), RdS.cells (OS.rd how2_3_0), BoxAt.cell hb0_0, wrap_id]
    refine hK _ _ ?_
    clear hK K
    refine den_ret ?_
    simp (disch := decide) only [resP_1, puts_same, puts_ne]
    have hz := cycP_out hC (n := n) (by first | omega | (rcases c0 with h | h <;> omega))
    rw [hz]
    exact ⟨_, _, rfl, how2_3_0, hfw2_3_0.mono (by omega), eB⟩
  · try simp only [decide_eq_true_eq, decide_eq_false_iff_not, beq_iff_eq, beq_eq_false_iff_ne, bne_iff_ne, ne_eq, Bool.not_eq_true', Bool.not_eq_false', Bool.and_eq_true, Bool.or_eq_true, bne_eq_false_iff_eq, Bool.or_eq_false_iff, Bool.or_eq_true] at c0
    refine den_skip ?_
    refine den_seq ?_
    have hmt := mapP_tbl hC n
    rw [mapP_in (by omega) (by omega)] at hmt
    have hP := hC.p
    have hkerT := hmt.2
    rw [if_pos (show 1 ≤ n by omega)] at hkerT
    have hkw := dimP_bnd hC (n - 1)
    have hkl : (X.maps.getD (n - 1).toNat default).length ≤ 8 := by have := hmt.1; omega
    refine den_draw TTok mixed [] [(0, true), (1, true), (2, true), (3, true), (4, true), (5, true), (6, true), (7, true), (8, false), (9, true)] (by kernel_rfl) ?_
    intro K hK
    have hr5 := RdS.rowN hmX ((n - (1 : Int))).toNat (by omega)
    have hlhr5 := RdS.le hr5
    simp -implicitDefEqProofs (disch := first | decide | assumption | omega) only [go_sem, fa30_0, fa30_2, ld23, ld36, ld2, RdS.len hdX sl22, RdS.idx hdX sl22, R1.intB hdX (Ext.pres eB), RdS.cells hdX, RdS.len hmX sl23, RdS.idx hmX sl23, RdS.cellB hmX (Ext.pres eB), RdS.cells hmX, RdS.len hr5 sl36, RdS.idx hr5 sl36, RdS.cellB hr5 (Ext.pres eB), RdS.cells hr5, BoxAt.cell hb0_0, wrap_id]
    try simp -implicitDefEqProofs (disch := first | decide | assumption | omega) only [go_sem, RdS.len hdX sl22, RdS.idx hdX sl22, R1.intB hdX (Ext.pres eB), RdS.cells hdX, RdS.len hmX sl23, RdS.idx hmX sl23, RdS.cellB hmX (Ext.pres eB), RdS.cells hmX, RdS.len hr5 sl36, RdS.idx hr5 sl36, RdS.cellB hr5 (Ext.pres eB), RdS.cells hr5, BoxAt.cell hb0_0, wrap_id]
    refine CallA.mono (iKernel_ok _ X.p ((X.maps).getD ((n - (1 : Int))).toNat default) _ (RdS.pres hr5 (Ext.pres eB)) hP hkerT (by omega) (by omega)) ?_
    intro vw3_8_0 h3_8
    rintro ⟨zvw3_8_0, fw3_8_0, rfl, how3_8_0, hfw3_8_0, e3_8⟩
    replace hb0_0 := BoxAt.ext hb0_0 e3_8
    have := Ext.size e3_8
    replace eB := Ext.trans eB e3_8
    have hlhow3_8_0 := OS.lt how3_8_0
    try simp (disch := decide) only [outv_some, outv_none, put_puts]
    refine plK_pres (Ext.pres e3_8) ?_
    try simp -implicitDefEqProofs (disch := first | decide | assumption | omega) only [go_sem, RdS.len hdX sl22, RdS.idx hdX sl22, R1.intB hdX (Ext.pres eB), RdS.cells hdX, RdS.len hmX sl23, RdS.idx hmX sl23, RdS.cellB hmX (Ext.pres eB), RdS.cells hmX, RdS.len hr5 sl36, RdS.idx hr5 sl36, RdS.cellB hr5 (Ext.pres eB), RdS.cells hr5, RdS.len (OS.rd how3_8_0) sl36, RdS.idx (OS.rd how3_8_0) sl36, RdS.cellN (OS.rd how3_8_0), RdS.cells (OS.rd how3_8_0), BoxAt.cell hb0_0, wrap_id]
    refine hK _ _ ?_
    clear hK K
    refine den_ret ?_
    simp (disch := decide) only [resP_1, puts_same, puts_ne]
    have hz := cycP_in (X := X) (n := n) (by omega) (by omega)
    rw [hz]
    exact ⟨_, _, rfl, how3_8_0, hfw3_8_0.mono (by omega), eB⟩

set_option maxRecDepth 100000 in
theorem iBnd_ok (vX : Value) (X : Cx) (n : Int) (h : Heap) (rX : RC h vX X) (hC : IsC X) (hn : 0 ≤ n ∧ n ≤ 1000) : CallA Try.prog 67 #[vX, .int .i64 n] h fun v' h' => ∃ w0 f0, v' = w0 ∧ O2 h' w0 (bndP X n) f0 ∧ Fresh h.size f0 ∧ Ext h h' := by
  obtain ⟨vdX, vmX, rfl, hdX, hmX⟩ := rX
  have hledX := RdS.le hdX
  have hlemX := RdS.le hmX
  have hml := hC.ml
  have hlX := hC.len
  have hpb := isP_bnd hC.p
  refine callA_intro TTok (args := [_, _]) Try.func67 (by kernel_rfl) rfl 21 rfl (by simp) [.tmp 4] rfl ?_
  simp only [idxs, Nat.reduceAdd]
  refine den_seq ?_
  refine den_region TTok ?_
  intro K hK
  simp -implicitDefEqProofs (disch := first | decide | assumption | omega) only [go_sem, RdS.len hdX sl22, RdS.idx hdX sl22, R1.intB hdX (HPres.refl _), RdS.cells hdX, RdS.len hmX sl23, RdS.idx hmX sl23, RdS.cellB hmX (HPres.refl _), RdS.cells hmX, wrap_id]
  refine op_box (cs := #[.int .i64 (X.p), vdX, vmX]) rfl ?_
  intro h0_0 e0_0 hb0_0 z0_0
  have := Ext.size e0_0
  have eB := e0_0
  have hfhb0_0 : Fresh h.size [h.size] := Fresh.one _
  have hlhb0_0 := one_lt (show h.size < h0_0.size by omega)
  try simp -implicitDefEqProofs (disch := first | decide | assumption | omega) only [go_sem, RdS.len hdX sl22, RdS.idx hdX sl22, R1.intB hdX (Ext.pres eB), RdS.cells hdX, RdS.len hmX sl23, RdS.idx hmX sl23, RdS.cellB hmX (Ext.pres eB), RdS.cells hmX, BoxAt.cell hb0_0, wrap_id]
  refine hK _ _ ?_
  clear hK K
  refine den_seq ?_
  refine den_seq ?_
  refine den_merge [(12, .bool (((decide (n < (0 : Int))) || (decide ((((X.dims).length : Int) - 1) ≤ n)))))] [1, 2] (fun H => Ext h0_0 H) ?_ ?_
    -- a way
  · refine den_region TTok ?_
    intro K hK
    simp -implicitDefEqProofs (disch := first | decide | assumption | (simp (disch := decide) only [slotOf_zero, slotOf_succ, Option.map_some, puts_same, puts_ne, gv_bool, gv_undef, tt, tf, ft, ff, eq_self, if_true, if_false, Bool.false_eq_true, Bool.not_true, Bool.not_false]; done) | omega) only [go_sem, RdS.len hdX sl22, RdS.idx hdX sl22, R1.intB hdX (Ext.pres eB), RdS.cells hdX, RdS.len hmX sl23, RdS.idx hmX sl23, RdS.cellB hmX (Ext.pres eB), RdS.cells hmX, BoxAt.cell hb0_0, wrap_id]
    refine opsP_F (by simp (disch := decide) only [slotOf_zero, slotOf_succ, Option.map_some, puts_same, puts_ne, gv_bool, gv_undef, tt, tf, ft, ff, eq_self, if_true, if_false, Bool.false_eq_true, Bool.not_true, Bool.not_false]; rfl) (fun g1 => ?_) (fun g1 => ?_)
    · try simp -implicitDefEqProofs (disch := first | decide | assumption | (simp (disch := decide) only [slotOf_zero, slotOf_succ, Option.map_some, puts_same, puts_ne, gv_bool, gv_undef, tt, tf, ft, ff, eq_self, if_true, if_false, Bool.false_eq_true, Bool.not_true, Bool.not_false, g1]; done) | omega) only [go_sem, ld30, RdS.len hdX sl22, RdS.idx hdX sl22, R1.intB hdX (Ext.pres eB), RdS.cells hdX, RdS.len hmX sl23, RdS.idx hmX sl23, RdS.cellB hmX (Ext.pres eB), RdS.cells hmX, BoxAt.cell hb0_0, wrap_id, g1, eq_self, if_true, if_false, Bool.false_eq_true]
      try simp -implicitDefEqProofs (disch := first | decide | assumption | omega) only [go_sem, RdS.len hdX sl22, RdS.idx hdX sl22, R1.intB hdX (Ext.pres eB), RdS.cells hdX, RdS.len hmX sl23, RdS.idx hmX sl23, RdS.cellB hmX (Ext.pres eB), RdS.cells hmX, BoxAt.cell hb0_0, wrap_id]
      refine CallA.mono (top_ok _ X _ ⟨_, _, rfl, (RdS.pres hdX (Ext.pres eB)), (RdS.pres hmX (Ext.pres eB))⟩) ?_
      intro v_ h1_5
      rintro ⟨rfl, e1_5⟩
      replace hb0_0 := BoxAt.ext hb0_0 e1_5
      have := Ext.size e1_5
      replace eB := Ext.trans eB e1_5
      try simp -implicitDefEqProofs (disch := first | decide | assumption | (simp (disch := decide) only [slotOf_zero, slotOf_succ, Option.map_some, puts_same, puts_ne, gv_bool, gv_undef, tt, tf, ft, ff, eq_self, if_true, if_false, Bool.false_eq_true, Bool.not_true, Bool.not_false, g1]; done) | omega) only [go_sem, RdS.len hdX sl22, RdS.idx hdX sl22, R1.intB hdX (Ext.pres eB), RdS.cells hdX, RdS.len hmX sl23, RdS.idx hmX sl23, RdS.cellB hmX (Ext.pres eB), RdS.cells hmX, BoxAt.cell hb0_0, wrap_id, g1, eq_self, if_true, if_false, Bool.false_eq_true]
      refine hK _ _ ?_
      clear hK K
      refine den_stop ?_
      refine ⟨?_, e1_5⟩
      first | (simp (disch := decide) only [go_sem, g1, eq_self, Bool.true_and, Bool.and_true, Bool.false_and, Bool.and_false, Bool.true_or, Bool.or_true, Bool.false_or, Bool.or_false, if_true, if_false, Bool.false_eq_true]; done) | simp [HasL, sel, puts_at, g1]
    · try simp -implicitDefEqProofs (disch := first | decide | assumption | (simp (disch := decide) only [slotOf_zero, slotOf_succ, Option.map_some, puts_same, puts_ne, gv_bool, gv_undef, tt, tf, ft, ff, eq_self, if_true, if_false, Bool.false_eq_true, Bool.not_true, Bool.not_false, g1]; done) | omega) only [go_sem, RdS.len hdX sl22, RdS.idx hdX sl22, R1.intB hdX (Ext.pres eB), RdS.cells hdX, RdS.len hmX sl23, RdS.idx hmX sl23, RdS.cellB hmX (Ext.pres eB), RdS.cells hmX, BoxAt.cell hb0_0, wrap_id, g1, eq_self, if_true, if_false, Bool.false_eq_true]
      refine hK _ _ ?_
      clear hK K
      refine den_stop ?_
      refine ⟨?_, Ext.refl _⟩
      first | (simp (disch := decide) only [go_sem, g1, eq_self, Bool.true_and, Bool.and_true, Bool.false_and, Bool.and_false, Bool.true_or, Bool.or_true, Bool.false_or, Bool.or_false, if_true, if_false, Bool.false_eq_true]; done) | simp [HasL, sel, puts_at, g1]
  intro en2 h3 e4
  replace hb0_0 := BoxAt.ext hb0_0 e4
  have := Ext.size e4
  replace eB := Ext.trans eB e4
  simp (disch := decide) only [go_sem]
  refine den_cond rfl (fun c0 => ?_) (fun c0 => ?_)
  · try simp only [decide_eq_true_eq, decide_eq_false_iff_not, beq_iff_eq, beq_eq_false_iff_ne, bne_iff_ne, ne_eq, Bool.not_eq_true', Bool.not_eq_false', Bool.and_eq_true, Bool.or_eq_true, bne_eq_false_iff_eq, Bool.or_eq_false_iff, Bool.or_eq_true] at c0
    refine den_seq ?_
    refine den_region TTok ?_
    intro K hK
    simp -implicitDefEqProofs (disch := first | decide | assumption | omega) only [go_sem, RdS.len hdX sl22, RdS.idx hdX sl22, R1.intB hdX (Ext.pres eB), RdS.cells hdX, RdS.len hmX sl23, RdS.idx hmX sl23, RdS.cellB hmX (Ext.pres eB), RdS.cells hmX, wrap_id]
    refine hK _ _ ?_
    clear hK K
    refine den_ret ?_
    simp (disch := decide) only [resP_1, puts_same, puts_ne]
    have hz := bndP_out hC (n := n) (by omega) (by first | omega | (rcases c0 with h | h <;> omega))
    rw [hz]
    exact ⟨.slice none 0 0, [], rfl, OS.nil, Fresh.nil _, eB⟩
  · try simp only [decide_eq_true_eq, decide_eq_false_iff_not, beq_iff_eq, beq_eq_false_iff_ne, bne_iff_ne, ne_eq, Bool.not_eq_true', Bool.not_eq_false', Bool.and_eq_true, Bool.or_eq_true, bne_eq_false_iff_eq, Bool.or_eq_false_iff, Bool.or_eq_true] at c0
    refine den_skip ?_
    refine den_seq ?_
    have hmt := mapP_tbl hC (n + 1)
    rw [mapP_in (by omega) (by omega), Int.add_sub_cancel] at hmt
    have hP := hC.p
    have hredT := hmt.2
    rw [if_pos (show 1 ≤ n + 1 by omega)] at hredT
    have hkw := dimP_bnd hC n
    have hkd := dimP_bnd hC (n + 1)
    have hkl : (X.maps.getD n.toNat default).length ≤ 8 := by have := hmt.1; omega
    refine den_draw TTok mixed [] [(0, true), (1, true), (2, true), (3, true), (4, true), (5, true), (6, true), (7, false), (8, true)] (by kernel_rfl) ?_
    intro K hK
    have hr5 := RdS.rowN hmX (n).toNat (by omega)
    have hlhr5 := RdS.le hr5
    simp -implicitDefEqProofs (disch := first | decide | assumption | omega) only [go_sem, fa30_0, fa30_2, ld23, ld36, ld2, RdS.len hdX sl22, RdS.idx hdX sl22, R1.intB hdX (Ext.pres eB), RdS.cells hdX, RdS.len hmX sl23, RdS.idx hmX sl23, RdS.cellB hmX (Ext.pres eB), RdS.cells hmX, RdS.len hr5 sl36, RdS.idx hr5 sl36, RdS.cellB hr5 (Ext.pres eB), RdS.cells hr5, BoxAt.cell hb0_0, wrap_id]
    try simp -implicitDefEqProofs (disch := first | decide | assumption | omega) only [go_sem, RdS.len hdX sl22, RdS.idx hdX sl22, R1.intB hdX (Ext.pres eB), RdS.cells hdX, RdS.len hmX sl23, RdS.idx hmX sl23, RdS.cellB hmX (Ext.pres eB), RdS.cells hmX, RdS.len hr5 sl36, RdS.idx hr5 sl36, RdS.cellB hr5 (Ext.pres eB), RdS.cells hr5, BoxAt.cell hb0_0, wrap_id]
    refine CallA.mono (iReduce_ok _ X.p ((X.maps).getD (n).toNat default) _ (RdS.pres hr5 (Ext.pres eB)) hP hredT (by omega) (by omega)) ?_
    intro vw3_7_0 h3_7
    rintro ⟨zvw3_7_0, fw3_7_0, rfl, how3_7_0, hfw3_7_0, e3_7⟩
    replace hb0_0 := BoxAt.ext hb0_0 e3_7
    have := Ext.size e3_7
    replace eB := Ext.trans eB e3_7
    have hlhow3_7_0 := OS.lt how3_7_0
    try simp (disch := decide) only [outv_some, outv_none, put_puts]
    refine plK_pres (Ext.pres e3_7) ?_
    try simp -implicitDefEqProofs (disch := first | decide | assumption | omega) only [go_sem, RdS.len hdX sl22, RdS.idx hdX sl22, R1.intB hdX (Ext.pres eB), RdS.cells hdX, RdS.len hmX sl23, RdS.idx hmX sl23, RdS.cellB hmX (Ext.pres eB), RdS.cells hmX, RdS.len hr5 sl36, RdS.idx hr5 sl36, RdS.cellB hr5 (Ext.pres eB), RdS.cells hr5, RdS.len (OS.rd how3_7_0) sl36, RdS.idx (OS.rd how3_7_0) sl36, RdS.cellN (OS.rd how3_7_0), RdS.cells (OS.rd how3_7_0), BoxAt.cell hb0_0, wrap_id]
    refine hK _ _ ?_
    clear hK K
    refine den_ret ?_
    simp (disch := decide) only [resP_1, puts_same, puts_ne]
    have hz := bndP_in (X := X) (n := n) (by omega) (by omega)
    rw [hz]
    exact ⟨_, _, rfl, how3_7_0, hfw3_7_0.mono (by omega), eB⟩

set_option maxRecDepth 100000 in
theorem sCyc_ok (vX : Value) (X : Cx) (n : Int) (h : Heap) (rX : RC h vX X) (hC : IsC X) (hn : -1000 ≤ n ∧ n ≤ 1000) : CallA Try.prog 81 #[vX, .int .i64 n] h fun v' h' => ∃ w0 f0, v' = w0 ∧ O2 h' w0 (cycP X n) f0 ∧ Fresh h.size f0 ∧ Ext h h' := by
  obtain ⟨vdX, vmX, rfl, hdX, hmX⟩ := rX
  have hledX := RdS.le hdX
  have hlemX := RdS.le hmX
  have hP := hC.p
  have hmt := mapP_tbl hC n
  have hkerT := hmt.2
  have hkern := hmt.1.symm
  have hkl := mapP_len hC n
  have hkw : (if 1 ≤ n then (dimP X (n - 1)).toNat else 0) ≤ 8 := mapW_le hC n
  refine callA_intro TTok (args := [_, _]) Try.func81 (by kernel_rfl) rfl 14 rfl (by simp) [.tmp 4] rfl ?_
  simp only [idxs, Nat.reduceAdd]
  refine den_seq ?_
  refine den_region TTok ?_
  intro K hK
  simp -implicitDefEqProofs (disch := first | decide | assumption | omega) only [go_sem, RdS.len hdX sl22, RdS.idx hdX sl22, R1.intB hdX (HPres.refl _), RdS.cells hdX, RdS.len hmX sl23, RdS.idx hmX sl23, RdS.cellB hmX (HPres.refl _), RdS.cells hmX, wrap_id]
  refine op_box (cs := #[.int .i64 (X.p), vdX, vmX]) rfl ?_
  intro h0_0 e0_0 hb0_0 z0_0
  have := Ext.size e0_0
  have eB := e0_0
  have hfhb0_0 : Fresh h.size [h.size] := Fresh.one _
  have hlhb0_0 := one_lt (show h.size < h0_0.size by omega)
  try simp -implicitDefEqProofs (disch := first | decide | assumption | omega) only [go_sem, RdS.len hdX sl22, RdS.idx hdX sl22, R1.intB hdX (Ext.pres eB), RdS.cells hdX, RdS.len hmX sl23, RdS.idx hmX sl23, RdS.cellB hmX (Ext.pres eB), RdS.cells hmX, BoxAt.cell hb0_0, wrap_id]
  refine hK _ _ ?_
  clear hK K
  refine den_seq ?_
  refine den_draw TTok mixed [] [(0, true), (1, true), (2, true), (3, true), (5, true), (6, true), (4, false), (7, false), (8, false), (9, true)] (by kernel_rfl) ?_
  intro K hK
  simp -implicitDefEqProofs (disch := first | decide | assumption | omega) only [go_sem, fa30_0, ld2, ld30, RdS.len hdX sl22, RdS.idx hdX sl22, R1.intB hdX (Ext.pres eB), RdS.cells hdX, RdS.len hmX sl23, RdS.idx hmX sl23, RdS.cellB hmX (Ext.pres eB), RdS.cells hmX, BoxAt.cell hb0_0, wrap_id]
  try simp -implicitDefEqProofs (disch := first | decide | assumption | omega) only [go_sem, RdS.len hdX sl22, RdS.idx hdX sl22, R1.intB hdX (Ext.pres eB), RdS.cells hdX, RdS.len hmX sl23, RdS.idx hmX sl23, RdS.cellB hmX (Ext.pres eB), RdS.cells hmX, BoxAt.cell hb0_0, wrap_id]
  refine CallA.mono (sDim_ok _ X _ _ ⟨_, _, rfl, (RdS.pres hdX (Ext.pres eB)), (RdS.pres hmX (Ext.pres eB))⟩) ?_
  intro v_ h1_4
  rintro ⟨rfl, e1_4⟩
  replace hb0_0 := BoxAt.ext hb0_0 e1_4
  have := Ext.size e1_4
  replace eB := Ext.trans eB e1_4
  try simp (disch := decide) only [outv_some, outv_none, put_puts]
  refine plK_pres (Ext.pres e1_4) ?_
  try simp -implicitDefEqProofs (disch := first | decide | assumption | omega) only [go_sem, RdS.len hdX sl22, RdS.idx hdX sl22, R1.intB hdX (Ext.pres eB), RdS.cells hdX, RdS.len hmX sl23, RdS.idx hmX sl23, RdS.cellB hmX (Ext.pres eB), RdS.cells hmX, BoxAt.cell hb0_0, wrap_id]
  try simp -implicitDefEqProofs (disch := first | decide | assumption | omega) only [go_sem, RdS.len hdX sl22, RdS.idx hdX sl22, R1.intB hdX (Ext.pres eB), RdS.cells hdX, RdS.len hmX sl23, RdS.idx hmX sl23, RdS.cellB hmX (Ext.pres eB), RdS.cells hmX, BoxAt.cell hb0_0, wrap_id]
  refine CallA.mono (sMap_ok _ X n _ ⟨_, _, rfl, (RdS.pres hdX (Ext.pres eB)), (RdS.pres hmX (Ext.pres eB))⟩ hC) ?_
  intro vw1_7_0 h1_7
  rintro ⟨zvw1_7_0, rfl, hrw1_7_0, e1_7⟩
  replace hb0_0 := BoxAt.ext hb0_0 e1_7
  have := Ext.size e1_7
  replace eB := Ext.trans eB e1_7
  have xrw1_7_0 := Ext.refl h1_7
  have hlrw1_7_0 := RdS.le hrw1_7_0
  try simp (disch := decide) only [outv_some, outv_none, put_puts]
  refine plK_pres (Ext.pres e1_7) ?_
  try simp -implicitDefEqProofs (disch := first | decide | assumption | omega) only [go_sem, RdS.len hdX sl22, RdS.idx hdX sl22, R1.intB hdX (Ext.pres eB), RdS.cells hdX, RdS.len hmX sl23, RdS.idx hmX sl23, RdS.cellB hmX (Ext.pres eB), RdS.cells hmX, BoxAt.cell hb0_0, RdS.len hrw1_7_0 sl36, RdS.idx hrw1_7_0 sl36, RdS.cellB hrw1_7_0 (Ext.pres xrw1_7_0), RdS.cells hrw1_7_0, wrap_id]
  try simp -implicitDefEqProofs (disch := first | decide | assumption | omega) only [go_sem, RdS.len hdX sl22, RdS.idx hdX sl22, R1.intB hdX (Ext.pres eB), RdS.cells hdX, RdS.len hmX sl23, RdS.idx hmX sl23, RdS.cellB hmX (Ext.pres eB), RdS.cells hmX, BoxAt.cell hb0_0, RdS.len hrw1_7_0 sl36, RdS.idx hrw1_7_0 sl36, RdS.cellB hrw1_7_0 (Ext.pres xrw1_7_0), RdS.cells hrw1_7_0, wrap_id]
  refine CallA.mono (sKernel_ok _ X.p (dimP X n) (mapP X n) _ (RdS.pres hrw1_7_0 (Ext.pres xrw1_7_0)) hP hkerT (by omega) (by omega) hkern) ?_
  intro vw1_8_0 h1_8
  rintro ⟨zvw1_8_0, fw1_8_0, rfl, how1_8_0, hfw1_8_0, e1_8⟩
  replace hb0_0 := BoxAt.ext hb0_0 e1_8
  have := Ext.size e1_8
  replace eB := Ext.trans eB e1_8
  replace xrw1_7_0 := Ext.trans xrw1_7_0 e1_8
  have hlhow1_8_0 := OS.lt how1_8_0
  try simp (disch := decide) only [outv_some, outv_none, put_puts]
  refine plK_pres (Ext.pres e1_8) ?_
  try simp -implicitDefEqProofs (disch := first | decide | assumption | omega) only [go_sem, RdS.len hdX sl22, RdS.idx hdX sl22, R1.intB hdX (Ext.pres eB), RdS.cells hdX, RdS.len hmX sl23, RdS.idx hmX sl23, RdS.cellB hmX (Ext.pres eB), RdS.cells hmX, RdS.len (OS.rd how1_8_0) sl36, RdS.idx (OS.rd how1_8_0) sl36, RdS.cellN (OS.rd how1_8_0), RdS.cells (OS.rd how1_8_0), BoxAt.cell hb0_0, RdS.len hrw1_7_0 sl36, RdS.idx hrw1_7_0 sl36, RdS.cellB hrw1_7_0 (Ext.pres xrw1_7_0), RdS.cells hrw1_7_0, wrap_id]
  refine hK _ _ ?_
  clear hK K
  refine den_ret ?_
  simp (disch := decide) only [resP_1, puts_same, puts_ne]
  exact ⟨_, _, rfl, how1_8_0, hfw1_8_0.mono (by omega), eB⟩

set_option maxRecDepth 100000 in
theorem sBnd_ok (vX : Value) (X : Cx) (n : Int) (h : Heap) (rX : RC h vX X) (hC : IsC X) (hn : 0 ≤ n ∧ n ≤ 1000) : CallA Try.prog 69 #[vX, .int .i64 n] h fun v' h' => ∃ w0 f0, v' = w0 ∧ O2 h' w0 (bndP X n) f0 ∧ Fresh h.size f0 ∧ Ext h h' := by
  obtain ⟨vdX, vmX, rfl, hdX, hmX⟩ := rX
  have hledX := RdS.le hdX
  have hlemX := RdS.le hmX
  have hP := hC.p
  have hmt := mapP_tbl hC (n + 1)
  have hredT := hmt.2
  have hkl := mapP_len hC (n + 1)
  have hkw : (if 1 ≤ n + 1 then (dimP X (n + 1 - 1)).toNat else 0) ≤ 8 := mapW_le hC (n + 1)
  refine callA_intro TTok (args := [_, _]) Try.func69 (by kernel_rfl) rfl 12 rfl (by simp) [.tmp 4] rfl ?_
  simp only [idxs, Nat.reduceAdd]
  refine den_seq ?_
  refine den_region TTok ?_
  intro K hK
  simp -implicitDefEqProofs (disch := first | decide | assumption | omega) only [go_sem, RdS.len hdX sl22, RdS.idx hdX sl22, R1.intB hdX (HPres.refl _), RdS.cells hdX, RdS.len hmX sl23, RdS.idx hmX sl23, RdS.cellB hmX (HPres.refl _), RdS.cells hmX, wrap_id]
  refine op_box (cs := #[.int .i64 (X.p), vdX, vmX]) rfl ?_
  intro h0_0 e0_0 hb0_0 z0_0
  have := Ext.size e0_0
  have eB := e0_0
  have hfhb0_0 : Fresh h.size [h.size] := Fresh.one _
  have hlhb0_0 := one_lt (show h.size < h0_0.size by omega)
  try simp -implicitDefEqProofs (disch := first | decide | assumption | omega) only [go_sem, RdS.len hdX sl22, RdS.idx hdX sl22, R1.intB hdX (Ext.pres eB), RdS.cells hdX, RdS.len hmX sl23, RdS.idx hmX sl23, RdS.cellB hmX (Ext.pres eB), RdS.cells hmX, BoxAt.cell hb0_0, wrap_id]
  refine hK _ _ ?_
  clear hK K
  refine den_seq ?_
  refine den_draw TTok mixed [] [(0, true), (1, true), (2, true), (3, true), (4, true), (5, false), (6, false), (7, true)] (by kernel_rfl) ?_
  intro K hK
  simp -implicitDefEqProofs (disch := first | decide | assumption | omega) only [go_sem, fa30_0, ld2, ld30, RdS.len hdX sl22, RdS.idx hdX sl22, R1.intB hdX (Ext.pres eB), RdS.cells hdX, RdS.len hmX sl23, RdS.idx hmX sl23, RdS.cellB hmX (Ext.pres eB), RdS.cells hmX, BoxAt.cell hb0_0, wrap_id]
  try simp -implicitDefEqProofs (disch := first | decide | assumption | omega) only [go_sem, RdS.len hdX sl22, RdS.idx hdX sl22, R1.intB hdX (Ext.pres eB), RdS.cells hdX, RdS.len hmX sl23, RdS.idx hmX sl23, RdS.cellB hmX (Ext.pres eB), RdS.cells hmX, BoxAt.cell hb0_0, wrap_id]
  refine CallA.mono (sMap_ok _ X (n + (1 : Int)) _ ⟨_, _, rfl, (RdS.pres hdX (Ext.pres eB)), (RdS.pres hmX (Ext.pres eB))⟩ hC) ?_
  intro vw1_5_0 h1_5
  rintro ⟨zvw1_5_0, rfl, hrw1_5_0, e1_5⟩
  replace hb0_0 := BoxAt.ext hb0_0 e1_5
  have := Ext.size e1_5
  replace eB := Ext.trans eB e1_5
  have xrw1_5_0 := Ext.refl h1_5
  have hlrw1_5_0 := RdS.le hrw1_5_0
  try simp (disch := decide) only [outv_some, outv_none, put_puts]
  refine plK_pres (Ext.pres e1_5) ?_
  try simp -implicitDefEqProofs (disch := first | decide | assumption | omega) only [go_sem, RdS.len hdX sl22, RdS.idx hdX sl22, R1.intB hdX (Ext.pres eB), RdS.cells hdX, RdS.len hmX sl23, RdS.idx hmX sl23, RdS.cellB hmX (Ext.pres eB), RdS.cells hmX, BoxAt.cell hb0_0, RdS.len hrw1_5_0 sl36, RdS.idx hrw1_5_0 sl36, RdS.cellB hrw1_5_0 (Ext.pres xrw1_5_0), RdS.cells hrw1_5_0, wrap_id]
  try simp -implicitDefEqProofs (disch := first | decide | assumption | omega) only [go_sem, RdS.len hdX sl22, RdS.idx hdX sl22, R1.intB hdX (Ext.pres eB), RdS.cells hdX, RdS.len hmX sl23, RdS.idx hmX sl23, RdS.cellB hmX (Ext.pres eB), RdS.cells hmX, BoxAt.cell hb0_0, RdS.len hrw1_5_0 sl36, RdS.idx hrw1_5_0 sl36, RdS.cellB hrw1_5_0 (Ext.pres xrw1_5_0), RdS.cells hrw1_5_0, wrap_id]
  refine CallA.mono (sEch_ok _ X.p (mapP X (n + (1 : Int))) _ (RdS.pres hrw1_5_0 (Ext.pres xrw1_5_0)) hP hredT (by omega) (by omega)) ?_
  intro vw1_6_0 h1_6
  rintro ⟨zvw1_6_0, fw1_6_0, rfl, how1_6_0, hfw1_6_0, e1_6⟩
  replace hb0_0 := BoxAt.ext hb0_0 e1_6
  have := Ext.size e1_6
  replace eB := Ext.trans eB e1_6
  replace xrw1_5_0 := Ext.trans xrw1_5_0 e1_6
  have hlhow1_6_0 := OS.lt how1_6_0
  try simp (disch := decide) only [outv_some, outv_none, put_puts]
  refine plK_pres (Ext.pres e1_6) ?_
  try simp -implicitDefEqProofs (disch := first | decide | assumption | omega) only [go_sem, RdS.len hdX sl22, RdS.idx hdX sl22, R1.intB hdX (Ext.pres eB), RdS.cells hdX, RdS.len hmX sl23, RdS.idx hmX sl23, RdS.cellB hmX (Ext.pres eB), RdS.cells hmX, RdS.len (OS.rd how1_6_0) sl36, RdS.idx (OS.rd how1_6_0) sl36, RdS.cellN (OS.rd how1_6_0), RdS.cells (OS.rd how1_6_0), BoxAt.cell hb0_0, RdS.len hrw1_5_0 sl36, RdS.idx hrw1_5_0 sl36, RdS.cellB hrw1_5_0 (Ext.pres xrw1_5_0), RdS.cells hrw1_5_0, wrap_id]
  refine hK _ _ ?_
  clear hK K
  refine den_ret ?_
  simp (disch := decide) only [resP_1, puts_same, puts_ne]
  exact ⟨_, _, rfl, how1_6_0, hfw1_6_0.mono (by omega), eB⟩

end Go.Proofs.Ytbplnadngahgaaa
