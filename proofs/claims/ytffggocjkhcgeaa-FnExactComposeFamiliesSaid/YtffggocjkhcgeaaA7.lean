/-
  Walks: PairVectors.
  Conditions: each theorem's own.
-/
import Derived.Test.YtffggocjkhcgeaaA6
set_option linter.unusedVariables false
set_option linter.unusedSimpArgs false
namespace Go.Proofs.Ytffggocjkhcgeaa
open Go
theorem tdP_len (X Y : Cx) : (tdP X Y).length = X.dims.length + Y.dims.length - 1 := by simp [tdP]
theorem tdP_get (X Y : Cx) {n : Nat} (h : n < X.dims.length + Y.dims.length - 1) : (tdP X Y).getD n 0 = sumP X Y n (n + 1) := by
  rw [tdP, List.getD_eq_getElem?_getD, List.getElem?_eq_getElem (by simpa using h)]; simp
theorem tdP_bnd {X Y : Cx} (hX : IsC X) (hY : IsC Y) {n : Nat} (h : n < X.dims.length + Y.dims.length - 1) : 0 ≤ (tdP X Y).getD n 0 ∧ (tdP X Y).getD n 0 ≤ 704 := by
  have := sumP_bnd hX hY (n : Int) (n + 1)
  have := hX.len; have := hY.len
  rw [tdP_get X Y h]; omega
theorem sumP_mono {X Y : Cx} (hX : IsC X) (hY : IsC Y) (s : Int) {k : Nat} : ∀ {m : Nat}, k ≤ m → sumP X Y s k ≤ sumP X Y s m
  | 0, h => by rw [show k = 0 by omega]; exact Int.le_refl _
  | m + 1, h => by
    by_cases e : k = m + 1
    · rw [e]; exact Int.le_refl _
    · have := sumP_mono hX hY s (k := k) (m := m) (by omega)
      have := mul64 (dimP_bnd hX m) (dimP_bnd hY (s - m))
      rw [sumP]; omega
theorem place_lt {X Y : Cx} (hX : IsC X) (hY : IsC Y) {i j a b : Int} (hi : 0 ≤ i ∧ i ≤ (X.dims.length : Int) - 1) (hj : 0 ≤ j ∧ j ≤ (Y.dims.length : Int) - 1) (ha : 0 ≤ a ∧ a < dimP X i) (hb : 0 ≤ b ∧ b < dimP Y j) :
    0 ≤ placeP X Y i a j b ∧ placeP X Y i a j b < (tdP X Y).getD (i + j).toNat 0 := by
  have e1 : (((i + j).toNat : Nat) : Int) = i + j := by omega
  have ei : ((i.toNat : Nat) : Int) = i := by omega
  rw [tdP_get X Y (by omega), e1]
  have h1 := sumP_mono hX hY (i + j) (k := i.toNat + 1) (m := (i + j).toNat + 1) (by omega)
  rw [sumP, ei, show i + j - i = j by omega] at h1
  have h2 := (sumP_bnd hX hY (i + j) i.toNat).1
  have h3 : (a + 1) * dimP Y j ≤ dimP X i * dimP Y j := Int.mul_le_mul_of_nonneg_right (by omega) (by omega)
  have h4 : 0 ≤ a * dimP Y j := Int.mul_nonneg ha.1 (by omega)
  rw [Int.add_mul, Int.one_mul] at h3
  unfold placeP
  omega
def pvI (X Y : Cx) (i : Int) (a : Nat) (j x : Int) (v : List Int) : Nat → List Int → List Int
  | 0, o => o
  | m + 1, o => (pvI X Y i a j x v m o).set (placeP X Y i a j m).toNat ((x * v.getD m 0).tmod X.p)
def pvO (X Y : Cx) (i : Int) (u : List Int) (j : Int) (v : List Int) : Nat → List Int
  | 0 => List.replicate ((tdP X Y).getD (i + j).toNat 0).toNat 0
  | a + 1 => pvI X Y i a j (u.getD a 0) v v.length (pvO X Y i u j v a)
theorem pvI_len (X Y : Cx) (i : Int) (a : Nat) (j x : Int) (v : List Int) : ∀ (m : Nat) (o : List Int), (pvI X Y i a j x v m o).length = o.length
  | 0, _ => rfl
  | m + 1, o => by rw [pvI, List.length_set, pvI_len X Y i a j x v m o]
theorem pvO_len (X Y : Cx) (i : Int) (u : List Int) (j : Int) (v : List Int) : ∀ a : Nat, (pvO X Y i u j v a).length = ((tdP X Y).getD (i + j).toNat 0).toNat
  | 0 => by simp [pvO]
  | a + 1 => by rw [pvO, pvI_len, pvO_len X Y i u j v a]
noncomputable def pvC (X Y : Cx) (i : Int) (u : List Int) (j : Int) (v : List Int) : Int := cadd (cadd (twoP X Y) 2 (!(in3 i 0 ((X.dims.length : Int) - 1)) || !(in3 j 0 ((Y.dims.length : Int) - 1)))) 2 (!(isRow X.p (dimP X i) u) || !(isRow Y.p (dimP Y j) v))
noncomputable def pvCi (X Y : Cx) (i : Int) (u : List Int) (j : Int) (v : List Int) : Int := cadd (twoP X Y) 2 (((!(in3 i 0 ((X.dims.length : Int) - 1)) || !(in3 j 0 ((Y.dims.length : Int) - 1))) || !(isRow X.p (dimP X i) u)) || !(isRow X.p (dimP Y j) v))
theorem pvCi_eq (X Y : Cx) (i : Int) (u : List Int) (j : Int) (v : List Int) : pvCi X Y i u j v = pvC X Y i u j v := by
  unfold pvCi pvC
  by_cases h : twoP X Y = 0
  · rw [← (twoP_0 h).2.2, h]
    cases !(in3 i 0 ((X.dims.length : Int) - 1)) || !(in3 j 0 ((Y.dims.length : Int) - 1)) <;> simp [cadd]
  · rw [cadd_n h, cadd_n (by rw [cadd_n h]; exact h), cadd_n h]
noncomputable def pvP (X Y : Cx) (i : Int) (u : List Int) (j : Int) (v : List Int) : List Int × Int := if pvC X Y i u j v = 0 then (pvO X Y i u j v u.length, 0) else ([], pvC X Y i u j v)
structure PvOk (X Y : Cx) (i : Int) (u : List Int) (j : Int) (v : List Int) : Prop where
  cX : IsC X
  cY : IsC Y
  p : 0 < X.p ∧ X.p ≤ 7
  ci : 0 ≤ i ∧ i ≤ (X.dims.length : Int) - 1
  cj : 0 ≤ j ∧ j ≤ (Y.dims.length : Int) - 1
  lX : X.dims.length ≤ 6
  lY : Y.dims.length ≤ 6
  cu : (u.length : Int) = dimP X i ∧ Bnd X.p u
  cv : (v.length : Int) = dimP Y j ∧ Bnd X.p v
theorem pvC_0 {X Y : Cx} {i : Int} {u : List Int} {j : Int} {v : List Int} (h : pvC X Y i u j v = 0) : PvOk X Y i u j v := by
  obtain ⟨h1, h2⟩ := (cadd_0 (by decide)).1 h
  obtain ⟨h3, h4⟩ := (cadd_0 (by decide)).1 h1
  obtain ⟨hX, hY, hp⟩ := twoP_0 h3
  simp only [Bool.or_eq_false_iff, Bool.not_eq_false', in3_iff, isRow_iff] at h2 h4
  rw [← hp] at h2
  exact ⟨hX, hY, isP_bnd hX.p, h4.1, h4.2, hX.len.2, hY.len.2, h2.1, h2.2⟩
theorem cnt_pv (X Y : Cx) (i : Int) (u : List Int) (j : Int) (v : List Int) : 0 ≤ cnt1 (pvP X Y i u j v).1 ∧ cnt1 (pvP X Y i u j v).1 ≤ 704 := by
  unfold pvP
  split
  · rename_i hc
    have hk := pvC_0 hc
    have h1 := hk.ci; have h2 := hk.cj
    have := tdP_bnd hk.cX hk.cY (n := (i + j).toNat) (by omega)
    simp only [cnt1, pvO_len]
    omega
  · exact ⟨Int.le_refl _, by show (0 : Int) ≤ _; decide⟩
theorem pv_row {X : Cx} {n : Int} {v : List Int} {k : Nat} (h : (v.length : Int) = n) (hz : (v.take k).all (fun x => in3 x 0 (X.p - 1)) = true) (hk : ¬ k < v.length) : isRow X.p n v = true := by
  rw [isRow, all_end hk hz, decide_eq_true h]; rfl

set_option maxRecDepth 100000 in
theorem l04Vec_ok (vX vv : Value) (X : Cx) (n : Int) (v : List Int) (h : Heap) (rX : RC h vX X) (rv : R1 h vv v) (hp : 0 ≤ X.p ∧ X.p ≤ 7) : CallA Try.prog 62 #[vX, .int .i64 n, vv] h fun v' h' => v' = .bool (isRow X.p (dimP X n) v) ∧ Ext h h' := by
  obtain ⟨vdX, vmX, rfl, hdX, hmX⟩ := rX
  have hledX := RdS.le hdX
  have hlemX := RdS.le hmX
  have hlev := RdS.le rv
  refine callA_intro TTok (args := [_, _, _]) Try.func62 (by kernel_rfl) rfl 29 rfl (by simp) [.tmp 6] rfl ?_
  simp only [idxs, Nat.reduceAdd]
  refine den_seq ?_
  refine den_region TTok ?_
  intro K hK
  simp -implicitDefEqProofs (disch := first | decide | assumption | omega) only [go_sem, RdS.len hdX sl22, RdS.idx hdX sl22, R1.intB hdX (HPres.refl _), RdS.cells hdX, RdS.len hmX sl23, RdS.idx hmX sl23, RdS.cellB hmX (HPres.refl _), RdS.cells hmX, RdS.len rv sl22, RdS.idx rv sl22, R1.intB rv (HPres.refl _), RdS.cells rv, wrap_id]
  refine op_box (cs := #[.int .i64 (X.p), vdX, vmX]) rfl ?_
  intro h0_0 e0_0 hb0_0 z0_0
  have := Ext.size e0_0
  have eB := e0_0
  have hfhb0_0 : Fresh h.size [h.size] := Fresh.one _
  have hlhb0_0 := one_lt (show h.size < h0_0.size by omega)
  try simp -implicitDefEqProofs (disch := first | decide | assumption | omega) only [go_sem, RdS.len hdX sl22, RdS.idx hdX sl22, R1.intB hdX (Ext.pres eB), RdS.cells hdX, RdS.len hmX sl23, RdS.idx hmX sl23, RdS.cellB hmX (Ext.pres eB), RdS.cells hmX, RdS.len rv sl22, RdS.idx rv sl22, R1.intB rv (Ext.pres eB), RdS.cells rv, BoxAt.cell hb0_0, wrap_id]
  refine hK _ _ ?_
  clear hK K
  refine den_seq ?_
  refine den_seq ?_
  refine den_region TTok ?_
  intro K hK
  simp -implicitDefEqProofs (disch := first | decide | assumption | omega) only [go_sem, ld30, RdS.len hdX sl22, RdS.idx hdX sl22, R1.intB hdX (Ext.pres eB), RdS.cells hdX, RdS.len hmX sl23, RdS.idx hmX sl23, RdS.cellB hmX (Ext.pres eB), RdS.cells hmX, RdS.len rv sl22, RdS.idx rv sl22, R1.intB rv (Ext.pres eB), RdS.cells rv, BoxAt.cell hb0_0, wrap_id]
  try simp -implicitDefEqProofs (disch := first | decide | assumption | omega) only [go_sem, RdS.len hdX sl22, RdS.idx hdX sl22, R1.intB hdX (Ext.pres eB), RdS.cells hdX, RdS.len hmX sl23, RdS.idx hmX sl23, RdS.cellB hmX (Ext.pres eB), RdS.cells hmX, RdS.len rv sl22, RdS.idx rv sl22, R1.intB rv (Ext.pres eB), RdS.cells rv, BoxAt.cell hb0_0, wrap_id]
  refine CallA.mono (sDim_ok _ X _ _ ⟨_, _, rfl, (RdS.pres hdX (Ext.pres eB)), (RdS.pres hmX (Ext.pres eB))⟩) ?_
  intro v_ h1_4
  rintro ⟨rfl, e1_4⟩
  replace hb0_0 := BoxAt.ext hb0_0 e1_4
  have := Ext.size e1_4
  replace eB := Ext.trans eB e1_4
  try simp -implicitDefEqProofs (disch := first | decide | assumption | omega) only [go_sem, RdS.len hdX sl22, RdS.idx hdX sl22, R1.intB hdX (Ext.pres eB), RdS.cells hdX, RdS.len hmX sl23, RdS.idx hmX sl23, RdS.cellB hmX (Ext.pres eB), RdS.cells hmX, RdS.len rv sl22, RdS.idx rv sl22, R1.intB rv (Ext.pres eB), RdS.cells rv, BoxAt.cell hb0_0, wrap_id]
  refine hK _ _ ?_
  clear hK K
  refine den_cond rfl (fun c0 => ?_) (fun c0 => ?_)
  · try simp only [decide_eq_true_eq, decide_eq_false_iff_not, beq_iff_eq, beq_eq_false_iff_ne, bne_iff_ne, ne_eq, Bool.not_eq_true', Bool.not_eq_false', Bool.and_eq_true, Bool.or_eq_true, bne_eq_false_iff_eq] at c0
    refine den_seq ?_
    refine den_region TTok ?_
    intro K hK
    simp -implicitDefEqProofs (disch := first | decide | assumption | omega) only [go_sem, RdS.len hdX sl22, RdS.idx hdX sl22, R1.intB hdX (Ext.pres eB), RdS.cells hdX, RdS.len hmX sl23, RdS.idx hmX sl23, RdS.cellB hmX (Ext.pres eB), RdS.cells hmX, RdS.len rv sl22, RdS.idx rv sl22, R1.intB rv (Ext.pres eB), RdS.cells rv, wrap_id]
    refine hK _ _ ?_
    clear hK K
    refine den_ret ?_
    simp (disch := decide) only [resP_1, puts_same, puts_ne]
    exact ⟨vbool (by rw [isRow, decide_eq_false c0]; rfl), eB⟩
  · try simp only [decide_eq_true_eq, decide_eq_false_iff_not, beq_iff_eq, beq_eq_false_iff_ne, bne_iff_ne, ne_eq, Bool.not_eq_true', Bool.not_eq_false', Bool.and_eq_true, Bool.or_eq_true, bne_eq_false_iff_eq] at c0
    refine den_skip ?_
    refine den_seq ?_
    refine den_seq ?_
    refine den_region TTok ?_
    intro K hK
    simp -implicitDefEqProofs (disch := first | decide | assumption | omega) only [go_sem, RdS.len hdX sl22, RdS.idx hdX sl22, R1.intB hdX (Ext.pres eB), RdS.cells hdX, RdS.len hmX sl23, RdS.idx hmX sl23, RdS.cellB hmX (Ext.pres eB), RdS.cells hmX, RdS.len rv sl22, RdS.idx rv sl22, R1.intB rv (Ext.pres eB), RdS.cells rv, BoxAt.cell hb0_0, wrap_id]
    refine hK _ _ ?_
    clear hK K
    refine den_block ?_
    refine den_sel [7, 2, 3] ?_
    intro env_1
    simp only [go_sem]
    refine den_loopS (σ := Nat) (fun st_ => [(7, .int .i64 (st_ : Int))]) (fun st_ H => st_ ≤ v.length ∧ (v.take st_).all (fun x => in3 x 0 (X.p - 1)) = true ∧ Ext h1_4 H) (fun st_ => v.length - st_) 0 ?_ ?_
    · exact ⟨by simp, by simp, Ext.refl _⟩
    · rintro k h4 ee3 ⟨hk, hz, cL2⟩
      replace hb0_0 := BoxAt.ext hb0_0 cL2
      have := Ext.size cL2
      replace eB := Ext.trans eB cL2
      simp only [List.cons_append, List.nil_append]
      refine den_seq ?_
      refine den_seq ?_
      refine den_region TTok ?_
      intro K hK
      simp -implicitDefEqProofs (disch := first | decide | assumption | omega) only [go_sem, RdS.len hdX sl22, RdS.idx hdX sl22, R1.intB hdX (Ext.pres eB), RdS.cells hdX, RdS.len hmX sl23, RdS.idx hmX sl23, RdS.cellB hmX (Ext.pres eB), RdS.cells hmX, RdS.len rv sl22, RdS.idx rv sl22, R1.intB rv (Ext.pres eB), RdS.cells rv, BoxAt.cell hb0_0, wrap_id]
      refine hK _ _ ?_
      clear hK K
      refine den_cond rfl (fun c1 => ?_) (fun c1 => ?_)
      · try simp only [decide_eq_true_eq, decide_eq_false_iff_not, beq_iff_eq, beq_eq_false_iff_ne, bne_iff_ne, ne_eq, Bool.not_eq_true', Bool.not_eq_false', Bool.and_eq_true, Bool.or_eq_true, bne_eq_false_iff_eq] at c1
        refine den_skip ?_
        refine den_seq ?_
        refine den_block ?_
        refine den_seq ?_
        refine den_draw TTok mixed [] [(0, true), (1, true), (2, true), (3, true), (4, true), (5, true), (6, true), (7, false), (8, true)] (by kernel_rfl) ?_
        intro K hK
        simp -implicitDefEqProofs (disch := first | decide | assumption | omega) only [go_sem, fa30_0, ld2, RdS.len hdX sl22, RdS.idx hdX sl22, R1.intB hdX (Ext.pres eB), RdS.cells hdX, RdS.len hmX sl23, RdS.idx hmX sl23, RdS.cellB hmX (Ext.pres eB), RdS.cells hmX, RdS.len rv sl22, RdS.idx rv sl22, R1.intB rv (Ext.pres eB), RdS.cells rv, BoxAt.cell hb0_0, wrap_id]
        try simp -implicitDefEqProofs (disch := first | decide | assumption | omega) only [go_sem, RdS.len hdX sl22, RdS.idx hdX sl22, R1.intB hdX (Ext.pres eB), RdS.cells hdX, RdS.len hmX sl23, RdS.idx hmX sl23, RdS.cellB hmX (Ext.pres eB), RdS.cells hmX, RdS.len rv sl22, RdS.idx rv sl22, R1.intB rv (Ext.pres eB), RdS.cells rv, BoxAt.cell hb0_0, wrap_id]
        refine CallA.pure (sIn_ok _ _ _ _) ?_
        try simp -implicitDefEqProofs (disch := first | decide | assumption | omega) only [go_sem, RdS.len hdX sl22, RdS.idx hdX sl22, R1.intB hdX (Ext.pres eB), RdS.cells hdX, RdS.len hmX sl23, RdS.idx hmX sl23, RdS.cellB hmX (Ext.pres eB), RdS.cells hmX, RdS.len rv sl22, RdS.idx rv sl22, R1.intB rv (Ext.pres eB), RdS.cells rv, BoxAt.cell hb0_0, wrap_id]
        refine hK _ _ ?_
        clear hK K
        refine den_cond rfl (fun c2 => ?_) (fun c2 => ?_)
        · try simp only [decide_eq_true_eq, decide_eq_false_iff_not, beq_iff_eq, beq_eq_false_iff_ne, bne_iff_ne, ne_eq, Bool.not_eq_true', Bool.not_eq_false', Bool.and_eq_true, Bool.or_eq_true, bne_eq_false_iff_eq] at c2
          refine den_seq ?_
          refine den_region TTok ?_
          intro K hK
          simp -implicitDefEqProofs (disch := first | decide | assumption | omega) only [go_sem, RdS.len hdX sl22, RdS.idx hdX sl22, R1.intB hdX (Ext.pres eB), RdS.cells hdX, RdS.len hmX sl23, RdS.idx hmX sl23, RdS.cellB hmX (Ext.pres eB), RdS.cells hmX, RdS.len rv sl22, RdS.idx rv sl22, R1.intB rv (Ext.pres eB), RdS.cells rv, wrap_id]
          refine hK _ _ ?_
          clear hK K
          refine den_ret ?_
          simp (disch := decide) only [resP_1, puts_same, puts_ne]
          exact ⟨vbool (by rw [isRow, all_stop (d := 0) (k := k) (by omega) (by simpa using c2)]; simp), eB⟩
        · try simp only [decide_eq_true_eq, decide_eq_false_iff_not, beq_iff_eq, beq_eq_false_iff_ne, bne_iff_ne, ne_eq, Bool.not_eq_true', Bool.not_eq_false', Bool.and_eq_true, Bool.or_eq_true, bne_eq_false_iff_eq] at c2
          refine den_skip ?_
          refine den_blk ?_
          refine den_region TTok ?_
          intro K hK
          simp -implicitDefEqProofs (disch := first | decide | assumption | omega) only [go_sem, RdS.len hdX sl22, RdS.idx hdX sl22, R1.intB hdX (Ext.pres eB), RdS.cells hdX, RdS.len hmX sl23, RdS.idx hmX sl23, RdS.cellB hmX (Ext.pres eB), RdS.cells hmX, RdS.len rv sl22, RdS.idx rv sl22, R1.intB rv (Ext.pres eB), RdS.cells rv, BoxAt.cell hb0_0, wrap_id]
          refine hK _ _ ?_
          clear hK K
          refine den_stop ?_
          exact ⟨k + 1, by simp [HasL, puts_at], ⟨by omega, all_step (d := 0) (by omega) hz (by simpa using c2), cL2⟩, by first | omega | (dsimp only; omega)⟩
      · try simp only [decide_eq_true_eq, decide_eq_false_iff_not, beq_iff_eq, beq_eq_false_iff_ne, bne_iff_ne, ne_eq, Bool.not_eq_true', Bool.not_eq_false', Bool.and_eq_true, Bool.or_eq_true, bne_eq_false_iff_eq] at c1
        refine den_exit ?_
        refine denX_code ?_
        refine denX_stop ?_
        refine denX_hit ?_
        refine den_seq ?_
        refine den_region TTok ?_
        intro K hK
        simp -implicitDefEqProofs (disch := first | decide | assumption | omega) only [go_sem, RdS.len hdX sl22, RdS.idx hdX sl22, R1.intB hdX (Ext.pres eB), RdS.cells hdX, RdS.len hmX sl23, RdS.idx hmX sl23, RdS.cellB hmX (Ext.pres eB), RdS.cells hmX, RdS.len rv sl22, RdS.idx rv sl22, R1.intB rv (Ext.pres eB), RdS.cells rv, wrap_id]
        refine hK _ _ ?_
        clear hK K
        refine den_ret ?_
        simp (disch := decide) only [resP_1, puts_same, puts_ne]
        exact ⟨vbool (pv_row (by simpa using c0) hz (by omega)).symm, eB⟩

set_option maxRecDepth 100000 in
theorem iPairs_ok (vX vY vu vv : Value) (X : Cx) (Y : Cx) (i : Int) (u : List Int) (j : Int) (v : List Int) (h : Heap) (rX : RC h vX X) (rY : RC h vY Y) (ru : R1 h vu u) (rv : R1 h vv v) (hk : PvOk X Y i u j v) : CallA Try.prog 112 #[vX, vY, .int .i64 i, vu, .int .i64 j, vv] h fun v' h' => ∃ w0 f0, v' = w0 ∧ O1 h' w0 (pvO X Y i u j v u.length) f0 ∧ Fresh h.size f0 ∧ Ext h h' := by
  obtain ⟨vdX, vmX, rfl, hdX, hmX⟩ := rX
  have hledX := RdS.le hdX
  have hlemX := RdS.le hmX
  obtain ⟨vdY, vmY, rfl, hdY, hmY⟩ := rY
  have hledY := RdS.le hdY
  have hlemY := RdS.le hmY
  have hleu := RdS.le ru
  have hlev := RdS.le rv
  have hX := hk.cX
  have hY := hk.cY
  have hpi := hk.p
  have hki := hk.ci
  have hkj := hk.cj
  have hkX := hk.lX
  have hkY := hk.lY
  have hku := hk.cu.1
  have hkv := hk.cv.1
  have hdimX := dimP_bnd hk.cX i
  have hdimY := dimP_bnd hk.cY j
  have htl := tdP_len X Y
  have htb := tdP_bnd hk.cX hk.cY (n := (i + j).toNat) (by omega)
  refine callA_intro TTok (args := [_, _, _, _, _, _]) Try.func112 (by kernel_rfl) rfl 59 rfl (by simp) [.tmp 12] rfl ?_
  simp only [idxs, Nat.reduceAdd]
  refine den_seq ?_
  refine den_region TTok ?_
  intro K hK
  simp -implicitDefEqProofs (disch := first | decide | assumption | omega) only [go_sem, RdS.len hdX sl22, RdS.idx hdX sl22, R1.intB hdX (HPres.refl _), RdS.cells hdX, RdS.len hmX sl23, RdS.idx hmX sl23, RdS.cellB hmX (HPres.refl _), RdS.cells hmX, RdS.len hdY sl22, RdS.idx hdY sl22, R1.intB hdY (HPres.refl _), RdS.cells hdY, RdS.len hmY sl23, RdS.idx hmY sl23, RdS.cellB hmY (HPres.refl _), RdS.cells hmY, RdS.len ru sl22, RdS.idx ru sl22, R1.intB ru (HPres.refl _), RdS.cells ru, RdS.len rv sl22, RdS.idx rv sl22, R1.intB rv (HPres.refl _), RdS.cells rv, wrap_id]
  refine op_box (cs := #[.int .i64 (X.p), vdX, vmX]) rfl ?_
  intro h0_0 e0_0 hb0_0 z0_0
  have := Ext.size e0_0
  have eB := e0_0
  have hfhb0_0 : Fresh h.size [h.size] := Fresh.one _
  have hlhb0_0 := one_lt (show h.size < h0_0.size by omega)
  try simp -implicitDefEqProofs (disch := first | decide | assumption | omega) only [go_sem, RdS.len hdX sl22, RdS.idx hdX sl22, R1.intB hdX (Ext.pres eB), RdS.cells hdX, RdS.len hmX sl23, RdS.idx hmX sl23, RdS.cellB hmX (Ext.pres eB), RdS.cells hmX, RdS.len hdY sl22, RdS.idx hdY sl22, R1.intB hdY (Ext.pres eB), RdS.cells hdY, RdS.len hmY sl23, RdS.idx hmY sl23, RdS.cellB hmY (Ext.pres eB), RdS.cells hmY, RdS.len ru sl22, RdS.idx ru sl22, R1.intB ru (Ext.pres eB), RdS.cells ru, RdS.len rv sl22, RdS.idx rv sl22, R1.intB rv (Ext.pres eB), RdS.cells rv, BoxAt.cell hb0_0, wrap_id]
  refine op_box (cs := #[.int .i64 (Y.p), vdY, vmY]) rfl ?_
  intro h0_1 e0_1 hb0_1 z0_1
  replace hb0_0 := BoxAt.ext hb0_0 e0_1
  have := Ext.size e0_1
  replace eB := Ext.trans eB e0_1
  have hfhb0_1 : Fresh h0_0.size [h0_0.size] := Fresh.one _
  have hlhb0_1 := one_lt (show h0_0.size < h0_1.size by omega)
  try simp -implicitDefEqProofs (disch := first | decide | assumption | omega) only [go_sem, RdS.len hdX sl22, RdS.idx hdX sl22, R1.intB hdX (Ext.pres eB), RdS.cells hdX, RdS.len hmX sl23, RdS.idx hmX sl23, RdS.cellB hmX (Ext.pres eB), RdS.cells hmX, RdS.len hdY sl22, RdS.idx hdY sl22, R1.intB hdY (Ext.pres eB), RdS.cells hdY, RdS.len hmY sl23, RdS.idx hmY sl23, RdS.cellB hmY (Ext.pres eB), RdS.cells hmY, RdS.len ru sl22, RdS.idx ru sl22, R1.intB ru (Ext.pres eB), RdS.cells ru, RdS.len rv sl22, RdS.idx rv sl22, R1.intB rv (Ext.pres eB), RdS.cells rv, BoxAt.cell hb0_0, BoxAt.cell hb0_1, wrap_id]
  refine hK _ _ ?_
  clear hK K
  refine den_seq ?_
  refine den_region TTok ?_
  intro K hK
  simp -implicitDefEqProofs (disch := first | decide | assumption | omega) only [go_sem, ld30, RdS.len hdX sl22, RdS.idx hdX sl22, R1.intB hdX (Ext.pres eB), RdS.cells hdX, RdS.len hmX sl23, RdS.idx hmX sl23, RdS.cellB hmX (Ext.pres eB), RdS.cells hmX, RdS.len hdY sl22, RdS.idx hdY sl22, R1.intB hdY (Ext.pres eB), RdS.cells hdY, RdS.len hmY sl23, RdS.idx hmY sl23, RdS.cellB hmY (Ext.pres eB), RdS.cells hmY, RdS.len ru sl22, RdS.idx ru sl22, R1.intB ru (Ext.pres eB), RdS.cells ru, RdS.len rv sl22, RdS.idx rv sl22, R1.intB rv (Ext.pres eB), RdS.cells rv, BoxAt.cell hb0_0, BoxAt.cell hb0_1, wrap_id]
  try simp -implicitDefEqProofs (disch := first | decide | assumption | omega) only [go_sem, RdS.len hdX sl22, RdS.idx hdX sl22, R1.intB hdX (Ext.pres eB), RdS.cells hdX, RdS.len hmX sl23, RdS.idx hmX sl23, RdS.cellB hmX (Ext.pres eB), RdS.cells hmX, RdS.len hdY sl22, RdS.idx hdY sl22, R1.intB hdY (Ext.pres eB), RdS.cells hdY, RdS.len hmY sl23, RdS.idx hmY sl23, RdS.cellB hmY (Ext.pres eB), RdS.cells hmY, RdS.len ru sl22, RdS.idx ru sl22, R1.intB ru (Ext.pres eB), RdS.cells ru, RdS.len rv sl22, RdS.idx rv sl22, R1.intB rv (Ext.pres eB), RdS.cells rv, BoxAt.cell hb0_0, BoxAt.cell hb0_1, wrap_id]
  refine CallA.mono (iDims_ok _ _ X Y _ ⟨_, _, rfl, (RdS.pres hdX (Ext.pres eB)), (RdS.pres hmX (Ext.pres eB))⟩ ⟨_, _, rfl, (RdS.pres hdY (Ext.pres eB)), (RdS.pres hmY (Ext.pres eB))⟩ (hX) (hY)) ?_
  intro v_ h1_2
  rintro ⟨vw1_2_0, fw1_2_0, rfl, how1_2_0, hfw1_2_0, e1_2⟩
  replace hb0_0 := BoxAt.ext hb0_0 e1_2
  replace hb0_1 := BoxAt.ext hb0_1 e1_2
  have := Ext.size e1_2
  replace eB := Ext.trans eB e1_2
  have hlhow1_2_0 := OS.lt how1_2_0
  try simp -implicitDefEqProofs (disch := first | decide | assumption | omega) only [go_sem, ld2, RdS.len hdX sl22, RdS.idx hdX sl22, R1.intB hdX (Ext.pres eB), RdS.cells hdX, RdS.len hmX sl23, RdS.idx hmX sl23, RdS.cellB hmX (Ext.pres eB), RdS.cells hmX, RdS.len hdY sl22, RdS.idx hdY sl22, R1.intB hdY (Ext.pres eB), RdS.cells hdY, RdS.len hmY sl23, RdS.idx hmY sl23, RdS.cellB hmY (Ext.pres eB), RdS.cells hmY, RdS.len ru sl22, RdS.idx ru sl22, R1.intB ru (Ext.pres eB), RdS.cells ru, RdS.len rv sl22, RdS.idx rv sl22, R1.intB rv (Ext.pres eB), RdS.cells rv, RdS.len (OS.rd how1_2_0) sl22, RdS.idx (OS.rd how1_2_0) sl22, R1.intN (OS.rd how1_2_0), RdS.cells (OS.rd how1_2_0), BoxAt.cell hb0_0, BoxAt.cell hb0_1, wrap_id]
  refine op_make sz22 rfl rfl (by omega) (by omega) OI 0 (fun _ => ⟨rfl, rfl⟩) ?_
  intro v1_8 h1_8 ho1_8 e1_8
  replace how1_2_0 := OS.ext how1_2_0 e1_8
  replace hb0_0 := BoxAt.ext hb0_0 e1_8
  replace hb0_1 := BoxAt.ext hb0_1 e1_8
  have := Ext.size e1_8
  replace eB := Ext.trans eB e1_8
  have hfho1_8 : Fresh h1_2.size [h1_2.size] := Fresh.one _
  have hlenho1_8 : (List.replicate (((tdP X Y).getD ((i + j)).toNat 0)).toNat (0 : Int)).length = (((tdP X Y).getD ((i + j)).toNat 0)).toNat := List.length_replicate
  have hlho1_8 := OS.lt ho1_8
  try simp -implicitDefEqProofs (disch := first | decide | assumption | omega) only [go_sem, RdS.len hdX sl22, RdS.idx hdX sl22, R1.intB hdX (Ext.pres eB), RdS.cells hdX, RdS.len hmX sl23, RdS.idx hmX sl23, RdS.cellB hmX (Ext.pres eB), RdS.cells hmX, RdS.len hdY sl22, RdS.idx hdY sl22, R1.intB hdY (Ext.pres eB), RdS.cells hdY, RdS.len hmY sl23, RdS.idx hmY sl23, RdS.cellB hmY (Ext.pres eB), RdS.cells hmY, RdS.len ru sl22, RdS.idx ru sl22, R1.intB ru (Ext.pres eB), RdS.cells ru, RdS.len rv sl22, RdS.idx rv sl22, R1.intB rv (Ext.pres eB), RdS.cells rv, RdS.len (OS.rd how1_2_0) sl22, RdS.idx (OS.rd how1_2_0) sl22, R1.intN (OS.rd how1_2_0), RdS.cells (OS.rd how1_2_0), RdS.len (OS.rd ho1_8) sl22, RdS.idx (OS.rd ho1_8) sl22, R1.intN (OS.rd ho1_8), RdS.cells (OS.rd ho1_8), BoxAt.cell hb0_0, BoxAt.cell hb0_1, wrap_id]
  refine hK _ _ ?_
  clear hK K
  refine den_seq ?_
  refine den_seq ?_
  refine den_region TTok ?_
  intro K hK
  simp -implicitDefEqProofs (disch := first | decide | assumption | omega) only [go_sem, RdS.len hdX sl22, RdS.idx hdX sl22, R1.intB hdX (Ext.pres eB), RdS.cells hdX, RdS.len hmX sl23, RdS.idx hmX sl23, RdS.cellB hmX (Ext.pres eB), RdS.cells hmX, RdS.len hdY sl22, RdS.idx hdY sl22, R1.intB hdY (Ext.pres eB), RdS.cells hdY, RdS.len hmY sl23, RdS.idx hmY sl23, RdS.cellB hmY (Ext.pres eB), RdS.cells hmY, RdS.len ru sl22, RdS.idx ru sl22, R1.intB ru (Ext.pres eB), RdS.cells ru, RdS.len rv sl22, RdS.idx rv sl22, R1.intB rv (Ext.pres eB), RdS.cells rv, RdS.len (OS.rd ho1_8) sl22, RdS.idx (OS.rd ho1_8) sl22, R1.intN (OS.rd ho1_8), RdS.cells (OS.rd ho1_8), BoxAt.cell hb0_0, BoxAt.cell hb0_1, wrap_id]
  refine hK _ _ ?_
  clear hK K
  refine den_block ?_
  refine den_sel [29, 2, 4, 5, 6, 7, 13, 27, 28] ?_
  intro env_1
  simp only [go_sem]
  refine den_loopS (σ := Nat) (fun st_ => [(29, .int .i64 (st_ : Int))]) (fun st_ H => st_ ≤ u.length ∧ O1 H v1_8 (pvO X Y i u j v st_) [h1_2.size] ∧ Chg [h1_2.size] h1_8 H) (fun st_ => u.length - st_) 0 ?_ ?_
  · exact ⟨by first | (simp; done) | (dsimp only; omega) | (simp; omega), by rw [pvO]; exact ho1_8, Chg.refl _ _⟩
  · rintro a h4 ee3 ⟨hi0, hO, cL2⟩
    replace hb0_0 := BoxAt.chgA hb0_0 cL2 (apart_lt hlhb0_0 hfho1_8 (by omega))
    replace hb0_1 := BoxAt.chgA hb0_1 cL2 (apart_lt hlhb0_1 hfho1_8 (by omega))
    have := cL2.size
    replace eB := Ext.then eB cL2 (ge_of hfho1_8 (by omega))
    have sbhO : Sub [h1_2.size] h1_8.size [h1_2.size] := Sub.refl
    have hfhO := hfho1_8
    have hlhO := OS.lt hO
    simp only [List.cons_append, List.nil_append]
    refine den_seq ?_
    refine den_region TTok ?_
    intro K hK
    simp -implicitDefEqProofs (disch := first | decide | assumption | omega) only [go_sem, RdS.len hdX sl22, RdS.idx hdX sl22, R1.intB hdX (Ext.pres eB), RdS.cells hdX, RdS.len hmX sl23, RdS.idx hmX sl23, RdS.cellB hmX (Ext.pres eB), RdS.cells hmX, RdS.len hdY sl22, RdS.idx hdY sl22, R1.intB hdY (Ext.pres eB), RdS.cells hdY, RdS.len hmY sl23, RdS.idx hmY sl23, RdS.cellB hmY (Ext.pres eB), RdS.cells hmY, RdS.len ru sl22, RdS.idx ru sl22, R1.intB ru (Ext.pres eB), RdS.cells ru, RdS.len rv sl22, RdS.idx rv sl22, R1.intB rv (Ext.pres eB), RdS.cells rv, RdS.len (OS.rd hO) sl22, RdS.idx (OS.rd hO) sl22, R1.intN (OS.rd hO), RdS.cells (OS.rd hO), BoxAt.cell hb0_0, BoxAt.cell hb0_1, wrap_id]
    refine hK _ _ ?_
    clear hK K
    refine den_seq ?_
    refine den_cond rfl (fun c0 => ?_) (fun c0 => ?_)
    · try simp only [decide_eq_true_eq, decide_eq_false_iff_not, beq_iff_eq, beq_eq_false_iff_ne, bne_iff_ne, ne_eq, Bool.not_eq_true', Bool.not_eq_false', Bool.and_eq_true, Bool.or_eq_true, bne_eq_false_iff_eq] at c0
      refine den_skip ?_
      refine den_seq ?_
      refine den_block ?_
      refine den_seq ?_
      refine den_region TTok ?_
      intro K hK
      simp -implicitDefEqProofs (disch := first | decide | assumption | omega) only [go_sem, ld2, RdS.len hdX sl22, RdS.idx hdX sl22, R1.intB hdX (Ext.pres eB), RdS.cells hdX, RdS.len hmX sl23, RdS.idx hmX sl23, RdS.cellB hmX (Ext.pres eB), RdS.cells hmX, RdS.len hdY sl22, RdS.idx hdY sl22, R1.intB hdY (Ext.pres eB), RdS.cells hdY, RdS.len hmY sl23, RdS.idx hmY sl23, RdS.cellB hmY (Ext.pres eB), RdS.cells hmY, RdS.len ru sl22, RdS.idx ru sl22, R1.intB ru (Ext.pres eB), RdS.cells ru, RdS.len rv sl22, RdS.idx rv sl22, R1.intB rv (Ext.pres eB), RdS.cells rv, RdS.len (OS.rd hO) sl22, RdS.idx (OS.rd hO) sl22, R1.intN (OS.rd hO), RdS.cells (OS.rd hO), BoxAt.cell hb0_0, BoxAt.cell hb0_1, wrap_id]
      refine hK _ _ ?_
      clear hK K
      refine den_seq ?_
      refine den_region TTok ?_
      intro K hK
      simp -implicitDefEqProofs (disch := first | decide | assumption | omega) only [go_sem, RdS.len hdX sl22, RdS.idx hdX sl22, R1.intB hdX (Ext.pres eB), RdS.cells hdX, RdS.len hmX sl23, RdS.idx hmX sl23, RdS.cellB hmX (Ext.pres eB), RdS.cells hmX, RdS.len hdY sl22, RdS.idx hdY sl22, R1.intB hdY (Ext.pres eB), RdS.cells hdY, RdS.len hmY sl23, RdS.idx hmY sl23, RdS.cellB hmY (Ext.pres eB), RdS.cells hmY, RdS.len ru sl22, RdS.idx ru sl22, R1.intB ru (Ext.pres eB), RdS.cells ru, RdS.len rv sl22, RdS.idx rv sl22, R1.intB rv (Ext.pres eB), RdS.cells rv, RdS.len (OS.rd hO) sl22, RdS.idx (OS.rd hO) sl22, R1.intN (OS.rd hO), RdS.cells (OS.rd hO), BoxAt.cell hb0_0, BoxAt.cell hb0_1, wrap_id]
      refine hK _ _ ?_
      clear hK K
      refine den_block ?_
      refine den_sel [36, 2, 4, 5, 6, 7, 13, 14, 15, 27, 28, 29, 34, 35] ?_
      intro env_5
      simp only [go_sem]
      refine den_loopS (σ := Nat) (fun st_ => [(36, .int .i64 (st_ : Int))]) (fun st_ H => st_ ≤ v.length ∧ O1 H v1_8 (pvI X Y i a j (u.getD a 0) v st_ (pvO X Y i u j v a)) [h1_2.size] ∧ Chg [h1_2.size] h4 H) (fun st_ => v.length - st_) 0 ?_ ?_
      · exact ⟨by first | (simp; done) | (dsimp only; omega) | (simp; omega), by rw [pvI]; exact hO, Chg.refl _ _⟩
      · rintro b h8 ee7 ⟨hi0, hI, cL6⟩
        replace hb0_0 := BoxAt.chgA hb0_0 cL6 (apart_lt hlhb0_0 hfhO (by omega))
        replace hb0_1 := BoxAt.chgA hb0_1 cL6 (apart_lt hlhb0_1 hfhO (by omega))
        have := cL6.size
        replace eB := Ext.then eB cL6 (ge_of hfhO (by omega))
        replace cL2 := Chg.step cL2 cL6 sbhO
        have sbhI : Sub [h1_2.size] h4.size [h1_2.size] := Sub.refl
        have hfhI := hfhO
        have sb9 : Sub [h1_2.size] h1_8.size [h1_2.size] := Sub.trans sbhI sbhO (by omega)
        have hlhI := OS.lt hI
        simp only [List.cons_append, List.nil_append]
        refine den_seq ?_
        refine den_region TTok ?_
        intro K hK
        simp -implicitDefEqProofs (disch := first | decide | assumption | omega) only [go_sem, RdS.len hdX sl22, RdS.idx hdX sl22, R1.intB hdX (Ext.pres eB), RdS.cells hdX, RdS.len hmX sl23, RdS.idx hmX sl23, RdS.cellB hmX (Ext.pres eB), RdS.cells hmX, RdS.len hdY sl22, RdS.idx hdY sl22, R1.intB hdY (Ext.pres eB), RdS.cells hdY, RdS.len hmY sl23, RdS.idx hmY sl23, RdS.cellB hmY (Ext.pres eB), RdS.cells hmY, RdS.len ru sl22, RdS.idx ru sl22, R1.intB ru (Ext.pres eB), RdS.cells ru, RdS.len rv sl22, RdS.idx rv sl22, R1.intB rv (Ext.pres eB), RdS.cells rv, RdS.len (OS.rd hI) sl22, RdS.idx (OS.rd hI) sl22, R1.intN (OS.rd hI), RdS.cells (OS.rd hI), BoxAt.cell hb0_0, BoxAt.cell hb0_1, wrap_id]
        refine hK _ _ ?_
        clear hK K
        refine den_seq ?_
        refine den_cond rfl (fun c1 => ?_) (fun c1 => ?_)
        · try simp only [decide_eq_true_eq, decide_eq_false_iff_not, beq_iff_eq, beq_eq_false_iff_ne, bne_iff_ne, ne_eq, Bool.not_eq_true', Bool.not_eq_false', Bool.and_eq_true, Bool.or_eq_true, bne_eq_false_iff_eq] at c1
          refine den_skip ?_
          refine den_seq ?_
          refine den_block ?_
          refine den_seq ?_
          refine den_region TTok ?_
          intro K hK
          simp -implicitDefEqProofs (disch := first | decide | assumption | omega) only [go_sem, ld2, RdS.len hdX sl22, RdS.idx hdX sl22, R1.intB hdX (Ext.pres eB), RdS.cells hdX, RdS.len hmX sl23, RdS.idx hmX sl23, RdS.cellB hmX (Ext.pres eB), RdS.cells hmX, RdS.len hdY sl22, RdS.idx hdY sl22, R1.intB hdY (Ext.pres eB), RdS.cells hdY, RdS.len hmY sl23, RdS.idx hmY sl23, RdS.cellB hmY (Ext.pres eB), RdS.cells hmY, RdS.len ru sl22, RdS.idx ru sl22, R1.intB ru (Ext.pres eB), RdS.cells ru, RdS.len rv sl22, RdS.idx rv sl22, R1.intB rv (Ext.pres eB), RdS.cells rv, RdS.len (OS.rd hI) sl22, RdS.idx (OS.rd hI) sl22, R1.intN (OS.rd hI), RdS.cells (OS.rd hI), BoxAt.cell hb0_0, BoxAt.cell hb0_1, wrap_id]
          refine hK _ _ ?_
          clear hK K
          have hxu := hk.cu.2.at (k := a) (by omega)
          have hyv := hk.cv.2.at (k := b) (by omega)
          have hxy := mul36 hxu hyv hk.p.2
          have hpl := place_lt hk.cX hk.cY hk.ci hk.cj (a := a) (b := b) (by omega) (by omega)
          have hle1 := pvI_len X Y i a j (u.getD a 0) v b (pvO X Y i u j v a)
          have hle2 := pvO_len X Y i u j v a
          refine den_draw TTok mixed [15] [(0, true), (1, true), (2, true), (3, true), (4, true), (5, true), (6, true), (8, true), (9, true), (10, true), (11, true), (12, true), (13, true), (7, false), (14, true), (15, false)] (by kernel_rfl) ?_
          intro K hK
          simp -implicitDefEqProofs (disch := first | decide | assumption | omega) only [go_sem, fa30_0, ld2, ld30, RdS.len hdX sl22, RdS.idx hdX sl22, R1.intB hdX (Ext.pres eB), RdS.cells hdX, RdS.len hmX sl23, RdS.idx hmX sl23, RdS.cellB hmX (Ext.pres eB), RdS.cells hmX, RdS.len hdY sl22, RdS.idx hdY sl22, R1.intB hdY (Ext.pres eB), RdS.cells hdY, RdS.len hmY sl23, RdS.idx hmY sl23, RdS.cellB hmY (Ext.pres eB), RdS.cells hmY, RdS.len ru sl22, RdS.idx ru sl22, R1.intB ru (Ext.pres eB), RdS.cells ru, RdS.len rv sl22, RdS.idx rv sl22, R1.intB rv (Ext.pres eB), RdS.cells rv, RdS.len (OS.rd hI) sl22, RdS.idx (OS.rd hI) sl22, R1.intN (OS.rd hI), RdS.cells (OS.rd hI), BoxAt.cell hb0_0, BoxAt.cell hb0_1, wrap_id]
          try simp -implicitDefEqProofs (disch := first | decide | assumption | omega) only [go_sem, RdS.len hdX sl22, RdS.idx hdX sl22, R1.intB hdX (Ext.pres eB), RdS.cells hdX, RdS.len hmX sl23, RdS.idx hmX sl23, RdS.cellB hmX (Ext.pres eB), RdS.cells hmX, RdS.len hdY sl22, RdS.idx hdY sl22, R1.intB hdY (Ext.pres eB), RdS.cells hdY, RdS.len hmY sl23, RdS.idx hmY sl23, RdS.cellB hmY (Ext.pres eB), RdS.cells hmY, RdS.len ru sl22, RdS.idx ru sl22, R1.intB ru (Ext.pres eB), RdS.cells ru, RdS.len rv sl22, RdS.idx rv sl22, R1.intB rv (Ext.pres eB), RdS.cells rv, RdS.len (OS.rd hI) sl22, RdS.idx (OS.rd hI) sl22, R1.intN (OS.rd hI), RdS.cells (OS.rd hI), BoxAt.cell hb0_0, BoxAt.cell hb0_1, wrap_id]
          refine CallA.mono (iPlace_ok _ _ X Y _ _ _ _ _ ⟨_, _, rfl, (RdS.pres hdX (Ext.pres eB)), (RdS.pres hmX (Ext.pres eB))⟩ ⟨_, _, rfl, (RdS.pres hdY (Ext.pres eB)), (RdS.pres hmY (Ext.pres eB))⟩ hk.cX hk.cY (by omega) (by omega) (by omega) (by omega)) ?_
          intro v_ h8_7
          rintro ⟨rfl, e8_7⟩
          replace hI := OS.ext hI e8_7
          replace hb0_0 := BoxAt.ext hb0_0 e8_7
          replace hb0_1 := BoxAt.ext hb0_1 e8_7
          have := Ext.size e8_7
          replace eB := Ext.trans eB e8_7
          replace cL2 := Chg.stepE cL2 e8_7
          replace cL6 := Chg.stepE cL6 e8_7
          try simp (disch := decide) only [outv_some, outv_none, put_puts]
          refine plK_pres (Ext.pres e8_7) ?_
          try simp -implicitDefEqProofs (disch := first | decide | assumption | omega) only [go_sem, RdS.len hdX sl22, RdS.idx hdX sl22, R1.intB hdX (Ext.pres eB), RdS.cells hdX, RdS.len hmX sl23, RdS.idx hmX sl23, RdS.cellB hmX (Ext.pres eB), RdS.cells hmX, RdS.len hdY sl22, RdS.idx hdY sl22, R1.intB hdY (Ext.pres eB), RdS.cells hdY, RdS.len hmY sl23, RdS.idx hmY sl23, RdS.cellB hmY (Ext.pres eB), RdS.cells hmY, RdS.len ru sl22, RdS.idx ru sl22, R1.intB ru (Ext.pres eB), RdS.cells ru, RdS.len rv sl22, RdS.idx rv sl22, R1.intB rv (Ext.pres eB), RdS.cells rv, RdS.len (OS.rd hI) sl22, RdS.idx (OS.rd hI) sl22, R1.intN (OS.rd hI), RdS.cells (OS.rd hI), BoxAt.cell hb0_0, BoxAt.cell hb0_1, wrap_id]
          refine op_store1 (j := ((placeP X Y i (a : Int) j (b : Int))).toNat) st2 hI hfhI.nodup (by first | omega | (simp; omega)) rfl rfl ?_
          intro h8_15 ho8_15 c8_15
          have hsz8_15 := c8_15.size
          replace hb0_0 := BoxAt.chgA hb0_0 c8_15 (apart_lt hlhb0_0 hfhI (by omega))
          replace hb0_1 := BoxAt.chgA hb0_1 c8_15 (apart_lt hlhb0_1 hfhI (by omega))
          have := c8_15.size
          replace eB := Ext.then eB c8_15 (ge_of hfhI (by omega))
          replace cL2 := Chg.step cL2 c8_15 sb9
          replace cL6 := Chg.step cL6 c8_15 sbhI
          have hlho8_15 := OS.lt ho8_15
          have hlenho8_15 : ((pvI X Y i a j (u.getD a 0) v b (pvO X Y i u j v a)).set (((placeP X Y i (a : Int) j (b : Int))).toNat) (Int.tmod (((u).getD a 0) * ((v).getD b 0)) X.p) : List Int).length = (pvI X Y i a j (u.getD a 0) v b (pvO X Y i u j v a) : List Int).length := List.length_set
          try simp (disch := decide) only [outv_some, outv_none, put_puts]
          refine plK_last (by decide) ?_
          try simp -implicitDefEqProofs (disch := first | decide | assumption | omega) only [go_sem, RdS.len hdX sl22, RdS.idx hdX sl22, R1.intB hdX (Ext.pres eB), RdS.cells hdX, RdS.len hmX sl23, RdS.idx hmX sl23, RdS.cellB hmX (Ext.pres eB), RdS.cells hmX, RdS.len hdY sl22, RdS.idx hdY sl22, R1.intB hdY (Ext.pres eB), RdS.cells hdY, RdS.len hmY sl23, RdS.idx hmY sl23, RdS.cellB hmY (Ext.pres eB), RdS.cells hmY, RdS.len ru sl22, RdS.idx ru sl22, R1.intB ru (Ext.pres eB), RdS.cells ru, RdS.len rv sl22, RdS.idx rv sl22, R1.intB rv (Ext.pres eB), RdS.cells rv, RdS.len (OS.rd ho8_15) sl22, RdS.idx (OS.rd ho8_15) sl22, R1.intN (OS.rd ho8_15), RdS.cells (OS.rd ho8_15), BoxAt.cell hb0_0, BoxAt.cell hb0_1, wrap_id]
          refine hK _ _ ?_
          clear hK K
          refine den_blk ?_
          refine den_region TTok ?_
          intro K hK
          simp -implicitDefEqProofs (disch := first | decide | assumption | omega) only [go_sem, RdS.len hdX sl22, RdS.idx hdX sl22, R1.intB hdX (Ext.pres eB), RdS.cells hdX, RdS.len hmX sl23, RdS.idx hmX sl23, RdS.cellB hmX (Ext.pres eB), RdS.cells hmX, RdS.len hdY sl22, RdS.idx hdY sl22, R1.intB hdY (Ext.pres eB), RdS.cells hdY, RdS.len hmY sl23, RdS.idx hmY sl23, RdS.cellB hmY (Ext.pres eB), RdS.cells hmY, RdS.len ru sl22, RdS.idx ru sl22, R1.intB ru (Ext.pres eB), RdS.cells ru, RdS.len rv sl22, RdS.idx rv sl22, R1.intB rv (Ext.pres eB), RdS.cells rv, RdS.len (OS.rd ho8_15) sl22, RdS.idx (OS.rd ho8_15) sl22, R1.intN (OS.rd ho8_15), RdS.cells (OS.rd ho8_15), BoxAt.cell hb0_0, BoxAt.cell hb0_1, wrap_id]
          refine hK _ _ ?_
          clear hK K
          refine den_stop ?_
          exact ⟨b + 1, by simp [HasL, puts_at], ⟨by first | omega | (dsimp only; omega), ho8_15, cL6⟩, by first | omega | (dsimp only; omega)⟩
        · try simp only [decide_eq_true_eq, decide_eq_false_iff_not, beq_iff_eq, beq_eq_false_iff_ne, bne_iff_ne, ne_eq, Bool.not_eq_true', Bool.not_eq_false', Bool.and_eq_true, Bool.or_eq_true, bne_eq_false_iff_eq] at c1
          refine den_exit ?_
          refine denX_code ?_
          refine denX_stop ?_
          refine denX_hit ?_
          refine den_blk ?_
          refine den_region TTok ?_
          intro K hK
          simp -implicitDefEqProofs (disch := first | decide | assumption | omega) only [go_sem, RdS.len hdX sl22, RdS.idx hdX sl22, R1.intB hdX (Ext.pres eB), RdS.cells hdX, RdS.len hmX sl23, RdS.idx hmX sl23, RdS.cellB hmX (Ext.pres eB), RdS.cells hmX, RdS.len hdY sl22, RdS.idx hdY sl22, R1.intB hdY (Ext.pres eB), RdS.cells hdY, RdS.len hmY sl23, RdS.idx hmY sl23, RdS.cellB hmY (Ext.pres eB), RdS.cells hmY, RdS.len ru sl22, RdS.idx ru sl22, R1.intB ru (Ext.pres eB), RdS.cells ru, RdS.len rv sl22, RdS.idx rv sl22, R1.intB rv (Ext.pres eB), RdS.cells rv, RdS.len (OS.rd hI) sl22, RdS.idx (OS.rd hI) sl22, R1.intN (OS.rd hI), RdS.cells (OS.rd hI), BoxAt.cell hb0_0, BoxAt.cell hb0_1, wrap_id]
          refine hK _ _ ?_
          clear hK K
          refine den_stop ?_
          rw [show pvI X Y i a j (u.getD a 0) v b (pvO X Y i u j v a) = pvO X Y i u j v (a + 1) by rw [pvO, show v.length = b by omega]] at hI
          exact ⟨a + 1, by simp [HasL, puts_at], ⟨by first | omega | (dsimp only; omega), hI, cL2⟩, by first | omega | (dsimp only; omega)⟩
    · try simp only [decide_eq_true_eq, decide_eq_false_iff_not, beq_iff_eq, beq_eq_false_iff_ne, bne_iff_ne, ne_eq, Bool.not_eq_true', Bool.not_eq_false', Bool.and_eq_true, Bool.or_eq_true, bne_eq_false_iff_eq] at c0
      refine den_exit ?_
      refine denX_code ?_
      refine denX_stop ?_
      refine denX_hit ?_
      refine den_seq ?_
      refine den_region TTok ?_
      intro K hK
      simp -implicitDefEqProofs (disch := first | decide | assumption | omega) only [go_sem, RdS.len hdX sl22, RdS.idx hdX sl22, R1.intB hdX (Ext.pres eB), RdS.cells hdX, RdS.len hmX sl23, RdS.idx hmX sl23, RdS.cellB hmX (Ext.pres eB), RdS.cells hmX, RdS.len hdY sl22, RdS.idx hdY sl22, R1.intB hdY (Ext.pres eB), RdS.cells hdY, RdS.len hmY sl23, RdS.idx hmY sl23, RdS.cellB hmY (Ext.pres eB), RdS.cells hmY, RdS.len ru sl22, RdS.idx ru sl22, R1.intB ru (Ext.pres eB), RdS.cells ru, RdS.len rv sl22, RdS.idx rv sl22, R1.intB rv (Ext.pres eB), RdS.cells rv, RdS.len (OS.rd hO) sl22, RdS.idx (OS.rd hO) sl22, R1.intN (OS.rd hO), RdS.cells (OS.rd hO), wrap_id]
      refine hK _ _ ?_
      clear hK K
      refine den_ret ?_
      simp (disch := decide) only [resP_1, puts_same, puts_ne]
      rw [show a = u.length by omega] at hO
      exact ⟨_, _, rfl, hO, hfhO.mono (by omega), eB⟩

end Go.Proofs.Ytffggocjkhcgeaa
