/-
  Walks: TensorDims.
  Conditions: each theorem's own.
-/
import Derived.Test.YtffggocjkhcgeaaA4
set_option linter.unusedVariables false
set_option linter.unusedSimpArgs false
namespace Go.Proofs.Ytffggocjkhcgeaa
open Go
theorem dimP_neg {Y : Cx} {n : Int} (h : n < 0) : dimP Y n = 0 := dimP_out (by omega)
theorem dimP_big {Y : Cx} {n : Int} (h : (Y.dims.length : Int) ≤ n) : dimP Y n = 0 := dimP_out (by omega)
theorem sumP_ext {X Y : Cx} {s : Int} {k : Nat} : ∀ {m : Nat}, k ≤ m → (∀ i : Nat, k ≤ i → dimP X i * dimP Y (s - i) = 0) → sumP X Y s m = sumP X Y s k
  | 0, h, _ => by rw [show k = 0 by omega]
  | m + 1, h, hz => by
    by_cases e : k = m + 1
    · rw [e]
    · rw [sumP, sumP_ext (m := m) (by omega) hz, hz m (by omega), Int.add_zero]
def tkP (X Y : Cx) (N k : Nat) : List Int := (List.range N).map fun n : Nat => sumP X Y (n : Int) k
def tdP (X Y : Cx) : List Int := (List.range (X.dims.length + Y.dims.length - 1)).map fun n : Nat => sumP X Y (n : Int) (n + 1)
theorem tkP_len (X Y : Cx) (N k : Nat) : (tkP X Y N k).length = N := by simp [tkP]
theorem tkP_get (X Y : Cx) {N k n : Nat} (h : n < N) : (tkP X Y N k).getD n 0 = sumP X Y n k := by
  rw [tkP, List.getD_eq_getElem?_getD, List.getElem?_eq_getElem (by simpa using h)]; simp
theorem getD_ext {A B : List Int} (hl : A.length = B.length) (h : ∀ n, n < A.length → A.getD n 0 = B.getD n 0) : A = B := by
  apply List.ext_getElem hl
  intro n h1 h2
  have := h n h1
  rwa [List.getD_eq_getElem?_getD, List.getD_eq_getElem?_getD, List.getElem?_eq_getElem h1, List.getElem?_eq_getElem h2] at this
theorem mix_at (A B : List Int) (m n : Nat) (h : A.length = B.length) (hn : n < B.length) : (mix A B m).getD n 0 = if n < m then A.getD n 0 else B.getD n 0 := by
  simp only [mix, List.getD_eq_getElem?_getD]
  split
  · rename_i h1
    rw [List.getElem?_append_left (by rw [List.length_take]; omega), List.getElem?_take, if_pos h1]
  · rename_i h1
    rw [List.getElem?_append_right (by rw [List.length_take]; omega), List.length_take, List.getElem?_drop]
    congr 2
    omega
theorem tk_start (X Y : Cx) (N k : Nat) : mix (tkP X Y N (k + 1)) (tkP X Y N k) k = tkP X Y N k := by
  have hl : (tkP X Y N (k + 1)).length = (tkP X Y N k).length := by rw [tkP_len, tkP_len]
  refine getD_ext (by rw [mix_len _ _ _ hl]) (fun n hn => ?_)
  rw [mix_len _ _ _ hl, tkP_len] at hn
  rw [mix_at _ _ _ _ hl (by rw [tkP_len]; exact hn), tkP_get X Y hn, tkP_get X Y hn]
  split
  · rw [sumP, dimP_neg (Y := Y) (by omega), Int.mul_zero, Int.add_zero]
  · rfl
theorem tk_end (X Y : Cx) (N k m : Nat) (hm : Y.dims.length ≤ m) : mix (tkP X Y N (k + 1)) (tkP X Y N k) (k + m) = tkP X Y N (k + 1) := by
  have hl : (tkP X Y N (k + 1)).length = (tkP X Y N k).length := by rw [tkP_len, tkP_len]
  refine getD_ext (by rw [mix_len _ _ _ hl, tkP_len, tkP_len]) (fun n hn => ?_)
  rw [mix_len _ _ _ hl, tkP_len] at hn
  rw [mix_at _ _ _ _ hl (by rw [tkP_len]; exact hn), tkP_get X Y hn, tkP_get X Y hn]
  split
  · rfl
  · rw [sumP, dimP_big (Y := Y) (by omega), Int.mul_zero, Int.add_zero]
theorem tk_step (X Y : Cx) (N k m : Nat) (h : k + m < N) : (mix (tkP X Y N (k + 1)) (tkP X Y N k) (k + m)).set (k + m) ((mix (tkP X Y N (k + 1)) (tkP X Y N k) (k + m)).getD (k + m) 0 + dimP X k * dimP Y m) = mix (tkP X Y N (k + 1)) (tkP X Y N k) (k + m + 1) := by
  have hl : (tkP X Y N (k + 1)).length = (tkP X Y N k).length := by rw [tkP_len, tkP_len]
  have hv : (mix (tkP X Y N (k + 1)) (tkP X Y N k) (k + m)).getD (k + m) 0 + dimP X k * dimP Y m = (tkP X Y N (k + 1)).getD (k + m) 0 := by
    rw [mix_at _ _ _ _ hl (by rw [tkP_len]; exact h), if_neg (by omega), tkP_get X Y h, tkP_get X Y h, sumP, show (((k + m : Nat) : Int) - (k : Int)) = m by omega]
  rw [hv, mix_set _ _ _ _ hl (by rw [tkP_len]; exact h)]
theorem tk_all {X Y : Cx} (hX : 1 ≤ X.dims.length) : tkP X Y (X.dims.length + Y.dims.length - 1) X.dims.length = tdP X Y := by
  apply List.map_congr_left
  intro n hn
  rw [List.mem_range] at hn
  by_cases h : n + 1 ≤ X.dims.length
  · exact sumP_ext h (fun i hi => by rw [dimP_neg (Y := Y) (by omega), Int.mul_zero])
  · exact (sumP_ext (by omega) (fun i hi => by rw [dimP_big (Y := X) (by omega), Int.zero_mul])).symm
theorem tk_zero (X Y : Cx) (N : Nat) : tkP X Y N 0 = List.replicate N 0 := by
  refine getD_ext (by simp [tkP]) (fun n hn => ?_)
  rw [tkP_len] at hn
  rw [tkP_get X Y hn, List.getD_eq_getElem?_getD, List.getElem?_eq_getElem (by simpa using hn)]
  simp [sumP]
noncomputable def tenP (X Y : Cx) : List Int × Int := if twoP X Y = 0 then (tdP X Y, 0) else ([], twoP X Y)
theorem cnt_ten (X Y : Cx) : 0 ≤ cnt1 (tenP X Y).1 ∧ cnt1 (tenP X Y).1 ≤ 11 := by
  unfold tenP
  split
  · rename_i hc
    obtain ⟨hX, hY, _⟩ := twoP_0 hc
    have := hX.len; have := hY.len
    simp only [cnt1, tdP, List.length_map, List.length_range]
    omega
  · exact ⟨Int.le_refl _, by show (0 : Int) ≤ _; decide⟩

set_option maxRecDepth 100000 in
theorem sDims_ok (vX vY : Value) (X : Cx) (Y : Cx) (h : Heap) (rX : RC h vX X) (rY : RC h vY Y) (hX : IsC X) (hY : IsC Y) : CallA Try.prog 99 #[vX, vY] h fun v' h' => ∃ w0 f0, v' = w0 ∧ O1 h' w0 (tdP X Y) f0 ∧ Fresh h.size f0 ∧ Ext h h' := by
  obtain ⟨vdX, vmX, rfl, hdX, hmX⟩ := rX
  have hledX := RdS.le hdX
  have hlemX := RdS.le hmX
  obtain ⟨vdY, vmY, rfl, hdY, hmY⟩ := rY
  have hledY := RdS.le hdY
  have hlemY := RdS.le hmY
  have hlX := hX.len
  have hlY := hY.len
  refine callA_intro TTok (args := [_, _]) Try.func99 (by kernel_rfl) rfl 43 rfl (by simp) [.tmp 4] rfl ?_
  simp only [idxs, Nat.reduceAdd]
  refine den_seq ?_
  refine den_region TTok ?_
  intro K hK
  simp -implicitDefEqProofs (disch := first | decide | assumption | omega) only [go_sem, RdS.len hdX sl22, RdS.idx hdX sl22, R1.intB hdX (HPres.refl _), RdS.cells hdX, RdS.len hmX sl23, RdS.idx hmX sl23, RdS.cellB hmX (HPres.refl _), RdS.cells hmX, RdS.len hdY sl22, RdS.idx hdY sl22, R1.intB hdY (HPres.refl _), RdS.cells hdY, RdS.len hmY sl23, RdS.idx hmY sl23, RdS.cellB hmY (HPres.refl _), RdS.cells hmY, wrap_id]
  refine op_box (cs := #[.int .i64 (X.p), vdX, vmX]) rfl ?_
  intro h0_0 e0_0 hb0_0 z0_0
  have := Ext.size e0_0
  have eB := e0_0
  have hfhb0_0 : Fresh h.size [h.size] := Fresh.one _
  have hlhb0_0 := one_lt (show h.size < h0_0.size by omega)
  try simp -implicitDefEqProofs (disch := first | decide | assumption | omega) only [go_sem, RdS.len hdX sl22, RdS.idx hdX sl22, R1.intB hdX (Ext.pres eB), RdS.cells hdX, RdS.len hmX sl23, RdS.idx hmX sl23, RdS.cellB hmX (Ext.pres eB), RdS.cells hmX, RdS.len hdY sl22, RdS.idx hdY sl22, R1.intB hdY (Ext.pres eB), RdS.cells hdY, RdS.len hmY sl23, RdS.idx hmY sl23, RdS.cellB hmY (Ext.pres eB), RdS.cells hmY, BoxAt.cell hb0_0, wrap_id]
  refine op_box (cs := #[.int .i64 (Y.p), vdY, vmY]) rfl ?_
  intro h0_1 e0_1 hb0_1 z0_1
  replace hb0_0 := BoxAt.ext hb0_0 e0_1
  have := Ext.size e0_1
  replace eB := Ext.trans eB e0_1
  have hfhb0_1 : Fresh h0_0.size [h0_0.size] := Fresh.one _
  have hlhb0_1 := one_lt (show h0_0.size < h0_1.size by omega)
  try simp -implicitDefEqProofs (disch := first | decide | assumption | omega) only [go_sem, RdS.len hdX sl22, RdS.idx hdX sl22, R1.intB hdX (Ext.pres eB), RdS.cells hdX, RdS.len hmX sl23, RdS.idx hmX sl23, RdS.cellB hmX (Ext.pres eB), RdS.cells hmX, RdS.len hdY sl22, RdS.idx hdY sl22, R1.intB hdY (Ext.pres eB), RdS.cells hdY, RdS.len hmY sl23, RdS.idx hmY sl23, RdS.cellB hmY (Ext.pres eB), RdS.cells hmY, BoxAt.cell hb0_0, BoxAt.cell hb0_1, wrap_id]
  refine hK _ _ ?_
  clear hK K
  refine den_seq ?_
  refine den_region TTok ?_
  intro K hK
  simp -implicitDefEqProofs (disch := first | decide | assumption | omega) only [go_sem, RdS.len hdX sl22, RdS.idx hdX sl22, R1.intB hdX (Ext.pres eB), RdS.cells hdX, RdS.len hmX sl23, RdS.idx hmX sl23, RdS.cellB hmX (Ext.pres eB), RdS.cells hmX, RdS.len hdY sl22, RdS.idx hdY sl22, R1.intB hdY (Ext.pres eB), RdS.cells hdY, RdS.len hmY sl23, RdS.idx hmY sl23, RdS.cellB hmY (Ext.pres eB), RdS.cells hmY, BoxAt.cell hb0_0, BoxAt.cell hb0_1, wrap_id]
  refine op_bs0 sz22 OI ?_
  intro v1_0 h1_0 ho1_0 e1_0
  replace hb0_0 := BoxAt.ext hb0_0 e1_0
  replace hb0_1 := BoxAt.ext hb0_1 e1_0
  have := Ext.size e1_0
  replace eB := Ext.trans eB e1_0
  have hfho1_0 : Fresh h0_1.size [h0_1.size] := Fresh.one _
  have hlho1_0 := OS.lt ho1_0
  try simp -implicitDefEqProofs (disch := first | decide | assumption | omega) only [go_sem, RdS.len hdX sl22, RdS.idx hdX sl22, R1.intB hdX (Ext.pres eB), RdS.cells hdX, RdS.len hmX sl23, RdS.idx hmX sl23, RdS.cellB hmX (Ext.pres eB), RdS.cells hmX, RdS.len hdY sl22, RdS.idx hdY sl22, R1.intB hdY (Ext.pres eB), RdS.cells hdY, RdS.len hmY sl23, RdS.idx hmY sl23, RdS.cellB hmY (Ext.pres eB), RdS.cells hmY, RdS.len (OS.rd ho1_0) sl22, RdS.idx (OS.rd ho1_0) sl22, R1.intN (OS.rd ho1_0), RdS.cells (OS.rd ho1_0), BoxAt.cell hb0_0, BoxAt.cell hb0_1, wrap_id]
  refine hK _ _ ?_
  clear hK K
  refine den_seq ?_
  refine den_seq ?_
  refine den_region TTok ?_
  intro K hK
  simp -implicitDefEqProofs (disch := first | decide | assumption | omega) only [go_sem, RdS.len hdX sl22, RdS.idx hdX sl22, R1.intB hdX (Ext.pres eB), RdS.cells hdX, RdS.len hmX sl23, RdS.idx hmX sl23, RdS.cellB hmX (Ext.pres eB), RdS.cells hmX, RdS.len hdY sl22, RdS.idx hdY sl22, R1.intB hdY (Ext.pres eB), RdS.cells hdY, RdS.len hmY sl23, RdS.idx hmY sl23, RdS.cellB hmY (Ext.pres eB), RdS.cells hmY, RdS.len (OS.rd ho1_0) sl22, RdS.idx (OS.rd ho1_0) sl22, R1.intN (OS.rd ho1_0), RdS.cells (OS.rd ho1_0), BoxAt.cell hb0_0, BoxAt.cell hb0_1, wrap_id]
  refine hK _ _ ?_
  clear hK K
  refine den_block ?_
  refine den_sel [5, 6, 2, 3] ?_
  intro env_1
  simp only [go_sem]
  refine den_loopS (σ := Nat × Value × List Nat) (fun st_ => [(5, st_.2.1), (6, .int .i64 (st_.1 : Int))]) (fun st_ H => (st_.1 : Int) ≤ (X.dims.length : Int) + Y.dims.length - 1 ∧ O1 H st_.2.1 ((List.range st_.1).map fun q : Nat => sumP X Y (q : Int) (q + 1)) st_.2.2 ∧ Fresh (h0_1.size) st_.2.2 ∧ Sub [h0_1.size] h1_0.size st_.2.2 ∧ Chg [h0_1.size] h1_0 H) (fun st_ => X.dims.length + Y.dims.length - st_.1) (0, v1_0, [h0_1.size]) ?_ ?_
  · exact ⟨by first | (simp; done) | (dsimp only; omega) | (simp; omega), by simpa using ho1_0, hfho1_0, Sub.refl, Chg.refl _ _⟩
  · rintro ⟨n, vhO, fphO⟩ h4 ee3 ⟨hi0, hO, hfhO, sbhO, cL2⟩
    dsimp only at hi0 hO hfhO sbhO cL2
    replace hb0_0 := BoxAt.chgA hb0_0 cL2 (apart_lt hlhb0_0 hfho1_0 (by omega))
    replace hb0_1 := BoxAt.chgA hb0_1 cL2 (apart_lt hlhb0_1 hfho1_0 (by omega))
    have := cL2.size
    replace eB := Ext.then eB cL2 (ge_of hfho1_0 (by omega))
    have hlhO := OS.lt hO
    simp only [List.cons_append, List.nil_append]
    refine den_seq ?_
    refine den_seq ?_
    refine den_region TTok ?_
    intro K hK
    simp -implicitDefEqProofs (disch := first | decide | assumption | omega) only [go_sem, fa30_1, ld22, RdS.len hdX sl22, RdS.idx hdX sl22, R1.intB hdX (Ext.pres eB), RdS.cells hdX, RdS.len hmX sl23, RdS.idx hmX sl23, RdS.cellB hmX (Ext.pres eB), RdS.cells hmX, RdS.len hdY sl22, RdS.idx hdY sl22, R1.intB hdY (Ext.pres eB), RdS.cells hdY, RdS.len hmY sl23, RdS.idx hmY sl23, RdS.cellB hmY (Ext.pres eB), RdS.cells hmY, RdS.len (OS.rd hO) sl22, RdS.idx (OS.rd hO) sl22, R1.intN (OS.rd hO), RdS.cells (OS.rd hO), BoxAt.cell hb0_0, BoxAt.cell hb0_1, wrap_id]
    refine hK _ _ ?_
    clear hK K
    refine den_cond rfl (fun c0 => ?_) (fun c0 => ?_)
    · try simp only [decide_eq_true_eq, decide_eq_false_iff_not, beq_iff_eq, beq_eq_false_iff_ne, bne_iff_ne, ne_eq, Bool.not_eq_true', Bool.not_eq_false', Bool.and_eq_true, Bool.or_eq_true, bne_eq_false_iff_eq] at c0
      refine den_skip ?_
      refine den_seq ?_
      refine den_block ?_
      refine den_seq ?_
      refine den_region TTok ?_
      intro K hK
      simp -implicitDefEqProofs (disch := first | decide | assumption | omega) only [go_sem, RdS.len hdX sl22, RdS.idx hdX sl22, R1.intB hdX (Ext.pres eB), RdS.cells hdX, RdS.len hmX sl23, RdS.idx hmX sl23, RdS.cellB hmX (Ext.pres eB), RdS.cells hmX, RdS.len hdY sl22, RdS.idx hdY sl22, R1.intB hdY (Ext.pres eB), RdS.cells hdY, RdS.len hmY sl23, RdS.idx hmY sl23, RdS.cellB hmY (Ext.pres eB), RdS.cells hmY, RdS.len (OS.rd hO) sl22, RdS.idx (OS.rd hO) sl22, R1.intN (OS.rd hO), RdS.cells (OS.rd hO), BoxAt.cell hb0_0, BoxAt.cell hb0_1, wrap_id]
      refine hK _ _ ?_
      clear hK K
      refine den_seq ?_
      refine den_seq ?_
      refine den_region TTok ?_
      intro K hK
      simp -implicitDefEqProofs (disch := first | decide | assumption | omega) only [go_sem, RdS.len hdX sl22, RdS.idx hdX sl22, R1.intB hdX (Ext.pres eB), RdS.cells hdX, RdS.len hmX sl23, RdS.idx hmX sl23, RdS.cellB hmX (Ext.pres eB), RdS.cells hmX, RdS.len hdY sl22, RdS.idx hdY sl22, R1.intB hdY (Ext.pres eB), RdS.cells hdY, RdS.len hmY sl23, RdS.idx hmY sl23, RdS.cellB hmY (Ext.pres eB), RdS.cells hmY, RdS.len (OS.rd hO) sl22, RdS.idx (OS.rd hO) sl22, R1.intN (OS.rd hO), RdS.cells (OS.rd hO), BoxAt.cell hb0_0, BoxAt.cell hb0_1, wrap_id]
      refine hK _ _ ?_
      clear hK K
      refine den_block ?_
      refine den_sel [7, 8, 2, 3, 5, 6] ?_
      intro env_5
      simp only [go_sem]
      refine den_loopS (σ := Nat × Int) (fun st_ => [(7, .int .i64 st_.2), (8, .int .i64 (st_.1 : Int))]) (fun st_ H => (st_.1 : Int) ≤ (n : Int) + 1 ∧ st_.2 = sumP X Y (n : Int) st_.1 ∧ Ext h4 H) (fun st_ => n + 1 - st_.1) (0, 0) ?_ ?_
      · exact ⟨by dsimp only; omega, by simp [sumP], Ext.refl _⟩
      · rintro ⟨m, acc⟩ h8 ee7 ⟨hm2, hacc, cL6⟩
        dsimp only at hm2 hacc cL6
        replace hO := OS.ext hO cL6
        replace hb0_0 := BoxAt.ext hb0_0 cL6
        replace hb0_1 := BoxAt.ext hb0_1 cL6
        have := Ext.size cL6
        replace eB := Ext.trans eB cL6
        replace cL2 := Chg.stepE cL2 cL6
        simp only [List.cons_append, List.nil_append]
        refine den_seq ?_
        refine den_seq ?_
        have hlt : ((List.range n).map fun q : Nat => sumP X Y (q : Int) (q + 1)).length = n := by simp
        refine den_region TTok ?_
        intro K hK
        simp -implicitDefEqProofs (disch := first | decide | assumption | omega) only [go_sem, RdS.len hdX sl22, RdS.idx hdX sl22, R1.intB hdX (Ext.pres eB), RdS.cells hdX, RdS.len hmX sl23, RdS.idx hmX sl23, RdS.cellB hmX (Ext.pres eB), RdS.cells hmX, RdS.len hdY sl22, RdS.idx hdY sl22, R1.intB hdY (Ext.pres eB), RdS.cells hdY, RdS.len hmY sl23, RdS.idx hmY sl23, RdS.cellB hmY (Ext.pres eB), RdS.cells hmY, RdS.len (OS.rd hO) sl22, RdS.idx (OS.rd hO) sl22, R1.intN (OS.rd hO), RdS.cells (OS.rd hO), BoxAt.cell hb0_0, BoxAt.cell hb0_1, wrap_id]
        refine hK _ _ ?_
        clear hK K
        refine den_cond rfl (fun c1 => ?_) (fun c1 => ?_)
        · try simp only [decide_eq_true_eq, decide_eq_false_iff_not, beq_iff_eq, beq_eq_false_iff_ne, bne_iff_ne, ne_eq, Bool.not_eq_true', Bool.not_eq_false', Bool.and_eq_true, Bool.or_eq_true, bne_eq_false_iff_eq] at c1
          refine den_skip ?_
          refine den_seq ?_
          refine den_block ?_
          have hs := sumP_bnd hX hY (n : Int) m
          have hm1 := mul64 (dimP_bnd hX m) (dimP_bnd hY ((n : Int) - m))
          refine den_draw TTok mixed [] [(0, true), (1, true), (2, true), (4, true), (5, true), (6, true), (7, true), (3, false), (8, false), (9, true), (10, true), (11, true)] (by kernel_rfl) ?_
          intro K hK
          simp -implicitDefEqProofs (disch := first | decide | assumption | omega) only [go_sem, ld30, RdS.len hdX sl22, RdS.idx hdX sl22, R1.intB hdX (Ext.pres eB), RdS.cells hdX, RdS.len hmX sl23, RdS.idx hmX sl23, RdS.cellB hmX (Ext.pres eB), RdS.cells hmX, RdS.len hdY sl22, RdS.idx hdY sl22, R1.intB hdY (Ext.pres eB), RdS.cells hdY, RdS.len hmY sl23, RdS.idx hmY sl23, RdS.cellB hmY (Ext.pres eB), RdS.cells hmY, RdS.len (OS.rd hO) sl22, RdS.idx (OS.rd hO) sl22, R1.intN (OS.rd hO), RdS.cells (OS.rd hO), BoxAt.cell hb0_0, BoxAt.cell hb0_1, wrap_id]
          try simp -implicitDefEqProofs (disch := first | decide | assumption | omega) only [go_sem, RdS.len hdX sl22, RdS.idx hdX sl22, R1.intB hdX (Ext.pres eB), RdS.cells hdX, RdS.len hmX sl23, RdS.idx hmX sl23, RdS.cellB hmX (Ext.pres eB), RdS.cells hmX, RdS.len hdY sl22, RdS.idx hdY sl22, R1.intB hdY (Ext.pres eB), RdS.cells hdY, RdS.len hmY sl23, RdS.idx hmY sl23, RdS.cellB hmY (Ext.pres eB), RdS.cells hmY, RdS.len (OS.rd hO) sl22, RdS.idx (OS.rd hO) sl22, R1.intN (OS.rd hO), RdS.cells (OS.rd hO), BoxAt.cell hb0_0, BoxAt.cell hb0_1, wrap_id]
          refine CallA.mono (sDim_ok _ X _ _ ⟨_, _, rfl, (RdS.pres hdX (Ext.pres eB)), (RdS.pres hmX (Ext.pres eB))⟩) ?_
          intro v_ h9_3
          rintro ⟨rfl, e9_3⟩
          replace hO := OS.ext hO e9_3
          replace hb0_0 := BoxAt.ext hb0_0 e9_3
          replace hb0_1 := BoxAt.ext hb0_1 e9_3
          have := Ext.size e9_3
          replace eB := Ext.trans eB e9_3
          replace cL2 := Chg.stepE cL2 e9_3
          replace cL6 := Ext.trans cL6 e9_3
          try simp (disch := decide) only [outv_some, outv_none, put_puts]
          refine plK_pres (Ext.pres e9_3) ?_
          try simp -implicitDefEqProofs (disch := first | decide | assumption | omega) only [go_sem, RdS.len hdX sl22, RdS.idx hdX sl22, R1.intB hdX (Ext.pres eB), RdS.cells hdX, RdS.len hmX sl23, RdS.idx hmX sl23, RdS.cellB hmX (Ext.pres eB), RdS.cells hmX, RdS.len hdY sl22, RdS.idx hdY sl22, R1.intB hdY (Ext.pres eB), RdS.cells hdY, RdS.len hmY sl23, RdS.idx hmY sl23, RdS.cellB hmY (Ext.pres eB), RdS.cells hmY, RdS.len (OS.rd hO) sl22, RdS.idx (OS.rd hO) sl22, R1.intN (OS.rd hO), RdS.cells (OS.rd hO), BoxAt.cell hb0_0, BoxAt.cell hb0_1, wrap_id]
          try simp -implicitDefEqProofs (disch := first | decide | assumption | omega) only [go_sem, RdS.len hdX sl22, RdS.idx hdX sl22, R1.intB hdX (Ext.pres eB), RdS.cells hdX, RdS.len hmX sl23, RdS.idx hmX sl23, RdS.cellB hmX (Ext.pres eB), RdS.cells hmX, RdS.len hdY sl22, RdS.idx hdY sl22, R1.intB hdY (Ext.pres eB), RdS.cells hdY, RdS.len hmY sl23, RdS.idx hmY sl23, RdS.cellB hmY (Ext.pres eB), RdS.cells hmY, RdS.len (OS.rd hO) sl22, RdS.idx (OS.rd hO) sl22, R1.intN (OS.rd hO), RdS.cells (OS.rd hO), BoxAt.cell hb0_0, BoxAt.cell hb0_1, wrap_id]
          refine CallA.mono (sDim_ok _ Y _ _ ⟨_, _, rfl, (RdS.pres hdY (Ext.pres eB)), (RdS.pres hmY (Ext.pres eB))⟩) ?_
          intro v_ h9_8
          rintro ⟨rfl, e9_8⟩
          replace hO := OS.ext hO e9_8
          replace hb0_0 := BoxAt.ext hb0_0 e9_8
          replace hb0_1 := BoxAt.ext hb0_1 e9_8
          have := Ext.size e9_8
          replace eB := Ext.trans eB e9_8
          replace cL2 := Chg.stepE cL2 e9_8
          replace cL6 := Ext.trans cL6 e9_8
          try simp (disch := decide) only [outv_some, outv_none, put_puts]
          refine plK_pres (Ext.pres e9_8) ?_
          try simp -implicitDefEqProofs (disch := first | decide | assumption | omega) only [go_sem, RdS.len hdX sl22, RdS.idx hdX sl22, R1.intB hdX (Ext.pres eB), RdS.cells hdX, RdS.len hmX sl23, RdS.idx hmX sl23, RdS.cellB hmX (Ext.pres eB), RdS.cells hmX, RdS.len hdY sl22, RdS.idx hdY sl22, R1.intB hdY (Ext.pres eB), RdS.cells hdY, RdS.len hmY sl23, RdS.idx hmY sl23, RdS.cellB hmY (Ext.pres eB), RdS.cells hmY, RdS.len (OS.rd hO) sl22, RdS.idx (OS.rd hO) sl22, R1.intN (OS.rd hO), RdS.cells (OS.rd hO), BoxAt.cell hb0_0, BoxAt.cell hb0_1, wrap_id]
          refine hK _ _ ?_
          clear hK K
          refine den_blk ?_
          refine den_region TTok ?_
          intro K hK
          simp -implicitDefEqProofs (disch := first | decide | assumption | omega) only [go_sem, RdS.len hdX sl22, RdS.idx hdX sl22, R1.intB hdX (Ext.pres eB), RdS.cells hdX, RdS.len hmX sl23, RdS.idx hmX sl23, RdS.cellB hmX (Ext.pres eB), RdS.cells hmX, RdS.len hdY sl22, RdS.idx hdY sl22, R1.intB hdY (Ext.pres eB), RdS.cells hdY, RdS.len hmY sl23, RdS.idx hmY sl23, RdS.cellB hmY (Ext.pres eB), RdS.cells hmY, RdS.len (OS.rd hO) sl22, RdS.idx (OS.rd hO) sl22, R1.intN (OS.rd hO), RdS.cells (OS.rd hO), BoxAt.cell hb0_0, BoxAt.cell hb0_1, wrap_id]
          refine hK _ _ ?_
          clear hK K
          refine den_stop ?_
          exact ⟨(m + 1, acc + dimP X m * dimP Y ((n : Int) - m)), by simp [HasL, puts_at], ⟨by dsimp only; omega, by dsimp only; rw [sumP, hacc], cL6⟩, by first | omega | (dsimp only; omega)⟩
        · try simp only [decide_eq_true_eq, decide_eq_false_iff_not, beq_iff_eq, beq_eq_false_iff_ne, bne_iff_ne, ne_eq, Bool.not_eq_true', Bool.not_eq_false', Bool.and_eq_true, Bool.or_eq_true, bne_eq_false_iff_eq] at c1
          refine den_exit ?_
          refine denX_code ?_
          refine denX_stop ?_
          refine denX_hit ?_
          refine den_region TTok ?_
          intro K hK
          simp -implicitDefEqProofs (disch := first | decide | assumption | omega) only [go_sem, RdS.len hdX sl22, RdS.idx hdX sl22, R1.intB hdX (Ext.pres eB), RdS.cells hdX, RdS.len hmX sl23, RdS.idx hmX sl23, RdS.cellB hmX (Ext.pres eB), RdS.cells hmX, RdS.len hdY sl22, RdS.idx hdY sl22, R1.intB hdY (Ext.pres eB), RdS.cells hdY, RdS.len hmY sl23, RdS.idx hmY sl23, RdS.cellB hmY (Ext.pres eB), RdS.cells hmY, RdS.len (OS.rd hO) sl22, RdS.idx (OS.rd hO) sl22, R1.intN (OS.rd hO), RdS.cells (OS.rd hO), BoxAt.cell hb0_0, BoxAt.cell hb0_1, wrap_id]
          refine op_bs1 sz22 rfl rfl ?_
          try simp -implicitDefEqProofs (disch := first | decide | assumption | omega) only [go_sem, RdS.len hdX sl22, RdS.idx hdX sl22, R1.intB hdX (Ext.pres eB), RdS.cells hdX, RdS.len hmX sl23, RdS.idx hmX sl23, RdS.cellB hmX (Ext.pres eB), RdS.cells hmX, RdS.len hdY sl22, RdS.idx hdY sl22, R1.intB hdY (Ext.pres eB), RdS.cells hdY, RdS.len hmY sl23, RdS.idx hmY sl23, RdS.cellB hmY (Ext.pres eB), RdS.cells hmY, RdS.len (OS.rd hO) sl22, RdS.idx (OS.rd hO) sl22, R1.intN (OS.rd hO), RdS.cells (OS.rd hO), BoxAt.cell hb0_0, BoxAt.cell hb0_1, wrap_id]
          refine op_append1 sz22 hO hfhO.nodup ⟨rfl, rfl⟩ List.nodup_nil (Apart.nil _) (by first | omega | (simp; omega)) rfl rfl ?_
          intro v10_3 h10_3 fp10_3 ho10_3 hn10_3 hs10_3 c10_3
          have hsz10_3 := c10_3.size
          have hfho10_3 : Fresh h0_1.size fp10_3 := Fresh.appd hfhO (Fresh.nil h8.size) (by omega) (by omega) hn10_3 hs10_3
          have sb9 : Sub [h0_1.size] h1_0.size fp10_3 := Sub.grow sbhO Sub.nil (by omega) hs10_3
          replace hb0_0 := BoxAt.chgA hb0_0 c10_3 (apart_lt hlhb0_0 hfhO (by omega))
          replace hb0_1 := BoxAt.chgA hb0_1 c10_3 (apart_lt hlhb0_1 hfhO (by omega))
          have := c10_3.size
          replace eB := Ext.then eB c10_3 (ge_of hfhO (by omega))
          replace cL2 := Chg.step cL2 c10_3 sbhO
          have hlho10_3 := OS.lt ho10_3
          try simp -implicitDefEqProofs (disch := first | decide | assumption | omega) only [go_sem, RdS.len hdX sl22, RdS.idx hdX sl22, R1.intB hdX (Ext.pres eB), RdS.cells hdX, RdS.len hmX sl23, RdS.idx hmX sl23, RdS.cellB hmX (Ext.pres eB), RdS.cells hmX, RdS.len hdY sl22, RdS.idx hdY sl22, R1.intB hdY (Ext.pres eB), RdS.cells hdY, RdS.len hmY sl23, RdS.idx hmY sl23, RdS.cellB hmY (Ext.pres eB), RdS.cells hmY, RdS.len (OS.rd ho10_3) sl22, RdS.idx (OS.rd ho10_3) sl22, R1.intN (OS.rd ho10_3), RdS.cells (OS.rd ho10_3), BoxAt.cell hb0_0, BoxAt.cell hb0_1, wrap_id]
          refine hK _ _ ?_
          clear hK K
          refine den_blk ?_
          refine den_region TTok ?_
          intro K hK
          simp -implicitDefEqProofs (disch := first | decide | assumption | omega) only [go_sem, RdS.len hdX sl22, RdS.idx hdX sl22, R1.intB hdX (Ext.pres eB), RdS.cells hdX, RdS.len hmX sl23, RdS.idx hmX sl23, RdS.cellB hmX (Ext.pres eB), RdS.cells hmX, RdS.len hdY sl22, RdS.idx hdY sl22, R1.intB hdY (Ext.pres eB), RdS.cells hdY, RdS.len hmY sl23, RdS.idx hmY sl23, RdS.cellB hmY (Ext.pres eB), RdS.cells hmY, RdS.len (OS.rd ho10_3) sl22, RdS.idx (OS.rd ho10_3) sl22, R1.intN (OS.rd ho10_3), RdS.cells (OS.rd ho10_3), BoxAt.cell hb0_0, BoxAt.cell hb0_1, wrap_id]
          refine hK _ _ ?_
          clear hK K
          refine den_stop ?_
          rw [hacc, show m = n + 1 by omega, range_step (fun q : Nat => sumP X Y (q : Int) (q + 1))] at ho10_3
          exact ⟨(n + 1, v10_3, fp10_3), by simp [HasL, puts_at], ⟨by first | omega | (dsimp only; omega), ho10_3, hfho10_3, sb9, cL2⟩, by first | omega | (dsimp only; omega)⟩
    · try simp only [decide_eq_true_eq, decide_eq_false_iff_not, beq_iff_eq, beq_eq_false_iff_ne, bne_iff_ne, ne_eq, Bool.not_eq_true', Bool.not_eq_false', Bool.and_eq_true, Bool.or_eq_true, bne_eq_false_iff_eq] at c0
      refine den_exit ?_
      refine denX_code ?_
      refine denX_stop ?_
      refine denX_hit ?_
      refine den_seq ?_
      refine den_region TTok ?_
      intro K hK
      simp -implicitDefEqProofs (disch := first | decide | assumption | omega) only [go_sem, RdS.len hdX sl22, RdS.idx hdX sl22, R1.intB hdX (Ext.pres eB), RdS.cells hdX, RdS.len hmX sl23, RdS.idx hmX sl23, RdS.cellB hmX (Ext.pres eB), RdS.cells hmX, RdS.len hdY sl22, RdS.idx hdY sl22, R1.intB hdY (Ext.pres eB), RdS.cells hdY, RdS.len hmY sl23, RdS.idx hmY sl23, RdS.cellB hmY (Ext.pres eB), RdS.cells hmY, RdS.len (OS.rd hO) sl22, RdS.idx (OS.rd hO) sl22, R1.intN (OS.rd hO), RdS.cells (OS.rd hO), wrap_id]
      refine hK _ _ ?_
      clear hK K
      refine den_ret ?_
      simp (disch := decide) only [resP_1, puts_same, puts_ne]
      have e : tdP X Y = (List.range n).map fun q : Nat => sumP X Y (q : Int) (q + 1) := by rw [tdP, show X.dims.length + Y.dims.length - 1 = n by omega]
      rw [e]
      exact ⟨_, _, rfl, hO, hfhO.mono (by omega), eB⟩

set_option maxRecDepth 100000 in
theorem iDims_ok (vX vY : Value) (X : Cx) (Y : Cx) (h : Heap) (rX : RC h vX X) (rY : RC h vY Y) (hX : IsC X) (hY : IsC Y) : CallA Try.prog 147 #[vX, vY] h fun v' h' => ∃ w0 f0, v' = w0 ∧ O1 h' w0 (tdP X Y) f0 ∧ Fresh h.size f0 ∧ Ext h h' := by
  obtain ⟨vdX, vmX, rfl, hdX, hmX⟩ := rX
  have hledX := RdS.le hdX
  have hlemX := RdS.le hmX
  obtain ⟨vdY, vmY, rfl, hdY, hmY⟩ := rY
  have hledY := RdS.le hdY
  have hlemY := RdS.le hmY
  have hlX := hX.len
  have hlY := hY.len
  refine callA_intro TTok (args := [_, _]) Try.func147 (by kernel_rfl) rfl 47 rfl (by simp) [.tmp 4] rfl ?_
  simp only [idxs, Nat.reduceAdd]
  refine den_seq ?_
  refine den_region TTok ?_
  intro K hK
  simp -implicitDefEqProofs (disch := first | decide | assumption | omega) only [go_sem, RdS.len hdX sl22, RdS.idx hdX sl22, R1.intB hdX (HPres.refl _), RdS.cells hdX, RdS.len hmX sl23, RdS.idx hmX sl23, RdS.cellB hmX (HPres.refl _), RdS.cells hmX, RdS.len hdY sl22, RdS.idx hdY sl22, R1.intB hdY (HPres.refl _), RdS.cells hdY, RdS.len hmY sl23, RdS.idx hmY sl23, RdS.cellB hmY (HPres.refl _), RdS.cells hmY, wrap_id, Int.add_sub_cancel]
  refine op_box (cs := #[.int .i64 (X.p), vdX, vmX]) rfl ?_
  intro h0_0 e0_0 hb0_0 z0_0
  have := Ext.size e0_0
  have eB := e0_0
  have hfhb0_0 : Fresh h.size [h.size] := Fresh.one _
  have hlhb0_0 := one_lt (show h.size < h0_0.size by omega)
  try simp -implicitDefEqProofs (disch := first | decide | assumption | omega) only [go_sem, RdS.len hdX sl22, RdS.idx hdX sl22, R1.intB hdX (Ext.pres eB), RdS.cells hdX, RdS.len hmX sl23, RdS.idx hmX sl23, RdS.cellB hmX (Ext.pres eB), RdS.cells hmX, RdS.len hdY sl22, RdS.idx hdY sl22, R1.intB hdY (Ext.pres eB), RdS.cells hdY, RdS.len hmY sl23, RdS.idx hmY sl23, RdS.cellB hmY (Ext.pres eB), RdS.cells hmY, BoxAt.cell hb0_0, wrap_id, Int.add_sub_cancel]
  refine op_box (cs := #[.int .i64 (Y.p), vdY, vmY]) rfl ?_
  intro h0_1 e0_1 hb0_1 z0_1
  replace hb0_0 := BoxAt.ext hb0_0 e0_1
  have := Ext.size e0_1
  replace eB := Ext.trans eB e0_1
  have hfhb0_1 : Fresh h0_0.size [h0_0.size] := Fresh.one _
  have hlhb0_1 := one_lt (show h0_0.size < h0_1.size by omega)
  try simp -implicitDefEqProofs (disch := first | decide | assumption | omega) only [go_sem, RdS.len hdX sl22, RdS.idx hdX sl22, R1.intB hdX (Ext.pres eB), RdS.cells hdX, RdS.len hmX sl23, RdS.idx hmX sl23, RdS.cellB hmX (Ext.pres eB), RdS.cells hmX, RdS.len hdY sl22, RdS.idx hdY sl22, R1.intB hdY (Ext.pres eB), RdS.cells hdY, RdS.len hmY sl23, RdS.idx hmY sl23, RdS.cellB hmY (Ext.pres eB), RdS.cells hmY, BoxAt.cell hb0_0, BoxAt.cell hb0_1, wrap_id, Int.add_sub_cancel]
  refine hK _ _ ?_
  clear hK K
  refine den_seq ?_
  refine den_draw TTok mixed [] [(0, true), (2, true), (1, false), (3, false), (4, true), (5, true), (6, false), (7, true)] (by kernel_rfl) ?_
  intro K hK
  simp -implicitDefEqProofs (disch := first | decide | assumption | omega) only [go_sem, ld30, RdS.len hdX sl22, RdS.idx hdX sl22, R1.intB hdX (Ext.pres eB), RdS.cells hdX, RdS.len hmX sl23, RdS.idx hmX sl23, RdS.cellB hmX (Ext.pres eB), RdS.cells hmX, RdS.len hdY sl22, RdS.idx hdY sl22, R1.intB hdY (Ext.pres eB), RdS.cells hdY, RdS.len hmY sl23, RdS.idx hmY sl23, RdS.cellB hmY (Ext.pres eB), RdS.cells hmY, BoxAt.cell hb0_0, BoxAt.cell hb0_1, wrap_id, Int.add_sub_cancel]
  try simp -implicitDefEqProofs (disch := first | decide | assumption | omega) only [go_sem, RdS.len hdX sl22, RdS.idx hdX sl22, R1.intB hdX (Ext.pres eB), RdS.cells hdX, RdS.len hmX sl23, RdS.idx hmX sl23, RdS.cellB hmX (Ext.pres eB), RdS.cells hmX, RdS.len hdY sl22, RdS.idx hdY sl22, R1.intB hdY (Ext.pres eB), RdS.cells hdY, RdS.len hmY sl23, RdS.idx hmY sl23, RdS.cellB hmY (Ext.pres eB), RdS.cells hmY, BoxAt.cell hb0_0, BoxAt.cell hb0_1, wrap_id, Int.add_sub_cancel]
  refine CallA.mono (top_ok _ X _ ⟨_, _, rfl, (RdS.pres hdX (Ext.pres eB)), (RdS.pres hmX (Ext.pres eB))⟩) ?_
  intro v_ h1_1
  rintro ⟨rfl, e1_1⟩
  replace hb0_0 := BoxAt.ext hb0_0 e1_1
  replace hb0_1 := BoxAt.ext hb0_1 e1_1
  have := Ext.size e1_1
  replace eB := Ext.trans eB e1_1
  try simp (disch := decide) only [outv_some, outv_none, put_puts]
  refine plK_pres (Ext.pres e1_1) ?_
  try simp -implicitDefEqProofs (disch := first | decide | assumption | omega) only [go_sem, RdS.len hdX sl22, RdS.idx hdX sl22, R1.intB hdX (Ext.pres eB), RdS.cells hdX, RdS.len hmX sl23, RdS.idx hmX sl23, RdS.cellB hmX (Ext.pres eB), RdS.cells hmX, RdS.len hdY sl22, RdS.idx hdY sl22, R1.intB hdY (Ext.pres eB), RdS.cells hdY, RdS.len hmY sl23, RdS.idx hmY sl23, RdS.cellB hmY (Ext.pres eB), RdS.cells hmY, BoxAt.cell hb0_0, BoxAt.cell hb0_1, wrap_id, Int.add_sub_cancel]
  try simp -implicitDefEqProofs (disch := first | decide | assumption | omega) only [go_sem, RdS.len hdX sl22, RdS.idx hdX sl22, R1.intB hdX (Ext.pres eB), RdS.cells hdX, RdS.len hmX sl23, RdS.idx hmX sl23, RdS.cellB hmX (Ext.pres eB), RdS.cells hmX, RdS.len hdY sl22, RdS.idx hdY sl22, R1.intB hdY (Ext.pres eB), RdS.cells hdY, RdS.len hmY sl23, RdS.idx hmY sl23, RdS.cellB hmY (Ext.pres eB), RdS.cells hmY, BoxAt.cell hb0_0, BoxAt.cell hb0_1, wrap_id, Int.add_sub_cancel]
  refine CallA.mono (top_ok _ Y _ ⟨_, _, rfl, (RdS.pres hdY (Ext.pres eB)), (RdS.pres hmY (Ext.pres eB))⟩) ?_
  intro v_ h1_3
  rintro ⟨rfl, e1_3⟩
  replace hb0_0 := BoxAt.ext hb0_0 e1_3
  replace hb0_1 := BoxAt.ext hb0_1 e1_3
  have := Ext.size e1_3
  replace eB := Ext.trans eB e1_3
  try simp (disch := decide) only [outv_some, outv_none, put_puts]
  refine plK_pres (Ext.pres e1_3) ?_
  try simp -implicitDefEqProofs (disch := first | decide | assumption | omega) only [go_sem, RdS.len hdX sl22, RdS.idx hdX sl22, R1.intB hdX (Ext.pres eB), RdS.cells hdX, RdS.len hmX sl23, RdS.idx hmX sl23, RdS.cellB hmX (Ext.pres eB), RdS.cells hmX, RdS.len hdY sl22, RdS.idx hdY sl22, R1.intB hdY (Ext.pres eB), RdS.cells hdY, RdS.len hmY sl23, RdS.idx hmY sl23, RdS.cellB hmY (Ext.pres eB), RdS.cells hmY, BoxAt.cell hb0_0, BoxAt.cell hb0_1, wrap_id, Int.add_sub_cancel]
  refine op_make sz22 rfl rfl (by omega) (by omega) OI 0 (fun _ => ⟨rfl, rfl⟩) ?_
  intro v1_6 h1_6 ho1_6 e1_6
  replace hb0_0 := BoxAt.ext hb0_0 e1_6
  replace hb0_1 := BoxAt.ext hb0_1 e1_6
  have := Ext.size e1_6
  replace eB := Ext.trans eB e1_6
  have hfho1_6 : Fresh h1_3.size [h1_3.size] := Fresh.one _
  have hlenho1_6 : (List.replicate ((((((X.dims).length : Int) - 1) + (((Y.dims).length : Int) - 1)) + (1 : Int))).toNat (0 : Int)).length = ((((((X.dims).length : Int) - 1) + (((Y.dims).length : Int) - 1)) + (1 : Int))).toNat := List.length_replicate
  have hlho1_6 := OS.lt ho1_6
  try simp (disch := decide) only [outv_some, outv_none, put_puts]
  refine plK_pres (Ext.pres e1_6) ?_
  try simp -implicitDefEqProofs (disch := first | decide | assumption | omega) only [go_sem, RdS.len hdX sl22, RdS.idx hdX sl22, R1.intB hdX (Ext.pres eB), RdS.cells hdX, RdS.len hmX sl23, RdS.idx hmX sl23, RdS.cellB hmX (Ext.pres eB), RdS.cells hmX, RdS.len hdY sl22, RdS.idx hdY sl22, R1.intB hdY (Ext.pres eB), RdS.cells hdY, RdS.len hmY sl23, RdS.idx hmY sl23, RdS.cellB hmY (Ext.pres eB), RdS.cells hmY, RdS.len (OS.rd ho1_6) sl22, RdS.idx (OS.rd ho1_6) sl22, R1.intN (OS.rd ho1_6), RdS.cells (OS.rd ho1_6), BoxAt.cell hb0_0, BoxAt.cell hb0_1, wrap_id, Int.add_sub_cancel]
  refine hK _ _ ?_
  clear hK K
  refine den_seq ?_
  refine den_seq ?_
  refine den_region TTok ?_
  intro K hK
  simp -implicitDefEqProofs (disch := first | decide | assumption | omega) only [go_sem, fa30_1, ld22, RdS.len hdX sl22, RdS.idx hdX sl22, R1.intB hdX (Ext.pres eB), RdS.cells hdX, RdS.len hmX sl23, RdS.idx hmX sl23, RdS.cellB hmX (Ext.pres eB), RdS.cells hmX, RdS.len hdY sl22, RdS.idx hdY sl22, R1.intB hdY (Ext.pres eB), RdS.cells hdY, RdS.len hmY sl23, RdS.idx hmY sl23, RdS.cellB hmY (Ext.pres eB), RdS.cells hmY, RdS.len (OS.rd ho1_6) sl22, RdS.idx (OS.rd ho1_6) sl22, R1.intN (OS.rd ho1_6), RdS.cells (OS.rd ho1_6), BoxAt.cell hb0_0, BoxAt.cell hb0_1, wrap_id, Int.add_sub_cancel]
  refine hK _ _ ?_
  clear hK K
  refine den_block ?_
  refine den_sel [20, 3, 5, 18, 19] ?_
  intro env_1
  simp only [go_sem]
  refine den_loopS (σ := Nat) (fun st_ => [(20, .int .i64 (st_ : Int))]) (fun st_ H => st_ ≤ X.dims.length ∧ O1 H v1_6 (tkP X Y (X.dims.length + Y.dims.length - 1) st_) [h1_3.size] ∧ Chg [h1_3.size] h1_6 H) (fun st_ => X.dims.length - st_) 0 ?_ ?_
  · exact ⟨by first | (simp; done) | (dsimp only; omega) | (simp; omega), by rw [tk_zero, show X.dims.length + Y.dims.length - 1 = ((X.dims.length : Int) - 1 + ((Y.dims.length : Int) - 1) + 1).toNat by omega]; exact ho1_6, Chg.refl _ _⟩
  · rintro k h4 ee3 ⟨hi0, hO, cL2⟩
    replace hb0_0 := BoxAt.chgA hb0_0 cL2 (apart_lt hlhb0_0 hfho1_6 (by omega))
    replace hb0_1 := BoxAt.chgA hb0_1 cL2 (apart_lt hlhb0_1 hfho1_6 (by omega))
    have := cL2.size
    replace eB := Ext.then eB cL2 (ge_of hfho1_6 (by omega))
    have sbhO : Sub [h1_3.size] h1_6.size [h1_3.size] := Sub.refl
    have hfhO := hfho1_6
    have hlhO := OS.lt hO
    simp only [List.cons_append, List.nil_append]
    refine den_seq ?_
    refine den_region TTok ?_
    intro K hK
    simp -implicitDefEqProofs (disch := first | decide | assumption | omega) only [go_sem, RdS.len hdX sl22, RdS.idx hdX sl22, R1.intB hdX (Ext.pres eB), RdS.cells hdX, RdS.len hmX sl23, RdS.idx hmX sl23, RdS.cellB hmX (Ext.pres eB), RdS.cells hmX, RdS.len hdY sl22, RdS.idx hdY sl22, R1.intB hdY (Ext.pres eB), RdS.cells hdY, RdS.len hmY sl23, RdS.idx hmY sl23, RdS.cellB hmY (Ext.pres eB), RdS.cells hmY, RdS.len (OS.rd hO) sl22, RdS.idx (OS.rd hO) sl22, R1.intN (OS.rd hO), RdS.cells (OS.rd hO), BoxAt.cell hb0_1, wrap_id, Int.add_sub_cancel]
    refine hK _ _ ?_
    clear hK K
    refine den_seq ?_
    refine den_cond rfl (fun c0 => ?_) (fun c0 => ?_)
    · try simp only [decide_eq_true_eq, decide_eq_false_iff_not, beq_iff_eq, beq_eq_false_iff_ne, bne_iff_ne, ne_eq, Bool.not_eq_true', Bool.not_eq_false', Bool.and_eq_true, Bool.or_eq_true, bne_eq_false_iff_eq] at c0
      refine den_skip ?_
      refine den_seq ?_
      refine den_block ?_
      refine den_seq ?_
      refine den_region TTok ?_
      intro K hK
      simp -implicitDefEqProofs (disch := first | decide | assumption | omega) only [go_sem, ld2, RdS.len hdX sl22, RdS.idx hdX sl22, R1.intB hdX (Ext.pres eB), RdS.cells hdX, RdS.len hmX sl23, RdS.idx hmX sl23, RdS.cellB hmX (Ext.pres eB), RdS.cells hmX, RdS.len hdY sl22, RdS.idx hdY sl22, R1.intB hdY (Ext.pres eB), RdS.cells hdY, RdS.len hmY sl23, RdS.idx hmY sl23, RdS.cellB hmY (Ext.pres eB), RdS.cells hmY, RdS.len (OS.rd hO) sl22, RdS.idx (OS.rd hO) sl22, R1.intN (OS.rd hO), RdS.cells (OS.rd hO), BoxAt.cell hb0_1, wrap_id, Int.add_sub_cancel]
      refine hK _ _ ?_
      clear hK K
      refine den_seq ?_
      refine den_region TTok ?_
      intro K hK
      simp -implicitDefEqProofs (disch := first | decide | assumption | omega) only [go_sem, fa30_1, ld22, RdS.len hdX sl22, RdS.idx hdX sl22, R1.intB hdX (Ext.pres eB), RdS.cells hdX, RdS.len hmX sl23, RdS.idx hmX sl23, RdS.cellB hmX (Ext.pres eB), RdS.cells hmX, RdS.len hdY sl22, RdS.idx hdY sl22, R1.intB hdY (Ext.pres eB), RdS.cells hdY, RdS.len hmY sl23, RdS.idx hmY sl23, RdS.cellB hmY (Ext.pres eB), RdS.cells hmY, RdS.len (OS.rd hO) sl22, RdS.idx (OS.rd hO) sl22, R1.intN (OS.rd hO), RdS.cells (OS.rd hO), BoxAt.cell hb0_1, wrap_id, Int.add_sub_cancel]
      refine hK _ _ ?_
      clear hK K
      refine den_block ?_
      refine den_sel [28, 3, 5, 6, 7, 18, 19, 20, 26, 27] ?_
      intro env_5
      simp only [go_sem]
      refine den_loopS (σ := Nat) (fun st_ => [(28, .int .i64 (st_ : Int))]) (fun st_ H => st_ ≤ Y.dims.length ∧ O1 H v1_6 (mix (tkP X Y (X.dims.length + Y.dims.length - 1) (k + 1)) (tkP X Y (X.dims.length + Y.dims.length - 1) k) (k + st_)) [h1_3.size] ∧ Chg [h1_3.size] h4 H) (fun st_ => Y.dims.length - st_) 0 ?_ ?_
      · exact ⟨by first | (simp; done) | (dsimp only; omega) | (simp; omega), by show O1 _ _ (mix _ _ k) _; rw [tk_start]; exact hO, Chg.refl _ _⟩
      · rintro m h8 ee7 ⟨hi0, hI, cL6⟩
        replace hb0_1 := BoxAt.chgA hb0_1 cL6 (apart_lt hlhb0_1 hfhO (by omega))
        have := cL6.size
        replace eB := Ext.then eB cL6 (ge_of hfhO (by omega))
        replace cL2 := Chg.step cL2 cL6 sbhO
        have sbhI : Sub [h1_3.size] h4.size [h1_3.size] := Sub.refl
        have hfhI := hfhO
        have sb9 : Sub [h1_3.size] h1_6.size [h1_3.size] := Sub.trans sbhI sbhO (by omega)
        have hlhI := OS.lt hI
        simp only [List.cons_append, List.nil_append]
        refine den_seq ?_
        refine den_region TTok ?_
        intro K hK
        simp -implicitDefEqProofs (disch := first | decide | assumption | omega) only [go_sem, RdS.len hdX sl22, RdS.idx hdX sl22, R1.intB hdX (Ext.pres eB), RdS.cells hdX, RdS.len hmX sl23, RdS.idx hmX sl23, RdS.cellB hmX (Ext.pres eB), RdS.cells hmX, RdS.len hdY sl22, RdS.idx hdY sl22, R1.intB hdY (Ext.pres eB), RdS.cells hdY, RdS.len hmY sl23, RdS.idx hmY sl23, RdS.cellB hmY (Ext.pres eB), RdS.cells hmY, RdS.len (OS.rd hI) sl22, RdS.idx (OS.rd hI) sl22, R1.intN (OS.rd hI), RdS.cells (OS.rd hI), BoxAt.cell hb0_1, wrap_id, Int.add_sub_cancel]
        refine hK _ _ ?_
        clear hK K
        refine den_seq ?_
        refine den_cond rfl (fun c1 => ?_) (fun c1 => ?_)
        · try simp only [decide_eq_true_eq, decide_eq_false_iff_not, beq_iff_eq, beq_eq_false_iff_ne, bne_iff_ne, ne_eq, Bool.not_eq_true', Bool.not_eq_false', Bool.and_eq_true, Bool.or_eq_true, bne_eq_false_iff_eq] at c1
          refine den_skip ?_
          refine den_seq ?_
          refine den_block ?_
          refine den_seq ?_
          refine den_region TTok ?_
          intro K hK
          simp -implicitDefEqProofs (disch := first | decide | assumption | omega) only [go_sem, ld2, RdS.len hdX sl22, RdS.idx hdX sl22, R1.intB hdX (Ext.pres eB), RdS.cells hdX, RdS.len hmX sl23, RdS.idx hmX sl23, RdS.cellB hmX (Ext.pres eB), RdS.cells hmX, RdS.len hdY sl22, RdS.idx hdY sl22, R1.intB hdY (Ext.pres eB), RdS.cells hdY, RdS.len hmY sl23, RdS.idx hmY sl23, RdS.cellB hmY (Ext.pres eB), RdS.cells hmY, RdS.len (OS.rd hI) sl22, RdS.idx (OS.rd hI) sl22, R1.intN (OS.rd hI), RdS.cells (OS.rd hI), BoxAt.cell hb0_1, wrap_id, Int.add_sub_cancel]
          refine hK _ _ ?_
          clear hK K
          have hml : (mix (tkP X Y (X.dims.length + Y.dims.length - 1) (k + 1)) (tkP X Y (X.dims.length + Y.dims.length - 1) k) (k + m)).length = (X.dims.length + Y.dims.length - 1) := by rw [mix_len _ _ _ (by rw [tkP_len, tkP_len]), tkP_len]
          have hat := mix_at (tkP X Y (X.dims.length + Y.dims.length - 1) (k + 1)) (tkP X Y (X.dims.length + Y.dims.length - 1) k) (k + m) (k + m) (by rw [tkP_len, tkP_len]) (by rw [tkP_len]; omega)
          rw [if_neg (by omega), tkP_get X Y (by omega)] at hat
          have hs := sumP_bnd hX hY ((k + m : Nat) : Int) k
          have hdx := dimP_at (X := X) (k := k) (by omega)
          have hdy := dimP_at (X := Y) (k := m) (by omega)
          have hm1 := mul64 (dimP_bnd hX k) (dimP_bnd hY m)
          rw [hdx, hdy] at hm1
          have ekm : ((k : Int) + (m : Int)).toNat = k + m := by omega
          refine den_region TTok ?_
          intro K hK
          simp -implicitDefEqProofs (disch := first | decide | assumption | omega) only [go_sem, ld2, RdS.len hdX sl22, RdS.idx hdX sl22, R1.intB hdX (Ext.pres eB), RdS.cells hdX, RdS.len hmX sl23, RdS.idx hmX sl23, RdS.cellB hmX (Ext.pres eB), RdS.cells hmX, RdS.len hdY sl22, RdS.idx hdY sl22, R1.intB hdY (Ext.pres eB), RdS.cells hdY, RdS.len hmY sl23, RdS.idx hmY sl23, RdS.cellB hmY (Ext.pres eB), RdS.cells hmY, RdS.len (OS.rd hI) sl22, RdS.idx (OS.rd hI) sl22, R1.intN (OS.rd hI), RdS.cells (OS.rd hI), BoxAt.cell hb0_1, wrap_id, Int.add_sub_cancel, ekm]
          refine op_store1 (j := (((k : Int) + (m : Int))).toNat) st2 hI hfhI.nodup (by first | omega | (simp; omega)) rfl rfl ?_
          intro h8_11 ho8_11 c8_11
          have hsz8_11 := c8_11.size
          replace hb0_1 := BoxAt.chgA hb0_1 c8_11 (apart_lt hlhb0_1 hfhI (by omega))
          have := c8_11.size
          replace eB := Ext.then eB c8_11 (ge_of hfhI (by omega))
          replace cL2 := Chg.step cL2 c8_11 sb9
          replace cL6 := Chg.step cL6 c8_11 sbhI
          have hlho8_11 := OS.lt ho8_11
          have hlenho8_11 : ((mix (tkP X Y (X.dims.length + Y.dims.length - 1) (k + 1)) (tkP X Y (X.dims.length + Y.dims.length - 1) k) (k + m)).set ((((k : Int) + (m : Int))).toNat) (((mix (tkP X Y (X.dims.length + Y.dims.length - 1) (k + 1)) (tkP X Y (X.dims.length + Y.dims.length - 1) k) (k + m)).getD (((k : Int) + (m : Int))).toNat 0) + (((X.dims).getD k 0) * ((Y.dims).getD m 0))) : List Int).length = (mix (tkP X Y (X.dims.length + Y.dims.length - 1) (k + 1)) (tkP X Y (X.dims.length + Y.dims.length - 1) k) (k + m) : List Int).length := List.length_set
          try simp -implicitDefEqProofs (disch := first | decide | assumption | omega) only [go_sem, RdS.len hdX sl22, RdS.idx hdX sl22, R1.intB hdX (Ext.pres eB), RdS.cells hdX, RdS.len hmX sl23, RdS.idx hmX sl23, RdS.cellB hmX (Ext.pres eB), RdS.cells hmX, RdS.len hdY sl22, RdS.idx hdY sl22, R1.intB hdY (Ext.pres eB), RdS.cells hdY, RdS.len hmY sl23, RdS.idx hmY sl23, RdS.cellB hmY (Ext.pres eB), RdS.cells hmY, RdS.len (OS.rd ho8_11) sl22, RdS.idx (OS.rd ho8_11) sl22, R1.intN (OS.rd ho8_11), RdS.cells (OS.rd ho8_11), BoxAt.cell hb0_1, wrap_id, Int.add_sub_cancel, ekm]
          refine hK _ _ ?_
          clear hK K
          refine den_blk ?_
          refine den_region TTok ?_
          intro K hK
          simp -implicitDefEqProofs (disch := first | decide | assumption | omega) only [go_sem, RdS.len hdX sl22, RdS.idx hdX sl22, R1.intB hdX (Ext.pres eB), RdS.cells hdX, RdS.len hmX sl23, RdS.idx hmX sl23, RdS.cellB hmX (Ext.pres eB), RdS.cells hmX, RdS.len hdY sl22, RdS.idx hdY sl22, R1.intB hdY (Ext.pres eB), RdS.cells hdY, RdS.len hmY sl23, RdS.idx hmY sl23, RdS.cellB hmY (Ext.pres eB), RdS.cells hmY, RdS.len (OS.rd ho8_11) sl22, RdS.idx (OS.rd ho8_11) sl22, R1.intN (OS.rd ho8_11), RdS.cells (OS.rd ho8_11), BoxAt.cell hb0_1, wrap_id, Int.add_sub_cancel]
          refine hK _ _ ?_
          clear hK K
          refine den_stop ?_
          rw [ekm, ← hdx, ← hdy, tk_step X Y _ _ _ (by omega), Nat.add_assoc] at ho8_11
          exact ⟨m + 1, by simp [HasL, puts_at], ⟨by first | omega | (dsimp only; omega), ho8_11, cL6⟩, by first | omega | (dsimp only; omega)⟩
        · try simp only [decide_eq_true_eq, decide_eq_false_iff_not, beq_iff_eq, beq_eq_false_iff_ne, bne_iff_ne, ne_eq, Bool.not_eq_true', Bool.not_eq_false', Bool.and_eq_true, Bool.or_eq_true, bne_eq_false_iff_eq] at c1
          refine den_exit ?_
          refine denX_code ?_
          refine denX_stop ?_
          refine denX_hit ?_
          refine den_blk ?_
          refine den_region TTok ?_
          intro K hK
          simp -implicitDefEqProofs (disch := first | decide | assumption | omega) only [go_sem, RdS.len hdX sl22, RdS.idx hdX sl22, R1.intB hdX (Ext.pres eB), RdS.cells hdX, RdS.len hmX sl23, RdS.idx hmX sl23, RdS.cellB hmX (Ext.pres eB), RdS.cells hmX, RdS.len hdY sl22, RdS.idx hdY sl22, R1.intB hdY (Ext.pres eB), RdS.cells hdY, RdS.len hmY sl23, RdS.idx hmY sl23, RdS.cellB hmY (Ext.pres eB), RdS.cells hmY, RdS.len (OS.rd hI) sl22, RdS.idx (OS.rd hI) sl22, R1.intN (OS.rd hI), RdS.cells (OS.rd hI), BoxAt.cell hb0_1, wrap_id, Int.add_sub_cancel]
          refine hK _ _ ?_
          clear hK K
          refine den_stop ?_
          rw [tk_end X Y _ _ _ (by omega)] at hI
          exact ⟨k + 1, by simp [HasL, puts_at], ⟨by first | omega | (dsimp only; omega), hI, cL2⟩, by first | omega | (dsimp only; omega)⟩
    · try simp only [decide_eq_true_eq, decide_eq_false_iff_not, beq_iff_eq, beq_eq_false_iff_ne, bne_iff_ne, ne_eq, Bool.not_eq_true', Bool.not_eq_false', Bool.and_eq_true, Bool.or_eq_true, bne_eq_false_iff_eq] at c0
      refine den_exit ?_
      refine denX_code ?_
      refine denX_stop ?_
      refine denX_hit ?_
      refine den_seq ?_
      refine den_region TTok ?_
      intro K hK
      simp -implicitDefEqProofs (disch := first | decide | assumption | omega) only [go_sem, RdS.len hdX sl22, RdS.idx hdX sl22, R1.intB hdX (Ext.pres eB), RdS.cells hdX, RdS.len hmX sl23, RdS.idx hmX sl23, RdS.cellB hmX (Ext.pres eB), RdS.cells hmX, RdS.len hdY sl22, RdS.idx hdY sl22, R1.intB hdY (Ext.pres eB), RdS.cells hdY, RdS.len hmY sl23, RdS.idx hmY sl23, RdS.cellB hmY (Ext.pres eB), RdS.cells hmY, RdS.len (OS.rd hO) sl22, RdS.idx (OS.rd hO) sl22, R1.intN (OS.rd hO), RdS.cells (OS.rd hO), wrap_id, Int.add_sub_cancel]
      refine hK _ _ ?_
      clear hK K
      refine den_ret ?_
      simp (disch := decide) only [resP_1, puts_same, puts_ne]
      rw [show k = X.dims.length by omega, tk_all hlX.1] at hO
      exact ⟨_, _, rfl, hO, hfhO.mono (by omega), eB⟩

end Go.Proofs.Ytffggocjkhcgeaa
