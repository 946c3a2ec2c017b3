/-
  What the statement FnExactProductFamily uses of the walks, part 3.
  Conditions: each theorem's own.
-/
import Derived.Test.YtjjjgllbocgkbaaG16
import Derived.Test.YtjjjgllbocgkbaaG17
import Derived.Test.YtjjjgllbocgkbaaG14
import Derived.Test.YtjjjgllbocgkbaaG13
import Derived.Test.YtjjjgllbocgkbaaG15
import Derived.Test.YtjjjgllbocgkbaaG18
import Derived.Test.YtjjjgllbocgkbaaG21
import Derived.Test.YtjjjgllbocgkbaaZProductFamily1
import Derived.Test.YtjjjgllbocgkbaaZProductFamily2
set_option linter.unusedVariables false
set_option linter.unusedSimpArgs false
namespace Go.Proofs.Ytjjjgllbocgkbaa
open Go
theorem dimP_neg {Y : Cx} {n : Int} (h : n < 0) : dimP Y n = 0 := dimP_out (by omega)
theorem dimP_big {Y : Cx} {n : Int} (h : (Y.dims.length : Int) ≤ n) : dimP Y n = 0 := dimP_out (by omega)
theorem sumP_ext {X Y : Cx} {s : Int} {k : Nat} : ∀ {m : Nat}, k ≤ m → (∀ i : Nat, k ≤ i → dimP X i * dimP Y (s - i) = 0) → sumP X Y s m = sumP X Y s k
 | 0, h, _ => by rw [show k = 0 by omega]
 | m + 1, h, hz => by
  by_cases e : k = m + 1
  ·rw [e]
  ·rw [sumP, sumP_ext (m := m) (by omega) hz, hz m (by omega), Int.add_zero]
def tkP (X Y : Cx) (N k : Nat) : List Int := (List.range N).map fun n : Nat => sumP X Y (n : Int) k
def tdP (X Y : Cx) : List Int := (List.range (X.dims.length + Y.dims.length - 1)).map fun n : Nat => sumP X Y (n : Int) (n + 1)
theorem tkP_len (X Y : Cx) (N k : Nat) : (tkP X Y N k).length = N := by simp [tkP]
theorem tkP_get (X Y : Cx) {N k n : Nat} (h : n < N) : (tkP X Y N k).getD n 0 = sumP X Y n k := by
 rw [tkP, List.getD_eq_getElem?_getD, List.getElem?_eq_getElem (by simpa using h)]; simp
theorem getD_ext {A B : List Int} (hl : A.length = B.length) (h : ∀ n, n < A.length → A.getD n 0 = B.getD n 0) : A = B := by
 apply List.ext_getElem hl
 intro n h1 h2
 have := h n h1
 rwa [List.getD_eq_getElem?_getD, List.getD_eq_getElem?_getD, List.getElem?_eq_getElem h1, List.getElem?_eq_getElem h2] at this
theorem mix_at (A B : List Int) (m n : Nat) (h : A.length = B.length) (hn : n < B.length) : (mix A B m).getD n 0 = if n < m then A.getD n 0 else B.getD n 0 := by
 simp only [mix, List.getD_eq_getElem?_getD]
 split
 ·rename_i h1
  rw [List.getElem?_append_left (by rw [List.length_take]; omega), List.getElem?_take, if_pos h1]
 ·rename_i h1
  rw [List.getElem?_append_right (by rw [List.length_take]; omega), List.length_take, List.getElem?_drop]
  congr 2
  omega
theorem tk_start (X Y : Cx) (N k : Nat) : mix (tkP X Y N (k + 1)) (tkP X Y N k) k = tkP X Y N k := by
 have hl : (tkP X Y N (k + 1)).length = (tkP X Y N k).length := by rw [tkP_len, tkP_len]
 refine getD_ext (by rw [mix_len _ _ _ hl]) (fun n hn => ?_)
 rw [mix_len _ _ _ hl, tkP_len] at hn
 rw [mix_at _ _ _ _ hl (by rw [tkP_len]; exact hn), tkP_get X Y hn, tkP_get X Y hn]
 split
 ·rw [sumP, dimP_neg (Y := Y) (by omega), Int.mul_zero, Int.add_zero]
 ·rfl
theorem tk_end (X Y : Cx) (N k m : Nat) (hm : Y.dims.length ≤ m) : mix (tkP X Y N (k + 1)) (tkP X Y N k) (k + m) = tkP X Y N (k + 1) := by
 have hl : (tkP X Y N (k + 1)).length = (tkP X Y N k).length := by rw [tkP_len, tkP_len]
 refine getD_ext (by rw [mix_len _ _ _ hl, tkP_len, tkP_len]) (fun n hn => ?_)
 rw [mix_len _ _ _ hl, tkP_len] at hn
 rw [mix_at _ _ _ _ hl (by rw [tkP_len]; exact hn), tkP_get X Y hn, tkP_get X Y hn]
 split
 ·rfl
 ·rw [sumP, dimP_big (Y := Y) (by omega), Int.mul_zero, Int.add_zero]
theorem tk_step (X Y : Cx) (N k m : Nat) (h : k + m < N) : (mix (tkP X Y N (k + 1)) (tkP X Y N k) (k + m)).set (k + m) ((mix (tkP X Y N (k + 1)) (tkP X Y N k) (k + m)).getD (k + m) 0 + dimP X k * dimP Y m) = mix (tkP X Y N (k + 1)) (tkP X Y N k) (k + m + 1) := by
 have hl : (tkP X Y N (k + 1)).length = (tkP X Y N k).length := by rw [tkP_len, tkP_len]
 have hv : (mix (tkP X Y N (k + 1)) (tkP X Y N k) (k + m)).getD (k + m) 0 + dimP X k * dimP Y m = (tkP X Y N (k + 1)).getD (k + m) 0 := by
  rw [mix_at _ _ _ _ hl (by rw [tkP_len]; exact h), if_neg (by omega), tkP_get X Y h, tkP_get X Y h, sumP, show (((k + m : Nat) : Int) - (k : Int)) = m by omega]
 rw [hv, mix_set _ _ _ _ hl (by rw [tkP_len]; exact h)]
theorem tk_all {X Y : Cx} (hX : 1 ≤ X.dims.length) : tkP X Y (X.dims.length + Y.dims.length - 1) X.dims.length = tdP X Y := by
 apply List.map_congr_left
 intro n hn
 rw [List.mem_range] at hn
 by_cases h : n + 1 ≤ X.dims.length
 ·exact sumP_ext h (fun i hi => by rw [dimP_neg (Y := Y) (by omega), Int.mul_zero])
 ·exact (sumP_ext (by omega) (fun i hi => by rw [dimP_big (Y := X) (by omega), Int.zero_mul])).symm
theorem tk_zero (X Y : Cx) (N : Nat) : tkP X Y N 0 = List.replicate N 0 := by
 refine getD_ext (by simp [tkP]) (fun n hn => ?_)
 rw [tkP_len] at hn
 rw [tkP_get X Y hn, List.getD_eq_getElem?_getD, List.getElem?_eq_getElem (by simpa using hn)]
 simp [sumP]
set_option maxRecDepth 100000 in
theorem sDims_ok (vX vY : Value) (X : Cx) (Y : Cx) (h : Heap) (rX : RC h vX X) (rY : RC h vY Y) (hX : IsC X) (hY : IsC Y) : CallA Try.prog 123 #[vX, vY] h fun v' h' => ∃ w0 f0, v' = w0 ∧ O1 h' w0 (tdP X Y) f0 ∧ Fresh h.size f0 ∧ Ext h h' := by
 obtain ⟨vdX, vmX, rfl, hdX, hmX⟩ := rX
 have hledX := RdS.le hdX
 have hlemX := RdS.le hmX
 obtain ⟨vdY, vmY, rfl, hdY, hmY⟩ := rY
 have hledY := RdS.le hdY
 have hlemY := RdS.le hmY
 have hlX := hX.len
 have hlY := hY.len
 refine callA_intro TTok (args := [_, _]) Try.func123 (by kernel_rfl) rfl 43 rfl (by simp) [.tmp 4] rfl ?_
 simp only [idxs, Nat.reduceAdd]
 refine den_seq ?_
 refine den_region TTok ?_
 intro K hK
 simp -implicitDefEqProofs (disch := first | decide | assumption | omega) only [go_sem, RdS.len hdX sl22, RdS.idx hdX sl22, R1.intB hdX (HPres.refl _), RdS.cells hdX, RdS.len hmX sl23, RdS.idx hmX sl23, RdS.cellB hmX (HPres.refl _), RdS.cells hmX, RdS.len hdY sl22, RdS.idx hdY sl22, R1.intB hdY (HPres.refl _), RdS.cells hdY, RdS.len hmY sl23, RdS.idx hmY sl23, RdS.cellB hmY (HPres.refl _), RdS.cells hmY, wrap_id]
 refine op_box (cs := #[.int .i64 (X.p), vdX, vmX]) rfl ?_
 intro h0_0 e0_0 hb0_0 z0_0
 have := Ext.size e0_0
 have eB := e0_0
 have hfhb0_0 : Fresh h.size [h.size] := Fresh.one _
 have hlhb0_0 := one_lt (show h.size < h0_0.size by omega)
 try simp -implicitDefEqProofs (disch := first | decide | assumption | omega) only [go_sem, RdS.len hdX sl22, RdS.idx hdX sl22, R1.intB hdX (Ext.pres eB), RdS.cells hdX, RdS.len hmX sl23, RdS.idx hmX sl23, RdS.cellB hmX (Ext.pres eB), RdS.cells hmX, RdS.len hdY sl22, RdS.idx hdY sl22, R1.intB hdY (Ext.pres eB), RdS.cells hdY, RdS.len hmY sl23, RdS.idx hmY sl23, RdS.cellB hmY (Ext.pres eB), RdS.cells hmY, BoxAt.cell hb0_0, wrap_id]
 refine op_box (cs := #[.int .i64 (Y.p), vdY, vmY]) rfl ?_
 intro h0_1 e0_1 hb0_1 z0_1
 replace hb0_0 := BoxAt.ext hb0_0 e0_1
 have := Ext.size e0_1
 replace eB := Ext.trans eB e0_1
 have hfhb0_1 : Fresh h0_0.size [h0_0.size] := Fresh.one _
 have hlhb0_1 := one_lt (show h0_0.size < h0_1.size by omega)
 try simp -implicitDefEqProofs (disch := first | decide | assumption | omega) only [go_sem, RdS.len hdX sl22, RdS.idx hdX sl22, R1.intB hdX (Ext.pres eB), RdS.cells hdX, RdS.len hmX sl23, RdS.idx hmX sl23, RdS.cellB hmX (Ext.pres eB), RdS.cells hmX, RdS.len hdY sl22, RdS.idx hdY sl22, R1.intB hdY (Ext.pres eB), RdS.cells hdY, RdS.len hmY sl23, RdS.idx hmY sl23, RdS.cellB hmY (Ext.pres eB), RdS.cells hmY, BoxAt.cell hb0_0, BoxAt.cell hb0_1, wrap_id]
 refine hK _ _ ?_
 clear hK K
 refine den_seq ?_
 refine den_region TTok ?_
 intro K hK
 simp -implicitDefEqProofs (disch := first | decide | assumption | omega) only [go_sem, RdS.len hdX sl22, RdS.idx hdX sl22, R1.intB hdX (Ext.pres eB), RdS.cells hdX, RdS.len hmX sl23, RdS.idx hmX sl23, RdS.cellB hmX (Ext.pres eB), RdS.cells hmX, RdS.len hdY sl22, RdS.idx hdY sl22, R1.intB hdY (Ext.pres eB), RdS.cells hdY, RdS.len hmY sl23, RdS.idx hmY sl23, RdS.cellB hmY (Ext.pres eB), RdS.cells hmY, BoxAt.cell hb0_0, BoxAt.cell hb0_1, wrap_id]
 refine op_bs0 sz22 OI ?_
 intro v1_0 h1_0 ho1_0 e1_0
 replace hb0_0 := BoxAt.ext hb0_0 e1_0
 replace hb0_1 := BoxAt.ext hb0_1 e1_0
 have := Ext.size e1_0
 replace eB := Ext.trans eB e1_0
 have hfho1_0 : Fresh h0_1.size [h0_1.size] := Fresh.one _
 have hlho1_0 := OS.lt ho1_0
 try simp -implicitDefEqProofs (disch := first | decide | assumption | omega) only [go_sem, RdS.len hdX sl22, RdS.idx hdX sl22, R1.intB hdX (Ext.pres eB), RdS.cells hdX, RdS.len hmX sl23, RdS.idx hmX sl23, RdS.cellB hmX (Ext.pres eB), RdS.cells hmX, RdS.len hdY sl22, RdS.idx hdY sl22, R1.intB hdY (Ext.pres eB), RdS.cells hdY, RdS.len hmY sl23, RdS.idx hmY sl23, RdS.cellB hmY (Ext.pres eB), RdS.cells hmY, RdS.len (OS.rd ho1_0) sl22, RdS.idx (OS.rd ho1_0) sl22, R1.intN (OS.rd ho1_0), RdS.cells (OS.rd ho1_0), BoxAt.cell hb0_0, BoxAt.cell hb0_1, wrap_id]
 refine hK _ _ ?_
 clear hK K
 refine den_seq ?_
 refine den_seq ?_
 refine den_region TTok ?_
 intro K hK
 simp -implicitDefEqProofs (disch := first | decide | assumption | omega) only [go_sem, RdS.len hdX sl22, RdS.idx hdX sl22, R1.intB hdX (Ext.pres eB), RdS.cells hdX, RdS.len hmX sl23, RdS.idx hmX sl23, RdS.cellB hmX (Ext.pres eB), RdS.cells hmX, RdS.len hdY sl22, RdS.idx hdY sl22, R1.intB hdY (Ext.pres eB), RdS.cells hdY, RdS.len hmY sl23, RdS.idx hmY sl23, RdS.cellB hmY (Ext.pres eB), RdS.cells hmY, RdS.len (OS.rd ho1_0) sl22, RdS.idx (OS.rd ho1_0) sl22, R1.intN (OS.rd ho1_0), RdS.cells (OS.rd ho1_0), BoxAt.cell hb0_0, BoxAt.cell hb0_1, wrap_id]
 refine hK _ _ ?_
 clear hK K
 refine den_block ?_
 refine den_sel [5, 6, 2, 3] ?_
 intro env_1
 simp only [go_sem]
 refine den_loopS (σ := Nat × Value × List Nat) (fun st_ => [(5, st_.2.1), (6, .int .i64 (st_.1 : Int))]) (fun st_ H => (st_.1 : Int) ≤ (X.dims.length : Int) + Y.dims.length - 1 ∧ O1 H st_.2.1 ((List.range st_.1).map fun q : Nat => sumP X Y (q : Int) (q + 1)) st_.2.2 ∧ Fresh (h0_1.size) st_.2.2 ∧ Sub [h0_1.size] h1_0.size st_.2.2 ∧ Chg [h0_1.size] h1_0 H) (fun st_ => X.dims.length + Y.dims.length - st_.1) (0, v1_0, [h0_1.size]) ?_ ?_
 ·exact ⟨by first | (simp; done) | (dsimp only; omega) | (simp; omega), by simpa using ho1_0, hfho1_0, Sub.refl, Chg.refl _ _⟩
 ·rintro ⟨n, vhO, fphO⟩ h4 ee3 ⟨hi0, hO, hfhO, sbhO, cL2⟩
  dsimp only at hi0 hO hfhO sbhO cL2
  replace hb0_0 := BoxAt.chgA hb0_0 cL2 (apart_lt hlhb0_0 hfho1_0 (by omega))
  replace hb0_1 := BoxAt.chgA hb0_1 cL2 (apart_lt hlhb0_1 hfho1_0 (by omega))
  have := cL2.size
  replace eB := Ext.then eB cL2 (ge_of hfho1_0 (by omega))
  have hlhO := OS.lt hO
  simp only [List.cons_append, List.nil_append]
  refine den_seq ?_
  refine den_seq ?_
  refine den_region TTok ?_
  intro K hK
  simp -implicitDefEqProofs (disch := first | decide | assumption | omega) only [go_sem, fa31_1, ld22, RdS.len hdX sl22, RdS.idx hdX sl22, R1.intB hdX (Ext.pres eB), RdS.cells hdX, RdS.len hmX sl23, RdS.idx hmX sl23, RdS.cellB hmX (Ext.pres eB), RdS.cells hmX, RdS.len hdY sl22, RdS.idx hdY sl22, R1.intB hdY (Ext.pres eB), RdS.cells hdY, RdS.len hmY sl23, RdS.idx hmY sl23, RdS.cellB hmY (Ext.pres eB), RdS.cells hmY, RdS.len (OS.rd hO) sl22, RdS.idx (OS.rd hO) sl22, R1.intN (OS.rd hO), RdS.cells (OS.rd hO), BoxAt.cell hb0_0, BoxAt.cell hb0_1, wrap_id]
  refine hK _ _ ?_
  clear hK K
  refine den_cond rfl (fun c0 => ?_) (fun c0 => ?_)
  ·try simp only [decide_eq_true_eq, decide_eq_false_iff_not, beq_iff_eq, beq_eq_false_iff_ne, bne_iff_ne, ne_eq, Bool.not_eq_true', Bool.not_eq_false', Bool.and_eq_true, Bool.or_eq_true, bne_eq_false_iff_eq] at c0
   refine den_skip ?_
   refine den_seq ?_
   refine den_block ?_
   refine den_seq ?_
   refine den_region TTok ?_
   intro K hK
   simp -implicitDefEqProofs (disch := first | decide | assumption | omega) only [go_sem, RdS.len hdX sl22, RdS.idx hdX sl22, R1.intB hdX (Ext.pres eB), RdS.cells hdX, RdS.len hmX sl23, RdS.idx hmX sl23, RdS.cellB hmX (Ext.pres eB), RdS.cells hmX, RdS.len hdY sl22, RdS.idx hdY sl22, R1.intB hdY (Ext.pres eB), RdS.cells hdY, RdS.len hmY sl23, RdS.idx hmY sl23, RdS.cellB hmY (Ext.pres eB), RdS.cells hmY, RdS.len (OS.rd hO) sl22, RdS.idx (OS.rd hO) sl22, R1.intN (OS.rd hO), RdS.cells (OS.rd hO), BoxAt.cell hb0_0, BoxAt.cell hb0_1, wrap_id]
   refine hK _ _ ?_
   clear hK K
   refine den_seq ?_
   refine den_seq ?_
   refine den_region TTok ?_
   intro K hK
   simp -implicitDefEqProofs (disch := first | decide | assumption | omega) only [go_sem, RdS.len hdX sl22, RdS.idx hdX sl22, R1.intB hdX (Ext.pres eB), RdS.cells hdX, RdS.len hmX sl23, RdS.idx hmX sl23, RdS.cellB hmX (Ext.pres eB), RdS.cells hmX, RdS.len hdY sl22, RdS.idx hdY sl22, R1.intB hdY (Ext.pres eB), RdS.cells hdY, RdS.len hmY sl23, RdS.idx hmY sl23, RdS.cellB hmY (Ext.pres eB), RdS.cells hmY, RdS.len (OS.rd hO) sl22, RdS.idx (OS.rd hO) sl22, R1.intN (OS.rd hO), RdS.cells (OS.rd hO), BoxAt.cell hb0_0, BoxAt.cell hb0_1, wrap_id]
   refine hK _ _ ?_
   clear hK K
   refine den_block ?_
   refine den_sel [7, 8, 2, 3, 5, 6] ?_
   intro env_5
   simp only [go_sem]
   refine den_loopS (σ := Nat × Int) (fun st_ => [(7, .int .i64 st_.2), (8, .int .i64 (st_.1 : Int))]) (fun st_ H => (st_.1 : Int) ≤ (n : Int) + 1 ∧ st_.2 = sumP X Y (n : Int) st_.1 ∧ Ext h4 H) (fun st_ => n + 1 - st_.1) (0, 0) ?_ ?_
   ·exact ⟨by dsimp only; omega, by simp [sumP], Ext.refl _⟩
   ·rintro ⟨m, acc⟩ h8 ee7 ⟨hm2, hacc, cL6⟩
    dsimp only at hm2 hacc cL6
    replace hO := OS.ext hO cL6
    replace hb0_0 := BoxAt.ext hb0_0 cL6
    replace hb0_1 := BoxAt.ext hb0_1 cL6
    have := Ext.size cL6
    replace eB := Ext.trans eB cL6
    replace cL2 := Chg.stepE cL2 cL6
    simp only [List.cons_append, List.nil_append]
    refine den_seq ?_
    refine den_seq ?_
    have hlt : ((List.range n).map fun q : Nat => sumP X Y (q : Int) (q + 1)).length = n := by simp
    refine den_region TTok ?_
    intro K hK
    simp -implicitDefEqProofs (disch := first | decide | assumption | omega) only [go_sem, RdS.len hdX sl22, RdS.idx hdX sl22, R1.intB hdX (Ext.pres eB), RdS.cells hdX, RdS.len hmX sl23, RdS.idx hmX sl23, RdS.cellB hmX (Ext.pres eB), RdS.cells hmX, RdS.len hdY sl22, RdS.idx hdY sl22, R1.intB hdY (Ext.pres eB), RdS.cells hdY, RdS.len hmY sl23, RdS.idx hmY sl23, RdS.cellB hmY (Ext.pres eB), RdS.cells hmY, RdS.len (OS.rd hO) sl22, RdS.idx (OS.rd hO) sl22, R1.intN (OS.rd hO), RdS.cells (OS.rd hO), BoxAt.cell hb0_0, BoxAt.cell hb0_1, wrap_id]
    refine hK _ _ ?_
    clear hK K
    refine den_cond rfl (fun c1 => ?_) (fun c1 => ?_)
    ·try simp only [decide_eq_true_eq, decide_eq_false_iff_not, beq_iff_eq, beq_eq_false_iff_ne, bne_iff_ne, ne_eq, Bool.not_eq_true', Bool.not_eq_false', Bool.and_eq_true, Bool.or_eq_true, bne_eq_false_iff_eq] at c1
     refine den_skip ?_
     refine den_seq ?_
     refine den_block ?_
     have hs := sumP_bnd hX hY (n : Int) m
     have hm1 := mul64 (dimP_bnd hX m) (dimP_bnd hY ((n : Int) - m))
     refine den_draw TTok mixed [] [(0, true), (1, true), (2, true), (4, true), (5, true), (6, true), (7, true), (3, false), (8, false), (9, true), (10, true), (11, true)] (by kernel_rfl) ?_
     intro K hK
     simp -implicitDefEqProofs (disch := first | decide | assumption | omega) only [go_sem, ld31, RdS.len hdX sl22, RdS.idx hdX sl22, R1.intB hdX (Ext.pres eB), RdS.cells hdX, RdS.len hmX sl23, RdS.idx hmX sl23, RdS.cellB hmX (Ext.pres eB), RdS.cells hmX, RdS.len hdY sl22, RdS.idx hdY sl22, R1.intB hdY (Ext.pres eB), RdS.cells hdY, RdS.len hmY sl23, RdS.idx hmY sl23, RdS.cellB hmY (Ext.pres eB), RdS.cells hmY, RdS.len (OS.rd hO) sl22, RdS.idx (OS.rd hO) sl22, R1.intN (OS.rd hO), RdS.cells (OS.rd hO), BoxAt.cell hb0_0, BoxAt.cell hb0_1, wrap_id]
     try simp -implicitDefEqProofs (disch := first | decide | assumption | omega) only [go_sem, RdS.len hdX sl22, RdS.idx hdX sl22, R1.intB hdX (Ext.pres eB), RdS.cells hdX, RdS.len hmX sl23, RdS.idx hmX sl23, RdS.cellB hmX (Ext.pres eB), RdS.cells hmX, RdS.len hdY sl22, RdS.idx hdY sl22, R1.intB hdY (Ext.pres eB), RdS.cells hdY, RdS.len hmY sl23, RdS.idx hmY sl23, RdS.cellB hmY (Ext.pres eB), RdS.cells hmY, RdS.len (OS.rd hO) sl22, RdS.idx (OS.rd hO) sl22, R1.intN (OS.rd hO), RdS.cells (OS.rd hO), BoxAt.cell hb0_0, BoxAt.cell hb0_1, wrap_id]
     refine CallA.mono (sDim_ok _ X _ _ ⟨_, _, rfl, (RdS.pres hdX (Ext.pres eB)), (RdS.pres hmX (Ext.pres eB))⟩) ?_
     intro v_ h9_3
     rintro ⟨rfl, e9_3⟩
     replace hO := OS.ext hO e9_3
     replace hb0_0 := BoxAt.ext hb0_0 e9_3
     replace hb0_1 := BoxAt.ext hb0_1 e9_3
     have := Ext.size e9_3
     replace eB := Ext.trans eB e9_3
     replace cL2 := Chg.stepE cL2 e9_3
     replace cL6 := Ext.trans cL6 e9_3
     try simp (disch := decide) only [outv_some, outv_none, put_puts]
     refine plK_pres (Ext.pres e9_3) ?_
     try simp -implicitDefEqProofs (disch := first | decide | assumption | omega) only [go_sem, RdS.len hdX sl22, RdS.idx hdX sl22, R1.intB hdX (Ext.pres eB), RdS.cells hdX, RdS.len hmX sl23, RdS.idx hmX sl23, RdS.cellB hmX (Ext.pres eB), RdS.cells hmX, RdS.len hdY sl22, RdS.idx hdY sl22, R1.intB hdY (Ext.pres eB), RdS.cells hdY, RdS.len hmY sl23, RdS.idx hmY sl23, RdS.cellB hmY (Ext.pres eB), RdS.cells hmY, RdS.len (OS.rd hO) sl22, RdS.idx (OS.rd hO) sl22, R1.intN (OS.rd hO), RdS.cells (OS.rd hO), BoxAt.cell hb0_0, BoxAt.cell hb0_1, wrap_id]
     try simp -implicitDefEqProofs (disch := first | decide | assumption | omega) only [go_sem, RdS.len hdX sl22, RdS.idx hdX sl22, R1.intB hdX (Ext.pres eB), RdS.cells hdX, RdS.len hmX sl23, RdS.idx hmX sl23, RdS.cellB hmX (Ext.pres eB), RdS.cells hmX, RdS.len hdY sl22, RdS.idx hdY sl22, R1.intB hdY (Ext.pres eB), RdS.cells hdY, RdS.len hmY sl23, RdS.idx hmY sl23, RdS.cellB hmY (Ext.pres eB), RdS.cells hmY, RdS.len (OS.rd hO) sl22, RdS.idx (OS.rd hO) sl22, R1.intN (OS.rd hO), RdS.cells (OS.rd hO), BoxAt.cell hb0_0, BoxAt.cell hb0_1, wrap_id]
     refine CallA.mono (sDim_ok _ Y _ _ ⟨_, _, rfl, (RdS.pres hdY (Ext.pres eB)), (RdS.pres hmY (Ext.pres eB))⟩) ?_
     intro v_ h9_8
     rintro ⟨rfl, e9_8⟩
     replace hO := OS.ext hO e9_8
     replace hb0_0 := BoxAt.ext hb0_0 e9_8
     replace hb0_1 := BoxAt.ext hb0_1 e9_8
     have := Ext.size e9_8
     replace eB := Ext.trans eB e9_8
     replace cL2 := Chg.stepE cL2 e9_8
     replace cL6 := Ext.trans cL6 e9_8
     try simp (disch := decide) only [outv_some, outv_none, put_puts]
     refine plK_pres (Ext.pres e9_8) ?_
     try simp -implicitDefEqProofs (disch := first | decide | assumption | omega) only [go_sem, RdS.len hdX sl22, RdS.idx hdX sl22, R1.intB hdX (Ext.pres eB), RdS.cells hdX, RdS.len hmX sl23, RdS.idx hmX sl23, RdS.cellB hmX (Ext.pres eB), RdS.cells hmX, RdS.len hdY sl22, RdS.idx hdY sl22, R1.intB hdY (Ext.pres eB), RdS.cells hdY, RdS.len hmY sl23, RdS.idx hmY sl23, RdS.cellB hmY (Ext.pres eB), RdS.cells hmY, RdS.len (OS.rd hO) sl22, RdS.idx (OS.rd hO) sl22, R1.intN (OS.rd hO), RdS.cells (OS.rd hO), BoxAt.cell hb0_0, BoxAt.cell hb0_1, wrap_id]
     refine hK _ _ ?_
     clear hK K
     refine den_blk ?_
     refine den_region TTok ?_
     intro K hK
     simp -implicitDefEqProofs (disch := first | decide | assumption | omega) only [go_sem, RdS.len hdX sl22, RdS.idx hdX sl22, R1.intB hdX (Ext.pres eB), RdS.cells hdX, RdS.len hmX sl23, RdS.idx hmX sl23, RdS.cellB hmX (Ext.pres eB), RdS.cells hmX, RdS.len hdY sl22, RdS.idx hdY sl22, R1.intB hdY (Ext.pres eB), RdS.cells hdY, RdS.len hmY sl23, RdS.idx hmY sl23, RdS.cellB hmY (Ext.pres eB), RdS.cells hmY, RdS.len (OS.rd hO) sl22, RdS.idx (OS.rd hO) sl22, R1.intN (OS.rd hO), RdS.cells (OS.rd hO), BoxAt.cell hb0_0, BoxAt.cell hb0_1, wrap_id]
     refine hK _ _ ?_
     clear hK K
     refine den_stop ?_
     exact ⟨(m + 1, acc + dimP X m * dimP Y ((n : Int) - m)), by simp [HasL, puts_at], ⟨by dsimp only; omega, by dsimp only; rw [sumP, hacc], cL6⟩, by first | omega | (dsimp only; omega)⟩
    ·try simp only [decide_eq_true_eq, decide_eq_false_iff_not, beq_iff_eq, beq_eq_false_iff_ne, bne_iff_ne, ne_eq, Bool.not_eq_true', Bool.not_eq_false', Bool.and_eq_true, Bool.or_eq_true, bne_eq_false_iff_eq] at c1
     refine den_exit ?_
     refine denX_code ?_
     refine denX_stop ?_
     refine denX_hit ?_
     refine den_region TTok ?_
     intro K hK
     simp -implicitDefEqProofs (disch := first | decide | assumption | omega) only [go_sem, RdS.len hdX sl22, RdS.idx hdX sl22, R1.intB hdX (Ext.pres eB), RdS.cells hdX, RdS.len hmX sl23, RdS.idx hmX sl23, RdS.cellB hmX (Ext.pres eB), RdS.cells hmX, RdS.len hdY sl22, RdS.idx hdY sl22, R1.intB hdY (Ext.pres eB), RdS.cells hdY, RdS.len hmY sl23, RdS.idx hmY sl23, RdS.cellB hmY (Ext.pres eB), RdS.cells hmY, RdS.len (OS.rd hO) sl22, RdS.idx (OS.rd hO) sl22, R1.intN (OS.rd hO), RdS.cells (OS.rd hO), BoxAt.cell hb0_0, BoxAt.cell hb0_1, wrap_id]
     refine op_bs1 sz22 rfl rfl ?_
     try simp -implicitDefEqProofs (disch := first | decide | assumption | omega) only [go_sem, RdS.len hdX sl22, RdS.idx hdX sl22, R1.intB hdX (Ext.pres eB), RdS.cells hdX, RdS.len hmX sl23, RdS.idx hmX sl23, RdS.cellB hmX (Ext.pres eB), RdS.cells hmX, RdS.len hdY sl22, RdS.idx hdY sl22, R1.intB hdY (Ext.pres eB), RdS.cells hdY, RdS.len hmY sl23, RdS.idx hmY sl23, RdS.cellB hmY (Ext.pres eB), RdS.cells hmY, RdS.len (OS.rd hO) sl22, RdS.idx (OS.rd hO) sl22, R1.intN (OS.rd hO), RdS.cells (OS.rd hO), BoxAt.cell hb0_0, BoxAt.cell hb0_1, wrap_id]
     refine op_append1 sz22 hO hfhO.nodup ⟨rfl, rfl⟩ List.nodup_nil (Apart.nil _) (by first | omega | (simp; omega)) rfl rfl ?_
     intro v10_3 h10_3 fp10_3 ho10_3 hn10_3 hs10_3 c10_3
     have hsz10_3 := c10_3.size
     have hfho10_3 : Fresh h0_1.size fp10_3 := Fresh.appd hfhO (Fresh.nil h8.size) (by omega) (by omega) hn10_3 hs10_3
     have sb9 : Sub [h0_1.size] h1_0.size fp10_3 := Sub.grow sbhO Sub.nil (by omega) hs10_3
     replace hb0_0 := BoxAt.chgA hb0_0 c10_3 (apart_lt hlhb0_0 hfhO (by omega))
     replace hb0_1 := BoxAt.chgA hb0_1 c10_3 (apart_lt hlhb0_1 hfhO (by omega))
     have := c10_3.size
     replace eB := Ext.then eB c10_3 (ge_of hfhO (by omega))
     replace cL2 := Chg.step cL2 c10_3 sbhO
     have hlho10_3 := OS.lt ho10_3
     try simp -implicitDefEqProofs (disch := first | decide | assumption | omega) only [go_sem, RdS.len hdX sl22, RdS.idx hdX sl22, R1.intB hdX (Ext.pres eB), RdS.cells hdX, RdS.len hmX sl23, RdS.idx hmX sl23, RdS.cellB hmX (Ext.pres eB), RdS.cells hmX, RdS.len hdY sl22, RdS.idx hdY sl22, R1.intB hdY (Ext.pres eB), RdS.cells hdY, RdS.len hmY sl23, RdS.idx hmY sl23, RdS.cellB hmY (Ext.pres eB), RdS.cells hmY, RdS.len (OS.rd ho10_3) sl22, RdS.idx (OS.rd ho10_3) sl22, R1.intN (OS.rd ho10_3), RdS.cells (OS.rd ho10_3), BoxAt.cell hb0_0, BoxAt.cell hb0_1, wrap_id]
     refine hK _ _ ?_
     clear hK K
     refine den_blk ?_
     refine den_region TTok ?_
     intro K hK
     simp -implicitDefEqProofs (disch := first | decide | assumption | omega) only [go_sem, RdS.len hdX sl22, RdS.idx hdX sl22, R1.intB hdX (Ext.pres eB), RdS.cells hdX, RdS.len hmX sl23, RdS.idx hmX sl23, RdS.cellB hmX (Ext.pres eB), RdS.cells hmX, RdS.len hdY sl22, RdS.idx hdY sl22, R1.intB hdY (Ext.pres eB), RdS.cells hdY, RdS.len hmY sl23, RdS.idx hmY sl23, RdS.cellB hmY (Ext.pres eB), RdS.cells hmY, RdS.len (OS.rd ho10_3) sl22, RdS.idx (OS.rd ho10_3) sl22, R1.intN (OS.rd ho10_3), RdS.cells (OS.rd ho10_3), BoxAt.cell hb0_0, BoxAt.cell hb0_1, wrap_id]
     refine hK _ _ ?_
     clear hK K
     refine den_stop ?_
     rw [hacc, show m = n + 1 by omega, range_step (fun q : Nat => sumP X Y (q : Int) (q + 1))] at ho10_3
     exact ⟨(n + 1, v10_3, fp10_3), by simp [HasL, puts_at], ⟨by first | omega | (dsimp only; omega), ho10_3, hfho10_3, sb9, cL2⟩, by first | omega | (dsimp only; omega)⟩
  ·try simp only [decide_eq_true_eq, decide_eq_false_iff_not, beq_iff_eq, beq_eq_false_iff_ne, bne_iff_ne, ne_eq, Bool.not_eq_true', Bool.not_eq_false', Bool.and_eq_true, Bool.or_eq_true, bne_eq_false_iff_eq] at c0
   refine den_exit ?_
   refine denX_code ?_
   refine denX_stop ?_
   refine denX_hit ?_
   refine den_seq ?_
   refine den_region TTok ?_
   intro K hK
   simp -implicitDefEqProofs (disch := first | decide | assumption | omega) only [go_sem, RdS.len hdX sl22, RdS.idx hdX sl22, R1.intB hdX (Ext.pres eB), RdS.cells hdX, RdS.len hmX sl23, RdS.idx hmX sl23, RdS.cellB hmX (Ext.pres eB), RdS.cells hmX, RdS.len hdY sl22, RdS.idx hdY sl22, R1.intB hdY (Ext.pres eB), RdS.cells hdY, RdS.len hmY sl23, RdS.idx hmY sl23, RdS.cellB hmY (Ext.pres eB), RdS.cells hmY, RdS.len (OS.rd hO) sl22, RdS.idx (OS.rd hO) sl22, R1.intN (OS.rd hO), RdS.cells (OS.rd hO), wrap_id]
   refine hK _ _ ?_
   clear hK K
   refine den_ret ?_
   simp (disch := decide) only [resP_1, puts_same, puts_ne]
   have e : tdP X Y = (List.range n).map fun q : Nat => sumP X Y (q : Int) (q + 1) := by rw [tdP, show X.dims.length + Y.dims.length - 1 = n by omega]
   rw [e]
   exact ⟨_, _, rfl, hO, hfhO.mono (by omega), eB⟩

set_option maxRecDepth 100000 in
theorem iDims_ok (vX vY : Value) (X : Cx) (Y : Cx) (h : Heap) (rX : RC h vX X) (rY : RC h vY Y) (hX : IsC X) (hY : IsC Y) : CallA Try.prog 195 #[vX, vY] h fun v' h' => ∃ w0 f0, v' = w0 ∧ O1 h' w0 (tdP X Y) f0 ∧ Fresh h.size f0 ∧ Ext h h' := by
 obtain ⟨vdX, vmX, rfl, hdX, hmX⟩ := rX
 have hledX := RdS.le hdX
 have hlemX := RdS.le hmX
 obtain ⟨vdY, vmY, rfl, hdY, hmY⟩ := rY
 have hledY := RdS.le hdY
 have hlemY := RdS.le hmY
 have hlX := hX.len
 have hlY := hY.len
 refine callA_intro TTok (args := [_, _]) Try.func195 (by kernel_rfl) rfl 47 rfl (by simp) [.tmp 4] rfl ?_
 simp only [idxs, Nat.reduceAdd]
 refine den_seq ?_
 refine den_region TTok ?_
 intro K hK
 simp -implicitDefEqProofs (disch := first | decide | assumption | omega) only [go_sem, RdS.len hdX sl22, RdS.idx hdX sl22, R1.intB hdX (HPres.refl _), RdS.cells hdX, RdS.len hmX sl23, RdS.idx hmX sl23, RdS.cellB hmX (HPres.refl _), RdS.cells hmX, RdS.len hdY sl22, RdS.idx hdY sl22, R1.intB hdY (HPres.refl _), RdS.cells hdY, RdS.len hmY sl23, RdS.idx hmY sl23, RdS.cellB hmY (HPres.refl _), RdS.cells hmY, wrap_id, Int.add_sub_cancel]
 refine op_box (cs := #[.int .i64 (X.p), vdX, vmX]) rfl ?_
 intro h0_0 e0_0 hb0_0 z0_0
 have := Ext.size e0_0
 have eB := e0_0
 have hfhb0_0 : Fresh h.size [h.size] := Fresh.one _
 have hlhb0_0 := one_lt (show h.size < h0_0.size by omega)
 try simp -implicitDefEqProofs (disch := first | decide | assumption | omega) only [go_sem, RdS.len hdX sl22, RdS.idx hdX sl22, R1.intB hdX (Ext.pres eB), RdS.cells hdX, RdS.len hmX sl23, RdS.idx hmX sl23, RdS.cellB hmX (Ext.pres eB), RdS.cells hmX, RdS.len hdY sl22, RdS.idx hdY sl22, R1.intB hdY (Ext.pres eB), RdS.cells hdY, RdS.len hmY sl23, RdS.idx hmY sl23, RdS.cellB hmY (Ext.pres eB), RdS.cells hmY, BoxAt.cell hb0_0, wrap_id, Int.add_sub_cancel]
 refine op_box (cs := #[.int .i64 (Y.p), vdY, vmY]) rfl ?_
 intro h0_1 e0_1 hb0_1 z0_1
 replace hb0_0 := BoxAt.ext hb0_0 e0_1
 have := Ext.size e0_1
 replace eB := Ext.trans eB e0_1
 have hfhb0_1 : Fresh h0_0.size [h0_0.size] := Fresh.one _
 have hlhb0_1 := one_lt (show h0_0.size < h0_1.size by omega)
 try simp -implicitDefEqProofs (disch := first | decide | assumption | omega) only [go_sem, RdS.len hdX sl22, RdS.idx hdX sl22, R1.intB hdX (Ext.pres eB), RdS.cells hdX, RdS.len hmX sl23, RdS.idx hmX sl23, RdS.cellB hmX (Ext.pres eB), RdS.cells hmX, RdS.len hdY sl22, RdS.idx hdY sl22, R1.intB hdY (Ext.pres eB), RdS.cells hdY, RdS.len hmY sl23, RdS.idx hmY sl23, RdS.cellB hmY (Ext.pres eB), RdS.cells hmY, BoxAt.cell hb0_0, BoxAt.cell hb0_1, wrap_id, Int.add_sub_cancel]
 refine hK _ _ ?_
 clear hK K
 refine den_seq ?_
 refine den_draw TTok mixed [] [(0, true), (2, true), (1, false), (3, false), (4, true), (5, true), (6, false), (7, true)] (by kernel_rfl) ?_
 intro K hK
 simp -implicitDefEqProofs (disch := first | decide | assumption | omega) only [go_sem, ld31, RdS.len hdX sl22, RdS.idx hdX sl22, R1.intB hdX (Ext.pres eB), RdS.cells hdX, RdS.len hmX sl23, RdS.idx hmX sl23, RdS.cellB hmX (Ext.pres eB), RdS.cells hmX, RdS.len hdY sl22, RdS.idx hdY sl22, R1.intB hdY (Ext.pres eB), RdS.cells hdY, RdS.len hmY sl23, RdS.idx hmY sl23, RdS.cellB hmY (Ext.pres eB), RdS.cells hmY, BoxAt.cell hb0_0, BoxAt.cell hb0_1, wrap_id, Int.add_sub_cancel]
 try simp -implicitDefEqProofs (disch := first | decide | assumption | omega) only [go_sem, RdS.len hdX sl22, RdS.idx hdX sl22, R1.intB hdX (Ext.pres eB), RdS.cells hdX, RdS.len hmX sl23, RdS.idx hmX sl23, RdS.cellB hmX (Ext.pres eB), RdS.cells hmX, RdS.len hdY sl22, RdS.idx hdY sl22, R1.intB hdY (Ext.pres eB), RdS.cells hdY, RdS.len hmY sl23, RdS.idx hmY sl23, RdS.cellB hmY (Ext.pres eB), RdS.cells hmY, BoxAt.cell hb0_0, BoxAt.cell hb0_1, wrap_id, Int.add_sub_cancel]
 refine CallA.mono (top_ok _ X _ ⟨_, _, rfl, (RdS.pres hdX (Ext.pres eB)), (RdS.pres hmX (Ext.pres eB))⟩) ?_
 intro v_ h1_1
 rintro ⟨rfl, e1_1⟩
 replace hb0_0 := BoxAt.ext hb0_0 e1_1
 replace hb0_1 := BoxAt.ext hb0_1 e1_1
 have := Ext.size e1_1
 replace eB := Ext.trans eB e1_1
 try simp (disch := decide) only [outv_some, outv_none, put_puts]
 refine plK_pres (Ext.pres e1_1) ?_
 try simp -implicitDefEqProofs (disch := first | decide | assumption | omega) only [go_sem, RdS.len hdX sl22, RdS.idx hdX sl22, R1.intB hdX (Ext.pres eB), RdS.cells hdX, RdS.len hmX sl23, RdS.idx hmX sl23, RdS.cellB hmX (Ext.pres eB), RdS.cells hmX, RdS.len hdY sl22, RdS.idx hdY sl22, R1.intB hdY (Ext.pres eB), RdS.cells hdY, RdS.len hmY sl23, RdS.idx hmY sl23, RdS.cellB hmY (Ext.pres eB), RdS.cells hmY, BoxAt.cell hb0_0, BoxAt.cell hb0_1, wrap_id, Int.add_sub_cancel]
 try simp -implicitDefEqProofs (disch := first | decide | assumption | omega) only [go_sem, RdS.len hdX sl22, RdS.idx hdX sl22, R1.intB hdX (Ext.pres eB), RdS.cells hdX, RdS.len hmX sl23, RdS.idx hmX sl23, RdS.cellB hmX (Ext.pres eB), RdS.cells hmX, RdS.len hdY sl22, RdS.idx hdY sl22, R1.intB hdY (Ext.pres eB), RdS.cells hdY, RdS.len hmY sl23, RdS.idx hmY sl23, RdS.cellB hmY (Ext.pres eB), RdS.cells hmY, BoxAt.cell hb0_0, BoxAt.cell hb0_1, wrap_id, Int.add_sub_cancel]
 refine CallA.mono (top_ok _ Y _ ⟨_, _, rfl, (RdS.pres hdY (Ext.pres eB)), (RdS.pres hmY (Ext.pres eB))⟩) ?_
 intro v_ h1_3
 rintro ⟨rfl, e1_3⟩
 replace hb0_0 := BoxAt.ext hb0_0 e1_3
 replace hb0_1 := BoxAt.ext hb0_1 e1_3
 have := Ext.size e1_3
 replace eB := Ext.trans eB e1_3
 try simp (disch := decide) only [outv_some, outv_none, put_puts]
 refine plK_pres (Ext.pres e1_3) ?_
 try simp -implicitDefEqProofs (disch := first | decide | assumption | omega) only [go_sem, RdS.len hdX sl22, RdS.idx hdX sl22, R1.intB hdX (Ext.pres eB), RdS.cells hdX, RdS.len hmX sl23, RdS.idx hmX sl23, RdS.cellB hmX (Ext.pres eB), RdS.cells hmX, RdS.len hdY sl22, RdS.idx hdY sl22, R1.intB hdY (Ext.pres eB), RdS.cells hdY, RdS.len hmY sl23, RdS.idx hmY sl23, RdS.cellB hmY (Ext.pres eB), RdS.cells hmY, BoxAt.cell hb0_0, BoxAt.cell hb0_1, wrap_id, Int.add_sub_cancel]
 refine op_make sz22 rfl rfl (by omega) (by omega) OI 0 (fun _ => ⟨rfl, rfl⟩) ?_
 intro v1_6 h1_6 ho1_6 e1_6
 replace hb0_0 := BoxAt.ext hb0_0 e1_6
 replace hb0_1 := BoxAt.ext hb0_1 e1_6
 have := Ext.size e1_6
 replace eB := Ext.trans eB e1_6
 have hfho1_6 : Fresh h1_3.size [h1_3.size] := Fresh.one _
 have hlenho1_6 : (List.replicate ((((((X.dims).length : Int) - 1) + (((Y.dims).length : Int) - 1)) + (1 : Int))).toNat (0 : Int)).length = ((((((X.dims).length : Int) - 1) + (((Y.dims).length : Int) - 1)) + (1 : Int))).toNat := List.length_replicate
 have hlho1_6 := OS.lt ho1_6
 try simp (disch := decide) only [outv_some, outv_none, put_puts]
 refine plK_pres (Ext.pres e1_6) ?_
 try simp -implicitDefEqProofs (disch := first | decide | assumption | omega) only [go_sem, RdS.len hdX sl22, RdS.idx hdX sl22, R1.intB hdX (Ext.pres eB), RdS.cells hdX, RdS.len hmX sl23, RdS.idx hmX sl23, RdS.cellB hmX (Ext.pres eB), RdS.cells hmX, RdS.len hdY sl22, RdS.idx hdY sl22, R1.intB hdY (Ext.pres eB), RdS.cells hdY, RdS.len hmY sl23, RdS.idx hmY sl23, RdS.cellB hmY (Ext.pres eB), RdS.cells hmY, RdS.len (OS.rd ho1_6) sl22, RdS.idx (OS.rd ho1_6) sl22, R1.intN (OS.rd ho1_6), RdS.cells (OS.rd ho1_6), BoxAt.cell hb0_0, BoxAt.cell hb0_1, wrap_id, Int.add_sub_cancel]
 refine hK _ _ ?_
 clear hK K
 refine den_seq ?_
 refine den_seq ?_
 refine den_region TTok ?_
 intro K hK
 simp -implicitDefEqProofs (disch := first | decide | assumption | omega) only [go_sem, fa31_1, ld22, RdS.len hdX sl22, RdS.idx hdX sl22, R1.intB hdX (Ext.pres eB), RdS.cells hdX, RdS.len hmX sl23, RdS.idx hmX sl23, RdS.cellB hmX (Ext.pres eB), RdS.cells hmX, RdS.len hdY sl22, RdS.idx hdY sl22, R1.intB hdY (Ext.pres eB), RdS.cells hdY, RdS.len hmY sl23, RdS.idx hmY sl23, RdS.cellB hmY (Ext.pres eB), RdS.cells hmY, RdS.len (OS.rd ho1_6) sl22, RdS.idx (OS.rd ho1_6) sl22, R1.intN (OS.rd ho1_6), RdS.cells (OS.rd ho1_6), BoxAt.cell hb0_0, BoxAt.cell hb0_1, wrap_id, Int.add_sub_cancel]
 refine hK _ _ ?_
 clear hK K
 refine den_block ?_
 refine den_sel [20, 3, 5, 18, 19] ?_
 intro env_1
 simp only [go_sem]
 refine den_loopS (σ := Nat) (fun st_ => [(20, .int .i64 (st_ : Int))]) (fun st_ H => st_ ≤ X.dims.length ∧ O1 H v1_6 (tkP X Y (X.dims.length + Y.dims.length - 1) st_) [h1_3.size] ∧ Chg [h1_3.size] h1_6 H) (fun st_ => X.dims.length - st_) 0 ?_ ?_
 ·exact ⟨by first | (simp; done) | (dsimp only; omega) | (simp; omega), by rw [tk_zero, show X.dims.length + Y.dims.length - 1 = ((X.dims.length : Int) - 1 + ((Y.dims.length : Int) - 1) + 1).toNat by omega]; exact ho1_6, Chg.refl _ _⟩
 ·rintro k h4 ee3 ⟨hi0, hO, cL2⟩
  replace hb0_0 := BoxAt.chgA hb0_0 cL2 (apart_lt hlhb0_0 hfho1_6 (by omega))
  replace hb0_1 := BoxAt.chgA hb0_1 cL2 (apart_lt hlhb0_1 hfho1_6 (by omega))
  have := cL2.size
  replace eB := Ext.then eB cL2 (ge_of hfho1_6 (by omega))
  have sbhO : Sub [h1_3.size] h1_6.size [h1_3.size] := Sub.refl
  have hfhO := hfho1_6
  have hlhO := OS.lt hO
  simp only [List.cons_append, List.nil_append]
  refine den_seq ?_
  refine den_region TTok ?_
  intro K hK
  simp -implicitDefEqProofs (disch := first | decide | assumption | omega) only [go_sem, RdS.len hdX sl22, RdS.idx hdX sl22, R1.intB hdX (Ext.pres eB), RdS.cells hdX, RdS.len hmX sl23, RdS.idx hmX sl23, RdS.cellB hmX (Ext.pres eB), RdS.cells hmX, RdS.len hdY sl22, RdS.idx hdY sl22, R1.intB hdY (Ext.pres eB), RdS.cells hdY, RdS.len hmY sl23, RdS.idx hmY sl23, RdS.cellB hmY (Ext.pres eB), RdS.cells hmY, RdS.len (OS.rd hO) sl22, RdS.idx (OS.rd hO) sl22, R1.intN (OS.rd hO), RdS.cells (OS.rd hO), BoxAt.cell hb0_1, wrap_id, Int.add_sub_cancel]
  refine hK _ _ ?_
  clear hK K
  refine den_seq ?_
  refine den_cond rfl (fun c0 => ?_) (fun c0 => ?_)
  ·try simp only [decide_eq_true_eq, decide_eq_false_iff_not, beq_iff_eq, beq_eq_false_iff_ne, bne_iff_ne, ne_eq, Bool.not_eq_true', Bool.not_eq_false', Bool.and_eq_true, Bool.or_eq_true, bne_eq_false_iff_eq] at c0
   refine den_skip ?_
   refine den_seq ?_
   refine den_block ?_
   refine den_seq ?_
   refine den_region TTok ?_
   intro K hK
   simp -implicitDefEqProofs (disch := first | decide | assumption | omega) only [go_sem, ld2, RdS.len hdX sl22, RdS.idx hdX sl22, R1.intB hdX (Ext.pres eB), RdS.cells hdX, RdS.len hmX sl23, RdS.idx hmX sl23, RdS.cellB hmX (Ext.pres eB), RdS.cells hmX, RdS.len hdY sl22, RdS.idx hdY sl22, R1.intB hdY (Ext.pres eB), RdS.cells hdY, RdS.len hmY sl23, RdS.idx hmY sl23, RdS.cellB hmY (Ext.pres eB), RdS.cells hmY, RdS.len (OS.rd hO) sl22, RdS.idx (OS.rd hO) sl22, R1.intN (OS.rd hO), RdS.cells (OS.rd hO), BoxAt.cell hb0_1, wrap_id, Int.add_sub_cancel]
   refine hK _ _ ?_
   clear hK K
   refine den_seq ?_
   refine den_region TTok ?_
   intro K hK
   simp -implicitDefEqProofs (disch := first | decide | assumption | omega) only [go_sem, fa31_1, ld22, RdS.len hdX sl22, RdS.idx hdX sl22, R1.intB hdX (Ext.pres eB), RdS.cells hdX, RdS.len hmX sl23, RdS.idx hmX sl23, RdS.cellB hmX (Ext.pres eB), RdS.cells hmX, RdS.len hdY sl22, RdS.idx hdY sl22, R1.intB hdY (Ext.pres eB), RdS.cells hdY, RdS.len hmY sl23, RdS.idx hmY sl23, RdS.cellB hmY (Ext.pres eB), RdS.cells hmY, RdS.len (OS.rd hO) sl22, RdS.idx (OS.rd hO) sl22, R1.intN (OS.rd hO), RdS.cells (OS.rd hO), BoxAt.cell hb0_1, wrap_id, Int.add_sub_cancel]
   refine hK _ _ ?_
   clear hK K
   refine den_block ?_
   refine den_sel [28, 3, 5, 6, 7, 18, 19, 20, 26, 27] ?_
   intro env_5
   simp only [go_sem]
   refine den_loopS (σ := Nat) (fun st_ => [(28, .int .i64 (st_ : Int))]) (fun st_ H => st_ ≤ Y.dims.length ∧ O1 H v1_6 (mix (tkP X Y (X.dims.length + Y.dims.length - 1) (k + 1)) (tkP X Y (X.dims.length + Y.dims.length - 1) k) (k + st_)) [h1_3.size] ∧ Chg [h1_3.size] h4 H) (fun st_ => Y.dims.length - st_) 0 ?_ ?_
   ·exact ⟨by first | (simp; done) | (dsimp only; omega) | (simp; omega), by show O1 _ _ (mix _ _ k) _; rw [tk_start]; exact hO, Chg.refl _ _⟩
   ·rintro m h8 ee7 ⟨hi0, hI, cL6⟩
    replace hb0_1 := BoxAt.chgA hb0_1 cL6 (apart_lt hlhb0_1 hfhO (by omega))
    have := cL6.size
    replace eB := Ext.then eB cL6 (ge_of hfhO (by omega))
    replace cL2 := Chg.step cL2 cL6 sbhO
    have sbhI : Sub [h1_3.size] h4.size [h1_3.size] := Sub.refl
    have hfhI := hfhO
    have sb9 : Sub [h1_3.size] h1_6.size [h1_3.size] := Sub.trans sbhI sbhO (by omega)
    have hlhI := OS.lt hI
    simp only [List.cons_append, List.nil_append]
    refine den_seq ?_
    refine den_region TTok ?_
    intro K hK
    simp -implicitDefEqProofs (disch := first | decide | assumption | omega) only [go_sem, RdS.len hdX sl22, RdS.idx hdX sl22, R1.intB hdX (Ext.pres eB), RdS.cells hdX, RdS.len hmX sl23, RdS.idx hmX sl23, RdS.cellB hmX (Ext.pres eB), RdS.cells hmX, RdS.len hdY sl22, RdS.idx hdY sl22, R1.intB hdY (Ext.pres eB), RdS.cells hdY, RdS.len hmY sl23, RdS.idx hmY sl23, RdS.cellB hmY (Ext.pres eB), RdS.cells hmY, RdS.len (OS.rd hI) sl22, RdS.idx (OS.rd hI) sl22, R1.intN (OS.rd hI), RdS.cells (OS.rd hI), BoxAt.cell hb0_1, wrap_id, Int.add_sub_cancel]
    refine hK _ _ ?_
    clear hK K
    refine den_seq ?_
    refine den_cond rfl (fun c1 => ?_) (fun c1 => ?_)
    ·try simp only [decide_eq_true_eq, decide_eq_false_iff_not, beq_iff_eq, beq_eq_false_iff_ne, bne_iff_ne, ne_eq, Bool.not_eq_true', Bool.not_eq_false', Bool.and_eq_true, Bool.or_eq_true, bne_eq_false_iff_eq] at c1
     refine den_skip ?_
     refine den_seq ?_
     refine den_block ?_
     refine den_seq ?_
     refine den_region TTok ?_
     intro K hK
     simp -implicitDefEqProofs (disch := first | decide | assumption | omega) only [go_sem, ld2, RdS.len hdX sl22, RdS.idx hdX sl22, R1.intB hdX (Ext.pres eB), RdS.cells hdX, RdS.len hmX sl23, RdS.idx hmX sl23, RdS.cellB hmX (Ext.pres eB), RdS.cells hmX, RdS.len hdY sl22, RdS.idx hdY sl22, R1.intB hdY (Ext.pres eB), RdS.cells hdY, RdS.len hmY sl23, RdS.idx hmY sl23, RdS.cellB hmY (Ext.pres eB), RdS.cells hmY, RdS.len (OS.rd hI) sl22, RdS.idx (OS.rd hI) sl22, R1.intN (OS.rd hI), RdS.cells (OS.rd hI), BoxAt.cell hb0_1, wrap_id, Int.add_sub_cancel]
     refine hK _ _ ?_
     clear hK K
     have hml : (mix (tkP X Y (X.dims.length + Y.dims.length - 1) (k + 1)) (tkP X Y (X.dims.length + Y.dims.length - 1) k) (k + m)).length = (X.dims.length + Y.dims.length - 1) := by rw [mix_len _ _ _ (by rw [tkP_len, tkP_len]), tkP_len]
     have hat := mix_at (tkP X Y (X.dims.length + Y.dims.length - 1) (k + 1)) (tkP X Y (X.dims.length + Y.dims.length - 1) k) (k + m) (k + m) (by rw [tkP_len, tkP_len]) (by rw [tkP_len]; omega)
     rw [if_neg (by omega), tkP_get X Y (by omega)] at hat
     have hs := sumP_bnd hX hY ((k + m : Nat) : Int) k
     have hdx := dimP_at (X := X) (k := k) (by omega)
     have hdy := dimP_at (X := Y) (k := m) (by omega)
     have hm1 := mul64 (dimP_bnd hX k) (dimP_bnd hY m)
     rw [hdx, hdy] at hm1
     have ekm : ((k : Int) + (m : Int)).toNat = k + m := by omega
     refine den_region TTok ?_
     intro K hK
     simp -implicitDefEqProofs (disch := first | decide | assumption | omega) only [go_sem, ld2, RdS.len hdX sl22, RdS.idx hdX sl22, R1.intB hdX (Ext.pres eB), RdS.cells hdX, RdS.len hmX sl23, RdS.idx hmX sl23, RdS.cellB hmX (Ext.pres eB), RdS.cells hmX, RdS.len hdY sl22, RdS.idx hdY sl22, R1.intB hdY (Ext.pres eB), RdS.cells hdY, RdS.len hmY sl23, RdS.idx hmY sl23, RdS.cellB hmY (Ext.pres eB), RdS.cells hmY, RdS.len (OS.rd hI) sl22, RdS.idx (OS.rd hI) sl22, R1.intN (OS.rd hI), RdS.cells (OS.rd hI), BoxAt.cell hb0_1, wrap_id, Int.add_sub_cancel, ekm]
     refine op_store1 (j := (((k : Int) + (m : Int))).toNat) st2 hI hfhI.nodup (by first | omega | (simp; omega)) rfl rfl ?_
     intro h8_11 ho8_11 c8_11
     have hsz8_11 := c8_11.size
     replace hb0_1 := BoxAt.chgA hb0_1 c8_11 (apart_lt hlhb0_1 hfhI (by omega))
     have := c8_11.size
     replace eB := Ext.then eB c8_11 (ge_of hfhI (by omega))
     replace cL2 := Chg.step cL2 c8_11 sb9
     replace cL6 := Chg.step cL6 c8_11 sbhI
     have hlho8_11 := OS.lt ho8_11
     have hlenho8_11 : ((mix (tkP X Y (X.dims.length + Y.dims.length - 1) (k + 1)) (tkP X Y (X.dims.length + Y.dims.length - 1) k) (k + m)).set ((((k : Int) + (m : Int))).toNat) (((mix (tkP X Y (X.dims.length + Y.dims.length - 1) (k + 1)) (tkP X Y (X.dims.length + Y.dims.length - 1) k) (k + m)).getD (((k : Int) + (m : Int))).toNat 0) + (((X.dims).getD k 0) * ((Y.dims).getD m 0))) : List Int).length = (mix (tkP X Y (X.dims.length + Y.dims.length - 1) (k + 1)) (tkP X Y (X.dims.length + Y.dims.length - 1) k) (k + m) : List Int).length := List.length_set
     try simp -implicitDefEqProofs (disch := first | decide | assumption | omega) only [go_sem, RdS.len hdX sl22, RdS.idx hdX sl22, R1.intB hdX (Ext.pres eB), RdS.cells hdX, RdS.len hmX sl23, RdS.idx hmX sl23, RdS.cellB hmX (Ext.pres eB), RdS.cells hmX, RdS.len hdY sl22, RdS.idx hdY sl22, R1.intB hdY (Ext.pres eB), RdS.cells hdY, RdS.len hmY sl23, RdS.idx hmY sl23, RdS.cellB hmY (Ext.pres eB), RdS.cells hmY, RdS.len (OS.rd ho8_11) sl22, RdS.idx (OS.rd ho8_11) sl22, R1.intN (OS.rd ho8_11), RdS.cells (OS.rd ho8_11), BoxAt.cell hb0_1, wrap_id, Int.add_sub_cancel, ekm]
     refine hK _ _ ?_
     clear hK K
     refine den_blk ?_
     refine den_region TTok ?_
     intro K hK
     simp -implicitDefEqProofs (disch := first | decide | assumption | omega) only [go_sem, RdS.len hdX sl22, RdS.idx hdX sl22, R1.intB hdX (Ext.pres eB), RdS.cells hdX, RdS.len hmX sl23, RdS.idx hmX sl23, RdS.cellB hmX (Ext.pres eB), RdS.cells hmX, RdS.len hdY sl22, RdS.idx hdY sl22, R1.intB hdY (Ext.pres eB), RdS.cells hdY, RdS.len hmY sl23, RdS.idx hmY sl23, RdS.cellB hmY (Ext.pres eB), RdS.cells hmY, RdS.len (OS.rd ho8_11) sl22, RdS.idx (OS.rd ho8_11) sl22, R1.intN (OS.rd ho8_11), RdS.cells (OS.rd ho8_11), BoxAt.cell hb0_1, wrap_id, Int.add_sub_cancel]
     refine hK _ _ ?_
     clear hK K
     refine den_stop ?_
     rw [ekm, ← hdx, ← hdy, tk_step X Y _ _ _ (by omega), Nat.add_assoc] at ho8_11
     exact ⟨m + 1, by simp [HasL, puts_at], ⟨by first | omega | (dsimp only; omega), ho8_11, cL6⟩, by first | omega | (dsimp only; omega)⟩
    ·try simp only [decide_eq_true_eq, decide_eq_false_iff_not, beq_iff_eq, beq_eq_false_iff_ne, bne_iff_ne, ne_eq, Bool.not_eq_true', Bool.not_eq_false', Bool.and_eq_true, Bool.or_eq_true, bne_eq_false_iff_eq] at c1
     refine den_exit ?_
     refine denX_code ?_
     refine denX_stop ?_
     refine denX_hit ?_
     refine den_blk ?_
     refine den_region TTok ?_
     intro K hK
     simp -implicitDefEqProofs (disch := first | decide | assumption | omega) only [go_sem, RdS.len hdX sl22, RdS.idx hdX sl22, R1.intB hdX (Ext.pres eB), RdS.cells hdX, RdS.len hmX sl23, RdS.idx hmX sl23, RdS.cellB hmX (Ext.pres eB), RdS.cells hmX, RdS.len hdY sl22, RdS.idx hdY sl22, R1.intB hdY (Ext.pres eB), RdS.cells hdY, RdS.len hmY sl23, RdS.idx hmY sl23, RdS.cellB hmY (Ext.pres eB), RdS.cells hmY, RdS.len (OS.rd hI) sl22, RdS.idx (OS.rd hI) sl22, R1.intN (OS.rd hI), RdS.cells (OS.rd hI), BoxAt.cell hb0_1, wrap_id, Int.add_sub_cancel]
     refine hK _ _ ?_
     clear hK K
     refine den_stop ?_
     rw [tk_end X Y _ _ _ (by omega)] at hI
     exact ⟨k + 1, by simp [HasL, puts_at], ⟨by first | omega | (dsimp only; omega), hI, cL2⟩, by first | omega | (dsimp only; omega)⟩
  ·try simp only [decide_eq_true_eq, decide_eq_false_iff_not, beq_iff_eq, beq_eq_false_iff_ne, bne_iff_ne, ne_eq, Bool.not_eq_true', Bool.not_eq_false', Bool.and_eq_true, Bool.or_eq_true, bne_eq_false_iff_eq] at c0
   refine den_exit ?_
   refine denX_code ?_
   refine denX_stop ?_
   refine denX_hit ?_
   refine den_seq ?_
   refine den_region TTok ?_
   intro K hK
   simp -implicitDefEqProofs (disch := first | decide | assumption | omega) only [go_sem, RdS.len hdX sl22, RdS.idx hdX sl22, R1.intB hdX (Ext.pres eB), RdS.cells hdX, RdS.len hmX sl23, RdS.idx hmX sl23, RdS.cellB hmX (Ext.pres eB), RdS.cells hmX, RdS.len hdY sl22, RdS.idx hdY sl22, R1.intB hdY (Ext.pres eB), RdS.cells hdY, RdS.len hmY sl23, RdS.idx hmY sl23, RdS.cellB hmY (Ext.pres eB), RdS.cells hmY, RdS.len (OS.rd hO) sl22, RdS.idx (OS.rd hO) sl22, R1.intN (OS.rd hO), RdS.cells (OS.rd hO), wrap_id, Int.add_sub_cancel]
   refine hK _ _ ?_
   clear hK K
   refine den_ret ?_
   simp (disch := decide) only [resP_1, puts_same, puts_ne]
   rw [show k = X.dims.length by omega, tk_all hlX.1] at hO
   exact ⟨_, _, rfl, hO, hfhO.mono (by omega), eB⟩
end Go.Proofs.Ytjjjgllbocgkbaa

namespace Go.Proofs.Ytjjjgllbocgkbaa
open Go
theorem tdP_len (X Y : Cx) : (tdP X Y).length = X.dims.length + Y.dims.length - 1 := by simp [tdP]
theorem tdP_get (X Y : Cx) {n : Nat} (h : n < X.dims.length + Y.dims.length - 1) : (tdP X Y).getD n 0 = sumP X Y n (n + 1) := by
 rw [tdP, List.getD_eq_getElem?_getD, List.getElem?_eq_getElem (by simpa using h)]; simp
theorem tdP_bnd {X Y : Cx} (hX : IsC X) (hY : IsC Y) {n : Nat} (h : n < X.dims.length + Y.dims.length - 1) : 0 ≤ (tdP X Y).getD n 0 ∧ (tdP X Y).getD n 0 ≤ 704 := by
 have := sumP_bnd hX hY (n : Int) (n + 1)
 have := hX.len; have := hY.len
 rw [tdP_get X Y h]; omega
theorem sumP_mono {X Y : Cx} (hX : IsC X) (hY : IsC Y) (s : Int) {k : Nat} : ∀ {m : Nat}, k ≤ m → sumP X Y s k ≤ sumP X Y s m
 | 0, h => by rw [show k = 0 by omega]; exact Int.le_refl _
 | m + 1, h => by
  by_cases e : k = m + 1
  ·rw [e]; exact Int.le_refl _
  ·have := sumP_mono hX hY s (k := k) (m := m) (by omega)
   have := mul64 (dimP_bnd hX m) (dimP_bnd hY (s - m))
   rw [sumP]; omega
theorem place_lt {X Y : Cx} (hX : IsC X) (hY : IsC Y) {i j a b : Int} (hi : 0 ≤ i ∧ i ≤ (X.dims.length : Int) - 1) (hj : 0 ≤ j ∧ j ≤ (Y.dims.length : Int) - 1) (ha : 0 ≤ a ∧ a < dimP X i) (hb : 0 ≤ b ∧ b < dimP Y j) :
  0 ≤ placeP X Y i a j b ∧ placeP X Y i a j b < (tdP X Y).getD (i + j).toNat 0 := by
 have e1 : (((i + j).toNat : Nat) : Int) = i + j := by omega
 have ei : ((i.toNat : Nat) : Int) = i := by omega
 rw [tdP_get X Y (by omega), e1]
 have h1 := sumP_mono hX hY (i + j) (k := i.toNat + 1) (m := (i + j).toNat + 1) (by omega)
 rw [sumP, ei, show i + j - i = j by omega] at h1
 have h2 := (sumP_bnd hX hY (i + j) i.toNat).1
 have h3 : (a + 1) * dimP Y j ≤ dimP X i * dimP Y j := Int.mul_le_mul_of_nonneg_right (by omega) (by omega)
 have h4 : 0 ≤ a * dimP Y j := Int.mul_nonneg ha.1 (by omega)
 rw [Int.add_mul, Int.one_mul] at h3
 unfold placeP
 omega
def pvI (X Y : Cx) (i : Int) (a : Nat) (j x : Int) (v : List Int) : Nat → List Int → List Int
 | 0, o => o
 | m + 1, o => (pvI X Y i a j x v m o).set (placeP X Y i a j m).toNat ((x * v.getD m 0).tmod X.p)
def pvO (X Y : Cx) (i : Int) (u : List Int) (j : Int) (v : List Int) : Nat → List Int
 | 0 => List.replicate ((tdP X Y).getD (i + j).toNat 0).toNat 0
 | a + 1 => pvI X Y i a j (u.getD a 0) v v.length (pvO X Y i u j v a)
theorem pvI_len (X Y : Cx) (i : Int) (a : Nat) (j x : Int) (v : List Int) : ∀ (m : Nat) (o : List Int), (pvI X Y i a j x v m o).length = o.length
 | 0, _ => rfl
 | m + 1, o => by rw [pvI, List.length_set, pvI_len X Y i a j x v m o]
theorem pvO_len (X Y : Cx) (i : Int) (u : List Int) (j : Int) (v : List Int) : ∀ a : Nat, (pvO X Y i u j v a).length = ((tdP X Y).getD (i + j).toNat 0).toNat
 | 0 => by simp [pvO]
 | a + 1 => by rw [pvO, pvI_len, pvO_len X Y i u j v a]
structure PvOk (X Y : Cx) (i : Int) (u : List Int) (j : Int) (v : List Int) : Prop where
 cX : IsC X
 cY : IsC Y
 p : 0 < X.p ∧ X.p ≤ 7
 ci : 0 ≤ i ∧ i ≤ (X.dims.length : Int) - 1
 cj : 0 ≤ j ∧ j ≤ (Y.dims.length : Int) - 1
 lX : X.dims.length ≤ 6
 lY : Y.dims.length ≤ 6
 cu : (u.length : Int) = dimP X i ∧ Bnd X.p u
 cv : (v.length : Int) = dimP Y j ∧ Bnd X.p v
set_option maxRecDepth 100000 in
theorem iPairs_ok (vX vY vu vv : Value) (X : Cx) (Y : Cx) (i : Int) (u : List Int) (j : Int) (v : List Int) (h : Heap) (rX : RC h vX X) (rY : RC h vY Y) (ru : R1 h vu u) (rv : R1 h vv v) (hk : PvOk X Y i u j v) : CallA Try.prog 133 #[vX, vY, .int .i64 i, vu, .int .i64 j, vv] h fun v' h' => ∃ w0 f0, v' = w0 ∧ O1 h' w0 (pvO X Y i u j v u.length) f0 ∧ Fresh h.size f0 ∧ Ext h h' := by
 obtain ⟨vdX, vmX, rfl, hdX, hmX⟩ := rX
 have hledX := RdS.le hdX
 have hlemX := RdS.le hmX
 obtain ⟨vdY, vmY, rfl, hdY, hmY⟩ := rY
 have hledY := RdS.le hdY
 have hlemY := RdS.le hmY
 have hleu := RdS.le ru
 have hlev := RdS.le rv
 have hX := hk.cX
 have hY := hk.cY
 have hpi := hk.p
 have hki := hk.ci
 have hkj := hk.cj
 have hkX := hk.lX
 have hkY := hk.lY
 have hku := hk.cu.1
 have hkv := hk.cv.1
 have hdimX := dimP_bnd hk.cX i
 have hdimY := dimP_bnd hk.cY j
 have htl := tdP_len X Y
 have htb := tdP_bnd hk.cX hk.cY (n := (i + j).toNat) (by omega)
 refine callA_intro TTok (args := [_, _, _, _, _, _]) Try.func133 (by kernel_rfl) rfl 59 rfl (by simp) [.tmp 12] rfl ?_
 simp only [idxs, Nat.reduceAdd]
 refine den_seq ?_
 refine den_region TTok ?_
 intro K hK
 simp -implicitDefEqProofs (disch := first | decide | assumption | omega) only [go_sem, RdS.len hdX sl22, RdS.idx hdX sl22, R1.intB hdX (HPres.refl _), RdS.cells hdX, RdS.len hmX sl23, RdS.idx hmX sl23, RdS.cellB hmX (HPres.refl _), RdS.cells hmX, RdS.len hdY sl22, RdS.idx hdY sl22, R1.intB hdY (HPres.refl _), RdS.cells hdY, RdS.len hmY sl23, RdS.idx hmY sl23, RdS.cellB hmY (HPres.refl _), RdS.cells hmY, RdS.len ru sl22, RdS.idx ru sl22, R1.intB ru (HPres.refl _), RdS.cells ru, RdS.len rv sl22, RdS.idx rv sl22, R1.intB rv (HPres.refl _), RdS.cells rv, wrap_id]
 refine op_box (cs := #[.int .i64 (X.p), vdX, vmX]) rfl ?_
 intro h0_0 e0_0 hb0_0 z0_0
 have := Ext.size e0_0
 have eB := e0_0
 have hfhb0_0 : Fresh h.size [h.size] := Fresh.one _
 have hlhb0_0 := one_lt (show h.size < h0_0.size by omega)
 try simp -implicitDefEqProofs (disch := first | decide | assumption | omega) only [go_sem, RdS.len hdX sl22, RdS.idx hdX sl22, R1.intB hdX (Ext.pres eB), RdS.cells hdX, RdS.len hmX sl23, RdS.idx hmX sl23, RdS.cellB hmX (Ext.pres eB), RdS.cells hmX, RdS.len hdY sl22, RdS.idx hdY sl22, R1.intB hdY (Ext.pres eB), RdS.cells hdY, RdS.len hmY sl23, RdS.idx hmY sl23, RdS.cellB hmY (Ext.pres eB), RdS.cells hmY, RdS.len ru sl22, RdS.idx ru sl22, R1.intB ru (Ext.pres eB), RdS.cells ru, RdS.len rv sl22, RdS.idx rv sl22, R1.intB rv (Ext.pres eB), RdS.cells rv, BoxAt.cell hb0_0, wrap_id]
 refine op_box (cs := #[.int .i64 (Y.p), vdY, vmY]) rfl ?_
 intro h0_1 e0_1 hb0_1 z0_1
 replace hb0_0 := BoxAt.ext hb0_0 e0_1
 have := Ext.size e0_1
 replace eB := Ext.trans eB e0_1
 have hfhb0_1 : Fresh h0_0.size [h0_0.size] := Fresh.one _
 have hlhb0_1 := one_lt (show h0_0.size < h0_1.size by omega)
 try simp -implicitDefEqProofs (disch := first | decide | assumption | omega) only [go_sem, RdS.len hdX sl22, RdS.idx hdX sl22, R1.intB hdX (Ext.pres eB), RdS.cells hdX, RdS.len hmX sl23, RdS.idx hmX sl23, RdS.cellB hmX (Ext.pres eB), RdS.cells hmX, RdS.len hdY sl22, RdS.idx hdY sl22, R1.intB hdY (Ext.pres eB), RdS.cells hdY, RdS.len hmY sl23, RdS.idx hmY sl23, RdS.cellB hmY (Ext.pres eB), RdS.cells hmY, RdS.len ru sl22, RdS.idx ru sl22, R1.intB ru (Ext.pres eB), RdS.cells ru, RdS.len rv sl22, RdS.idx rv sl22, R1.intB rv (Ext.pres eB), RdS.cells rv, BoxAt.cell hb0_0, BoxAt.cell hb0_1, wrap_id]
 refine hK _ _ ?_
 clear hK K
 refine den_seq ?_
 refine den_region TTok ?_
 intro K hK
 simp -implicitDefEqProofs (disch := first | decide | assumption | omega) only [go_sem, ld31, RdS.len hdX sl22, RdS.idx hdX sl22, R1.intB hdX (Ext.pres eB), RdS.cells hdX, RdS.len hmX sl23, RdS.idx hmX sl23, RdS.cellB hmX (Ext.pres eB), RdS.cells hmX, RdS.len hdY sl22, RdS.idx hdY sl22, R1.intB hdY (Ext.pres eB), RdS.cells hdY, RdS.len hmY sl23, RdS.idx hmY sl23, RdS.cellB hmY (Ext.pres eB), RdS.cells hmY, RdS.len ru sl22, RdS.idx ru sl22, R1.intB ru (Ext.pres eB), RdS.cells ru, RdS.len rv sl22, RdS.idx rv sl22, R1.intB rv (Ext.pres eB), RdS.cells rv, BoxAt.cell hb0_0, BoxAt.cell hb0_1, wrap_id]
 try simp -implicitDefEqProofs (disch := first | decide | assumption | omega) only [go_sem, RdS.len hdX sl22, RdS.idx hdX sl22, R1.intB hdX (Ext.pres eB), RdS.cells hdX, RdS.len hmX sl23, RdS.idx hmX sl23, RdS.cellB hmX (Ext.pres eB), RdS.cells hmX, RdS.len hdY sl22, RdS.idx hdY sl22, R1.intB hdY (Ext.pres eB), RdS.cells hdY, RdS.len hmY sl23, RdS.idx hmY sl23, RdS.cellB hmY (Ext.pres eB), RdS.cells hmY, RdS.len ru sl22, RdS.idx ru sl22, R1.intB ru (Ext.pres eB), RdS.cells ru, RdS.len rv sl22, RdS.idx rv sl22, R1.intB rv (Ext.pres eB), RdS.cells rv, BoxAt.cell hb0_0, BoxAt.cell hb0_1, wrap_id]
 refine CallA.mono (iDims_ok _ _ X Y _ ⟨_, _, rfl, (RdS.pres hdX (Ext.pres eB)), (RdS.pres hmX (Ext.pres eB))⟩ ⟨_, _, rfl, (RdS.pres hdY (Ext.pres eB)), (RdS.pres hmY (Ext.pres eB))⟩ (hX) (hY)) ?_
 intro v_ h1_2
 rintro ⟨vw1_2_0, fw1_2_0, rfl, how1_2_0, hfw1_2_0, e1_2⟩
 replace hb0_0 := BoxAt.ext hb0_0 e1_2
 replace hb0_1 := BoxAt.ext hb0_1 e1_2
 have := Ext.size e1_2
 replace eB := Ext.trans eB e1_2
 have hlhow1_2_0 := OS.lt how1_2_0
 try simp -implicitDefEqProofs (disch := first | decide | assumption | omega) only [go_sem, ld2, RdS.len hdX sl22, RdS.idx hdX sl22, R1.intB hdX (Ext.pres eB), RdS.cells hdX, RdS.len hmX sl23, RdS.idx hmX sl23, RdS.cellB hmX (Ext.pres eB), RdS.cells hmX, RdS.len hdY sl22, RdS.idx hdY sl22, R1.intB hdY (Ext.pres eB), RdS.cells hdY, RdS.len hmY sl23, RdS.idx hmY sl23, RdS.cellB hmY (Ext.pres eB), RdS.cells hmY, RdS.len ru sl22, RdS.idx ru sl22, R1.intB ru (Ext.pres eB), RdS.cells ru, RdS.len rv sl22, RdS.idx rv sl22, R1.intB rv (Ext.pres eB), RdS.cells rv, RdS.len (OS.rd how1_2_0) sl22, RdS.idx (OS.rd how1_2_0) sl22, R1.intN (OS.rd how1_2_0), RdS.cells (OS.rd how1_2_0), BoxAt.cell hb0_0, BoxAt.cell hb0_1, wrap_id]
 refine op_make sz22 rfl rfl (by omega) (by omega) OI 0 (fun _ => ⟨rfl, rfl⟩) ?_
 intro v1_8 h1_8 ho1_8 e1_8
 replace how1_2_0 := OS.ext how1_2_0 e1_8
 replace hb0_0 := BoxAt.ext hb0_0 e1_8
 replace hb0_1 := BoxAt.ext hb0_1 e1_8
 have := Ext.size e1_8
 replace eB := Ext.trans eB e1_8
 have hfho1_8 : Fresh h1_2.size [h1_2.size] := Fresh.one _
 have hlenho1_8 : (List.replicate (((tdP X Y).getD ((i + j)).toNat 0)).toNat (0 : Int)).length = (((tdP X Y).getD ((i + j)).toNat 0)).toNat := List.length_replicate
 have hlho1_8 := OS.lt ho1_8
 try simp -implicitDefEqProofs (disch := first | decide | assumption | omega) only [go_sem, RdS.len hdX sl22, RdS.idx hdX sl22, R1.intB hdX (Ext.pres eB), RdS.cells hdX, RdS.len hmX sl23, RdS.idx hmX sl23, RdS.cellB hmX (Ext.pres eB), RdS.cells hmX, RdS.len hdY sl22, RdS.idx hdY sl22, R1.intB hdY (Ext.pres eB), RdS.cells hdY, RdS.len hmY sl23, RdS.idx hmY sl23, RdS.cellB hmY (Ext.pres eB), RdS.cells hmY, RdS.len ru sl22, RdS.idx ru sl22, R1.intB ru (Ext.pres eB), RdS.cells ru, RdS.len rv sl22, RdS.idx rv sl22, R1.intB rv (Ext.pres eB), RdS.cells rv, RdS.len (OS.rd how1_2_0) sl22, RdS.idx (OS.rd how1_2_0) sl22, R1.intN (OS.rd how1_2_0), RdS.cells (OS.rd how1_2_0), RdS.len (OS.rd ho1_8) sl22, RdS.idx (OS.rd ho1_8) sl22, R1.intN (OS.rd ho1_8), RdS.cells (OS.rd ho1_8), BoxAt.cell hb0_0, BoxAt.cell hb0_1, wrap_id]
 refine hK _ _ ?_
 clear hK K
 refine den_seq ?_
 refine den_seq ?_
 refine den_region TTok ?_
 intro K hK
 simp -implicitDefEqProofs (disch := first | decide | assumption | omega) only [go_sem, RdS.len hdX sl22, RdS.idx hdX sl22, R1.intB hdX (Ext.pres eB), RdS.cells hdX, RdS.len hmX sl23, RdS.idx hmX sl23, RdS.cellB hmX (Ext.pres eB), RdS.cells hmX, RdS.len hdY sl22, RdS.idx hdY sl22, R1.intB hdY (Ext.pres eB), RdS.cells hdY, RdS.len hmY sl23, RdS.idx hmY sl23, RdS.cellB hmY (Ext.pres eB), RdS.cells hmY, RdS.len ru sl22, RdS.idx ru sl22, R1.intB ru (Ext.pres eB), RdS.cells ru, RdS.len rv sl22, RdS.idx rv sl22, R1.intB rv (Ext.pres eB), RdS.cells rv, RdS.len (OS.rd ho1_8) sl22, RdS.idx (OS.rd ho1_8) sl22, R1.intN (OS.rd ho1_8), RdS.cells (OS.rd ho1_8), BoxAt.cell hb0_0, BoxAt.cell hb0_1, wrap_id]
 refine hK _ _ ?_
 clear hK K
 refine den_block ?_
 refine den_sel [29, 2, 4, 5, 6, 7, 13, 27, 28] ?_
 intro env_1
 simp only [go_sem]
 refine den_loopS (σ := Nat) (fun st_ => [(29, .int .i64 (st_ : Int))]) (fun st_ H => st_ ≤ u.length ∧ O1 H v1_8 (pvO X Y i u j v st_) [h1_2.size] ∧ Chg [h1_2.size] h1_8 H) (fun st_ => u.length - st_) 0 ?_ ?_
 ·exact ⟨by first | (simp; done) | (dsimp only; omega) | (simp; omega), by rw [pvO]; exact ho1_8, Chg.refl _ _⟩
 ·rintro a h4 ee3 ⟨hi0, hO, cL2⟩
  replace hb0_0 := BoxAt.chgA hb0_0 cL2 (apart_lt hlhb0_0 hfho1_8 (by omega))
  replace hb0_1 := BoxAt.chgA hb0_1 cL2 (apart_lt hlhb0_1 hfho1_8 (by omega))
  have := cL2.size
  replace eB := Ext.then eB cL2 (ge_of hfho1_8 (by omega))
  have sbhO : Sub [h1_2.size] h1_8.size [h1_2.size] := Sub.refl
  have hfhO := hfho1_8
  have hlhO := OS.lt hO
  simp only [List.cons_append, List.nil_append]
  refine den_seq ?_
  refine den_region TTok ?_
  intro K hK
  simp -implicitDefEqProofs (disch := first | decide | assumption | omega) only [go_sem, RdS.len hdX sl22, RdS.idx hdX sl22, R1.intB hdX (Ext.pres eB), RdS.cells hdX, RdS.len hmX sl23, RdS.idx hmX sl23, RdS.cellB hmX (Ext.pres eB), RdS.cells hmX, RdS.len hdY sl22, RdS.idx hdY sl22, R1.intB hdY (Ext.pres eB), RdS.cells hdY, RdS.len hmY sl23, RdS.idx hmY sl23, RdS.cellB hmY (Ext.pres eB), RdS.cells hmY, RdS.len ru sl22, RdS.idx ru sl22, R1.intB ru (Ext.pres eB), RdS.cells ru, RdS.len rv sl22, RdS.idx rv sl22, R1.intB rv (Ext.pres eB), RdS.cells rv, RdS.len (OS.rd hO) sl22, RdS.idx (OS.rd hO) sl22, R1.intN (OS.rd hO), RdS.cells (OS.rd hO), BoxAt.cell hb0_0, BoxAt.cell hb0_1, wrap_id]
  refine hK _ _ ?_
  clear hK K
  refine den_seq ?_
  refine den_cond rfl (fun c0 => ?_) (fun c0 => ?_)
  ·try simp only [decide_eq_true_eq, decide_eq_false_iff_not, beq_iff_eq, beq_eq_false_iff_ne, bne_iff_ne, ne_eq, Bool.not_eq_true', Bool.not_eq_false', Bool.and_eq_true, Bool.or_eq_true, bne_eq_false_iff_eq] at c0
   refine den_skip ?_
   refine den_seq ?_
   refine den_block ?_
   refine den_seq ?_
   refine den_region TTok ?_
   intro K hK
   simp -implicitDefEqProofs (disch := first | decide | assumption | omega) only [go_sem, ld2, RdS.len hdX sl22, RdS.idx hdX sl22, R1.intB hdX (Ext.pres eB), RdS.cells hdX, RdS.len hmX sl23, RdS.idx hmX sl23, RdS.cellB hmX (Ext.pres eB), RdS.cells hmX, RdS.len hdY sl22, RdS.idx hdY sl22, R1.intB hdY (Ext.pres eB), RdS.cells hdY, RdS.len hmY sl23, RdS.idx hmY sl23, RdS.cellB hmY (Ext.pres eB), RdS.cells hmY, RdS.len ru sl22, RdS.idx ru sl22, R1.intB ru (Ext.pres eB), RdS.cells ru, RdS.len rv sl22, RdS.idx rv sl22, R1.intB rv (Ext.pres eB), RdS.cells rv, RdS.len (OS.rd hO) sl22, RdS.idx (OS.rd hO) sl22, R1.intN (OS.rd hO), RdS.cells (OS.rd hO), BoxAt.cell hb0_0, BoxAt.cell hb0_1, wrap_id]
   refine hK _ _ ?_
   clear hK K
   refine den_seq ?_
   refine den_region TTok ?_
   intro K hK
   simp -implicitDefEqProofs (disch := first | decide | assumption | omega) only [go_sem, RdS.len hdX sl22, RdS.idx hdX sl22, R1.intB hdX (Ext.pres eB), RdS.cells hdX, RdS.len hmX sl23, RdS.idx hmX sl23, RdS.cellB hmX (Ext.pres eB), RdS.cells hmX, RdS.len hdY sl22, RdS.idx hdY sl22, R1.intB hdY (Ext.pres eB), RdS.cells hdY, RdS.len hmY sl23, RdS.idx hmY sl23, RdS.cellB hmY (Ext.pres eB), RdS.cells hmY, RdS.len ru sl22, RdS.idx ru sl22, R1.intB ru (Ext.pres eB), RdS.cells ru, RdS.len rv sl22, RdS.idx rv sl22, R1.intB rv (Ext.pres eB), RdS.cells rv, RdS.len (OS.rd hO) sl22, RdS.idx (OS.rd hO) sl22, R1.intN (OS.rd hO), RdS.cells (OS.rd hO), BoxAt.cell hb0_0, BoxAt.cell hb0_1, wrap_id]
   refine hK _ _ ?_
   clear hK K
   refine den_block ?_
   refine den_sel [36, 2, 4, 5, 6, 7, 13, 14, 15, 27, 28, 29, 34, 35] ?_
   intro env_5
   simp only [go_sem]
   refine den_loopS (σ := Nat) (fun st_ => [(36, .int .i64 (st_ : Int))]) (fun st_ H => st_ ≤ v.length ∧ O1 H v1_8 (pvI X Y i a j (u.getD a 0) v st_ (pvO X Y i u j v a)) [h1_2.size] ∧ Chg [h1_2.size] h4 H) (fun st_ => v.length - st_) 0 ?_ ?_
   ·exact ⟨by first | (simp; done) | (dsimp only; omega) | (simp; omega), by rw [pvI]; exact hO, Chg.refl _ _⟩
   ·rintro b h8 ee7 ⟨hi0, hI, cL6⟩
    replace hb0_0 := BoxAt.chgA hb0_0 cL6 (apart_lt hlhb0_0 hfhO (by omega))
    replace hb0_1 := BoxAt.chgA hb0_1 cL6 (apart_lt hlhb0_1 hfhO (by omega))
    have := cL6.size
    replace eB := Ext.then eB cL6 (ge_of hfhO (by omega))
    replace cL2 := Chg.step cL2 cL6 sbhO
    have sbhI : Sub [h1_2.size] h4.size [h1_2.size] := Sub.refl
    have hfhI := hfhO
    have sb9 : Sub [h1_2.size] h1_8.size [h1_2.size] := Sub.trans sbhI sbhO (by omega)
    have hlhI := OS.lt hI
    simp only [List.cons_append, List.nil_append]
    refine den_seq ?_
    refine den_region TTok ?_
    intro K hK
    simp -implicitDefEqProofs (disch := first | decide | assumption | omega) only [go_sem, RdS.len hdX sl22, RdS.idx hdX sl22, R1.intB hdX (Ext.pres eB), RdS.cells hdX, RdS.len hmX sl23, RdS.idx hmX sl23, RdS.cellB hmX (Ext.pres eB), RdS.cells hmX, RdS.len hdY sl22, RdS.idx hdY sl22, R1.intB hdY (Ext.pres eB), RdS.cells hdY, RdS.len hmY sl23, RdS.idx hmY sl23, RdS.cellB hmY (Ext.pres eB), RdS.cells hmY, RdS.len ru sl22, RdS.idx ru sl22, R1.intB ru (Ext.pres eB), RdS.cells ru, RdS.len rv sl22, RdS.idx rv sl22, R1.intB rv (Ext.pres eB), RdS.cells rv, RdS.len (OS.rd hI) sl22, RdS.idx (OS.rd hI) sl22, R1.intN (OS.rd hI), RdS.cells (OS.rd hI), BoxAt.cell hb0_0, BoxAt.cell hb0_1, wrap_id]
    refine hK _ _ ?_
    clear hK K
    refine den_seq ?_
    refine den_cond rfl (fun c1 => ?_) (fun c1 => ?_)
    ·try simp only [decide_eq_true_eq, decide_eq_false_iff_not, beq_iff_eq, beq_eq_false_iff_ne, bne_iff_ne, ne_eq, Bool.not_eq_true', Bool.not_eq_false', Bool.and_eq_true, Bool.or_eq_true, bne_eq_false_iff_eq] at c1
     refine den_skip ?_
     refine den_seq ?_
     refine den_block ?_
     refine den_seq ?_
     refine den_region TTok ?_
     intro K hK
     simp -implicitDefEqProofs (disch := first | decide | assumption | omega) only [go_sem, ld2, RdS.len hdX sl22, RdS.idx hdX sl22, R1.intB hdX (Ext.pres eB), RdS.cells hdX, RdS.len hmX sl23, RdS.idx hmX sl23, RdS.cellB hmX (Ext.pres eB), RdS.cells hmX, RdS.len hdY sl22, RdS.idx hdY sl22, R1.intB hdY (Ext.pres eB), RdS.cells hdY, RdS.len hmY sl23, RdS.idx hmY sl23, RdS.cellB hmY (Ext.pres eB), RdS.cells hmY, RdS.len ru sl22, RdS.idx ru sl22, R1.intB ru (Ext.pres eB), RdS.cells ru, RdS.len rv sl22, RdS.idx rv sl22, R1.intB rv (Ext.pres eB), RdS.cells rv, RdS.len (OS.rd hI) sl22, RdS.idx (OS.rd hI) sl22, R1.intN (OS.rd hI), RdS.cells (OS.rd hI), BoxAt.cell hb0_0, BoxAt.cell hb0_1, wrap_id]
     refine hK _ _ ?_
     clear hK K
     have hxu := hk.cu.2.at (k := a) (by omega)
     have hyv := hk.cv.2.at (k := b) (by omega)
     have hxy := mul36 hxu hyv hk.p.2
     have hpl := place_lt hk.cX hk.cY hk.ci hk.cj (a := a) (b := b) (by omega) (by omega)
     have hle1 := pvI_len X Y i a j (u.getD a 0) v b (pvO X Y i u j v a)
     have hle2 := pvO_len X Y i u j v a
     refine den_draw TTok mixed [15] [(0, true), (1, true), (2, true), (3, true), (4, true), (5, true), (6, true), (8, true), (9, true), (10, true), (11, true), (12, true), (13, true), (7, false), (14, true), (15, false)] (by kernel_rfl) ?_
     intro K hK
     simp -implicitDefEqProofs (disch := first | decide | assumption | omega) only [go_sem, fa31_0, ld2, ld31, RdS.len hdX sl22, RdS.idx hdX sl22, R1.intB hdX (Ext.pres eB), RdS.cells hdX, RdS.len hmX sl23, RdS.idx hmX sl23, RdS.cellB hmX (Ext.pres eB), RdS.cells hmX, RdS.len hdY sl22, RdS.idx hdY sl22, R1.intB hdY (Ext.pres eB), RdS.cells hdY, RdS.len hmY sl23, RdS.idx hmY sl23, RdS.cellB hmY (Ext.pres eB), RdS.cells hmY, RdS.len ru sl22, RdS.idx ru sl22, R1.intB ru (Ext.pres eB), RdS.cells ru, RdS.len rv sl22, RdS.idx rv sl22, R1.intB rv (Ext.pres eB), RdS.cells rv, RdS.len (OS.rd hI) sl22, RdS.idx (OS.rd hI) sl22, R1.intN (OS.rd hI), RdS.cells (OS.rd hI), BoxAt.cell hb0_0, BoxAt.cell hb0_1, wrap_id]
     try simp -implicitDefEqProofs (disch := first | decide | assumption | omega) only [go_sem, RdS.len hdX sl22, RdS.idx hdX sl22, R1.intB hdX (Ext.pres eB), RdS.cells hdX, RdS.len hmX sl23, RdS.idx hmX sl23, RdS.cellB hmX (Ext.pres eB), RdS.cells hmX, RdS.len hdY sl22, RdS.idx hdY sl22, R1.intB hdY (Ext.pres eB), RdS.cells hdY, RdS.len hmY sl23, RdS.idx hmY sl23, RdS.cellB hmY (Ext.pres eB), RdS.cells hmY, RdS.len ru sl22, RdS.idx ru sl22, R1.intB ru (Ext.pres eB), RdS.cells ru, RdS.len rv sl22, RdS.idx rv sl22, R1.intB rv (Ext.pres eB), RdS.cells rv, RdS.len (OS.rd hI) sl22, RdS.idx (OS.rd hI) sl22, R1.intN (OS.rd hI), RdS.cells (OS.rd hI), BoxAt.cell hb0_0, BoxAt.cell hb0_1, wrap_id]
     refine CallA.mono (iPlace_ok _ _ X Y _ _ _ _ _ ⟨_, _, rfl, (RdS.pres hdX (Ext.pres eB)), (RdS.pres hmX (Ext.pres eB))⟩ ⟨_, _, rfl, (RdS.pres hdY (Ext.pres eB)), (RdS.pres hmY (Ext.pres eB))⟩ hk.cX hk.cY (by omega) (by omega) (by omega) (by omega)) ?_
     intro v_ h8_7
     rintro ⟨rfl, e8_7⟩
     replace hI := OS.ext hI e8_7
     replace hb0_0 := BoxAt.ext hb0_0 e8_7
     replace hb0_1 := BoxAt.ext hb0_1 e8_7
     have := Ext.size e8_7
     replace eB := Ext.trans eB e8_7
     replace cL2 := Chg.stepE cL2 e8_7
     replace cL6 := Chg.stepE cL6 e8_7
     try simp (disch := decide) only [outv_some, outv_none, put_puts]
     refine plK_pres (Ext.pres e8_7) ?_
     try simp -implicitDefEqProofs (disch := first | decide | assumption | omega) only [go_sem, RdS.len hdX sl22, RdS.idx hdX sl22, R1.intB hdX (Ext.pres eB), RdS.cells hdX, RdS.len hmX sl23, RdS.idx hmX sl23, RdS.cellB hmX (Ext.pres eB), RdS.cells hmX, RdS.len hdY sl22, RdS.idx hdY sl22, R1.intB hdY (Ext.pres eB), RdS.cells hdY, RdS.len hmY sl23, RdS.idx hmY sl23, RdS.cellB hmY (Ext.pres eB), RdS.cells hmY, RdS.len ru sl22, RdS.idx ru sl22, R1.intB ru (Ext.pres eB), RdS.cells ru, RdS.len rv sl22, RdS.idx rv sl22, R1.intB rv (Ext.pres eB), RdS.cells rv, RdS.len (OS.rd hI) sl22, RdS.idx (OS.rd hI) sl22, R1.intN (OS.rd hI), RdS.cells (OS.rd hI), BoxAt.cell hb0_0, BoxAt.cell hb0_1, wrap_id]
     refine op_store1 (j := ((placeP X Y i (a : Int) j (b : Int))).toNat) st2 hI hfhI.nodup (by first | omega | (simp; omega)) rfl rfl ?_
     intro h8_15 ho8_15 c8_15
     have hsz8_15 := c8_15.size
     replace hb0_0 := BoxAt.chgA hb0_0 c8_15 (apart_lt hlhb0_0 hfhI (by omega))
     replace hb0_1 := BoxAt.chgA hb0_1 c8_15 (apart_lt hlhb0_1 hfhI (by omega))
     have := c8_15.size
     replace eB := Ext.then eB c8_15 (ge_of hfhI (by omega))
     replace cL2 := Chg.step cL2 c8_15 sb9
     replace cL6 := Chg.step cL6 c8_15 sbhI
     have hlho8_15 := OS.lt ho8_15
     have hlenho8_15 : ((pvI X Y i a j (u.getD a 0) v b (pvO X Y i u j v a)).set (((placeP X Y i (a : Int) j (b : Int))).toNat) (Int.tmod (((u).getD a 0) * ((v).getD b 0)) X.p) : List Int).length = (pvI X Y i a j (u.getD a 0) v b (pvO X Y i u j v a) : List Int).length := List.length_set
     try simp (disch := decide) only [outv_some, outv_none, put_puts]
     refine plK_last (by decide) ?_
     try simp -implicitDefEqProofs (disch := first | decide | assumption | omega) only [go_sem, RdS.len hdX sl22, RdS.idx hdX sl22, R1.intB hdX (Ext.pres eB), RdS.cells hdX, RdS.len hmX sl23, RdS.idx hmX sl23, RdS.cellB hmX (Ext.pres eB), RdS.cells hmX, RdS.len hdY sl22, RdS.idx hdY sl22, R1.intB hdY (Ext.pres eB), RdS.cells hdY, RdS.len hmY sl23, RdS.idx hmY sl23, RdS.cellB hmY (Ext.pres eB), RdS.cells hmY, RdS.len ru sl22, RdS.idx ru sl22, R1.intB ru (Ext.pres eB), RdS.cells ru, RdS.len rv sl22, RdS.idx rv sl22, R1.intB rv (Ext.pres eB), RdS.cells rv, RdS.len (OS.rd ho8_15) sl22, RdS.idx (OS.rd ho8_15) sl22, R1.intN (OS.rd ho8_15), RdS.cells (OS.rd ho8_15), BoxAt.cell hb0_0, BoxAt.cell hb0_1, wrap_id]
     refine hK _ _ ?_
     clear hK K
     refine den_blk ?_
     refine den_region TTok ?_
     intro K hK
     simp -implicitDefEqProofs (disch := first | decide | assumption | omega) only [go_sem, RdS.len hdX sl22, RdS.idx hdX sl22, R1.intB hdX (Ext.pres eB), RdS.cells hdX, RdS.len hmX sl23, RdS.idx hmX sl23, RdS.cellB hmX (Ext.pres eB), RdS.cells hmX, RdS.len hdY sl22, RdS.idx hdY sl22, R1.intB hdY (Ext.pres eB), RdS.cells hdY, RdS.len hmY sl23, RdS.idx hmY sl23, RdS.cellB hmY (Ext.pres eB), RdS.cells hmY, RdS.len ru sl22, RdS.idx ru sl22, R1.intB ru (Ext.pres eB), RdS.cells ru, RdS.len rv sl22, RdS.idx rv sl22, R1.intB rv (Ext.pres eB), RdS.cells rv, RdS.len (OS.rd ho8_15) sl22, RdS.idx (OS.rd ho8_15) sl22, R1.intN (OS.rd ho8_15), RdS.cells (OS.rd ho8_15), BoxAt.cell hb0_0, BoxAt.cell hb0_1, wrap_id]
     refine hK _ _ ?_
     clear hK K
     refine den_stop ?_
     exact ⟨b + 1, by simp [HasL, puts_at], ⟨by first | omega | (dsimp only; omega), ho8_15, cL6⟩, by first | omega | (dsimp only; omega)⟩
    ·try simp only [decide_eq_true_eq, decide_eq_false_iff_not, beq_iff_eq, beq_eq_false_iff_ne, bne_iff_ne, ne_eq, Bool.not_eq_true', Bool.not_eq_false', Bool.and_eq_true, Bool.or_eq_true, bne_eq_false_iff_eq] at c1
     refine den_exit ?_
     refine denX_code ?_
     refine denX_stop ?_
     refine denX_hit ?_
     refine den_blk ?_
     refine den_region TTok ?_
     intro K hK
     simp -implicitDefEqProofs (disch := first | decide | assumption | omega) only [go_sem, RdS.len hdX sl22, RdS.idx hdX sl22, R1.intB hdX (Ext.pres eB), RdS.cells hdX, RdS.len hmX sl23, RdS.idx hmX sl23, RdS.cellB hmX (Ext.pres eB), RdS.cells hmX, RdS.len hdY sl22, RdS.idx hdY sl22, R1.intB hdY (Ext.pres eB), RdS.cells hdY, RdS.len hmY sl23, RdS.idx hmY sl23, RdS.cellB hmY (Ext.pres eB), RdS.cells hmY, RdS.len ru sl22, RdS.idx ru sl22, R1.intB ru (Ext.pres eB), RdS.cells ru, RdS.len rv sl22, RdS.idx rv sl22, R1.intB rv (Ext.pres eB), RdS.cells rv, RdS.len (OS.rd hI) sl22, RdS.idx (OS.rd hI) sl22, R1.intN (OS.rd hI), RdS.cells (OS.rd hI), BoxAt.cell hb0_0, BoxAt.cell hb0_1, wrap_id]
     refine hK _ _ ?_
     clear hK K
     refine den_stop ?_
     rw [show pvI X Y i a j (u.getD a 0) v b (pvO X Y i u j v a) = pvO X Y i u j v (a + 1) by rw [pvO, show v.length = b by omega]] at hI
     exact ⟨a + 1, by simp [HasL, puts_at], ⟨by first | omega | (dsimp only; omega), hI, cL2⟩, by first | omega | (dsimp only; omega)⟩
  ·try simp only [decide_eq_true_eq, decide_eq_false_iff_not, beq_iff_eq, beq_eq_false_iff_ne, bne_iff_ne, ne_eq, Bool.not_eq_true', Bool.not_eq_false', Bool.and_eq_true, Bool.or_eq_true, bne_eq_false_iff_eq] at c0
   refine den_exit ?_
   refine denX_code ?_
   refine denX_stop ?_
   refine denX_hit ?_
   refine den_seq ?_
   refine den_region TTok ?_
   intro K hK
   simp -implicitDefEqProofs (disch := first | decide | assumption | omega) only [go_sem, RdS.len hdX sl22, RdS.idx hdX sl22, R1.intB hdX (Ext.pres eB), RdS.cells hdX, RdS.len hmX sl23, RdS.idx hmX sl23, RdS.cellB hmX (Ext.pres eB), RdS.cells hmX, RdS.len hdY sl22, RdS.idx hdY sl22, R1.intB hdY (Ext.pres eB), RdS.cells hdY, RdS.len hmY sl23, RdS.idx hmY sl23, RdS.cellB hmY (Ext.pres eB), RdS.cells hmY, RdS.len ru sl22, RdS.idx ru sl22, R1.intB ru (Ext.pres eB), RdS.cells ru, RdS.len rv sl22, RdS.idx rv sl22, R1.intB rv (Ext.pres eB), RdS.cells rv, RdS.len (OS.rd hO) sl22, RdS.idx (OS.rd hO) sl22, R1.intN (OS.rd hO), RdS.cells (OS.rd hO), wrap_id]
   refine hK _ _ ?_
   clear hK K
   refine den_ret ?_
   simp (disch := decide) only [resP_1, puts_same, puts_ne]
   rw [show a = u.length by omega] at hO
   exact ⟨_, _, rfl, hO, hfhO.mono (by omega), eB⟩
end Go.Proofs.Ytjjjgllbocgkbaa

namespace Go.Proofs.Ytjjjgllbocgkbaa
open Go
theorem pl_lo {X Y : Cx} (hY : IsC Y) {i j a b : Nat} : sumP X Y ((i : Int) + j) i ≤ placeP X Y i a j b := by
 have h4 : 0 ≤ (a : Int) * dimP Y j := Int.mul_nonneg (by omega) (dimP_bnd hY j).1
 unfold placeP
 rw [Int.toNat_natCast]
 omega
theorem pl_hi {X Y : Cx} (hY : IsC Y) {i j a b : Nat} (ha : (a : Int) < dimP X i) (hb : (b : Int) < dimP Y j) : placeP X Y i a j b < sumP X Y ((i : Int) + j) (i + 1) := by
 have h3 : ((a : Int) + 1) * dimP Y j ≤ dimP X i * dimP Y j := Int.mul_le_mul_of_nonneg_right (by omega) (dimP_bnd hY j).1
 rw [Int.add_mul, Int.one_mul] at h3
 rw [sumP, show (i : Int) + j - i = j by omega]
 unfold placeP
 rw [Int.toNat_natCast]
 omega
theorem place_inj {X Y : Cx} (hX : IsC X) (hY : IsC Y) {i j a b i' j' a' b' : Nat} (hs : i + j = i' + j') (ha : (a : Int) < dimP X i) (hb : (b : Int) < dimP Y j) (ha' : (a' : Int) < dimP X i') (hb' : (b' : Int) < dimP Y j') (h : placeP X Y i a j b = placeP X Y i' a' j' b') : i = i' ∧ a = a' ∧ j = j' ∧ b = b' := by
 have hs' : (i : Int) + j = i' + j' := by omega
 have l1 := pl_lo (X := X) hY (i := i) (j := j) (a := a) (b := b)
 have l2 := pl_lo (X := X) hY (i := i') (j := j') (a := a') (b := b')
 have u1 := pl_hi hY ha hb
 have u2 := pl_hi hY ha' hb'
 rw [← hs'] at l2 u2
 have hi : i = i' := by
  rcases Nat.lt_trichotomy i i' with h1 | h1 | h1
  ·have := sumP_mono hX hY ((i : Int) + j) (k := i + 1) (m := i') (by omega)
   omega
  ·exact h1
  ·have := sumP_mono hX hY ((i : Int) + j) (k := i' + 1) (m := i) (by omega)
   omega
 subst hi
 have hj : j = j' := by omega
 subst hj
 unfold placeP at h
 have key : ∀ {c d : Nat} {x y : Nat}, (c : Int) < d → (x : Int) < dimP Y j → (c : Int) * dimP Y j + x = (d : Int) * dimP Y j + y → False := fun {c d x y} h1 h2 h3 => by
  have h5 : ((c : Int) + 1) * dimP Y j ≤ d * dimP Y j := Int.mul_le_mul_of_nonneg_right (by omega) (dimP_bnd hY j).1
  rw [Int.add_mul, Int.one_mul] at h5
  omega
 have hab : a = a' := by
  rcases Nat.lt_trichotomy a a' with h1 | h1 | h1
  ·exact (key (c := a) (d := a') (x := b) (y := b') (by omega) hb (by omega)).elim
  ·exact h1
  ·exact (key (c := a') (d := a) (x := b') (y := b) (by omega) hb' (by omega)).elim
 subst hab
 exact ⟨rfl, rfl, rfl, by omega⟩
theorem place_surj {X Y : Cx} (hX : IsC X) (hY : IsC Y) {s : Nat} {r : Int} (h0 : 0 ≤ r) : ∀ {m : Nat}, r < sumP X Y s m → ∃ i a j b : Nat, i < m ∧ i + j = s ∧ (a : Int) < dimP X i ∧ (b : Int) < dimP Y j ∧ placeP X Y i a j b = r
 | 0, h => by rw [sumP] at h; omega
 | m + 1, h => by
  by_cases hm : r < sumP X Y s m
  ·obtain ⟨i, a, j, b, h1, h2⟩ := place_surj hX hY h0 hm
   exact ⟨i, a, j, b, by omega, h2⟩
  ·rw [sumP] at h
   have hx := dimP_bnd hX m
   have hy := dimP_bnd hY ((s : Int) - m)
   have hd : 0 < dimP Y ((s : Int) - m) := by
    by_cases e : dimP Y ((s : Int) - m) = 0
    ·rw [e] at h; omega
    ·omega
   have hsm : m ≤ s := by
    by_cases e : m ≤ s
    ·exact e
    ·rw [dimP_neg (by omega)] at hd; omega
   have e1 : (s : Int) - m = ((s - m : Nat) : Int) := by omega
   have q0 : 0 ≤ (r - sumP X Y s m) / dimP Y ((s : Int) - m) := Int.ediv_nonneg (by omega) (by omega)
   have q1 : (r - sumP X Y s m) / dimP Y ((s : Int) - m) < dimP X m := Int.ediv_lt_of_lt_mul hd (by omega)
   have r0 := Int.emod_nonneg (r - sumP X Y s m) (show dimP Y ((s : Int) - m) ≠ 0 by omega)
   have r1 := Int.emod_lt_of_pos (r - sumP X Y s m) hd
   have e2 := Int.mul_ediv_add_emod (r - sumP X Y s m) (dimP Y ((s : Int) - m))
   refine ⟨m, ((r - sumP X Y s m) / dimP Y ((s : Int) - m)).toNat, s - m, ((r - sumP X Y s m) % dimP Y ((s : Int) - m)).toNat, by omega, by omega, by omega, by rw [← e1]; omega, ?_⟩
   unfold placeP
   rw [Int.toNat_natCast, ← e1, show (m : Int) + ((s : Int) - m) = s by omega, Int.toNat_of_nonneg q0, Int.toNat_of_nonneg r0, Int.mul_comm]
   omega
def upL (f : Nat → Nat → Upd) (D : Nat → Nat) : Nat → List Upd
 | 0 => []
 | n + 1 => upL f D n ++ (List.range (D n)).map (f n)
theorem mem_upL {f : Nat → Nat → Upd} {D : Nat → Nat} {u : Upd} : ∀ {n : Nat}, u ∈ upL f D n → ∃ q m, q < n ∧ m < D q ∧ u = f q m
 | 0, h => by cases h
 | n + 1, h => by
  rcases List.mem_append.1 h with h | h
  ·obtain ⟨q, m, h1, h2⟩ := mem_upL h
   exact ⟨q, m, by omega, h2⟩
  ·obtain ⟨m, h1, rfl⟩ := List.mem_map.1 h
   exact ⟨n, m, by omega, List.mem_range.1 h1, rfl⟩
section
variable {U : UF} {t : Nat × Nat × Nat}
end
end Go.Proofs.Ytjjjgllbocgkbaa

namespace Go.Proofs.Ytjjjgllbocgkbaa
open Go
def sgP (i : Nat) : Int := 1 - (i : Int).tmod 2 * 2
abbrev tA (X Y : Cx) : Nat → Nat := fun q => ((tdP X Y).getD (q + 1) 0).toNat
abbrev tB (X Y : Cx) : Nat → Nat := fun q => ((tdP X Y).getD q 0).toNat
def tF1 (X Y : Cx) (k i j : Nat) (v : Int) : Nat → Nat → Upd := fun q m => ((k + q, (placeP X Y ((k + 1 : Nat) : Int) i q m).toNat, (placeP X Y k j q m).toNat), v)
def tF2 (X Y : Cx) (k i j : Nat) (v : Int) : Nat → Nat → Upd := fun q m => ((q + k, (placeP X Y q m ((k + 1 : Nat) : Int) i).toNat, (placeP X Y q m k j).toNat), sgP q * v)
def tU1 (X Y : Cx) : UF := fun k i j v => upL (tF1 X Y k i j v) (fun q => (dimP Y q).toNat) Y.dims.length
def tU2 (X Y : Cx) : UF := fun k i j v => upL (tF2 X Y k i j v) (fun q => (dimP X q).toNat) X.dims.length
def tT1 (X Y : Cx) : M3 := applyU X.p (zblk (tdP X Y) ((tdP X Y).length - 1)) (uK (tU1 X Y) X.maps X.maps.length)
def tT (X Y : Cx) : M3 := applyU X.p (tT1 X Y) (uK (tU2 X Y) Y.maps Y.maps.length)
theorem pl_lt {X Y : Cx} (hX : IsC X) (hY : IsC Y) {i j a b : Nat} (ha : (a : Int) < dimP X i) (hb : (b : Int) < dimP Y j) : 0 ≤ placeP X Y i a j b ∧ placeP X Y i a j b < (tdP X Y).getD (i + j) 0 := by
 have hi : (i : Int) ≤ (X.dims.length : Int) - 1 := by
  by_cases h : (X.dims.length : Int) ≤ i
  ·rw [dimP_big h] at ha; omega
  ·omega
 have hj : (j : Int) ≤ (Y.dims.length : Int) - 1 := by
  by_cases h : (Y.dims.length : Int) ≤ j
  ·rw [dimP_big h] at hb; omega
  ·omega
 have := place_lt hX hY (i := i) (j := j) (a := a) (b := b) ⟨by omega, hi⟩ ⟨by omega, hj⟩ ⟨by omega, ha⟩ ⟨by omega, hb⟩
 rw [show ((i : Int) + j).toNat = i + j by omega] at this
 exact this
theorem row_dim {X : Cx} (hX : IsC X) {k i : Nat} (hi : i < (X.maps.getD k default).length) : (i : Int) < dimP X ((k + 1 : Nat) : Int) := by
 have := (lens_nat hX k).1; have := dims_nat hX (k + 1)
 rw [dimP_nat]; omega
theorem col_dim {X : Cx} (hX : IsC X) {k i j : Nat} (hi : i < (X.maps.getD k default).length) (hj : j < ((X.maps.getD k default).getD i default).length) : (j : Int) < dimP X (k : Int) := by
 have := (lens_nat hX k).2 i hi; have := dims_nat hX k
 rw [dimP_nat]; omega
theorem maps_lt {X : Cx} {k i : Nat} (hi : i < (X.maps.getD k default).length) : k < X.maps.length := by
 by_cases h : k < X.maps.length
 ·exact h
 ·rw [gO (by omega)] at hi; cases hi
theorem dim_lt {X : Cx} {k i : Nat} (hi : (i : Int) < dimP X (k : Int)) : k < X.dims.length := by
 by_cases h : k < X.dims.length
 ·exact h
 ·rw [dimP_big (by omega)] at hi; omega
theorem t_in1 {X Y : Cx} (hX : IsC X) (hY : IsC Y) {k i j q m : Nat} {v : Int} (hi : i < (X.maps.getD k default).length) (hj : j < ((X.maps.getD k default).getD i default).length) (hm : m < (dimP Y (q : Int)).toNat) : InU ((tdP X Y).length - 1) (tA X Y) (tB X Y) (tF1 X Y k i j v q m) := by
 have h1 := pl_lt hX hY (row_dim hX hi) (show (m : Int) < dimP Y (q : Int) by omega)
 have h2 := pl_lt hX hY (col_dim hX hi hj) (show (m : Int) < dimP Y (q : Int) by omega)
 have h3 := maps_lt hi
 have h4 := dim_lt (X := Y) (k := q) (i := m) (by omega)
 have := hX.ml; have := hY.len
 refine ⟨by show k + q < _; rw [tdP_len]; omega, ?_, ?_⟩
 ·show (placeP X Y ((k + 1 : Nat) : Int) i q m).toNat < ((tdP X Y).getD (k + q + 1) 0).toNat
  rw [show k + 1 + q = k + q + 1 by omega] at h1; omega
 ·show (placeP X Y k j q m).toNat < ((tdP X Y).getD (k + q) 0).toNat
  omega
theorem t_in2 {X Y : Cx} (hX : IsC X) (hY : IsC Y) {k i j q m : Nat} {v : Int} (hi : i < (Y.maps.getD k default).length) (hj : j < ((Y.maps.getD k default).getD i default).length) (hm : m < (dimP X (q : Int)).toNat) : InU ((tdP X Y).length - 1) (tA X Y) (tB X Y) (tF2 X Y k i j v q m) := by
 have h1 := pl_lt hX hY (show (m : Int) < dimP X (q : Int) by omega) (row_dim hY hi)
 have h2 := pl_lt hX hY (show (m : Int) < dimP X (q : Int) by omega) (col_dim hY hi hj)
 have h3 := maps_lt hi
 have h4 := dim_lt (X := X) (k := q) (i := m) (by omega)
 have := hY.ml; have := hX.len
 refine ⟨by show q + k < _; rw [tdP_len]; omega, ?_, ?_⟩
 ·show (placeP X Y q m ((k + 1 : Nat) : Int) i).toNat < ((tdP X Y).getD (q + k + 1) 0).toNat
  rw [show q + (k + 1) = q + k + 1 by omega] at h1; omega
 ·show (placeP X Y q m k j).toNat < ((tdP X Y).getD (q + k) 0).toNat
  omega
theorem t_u1 {X Y : Cx} (hX : IsC X) (hY : IsC Y) : ∀ k i j, k < X.maps.length → i < (X.maps.getD k default).length → j < ((X.maps.getD k default).getD i default).length → ∀ u ∈ tU1 X Y k i j (((X.maps.getD k default).getD i default).getD j 0), InU ((tdP X Y).length - 1) (tA X Y) (tB X Y) u := fun k i j _ hi hj u hu => by
 obtain ⟨q, m, _, hm, rfl⟩ := mem_upL hu
 exact t_in1 hX hY hi hj hm
theorem t_u2 {X Y : Cx} (hX : IsC X) (hY : IsC Y) : ∀ k i j, k < Y.maps.length → i < (Y.maps.getD k default).length → j < ((Y.maps.getD k default).getD i default).length → ∀ u ∈ tU2 X Y k i j (((Y.maps.getD k default).getD i default).getD j 0), InU ((tdP X Y).length - 1) (tA X Y) (tB X Y) u := fun k i j _ hi hj u hu => by
 obtain ⟨q, m, _, hm, rfl⟩ := mem_upL hu
 exact t_in2 hX hY hi hj hm
theorem t_zb (X Y : Cx) {p : Int} (hp : 0 < p) : Sh ((tdP X Y).length - 1) (tA X Y) (tB X Y) (zblk (tdP X Y) ((tdP X Y).length - 1)) ∧ In3 p ((tdP X Y).length - 1) (tA X Y) (tB X Y) (zblk (tdP X Y) ((tdP X Y).length - 1)) :=
 ⟨zblk_sh _ _, fun k r c h1 h2 h3 => by rw [zblk_get _ _ h1 h2 h3]; omega⟩
theorem tT1_sh {X Y : Cx} (hX : IsC X) (hY : IsC Y) : Sh ((tdP X Y).length - 1) (tA X Y) (tB X Y) (tT1 X Y) ∧ In3 X.p ((tdP X Y).length - 1) (tA X Y) (tB X Y) (tT1 X Y) := by
 have hp := isP_bnd hX.p
 have hz := t_zb X Y hp.1
 exact ⟨applyU_sh hz.1 (uK_all (t_u1 hX hY)), applyU_in hp.1 hz.1 hz.2 (uK_all (t_u1 hX hY))⟩
theorem tT_sh {X Y : Cx} (hX : IsC X) (hY : IsC Y) : Sh ((tdP X Y).length - 1) (tA X Y) (tB X Y) (tT X Y) := applyU_sh (tT1_sh hX hY).1 (uK_all (t_u2 hX hY))
end Go.Proofs.Ytjjjgllbocgkbaa

namespace Go.Proofs.Ytjjjgllbocgkbaa
open Go
set_option maxRecDepth 100000 in
theorem arS1_ok (n : Int) (h : Heap) : CallA Try.prog 214 #[.int .i64 n] h fun v h' => v = .bool (decide (8 < n)) ∧ h' = h := by
 refine callA_intro TTok (args := [_]) Try.func214 (by kernel_rfl) rfl 5 rfl (by simp) [.tmp 2] rfl ?_
 simp only [idxs, Nat.reduceAdd]
 refine den_seq ?_
 refine den_region TTok ?_
 intro K hK
 simp -implicitDefEqProofs (disch := first | decide | assumption | omega) only [go_sem]
 refine hK _ _ ?_
 clear hK K
 refine den_seq ?_
 refine den_region TTok ?_
 intro K hK
 simp -implicitDefEqProofs (disch := first | decide | assumption | omega) only [go_sem]
 refine hK _ _ ?_
 clear hK K
 refine den_ret ?_
 simp (disch := decide) only [resP_1, puts_same, puts_ne]
 exact ⟨by first | rfl | trivial, trivial⟩

set_option maxRecDepth 100000 in
theorem arS_ok (v : Value) (xs : List Int) (h : Heap) (hv : R1 h v xs) : CallA Try.prog 196 #[v] h fun v' h' => v' = .bool (!xs.any (fun x => decide (8 < x))) ∧ Ext h h' := by
 refine callA_intro TTok (args := [_]) Try.func196 (by kernel_rfl) rfl 6 rfl (by simp) [.tmp 2] rfl ?_
 simp only [idxs, Nat.reduceAdd]
 refine den_seq ?_
 refine den_region TTok ?_
 intro K hK
 simp -implicitDefEqProofs (disch := first | decide | assumption | omega) only [go_sem, RdS.len hv sl22, RdS.idx hv sl22, R1.intB hv (HPres.refl _), RdS.cells hv]
 refine hK _ _ ?_
 clear hK K
 refine den_seq ?_
 refine den_region TTok ?_
 intro K hK
 simp -implicitDefEqProofs (disch := first | decide | assumption | omega) only [go_sem, RdS.len hv sl22, RdS.idx hv sl22, R1.intB hv (HPres.refl _), RdS.cells hv]
 try simp -implicitDefEqProofs (disch := first | decide | assumption | omega) only [go_sem, RdS.len hv sl22, RdS.idx hv sl22, R1.intB hv (HPres.refl _), RdS.cells hv]
 refine CallA.mono (has1_ok _ xs _ _ (fun x => decide (8 < x)) _ hv (fun j hj h' e => by
   simp only [List.append_toArray, List.cons_append, List.nil_append]
   exact CallA.mono (arS1_ok _ _) (fun _ _ ⟨e1, e2⟩ => ⟨e1, e2 ▸ Ext.refl _⟩))) ?_
 intro v_ h1_1
 rintro ⟨rfl, e1_1⟩
 have := Ext.size e1_1
 have eB := e1_1
 try simp -implicitDefEqProofs (disch := first | decide | assumption | omega) only [go_sem, RdS.len hv sl22, RdS.idx hv sl22, R1.intB hv (Ext.pres eB), RdS.cells hv]
 refine hK _ _ ?_
 clear hK K
 refine den_ret ?_
 simp (disch := decide) only [resP_1, puts_same, puts_ne]
 exact ⟨by first | rfl | trivial, eB⟩
end Go.Proofs.Ytjjjgllbocgkbaa

namespace Go.Proofs.Ytjjjgllbocgkbaa
open Go
theorem bs1F (h : Heap) (A : Option Addr) (n c : Nat) : buildSliceV TT h 67 1 [(0, .slice A n c)] = some (.slice (some ⟨h.size, 0, none⟩) 1 1, h.push (.cells #[.slice A n c] 23)) := by kernel_rfl
section
variable {P : Program} {n : Nat} {K : Env → Heap → Prop} {env : Env} {h : Heap} {d : Option Tmp} {ty : TypeId} {p : String} {a : Array Edge} {g : Option (Nat × Bool)}
set_option maxRecDepth 100000 in
theorem op_bs1F {x : Operand} {f : List (List (List Int))} (hx : R3 h (ev env x) f) (hk : ∀ v' h', R4 h' v' [f] → Ext h h' → outv n ⟨d, .buildSlice 67 1 #[(0, x)], ty, p, a, g⟩ K env h' v') :
  opP P TT n ⟨d, .buildSlice 67 1 #[(0, x)], ty, p, a, g⟩ K env h := by
 have hx' := hx
 obtain ⟨A, c, e1, _⟩ := hx'
 rw [opP_buildSlice]
 have : (#[(0, x)].map (fun (i, x) => (i, ev env x)) : Array (Nat × Value)).toList = [(0, .slice A f.length c)] := by simp [e1]
 rw [this, bs1F, Bd_some]
 have ex := Ext.push h (.cells #[.slice A f.length c] 23)
 have hb := BoxAt.new h #[.slice A f.length c] 23
 refine hk _ _ ⟨some ⟨h.size, 0, none⟩, 1, rfl, .inl rfl, by simp, by omega, fun j hj => ?_⟩ ex
 have hj' : j = 0 := by simp at hj; omega
 subst hj'
 exact ⟨.slice A f.length c, by simp only [sA, addr_add, hb.cell]; rfl, by rw [e1] at hx; exact hx.pres ex.pres⟩
end
/-- A statement as a truth value. -/
noncomputable def pdec (P : Prop) : Bool := @decide P (Classical.propDecidable P)
theorem pdec_t {P : Prop} : pdec P = true ↔ P := @decide_eq_true_iff _ (Classical.propDecidable P)
theorem pdec_f {P : Prop} : pdec P = false ↔ ¬ P := @decide_eq_false_iff_not _ (Classical.propDecidable P)
theorem pdec_no {P : Prop} (h : ¬ P) : false = pdec P := (pdec_f.2 h).symm
theorem pdec_yes {P : Prop} (h : P) : true = pdec P := (pdec_t.2 h).symm
def famAt (X Y : Cx) (f : List (List (List Int))) (s : Int) (n : Nat) : Bool := tableP X.p (f.getD n default) (X.dims.getD n 0) (dimP Y ((n : Int) + s))
structure IsFam (X Y : Cx) (f : List (List (List Int))) (s : Int) : Prop where
 len : f.length = X.dims.length
 rows : ∀ n, n < f.length → famAt X Y f s n = true
noncomputable def famP (X Y : Cx) (f : List (List (List Int))) (s : Int) : Bool := pdec (IsFam X Y f s)
theorem isRow_all {p n : Int} {r : List Int} (h : isRow p n r = true) : r.all (fun x => in3 x 0 (p - 1)) = true := by
 unfold isRow at h
 rw [Bool.and_eq_true] at h
 exact h.2
theorem famAt_iff {X Y : Cx} {f : List (List (List Int))} {s : Int} {n : Nat} : famAt X Y f s n = true ↔ ((f.getD n default).length : Int) = X.dims.getD n 0 ∧ (f.getD n default).all (isRow X.p (dimP Y ((n : Int) + s))) = true := by
 simp only [famAt, tableP, Bool.and_eq_true, decide_eq_true_eq]
theorem IsFam.at {X Y : Cx} {f : List (List (List Int))} {s : Int} (h : IsFam X Y f s) {n : Nat} (hn : n < f.length) : ((f.getD n default).length : Int) = X.dims.getD n 0 ∧ Tbl X.p (dimP Y ((n : Int) + s)) (f.getD n default) := tableP_iff.1 (h.rows n hn)
theorem IsFam.row {X Y : Cx} {f : List (List (List Int))} {s : Int} (h : IsFam X Y f s) {n i : Nat} (hn : n < f.length) (hi : i < (f.getD n default).length) : isRow X.p (dimP Y ((n : Int) + s)) ((f.getD n default).getD i default) = true := all_at (d := default) (famAt_iff.1 (h.rows n hn)).2 hi
noncomputable def famC (X Y : Cx) (L : List (List (List (List Int)))) : Int := cadd (pairC X Y) 2 (L.any fun f => !famP X Y f 0)
theorem famC_0 {X Y : Cx} {L : List (List (List (List Int)))} (h : famC X Y L = 0) : pairC X Y = 0 ∧ ∀ f ∈ L, IsFam X Y f 0 := by
 obtain ⟨h1, h2⟩ := (cadd_0 (by decide)).1 h
 refine ⟨h1, fun f hf => ?_⟩
 rw [List.any_eq_false] at h2
 have := h2 f hf
 simp only [Bool.not_eq_true', Bool.not_eq_false] at this
 exact pdec_t.1 this
theorem any_stop {α : Type} {f : α → Bool} {xs : List α} {d : α} {k : Nat} (hk : k < xs.length) (e : f (xs.getD k d) = true) : xs.any f = true := by
 rw [List.getD_eq_getElem?_getD, List.getElem?_eq_getElem hk] at e
 exact List.any_eq_true.2 ⟨_, List.getElem_mem hk, e⟩
theorem any_end {α : Type} {f : α → Bool} {xs : List α} {k : Nat} (d : α) (hk : ¬ k < xs.length) (h : ∀ j, j < k → f (xs.getD j d) = false) : xs.any f = false := by
 rw [List.any_eq_false]
 intro x hx
 obtain ⟨j, hj, rfl⟩ := List.getElem_of_mem hx
 have := h j (by omega)
 rw [List.getD_eq_getElem?_getD, List.getElem?_eq_getElem hj] at this
 simp only [Option.getD_some] at this
 rw [this]; decide

set_option maxRecDepth 100000 in
theorem iFam_ok (vX vY vf : Value) (X : Cx) (Y : Cx) (f : List (List (List Int))) (s : Int) (h : Heap) (rX : RC h vX X) (rY : RC h vY Y) (rf : R3 h vf f) (hX : IsC X) (hs : 0 ≤ s ∧ s ≤ 1) : CallA Try.prog 128 #[vX, vY, vf, .int .i64 s] h fun v' h' => v' = .bool (famP X Y f s) ∧ Ext h h' := by
 obtain ⟨vdX, vmX, rfl, hdX, hmX⟩ := rX
 have hledX := RdS.le hdX
 have hlemX := RdS.le hmX
 obtain ⟨vdY, vmY, rfl, hdY, hmY⟩ := rY
 have hledY := RdS.le hdY
 have hlemY := RdS.le hmY
 have hlef := RdS.le rf
 have hlen := hX.len
 have hpb := isP_bnd hX.p
 refine callA_intro TTok (args := [_, _, _, _]) Try.func128 (by kernel_rfl) rfl 45 rfl (by simp) [.tmp 8] rfl ?_
 simp only [idxs, Nat.reduceAdd]
 refine den_seq ?_
 refine den_region TTok ?_
 intro K hK
 simp -implicitDefEqProofs (disch := first | decide | assumption | omega) only [go_sem, RdS.len hdX sl22, RdS.idx hdX sl22, R1.intB hdX (HPres.refl _), RdS.cells hdX, RdS.len hmX sl23, RdS.idx hmX sl23, RdS.cellB hmX (HPres.refl _), RdS.cells hmX, RdS.len hdY sl22, RdS.idx hdY sl22, R1.intB hdY (HPres.refl _), RdS.cells hdY, RdS.len hmY sl23, RdS.idx hmY sl23, RdS.cellB hmY (HPres.refl _), RdS.cells hmY, RdS.len rf sl23, RdS.idx rf sl23, RdS.cellB rf (HPres.refl _), RdS.cells rf, wrap_id]
 refine op_box (cs := #[.int .i64 (X.p), vdX, vmX]) rfl ?_
 intro h0_0 e0_0 hb0_0 z0_0
 have := Ext.size e0_0
 have eB := e0_0
 have hfhb0_0 : Fresh h.size [h.size] := Fresh.one _
 have hlhb0_0 := one_lt (show h.size < h0_0.size by omega)
 try simp -implicitDefEqProofs (disch := first | decide | assumption | omega) only [go_sem, RdS.len hdX sl22, RdS.idx hdX sl22, R1.intB hdX (Ext.pres eB), RdS.cells hdX, RdS.len hmX sl23, RdS.idx hmX sl23, RdS.cellB hmX (Ext.pres eB), RdS.cells hmX, RdS.len hdY sl22, RdS.idx hdY sl22, R1.intB hdY (Ext.pres eB), RdS.cells hdY, RdS.len hmY sl23, RdS.idx hmY sl23, RdS.cellB hmY (Ext.pres eB), RdS.cells hmY, RdS.len rf sl23, RdS.idx rf sl23, RdS.cellB rf (Ext.pres eB), RdS.cells rf, BoxAt.cell hb0_0, wrap_id]
 refine op_box (cs := #[.int .i64 (Y.p), vdY, vmY]) rfl ?_
 intro h0_1 e0_1 hb0_1 z0_1
 replace hb0_0 := BoxAt.ext hb0_0 e0_1
 have := Ext.size e0_1
 replace eB := Ext.trans eB e0_1
 have hfhb0_1 : Fresh h0_0.size [h0_0.size] := Fresh.one _
 have hlhb0_1 := one_lt (show h0_0.size < h0_1.size by omega)
 try simp -implicitDefEqProofs (disch := first | decide | assumption | omega) only [go_sem, RdS.len hdX sl22, RdS.idx hdX sl22, R1.intB hdX (Ext.pres eB), RdS.cells hdX, RdS.len hmX sl23, RdS.idx hmX sl23, RdS.cellB hmX (Ext.pres eB), RdS.cells hmX, RdS.len hdY sl22, RdS.idx hdY sl22, R1.intB hdY (Ext.pres eB), RdS.cells hdY, RdS.len hmY sl23, RdS.idx hmY sl23, RdS.cellB hmY (Ext.pres eB), RdS.cells hmY, RdS.len rf sl23, RdS.idx rf sl23, RdS.cellB rf (Ext.pres eB), RdS.cells rf, BoxAt.cell hb0_0, BoxAt.cell hb0_1, wrap_id]
 refine hK _ _ ?_
 clear hK K
 refine den_seq ?_
 refine den_seq ?_
 refine den_region TTok ?_
 intro K hK
 simp -implicitDefEqProofs (disch := first | decide | assumption | omega) only [go_sem, fa31_1, ld22, RdS.len hdX sl22, RdS.idx hdX sl22, R1.intB hdX (Ext.pres eB), RdS.cells hdX, RdS.len hmX sl23, RdS.idx hmX sl23, RdS.cellB hmX (Ext.pres eB), RdS.cells hmX, RdS.len hdY sl22, RdS.idx hdY sl22, R1.intB hdY (Ext.pres eB), RdS.cells hdY, RdS.len hmY sl23, RdS.idx hmY sl23, RdS.cellB hmY (Ext.pres eB), RdS.cells hmY, RdS.len rf sl23, RdS.idx rf sl23, RdS.cellB rf (Ext.pres eB), RdS.cells rf, BoxAt.cell hb0_0, BoxAt.cell hb0_1, wrap_id]
 refine hK _ _ ?_
 clear hK K
 refine den_cond rfl (fun c0 => ?_) (fun c0 => ?_)
 ·try simp only [decide_eq_true_eq, decide_eq_false_iff_not, beq_iff_eq, beq_eq_false_iff_ne, bne_iff_ne, ne_eq, Bool.not_eq_true', Bool.not_eq_false', Bool.and_eq_true, Bool.or_eq_true, bne_eq_false_iff_eq, Bool.or_eq_false_iff, Bool.and_eq_false_iff] at c0
  refine den_seq ?_
  refine den_region TTok ?_
  intro K hK
  simp -implicitDefEqProofs (disch := first | decide | assumption | omega) only [go_sem, RdS.len hdX sl22, RdS.idx hdX sl22, R1.intB hdX (Ext.pres eB), RdS.cells hdX, RdS.len hmX sl23, RdS.idx hmX sl23, RdS.cellB hmX (Ext.pres eB), RdS.cells hmX, RdS.len hdY sl22, RdS.idx hdY sl22, R1.intB hdY (Ext.pres eB), RdS.cells hdY, RdS.len hmY sl23, RdS.idx hmY sl23, RdS.cellB hmY (Ext.pres eB), RdS.cells hmY, RdS.len rf sl23, RdS.idx rf sl23, RdS.cellB rf (Ext.pres eB), RdS.cells rf, wrap_id]
  refine hK _ _ ?_
  clear hK K
  refine den_ret ?_
  simp (disch := decide) only [resP_1, puts_same, puts_ne]
  exact ⟨vbool (pdec_no fun hF => c0 (by have := hF.len; omega)), eB⟩
 ·try simp only [decide_eq_true_eq, decide_eq_false_iff_not, beq_iff_eq, beq_eq_false_iff_ne, bne_iff_ne, ne_eq, Bool.not_eq_true', Bool.not_eq_false', Bool.and_eq_true, Bool.or_eq_true, bne_eq_false_iff_eq, Bool.or_eq_false_iff, Bool.and_eq_false_iff] at c0
  refine den_skip ?_
  refine den_seq ?_
  refine den_seq ?_
  refine den_region TTok ?_
  intro K hK
  simp -implicitDefEqProofs (disch := first | decide | assumption | omega) only [go_sem, RdS.len hdX sl22, RdS.idx hdX sl22, R1.intB hdX (Ext.pres eB), RdS.cells hdX, RdS.len hmX sl23, RdS.idx hmX sl23, RdS.cellB hmX (Ext.pres eB), RdS.cells hmX, RdS.len hdY sl22, RdS.idx hdY sl22, R1.intB hdY (Ext.pres eB), RdS.cells hdY, RdS.len hmY sl23, RdS.idx hmY sl23, RdS.cellB hmY (Ext.pres eB), RdS.cells hmY, RdS.len rf sl23, RdS.idx rf sl23, RdS.cellB rf (Ext.pres eB), RdS.cells rf, BoxAt.cell hb0_0, BoxAt.cell hb0_1, wrap_id]
  refine hK _ _ ?_
  clear hK K
  refine den_block ?_
  refine den_sel [19, 3, 4, 5, 17, 18] ?_
  intro env_1
  simp only [go_sem]
  refine den_loopS (σ := Nat) (fun st_ => [(19, .int .i64 (st_ : Int))]) (fun st_ H => (st_ ≤ f.length) ∧ (∀ j, j < st_ → famAt X Y f s j = true) ∧ (Ext h0_1 H)) (fun st_ => f.length - st_) 0 ?_ ?_
  ·exact ⟨by simp, fun j hj => by omega, Ext.refl _⟩
  ·rintro n h4 ee3 ⟨hn, hz, cL2⟩
   replace hb0_0 := BoxAt.ext hb0_0 cL2
   replace hb0_1 := BoxAt.ext hb0_1 cL2
   have := Ext.size cL2
   replace eB := Ext.trans eB cL2
   simp only [List.cons_append, List.nil_append]
   refine den_seq ?_
   refine den_region TTok ?_
   intro K hK
   simp -implicitDefEqProofs (disch := first | decide | assumption | omega) only [go_sem, RdS.len hdX sl22, RdS.idx hdX sl22, R1.intB hdX (Ext.pres eB), RdS.cells hdX, RdS.len hmX sl23, RdS.idx hmX sl23, RdS.cellB hmX (Ext.pres eB), RdS.cells hmX, RdS.len hdY sl22, RdS.idx hdY sl22, R1.intB hdY (Ext.pres eB), RdS.cells hdY, RdS.len hmY sl23, RdS.idx hmY sl23, RdS.cellB hmY (Ext.pres eB), RdS.cells hmY, RdS.len rf sl23, RdS.idx rf sl23, RdS.cellB rf (Ext.pres eB), RdS.cells rf, BoxAt.cell hb0_0, BoxAt.cell hb0_1, wrap_id]
   refine hK _ _ ?_
   clear hK K
   refine den_seq ?_
   refine den_cond rfl (fun c1 => ?_) (fun c1 => ?_)
   ·try simp only [decide_eq_true_eq, decide_eq_false_iff_not, beq_iff_eq, beq_eq_false_iff_ne, bne_iff_ne, ne_eq, Bool.not_eq_true', Bool.not_eq_false', Bool.and_eq_true, Bool.or_eq_true, bne_eq_false_iff_eq, Bool.or_eq_false_iff, Bool.and_eq_false_iff] at c1
    refine den_skip ?_
    refine den_seq ?_
    refine den_block ?_
    refine den_seq ?_
    refine den_region TTok ?_
    intro K hK
    have hr5 := RdS.rowN rf n (by omega)
    have hlhr5 := RdS.le hr5
    simp -implicitDefEqProofs (disch := first | decide | assumption | omega) only [go_sem, ld26, RdS.len hdX sl22, RdS.idx hdX sl22, R1.intB hdX (Ext.pres eB), RdS.cells hdX, RdS.len hmX sl23, RdS.idx hmX sl23, RdS.cellB hmX (Ext.pres eB), RdS.cells hmX, RdS.len hdY sl22, RdS.idx hdY sl22, R1.intB hdY (Ext.pres eB), RdS.cells hdY, RdS.len hmY sl23, RdS.idx hmY sl23, RdS.cellB hmY (Ext.pres eB), RdS.cells hmY, RdS.len rf sl23, RdS.idx rf sl23, RdS.cellB rf (Ext.pres eB), RdS.cells rf, RdS.len hr5 sl26, RdS.idx hr5 sl26, RdS.cellB hr5 (Ext.pres eB), RdS.cells hr5, BoxAt.cell hb0_0, BoxAt.cell hb0_1, wrap_id]
    refine hK _ _ ?_
    clear hK K
    refine den_seq ?_
    refine den_merge [(43, .bool ((((((f).getD n default).length : Int) != ((X.dims).getD n 0)) || (!((((f).getD n default).all (isRow X.p (dimP Y ((n : Int) + s)))))))))] [3, 4, 5, 17, 18, 19] (fun H => Ext h4 H) ?_ ?_
     -- a way
    ·refine den_draw TTok mixed [] [(0, true), (2, true), (3, true), (4, true), (5, true), (6, true), (1, false), (7, true), (8, true), (9, true), (10, true), (11, true), (12, true), (13, true), (14, true), (16, true), (15, false), (17, false), (18, true), (19, true)] (by kernel_rfl) ?_
     intro K hK
     simp -implicitDefEqProofs (disch := first | decide | assumption | (simp (disch := decide) only [slotOf_zero, slotOf_succ, Option.map_some, puts_same, puts_ne, gv_bool, gv_undef, tt, tf, ft, ff, eq_self, if_true, if_false, Bool.false_eq_true, Bool.not_true, Bool.not_false]; done) | omega) only [go_sem, fa31_1, ld22, ld2, RdS.len hdX sl22, RdS.idx hdX sl22, R1.intB hdX (Ext.pres eB), RdS.cells hdX, RdS.len hmX sl23, RdS.idx hmX sl23, RdS.cellB hmX (Ext.pres eB), RdS.cells hmX, RdS.len hdY sl22, RdS.idx hdY sl22, R1.intB hdY (Ext.pres eB), RdS.cells hdY, RdS.len hmY sl23, RdS.idx hmY sl23, RdS.cellB hmY (Ext.pres eB), RdS.cells hmY, RdS.len rf sl23, RdS.idx rf sl23, RdS.cellB rf (Ext.pres eB), RdS.cells rf, RdS.len hr5 sl26, RdS.idx hr5 sl26, RdS.cellB hr5 (Ext.pres eB), RdS.cells hr5, BoxAt.cell hb0_0, BoxAt.cell hb0_1, wrap_id]
     try simp -implicitDefEqProofs (disch := first | decide | assumption | omega) only [go_sem, RdS.len hdX sl22, RdS.idx hdX sl22, R1.intB hdX (Ext.pres eB), RdS.cells hdX, RdS.len hmX sl23, RdS.idx hmX sl23, RdS.cellB hmX (Ext.pres eB), RdS.cells hmX, RdS.len hdY sl22, RdS.idx hdY sl22, R1.intB hdY (Ext.pres eB), RdS.cells hdY, RdS.len hmY sl23, RdS.idx hmY sl23, RdS.cellB hmY (Ext.pres eB), RdS.cells hmY, RdS.len rf sl23, RdS.idx rf sl23, RdS.cellB rf (Ext.pres eB), RdS.cells rf, RdS.len hr5 sl26, RdS.idx hr5 sl26, RdS.cellB hr5 (Ext.pres eB), RdS.cells hr5, BoxAt.cell hb0_0, BoxAt.cell hb0_1, wrap_id]
     refine CallA.pure (size2_ok _ _ _ (RdS.pres hr5 (Ext.pres eB))) ?_
     try simp -implicitDefEqProofs (disch := first | decide | assumption | (simp (disch := decide) only [slotOf_zero, slotOf_succ, Option.map_some, puts_same, puts_ne, gv_bool, gv_undef, tt, tf, ft, ff, eq_self, if_true, if_false, Bool.false_eq_true, Bool.not_true, Bool.not_false]; done) | omega) only [go_sem, RdS.len hdX sl22, RdS.idx hdX sl22, R1.intB hdX (Ext.pres eB), RdS.cells hdX, RdS.len hmX sl23, RdS.idx hmX sl23, RdS.cellB hmX (Ext.pres eB), RdS.cells hmX, RdS.len hdY sl22, RdS.idx hdY sl22, R1.intB hdY (Ext.pres eB), RdS.cells hdY, RdS.len hmY sl23, RdS.idx hmY sl23, RdS.cellB hmY (Ext.pres eB), RdS.cells hmY, RdS.len rf sl23, RdS.idx rf sl23, RdS.cellB rf (Ext.pres eB), RdS.cells rf, RdS.len hr5 sl26, RdS.idx hr5 sl26, RdS.cellB hr5 (Ext.pres eB), RdS.cells hr5, BoxAt.cell hb0_0, BoxAt.cell hb0_1, wrap_id]
     refine plG_F (by simp (disch := decide) only [slotOf_zero, slotOf_succ, Option.map_some, puts_same, puts_ne, gv_bool, gv_undef, tt, tf, ft, ff, eq_self, if_true, if_false, Bool.false_eq_true, Bool.not_true, Bool.not_false]; rfl) (fun g6 => ?_) (fun g6 => ?_)
     ·try simp -implicitDefEqProofs (disch := first | decide | assumption | (simp (disch := decide) only [slotOf_zero, slotOf_succ, Option.map_some, puts_same, puts_ne, gv_bool, gv_undef, tt, tf, ft, ff, eq_self, if_true, if_false, Bool.false_eq_true, Bool.not_true, Bool.not_false, g6]; done) | omega) only [go_sem, fa31_0, ld2, ld31, RdS.len hdX sl22, RdS.idx hdX sl22, R1.intB hdX (Ext.pres eB), RdS.cells hdX, RdS.len hmX sl23, RdS.idx hmX sl23, RdS.cellB hmX (Ext.pres eB), RdS.cells hmX, RdS.len hdY sl22, RdS.idx hdY sl22, R1.intB hdY (Ext.pres eB), RdS.cells hdY, RdS.len hmY sl23, RdS.idx hmY sl23, RdS.cellB hmY (Ext.pres eB), RdS.cells hmY, RdS.len rf sl23, RdS.idx rf sl23, RdS.cellB rf (Ext.pres eB), RdS.cells rf, RdS.len hr5 sl26, RdS.idx hr5 sl26, RdS.cellB hr5 (Ext.pres eB), RdS.cells hr5, BoxAt.cell hb0_0, BoxAt.cell hb0_1, wrap_id, g6, eq_self, if_true, if_false, Bool.false_eq_true]
      try simp -implicitDefEqProofs (disch := first | decide | assumption | omega) only [go_sem, RdS.len hdX sl22, RdS.idx hdX sl22, R1.intB hdX (Ext.pres eB), RdS.cells hdX, RdS.len hmX sl23, RdS.idx hmX sl23, RdS.cellB hmX (Ext.pres eB), RdS.cells hmX, RdS.len hdY sl22, RdS.idx hdY sl22, R1.intB hdY (Ext.pres eB), RdS.cells hdY, RdS.len hmY sl23, RdS.idx hmY sl23, RdS.cellB hmY (Ext.pres eB), RdS.cells hmY, RdS.len rf sl23, RdS.idx rf sl23, RdS.cellB rf (Ext.pres eB), RdS.cells rf, RdS.len hr5 sl26, RdS.idx hr5 sl26, RdS.cellB hr5 (Ext.pres eB), RdS.cells hr5, BoxAt.cell hb0_0, BoxAt.cell hb0_1, wrap_id]
      refine CallA.mono (iDim_ok _ Y _ _ ⟨_, _, rfl, (RdS.pres hdY (Ext.pres eB)), (RdS.pres hmY (Ext.pres eB))⟩) ?_
      intro v_ h6_15
      rintro ⟨rfl, e6_15⟩
      replace hb0_0 := BoxAt.ext hb0_0 e6_15
      replace hb0_1 := BoxAt.ext hb0_1 e6_15
      have := Ext.size e6_15
      replace eB := Ext.trans eB e6_15
      replace cL2 := Ext.trans cL2 e6_15
      try simp (disch := decide) only [outv_some, outv_none, put_puts]
      refine plK_pres (Ext.pres e6_15) ?_
      try simp -implicitDefEqProofs (disch := first | decide | assumption | (simp (disch := decide) only [slotOf_zero, slotOf_succ, Option.map_some, puts_same, puts_ne, gv_bool, gv_undef, tt, tf, ft, ff, eq_self, if_true, if_false, Bool.false_eq_true, Bool.not_true, Bool.not_false, g6]; done) | omega) only [go_sem, RdS.len hdX sl22, RdS.idx hdX sl22, R1.intB hdX (Ext.pres eB), RdS.cells hdX, RdS.len hmX sl23, RdS.idx hmX sl23, RdS.cellB hmX (Ext.pres eB), RdS.cells hmX, RdS.len hdY sl22, RdS.idx hdY sl22, R1.intB hdY (Ext.pres eB), RdS.cells hdY, RdS.len hmY sl23, RdS.idx hmY sl23, RdS.cellB hmY (Ext.pres eB), RdS.cells hmY, RdS.len rf sl23, RdS.idx rf sl23, RdS.cellB rf (Ext.pres eB), RdS.cells rf, RdS.len hr5 sl26, RdS.idx hr5 sl26, RdS.cellB hr5 (Ext.pres eB), RdS.cells hr5, BoxAt.cell hb0_0, BoxAt.cell hb0_1, wrap_id, g6, eq_self, if_true, if_false, Bool.false_eq_true]
      try simp -implicitDefEqProofs (disch := first | decide | assumption | omega) only [go_sem, RdS.len hdX sl22, RdS.idx hdX sl22, R1.intB hdX (Ext.pres eB), RdS.cells hdX, RdS.len hmX sl23, RdS.idx hmX sl23, RdS.cellB hmX (Ext.pres eB), RdS.cells hmX, RdS.len hdY sl22, RdS.idx hdY sl22, R1.intB hdY (Ext.pres eB), RdS.cells hdY, RdS.len hmY sl23, RdS.idx hmY sl23, RdS.cellB hmY (Ext.pres eB), RdS.cells hmY, RdS.len rf sl23, RdS.idx rf sl23, RdS.cellB rf (Ext.pres eB), RdS.cells rf, RdS.len hr5 sl26, RdS.idx hr5 sl26, RdS.cellB hr5 (Ext.pres eB), RdS.cells hr5, BoxAt.cell hb0_0, BoxAt.cell hb0_1, wrap_id]
      refine CallA.mono (areRows_ok _ _ _ _ _ (RdS.pres hr5 (Ext.pres eB)) (by omega)) ?_
      intro v_ h6_17
      rintro ⟨rfl, e6_17⟩
      replace hb0_0 := BoxAt.ext hb0_0 e6_17
      replace hb0_1 := BoxAt.ext hb0_1 e6_17
      have := Ext.size e6_17
      replace eB := Ext.trans eB e6_17
      replace cL2 := Ext.trans cL2 e6_17
      try simp (disch := decide) only [outv_some, outv_none, put_puts]
      refine plK_pres (Ext.pres e6_17) ?_
      try simp -implicitDefEqProofs (disch := first | decide | assumption | (simp (disch := decide) only [slotOf_zero, slotOf_succ, Option.map_some, puts_same, puts_ne, gv_bool, gv_undef, tt, tf, ft, ff, eq_self, if_true, if_false, Bool.false_eq_true, Bool.not_true, Bool.not_false, g6]; done) | omega) only [go_sem, RdS.len hdX sl22, RdS.idx hdX sl22, R1.intB hdX (Ext.pres eB), RdS.cells hdX, RdS.len hmX sl23, RdS.idx hmX sl23, RdS.cellB hmX (Ext.pres eB), RdS.cells hmX, RdS.len hdY sl22, RdS.idx hdY sl22, R1.intB hdY (Ext.pres eB), RdS.cells hdY, RdS.len hmY sl23, RdS.idx hmY sl23, RdS.cellB hmY (Ext.pres eB), RdS.cells hmY, RdS.len rf sl23, RdS.idx rf sl23, RdS.cellB rf (Ext.pres eB), RdS.cells rf, RdS.len hr5 sl26, RdS.idx hr5 sl26, RdS.cellB hr5 (Ext.pres eB), RdS.cells hr5, BoxAt.cell hb0_0, BoxAt.cell hb0_1, wrap_id, g6, eq_self, if_true, if_false, Bool.false_eq_true]
      refine hK _ _ ?_
      clear hK K
      refine den_stop ?_
      refine ⟨?_, (Ext.trans e6_15 e6_17)⟩
      first | (simp (disch := decide) only [go_sem, g6, eq_self, Bool.true_and, Bool.and_true, Bool.false_and, Bool.and_false, Bool.true_or, Bool.or_true, Bool.false_or, Bool.or_false, if_true, if_false, Bool.false_eq_true]; done) | simp [HasL, sel, puts_at, g6]
     ·try simp -implicitDefEqProofs (disch := first | decide | assumption | (simp (disch := decide) only [slotOf_zero, slotOf_succ, Option.map_some, puts_same, puts_ne, gv_bool, gv_undef, tt, tf, ft, ff, eq_self, if_true, if_false, Bool.false_eq_true, Bool.not_true, Bool.not_false, g6]; done) | omega) only [go_sem, RdS.len hdX sl22, RdS.idx hdX sl22, R1.intB hdX (Ext.pres eB), RdS.cells hdX, RdS.len hmX sl23, RdS.idx hmX sl23, RdS.cellB hmX (Ext.pres eB), RdS.cells hmX, RdS.len hdY sl22, RdS.idx hdY sl22, R1.intB hdY (Ext.pres eB), RdS.cells hdY, RdS.len hmY sl23, RdS.idx hmY sl23, RdS.cellB hmY (Ext.pres eB), RdS.cells hmY, RdS.len rf sl23, RdS.idx rf sl23, RdS.cellB rf (Ext.pres eB), RdS.cells rf, RdS.len hr5 sl26, RdS.idx hr5 sl26, RdS.cellB hr5 (Ext.pres eB), RdS.cells hr5, BoxAt.cell hb0_0, BoxAt.cell hb0_1, wrap_id, g6, eq_self, if_true, if_false, Bool.false_eq_true]
      refine hK _ _ ?_
      clear hK K
      refine den_stop ?_
      refine ⟨?_, Ext.refl _⟩
      first | (simp (disch := decide) only [go_sem, g6, eq_self, Bool.true_and, Bool.and_true, Bool.false_and, Bool.and_false, Bool.true_or, Bool.or_true, Bool.false_or, Bool.or_false, if_true, if_false, Bool.false_eq_true]; done) | simp [HasL, sel, puts_at, g6]
    intro en7 h8 e9
    replace hb0_0 := BoxAt.ext hb0_0 e9
    replace hb0_1 := BoxAt.ext hb0_1 e9
    have := Ext.size e9
    replace eB := Ext.trans eB e9
    replace cL2 := Ext.trans cL2 e9
    simp (disch := decide) only [go_sem]
    refine den_cond rfl (fun c2 => ?_) (fun c2 => ?_)
    ·try simp only [decide_eq_true_eq, decide_eq_false_iff_not, beq_iff_eq, beq_eq_false_iff_ne, bne_iff_ne, ne_eq, Bool.not_eq_true', Bool.not_eq_false', Bool.and_eq_true, Bool.or_eq_true, bne_eq_false_iff_eq, Bool.or_eq_false_iff, Bool.and_eq_false_iff] at c2
     refine den_seq ?_
     refine den_region TTok ?_
     intro K hK
     simp -implicitDefEqProofs (disch := first | decide | assumption | omega) only [go_sem, RdS.len hdX sl22, RdS.idx hdX sl22, R1.intB hdX (Ext.pres eB), RdS.cells hdX, RdS.len hmX sl23, RdS.idx hmX sl23, RdS.cellB hmX (Ext.pres eB), RdS.cells hmX, RdS.len hdY sl22, RdS.idx hdY sl22, R1.intB hdY (Ext.pres eB), RdS.cells hdY, RdS.len hmY sl23, RdS.idx hmY sl23, RdS.cellB hmY (Ext.pres eB), RdS.cells hmY, RdS.len rf sl23, RdS.idx rf sl23, RdS.cellB rf (Ext.pres eB), RdS.cells rf, RdS.len hr5 sl26, RdS.idx hr5 sl26, RdS.cellB hr5 (Ext.pres eB), RdS.cells hr5, wrap_id]
     refine hK _ _ ?_
     clear hK K
     refine den_ret ?_
     simp (disch := decide) only [resP_1, puts_same, puts_ne]
     exact ⟨vbool (pdec_no fun hF => by
      have h1 := hF.at (n := n) (by omega)
      have h2 := (famAt_iff.1 (hF.rows n (by omega))).2
      rcases c2 with c | c
      ·exact c h1.1
      ·rw [h2] at c; cases c), eB⟩
    ·try simp only [decide_eq_true_eq, decide_eq_false_iff_not, beq_iff_eq, beq_eq_false_iff_ne, bne_iff_ne, ne_eq, Bool.not_eq_true', Bool.not_eq_false', Bool.and_eq_true, Bool.or_eq_true, bne_eq_false_iff_eq, Bool.or_eq_false_iff, Bool.and_eq_false_iff] at c2
     refine den_skip ?_
     refine den_blk ?_
     refine den_region TTok ?_
     intro K hK
     simp -implicitDefEqProofs (disch := first | decide | assumption | omega) only [go_sem, RdS.len hdX sl22, RdS.idx hdX sl22, R1.intB hdX (Ext.pres eB), RdS.cells hdX, RdS.len hmX sl23, RdS.idx hmX sl23, RdS.cellB hmX (Ext.pres eB), RdS.cells hmX, RdS.len hdY sl22, RdS.idx hdY sl22, R1.intB hdY (Ext.pres eB), RdS.cells hdY, RdS.len hmY sl23, RdS.idx hmY sl23, RdS.cellB hmY (Ext.pres eB), RdS.cells hmY, RdS.len rf sl23, RdS.idx rf sl23, RdS.cellB rf (Ext.pres eB), RdS.cells rf, RdS.len hr5 sl26, RdS.idx hr5 sl26, RdS.cellB hr5 (Ext.pres eB), RdS.cells hr5, BoxAt.cell hb0_0, BoxAt.cell hb0_1, wrap_id]
     refine hK _ _ ?_
     clear hK K
     refine den_stop ?_
     exact ⟨n + 1, by simp [HasL, puts_at], ⟨by omega, fun j hj => (Nat.lt_succ_iff_lt_or_eq.1 hj).elim (hz j) (fun e => by rw [e]; exact famAt_iff.2 c2), cL2⟩, by first | omega | (dsimp only; omega)⟩
   ·try simp only [decide_eq_true_eq, decide_eq_false_iff_not, beq_iff_eq, beq_eq_false_iff_ne, bne_iff_ne, ne_eq, Bool.not_eq_true', Bool.not_eq_false', Bool.and_eq_true, Bool.or_eq_true, bne_eq_false_iff_eq, Bool.or_eq_false_iff, Bool.and_eq_false_iff] at c1
    refine den_exit ?_
    refine denX_code ?_
    refine denX_stop ?_
    refine denX_hit ?_
    refine den_seq ?_
    refine den_region TTok ?_
    intro K hK
    simp -implicitDefEqProofs (disch := first | decide | assumption | omega) only [go_sem, RdS.len hdX sl22, RdS.idx hdX sl22, R1.intB hdX (Ext.pres eB), RdS.cells hdX, RdS.len hmX sl23, RdS.idx hmX sl23, RdS.cellB hmX (Ext.pres eB), RdS.cells hmX, RdS.len hdY sl22, RdS.idx hdY sl22, R1.intB hdY (Ext.pres eB), RdS.cells hdY, RdS.len hmY sl23, RdS.idx hmY sl23, RdS.cellB hmY (Ext.pres eB), RdS.cells hmY, RdS.len rf sl23, RdS.idx rf sl23, RdS.cellB rf (Ext.pres eB), RdS.cells rf, wrap_id]
    refine hK _ _ ?_
    clear hK K
    refine den_ret ?_
    simp (disch := decide) only [resP_1, puts_same, puts_ne]
    exact ⟨vbool (pdec_yes ⟨by omega, fun j hj => hz j (by omega)⟩), eB⟩

set_option maxRecDepth 100000 in
theorem sFam_ok (vX vY vf : Value) (X : Cx) (Y : Cx) (f : List (List (List Int))) (s : Int) (h : Heap) (rX : RC h vX X) (rY : RC h vY Y) (rf : R3 h vf f) (hX : IsC X) (hs : 0 ≤ s ∧ s ≤ 1) : CallA Try.prog 188 #[vX, vY, vf, .int .i64 s] h fun v' h' => v' = .bool (famP X Y f s) ∧ Ext h h' := by
 obtain ⟨vdX, vmX, rfl, hdX, hmX⟩ := rX
 have hledX := RdS.le hdX
 have hlemX := RdS.le hmX
 obtain ⟨vdY, vmY, rfl, hdY, hmY⟩ := rY
 have hledY := RdS.le hdY
 have hlemY := RdS.le hmY
 have hlef := RdS.le rf
 have hlen := hX.len
 have hpb := isP_bnd hX.p
 refine callA_intro TTok (args := [_, _, _, _]) Try.func188 (by kernel_rfl) rfl 85 rfl (by simp) [.tmp 8] rfl ?_
 simp only [idxs, Nat.reduceAdd]
 refine den_seq ?_
 refine den_region TTok ?_
 intro K hK
 simp -implicitDefEqProofs (disch := first | decide | assumption | omega) only [go_sem, RdS.len hdX sl22, RdS.idx hdX sl22, R1.intB hdX (HPres.refl _), RdS.cells hdX, RdS.len hmX sl23, RdS.idx hmX sl23, RdS.cellB hmX (HPres.refl _), RdS.cells hmX, RdS.len hdY sl22, RdS.idx hdY sl22, R1.intB hdY (HPres.refl _), RdS.cells hdY, RdS.len hmY sl23, RdS.idx hmY sl23, RdS.cellB hmY (HPres.refl _), RdS.cells hmY, RdS.len rf sl23, RdS.idx rf sl23, RdS.cellB rf (HPres.refl _), RdS.cells rf, wrap_id]
 refine op_box (cs := #[.int .i64 (X.p), vdX, vmX]) rfl ?_
 intro h0_0 e0_0 hb0_0 z0_0
 have := Ext.size e0_0
 have eB := e0_0
 have hfhb0_0 : Fresh h.size [h.size] := Fresh.one _
 have hlhb0_0 := one_lt (show h.size < h0_0.size by omega)
 try simp -implicitDefEqProofs (disch := first | decide | assumption | omega) only [go_sem, RdS.len hdX sl22, RdS.idx hdX sl22, R1.intB hdX (Ext.pres eB), RdS.cells hdX, RdS.len hmX sl23, RdS.idx hmX sl23, RdS.cellB hmX (Ext.pres eB), RdS.cells hmX, RdS.len hdY sl22, RdS.idx hdY sl22, R1.intB hdY (Ext.pres eB), RdS.cells hdY, RdS.len hmY sl23, RdS.idx hmY sl23, RdS.cellB hmY (Ext.pres eB), RdS.cells hmY, RdS.len rf sl23, RdS.idx rf sl23, RdS.cellB rf (Ext.pres eB), RdS.cells rf, BoxAt.cell hb0_0, wrap_id]
 refine op_box (cs := #[.int .i64 (Y.p), vdY, vmY]) rfl ?_
 intro h0_1 e0_1 hb0_1 z0_1
 replace hb0_0 := BoxAt.ext hb0_0 e0_1
 have := Ext.size e0_1
 replace eB := Ext.trans eB e0_1
 have hfhb0_1 : Fresh h0_0.size [h0_0.size] := Fresh.one _
 have hlhb0_1 := one_lt (show h0_0.size < h0_1.size by omega)
 try simp -implicitDefEqProofs (disch := first | decide | assumption | omega) only [go_sem, RdS.len hdX sl22, RdS.idx hdX sl22, R1.intB hdX (Ext.pres eB), RdS.cells hdX, RdS.len hmX sl23, RdS.idx hmX sl23, RdS.cellB hmX (Ext.pres eB), RdS.cells hmX, RdS.len hdY sl22, RdS.idx hdY sl22, R1.intB hdY (Ext.pres eB), RdS.cells hdY, RdS.len hmY sl23, RdS.idx hmY sl23, RdS.cellB hmY (Ext.pres eB), RdS.cells hmY, RdS.len rf sl23, RdS.idx rf sl23, RdS.cellB rf (Ext.pres eB), RdS.cells rf, BoxAt.cell hb0_0, BoxAt.cell hb0_1, wrap_id]
 refine hK _ _ ?_
 clear hK K
 refine den_seq ?_
 refine den_seq ?_
 refine den_region TTok ?_
 intro K hK
 simp -implicitDefEqProofs (disch := first | decide | assumption | omega) only [go_sem, fa31_1, ld22, RdS.len hdX sl22, RdS.idx hdX sl22, R1.intB hdX (Ext.pres eB), RdS.cells hdX, RdS.len hmX sl23, RdS.idx hmX sl23, RdS.cellB hmX (Ext.pres eB), RdS.cells hmX, RdS.len hdY sl22, RdS.idx hdY sl22, R1.intB hdY (Ext.pres eB), RdS.cells hdY, RdS.len hmY sl23, RdS.idx hmY sl23, RdS.cellB hmY (Ext.pres eB), RdS.cells hmY, RdS.len rf sl23, RdS.idx rf sl23, RdS.cellB rf (Ext.pres eB), RdS.cells rf, BoxAt.cell hb0_0, BoxAt.cell hb0_1, wrap_id]
 refine hK _ _ ?_
 clear hK K
 refine den_cond rfl (fun c0 => ?_) (fun c0 => ?_)
 ·try simp only [decide_eq_true_eq, decide_eq_false_iff_not, beq_iff_eq, beq_eq_false_iff_ne, bne_iff_ne, ne_eq, Bool.not_eq_true', Bool.not_eq_false', Bool.and_eq_true, Bool.or_eq_true, bne_eq_false_iff_eq, Bool.or_eq_false_iff, Bool.and_eq_false_iff] at c0
  refine den_seq ?_
  refine den_region TTok ?_
  intro K hK
  simp -implicitDefEqProofs (disch := first | decide | assumption | omega) only [go_sem, RdS.len hdX sl22, RdS.idx hdX sl22, R1.intB hdX (Ext.pres eB), RdS.cells hdX, RdS.len hmX sl23, RdS.idx hmX sl23, RdS.cellB hmX (Ext.pres eB), RdS.cells hmX, RdS.len hdY sl22, RdS.idx hdY sl22, R1.intB hdY (Ext.pres eB), RdS.cells hdY, RdS.len hmY sl23, RdS.idx hmY sl23, RdS.cellB hmY (Ext.pres eB), RdS.cells hmY, RdS.len rf sl23, RdS.idx rf sl23, RdS.cellB rf (Ext.pres eB), RdS.cells rf, wrap_id]
  refine hK _ _ ?_
  clear hK K
  refine den_ret ?_
  simp (disch := decide) only [resP_1, puts_same, puts_ne]
  exact ⟨vbool (pdec_no fun hF => c0 (by have := hF.len; omega)), eB⟩
 ·try simp only [decide_eq_true_eq, decide_eq_false_iff_not, beq_iff_eq, beq_eq_false_iff_ne, bne_iff_ne, ne_eq, Bool.not_eq_true', Bool.not_eq_false', Bool.and_eq_true, Bool.or_eq_true, bne_eq_false_iff_eq, Bool.or_eq_false_iff, Bool.and_eq_false_iff] at c0
  refine den_skip ?_
  refine den_seq ?_
  refine den_seq ?_
  refine den_region TTok ?_
  intro K hK
  simp -implicitDefEqProofs (disch := first | decide | assumption | omega) only [go_sem, RdS.len hdX sl22, RdS.idx hdX sl22, R1.intB hdX (Ext.pres eB), RdS.cells hdX, RdS.len hmX sl23, RdS.idx hmX sl23, RdS.cellB hmX (Ext.pres eB), RdS.cells hmX, RdS.len hdY sl22, RdS.idx hdY sl22, R1.intB hdY (Ext.pres eB), RdS.cells hdY, RdS.len hmY sl23, RdS.idx hmY sl23, RdS.cellB hmY (Ext.pres eB), RdS.cells hmY, RdS.len rf sl23, RdS.idx rf sl23, RdS.cellB rf (Ext.pres eB), RdS.cells rf, BoxAt.cell hb0_0, BoxAt.cell hb0_1, wrap_id]
  refine hK _ _ ?_
  clear hK K
  refine den_block ?_
  refine den_sel [9, 2, 3, 4, 5] ?_
  intro env_1
  simp only [go_sem]
  refine den_loopS (σ := Nat) (fun st_ => [(9, .int .i64 (st_ : Int))]) (fun st_ H => (st_ ≤ f.length) ∧ (∀ j, j < st_ → famAt X Y f s j = true) ∧ (Ext h0_1 H)) (fun st_ => f.length - st_) 0 ?_ ?_
  ·exact ⟨by simp, fun j hj => by omega, Ext.refl _⟩
  ·rintro n h4 ee3 ⟨hn, hz, cL2⟩
   replace hb0_0 := BoxAt.ext hb0_0 cL2
   replace hb0_1 := BoxAt.ext hb0_1 cL2
   have := Ext.size cL2
   replace eB := Ext.trans eB cL2
   simp only [List.cons_append, List.nil_append]
   refine den_seq ?_
   refine den_seq ?_
   refine den_region TTok ?_
   intro K hK
   simp -implicitDefEqProofs (disch := first | decide | assumption | omega) only [go_sem, RdS.len hdX sl22, RdS.idx hdX sl22, R1.intB hdX (Ext.pres eB), RdS.cells hdX, RdS.len hmX sl23, RdS.idx hmX sl23, RdS.cellB hmX (Ext.pres eB), RdS.cells hmX, RdS.len hdY sl22, RdS.idx hdY sl22, R1.intB hdY (Ext.pres eB), RdS.cells hdY, RdS.len hmY sl23, RdS.idx hmY sl23, RdS.cellB hmY (Ext.pres eB), RdS.cells hmY, RdS.len rf sl23, RdS.idx rf sl23, RdS.cellB rf (Ext.pres eB), RdS.cells rf, BoxAt.cell hb0_0, BoxAt.cell hb0_1, wrap_id]
   refine hK _ _ ?_
   clear hK K
   refine den_cond rfl (fun c1 => ?_) (fun c1 => ?_)
   ·try simp only [decide_eq_true_eq, decide_eq_false_iff_not, beq_iff_eq, beq_eq_false_iff_ne, bne_iff_ne, ne_eq, Bool.not_eq_true', Bool.not_eq_false', Bool.and_eq_true, Bool.or_eq_true, bne_eq_false_iff_eq, Bool.or_eq_false_iff, Bool.and_eq_false_iff] at c1
    refine den_skip ?_
    refine den_seq ?_
    refine den_block ?_
    refine den_seq ?_
    refine den_seq ?_
    refine den_draw TTok mixed [] [(0, true), (1, true), (2, true), (3, true), (4, true), (5, true), (6, true), (7, true), (8, true), (9, true), (10, true)] (by kernel_rfl) ?_
    intro K hK
    have hr5 := RdS.rowN rf n (by omega)
    have hlhr5 := RdS.le hr5
    simp -implicitDefEqProofs (disch := first | decide | assumption | omega) only [go_sem, fa31_1, ld26, ld22, ld2, RdS.len hdX sl22, RdS.idx hdX sl22, R1.intB hdX (Ext.pres eB), RdS.cells hdX, RdS.len hmX sl23, RdS.idx hmX sl23, RdS.cellB hmX (Ext.pres eB), RdS.cells hmX, RdS.len hdY sl22, RdS.idx hdY sl22, R1.intB hdY (Ext.pres eB), RdS.cells hdY, RdS.len hmY sl23, RdS.idx hmY sl23, RdS.cellB hmY (Ext.pres eB), RdS.cells hmY, RdS.len rf sl23, RdS.idx rf sl23, RdS.cellB rf (Ext.pres eB), RdS.cells rf, RdS.len hr5 sl26, RdS.idx hr5 sl26, RdS.cellB hr5 (Ext.pres eB), RdS.cells hr5, BoxAt.cell hb0_0, BoxAt.cell hb0_1, wrap_id]
    refine hK _ _ ?_
    clear hK K
    refine den_cond rfl (fun c2 => ?_) (fun c2 => ?_)
    ·try simp only [decide_eq_true_eq, decide_eq_false_iff_not, beq_iff_eq, beq_eq_false_iff_ne, bne_iff_ne, ne_eq, Bool.not_eq_true', Bool.not_eq_false', Bool.and_eq_true, Bool.or_eq_true, bne_eq_false_iff_eq, Bool.or_eq_false_iff, Bool.and_eq_false_iff] at c2
     refine den_seq ?_
     refine den_region TTok ?_
     intro K hK
     simp -implicitDefEqProofs (disch := first | decide | assumption | omega) only [go_sem, RdS.len hdX sl22, RdS.idx hdX sl22, R1.intB hdX (Ext.pres eB), RdS.cells hdX, RdS.len hmX sl23, RdS.idx hmX sl23, RdS.cellB hmX (Ext.pres eB), RdS.cells hmX, RdS.len hdY sl22, RdS.idx hdY sl22, R1.intB hdY (Ext.pres eB), RdS.cells hdY, RdS.len hmY sl23, RdS.idx hmY sl23, RdS.cellB hmY (Ext.pres eB), RdS.cells hmY, RdS.len rf sl23, RdS.idx rf sl23, RdS.cellB rf (Ext.pres eB), RdS.cells rf, RdS.len hr5 sl26, RdS.idx hr5 sl26, RdS.cellB hr5 (Ext.pres eB), RdS.cells hr5, wrap_id]
     refine hK _ _ ?_
     clear hK K
     refine den_ret ?_
     simp (disch := decide) only [resP_1, puts_same, puts_ne]
     exact ⟨vbool (pdec_no fun hF => c2 (hF.at (by omega)).1), eB⟩
    ·try simp only [decide_eq_true_eq, decide_eq_false_iff_not, beq_iff_eq, beq_eq_false_iff_ne, bne_iff_ne, ne_eq, Bool.not_eq_true', Bool.not_eq_false', Bool.and_eq_true, Bool.or_eq_true, bne_eq_false_iff_eq, Bool.or_eq_false_iff, Bool.and_eq_false_iff] at c2
     refine den_skip ?_
     refine den_seq ?_
     refine den_region TTok ?_
     intro K hK
     simp -implicitDefEqProofs (disch := first | decide | assumption | omega) only [go_sem, RdS.len hdX sl22, RdS.idx hdX sl22, R1.intB hdX (Ext.pres eB), RdS.cells hdX, RdS.len hmX sl23, RdS.idx hmX sl23, RdS.cellB hmX (Ext.pres eB), RdS.cells hmX, RdS.len hdY sl22, RdS.idx hdY sl22, R1.intB hdY (Ext.pres eB), RdS.cells hdY, RdS.len hmY sl23, RdS.idx hmY sl23, RdS.cellB hmY (Ext.pres eB), RdS.cells hmY, RdS.len rf sl23, RdS.idx rf sl23, RdS.cellB rf (Ext.pres eB), RdS.cells rf, RdS.len hr5 sl26, RdS.idx hr5 sl26, RdS.cellB hr5 (Ext.pres eB), RdS.cells hr5, BoxAt.cell hb0_0, BoxAt.cell hb0_1, wrap_id]
     refine hK _ _ ?_
     clear hK K
     refine den_block ?_
     refine den_sel [10, 2, 3, 4, 5, 9] ?_
     intro env_6
     simp only [go_sem]
     refine den_loopS (σ := Nat) (fun st_ => [(10, .int .i64 (st_ : Int))]) (fun st_ H => (st_ ≤ (f.getD n default).length) ∧ (((f.getD n default).take st_).all (isRow X.p (dimP Y ((n : Int) + s))) = true) ∧ (Ext h4 H)) (fun st_ => (f.getD n default).length - st_) 0 ?_ ?_
     ·exact ⟨by simp, by simp, Ext.refl _⟩
     ·rintro i h9 ee8 ⟨hi, ha, cL7⟩
      replace hb0_0 := BoxAt.ext hb0_0 cL7
      replace hb0_1 := BoxAt.ext hb0_1 cL7
      have := Ext.size cL7
      replace eB := Ext.trans eB cL7
      replace cL2 := Ext.trans cL2 cL7
      simp only [List.cons_append, List.nil_append]
      refine den_seq ?_
      refine den_seq ?_
      refine den_region TTok ?_
      intro K hK
      have hr10 := RdS.rowN rf n (by omega)
      have hlhr10 := RdS.le hr10
      simp -implicitDefEqProofs (disch := first | decide | assumption | omega) only [go_sem, ld26, RdS.len hdX sl22, RdS.idx hdX sl22, R1.intB hdX (Ext.pres eB), RdS.cells hdX, RdS.len hmX sl23, RdS.idx hmX sl23, RdS.cellB hmX (Ext.pres eB), RdS.cells hmX, RdS.len hdY sl22, RdS.idx hdY sl22, R1.intB hdY (Ext.pres eB), RdS.cells hdY, RdS.len hmY sl23, RdS.idx hmY sl23, RdS.cellB hmY (Ext.pres eB), RdS.cells hmY, RdS.len rf sl23, RdS.idx rf sl23, RdS.cellB rf (Ext.pres eB), RdS.cells rf, RdS.len hr5 sl26, RdS.idx hr5 sl26, RdS.cellB hr5 (Ext.pres eB), RdS.cells hr5, RdS.len hr10 sl26, RdS.idx hr10 sl26, RdS.cellB hr10 (Ext.pres eB), RdS.cells hr10, BoxAt.cell hb0_0, BoxAt.cell hb0_1, wrap_id]
      refine hK _ _ ?_
      clear hK K
      refine den_cond rfl (fun c3 => ?_) (fun c3 => ?_)
      ·try simp only [decide_eq_true_eq, decide_eq_false_iff_not, beq_iff_eq, beq_eq_false_iff_ne, bne_iff_ne, ne_eq, Bool.not_eq_true', Bool.not_eq_false', Bool.and_eq_true, Bool.or_eq_true, bne_eq_false_iff_eq, Bool.or_eq_false_iff, Bool.and_eq_false_iff] at c3
       refine den_skip ?_
       refine den_seq ?_
       refine den_block ?_
       refine den_seq ?_
       refine den_seq ?_
       refine den_draw TTok mixed [] [(0, true), (1, true), (2, true), (3, true), (4, true), (5, true), (6, true), (7, true), (8, true), (9, true), (10, true), (11, true), (12, false), (13, true)] (by kernel_rfl) ?_
       intro K hK
       have hr11 := RdS.rowN rf n (by omega)
       have hlhr11 := RdS.le hr11
       have hr12 := RdS.rowN hr11 i (by omega)
       have hlhr12 := RdS.le hr12
       simp -implicitDefEqProofs (disch := first | decide | assumption | omega) only [go_sem, ld26, ld22, ld31, RdS.len hdX sl22, RdS.idx hdX sl22, R1.intB hdX (Ext.pres eB), RdS.cells hdX, RdS.len hmX sl23, RdS.idx hmX sl23, RdS.cellB hmX (Ext.pres eB), RdS.cells hmX, RdS.len hdY sl22, RdS.idx hdY sl22, R1.intB hdY (Ext.pres eB), RdS.cells hdY, RdS.len hmY sl23, RdS.idx hmY sl23, RdS.cellB hmY (Ext.pres eB), RdS.cells hmY, RdS.len rf sl23, RdS.idx rf sl23, RdS.cellB rf (Ext.pres eB), RdS.cells rf, RdS.len hr5 sl26, RdS.idx hr5 sl26, RdS.cellB hr5 (Ext.pres eB), RdS.cells hr5, RdS.len hr10 sl26, RdS.idx hr10 sl26, RdS.cellB hr10 (Ext.pres eB), RdS.cells hr10, RdS.len hr11 sl26, RdS.idx hr11 sl26, RdS.cellB hr11 (Ext.pres eB), RdS.cells hr11, RdS.len hr12 sl22, RdS.idx hr12 sl22, R1.intB hr12 (Ext.pres eB), RdS.cells hr12, BoxAt.cell hb0_0, BoxAt.cell hb0_1, wrap_id]
       try simp -implicitDefEqProofs (disch := first | decide | assumption | omega) only [go_sem, RdS.len hdX sl22, RdS.idx hdX sl22, R1.intB hdX (Ext.pres eB), RdS.cells hdX, RdS.len hmX sl23, RdS.idx hmX sl23, RdS.cellB hmX (Ext.pres eB), RdS.cells hmX, RdS.len hdY sl22, RdS.idx hdY sl22, R1.intB hdY (Ext.pres eB), RdS.cells hdY, RdS.len hmY sl23, RdS.idx hmY sl23, RdS.cellB hmY (Ext.pres eB), RdS.cells hmY, RdS.len rf sl23, RdS.idx rf sl23, RdS.cellB rf (Ext.pres eB), RdS.cells rf, RdS.len hr5 sl26, RdS.idx hr5 sl26, RdS.cellB hr5 (Ext.pres eB), RdS.cells hr5, RdS.len hr10 sl26, RdS.idx hr10 sl26, RdS.cellB hr10 (Ext.pres eB), RdS.cells hr10, RdS.len hr11 sl26, RdS.idx hr11 sl26, RdS.cellB hr11 (Ext.pres eB), RdS.cells hr11, RdS.len hr12 sl22, RdS.idx hr12 sl22, R1.intB hr12 (Ext.pres eB), RdS.cells hr12, BoxAt.cell hb0_0, BoxAt.cell hb0_1, wrap_id]
       refine CallA.mono (sDim_ok _ Y _ _ ⟨_, _, rfl, (RdS.pres hdY (Ext.pres eB)), (RdS.pres hmY (Ext.pres eB))⟩) ?_
       intro v_ h11_12
       rintro ⟨rfl, e11_12⟩
       replace hb0_0 := BoxAt.ext hb0_0 e11_12
       replace hb0_1 := BoxAt.ext hb0_1 e11_12
       have := Ext.size e11_12
       replace eB := Ext.trans eB e11_12
       replace cL2 := Ext.trans cL2 e11_12
       replace cL7 := Ext.trans cL7 e11_12
       try simp (disch := decide) only [outv_some, outv_none, put_puts]
       refine plK_pres (Ext.pres e11_12) ?_
       try simp -implicitDefEqProofs (disch := first | decide | assumption | omega) only [go_sem, RdS.len hdX sl22, RdS.idx hdX sl22, R1.intB hdX (Ext.pres eB), RdS.cells hdX, RdS.len hmX sl23, RdS.idx hmX sl23, RdS.cellB hmX (Ext.pres eB), RdS.cells hmX, RdS.len hdY sl22, RdS.idx hdY sl22, R1.intB hdY (Ext.pres eB), RdS.cells hdY, RdS.len hmY sl23, RdS.idx hmY sl23, RdS.cellB hmY (Ext.pres eB), RdS.cells hmY, RdS.len rf sl23, RdS.idx rf sl23, RdS.cellB rf (Ext.pres eB), RdS.cells rf, RdS.len hr5 sl26, RdS.idx hr5 sl26, RdS.cellB hr5 (Ext.pres eB), RdS.cells hr5, RdS.len hr10 sl26, RdS.idx hr10 sl26, RdS.cellB hr10 (Ext.pres eB), RdS.cells hr10, RdS.len hr11 sl26, RdS.idx hr11 sl26, RdS.cellB hr11 (Ext.pres eB), RdS.cells hr11, RdS.len hr12 sl22, RdS.idx hr12 sl22, R1.intB hr12 (Ext.pres eB), RdS.cells hr12, BoxAt.cell hb0_0, BoxAt.cell hb0_1, wrap_id]
       refine hK _ _ ?_
       clear hK K
       refine den_cond rfl (fun c4 => ?_) (fun c4 => ?_)
       ·try simp only [decide_eq_true_eq, decide_eq_false_iff_not, beq_iff_eq, beq_eq_false_iff_ne, bne_iff_ne, ne_eq, Bool.not_eq_true', Bool.not_eq_false', Bool.and_eq_true, Bool.or_eq_true, bne_eq_false_iff_eq, Bool.or_eq_false_iff, Bool.and_eq_false_iff] at c4
        refine den_seq ?_
        refine den_region TTok ?_
        intro K hK
        simp -implicitDefEqProofs (disch := first | decide | assumption | omega) only [go_sem, RdS.len hdX sl22, RdS.idx hdX sl22, R1.intB hdX (Ext.pres eB), RdS.cells hdX, RdS.len hmX sl23, RdS.idx hmX sl23, RdS.cellB hmX (Ext.pres eB), RdS.cells hmX, RdS.len hdY sl22, RdS.idx hdY sl22, R1.intB hdY (Ext.pres eB), RdS.cells hdY, RdS.len hmY sl23, RdS.idx hmY sl23, RdS.cellB hmY (Ext.pres eB), RdS.cells hmY, RdS.len rf sl23, RdS.idx rf sl23, RdS.cellB rf (Ext.pres eB), RdS.cells rf, RdS.len hr5 sl26, RdS.idx hr5 sl26, RdS.cellB hr5 (Ext.pres eB), RdS.cells hr5, RdS.len hr10 sl26, RdS.idx hr10 sl26, RdS.cellB hr10 (Ext.pres eB), RdS.cells hr10, RdS.len hr11 sl26, RdS.idx hr11 sl26, RdS.cellB hr11 (Ext.pres eB), RdS.cells hr11, RdS.len hr12 sl22, RdS.idx hr12 sl22, R1.intB hr12 (Ext.pres eB), RdS.cells hr12, wrap_id]
        refine hK _ _ ?_
        clear hK K
        refine den_ret ?_
        simp (disch := decide) only [resP_1, puts_same, puts_ne]
        exact ⟨vbool (pdec_no fun hF => c4 (isRow_iff.1 (hF.row (by omega) (by omega))).1), eB⟩
       ·try simp only [decide_eq_true_eq, decide_eq_false_iff_not, beq_iff_eq, beq_eq_false_iff_ne, bne_iff_ne, ne_eq, Bool.not_eq_true', Bool.not_eq_false', Bool.and_eq_true, Bool.or_eq_true, bne_eq_false_iff_eq, Bool.or_eq_false_iff, Bool.and_eq_false_iff] at c4
        refine den_skip ?_
        refine den_seq ?_
        refine den_region TTok ?_
        intro K hK
        simp -implicitDefEqProofs (disch := first | decide | assumption | omega) only [go_sem, RdS.len hdX sl22, RdS.idx hdX sl22, R1.intB hdX (Ext.pres eB), RdS.cells hdX, RdS.len hmX sl23, RdS.idx hmX sl23, RdS.cellB hmX (Ext.pres eB), RdS.cells hmX, RdS.len hdY sl22, RdS.idx hdY sl22, R1.intB hdY (Ext.pres eB), RdS.cells hdY, RdS.len hmY sl23, RdS.idx hmY sl23, RdS.cellB hmY (Ext.pres eB), RdS.cells hmY, RdS.len rf sl23, RdS.idx rf sl23, RdS.cellB rf (Ext.pres eB), RdS.cells rf, RdS.len hr5 sl26, RdS.idx hr5 sl26, RdS.cellB hr5 (Ext.pres eB), RdS.cells hr5, RdS.len hr10 sl26, RdS.idx hr10 sl26, RdS.cellB hr10 (Ext.pres eB), RdS.cells hr10, RdS.len hr11 sl26, RdS.idx hr11 sl26, RdS.cellB hr11 (Ext.pres eB), RdS.cells hr11, RdS.len hr12 sl22, RdS.idx hr12 sl22, R1.intB hr12 (Ext.pres eB), RdS.cells hr12, BoxAt.cell hb0_0, BoxAt.cell hb0_1, wrap_id]
        refine hK _ _ ?_
        clear hK K
        refine den_block ?_
        refine den_sel [11, 2, 3, 4, 5, 9, 10] ?_
        intro env_13
        simp only [go_sem]
        refine den_loopP (σ := Nat) (fun st_ => [(11, .int .i64 (st_ : Int))]) (fun st_ => (st_ ≤ ((f.getD n default).getD i default).length) ∧ ((((f.getD n default).getD i default).take st_).all (fun x => in3 x 0 (X.p - 1)) = true)) (fun st_ => ((f.getD n default).getD i default).length - st_) 0 ?_ ?_
        ·exact ⟨by simp, by simp⟩
        ·rintro m ee14 ⟨hm, hb⟩
         simp only [List.cons_append, List.nil_append]
         refine den_seq ?_
         refine den_seq ?_
         refine den_region TTok ?_
         intro K hK
         have hr16 := RdS.rowN rf n (by omega)
         have hlhr16 := RdS.le hr16
         have hr17 := RdS.rowN hr16 i (by omega)
         have hlhr17 := RdS.le hr17
         simp -implicitDefEqProofs (disch := first | decide | assumption | omega) only [go_sem, ld26, ld22, RdS.len hdX sl22, RdS.idx hdX sl22, R1.intB hdX (Ext.pres eB), RdS.cells hdX, RdS.len hmX sl23, RdS.idx hmX sl23, RdS.cellB hmX (Ext.pres eB), RdS.cells hmX, RdS.len hdY sl22, RdS.idx hdY sl22, R1.intB hdY (Ext.pres eB), RdS.cells hdY, RdS.len hmY sl23, RdS.idx hmY sl23, RdS.cellB hmY (Ext.pres eB), RdS.cells hmY, RdS.len rf sl23, RdS.idx rf sl23, RdS.cellB rf (Ext.pres eB), RdS.cells rf, RdS.len hr5 sl26, RdS.idx hr5 sl26, RdS.cellB hr5 (Ext.pres eB), RdS.cells hr5, RdS.len hr10 sl26, RdS.idx hr10 sl26, RdS.cellB hr10 (Ext.pres eB), RdS.cells hr10, RdS.len hr11 sl26, RdS.idx hr11 sl26, RdS.cellB hr11 (Ext.pres eB), RdS.cells hr11, RdS.len hr12 sl22, RdS.idx hr12 sl22, R1.intB hr12 (Ext.pres eB), RdS.cells hr12, RdS.len hr16 sl26, RdS.idx hr16 sl26, RdS.cellB hr16 (Ext.pres eB), RdS.cells hr16, RdS.len hr17 sl22, RdS.idx hr17 sl22, R1.intB hr17 (Ext.pres eB), RdS.cells hr17, BoxAt.cell hb0_0, BoxAt.cell hb0_1, wrap_id]
         refine hK _ _ ?_
         clear hK K
         refine den_cond rfl (fun c5 => ?_) (fun c5 => ?_)
         ·try simp only [decide_eq_true_eq, decide_eq_false_iff_not, beq_iff_eq, beq_eq_false_iff_ne, bne_iff_ne, ne_eq, Bool.not_eq_true', Bool.not_eq_false', Bool.and_eq_true, Bool.or_eq_true, bne_eq_false_iff_eq, Bool.or_eq_false_iff, Bool.and_eq_false_iff] at c5
          refine den_skip ?_
          refine den_seq ?_
          refine den_block ?_
          refine den_seq ?_
          refine den_draw TTok mixed [] [(0, true), (1, true), (2, true), (3, true), (4, true), (5, true), (6, true), (7, true), (8, true), (9, true), (10, true), (11, true), (12, true), (13, false), (14, true)] (by kernel_rfl) ?_
          intro K hK
          have hr18 := RdS.rowN rf n (by omega)
          have hlhr18 := RdS.le hr18
          have hr19 := RdS.rowN hr18 i (by omega)
          have hlhr19 := RdS.le hr19
          simp -implicitDefEqProofs (disch := first | decide | assumption | omega) only [go_sem, fa31_0, ld26, ld22, ld2, RdS.len hdX sl22, RdS.idx hdX sl22, R1.intB hdX (Ext.pres eB), RdS.cells hdX, RdS.len hmX sl23, RdS.idx hmX sl23, RdS.cellB hmX (Ext.pres eB), RdS.cells hmX, RdS.len hdY sl22, RdS.idx hdY sl22, R1.intB hdY (Ext.pres eB), RdS.cells hdY, RdS.len hmY sl23, RdS.idx hmY sl23, RdS.cellB hmY (Ext.pres eB), RdS.cells hmY, RdS.len rf sl23, RdS.idx rf sl23, RdS.cellB rf (Ext.pres eB), RdS.cells rf, RdS.len hr5 sl26, RdS.idx hr5 sl26, RdS.cellB hr5 (Ext.pres eB), RdS.cells hr5, RdS.len hr10 sl26, RdS.idx hr10 sl26, RdS.cellB hr10 (Ext.pres eB), RdS.cells hr10, RdS.len hr11 sl26, RdS.idx hr11 sl26, RdS.cellB hr11 (Ext.pres eB), RdS.cells hr11, RdS.len hr12 sl22, RdS.idx hr12 sl22, R1.intB hr12 (Ext.pres eB), RdS.cells hr12, RdS.len hr16 sl26, RdS.idx hr16 sl26, RdS.cellB hr16 (Ext.pres eB), RdS.cells hr16, RdS.len hr17 sl22, RdS.idx hr17 sl22, R1.intB hr17 (Ext.pres eB), RdS.cells hr17, RdS.len hr18 sl26, RdS.idx hr18 sl26, RdS.cellB hr18 (Ext.pres eB), RdS.cells hr18, RdS.len hr19 sl22, RdS.idx hr19 sl22, R1.intB hr19 (Ext.pres eB), RdS.cells hr19, BoxAt.cell hb0_0, BoxAt.cell hb0_1, wrap_id]
          try simp -implicitDefEqProofs (disch := first | decide | assumption | omega) only [go_sem, RdS.len hdX sl22, RdS.idx hdX sl22, R1.intB hdX (Ext.pres eB), RdS.cells hdX, RdS.len hmX sl23, RdS.idx hmX sl23, RdS.cellB hmX (Ext.pres eB), RdS.cells hmX, RdS.len hdY sl22, RdS.idx hdY sl22, R1.intB hdY (Ext.pres eB), RdS.cells hdY, RdS.len hmY sl23, RdS.idx hmY sl23, RdS.cellB hmY (Ext.pres eB), RdS.cells hmY, RdS.len rf sl23, RdS.idx rf sl23, RdS.cellB rf (Ext.pres eB), RdS.cells rf, RdS.len hr5 sl26, RdS.idx hr5 sl26, RdS.cellB hr5 (Ext.pres eB), RdS.cells hr5, RdS.len hr10 sl26, RdS.idx hr10 sl26, RdS.cellB hr10 (Ext.pres eB), RdS.cells hr10, RdS.len hr11 sl26, RdS.idx hr11 sl26, RdS.cellB hr11 (Ext.pres eB), RdS.cells hr11, RdS.len hr12 sl22, RdS.idx hr12 sl22, R1.intB hr12 (Ext.pres eB), RdS.cells hr12, RdS.len hr16 sl26, RdS.idx hr16 sl26, RdS.cellB hr16 (Ext.pres eB), RdS.cells hr16, RdS.len hr17 sl22, RdS.idx hr17 sl22, R1.intB hr17 (Ext.pres eB), RdS.cells hr17, RdS.len hr18 sl26, RdS.idx hr18 sl26, RdS.cellB hr18 (Ext.pres eB), RdS.cells hr18, RdS.len hr19 sl22, RdS.idx hr19 sl22, R1.intB hr19 (Ext.pres eB), RdS.cells hr19, BoxAt.cell hb0_0, BoxAt.cell hb0_1, wrap_id]
          refine CallA.pure (sIn_ok _ _ _ _) ?_
          try simp -implicitDefEqProofs (disch := first | decide | assumption | omega) only [go_sem, RdS.len hdX sl22, RdS.idx hdX sl22, R1.intB hdX (Ext.pres eB), RdS.cells hdX, RdS.len hmX sl23, RdS.idx hmX sl23, RdS.cellB hmX (Ext.pres eB), RdS.cells hmX, RdS.len hdY sl22, RdS.idx hdY sl22, R1.intB hdY (Ext.pres eB), RdS.cells hdY, RdS.len hmY sl23, RdS.idx hmY sl23, RdS.cellB hmY (Ext.pres eB), RdS.cells hmY, RdS.len rf sl23, RdS.idx rf sl23, RdS.cellB rf (Ext.pres eB), RdS.cells rf, RdS.len hr5 sl26, RdS.idx hr5 sl26, RdS.cellB hr5 (Ext.pres eB), RdS.cells hr5, RdS.len hr10 sl26, RdS.idx hr10 sl26, RdS.cellB hr10 (Ext.pres eB), RdS.cells hr10, RdS.len hr11 sl26, RdS.idx hr11 sl26, RdS.cellB hr11 (Ext.pres eB), RdS.cells hr11, RdS.len hr12 sl22, RdS.idx hr12 sl22, R1.intB hr12 (Ext.pres eB), RdS.cells hr12, RdS.len hr16 sl26, RdS.idx hr16 sl26, RdS.cellB hr16 (Ext.pres eB), RdS.cells hr16, RdS.len hr17 sl22, RdS.idx hr17 sl22, R1.intB hr17 (Ext.pres eB), RdS.cells hr17, RdS.len hr18 sl26, RdS.idx hr18 sl26, RdS.cellB hr18 (Ext.pres eB), RdS.cells hr18, RdS.len hr19 sl22, RdS.idx hr19 sl22, R1.intB hr19 (Ext.pres eB), RdS.cells hr19, BoxAt.cell hb0_0, BoxAt.cell hb0_1, wrap_id]
          refine hK _ _ ?_
          clear hK K
          refine den_cond rfl (fun c6 => ?_) (fun c6 => ?_)
          ·try simp only [decide_eq_true_eq, decide_eq_false_iff_not, beq_iff_eq, beq_eq_false_iff_ne, bne_iff_ne, ne_eq, Bool.not_eq_true', Bool.not_eq_false', Bool.and_eq_true, Bool.or_eq_true, bne_eq_false_iff_eq, Bool.or_eq_false_iff, Bool.and_eq_false_iff] at c6
           refine den_seq ?_
           refine den_region TTok ?_
           intro K hK
           simp -implicitDefEqProofs (disch := first | decide | assumption | omega) only [go_sem, RdS.len hdX sl22, RdS.idx hdX sl22, R1.intB hdX (Ext.pres eB), RdS.cells hdX, RdS.len hmX sl23, RdS.idx hmX sl23, RdS.cellB hmX (Ext.pres eB), RdS.cells hmX, RdS.len hdY sl22, RdS.idx hdY sl22, R1.intB hdY (Ext.pres eB), RdS.cells hdY, RdS.len hmY sl23, RdS.idx hmY sl23, RdS.cellB hmY (Ext.pres eB), RdS.cells hmY, RdS.len rf sl23, RdS.idx rf sl23, RdS.cellB rf (Ext.pres eB), RdS.cells rf, RdS.len hr5 sl26, RdS.idx hr5 sl26, RdS.cellB hr5 (Ext.pres eB), RdS.cells hr5, RdS.len hr10 sl26, RdS.idx hr10 sl26, RdS.cellB hr10 (Ext.pres eB), RdS.cells hr10, RdS.len hr11 sl26, RdS.idx hr11 sl26, RdS.cellB hr11 (Ext.pres eB), RdS.cells hr11, RdS.len hr12 sl22, RdS.idx hr12 sl22, R1.intB hr12 (Ext.pres eB), RdS.cells hr12, RdS.len hr16 sl26, RdS.idx hr16 sl26, RdS.cellB hr16 (Ext.pres eB), RdS.cells hr16, RdS.len hr17 sl22, RdS.idx hr17 sl22, R1.intB hr17 (Ext.pres eB), RdS.cells hr17, RdS.len hr18 sl26, RdS.idx hr18 sl26, RdS.cellB hr18 (Ext.pres eB), RdS.cells hr18, RdS.len hr19 sl22, RdS.idx hr19 sl22, R1.intB hr19 (Ext.pres eB), RdS.cells hr19, wrap_id]
           refine hK _ _ ?_
           clear hK K
           refine den_ret ?_
           simp (disch := decide) only [resP_1, puts_same, puts_ne]
           exact ⟨vbool (pdec_no fun hF => by
            have h := all_at (d := 0) (k := m) (isRow_all (hF.row (n := n) (i := i) (by omega) (by omega))) (by omega)
            have c := c6
            simp only [Bool.not_eq_true, h] at c
            cases c), eB⟩
          ·try simp only [decide_eq_true_eq, decide_eq_false_iff_not, beq_iff_eq, beq_eq_false_iff_ne, bne_iff_ne, ne_eq, Bool.not_eq_true', Bool.not_eq_false', Bool.and_eq_true, Bool.or_eq_true, bne_eq_false_iff_eq, Bool.or_eq_false_iff, Bool.and_eq_false_iff] at c6
           refine den_skip ?_
           refine den_blk ?_
           refine den_region TTok ?_
           intro K hK
           simp -implicitDefEqProofs (disch := first | decide | assumption | omega) only [go_sem, RdS.len hdX sl22, RdS.idx hdX sl22, R1.intB hdX (Ext.pres eB), RdS.cells hdX, RdS.len hmX sl23, RdS.idx hmX sl23, RdS.cellB hmX (Ext.pres eB), RdS.cells hmX, RdS.len hdY sl22, RdS.idx hdY sl22, R1.intB hdY (Ext.pres eB), RdS.cells hdY, RdS.len hmY sl23, RdS.idx hmY sl23, RdS.cellB hmY (Ext.pres eB), RdS.cells hmY, RdS.len rf sl23, RdS.idx rf sl23, RdS.cellB rf (Ext.pres eB), RdS.cells rf, RdS.len hr5 sl26, RdS.idx hr5 sl26, RdS.cellB hr5 (Ext.pres eB), RdS.cells hr5, RdS.len hr10 sl26, RdS.idx hr10 sl26, RdS.cellB hr10 (Ext.pres eB), RdS.cells hr10, RdS.len hr11 sl26, RdS.idx hr11 sl26, RdS.cellB hr11 (Ext.pres eB), RdS.cells hr11, RdS.len hr12 sl22, RdS.idx hr12 sl22, R1.intB hr12 (Ext.pres eB), RdS.cells hr12, RdS.len hr16 sl26, RdS.idx hr16 sl26, RdS.cellB hr16 (Ext.pres eB), RdS.cells hr16, RdS.len hr17 sl22, RdS.idx hr17 sl22, R1.intB hr17 (Ext.pres eB), RdS.cells hr17, RdS.len hr18 sl26, RdS.idx hr18 sl26, RdS.cellB hr18 (Ext.pres eB), RdS.cells hr18, RdS.len hr19 sl22, RdS.idx hr19 sl22, R1.intB hr19 (Ext.pres eB), RdS.cells hr19, BoxAt.cell hb0_0, BoxAt.cell hb0_1, wrap_id]
           refine hK _ _ ?_
           clear hK K
           refine den_stop ?_
           exact ⟨m + 1, by simp [HasL, puts_at], ⟨rfl, by omega, all_step (d := 0) (by omega) hb (by simpa using c6)⟩, by first | omega | (dsimp only; omega)⟩
         ·try simp only [decide_eq_true_eq, decide_eq_false_iff_not, beq_iff_eq, beq_eq_false_iff_ne, bne_iff_ne, ne_eq, Bool.not_eq_true', Bool.not_eq_false', Bool.and_eq_true, Bool.or_eq_true, bne_eq_false_iff_eq, Bool.or_eq_false_iff, Bool.and_eq_false_iff] at c5
          refine den_exit ?_
          refine denX_code ?_
          refine denX_stop ?_
          refine denX_hit ?_
          refine den_blk ?_
          refine den_region TTok ?_
          intro K hK
          simp -implicitDefEqProofs (disch := first | decide | assumption | omega) only [go_sem, RdS.len hdX sl22, RdS.idx hdX sl22, R1.intB hdX (Ext.pres eB), RdS.cells hdX, RdS.len hmX sl23, RdS.idx hmX sl23, RdS.cellB hmX (Ext.pres eB), RdS.cells hmX, RdS.len hdY sl22, RdS.idx hdY sl22, R1.intB hdY (Ext.pres eB), RdS.cells hdY, RdS.len hmY sl23, RdS.idx hmY sl23, RdS.cellB hmY (Ext.pres eB), RdS.cells hmY, RdS.len rf sl23, RdS.idx rf sl23, RdS.cellB rf (Ext.pres eB), RdS.cells rf, RdS.len hr5 sl26, RdS.idx hr5 sl26, RdS.cellB hr5 (Ext.pres eB), RdS.cells hr5, RdS.len hr10 sl26, RdS.idx hr10 sl26, RdS.cellB hr10 (Ext.pres eB), RdS.cells hr10, RdS.len hr11 sl26, RdS.idx hr11 sl26, RdS.cellB hr11 (Ext.pres eB), RdS.cells hr11, RdS.len hr12 sl22, RdS.idx hr12 sl22, R1.intB hr12 (Ext.pres eB), RdS.cells hr12, RdS.len hr16 sl26, RdS.idx hr16 sl26, RdS.cellB hr16 (Ext.pres eB), RdS.cells hr16, RdS.len hr17 sl22, RdS.idx hr17 sl22, R1.intB hr17 (Ext.pres eB), RdS.cells hr17, BoxAt.cell hb0_0, BoxAt.cell hb0_1, wrap_id]
          refine hK _ _ ?_
          clear hK K
          refine den_stop ?_
          exact ⟨i + 1, by simp [HasL, puts_at], ⟨by omega, all_step (d := default) (by omega) ha (by rw [isRow, decide_eq_true c4, all_end (by omega) hb]; rfl), cL7⟩, by first | omega | (dsimp only; omega)⟩
      ·try simp only [decide_eq_true_eq, decide_eq_false_iff_not, beq_iff_eq, beq_eq_false_iff_ne, bne_iff_ne, ne_eq, Bool.not_eq_true', Bool.not_eq_false', Bool.and_eq_true, Bool.or_eq_true, bne_eq_false_iff_eq, Bool.or_eq_false_iff, Bool.and_eq_false_iff] at c3
       refine den_exit ?_
       refine denX_code ?_
       refine denX_stop ?_
       refine denX_hit ?_
       refine den_blk ?_
       refine den_region TTok ?_
       intro K hK
       simp -implicitDefEqProofs (disch := first | decide | assumption | omega) only [go_sem, RdS.len hdX sl22, RdS.idx hdX sl22, R1.intB hdX (Ext.pres eB), RdS.cells hdX, RdS.len hmX sl23, RdS.idx hmX sl23, RdS.cellB hmX (Ext.pres eB), RdS.cells hmX, RdS.len hdY sl22, RdS.idx hdY sl22, R1.intB hdY (Ext.pres eB), RdS.cells hdY, RdS.len hmY sl23, RdS.idx hmY sl23, RdS.cellB hmY (Ext.pres eB), RdS.cells hmY, RdS.len rf sl23, RdS.idx rf sl23, RdS.cellB rf (Ext.pres eB), RdS.cells rf, RdS.len hr5 sl26, RdS.idx hr5 sl26, RdS.cellB hr5 (Ext.pres eB), RdS.cells hr5, RdS.len hr10 sl26, RdS.idx hr10 sl26, RdS.cellB hr10 (Ext.pres eB), RdS.cells hr10, BoxAt.cell hb0_0, BoxAt.cell hb0_1, wrap_id]
       refine hK _ _ ?_
       clear hK K
       refine den_stop ?_
       exact ⟨n + 1, by simp [HasL, puts_at], ⟨by omega, fun j hj => (Nat.lt_succ_iff_lt_or_eq.1 hj).elim (hz j) (fun e => by rw [e]; exact famAt_iff.2 ⟨c2, all_end (by omega) ha⟩), cL2⟩, by first | omega | (dsimp only; omega)⟩
   ·try simp only [decide_eq_true_eq, decide_eq_false_iff_not, beq_iff_eq, beq_eq_false_iff_ne, bne_iff_ne, ne_eq, Bool.not_eq_true', Bool.not_eq_false', Bool.and_eq_true, Bool.or_eq_true, bne_eq_false_iff_eq, Bool.or_eq_false_iff, Bool.and_eq_false_iff] at c1
    refine den_exit ?_
    refine denX_code ?_
    refine denX_stop ?_
    refine denX_hit ?_
    refine den_seq ?_
    refine den_region TTok ?_
    intro K hK
    simp -implicitDefEqProofs (disch := first | decide | assumption | omega) only [go_sem, RdS.len hdX sl22, RdS.idx hdX sl22, R1.intB hdX (Ext.pres eB), RdS.cells hdX, RdS.len hmX sl23, RdS.idx hmX sl23, RdS.cellB hmX (Ext.pres eB), RdS.cells hmX, RdS.len hdY sl22, RdS.idx hdY sl22, R1.intB hdY (Ext.pres eB), RdS.cells hdY, RdS.len hmY sl23, RdS.idx hmY sl23, RdS.cellB hmY (Ext.pres eB), RdS.cells hmY, RdS.len rf sl23, RdS.idx rf sl23, RdS.cellB rf (Ext.pres eB), RdS.cells rf, wrap_id]
    refine hK _ _ ?_
    clear hK K
    refine den_ret ?_
    simp (disch := decide) only [resP_1, puts_same, puts_ne]
    exact ⟨vbool (pdec_yes ⟨by omega, fun j hj => hz j (by omega)⟩), eB⟩
end Go.Proofs.Ytjjjgllbocgkbaa

namespace Go.Proofs.Ytjjjgllbocgkbaa
open Go
set_option maxRecDepth 100000 in
theorem sFamC_ok (vX vY vL : Value) (X : Cx) (Y : Cx) (L : List (List (List (List Int)))) (h : Heap) (rX : RC h vX X) (rY : RC h vY Y) (rL : R4 h vL L)  : CallA Try.prog 120 #[vX, vY, vL] h fun v' h' => v' = .int .i64 (famC X Y L) ∧ Ext h h' := by
 obtain ⟨vdX, vmX, rfl, hdX, hmX⟩ := rX
 have hledX := RdS.le hdX
 have hlemX := RdS.le hmX
 obtain ⟨vdY, vmY, rfl, hdY, hmY⟩ := rY
 have hledY := RdS.le hdY
 have hlemY := RdS.le hmY
 have hleL := RdS.le rL
 refine callA_intro TTok (args := [_, _, _]) Try.func120 (by kernel_rfl) rfl 29 rfl (by simp) [.tmp 6] rfl ?_
 simp only [idxs, Nat.reduceAdd]
 refine den_seq ?_
 refine den_region TTok ?_
 intro K hK
 simp -implicitDefEqProofs (disch := first | decide | assumption | omega) only [go_sem, RdS.len hdX sl22, RdS.idx hdX sl22, R1.intB hdX (HPres.refl _), RdS.cells hdX, RdS.len hmX sl23, RdS.idx hmX sl23, RdS.cellB hmX (HPres.refl _), RdS.cells hmX, RdS.len hdY sl22, RdS.idx hdY sl22, R1.intB hdY (HPres.refl _), RdS.cells hdY, RdS.len hmY sl23, RdS.idx hmY sl23, RdS.cellB hmY (HPres.refl _), RdS.cells hmY, RdS.len rL sl67, RdS.idx rL sl67, RdS.cellB rL (HPres.refl _), RdS.cells rL, wrap_id]
 refine op_box (cs := #[.int .i64 (X.p), vdX, vmX]) rfl ?_
 intro h0_0 e0_0 hb0_0 z0_0
 have := Ext.size e0_0
 have eB := e0_0
 have hfhb0_0 : Fresh h.size [h.size] := Fresh.one _
 have hlhb0_0 := one_lt (show h.size < h0_0.size by omega)
 try simp -implicitDefEqProofs (disch := first | decide | assumption | omega) only [go_sem, RdS.len hdX sl22, RdS.idx hdX sl22, R1.intB hdX (Ext.pres eB), RdS.cells hdX, RdS.len hmX sl23, RdS.idx hmX sl23, RdS.cellB hmX (Ext.pres eB), RdS.cells hmX, RdS.len hdY sl22, RdS.idx hdY sl22, R1.intB hdY (Ext.pres eB), RdS.cells hdY, RdS.len hmY sl23, RdS.idx hmY sl23, RdS.cellB hmY (Ext.pres eB), RdS.cells hmY, RdS.len rL sl67, RdS.idx rL sl67, RdS.cellB rL (Ext.pres eB), RdS.cells rL, BoxAt.cell hb0_0, wrap_id]
 refine op_box (cs := #[.int .i64 (Y.p), vdY, vmY]) rfl ?_
 intro h0_1 e0_1 hb0_1 z0_1
 replace hb0_0 := BoxAt.ext hb0_0 e0_1
 have := Ext.size e0_1
 replace eB := Ext.trans eB e0_1
 have hfhb0_1 : Fresh h0_0.size [h0_0.size] := Fresh.one _
 have hlhb0_1 := one_lt (show h0_0.size < h0_1.size by omega)
 try simp -implicitDefEqProofs (disch := first | decide | assumption | omega) only [go_sem, RdS.len hdX sl22, RdS.idx hdX sl22, R1.intB hdX (Ext.pres eB), RdS.cells hdX, RdS.len hmX sl23, RdS.idx hmX sl23, RdS.cellB hmX (Ext.pres eB), RdS.cells hmX, RdS.len hdY sl22, RdS.idx hdY sl22, R1.intB hdY (Ext.pres eB), RdS.cells hdY, RdS.len hmY sl23, RdS.idx hmY sl23, RdS.cellB hmY (Ext.pres eB), RdS.cells hmY, RdS.len rL sl67, RdS.idx rL sl67, RdS.cellB rL (Ext.pres eB), RdS.cells rL, BoxAt.cell hb0_0, BoxAt.cell hb0_1, wrap_id]
 refine hK _ _ ?_
 clear hK K
 refine den_seq ?_
 refine den_seq ?_
 refine den_region TTok ?_
 intro K hK
 simp -implicitDefEqProofs (disch := first | decide | assumption | omega) only [go_sem, ld31, RdS.len hdX sl22, RdS.idx hdX sl22, R1.intB hdX (Ext.pres eB), RdS.cells hdX, RdS.len hmX sl23, RdS.idx hmX sl23, RdS.cellB hmX (Ext.pres eB), RdS.cells hmX, RdS.len hdY sl22, RdS.idx hdY sl22, R1.intB hdY (Ext.pres eB), RdS.cells hdY, RdS.len hmY sl23, RdS.idx hmY sl23, RdS.cellB hmY (Ext.pres eB), RdS.cells hmY, RdS.len rL sl67, RdS.idx rL sl67, RdS.cellB rL (Ext.pres eB), RdS.cells rL, BoxAt.cell hb0_0, BoxAt.cell hb0_1, wrap_id]
 try simp -implicitDefEqProofs (disch := first | decide | assumption | omega) only [go_sem, RdS.len hdX sl22, RdS.idx hdX sl22, R1.intB hdX (Ext.pres eB), RdS.cells hdX, RdS.len hmX sl23, RdS.idx hmX sl23, RdS.cellB hmX (Ext.pres eB), RdS.cells hmX, RdS.len hdY sl22, RdS.idx hdY sl22, R1.intB hdY (Ext.pres eB), RdS.cells hdY, RdS.len hmY sl23, RdS.idx hmY sl23, RdS.cellB hmY (Ext.pres eB), RdS.cells hmY, RdS.len rL sl67, RdS.idx rL sl67, RdS.cellB rL (Ext.pres eB), RdS.cells rL, BoxAt.cell hb0_0, BoxAt.cell hb0_1, wrap_id]
 refine CallA.mono (l04Two_ok _ _ X Y _ ⟨_, _, rfl, (RdS.pres hdX (Ext.pres eB)), (RdS.pres hmX (Ext.pres eB))⟩ ⟨_, _, rfl, (RdS.pres hdY (Ext.pres eB)), (RdS.pres hmY (Ext.pres eB))⟩ ) ?_
 intro v_ h1_2
 rintro ⟨rfl, e1_2⟩
 replace hb0_0 := BoxAt.ext hb0_0 e1_2
 replace hb0_1 := BoxAt.ext hb0_1 e1_2
 have := Ext.size e1_2
 replace eB := Ext.trans eB e1_2
 try simp -implicitDefEqProofs (disch := first | decide | assumption | omega) only [go_sem, RdS.len hdX sl22, RdS.idx hdX sl22, R1.intB hdX (Ext.pres eB), RdS.cells hdX, RdS.len hmX sl23, RdS.idx hmX sl23, RdS.cellB hmX (Ext.pres eB), RdS.cells hmX, RdS.len hdY sl22, RdS.idx hdY sl22, R1.intB hdY (Ext.pres eB), RdS.cells hdY, RdS.len hmY sl23, RdS.idx hmY sl23, RdS.cellB hmY (Ext.pres eB), RdS.cells hmY, RdS.len rL sl67, RdS.idx rL sl67, RdS.cellB rL (Ext.pres eB), RdS.cells rL, BoxAt.cell hb0_0, BoxAt.cell hb0_1, wrap_id]
 refine hK _ _ ?_
 clear hK K
 refine den_seq ?_
 refine den_region TTok ?_
 intro K hK
 simp -implicitDefEqProofs (disch := first | decide | assumption | omega) only [go_sem, RdS.len hdX sl22, RdS.idx hdX sl22, R1.intB hdX (Ext.pres eB), RdS.cells hdX, RdS.len hmX sl23, RdS.idx hmX sl23, RdS.cellB hmX (Ext.pres eB), RdS.cells hmX, RdS.len hdY sl22, RdS.idx hdY sl22, R1.intB hdY (Ext.pres eB), RdS.cells hdY, RdS.len hmY sl23, RdS.idx hmY sl23, RdS.cellB hmY (Ext.pres eB), RdS.cells hmY, RdS.len rL sl67, RdS.idx rL sl67, RdS.cellB rL (Ext.pres eB), RdS.cells rL, BoxAt.cell hb0_0, BoxAt.cell hb0_1, wrap_id]
 refine hK _ _ ?_
 clear hK K
 refine den_cond rfl (fun c0 => ?_) (fun c0 => ?_)
 ·try simp only [decide_eq_true_eq, decide_eq_false_iff_not, beq_iff_eq, beq_eq_false_iff_ne, bne_iff_ne, ne_eq, Bool.not_eq_true', Bool.not_eq_false', Bool.and_eq_true, Bool.or_eq_true, bne_eq_false_iff_eq] at c0
  refine den_seq ?_
  refine den_region TTok ?_
  intro K hK
  simp -implicitDefEqProofs (disch := first | decide | assumption | omega) only [go_sem, RdS.len hdX sl22, RdS.idx hdX sl22, R1.intB hdX (Ext.pres eB), RdS.cells hdX, RdS.len hmX sl23, RdS.idx hmX sl23, RdS.cellB hmX (Ext.pres eB), RdS.cells hmX, RdS.len hdY sl22, RdS.idx hdY sl22, R1.intB hdY (Ext.pres eB), RdS.cells hdY, RdS.len hmY sl23, RdS.idx hmY sl23, RdS.cellB hmY (Ext.pres eB), RdS.cells hmY, RdS.len rL sl67, RdS.idx rL sl67, RdS.cellB rL (Ext.pres eB), RdS.cells rL, wrap_id]
  refine hK _ _ ?_
  clear hK K
  refine den_ret ?_
  simp (disch := decide) only [resP_1, puts_same, puts_ne]
  exact ⟨vint (by rw [famC, cadd_n c0]), eB⟩
 ·try simp only [decide_eq_true_eq, decide_eq_false_iff_not, beq_iff_eq, beq_eq_false_iff_ne, bne_iff_ne, ne_eq, Bool.not_eq_true', Bool.not_eq_false', Bool.and_eq_true, Bool.or_eq_true, bne_eq_false_iff_eq] at c0
  obtain ⟨hX, hY, hpp, hll⟩ := pairC_0 c0
  refine den_skip ?_
  refine den_seq ?_
  refine den_seq ?_
  refine den_region TTok ?_
  intro K hK
  simp -implicitDefEqProofs (disch := first | decide | assumption | omega) only [go_sem, RdS.len hdX sl22, RdS.idx hdX sl22, R1.intB hdX (Ext.pres eB), RdS.cells hdX, RdS.len hmX sl23, RdS.idx hmX sl23, RdS.cellB hmX (Ext.pres eB), RdS.cells hmX, RdS.len hdY sl22, RdS.idx hdY sl22, R1.intB hdY (Ext.pres eB), RdS.cells hdY, RdS.len hmY sl23, RdS.idx hmY sl23, RdS.cellB hmY (Ext.pres eB), RdS.cells hmY, RdS.len rL sl67, RdS.idx rL sl67, RdS.cellB rL (Ext.pres eB), RdS.cells rL, BoxAt.cell hb0_0, BoxAt.cell hb0_1, wrap_id]
  refine hK _ _ ?_
  clear hK K
  refine den_block ?_
  refine den_sel [8, 2, 3, 4] ?_
  intro env_1
  simp only [go_sem]
  refine den_loopS (σ := Nat) (fun st_ => [(8, .int .i64 (st_ : Int))]) (fun st_ H => (st_ ≤ L.length) ∧ (∀ j, j < st_ → (!famP X Y (L.getD j default) 0) = false) ∧ (Ext h1_2 H)) (fun st_ => L.length - st_) 0 ?_ ?_
  ·exact ⟨by simp, fun j hj => by omega, Ext.refl _⟩
  ·rintro k h4 ee3 ⟨hk, hz, cL2⟩
   replace hb0_0 := BoxAt.ext hb0_0 cL2
   replace hb0_1 := BoxAt.ext hb0_1 cL2
   have := Ext.size cL2
   replace eB := Ext.trans eB cL2
   simp only [List.cons_append, List.nil_append]
   refine den_seq ?_
   refine den_seq ?_
   refine den_region TTok ?_
   intro K hK
   simp -implicitDefEqProofs (disch := first | decide | assumption | omega) only [go_sem, RdS.len hdX sl22, RdS.idx hdX sl22, R1.intB hdX (Ext.pres eB), RdS.cells hdX, RdS.len hmX sl23, RdS.idx hmX sl23, RdS.cellB hmX (Ext.pres eB), RdS.cells hmX, RdS.len hdY sl22, RdS.idx hdY sl22, R1.intB hdY (Ext.pres eB), RdS.cells hdY, RdS.len hmY sl23, RdS.idx hmY sl23, RdS.cellB hmY (Ext.pres eB), RdS.cells hmY, RdS.len rL sl67, RdS.idx rL sl67, RdS.cellB rL (Ext.pres eB), RdS.cells rL, BoxAt.cell hb0_0, BoxAt.cell hb0_1, wrap_id]
   refine hK _ _ ?_
   clear hK K
   refine den_cond rfl (fun c1 => ?_) (fun c1 => ?_)
   ·try simp only [decide_eq_true_eq, decide_eq_false_iff_not, beq_iff_eq, beq_eq_false_iff_ne, bne_iff_ne, ne_eq, Bool.not_eq_true', Bool.not_eq_false', Bool.and_eq_true, Bool.or_eq_true, bne_eq_false_iff_eq] at c1
    refine den_skip ?_
    refine den_seq ?_
    refine den_block ?_
    refine den_seq ?_
    refine den_draw TTok mixed [] [(0, true), (1, true), (2, true), (3, true), (4, true), (5, true), (6, false), (7, true)] (by kernel_rfl) ?_
    intro K hK
    have hr5 := RdS.rowN rL k (by omega)
    have hlhr5 := RdS.le hr5
    simp -implicitDefEqProofs (disch := first | decide | assumption | omega) only [go_sem, ld23, ld31, RdS.len hdX sl22, RdS.idx hdX sl22, R1.intB hdX (Ext.pres eB), RdS.cells hdX, RdS.len hmX sl23, RdS.idx hmX sl23, RdS.cellB hmX (Ext.pres eB), RdS.cells hmX, RdS.len hdY sl22, RdS.idx hdY sl22, R1.intB hdY (Ext.pres eB), RdS.cells hdY, RdS.len hmY sl23, RdS.idx hmY sl23, RdS.cellB hmY (Ext.pres eB), RdS.cells hmY, RdS.len rL sl67, RdS.idx rL sl67, RdS.cellB rL (Ext.pres eB), RdS.cells rL, RdS.len hr5 sl23, RdS.idx hr5 sl23, RdS.cellB hr5 (Ext.pres eB), RdS.cells hr5, BoxAt.cell hb0_0, BoxAt.cell hb0_1, wrap_id]
    try simp -implicitDefEqProofs (disch := first | decide | assumption | omega) only [go_sem, RdS.len hdX sl22, RdS.idx hdX sl22, R1.intB hdX (Ext.pres eB), RdS.cells hdX, RdS.len hmX sl23, RdS.idx hmX sl23, RdS.cellB hmX (Ext.pres eB), RdS.cells hmX, RdS.len hdY sl22, RdS.idx hdY sl22, R1.intB hdY (Ext.pres eB), RdS.cells hdY, RdS.len hmY sl23, RdS.idx hmY sl23, RdS.cellB hmY (Ext.pres eB), RdS.cells hmY, RdS.len rL sl67, RdS.idx rL sl67, RdS.cellB rL (Ext.pres eB), RdS.cells rL, RdS.len hr5 sl23, RdS.idx hr5 sl23, RdS.cellB hr5 (Ext.pres eB), RdS.cells hr5, BoxAt.cell hb0_0, BoxAt.cell hb0_1, wrap_id]
    refine CallA.mono (sFam_ok _ _ _ X Y ((L).getD k default) (0 : Int) _ ⟨_, _, rfl, (RdS.pres hdX (Ext.pres eB)), (RdS.pres hmX (Ext.pres eB))⟩ ⟨_, _, rfl, (RdS.pres hdY (Ext.pres eB)), (RdS.pres hmY (Ext.pres eB))⟩ (RdS.pres hr5 (Ext.pres eB)) hX (by omega)) ?_
    intro v_ h7_6
    rintro ⟨rfl, e7_6⟩
    replace hb0_0 := BoxAt.ext hb0_0 e7_6
    replace hb0_1 := BoxAt.ext hb0_1 e7_6
    have := Ext.size e7_6
    replace eB := Ext.trans eB e7_6
    replace cL2 := Ext.trans cL2 e7_6
    try simp (disch := decide) only [outv_some, outv_none, put_puts]
    refine plK_pres (Ext.pres e7_6) ?_
    try simp -implicitDefEqProofs (disch := first | decide | assumption | omega) only [go_sem, RdS.len hdX sl22, RdS.idx hdX sl22, R1.intB hdX (Ext.pres eB), RdS.cells hdX, RdS.len hmX sl23, RdS.idx hmX sl23, RdS.cellB hmX (Ext.pres eB), RdS.cells hmX, RdS.len hdY sl22, RdS.idx hdY sl22, R1.intB hdY (Ext.pres eB), RdS.cells hdY, RdS.len hmY sl23, RdS.idx hmY sl23, RdS.cellB hmY (Ext.pres eB), RdS.cells hmY, RdS.len rL sl67, RdS.idx rL sl67, RdS.cellB rL (Ext.pres eB), RdS.cells rL, RdS.len hr5 sl23, RdS.idx hr5 sl23, RdS.cellB hr5 (Ext.pres eB), RdS.cells hr5, BoxAt.cell hb0_0, BoxAt.cell hb0_1, wrap_id]
    refine hK _ _ ?_
    clear hK K
    refine den_cond rfl (fun c2 => ?_) (fun c2 => ?_)
    ·try simp only [decide_eq_true_eq, decide_eq_false_iff_not, beq_iff_eq, beq_eq_false_iff_ne, bne_iff_ne, ne_eq, Bool.not_eq_true', Bool.not_eq_false', Bool.and_eq_true, Bool.or_eq_true, bne_eq_false_iff_eq] at c2
     refine den_seq ?_
     refine den_region TTok ?_
     intro K hK
     simp -implicitDefEqProofs (disch := first | decide | assumption | omega) only [go_sem, RdS.len hdX sl22, RdS.idx hdX sl22, R1.intB hdX (Ext.pres eB), RdS.cells hdX, RdS.len hmX sl23, RdS.idx hmX sl23, RdS.cellB hmX (Ext.pres eB), RdS.cells hmX, RdS.len hdY sl22, RdS.idx hdY sl22, R1.intB hdY (Ext.pres eB), RdS.cells hdY, RdS.len hmY sl23, RdS.idx hmY sl23, RdS.cellB hmY (Ext.pres eB), RdS.cells hmY, RdS.len rL sl67, RdS.idx rL sl67, RdS.cellB rL (Ext.pres eB), RdS.cells rL, RdS.len hr5 sl23, RdS.idx hr5 sl23, RdS.cellB hr5 (Ext.pres eB), RdS.cells hr5, wrap_id]
     refine hK _ _ ?_
     clear hK K
     refine den_ret ?_
     simp (disch := decide) only [resP_1, puts_same, puts_ne]
     exact ⟨vint (by rw [famC, c0, cadd_z, any_stop (d := default) (k := k) (by omega) (by simpa using c2)]; rfl), eB⟩
    ·try simp only [decide_eq_true_eq, decide_eq_false_iff_not, beq_iff_eq, beq_eq_false_iff_ne, bne_iff_ne, ne_eq, Bool.not_eq_true', Bool.not_eq_false', Bool.and_eq_true, Bool.or_eq_true, bne_eq_false_iff_eq] at c2
     refine den_skip ?_
     refine den_blk ?_
     refine den_region TTok ?_
     intro K hK
     simp -implicitDefEqProofs (disch := first | decide | assumption | omega) only [go_sem, RdS.len hdX sl22, RdS.idx hdX sl22, R1.intB hdX (Ext.pres eB), RdS.cells hdX, RdS.len hmX sl23, RdS.idx hmX sl23, RdS.cellB hmX (Ext.pres eB), RdS.cells hmX, RdS.len hdY sl22, RdS.idx hdY sl22, R1.intB hdY (Ext.pres eB), RdS.cells hdY, RdS.len hmY sl23, RdS.idx hmY sl23, RdS.cellB hmY (Ext.pres eB), RdS.cells hmY, RdS.len rL sl67, RdS.idx rL sl67, RdS.cellB rL (Ext.pres eB), RdS.cells rL, RdS.len hr5 sl23, RdS.idx hr5 sl23, RdS.cellB hr5 (Ext.pres eB), RdS.cells hr5, BoxAt.cell hb0_0, BoxAt.cell hb0_1, wrap_id]
     refine hK _ _ ?_
     clear hK K
     refine den_stop ?_
     exact ⟨k + 1, by simp [HasL, puts_at], ⟨by omega, fun j hj => (Nat.lt_succ_iff_lt_or_eq.1 hj).elim (hz j) (fun e => by rw [e]; simpa using c2), cL2⟩, by first | omega | (dsimp only; omega)⟩
   ·try simp only [decide_eq_true_eq, decide_eq_false_iff_not, beq_iff_eq, beq_eq_false_iff_ne, bne_iff_ne, ne_eq, Bool.not_eq_true', Bool.not_eq_false', Bool.and_eq_true, Bool.or_eq_true, bne_eq_false_iff_eq] at c1
    refine den_exit ?_
    refine denX_code ?_
    refine denX_stop ?_
    refine denX_hit ?_
    refine den_seq ?_
    refine den_region TTok ?_
    intro K hK
    simp -implicitDefEqProofs (disch := first | decide | assumption | omega) only [go_sem, RdS.len hdX sl22, RdS.idx hdX sl22, R1.intB hdX (Ext.pres eB), RdS.cells hdX, RdS.len hmX sl23, RdS.idx hmX sl23, RdS.cellB hmX (Ext.pres eB), RdS.cells hmX, RdS.len hdY sl22, RdS.idx hdY sl22, R1.intB hdY (Ext.pres eB), RdS.cells hdY, RdS.len hmY sl23, RdS.idx hmY sl23, RdS.cellB hmY (Ext.pres eB), RdS.cells hmY, RdS.len rL sl67, RdS.idx rL sl67, RdS.cellB rL (Ext.pres eB), RdS.cells rL, wrap_id]
    refine hK _ _ ?_
    clear hK K
    refine den_ret ?_
    simp (disch := decide) only [resP_1, puts_same, puts_ne]
    exact ⟨vint (by rw [famC, c0, cadd_z, any_end default (k := k) (by omega) hz]; rfl), eB⟩

def imgP (X Y : Cx) (f : List (List (List Int))) (s n : Int) (v : List Int) : List Int := accP X.p v (f.getD n.toNat default) (List.replicate (dimP Y (n + s)).toNat 0)
def appP (X Y : Cx) (f : List (List (List Int))) (s n : Int) (v : List Int) : List Int := if in3 n 0 ((X.dims.length : Int) - 1) = true then imgP X Y f s n v else List.replicate (dimP Y (n + s)).toNat 0
theorem img_pre {X Y : Cx} {f : List (List (List Int))} {s n : Int} {v : List Int} (hY : IsC Y) (hF : IsFam X Y f s) (h0 : 0 ≤ n) (h1 : n ≤ (X.dims.length : Int) - 1) (hv : (v.length : Int) = X.dims.getD n.toNat 0) : (0 ≤ dimP Y (n + s) ∧ dimP Y (n + s) ≤ 8) ∧ n.toNat < f.length ∧ v.length ≤ (f.getD n.toNat default).length ∧ Tbl X.p (dimP Y (n + s)) (f.getD n.toNat default) := by
 have hl := hF.len
 have h := hF.at (n := n.toNat) (by omega)
 have e : ((n.toNat : Nat) : Int) + s = n + s := by omega
 rw [e] at h
 exact ⟨dimP_bnd hY _, by omega, by omega, h.2⟩
set_option maxRecDepth 100000 in
theorem iApp_ok (vX vY vf vv : Value) (X : Cx) (Y : Cx) (f : List (List (List Int))) (s : Int) (n : Int) (v : List Int) (h : Heap) (rX : RC h vX X) (rY : RC h vY Y) (rf : R3 h vf f) (rv : R1 h vv v) (hX : IsC X) (hY : IsC Y) (hF : IsFam X Y f s) (hs : 0 ≤ s ∧ s ≤ 1) (hn : -1 ≤ n ∧ n ≤ 7) (hv : 0 ≤ n ∧ n ≤ (X.dims.length : Int) - 1 → (v.length : Int) = X.dims.getD n.toNat 0 ∧ Bnd X.p v) : CallA Try.prog 194 #[vX, vY, vf, .int .i64 s, .int .i64 n, vv] h fun v' h' => ∃ w0 f0, v' = w0 ∧ O1 h' w0 (appP X Y f s n v) f0 ∧ Fresh h.size f0 ∧ Ext h h' := by
 obtain ⟨vdX, vmX, rfl, hdX, hmX⟩ := rX
 have hledX := RdS.le hdX
 have hlemX := RdS.le hmX
 obtain ⟨vdY, vmY, rfl, hdY, hmY⟩ := rY
 have hledY := RdS.le hdY
 have hlemY := RdS.le hmY
 have hlef := RdS.le rf
 have hlev := RdS.le rv
 have hlX := hX.len
 have hdd := dimP_bnd hY (n + s)
 refine callA_intro TTok (args := [_, _, _, _, _, _]) Try.func194 (by kernel_rfl) rfl 37 rfl (by simp) [.tmp 12] rfl ?_
 simp only [idxs, Nat.reduceAdd]
 refine den_seq ?_
 refine den_region TTok ?_
 intro K hK
 simp -implicitDefEqProofs (disch := first | decide | assumption | omega) only [go_sem, RdS.len hdX sl22, RdS.idx hdX sl22, R1.intB hdX (HPres.refl _), RdS.cells hdX, RdS.len hmX sl23, RdS.idx hmX sl23, RdS.cellB hmX (HPres.refl _), RdS.cells hmX, RdS.len hdY sl22, RdS.idx hdY sl22, R1.intB hdY (HPres.refl _), RdS.cells hdY, RdS.len hmY sl23, RdS.idx hmY sl23, RdS.cellB hmY (HPres.refl _), RdS.cells hmY, RdS.len rf sl23, RdS.idx rf sl23, RdS.cellB rf (HPres.refl _), RdS.cells rf, RdS.len rv sl22, RdS.idx rv sl22, R1.intB rv (HPres.refl _), RdS.cells rv, wrap_id]
 refine op_box (cs := #[.int .i64 (X.p), vdX, vmX]) rfl ?_
 intro h0_0 e0_0 hb0_0 z0_0
 have := Ext.size e0_0
 have eB := e0_0
 have hfhb0_0 : Fresh h.size [h.size] := Fresh.one _
 have hlhb0_0 := one_lt (show h.size < h0_0.size by omega)
 try simp -implicitDefEqProofs (disch := first | decide | assumption | omega) only [go_sem, RdS.len hdX sl22, RdS.idx hdX sl22, R1.intB hdX (Ext.pres eB), RdS.cells hdX, RdS.len hmX sl23, RdS.idx hmX sl23, RdS.cellB hmX (Ext.pres eB), RdS.cells hmX, RdS.len hdY sl22, RdS.idx hdY sl22, R1.intB hdY (Ext.pres eB), RdS.cells hdY, RdS.len hmY sl23, RdS.idx hmY sl23, RdS.cellB hmY (Ext.pres eB), RdS.cells hmY, RdS.len rf sl23, RdS.idx rf sl23, RdS.cellB rf (Ext.pres eB), RdS.cells rf, RdS.len rv sl22, RdS.idx rv sl22, R1.intB rv (Ext.pres eB), RdS.cells rv, BoxAt.cell hb0_0, wrap_id]
 refine op_box (cs := #[.int .i64 (Y.p), vdY, vmY]) rfl ?_
 intro h0_1 e0_1 hb0_1 z0_1
 replace hb0_0 := BoxAt.ext hb0_0 e0_1
 have := Ext.size e0_1
 replace eB := Ext.trans eB e0_1
 have hfhb0_1 : Fresh h0_0.size [h0_0.size] := Fresh.one _
 have hlhb0_1 := one_lt (show h0_0.size < h0_1.size by omega)
 try simp -implicitDefEqProofs (disch := first | decide | assumption | omega) only [go_sem, RdS.len hdX sl22, RdS.idx hdX sl22, R1.intB hdX (Ext.pres eB), RdS.cells hdX, RdS.len hmX sl23, RdS.idx hmX sl23, RdS.cellB hmX (Ext.pres eB), RdS.cells hmX, RdS.len hdY sl22, RdS.idx hdY sl22, R1.intB hdY (Ext.pres eB), RdS.cells hdY, RdS.len hmY sl23, RdS.idx hmY sl23, RdS.cellB hmY (Ext.pres eB), RdS.cells hmY, RdS.len rf sl23, RdS.idx rf sl23, RdS.cellB rf (Ext.pres eB), RdS.cells rf, RdS.len rv sl22, RdS.idx rv sl22, R1.intB rv (Ext.pres eB), RdS.cells rv, BoxAt.cell hb0_0, BoxAt.cell hb0_1, wrap_id]
 refine hK _ _ ?_
 clear hK K
 refine den_seq ?_
 refine den_seq ?_
 refine den_region TTok ?_
 intro K hK
 simp -implicitDefEqProofs (disch := first | decide | assumption | omega) only [go_sem, ld31, RdS.len hdX sl22, RdS.idx hdX sl22, R1.intB hdX (Ext.pres eB), RdS.cells hdX, RdS.len hmX sl23, RdS.idx hmX sl23, RdS.cellB hmX (Ext.pres eB), RdS.cells hmX, RdS.len hdY sl22, RdS.idx hdY sl22, R1.intB hdY (Ext.pres eB), RdS.cells hdY, RdS.len hmY sl23, RdS.idx hmY sl23, RdS.cellB hmY (Ext.pres eB), RdS.cells hmY, RdS.len rf sl23, RdS.idx rf sl23, RdS.cellB rf (Ext.pres eB), RdS.cells rf, RdS.len rv sl22, RdS.idx rv sl22, R1.intB rv (Ext.pres eB), RdS.cells rv, BoxAt.cell hb0_0, BoxAt.cell hb0_1, wrap_id]
 try simp -implicitDefEqProofs (disch := first | decide | assumption | omega) only [go_sem, RdS.len hdX sl22, RdS.idx hdX sl22, R1.intB hdX (Ext.pres eB), RdS.cells hdX, RdS.len hmX sl23, RdS.idx hmX sl23, RdS.cellB hmX (Ext.pres eB), RdS.cells hmX, RdS.len hdY sl22, RdS.idx hdY sl22, R1.intB hdY (Ext.pres eB), RdS.cells hdY, RdS.len hmY sl23, RdS.idx hmY sl23, RdS.cellB hmY (Ext.pres eB), RdS.cells hmY, RdS.len rf sl23, RdS.idx rf sl23, RdS.cellB rf (Ext.pres eB), RdS.cells rf, RdS.len rv sl22, RdS.idx rv sl22, R1.intB rv (Ext.pres eB), RdS.cells rv, BoxAt.cell hb0_0, BoxAt.cell hb0_1, wrap_id]
 refine CallA.mono (top_ok _ X _ ⟨_, _, rfl, (RdS.pres hdX (Ext.pres eB)), (RdS.pres hmX (Ext.pres eB))⟩) ?_
 intro v_ h1_2
 rintro ⟨rfl, e1_2⟩
 replace hb0_0 := BoxAt.ext hb0_0 e1_2
 replace hb0_1 := BoxAt.ext hb0_1 e1_2
 have := Ext.size e1_2
 replace eB := Ext.trans eB e1_2
 try simp -implicitDefEqProofs (disch := first | decide | assumption | omega) only [go_sem, RdS.len hdX sl22, RdS.idx hdX sl22, R1.intB hdX (Ext.pres eB), RdS.cells hdX, RdS.len hmX sl23, RdS.idx hmX sl23, RdS.cellB hmX (Ext.pres eB), RdS.cells hmX, RdS.len hdY sl22, RdS.idx hdY sl22, R1.intB hdY (Ext.pres eB), RdS.cells hdY, RdS.len hmY sl23, RdS.idx hmY sl23, RdS.cellB hmY (Ext.pres eB), RdS.cells hmY, RdS.len rf sl23, RdS.idx rf sl23, RdS.cellB rf (Ext.pres eB), RdS.cells rf, RdS.len rv sl22, RdS.idx rv sl22, R1.intB rv (Ext.pres eB), RdS.cells rv, BoxAt.cell hb0_0, BoxAt.cell hb0_1, wrap_id]
 try simp -implicitDefEqProofs (disch := first | decide | assumption | omega) only [go_sem, RdS.len hdX sl22, RdS.idx hdX sl22, R1.intB hdX (Ext.pres eB), RdS.cells hdX, RdS.len hmX sl23, RdS.idx hmX sl23, RdS.cellB hmX (Ext.pres eB), RdS.cells hmX, RdS.len hdY sl22, RdS.idx hdY sl22, R1.intB hdY (Ext.pres eB), RdS.cells hdY, RdS.len hmY sl23, RdS.idx hmY sl23, RdS.cellB hmY (Ext.pres eB), RdS.cells hmY, RdS.len rf sl23, RdS.idx rf sl23, RdS.cellB rf (Ext.pres eB), RdS.cells rf, RdS.len rv sl22, RdS.idx rv sl22, R1.intB rv (Ext.pres eB), RdS.cells rv, BoxAt.cell hb0_0, BoxAt.cell hb0_1, wrap_id]
 refine CallA.pure (iIn_ok _ _ _ _) ?_
 try simp -implicitDefEqProofs (disch := first | decide | assumption | omega) only [go_sem, RdS.len hdX sl22, RdS.idx hdX sl22, R1.intB hdX (Ext.pres eB), RdS.cells hdX, RdS.len hmX sl23, RdS.idx hmX sl23, RdS.cellB hmX (Ext.pres eB), RdS.cells hmX, RdS.len hdY sl22, RdS.idx hdY sl22, R1.intB hdY (Ext.pres eB), RdS.cells hdY, RdS.len hmY sl23, RdS.idx hmY sl23, RdS.cellB hmY (Ext.pres eB), RdS.cells hmY, RdS.len rf sl23, RdS.idx rf sl23, RdS.cellB rf (Ext.pres eB), RdS.cells rf, RdS.len rv sl22, RdS.idx rv sl22, R1.intB rv (Ext.pres eB), RdS.cells rv, BoxAt.cell hb0_0, BoxAt.cell hb0_1, wrap_id]
 refine hK _ _ ?_
 clear hK K
 refine den_cond rfl (fun c0 => ?_) (fun c0 => ?_)
 ·try simp only [decide_eq_true_eq, decide_eq_false_iff_not, beq_iff_eq, beq_eq_false_iff_ne, bne_iff_ne, ne_eq, Bool.not_eq_true', Bool.not_eq_false', Bool.and_eq_true, Bool.or_eq_true, bne_eq_false_iff_eq, in3_iff, in3_f] at c0
  refine den_seq ?_
  refine den_region TTok ?_
  intro K hK
  simp -implicitDefEqProofs (disch := first | decide | assumption | omega) only [go_sem, ld31, RdS.len hdX sl22, RdS.idx hdX sl22, R1.intB hdX (Ext.pres eB), RdS.cells hdX, RdS.len hmX sl23, RdS.idx hmX sl23, RdS.cellB hmX (Ext.pres eB), RdS.cells hmX, RdS.len hdY sl22, RdS.idx hdY sl22, R1.intB hdY (Ext.pres eB), RdS.cells hdY, RdS.len hmY sl23, RdS.idx hmY sl23, RdS.cellB hmY (Ext.pres eB), RdS.cells hmY, RdS.len rf sl23, RdS.idx rf sl23, RdS.cellB rf (Ext.pres eB), RdS.cells rf, RdS.len rv sl22, RdS.idx rv sl22, R1.intB rv (Ext.pres eB), RdS.cells rv, BoxAt.cell hb0_1, wrap_id]
  try simp -implicitDefEqProofs (disch := first | decide | assumption | omega) only [go_sem, RdS.len hdX sl22, RdS.idx hdX sl22, R1.intB hdX (Ext.pres eB), RdS.cells hdX, RdS.len hmX sl23, RdS.idx hmX sl23, RdS.cellB hmX (Ext.pres eB), RdS.cells hmX, RdS.len hdY sl22, RdS.idx hdY sl22, R1.intB hdY (Ext.pres eB), RdS.cells hdY, RdS.len hmY sl23, RdS.idx hmY sl23, RdS.cellB hmY (Ext.pres eB), RdS.cells hmY, RdS.len rf sl23, RdS.idx rf sl23, RdS.cellB rf (Ext.pres eB), RdS.cells rf, RdS.len rv sl22, RdS.idx rv sl22, R1.intB rv (Ext.pres eB), RdS.cells rv, BoxAt.cell hb0_1, wrap_id]
  refine CallA.mono (iDim_ok _ Y _ _ ⟨_, _, rfl, (RdS.pres hdY (Ext.pres eB)), (RdS.pres hmY (Ext.pres eB))⟩) ?_
  intro v_ h2_4
  rintro ⟨rfl, e2_4⟩
  replace hb0_1 := BoxAt.ext hb0_1 e2_4
  have := Ext.size e2_4
  replace eB := Ext.trans eB e2_4
  try simp -implicitDefEqProofs (disch := first | decide | assumption | omega) only [go_sem, RdS.len hdX sl22, RdS.idx hdX sl22, R1.intB hdX (Ext.pres eB), RdS.cells hdX, RdS.len hmX sl23, RdS.idx hmX sl23, RdS.cellB hmX (Ext.pres eB), RdS.cells hmX, RdS.len hdY sl22, RdS.idx hdY sl22, R1.intB hdY (Ext.pres eB), RdS.cells hdY, RdS.len hmY sl23, RdS.idx hmY sl23, RdS.cellB hmY (Ext.pres eB), RdS.cells hmY, RdS.len rf sl23, RdS.idx rf sl23, RdS.cellB rf (Ext.pres eB), RdS.cells rf, RdS.len rv sl22, RdS.idx rv sl22, R1.intB rv (Ext.pres eB), RdS.cells rv, BoxAt.cell hb0_1, wrap_id]
  refine op_make sz22 rfl rfl (by omega) (by omega) OI 0 (fun _ => ⟨rfl, rfl⟩) ?_
  intro v2_5 h2_5 ho2_5 e2_5
  replace hb0_1 := BoxAt.ext hb0_1 e2_5
  have := Ext.size e2_5
  replace eB := Ext.trans eB e2_5
  have hfho2_5 : Fresh h2_4.size [h2_4.size] := Fresh.one _
  have hlenho2_5 : (List.replicate ((dimP Y (n + s))).toNat (0 : Int)).length = ((dimP Y (n + s))).toNat := List.length_replicate
  have hlho2_5 := OS.lt ho2_5
  try simp -implicitDefEqProofs (disch := first | decide | assumption | omega) only [go_sem, RdS.len hdX sl22, RdS.idx hdX sl22, R1.intB hdX (Ext.pres eB), RdS.cells hdX, RdS.len hmX sl23, RdS.idx hmX sl23, RdS.cellB hmX (Ext.pres eB), RdS.cells hmX, RdS.len hdY sl22, RdS.idx hdY sl22, R1.intB hdY (Ext.pres eB), RdS.cells hdY, RdS.len hmY sl23, RdS.idx hmY sl23, RdS.cellB hmY (Ext.pres eB), RdS.cells hmY, RdS.len rf sl23, RdS.idx rf sl23, RdS.cellB rf (Ext.pres eB), RdS.cells rf, RdS.len rv sl22, RdS.idx rv sl22, R1.intB rv (Ext.pres eB), RdS.cells rv, RdS.len (OS.rd ho2_5) sl22, RdS.idx (OS.rd ho2_5) sl22, R1.intN (OS.rd ho2_5), RdS.cells (OS.rd ho2_5), BoxAt.cell hb0_1, wrap_id]
  refine hK _ _ ?_
  clear hK K
  refine den_ret ?_
  simp (disch := decide) only [resP_1, puts_same, puts_ne]
  have e : appP X Y f s n v = List.replicate (dimP Y (n + s)).toNat 0 := by rw [appP, if_neg (by rw [in3_iff]; omega)]
  rw [e]
  exact ⟨_, _, rfl, ho2_5, hfho2_5.mono (by omega), eB⟩
 ·try simp only [decide_eq_true_eq, decide_eq_false_iff_not, beq_iff_eq, beq_eq_false_iff_ne, bne_iff_ne, ne_eq, Bool.not_eq_true', Bool.not_eq_false', Bool.and_eq_true, Bool.or_eq_true, bne_eq_false_iff_eq, in3_iff, in3_f] at c0
  refine den_skip ?_
  refine den_seq ?_
  obtain ⟨hd1, hd2, hd3, hbt⟩ := img_pre (n := n) (v := v) hY hF (by omega) (by omega) (hv (by omega)).1
  have hbv := (hv (by omega)).2
  have hpb := isP_bnd hX.p
  refine den_draw TTok mixed [] [(0, true), (1, true), (2, true), (3, true), (4, true), (5, true), (7, true), (8, true), (9, true), (10, true), (11, true), (6, false), (12, false), (13, true)] (by kernel_rfl) ?_
  intro K hK
  have hr1 := RdS.rowN rf (n).toNat (by omega)
  have hlhr1 := RdS.le hr1
  simp -implicitDefEqProofs (disch := first | decide | assumption | omega) only [go_sem, fa31_0, ld26, ld2, ld31, RdS.len hdX sl22, RdS.idx hdX sl22, R1.intB hdX (Ext.pres eB), RdS.cells hdX, RdS.len hmX sl23, RdS.idx hmX sl23, RdS.cellB hmX (Ext.pres eB), RdS.cells hmX, RdS.len hdY sl22, RdS.idx hdY sl22, R1.intB hdY (Ext.pres eB), RdS.cells hdY, RdS.len hmY sl23, RdS.idx hmY sl23, RdS.cellB hmY (Ext.pres eB), RdS.cells hmY, RdS.len rf sl23, RdS.idx rf sl23, RdS.cellB rf (Ext.pres eB), RdS.cells rf, RdS.len rv sl22, RdS.idx rv sl22, R1.intB rv (Ext.pres eB), RdS.cells rv, RdS.len hr1 sl26, RdS.idx hr1 sl26, RdS.cellB hr1 (Ext.pres eB), RdS.cells hr1, BoxAt.cell hb0_0, BoxAt.cell hb0_1, wrap_id]
  try simp -implicitDefEqProofs (disch := first | decide | assumption | omega) only [go_sem, RdS.len hdX sl22, RdS.idx hdX sl22, R1.intB hdX (Ext.pres eB), RdS.cells hdX, RdS.len hmX sl23, RdS.idx hmX sl23, RdS.cellB hmX (Ext.pres eB), RdS.cells hmX, RdS.len hdY sl22, RdS.idx hdY sl22, R1.intB hdY (Ext.pres eB), RdS.cells hdY, RdS.len hmY sl23, RdS.idx hmY sl23, RdS.cellB hmY (Ext.pres eB), RdS.cells hmY, RdS.len rf sl23, RdS.idx rf sl23, RdS.cellB rf (Ext.pres eB), RdS.cells rf, RdS.len rv sl22, RdS.idx rv sl22, R1.intB rv (Ext.pres eB), RdS.cells rv, RdS.len hr1 sl26, RdS.idx hr1 sl26, RdS.cellB hr1 (Ext.pres eB), RdS.cells hr1, BoxAt.cell hb0_0, BoxAt.cell hb0_1, wrap_id]
  refine CallA.mono (iDim_ok _ Y _ _ ⟨_, _, rfl, (RdS.pres hdY (Ext.pres eB)), (RdS.pres hmY (Ext.pres eB))⟩) ?_
  intro v_ h3_6
  rintro ⟨rfl, e3_6⟩
  replace hb0_0 := BoxAt.ext hb0_0 e3_6
  replace hb0_1 := BoxAt.ext hb0_1 e3_6
  have := Ext.size e3_6
  replace eB := Ext.trans eB e3_6
  try simp (disch := decide) only [outv_some, outv_none, put_puts]
  refine plK_pres (Ext.pres e3_6) ?_
  try simp -implicitDefEqProofs (disch := first | decide | assumption | omega) only [go_sem, RdS.len hdX sl22, RdS.idx hdX sl22, R1.intB hdX (Ext.pres eB), RdS.cells hdX, RdS.len hmX sl23, RdS.idx hmX sl23, RdS.cellB hmX (Ext.pres eB), RdS.cells hmX, RdS.len hdY sl22, RdS.idx hdY sl22, R1.intB hdY (Ext.pres eB), RdS.cells hdY, RdS.len hmY sl23, RdS.idx hmY sl23, RdS.cellB hmY (Ext.pres eB), RdS.cells hmY, RdS.len rf sl23, RdS.idx rf sl23, RdS.cellB rf (Ext.pres eB), RdS.cells rf, RdS.len rv sl22, RdS.idx rv sl22, R1.intB rv (Ext.pres eB), RdS.cells rv, RdS.len hr1 sl26, RdS.idx hr1 sl26, RdS.cellB hr1 (Ext.pres eB), RdS.cells hr1, BoxAt.cell hb0_0, BoxAt.cell hb0_1, wrap_id]
  try simp -implicitDefEqProofs (disch := first | decide | assumption | omega) only [go_sem, RdS.len hdX sl22, RdS.idx hdX sl22, R1.intB hdX (Ext.pres eB), RdS.cells hdX, RdS.len hmX sl23, RdS.idx hmX sl23, RdS.cellB hmX (Ext.pres eB), RdS.cells hmX, RdS.len hdY sl22, RdS.idx hdY sl22, R1.intB hdY (Ext.pres eB), RdS.cells hdY, RdS.len hmY sl23, RdS.idx hmY sl23, RdS.cellB hmY (Ext.pres eB), RdS.cells hmY, RdS.len rf sl23, RdS.idx rf sl23, RdS.cellB rf (Ext.pres eB), RdS.cells rf, RdS.len rv sl22, RdS.idx rv sl22, R1.intB rv (Ext.pres eB), RdS.cells rv, RdS.len hr1 sl26, RdS.idx hr1 sl26, RdS.cellB hr1 (Ext.pres eB), RdS.cells hr1, BoxAt.cell hb0_0, BoxAt.cell hb0_1, wrap_id]
  refine CallA.mono (iApply_ok _ _ _ _ _ _ _ (RdS.pres rv (Ext.pres eB)) (RdS.pres hr1 (Ext.pres eB)) (by omega) (by omega) (by omega) hbv hbt) ?_
  intro v3_12 h3_12
  rintro ⟨f3_12, ho3_12, hf3_12, e3_12⟩
  replace hb0_0 := BoxAt.ext hb0_0 e3_12
  replace hb0_1 := BoxAt.ext hb0_1 e3_12
  have := Ext.size e3_12
  replace eB := Ext.trans eB e3_12
  have hlho3_12 := OS.lt ho3_12
  try simp (disch := decide) only [outv_some, outv_none, put_puts]
  refine plK_pres (Ext.pres e3_12) ?_
  try simp -implicitDefEqProofs (disch := first | decide | assumption | omega) only [go_sem, RdS.len hdX sl22, RdS.idx hdX sl22, R1.intB hdX (Ext.pres eB), RdS.cells hdX, RdS.len hmX sl23, RdS.idx hmX sl23, RdS.cellB hmX (Ext.pres eB), RdS.cells hmX, RdS.len hdY sl22, RdS.idx hdY sl22, R1.intB hdY (Ext.pres eB), RdS.cells hdY, RdS.len hmY sl23, RdS.idx hmY sl23, RdS.cellB hmY (Ext.pres eB), RdS.cells hmY, RdS.len rf sl23, RdS.idx rf sl23, RdS.cellB rf (Ext.pres eB), RdS.cells rf, RdS.len rv sl22, RdS.idx rv sl22, R1.intB rv (Ext.pres eB), RdS.cells rv, RdS.len hr1 sl26, RdS.idx hr1 sl26, RdS.cellB hr1 (Ext.pres eB), RdS.cells hr1, RdS.len (OS.rd ho3_12) sl22, RdS.idx (OS.rd ho3_12) sl22, R1.intN (OS.rd ho3_12), RdS.cells (OS.rd ho3_12), BoxAt.cell hb0_0, BoxAt.cell hb0_1, wrap_id]
  refine hK _ _ ?_
  clear hK K
  refine den_ret ?_
  simp (disch := decide) only [resP_1, puts_same, puts_ne]
  have e : appP X Y f s n v = imgP X Y f s n v := by rw [appP, if_pos (by rw [in3_iff]; omega)]
  rw [e]
  exact ⟨_, _, rfl, ho3_12, hf3_12.mono (by omega), eB⟩

set_option maxRecDepth 100000 in
theorem sImg_ok (vX vY vf vv : Value) (X : Cx) (Y : Cx) (f : List (List (List Int))) (n : Int) (s : Int) (v : List Int) (h : Heap) (rX : RC h vX X) (rY : RC h vY Y) (rf : R3 h vf f) (rv : R1 h vv v) (hX : IsC X) (hY : IsC Y) (hF : IsFam X Y f s) (hs : 0 ≤ s ∧ s ≤ 1) (hn : 0 ≤ n ∧ n ≤ (X.dims.length : Int) - 1) (hv : 0 ≤ n ∧ n ≤ (X.dims.length : Int) - 1 → (v.length : Int) = X.dims.getD n.toNat 0 ∧ Bnd X.p v) : CallA Try.prog 191 #[vX, vY, vf, .int .i64 n, .int .i64 s, vv] h fun v' h' => ∃ w0 f0, v' = w0 ∧ O1 h' w0 (imgP X Y f s n v) f0 ∧ Fresh h.size f0 ∧ Ext h h' := by
 obtain ⟨vdX, vmX, rfl, hdX, hmX⟩ := rX
 have hledX := RdS.le hdX
 have hlemX := RdS.le hmX
 obtain ⟨vdY, vmY, rfl, hdY, hmY⟩ := rY
 have hledY := RdS.le hdY
 have hlemY := RdS.le hmY
 have hlef := RdS.le rf
 have hlev := RdS.le rv
 have hlX := hX.len
 refine callA_intro TTok (args := [_, _, _, _, _, _]) Try.func191 (by kernel_rfl) rfl 26 rfl (by simp) [.tmp 12] rfl ?_
 simp only [idxs, Nat.reduceAdd]
 refine den_seq ?_
 refine den_region TTok ?_
 intro K hK
 simp -implicitDefEqProofs (disch := first | decide | assumption | omega) only [go_sem, RdS.len hdX sl22, RdS.idx hdX sl22, R1.intB hdX (HPres.refl _), RdS.cells hdX, RdS.len hmX sl23, RdS.idx hmX sl23, RdS.cellB hmX (HPres.refl _), RdS.cells hmX, RdS.len hdY sl22, RdS.idx hdY sl22, R1.intB hdY (HPres.refl _), RdS.cells hdY, RdS.len hmY sl23, RdS.idx hmY sl23, RdS.cellB hmY (HPres.refl _), RdS.cells hmY, RdS.len rf sl23, RdS.idx rf sl23, RdS.cellB rf (HPres.refl _), RdS.cells rf, RdS.len rv sl22, RdS.idx rv sl22, R1.intB rv (HPres.refl _), RdS.cells rv, wrap_id]
 refine op_box (cs := #[.int .i64 (X.p), vdX, vmX]) rfl ?_
 intro h0_0 e0_0 hb0_0 z0_0
 have := Ext.size e0_0
 have eB := e0_0
 have hfhb0_0 : Fresh h.size [h.size] := Fresh.one _
 have hlhb0_0 := one_lt (show h.size < h0_0.size by omega)
 try simp -implicitDefEqProofs (disch := first | decide | assumption | omega) only [go_sem, RdS.len hdX sl22, RdS.idx hdX sl22, R1.intB hdX (Ext.pres eB), RdS.cells hdX, RdS.len hmX sl23, RdS.idx hmX sl23, RdS.cellB hmX (Ext.pres eB), RdS.cells hmX, RdS.len hdY sl22, RdS.idx hdY sl22, R1.intB hdY (Ext.pres eB), RdS.cells hdY, RdS.len hmY sl23, RdS.idx hmY sl23, RdS.cellB hmY (Ext.pres eB), RdS.cells hmY, RdS.len rf sl23, RdS.idx rf sl23, RdS.cellB rf (Ext.pres eB), RdS.cells rf, RdS.len rv sl22, RdS.idx rv sl22, R1.intB rv (Ext.pres eB), RdS.cells rv, BoxAt.cell hb0_0, wrap_id]
 refine op_box (cs := #[.int .i64 (Y.p), vdY, vmY]) rfl ?_
 intro h0_1 e0_1 hb0_1 z0_1
 replace hb0_0 := BoxAt.ext hb0_0 e0_1
 have := Ext.size e0_1
 replace eB := Ext.trans eB e0_1
 have hfhb0_1 : Fresh h0_0.size [h0_0.size] := Fresh.one _
 have hlhb0_1 := one_lt (show h0_0.size < h0_1.size by omega)
 try simp -implicitDefEqProofs (disch := first | decide | assumption | omega) only [go_sem, RdS.len hdX sl22, RdS.idx hdX sl22, R1.intB hdX (Ext.pres eB), RdS.cells hdX, RdS.len hmX sl23, RdS.idx hmX sl23, RdS.cellB hmX (Ext.pres eB), RdS.cells hmX, RdS.len hdY sl22, RdS.idx hdY sl22, R1.intB hdY (Ext.pres eB), RdS.cells hdY, RdS.len hmY sl23, RdS.idx hmY sl23, RdS.cellB hmY (Ext.pres eB), RdS.cells hmY, RdS.len rf sl23, RdS.idx rf sl23, RdS.cellB rf (Ext.pres eB), RdS.cells rf, RdS.len rv sl22, RdS.idx rv sl22, R1.intB rv (Ext.pres eB), RdS.cells rv, BoxAt.cell hb0_0, BoxAt.cell hb0_1, wrap_id]
 refine hK _ _ ?_
 clear hK K
 refine den_seq ?_
 obtain ⟨hd1, hd2, hd3, hbt⟩ := img_pre (n := n) (v := v) hY hF (by omega) (by omega) (hv (by omega)).1
 have hbv := (hv (by omega)).2
 have hpb := isP_bnd hX.p
 refine den_draw TTok mixed [] [(0, true), (1, true), (2, true), (3, true), (4, true), (5, true), (6, true), (7, true), (8, true), (9, true), (10, true), (11, false), (12, false), (13, true)] (by kernel_rfl) ?_
 intro K hK
 have hr1 := RdS.rowN rf (n).toNat (by omega)
 have hlhr1 := RdS.le hr1
 simp -implicitDefEqProofs (disch := first | decide | assumption | omega) only [go_sem, fa31_0, ld26, ld2, ld31, RdS.len hdX sl22, RdS.idx hdX sl22, R1.intB hdX (Ext.pres eB), RdS.cells hdX, RdS.len hmX sl23, RdS.idx hmX sl23, RdS.cellB hmX (Ext.pres eB), RdS.cells hmX, RdS.len hdY sl22, RdS.idx hdY sl22, R1.intB hdY (Ext.pres eB), RdS.cells hdY, RdS.len hmY sl23, RdS.idx hmY sl23, RdS.cellB hmY (Ext.pres eB), RdS.cells hmY, RdS.len rf sl23, RdS.idx rf sl23, RdS.cellB rf (Ext.pres eB), RdS.cells rf, RdS.len rv sl22, RdS.idx rv sl22, R1.intB rv (Ext.pres eB), RdS.cells rv, RdS.len hr1 sl26, RdS.idx hr1 sl26, RdS.cellB hr1 (Ext.pres eB), RdS.cells hr1, BoxAt.cell hb0_0, BoxAt.cell hb0_1, wrap_id]
 try simp -implicitDefEqProofs (disch := first | decide | assumption | omega) only [go_sem, RdS.len hdX sl22, RdS.idx hdX sl22, R1.intB hdX (Ext.pres eB), RdS.cells hdX, RdS.len hmX sl23, RdS.idx hmX sl23, RdS.cellB hmX (Ext.pres eB), RdS.cells hmX, RdS.len hdY sl22, RdS.idx hdY sl22, R1.intB hdY (Ext.pres eB), RdS.cells hdY, RdS.len hmY sl23, RdS.idx hmY sl23, RdS.cellB hmY (Ext.pres eB), RdS.cells hmY, RdS.len rf sl23, RdS.idx rf sl23, RdS.cellB rf (Ext.pres eB), RdS.cells rf, RdS.len rv sl22, RdS.idx rv sl22, R1.intB rv (Ext.pres eB), RdS.cells rv, RdS.len hr1 sl26, RdS.idx hr1 sl26, RdS.cellB hr1 (Ext.pres eB), RdS.cells hr1, BoxAt.cell hb0_0, BoxAt.cell hb0_1, wrap_id]
 refine CallA.mono (sDim_ok _ Y _ _ ⟨_, _, rfl, (RdS.pres hdY (Ext.pres eB)), (RdS.pres hmY (Ext.pres eB))⟩) ?_
 intro v_ h1_11
 rintro ⟨rfl, e1_11⟩
 replace hb0_0 := BoxAt.ext hb0_0 e1_11
 replace hb0_1 := BoxAt.ext hb0_1 e1_11
 have := Ext.size e1_11
 replace eB := Ext.trans eB e1_11
 try simp (disch := decide) only [outv_some, outv_none, put_puts]
 refine plK_pres (Ext.pres e1_11) ?_
 try simp -implicitDefEqProofs (disch := first | decide | assumption | omega) only [go_sem, RdS.len hdX sl22, RdS.idx hdX sl22, R1.intB hdX (Ext.pres eB), RdS.cells hdX, RdS.len hmX sl23, RdS.idx hmX sl23, RdS.cellB hmX (Ext.pres eB), RdS.cells hmX, RdS.len hdY sl22, RdS.idx hdY sl22, R1.intB hdY (Ext.pres eB), RdS.cells hdY, RdS.len hmY sl23, RdS.idx hmY sl23, RdS.cellB hmY (Ext.pres eB), RdS.cells hmY, RdS.len rf sl23, RdS.idx rf sl23, RdS.cellB rf (Ext.pres eB), RdS.cells rf, RdS.len rv sl22, RdS.idx rv sl22, R1.intB rv (Ext.pres eB), RdS.cells rv, RdS.len hr1 sl26, RdS.idx hr1 sl26, RdS.cellB hr1 (Ext.pres eB), RdS.cells hr1, BoxAt.cell hb0_0, BoxAt.cell hb0_1, wrap_id]
 try simp -implicitDefEqProofs (disch := first | decide | assumption | omega) only [go_sem, RdS.len hdX sl22, RdS.idx hdX sl22, R1.intB hdX (Ext.pres eB), RdS.cells hdX, RdS.len hmX sl23, RdS.idx hmX sl23, RdS.cellB hmX (Ext.pres eB), RdS.cells hmX, RdS.len hdY sl22, RdS.idx hdY sl22, R1.intB hdY (Ext.pres eB), RdS.cells hdY, RdS.len hmY sl23, RdS.idx hmY sl23, RdS.cellB hmY (Ext.pres eB), RdS.cells hmY, RdS.len rf sl23, RdS.idx rf sl23, RdS.cellB rf (Ext.pres eB), RdS.cells rf, RdS.len rv sl22, RdS.idx rv sl22, R1.intB rv (Ext.pres eB), RdS.cells rv, RdS.len hr1 sl26, RdS.idx hr1 sl26, RdS.cellB hr1 (Ext.pres eB), RdS.cells hr1, BoxAt.cell hb0_0, BoxAt.cell hb0_1, wrap_id]
 refine CallA.mono (sApply_ok _ _ _ _ _ _ _ (RdS.pres rv (Ext.pres eB)) (RdS.pres hr1 (Ext.pres eB)) (by omega) (by omega) (by omega) hbv hbt) ?_
 intro v1_12 h1_12
 rintro ⟨f1_12, ho1_12, hf1_12, e1_12⟩
 replace hb0_0 := BoxAt.ext hb0_0 e1_12
 replace hb0_1 := BoxAt.ext hb0_1 e1_12
 have := Ext.size e1_12
 replace eB := Ext.trans eB e1_12
 have hlho1_12 := OS.lt ho1_12
 try simp (disch := decide) only [outv_some, outv_none, put_puts]
 refine plK_pres (Ext.pres e1_12) ?_
 try simp -implicitDefEqProofs (disch := first | decide | assumption | omega) only [go_sem, RdS.len hdX sl22, RdS.idx hdX sl22, R1.intB hdX (Ext.pres eB), RdS.cells hdX, RdS.len hmX sl23, RdS.idx hmX sl23, RdS.cellB hmX (Ext.pres eB), RdS.cells hmX, RdS.len hdY sl22, RdS.idx hdY sl22, R1.intB hdY (Ext.pres eB), RdS.cells hdY, RdS.len hmY sl23, RdS.idx hmY sl23, RdS.cellB hmY (Ext.pres eB), RdS.cells hmY, RdS.len rf sl23, RdS.idx rf sl23, RdS.cellB rf (Ext.pres eB), RdS.cells rf, RdS.len rv sl22, RdS.idx rv sl22, R1.intB rv (Ext.pres eB), RdS.cells rv, RdS.len hr1 sl26, RdS.idx hr1 sl26, RdS.cellB hr1 (Ext.pres eB), RdS.cells hr1, RdS.len (OS.rd ho1_12) sl22, RdS.idx (OS.rd ho1_12) sl22, R1.intN (OS.rd ho1_12), RdS.cells (OS.rd ho1_12), BoxAt.cell hb0_0, BoxAt.cell hb0_1, wrap_id]
 refine hK _ _ ?_
 clear hK K
 refine den_ret ?_
 simp (disch := decide) only [resP_1, puts_same, puts_ne]
 exact ⟨_, _, rfl, ho1_12, hf1_12.mono (by omega), eB⟩
end Go.Proofs.Ytjjjgllbocgkbaa

namespace Go.Proofs.Ytjjjgllbocgkbaa
open Go
theorem unit_bnd {p : Int} (hp : isP p = true) (n i : Nat) : Bnd p (unitP n i) := fun x hx => by
 have h2 : 2 ≤ p := by simp only [isP, Bool.or_eq_true, beq_iff_eq] at hp; omega
 unfold unitP at hx
 rcases List.mem_or_eq_of_mem_set hx with h1 | h1
 ·rw [List.eq_of_mem_replicate h1]; omega
 ·omega

set_option maxRecDepth 100000 in
theorem sD_ok (vX vv : Value) (X : Cx) (n : Int) (v : List Int) (h : Heap) (rX : RC h vX X) (rv : R1 h vv v) (hC : IsC X) (hn : 0 ≤ n ∧ n ≤ (X.dims.length : Int) - 1) (hv : (v.length : Int) = X.dims.getD n.toNat 0) (hb : Bnd X.p v) : CallA Try.prog 192 #[vX, .int .i64 n, vv] h fun v' h' => ∃ w0 f0, v' = w0 ∧ O1 h' w0 (diffP X n v) f0 ∧ Fresh h.size f0 ∧ Ext h h' := by
 obtain ⟨vdX, vmX, rfl, hdX, hmX⟩ := rX
 have hledX := RdS.le hdX
 have hlemX := RdS.le hmX
 have hlev := RdS.le rv
 refine callA_intro TTok (args := [_, _, _]) Try.func192 (by kernel_rfl) rfl 21 rfl (by simp) [.tmp 6] rfl ?_
 simp only [idxs, Nat.reduceAdd]
 refine den_seq ?_
 refine den_region TTok ?_
 intro K hK
 simp -implicitDefEqProofs (disch := first | decide | assumption | omega) only [go_sem, RdS.len hdX sl22, RdS.idx hdX sl22, R1.intB hdX (HPres.refl _), RdS.cells hdX, RdS.len hmX sl23, RdS.idx hmX sl23, RdS.cellB hmX (HPres.refl _), RdS.cells hmX, RdS.len rv sl22, RdS.idx rv sl22, R1.intB rv (HPres.refl _), RdS.cells rv, wrap_id]
 refine op_box (cs := #[.int .i64 (X.p), vdX, vmX]) rfl ?_
 intro h0_0 e0_0 hb0_0 z0_0
 have := Ext.size e0_0
 have eB := e0_0
 have hfhb0_0 : Fresh h.size [h.size] := Fresh.one _
 have hlhb0_0 := one_lt (show h.size < h0_0.size by omega)
 try simp -implicitDefEqProofs (disch := first | decide | assumption | omega) only [go_sem, RdS.len hdX sl22, RdS.idx hdX sl22, R1.intB hdX (Ext.pres eB), RdS.cells hdX, RdS.len hmX sl23, RdS.idx hmX sl23, RdS.cellB hmX (Ext.pres eB), RdS.cells hmX, RdS.len rv sl22, RdS.idx rv sl22, R1.intB rv (Ext.pres eB), RdS.cells rv, BoxAt.cell hb0_0, wrap_id]
 refine hK _ _ ?_
 clear hK K
 refine den_seq ?_
 refine den_seq ?_
 refine den_region TTok ?_
 intro K hK
 simp -implicitDefEqProofs (disch := first | decide | assumption | omega) only [go_sem, RdS.len hdX sl22, RdS.idx hdX sl22, R1.intB hdX (Ext.pres eB), RdS.cells hdX, RdS.len hmX sl23, RdS.idx hmX sl23, RdS.cellB hmX (Ext.pres eB), RdS.cells hmX, RdS.len rv sl22, RdS.idx rv sl22, R1.intB rv (Ext.pres eB), RdS.cells rv, BoxAt.cell hb0_0, wrap_id]
 refine hK _ _ ?_
 clear hK K
 refine den_cond rfl (fun c0 => ?_) (fun c0 => ?_)
 ·try simp only [decide_eq_true_eq, decide_eq_false_iff_not, beq_iff_eq, beq_eq_false_iff_ne, bne_iff_ne, ne_eq, Bool.not_eq_true', Bool.not_eq_false', Bool.and_eq_true, Bool.or_eq_true, bne_eq_false_iff_eq] at c0
  refine den_seq ?_
  refine den_region TTok ?_
  intro K hK
  simp -implicitDefEqProofs (disch := first | decide | assumption | omega) only [go_sem, RdS.len hdX sl22, RdS.idx hdX sl22, R1.intB hdX (Ext.pres eB), RdS.cells hdX, RdS.len hmX sl23, RdS.idx hmX sl23, RdS.cellB hmX (Ext.pres eB), RdS.cells hmX, RdS.len rv sl22, RdS.idx rv sl22, R1.intB rv (Ext.pres eB), RdS.cells rv, wrap_id]
  refine op_bs0 sz22 OI ?_
  intro v2_0 h2_0 ho2_0 e2_0
  have := Ext.size e2_0
  replace eB := Ext.trans eB e2_0
  have hfho2_0 : Fresh h0_0.size [h0_0.size] := Fresh.one _
  have hlho2_0 := OS.lt ho2_0
  try simp -implicitDefEqProofs (disch := first | decide | assumption | omega) only [go_sem, RdS.len hdX sl22, RdS.idx hdX sl22, R1.intB hdX (Ext.pres eB), RdS.cells hdX, RdS.len hmX sl23, RdS.idx hmX sl23, RdS.cellB hmX (Ext.pres eB), RdS.cells hmX, RdS.len rv sl22, RdS.idx rv sl22, R1.intB rv (Ext.pres eB), RdS.cells rv, RdS.len (OS.rd ho2_0) sl22, RdS.idx (OS.rd ho2_0) sl22, R1.intN (OS.rd ho2_0), RdS.cells (OS.rd ho2_0), wrap_id]
  refine hK _ _ ?_
  clear hK K
  refine den_ret ?_
  simp (disch := decide) only [resP_1, puts_same, puts_ne]
  have e : diffP X n v = [] := by rw [diffP, if_pos (by omega)]
  rw [e]
  exact ⟨_, _, rfl, ho2_0, hfho2_0.mono (by omega), eB⟩
 ·try simp only [decide_eq_true_eq, decide_eq_false_iff_not, beq_iff_eq, beq_eq_false_iff_ne, bne_iff_ne, ne_eq, Bool.not_eq_true', Bool.not_eq_false', Bool.and_eq_true, Bool.or_eq_true, bne_eq_false_iff_eq] at c0
  refine den_skip ?_
  refine den_seq ?_
  have hbv := hb
  have hbt := (mapP_ok hC hn.1 hn.2).2
  have hml := (mapP_ok hC hn.1 hn.2).1
  have hdb := dimP_bnd hC (n - 1)
  have hpb := isP_bnd hC.p
  have hlX := hC.len
  refine den_draw TTok mixed [] [(0, true), (1, true), (2, true), (3, true), (5, true), (6, true), (7, true), (8, true), (4, false), (9, false), (10, false), (11, true)] (by kernel_rfl) ?_
  intro K hK
  simp -implicitDefEqProofs (disch := first | decide | assumption | omega) only [go_sem, fa31_0, ld2, ld31, RdS.len hdX sl22, RdS.idx hdX sl22, R1.intB hdX (Ext.pres eB), RdS.cells hdX, RdS.len hmX sl23, RdS.idx hmX sl23, RdS.cellB hmX (Ext.pres eB), RdS.cells hmX, RdS.len rv sl22, RdS.idx rv sl22, R1.intB rv (Ext.pres eB), RdS.cells rv, BoxAt.cell hb0_0, wrap_id]
  try simp -implicitDefEqProofs (disch := first | decide | assumption | omega) only [go_sem, RdS.len hdX sl22, RdS.idx hdX sl22, R1.intB hdX (Ext.pres eB), RdS.cells hdX, RdS.len hmX sl23, RdS.idx hmX sl23, RdS.cellB hmX (Ext.pres eB), RdS.cells hmX, RdS.len rv sl22, RdS.idx rv sl22, R1.intB rv (Ext.pres eB), RdS.cells rv, BoxAt.cell hb0_0, wrap_id]
  refine CallA.mono (sMap_ok _ X n _ ⟨_, _, rfl, (RdS.pres hdX (Ext.pres eB)), (RdS.pres hmX (Ext.pres eB))⟩ hC) ?_
  intro vw3_4_0 h3_4
  rintro ⟨zvw3_4_0, rfl, hrw3_4_0, e3_4⟩
  replace hb0_0 := BoxAt.ext hb0_0 e3_4
  have := Ext.size e3_4
  replace eB := Ext.trans eB e3_4
  have xrw3_4_0 := Ext.refl h3_4
  have hlrw3_4_0 := RdS.le hrw3_4_0
  try simp (disch := decide) only [outv_some, outv_none, put_puts]
  refine plK_pres (Ext.pres e3_4) ?_
  try simp -implicitDefEqProofs (disch := first | decide | assumption | omega) only [go_sem, RdS.len hdX sl22, RdS.idx hdX sl22, R1.intB hdX (Ext.pres eB), RdS.cells hdX, RdS.len hmX sl23, RdS.idx hmX sl23, RdS.cellB hmX (Ext.pres eB), RdS.cells hmX, RdS.len rv sl22, RdS.idx rv sl22, R1.intB rv (Ext.pres eB), RdS.cells rv, BoxAt.cell hb0_0, RdS.len hrw3_4_0 sl26, RdS.idx hrw3_4_0 sl26, RdS.cellB hrw3_4_0 (Ext.pres xrw3_4_0), RdS.cells hrw3_4_0, wrap_id]
  try simp -implicitDefEqProofs (disch := first | decide | assumption | omega) only [go_sem, RdS.len hdX sl22, RdS.idx hdX sl22, R1.intB hdX (Ext.pres eB), RdS.cells hdX, RdS.len hmX sl23, RdS.idx hmX sl23, RdS.cellB hmX (Ext.pres eB), RdS.cells hmX, RdS.len rv sl22, RdS.idx rv sl22, R1.intB rv (Ext.pres eB), RdS.cells rv, BoxAt.cell hb0_0, RdS.len hrw3_4_0 sl26, RdS.idx hrw3_4_0 sl26, RdS.cellB hrw3_4_0 (Ext.pres xrw3_4_0), RdS.cells hrw3_4_0, wrap_id]
  refine CallA.mono (sDim_ok _ X _ _ ⟨_, _, rfl, (RdS.pres hdX (Ext.pres eB)), (RdS.pres hmX (Ext.pres eB))⟩) ?_
  intro v_ h3_9
  rintro ⟨rfl, e3_9⟩
  replace hb0_0 := BoxAt.ext hb0_0 e3_9
  have := Ext.size e3_9
  replace eB := Ext.trans eB e3_9
  replace xrw3_4_0 := Ext.trans xrw3_4_0 e3_9
  try simp (disch := decide) only [outv_some, outv_none, put_puts]
  refine plK_pres (Ext.pres e3_9) ?_
  try simp -implicitDefEqProofs (disch := first | decide | assumption | omega) only [go_sem, RdS.len hdX sl22, RdS.idx hdX sl22, R1.intB hdX (Ext.pres eB), RdS.cells hdX, RdS.len hmX sl23, RdS.idx hmX sl23, RdS.cellB hmX (Ext.pres eB), RdS.cells hmX, RdS.len rv sl22, RdS.idx rv sl22, R1.intB rv (Ext.pres eB), RdS.cells rv, BoxAt.cell hb0_0, RdS.len hrw3_4_0 sl26, RdS.idx hrw3_4_0 sl26, RdS.cellB hrw3_4_0 (Ext.pres xrw3_4_0), RdS.cells hrw3_4_0, wrap_id]
  try simp -implicitDefEqProofs (disch := first | decide | assumption | omega) only [go_sem, RdS.len hdX sl22, RdS.idx hdX sl22, R1.intB hdX (Ext.pres eB), RdS.cells hdX, RdS.len hmX sl23, RdS.idx hmX sl23, RdS.cellB hmX (Ext.pres eB), RdS.cells hmX, RdS.len rv sl22, RdS.idx rv sl22, R1.intB rv (Ext.pres eB), RdS.cells rv, BoxAt.cell hb0_0, RdS.len hrw3_4_0 sl26, RdS.idx hrw3_4_0 sl26, RdS.cellB hrw3_4_0 (Ext.pres xrw3_4_0), RdS.cells hrw3_4_0, wrap_id]
  refine CallA.mono (sApply_ok _ _ _ _ _ _ _ (RdS.pres rv (Ext.pres eB)) (RdS.pres hrw3_4_0 (Ext.pres xrw3_4_0)) (by omega) (by omega) (by omega) hbv hbt) ?_
  intro v3_10 h3_10
  rintro ⟨f3_10, ho3_10, hf3_10, e3_10⟩
  replace hb0_0 := BoxAt.ext hb0_0 e3_10
  have := Ext.size e3_10
  replace eB := Ext.trans eB e3_10
  replace xrw3_4_0 := Ext.trans xrw3_4_0 e3_10
  have hlho3_10 := OS.lt ho3_10
  try simp (disch := decide) only [outv_some, outv_none, put_puts]
  refine plK_pres (Ext.pres e3_10) ?_
  try simp -implicitDefEqProofs (disch := first | decide | assumption | omega) only [go_sem, RdS.len hdX sl22, RdS.idx hdX sl22, R1.intB hdX (Ext.pres eB), RdS.cells hdX, RdS.len hmX sl23, RdS.idx hmX sl23, RdS.cellB hmX (Ext.pres eB), RdS.cells hmX, RdS.len rv sl22, RdS.idx rv sl22, R1.intB rv (Ext.pres eB), RdS.cells rv, RdS.len (OS.rd ho3_10) sl22, RdS.idx (OS.rd ho3_10) sl22, R1.intN (OS.rd ho3_10), RdS.cells (OS.rd ho3_10), BoxAt.cell hb0_0, RdS.len hrw3_4_0 sl26, RdS.idx hrw3_4_0 sl26, RdS.cellB hrw3_4_0 (Ext.pres xrw3_4_0), RdS.cells hrw3_4_0, wrap_id]
  refine hK _ _ ?_
  clear hK K
  refine den_ret ?_
  simp (disch := decide) only [resP_1, puts_same, puts_ne]
  rw [diff_spec hC hn.1 hn.2] at ho3_10
  exact ⟨_, _, rfl, ho3_10, hf3_10.mono (by omega), eB⟩

def chnAt (X Y : Cx) (f : List (List (List Int))) (k i : Nat) : Prop := imgP X Y f 0 (k : Int) ((X.maps.getD k default).getD i default) = diffP Y ((k : Int) + 1) ((f.getD ((k : Int) + 1).toNat default).getD i default)
def IsChn (X Y : Cx) (f : List (List (List Int))) : Prop := ∀ k : Nat, (k : Int) + 1 ≤ (X.dims.length : Int) - 1 → ∀ i, i < (f.getD ((k : Int) + 1).toNat default).length → chnAt X Y f k i
noncomputable def chnP (X Y : Cx) (f : List (List (List Int))) : Bool := pdec (IsChn X Y f)
/-- What a round of the test of chain maps knows. -/
structure ChnR (X Y : Cx) (f : List (List (List Int))) (k i : Nat) : Prop where
 hi : i < (X.maps.getD k default).length
 ml : k < X.maps.length
 row : (((X.maps.getD k default).getD i default).length : Int) = X.dims.getD k 0 ∧ Bnd X.p ((X.maps.getD k default).getD i default)
 img : (((f.getD ((k : Int) + 1).toNat default).getD i default).length : Int) = Y.dims.getD ((k : Int) + 1).toNat 0 ∧ Bnd Y.p ((f.getD ((k : Int) + 1).toNat default).getD i default)
theorem chnR {X Y : Cx} {f : List (List (List Int))} (hX : IsC X) (hY : IsC Y) (hp : X.p = Y.p) (hl : X.dims.length = Y.dims.length) (hF : IsFam X Y f 0) {k i : Nat} (hk : (k : Int) + 1 ≤ (X.dims.length : Int) - 1) (hi : i < (f.getD ((k : Int) + 1).toNat default).length) : ChnR X Y f k i := by
 have hm := hX.ml
 have t := tableP_iff.1 (hX.tb k (by omega))
 have e : (((k : Int) + 1).toNat : Int) = (k : Int) + 1 := by omega
 have hf := hF.at (n := ((k : Int) + 1).toNat) (by have := hF.len; omega)
 have r := hf.2.at hi
 have hi2 : i < (X.maps.getD k default).length := by omega
 refine ⟨hi2, by omega, t.2.at hi2, ?_, hp ▸ r.2⟩
 rw [r.1, Int.add_zero, dimP, if_pos (in3_iff.2 ⟨by omega, by omega⟩), e]

set_option maxRecDepth 100000 in
theorem iChn_ok (vX vY vf : Value) (X : Cx) (Y : Cx) (f : List (List (List Int))) (h : Heap) (rX : RC h vX X) (rY : RC h vY Y) (rf : R3 h vf f) (hX : IsC X) (hY : IsC Y) (hF : IsFam X Y f 0) (hp : X.p = Y.p) (hl : X.dims.length = Y.dims.length) : CallA Try.prog 129 #[vX, vY, vf] h fun v' h' => v' = .bool (chnP X Y f) ∧ Ext h h' := by
 obtain ⟨vdX, vmX, rfl, hdX, hmX⟩ := rX
 have hledX := RdS.le hdX
 have hlemX := RdS.le hmX
 obtain ⟨vdY, vmY, rfl, hdY, hmY⟩ := rY
 have hledY := RdS.le hdY
 have hlemY := RdS.le hmY
 have hlef := RdS.le rf
 have hlX := hX.len
 have hlF := hF.len
 refine callA_intro TTok (args := [_, _, _]) Try.func129 (by kernel_rfl) rfl 48 rfl (by simp) [.tmp 6] rfl ?_
 simp only [idxs, Nat.reduceAdd]
 refine den_seq ?_
 refine den_region TTok ?_
 intro K hK
 simp -implicitDefEqProofs (disch := first | decide | assumption | omega) only [go_sem, RdS.len hdX sl22, RdS.idx hdX sl22, R1.intB hdX (HPres.refl _), RdS.cells hdX, RdS.len hmX sl23, RdS.idx hmX sl23, RdS.cellB hmX (HPres.refl _), RdS.cells hmX, RdS.len hdY sl22, RdS.idx hdY sl22, R1.intB hdY (HPres.refl _), RdS.cells hdY, RdS.len hmY sl23, RdS.idx hmY sl23, RdS.cellB hmY (HPres.refl _), RdS.cells hmY, RdS.len rf sl23, RdS.idx rf sl23, RdS.cellB rf (HPres.refl _), RdS.cells rf, wrap_id, Int.add_sub_cancel]
 refine op_box (cs := #[.int .i64 (X.p), vdX, vmX]) rfl ?_
 intro h0_0 e0_0 hb0_0 z0_0
 have := Ext.size e0_0
 have eB := e0_0
 have hfhb0_0 : Fresh h.size [h.size] := Fresh.one _
 have hlhb0_0 := one_lt (show h.size < h0_0.size by omega)
 try simp -implicitDefEqProofs (disch := first | decide | assumption | omega) only [go_sem, RdS.len hdX sl22, RdS.idx hdX sl22, R1.intB hdX (Ext.pres eB), RdS.cells hdX, RdS.len hmX sl23, RdS.idx hmX sl23, RdS.cellB hmX (Ext.pres eB), RdS.cells hmX, RdS.len hdY sl22, RdS.idx hdY sl22, R1.intB hdY (Ext.pres eB), RdS.cells hdY, RdS.len hmY sl23, RdS.idx hmY sl23, RdS.cellB hmY (Ext.pres eB), RdS.cells hmY, RdS.len rf sl23, RdS.idx rf sl23, RdS.cellB rf (Ext.pres eB), RdS.cells rf, BoxAt.cell hb0_0, wrap_id, Int.add_sub_cancel]
 refine op_box (cs := #[.int .i64 (Y.p), vdY, vmY]) rfl ?_
 intro h0_1 e0_1 hb0_1 z0_1
 replace hb0_0 := BoxAt.ext hb0_0 e0_1
 have := Ext.size e0_1
 replace eB := Ext.trans eB e0_1
 have hfhb0_1 : Fresh h0_0.size [h0_0.size] := Fresh.one _
 have hlhb0_1 := one_lt (show h0_0.size < h0_1.size by omega)
 try simp -implicitDefEqProofs (disch := first | decide | assumption | omega) only [go_sem, RdS.len hdX sl22, RdS.idx hdX sl22, R1.intB hdX (Ext.pres eB), RdS.cells hdX, RdS.len hmX sl23, RdS.idx hmX sl23, RdS.cellB hmX (Ext.pres eB), RdS.cells hmX, RdS.len hdY sl22, RdS.idx hdY sl22, R1.intB hdY (Ext.pres eB), RdS.cells hdY, RdS.len hmY sl23, RdS.idx hmY sl23, RdS.cellB hmY (Ext.pres eB), RdS.cells hmY, RdS.len rf sl23, RdS.idx rf sl23, RdS.cellB rf (Ext.pres eB), RdS.cells rf, BoxAt.cell hb0_0, BoxAt.cell hb0_1, wrap_id, Int.add_sub_cancel]
 refine hK _ _ ?_
 clear hK K
 refine den_seq ?_
 refine den_seq ?_
 refine den_region TTok ?_
 intro K hK
 simp -implicitDefEqProofs (disch := first | decide | assumption | omega) only [go_sem, RdS.len hdX sl22, RdS.idx hdX sl22, R1.intB hdX (Ext.pres eB), RdS.cells hdX, RdS.len hmX sl23, RdS.idx hmX sl23, RdS.cellB hmX (Ext.pres eB), RdS.cells hmX, RdS.len hdY sl22, RdS.idx hdY sl22, R1.intB hdY (Ext.pres eB), RdS.cells hdY, RdS.len hmY sl23, RdS.idx hmY sl23, RdS.cellB hmY (Ext.pres eB), RdS.cells hmY, RdS.len rf sl23, RdS.idx rf sl23, RdS.cellB rf (Ext.pres eB), RdS.cells rf, BoxAt.cell hb0_0, BoxAt.cell hb0_1, wrap_id, Int.add_sub_cancel]
 refine hK _ _ ?_
 clear hK K
 refine den_block ?_
 refine den_sel [7, 2, 3, 4] ?_
 intro env_1
 simp only [go_sem]
 refine den_loopS (σ := Nat) (fun st_ => [(7, .int .i64 ((st_ : Int) + 1))]) (fun st_ H => ((st_ : Int) ≤ (X.dims.length : Int) - 1) ∧ (∀ j : Nat, j < st_ → ∀ i, i < (f.getD ((j : Int) + 1).toNat default).length → chnAt X Y f j i) ∧ (Ext h0_1 H)) (fun st_ => X.dims.length - st_) 0 ?_ ?_
 ·exact ⟨by show ((0 : Nat) : Int) ≤ _; omega, fun j hj => by omega, Ext.refl _⟩
 ·rintro k h4 ee3 ⟨hk, hz, cL2⟩
  replace hb0_0 := BoxAt.ext hb0_0 cL2
  replace hb0_1 := BoxAt.ext hb0_1 cL2
  have := Ext.size cL2
  replace eB := Ext.trans eB cL2
  simp only [List.cons_append, List.nil_append]
  refine den_seq ?_
  refine den_seq ?_
  refine den_region TTok ?_
  intro K hK
  simp -implicitDefEqProofs (disch := first | decide | assumption | omega) only [go_sem, ld31, RdS.len hdX sl22, RdS.idx hdX sl22, R1.intB hdX (Ext.pres eB), RdS.cells hdX, RdS.len hmX sl23, RdS.idx hmX sl23, RdS.cellB hmX (Ext.pres eB), RdS.cells hmX, RdS.len hdY sl22, RdS.idx hdY sl22, R1.intB hdY (Ext.pres eB), RdS.cells hdY, RdS.len hmY sl23, RdS.idx hmY sl23, RdS.cellB hmY (Ext.pres eB), RdS.cells hmY, RdS.len rf sl23, RdS.idx rf sl23, RdS.cellB rf (Ext.pres eB), RdS.cells rf, BoxAt.cell hb0_0, BoxAt.cell hb0_1, wrap_id, Int.add_sub_cancel]
  try simp -implicitDefEqProofs (disch := first | decide | assumption | omega) only [go_sem, RdS.len hdX sl22, RdS.idx hdX sl22, R1.intB hdX (Ext.pres eB), RdS.cells hdX, RdS.len hmX sl23, RdS.idx hmX sl23, RdS.cellB hmX (Ext.pres eB), RdS.cells hmX, RdS.len hdY sl22, RdS.idx hdY sl22, R1.intB hdY (Ext.pres eB), RdS.cells hdY, RdS.len hmY sl23, RdS.idx hmY sl23, RdS.cellB hmY (Ext.pres eB), RdS.cells hmY, RdS.len rf sl23, RdS.idx rf sl23, RdS.cellB rf (Ext.pres eB), RdS.cells rf, BoxAt.cell hb0_0, BoxAt.cell hb0_1, wrap_id, Int.add_sub_cancel]
  refine CallA.mono (top_ok _ X _ ⟨_, _, rfl, (RdS.pres hdX (Ext.pres eB)), (RdS.pres hmX (Ext.pres eB))⟩) ?_
  intro v_ h2_2
  rintro ⟨rfl, e2_2⟩
  replace hb0_0 := BoxAt.ext hb0_0 e2_2
  replace hb0_1 := BoxAt.ext hb0_1 e2_2
  have := Ext.size e2_2
  replace eB := Ext.trans eB e2_2
  replace cL2 := Ext.trans cL2 e2_2
  try simp -implicitDefEqProofs (disch := first | decide | assumption | omega) only [go_sem, RdS.len hdX sl22, RdS.idx hdX sl22, R1.intB hdX (Ext.pres eB), RdS.cells hdX, RdS.len hmX sl23, RdS.idx hmX sl23, RdS.cellB hmX (Ext.pres eB), RdS.cells hmX, RdS.len hdY sl22, RdS.idx hdY sl22, R1.intB hdY (Ext.pres eB), RdS.cells hdY, RdS.len hmY sl23, RdS.idx hmY sl23, RdS.cellB hmY (Ext.pres eB), RdS.cells hmY, RdS.len rf sl23, RdS.idx rf sl23, RdS.cellB rf (Ext.pres eB), RdS.cells rf, BoxAt.cell hb0_0, BoxAt.cell hb0_1, wrap_id, Int.add_sub_cancel]
  refine hK _ _ ?_
  clear hK K
  refine den_cond rfl (fun c0 => ?_) (fun c0 => ?_)
  ·try simp only [decide_eq_true_eq, decide_eq_false_iff_not, beq_iff_eq, beq_eq_false_iff_ne, bne_iff_ne, ne_eq, Bool.not_eq_true', Bool.not_eq_false', Bool.and_eq_true, Bool.or_eq_true, bne_eq_false_iff_eq] at c0
   refine den_skip ?_
   refine den_seq ?_
   refine den_block ?_
   refine den_seq ?_
   refine den_region TTok ?_
   intro K hK
   have hr5 := RdS.rowN rf (((k : Int) + (1 : Int))).toNat (by omega)
   have hlhr5 := RdS.le hr5
   simp -implicitDefEqProofs (disch := first | decide | assumption | omega) only [go_sem, ld26, RdS.len hdX sl22, RdS.idx hdX sl22, R1.intB hdX (Ext.pres eB), RdS.cells hdX, RdS.len hmX sl23, RdS.idx hmX sl23, RdS.cellB hmX (Ext.pres eB), RdS.cells hmX, RdS.len hdY sl22, RdS.idx hdY sl22, R1.intB hdY (Ext.pres eB), RdS.cells hdY, RdS.len hmY sl23, RdS.idx hmY sl23, RdS.cellB hmY (Ext.pres eB), RdS.cells hmY, RdS.len rf sl23, RdS.idx rf sl23, RdS.cellB rf (Ext.pres eB), RdS.cells rf, RdS.len hr5 sl26, RdS.idx hr5 sl26, RdS.cellB hr5 (Ext.pres eB), RdS.cells hr5, BoxAt.cell hb0_0, BoxAt.cell hb0_1, wrap_id, Int.add_sub_cancel]
   refine hK _ _ ?_
   clear hK K
   refine den_block ?_
   refine den_sel [21, 2, 3, 4, 7, 19, 20] ?_
   intro env_6
   simp only [go_sem]
   refine den_loopS (σ := Nat) (fun st_ => [(21, .int .i64 (st_ : Int))]) (fun st_ H => (st_ ≤ (f.getD ((k : Int) + 1).toNat default).length) ∧ (∀ j, j < st_ → chnAt X Y f k j) ∧ (Ext h2_2 H)) (fun st_ => (f.getD ((k : Int) + 1).toNat default).length - st_) 0 ?_ ?_
   ·exact ⟨by simp, fun j hj => by omega, Ext.refl _⟩
   ·rintro i h9 ee8 ⟨hi, hy, cL7⟩
    replace hb0_0 := BoxAt.ext hb0_0 cL7
    replace hb0_1 := BoxAt.ext hb0_1 cL7
    have := Ext.size cL7
    replace eB := Ext.trans eB cL7
    replace cL2 := Ext.trans cL2 cL7
    simp only [List.cons_append, List.nil_append]
    refine den_seq ?_
    refine den_region TTok ?_
    intro K hK
    simp -implicitDefEqProofs (disch := first | decide | assumption | omega) only [go_sem, RdS.len hdX sl22, RdS.idx hdX sl22, R1.intB hdX (Ext.pres eB), RdS.cells hdX, RdS.len hmX sl23, RdS.idx hmX sl23, RdS.cellB hmX (Ext.pres eB), RdS.cells hmX, RdS.len hdY sl22, RdS.idx hdY sl22, R1.intB hdY (Ext.pres eB), RdS.cells hdY, RdS.len hmY sl23, RdS.idx hmY sl23, RdS.cellB hmY (Ext.pres eB), RdS.cells hmY, RdS.len rf sl23, RdS.idx rf sl23, RdS.cellB rf (Ext.pres eB), RdS.cells rf, RdS.len hr5 sl26, RdS.idx hr5 sl26, RdS.cellB hr5 (Ext.pres eB), RdS.cells hr5, BoxAt.cell hb0_0, BoxAt.cell hb0_1, wrap_id, Int.add_sub_cancel]
    refine hK _ _ ?_
    clear hK K
    refine den_seq ?_
    refine den_cond rfl (fun c1 => ?_) (fun c1 => ?_)
    ·try simp only [decide_eq_true_eq, decide_eq_false_iff_not, beq_iff_eq, beq_eq_false_iff_ne, bne_iff_ne, ne_eq, Bool.not_eq_true', Bool.not_eq_false', Bool.and_eq_true, Bool.or_eq_true, bne_eq_false_iff_eq] at c1
     refine den_skip ?_
     refine den_seq ?_
     refine den_block ?_
     refine den_seq ?_
     refine den_region TTok ?_
     intro K hK
     have hr10 := RdS.rowN hr5 i (by omega)
     have hlhr10 := RdS.le hr10
     simp -implicitDefEqProofs (disch := first | decide | assumption | omega) only [go_sem, ld22, RdS.len hdX sl22, RdS.idx hdX sl22, R1.intB hdX (Ext.pres eB), RdS.cells hdX, RdS.len hmX sl23, RdS.idx hmX sl23, RdS.cellB hmX (Ext.pres eB), RdS.cells hmX, RdS.len hdY sl22, RdS.idx hdY sl22, R1.intB hdY (Ext.pres eB), RdS.cells hdY, RdS.len hmY sl23, RdS.idx hmY sl23, RdS.cellB hmY (Ext.pres eB), RdS.cells hmY, RdS.len rf sl23, RdS.idx rf sl23, RdS.cellB rf (Ext.pres eB), RdS.cells rf, RdS.len hr5 sl26, RdS.idx hr5 sl26, RdS.cellB hr5 (Ext.pres eB), RdS.cells hr5, RdS.len hr10 sl22, RdS.idx hr10 sl22, R1.intB hr10 (Ext.pres eB), RdS.cells hr10, BoxAt.cell hb0_0, BoxAt.cell hb0_1, wrap_id, Int.add_sub_cancel]
     refine hK _ _ ?_
     clear hK K
     refine den_seq ?_
     have hR := chnR hX hY hp hl hF (k := k) (i := i) (by omega) (by omega)
     have hRi := hR.hi
     have hRm := hR.ml
     have hRl := hR.row.1
     have hRy := hR.img.1
     have hvv : 0 ≤ (k : Int) ∧ (k : Int) ≤ (X.dims.length : Int) - 1 → (((X.maps.getD k default).getD i default).length : Int) = X.dims.getD (k : Int).toNat 0 ∧ Bnd X.p ((X.maps.getD k default).getD i default) := fun _ => hR.row
     have hdb := hR.img.2
     have hdl : 0 < (k : Int) + 1 → (k : Int) + 1 ≤ (Y.dims.length : Int) - 1 → (((f.getD ((k : Int) + 1).toNat default).getD i default).length : Int) = Y.dims.getD ((k : Int) + 1).toNat 0 := fun _ _ => hR.img.1
     have happ : ∀ v, appP X Y f 0 (k : Int) v = imgP X Y f 0 (k : Int) v := fun v => by rw [appP, if_pos (in3_iff.2 ⟨by omega, by omega⟩)]
     refine den_draw TTok mixed [] [(0, true), (1, true), (2, true), (3, true), (4, true), (5, true), (6, true), (7, true), (8, true), (9, true), (10, true), (11, true), (12, true), (13, true), (15, true), (16, true), (17, true), (14, false), (18, false), (19, false), (20, true)] (by kernel_rfl) ?_
     intro K hK
     have hr11 := RdS.rowN hmX k (by omega)
     have hlhr11 := RdS.le hr11
     have hr12 := RdS.rowN hr11 i (by omega)
     have hlhr12 := RdS.le hr12
     simp -implicitDefEqProofs (disch := first | decide | assumption | omega) only [go_sem, fa31_2, ld23, ld26, ld22, ld31, RdS.len hdX sl22, RdS.idx hdX sl22, R1.intB hdX (Ext.pres eB), RdS.cells hdX, RdS.len hmX sl23, RdS.idx hmX sl23, RdS.cellB hmX (Ext.pres eB), RdS.cells hmX, RdS.len hdY sl22, RdS.idx hdY sl22, R1.intB hdY (Ext.pres eB), RdS.cells hdY, RdS.len hmY sl23, RdS.idx hmY sl23, RdS.cellB hmY (Ext.pres eB), RdS.cells hmY, RdS.len rf sl23, RdS.idx rf sl23, RdS.cellB rf (Ext.pres eB), RdS.cells rf, RdS.len hr5 sl26, RdS.idx hr5 sl26, RdS.cellB hr5 (Ext.pres eB), RdS.cells hr5, RdS.len hr10 sl22, RdS.idx hr10 sl22, R1.intB hr10 (Ext.pres eB), RdS.cells hr10, RdS.len hr11 sl26, RdS.idx hr11 sl26, RdS.cellB hr11 (Ext.pres eB), RdS.cells hr11, RdS.len hr12 sl22, RdS.idx hr12 sl22, R1.intB hr12 (Ext.pres eB), RdS.cells hr12, BoxAt.cell hb0_0, BoxAt.cell hb0_1, wrap_id, Int.add_sub_cancel]
     try simp -implicitDefEqProofs (disch := first | decide | assumption | omega) only [go_sem, RdS.len hdX sl22, RdS.idx hdX sl22, R1.intB hdX (Ext.pres eB), RdS.cells hdX, RdS.len hmX sl23, RdS.idx hmX sl23, RdS.cellB hmX (Ext.pres eB), RdS.cells hmX, RdS.len hdY sl22, RdS.idx hdY sl22, R1.intB hdY (Ext.pres eB), RdS.cells hdY, RdS.len hmY sl23, RdS.idx hmY sl23, RdS.cellB hmY (Ext.pres eB), RdS.cells hmY, RdS.len rf sl23, RdS.idx rf sl23, RdS.cellB rf (Ext.pres eB), RdS.cells rf, RdS.len hr5 sl26, RdS.idx hr5 sl26, RdS.cellB hr5 (Ext.pres eB), RdS.cells hr5, RdS.len hr10 sl22, RdS.idx hr10 sl22, R1.intB hr10 (Ext.pres eB), RdS.cells hr10, RdS.len hr11 sl26, RdS.idx hr11 sl26, RdS.cellB hr11 (Ext.pres eB), RdS.cells hr11, RdS.len hr12 sl22, RdS.idx hr12 sl22, R1.intB hr12 (Ext.pres eB), RdS.cells hr12, BoxAt.cell hb0_0, BoxAt.cell hb0_1, wrap_id, Int.add_sub_cancel]
     refine CallA.mono (iApp_ok _ _ _ _ X Y f (0 : Int) (k : Int) (((X.maps).getD k default).getD i default) _ ⟨_, _, rfl, (RdS.pres hdX (Ext.pres eB)), (RdS.pres hmX (Ext.pres eB))⟩ ⟨_, _, rfl, (RdS.pres hdY (Ext.pres eB)), (RdS.pres hmY (Ext.pres eB))⟩ (RdS.pres rf (Ext.pres eB)) (RdS.pres hr12 (Ext.pres eB)) hX hY hF (by omega) (by omega) hvv) ?_
     intro vw7_14_0 h7_14
     rintro ⟨zvw7_14_0, fw7_14_0, rfl, how7_14_0, hfw7_14_0, e7_14⟩
     replace hb0_0 := BoxAt.ext hb0_0 e7_14
     replace hb0_1 := BoxAt.ext hb0_1 e7_14
     have := Ext.size e7_14
     replace eB := Ext.trans eB e7_14
     replace cL2 := Ext.trans cL2 e7_14
     replace cL7 := Ext.trans cL7 e7_14
     have hlhow7_14_0 := OS.lt how7_14_0
     try simp (disch := decide) only [outv_some, outv_none, put_puts]
     refine plK_pres (Ext.pres e7_14) ?_
     try simp -implicitDefEqProofs (disch := first | decide | assumption | omega) only [go_sem, RdS.len hdX sl22, RdS.idx hdX sl22, R1.intB hdX (Ext.pres eB), RdS.cells hdX, RdS.len hmX sl23, RdS.idx hmX sl23, RdS.cellB hmX (Ext.pres eB), RdS.cells hmX, RdS.len hdY sl22, RdS.idx hdY sl22, R1.intB hdY (Ext.pres eB), RdS.cells hdY, RdS.len hmY sl23, RdS.idx hmY sl23, RdS.cellB hmY (Ext.pres eB), RdS.cells hmY, RdS.len rf sl23, RdS.idx rf sl23, RdS.cellB rf (Ext.pres eB), RdS.cells rf, RdS.len hr5 sl26, RdS.idx hr5 sl26, RdS.cellB hr5 (Ext.pres eB), RdS.cells hr5, RdS.len hr10 sl22, RdS.idx hr10 sl22, R1.intB hr10 (Ext.pres eB), RdS.cells hr10, RdS.len hr11 sl26, RdS.idx hr11 sl26, RdS.cellB hr11 (Ext.pres eB), RdS.cells hr11, RdS.len hr12 sl22, RdS.idx hr12 sl22, R1.intB hr12 (Ext.pres eB), RdS.cells hr12, RdS.len (OS.rd how7_14_0) sl22, RdS.idx (OS.rd how7_14_0) sl22, R1.intN (OS.rd how7_14_0), RdS.cells (OS.rd how7_14_0), BoxAt.cell hb0_0, BoxAt.cell hb0_1, wrap_id, Int.add_sub_cancel]
     try simp -implicitDefEqProofs (disch := first | decide | assumption | omega) only [go_sem, RdS.len hdX sl22, RdS.idx hdX sl22, R1.intB hdX (Ext.pres eB), RdS.cells hdX, RdS.len hmX sl23, RdS.idx hmX sl23, RdS.cellB hmX (Ext.pres eB), RdS.cells hmX, RdS.len hdY sl22, RdS.idx hdY sl22, R1.intB hdY (Ext.pres eB), RdS.cells hdY, RdS.len hmY sl23, RdS.idx hmY sl23, RdS.cellB hmY (Ext.pres eB), RdS.cells hmY, RdS.len rf sl23, RdS.idx rf sl23, RdS.cellB rf (Ext.pres eB), RdS.cells rf, RdS.len hr5 sl26, RdS.idx hr5 sl26, RdS.cellB hr5 (Ext.pres eB), RdS.cells hr5, RdS.len hr10 sl22, RdS.idx hr10 sl22, R1.intB hr10 (Ext.pres eB), RdS.cells hr10, RdS.len hr11 sl26, RdS.idx hr11 sl26, RdS.cellB hr11 (Ext.pres eB), RdS.cells hr11, RdS.len hr12 sl22, RdS.idx hr12 sl22, R1.intB hr12 (Ext.pres eB), RdS.cells hr12, RdS.len (OS.rd how7_14_0) sl22, RdS.idx (OS.rd how7_14_0) sl22, R1.intN (OS.rd how7_14_0), RdS.cells (OS.rd how7_14_0), BoxAt.cell hb0_0, BoxAt.cell hb0_1, wrap_id, Int.add_sub_cancel]
     refine CallA.mono (diff_ok _ Y _ _ _ _ ⟨_, _, rfl, (RdS.pres hdY (Ext.pres eB)), (RdS.pres hmY (Ext.pres eB))⟩ (RdS.pres hr10 (Ext.pres eB)) hY.pre hdb hdl) ?_
     intro v7_18 h7_18
     rintro ⟨f7_18, ho7_18, hf7_18, e7_18⟩
     replace how7_14_0 := OS.ext how7_14_0 e7_18
     replace hb0_0 := BoxAt.ext hb0_0 e7_18
     replace hb0_1 := BoxAt.ext hb0_1 e7_18
     have := Ext.size e7_18
     replace eB := Ext.trans eB e7_18
     replace cL2 := Ext.trans cL2 e7_18
     replace cL7 := Ext.trans cL7 e7_18
     have hlho7_18 := OS.lt ho7_18
     try simp (disch := decide) only [outv_some, outv_none, put_puts]
     refine plK_pres (Ext.pres e7_18) ?_
     try simp -implicitDefEqProofs (disch := first | decide | assumption | omega) only [go_sem, RdS.len hdX sl22, RdS.idx hdX sl22, R1.intB hdX (Ext.pres eB), RdS.cells hdX, RdS.len hmX sl23, RdS.idx hmX sl23, RdS.cellB hmX (Ext.pres eB), RdS.cells hmX, RdS.len hdY sl22, RdS.idx hdY sl22, R1.intB hdY (Ext.pres eB), RdS.cells hdY, RdS.len hmY sl23, RdS.idx hmY sl23, RdS.cellB hmY (Ext.pres eB), RdS.cells hmY, RdS.len rf sl23, RdS.idx rf sl23, RdS.cellB rf (Ext.pres eB), RdS.cells rf, RdS.len hr5 sl26, RdS.idx hr5 sl26, RdS.cellB hr5 (Ext.pres eB), RdS.cells hr5, RdS.len hr10 sl22, RdS.idx hr10 sl22, R1.intB hr10 (Ext.pres eB), RdS.cells hr10, RdS.len hr11 sl26, RdS.idx hr11 sl26, RdS.cellB hr11 (Ext.pres eB), RdS.cells hr11, RdS.len hr12 sl22, RdS.idx hr12 sl22, R1.intB hr12 (Ext.pres eB), RdS.cells hr12, RdS.len (OS.rd how7_14_0) sl22, RdS.idx (OS.rd how7_14_0) sl22, R1.intN (OS.rd how7_14_0), RdS.cells (OS.rd how7_14_0), RdS.len (OS.rd ho7_18) sl22, RdS.idx (OS.rd ho7_18) sl22, R1.intN (OS.rd ho7_18), RdS.cells (OS.rd ho7_18), BoxAt.cell hb0_0, BoxAt.cell hb0_1, wrap_id, Int.add_sub_cancel]
     try simp -implicitDefEqProofs (disch := first | decide | assumption | omega) only [go_sem, RdS.len hdX sl22, RdS.idx hdX sl22, R1.intB hdX (Ext.pres eB), RdS.cells hdX, RdS.len hmX sl23, RdS.idx hmX sl23, RdS.cellB hmX (Ext.pres eB), RdS.cells hmX, RdS.len hdY sl22, RdS.idx hdY sl22, R1.intB hdY (Ext.pres eB), RdS.cells hdY, RdS.len hmY sl23, RdS.idx hmY sl23, RdS.cellB hmY (Ext.pres eB), RdS.cells hmY, RdS.len rf sl23, RdS.idx rf sl23, RdS.cellB rf (Ext.pres eB), RdS.cells rf, RdS.len hr5 sl26, RdS.idx hr5 sl26, RdS.cellB hr5 (Ext.pres eB), RdS.cells hr5, RdS.len hr10 sl22, RdS.idx hr10 sl22, R1.intB hr10 (Ext.pres eB), RdS.cells hr10, RdS.len hr11 sl26, RdS.idx hr11 sl26, RdS.cellB hr11 (Ext.pres eB), RdS.cells hr11, RdS.len hr12 sl22, RdS.idx hr12 sl22, R1.intB hr12 (Ext.pres eB), RdS.cells hr12, RdS.len (OS.rd how7_14_0) sl22, RdS.idx (OS.rd how7_14_0) sl22, R1.intN (OS.rd how7_14_0), RdS.cells (OS.rd how7_14_0), RdS.len (OS.rd ho7_18) sl22, RdS.idx (OS.rd ho7_18) sl22, R1.intN (OS.rd ho7_18), RdS.cells (OS.rd ho7_18), BoxAt.cell hb0_0, BoxAt.cell hb0_1, wrap_id, Int.add_sub_cancel]
     refine CallA.mono (equal1_ok _ _ (appP X Y f (0 : Int) (k : Int) (((X.maps).getD k default).getD i default)) (diffP Y ((k : Int) + (1 : Int)) (((f).getD (((k : Int) + (1 : Int))).toNat default).getD i default)) _ (OS.rd how7_14_0) (OS.rd ho7_18) ) ?_
     intro v_ h7_19
     rintro ⟨rfl, e7_19⟩
     replace how7_14_0 := OS.ext how7_14_0 e7_19
     replace ho7_18 := OS.ext ho7_18 e7_19
     replace hb0_0 := BoxAt.ext hb0_0 e7_19
     replace hb0_1 := BoxAt.ext hb0_1 e7_19
     have := Ext.size e7_19
     replace eB := Ext.trans eB e7_19
     replace cL2 := Ext.trans cL2 e7_19
     replace cL7 := Ext.trans cL7 e7_19
     try simp (disch := decide) only [outv_some, outv_none, put_puts]
     refine plK_pres (Ext.pres e7_19) ?_
     try simp -implicitDefEqProofs (disch := first | decide | assumption | omega) only [go_sem, RdS.len hdX sl22, RdS.idx hdX sl22, R1.intB hdX (Ext.pres eB), RdS.cells hdX, RdS.len hmX sl23, RdS.idx hmX sl23, RdS.cellB hmX (Ext.pres eB), RdS.cells hmX, RdS.len hdY sl22, RdS.idx hdY sl22, R1.intB hdY (Ext.pres eB), RdS.cells hdY, RdS.len hmY sl23, RdS.idx hmY sl23, RdS.cellB hmY (Ext.pres eB), RdS.cells hmY, RdS.len rf sl23, RdS.idx rf sl23, RdS.cellB rf (Ext.pres eB), RdS.cells rf, RdS.len hr5 sl26, RdS.idx hr5 sl26, RdS.cellB hr5 (Ext.pres eB), RdS.cells hr5, RdS.len hr10 sl22, RdS.idx hr10 sl22, R1.intB hr10 (Ext.pres eB), RdS.cells hr10, RdS.len hr11 sl26, RdS.idx hr11 sl26, RdS.cellB hr11 (Ext.pres eB), RdS.cells hr11, RdS.len hr12 sl22, RdS.idx hr12 sl22, R1.intB hr12 (Ext.pres eB), RdS.cells hr12, RdS.len (OS.rd how7_14_0) sl22, RdS.idx (OS.rd how7_14_0) sl22, R1.intN (OS.rd how7_14_0), RdS.cells (OS.rd how7_14_0), RdS.len (OS.rd ho7_18) sl22, RdS.idx (OS.rd ho7_18) sl22, R1.intN (OS.rd ho7_18), RdS.cells (OS.rd ho7_18), BoxAt.cell hb0_0, BoxAt.cell hb0_1, wrap_id, Int.add_sub_cancel]
     refine hK _ _ ?_
     clear hK K
     refine den_cond rfl (fun c2 => ?_) (fun c2 => ?_)
     ·try simp only [decide_eq_true_eq, decide_eq_false_iff_not, beq_iff_eq, beq_eq_false_iff_ne, bne_iff_ne, ne_eq, Bool.not_eq_true', Bool.not_eq_false', Bool.and_eq_true, Bool.or_eq_true, bne_eq_false_iff_eq] at c2
      refine den_seq ?_
      refine den_region TTok ?_
      intro K hK
      simp -implicitDefEqProofs (disch := first | decide | assumption | omega) only [go_sem, RdS.len hdX sl22, RdS.idx hdX sl22, R1.intB hdX (Ext.pres eB), RdS.cells hdX, RdS.len hmX sl23, RdS.idx hmX sl23, RdS.cellB hmX (Ext.pres eB), RdS.cells hmX, RdS.len hdY sl22, RdS.idx hdY sl22, R1.intB hdY (Ext.pres eB), RdS.cells hdY, RdS.len hmY sl23, RdS.idx hmY sl23, RdS.cellB hmY (Ext.pres eB), RdS.cells hmY, RdS.len rf sl23, RdS.idx rf sl23, RdS.cellB rf (Ext.pres eB), RdS.cells rf, RdS.len hr5 sl26, RdS.idx hr5 sl26, RdS.cellB hr5 (Ext.pres eB), RdS.cells hr5, RdS.len hr10 sl22, RdS.idx hr10 sl22, R1.intB hr10 (Ext.pres eB), RdS.cells hr10, RdS.len hr11 sl26, RdS.idx hr11 sl26, RdS.cellB hr11 (Ext.pres eB), RdS.cells hr11, RdS.len hr12 sl22, RdS.idx hr12 sl22, R1.intB hr12 (Ext.pres eB), RdS.cells hr12, wrap_id, Int.add_sub_cancel]
      refine hK _ _ ?_
      clear hK K
      refine den_ret ?_
      simp (disch := decide) only [resP_1, puts_same, puts_ne]
      exact ⟨vbool (pdec_no fun hC => by have h := hC k (by omega) i (by omega); rw [happ] at c2; exact c2 h), eB⟩
     ·try simp only [decide_eq_true_eq, decide_eq_false_iff_not, beq_iff_eq, beq_eq_false_iff_ne, bne_iff_ne, ne_eq, Bool.not_eq_true', Bool.not_eq_false', Bool.and_eq_true, Bool.or_eq_true, bne_eq_false_iff_eq] at c2
      refine den_skip ?_
      refine den_blk ?_
      refine den_region TTok ?_
      intro K hK
      simp -implicitDefEqProofs (disch := first | decide | assumption | omega) only [go_sem, RdS.len hdX sl22, RdS.idx hdX sl22, R1.intB hdX (Ext.pres eB), RdS.cells hdX, RdS.len hmX sl23, RdS.idx hmX sl23, RdS.cellB hmX (Ext.pres eB), RdS.cells hmX, RdS.len hdY sl22, RdS.idx hdY sl22, R1.intB hdY (Ext.pres eB), RdS.cells hdY, RdS.len hmY sl23, RdS.idx hmY sl23, RdS.cellB hmY (Ext.pres eB), RdS.cells hmY, RdS.len rf sl23, RdS.idx rf sl23, RdS.cellB rf (Ext.pres eB), RdS.cells rf, RdS.len hr5 sl26, RdS.idx hr5 sl26, RdS.cellB hr5 (Ext.pres eB), RdS.cells hr5, RdS.len hr10 sl22, RdS.idx hr10 sl22, R1.intB hr10 (Ext.pres eB), RdS.cells hr10, RdS.len hr11 sl26, RdS.idx hr11 sl26, RdS.cellB hr11 (Ext.pres eB), RdS.cells hr11, RdS.len hr12 sl22, RdS.idx hr12 sl22, R1.intB hr12 (Ext.pres eB), RdS.cells hr12, BoxAt.cell hb0_0, BoxAt.cell hb0_1, wrap_id, Int.add_sub_cancel]
      refine hK _ _ ?_
      clear hK K
      refine den_stop ?_
      exact ⟨i + 1, by simp [HasL, puts_at], ⟨by omega, fun j hj => (Nat.lt_succ_iff_lt_or_eq.1 hj).elim (hy j) (fun e => by subst e; rw [happ] at c2; exact c2), cL7⟩, by first | omega | (dsimp only; omega)⟩
    ·try simp only [decide_eq_true_eq, decide_eq_false_iff_not, beq_iff_eq, beq_eq_false_iff_ne, bne_iff_ne, ne_eq, Bool.not_eq_true', Bool.not_eq_false', Bool.and_eq_true, Bool.or_eq_true, bne_eq_false_iff_eq] at c1
     refine den_exit ?_
     refine denX_code ?_
     refine denX_stop ?_
     refine denX_hit ?_
     refine den_blk ?_
     refine den_region TTok ?_
     intro K hK
     simp -implicitDefEqProofs (disch := first | decide | assumption | omega) only [go_sem, RdS.len hdX sl22, RdS.idx hdX sl22, R1.intB hdX (Ext.pres eB), RdS.cells hdX, RdS.len hmX sl23, RdS.idx hmX sl23, RdS.cellB hmX (Ext.pres eB), RdS.cells hmX, RdS.len hdY sl22, RdS.idx hdY sl22, R1.intB hdY (Ext.pres eB), RdS.cells hdY, RdS.len hmY sl23, RdS.idx hmY sl23, RdS.cellB hmY (Ext.pres eB), RdS.cells hmY, RdS.len rf sl23, RdS.idx rf sl23, RdS.cellB rf (Ext.pres eB), RdS.cells rf, RdS.len hr5 sl26, RdS.idx hr5 sl26, RdS.cellB hr5 (Ext.pres eB), RdS.cells hr5, BoxAt.cell hb0_0, BoxAt.cell hb0_1, wrap_id, Int.add_sub_cancel]
     refine hK _ _ ?_
     clear hK K
     refine den_stop ?_
     exact ⟨k + 1, by simp [HasL, puts_at], ⟨by omega, fun j hj => (Nat.lt_succ_iff_lt_or_eq.1 hj).elim (hz j) (fun e => by subst e; exact fun q hq => hy q (by omega)), cL2⟩, by first | omega | (dsimp only; omega)⟩
  ·try simp only [decide_eq_true_eq, decide_eq_false_iff_not, beq_iff_eq, beq_eq_false_iff_ne, bne_iff_ne, ne_eq, Bool.not_eq_true', Bool.not_eq_false', Bool.and_eq_true, Bool.or_eq_true, bne_eq_false_iff_eq] at c0
   refine den_exit ?_
   refine denX_code ?_
   refine denX_stop ?_
   refine denX_hit ?_
   refine den_seq ?_
   refine den_region TTok ?_
   intro K hK
   simp -implicitDefEqProofs (disch := first | decide | assumption | omega) only [go_sem, RdS.len hdX sl22, RdS.idx hdX sl22, R1.intB hdX (Ext.pres eB), RdS.cells hdX, RdS.len hmX sl23, RdS.idx hmX sl23, RdS.cellB hmX (Ext.pres eB), RdS.cells hmX, RdS.len hdY sl22, RdS.idx hdY sl22, R1.intB hdY (Ext.pres eB), RdS.cells hdY, RdS.len hmY sl23, RdS.idx hmY sl23, RdS.cellB hmY (Ext.pres eB), RdS.cells hmY, RdS.len rf sl23, RdS.idx rf sl23, RdS.cellB rf (Ext.pres eB), RdS.cells rf, wrap_id, Int.add_sub_cancel]
   refine hK _ _ ?_
   clear hK K
   refine den_ret ?_
   simp (disch := decide) only [resP_1, puts_same, puts_ne]
   exact ⟨vbool (pdec_yes fun j hj => hz j (by omega)), eB⟩

set_option maxRecDepth 100000 in
theorem sChn_ok (vX vY vf : Value) (X : Cx) (Y : Cx) (f : List (List (List Int))) (h : Heap) (rX : RC h vX X) (rY : RC h vY Y) (rf : R3 h vf f) (hX : IsC X) (hY : IsC Y) (hF : IsFam X Y f 0) (hp : X.p = Y.p) (hl : X.dims.length = Y.dims.length) : CallA Try.prog 122 #[vX, vY, vf] h fun v' h' => v' = .bool (chnP X Y f) ∧ Ext h h' := by
 obtain ⟨vdX, vmX, rfl, hdX, hmX⟩ := rX
 have hledX := RdS.le hdX
 have hlemX := RdS.le hmX
 obtain ⟨vdY, vmY, rfl, hdY, hmY⟩ := rY
 have hledY := RdS.le hdY
 have hlemY := RdS.le hmY
 have hlef := RdS.le rf
 have hlX := hX.len
 have hlF := hF.len
 have hCX := hX
 have hCY := hY
 refine callA_intro TTok (args := [_, _, _]) Try.func122 (by kernel_rfl) rfl 55 rfl (by simp) [.tmp 6] rfl ?_
 simp only [idxs, Nat.reduceAdd]
 refine den_seq ?_
 refine den_region TTok ?_
 intro K hK
 simp -implicitDefEqProofs (disch := first | decide | assumption | omega) only [go_sem, RdS.len hdX sl22, RdS.idx hdX sl22, R1.intB hdX (HPres.refl _), RdS.cells hdX, RdS.len hmX sl23, RdS.idx hmX sl23, RdS.cellB hmX (HPres.refl _), RdS.cells hmX, RdS.len hdY sl22, RdS.idx hdY sl22, R1.intB hdY (HPres.refl _), RdS.cells hdY, RdS.len hmY sl23, RdS.idx hmY sl23, RdS.cellB hmY (HPres.refl _), RdS.cells hmY, RdS.len rf sl23, RdS.idx rf sl23, RdS.cellB rf (HPres.refl _), RdS.cells rf, wrap_id, Int.add_sub_cancel]
 refine op_box (cs := #[.int .i64 (X.p), vdX, vmX]) rfl ?_
 intro h0_0 e0_0 hb0_0 z0_0
 have := Ext.size e0_0
 have eB := e0_0
 have hfhb0_0 : Fresh h.size [h.size] := Fresh.one _
 have hlhb0_0 := one_lt (show h.size < h0_0.size by omega)
 try simp -implicitDefEqProofs (disch := first | decide | assumption | omega) only [go_sem, RdS.len hdX sl22, RdS.idx hdX sl22, R1.intB hdX (Ext.pres eB), RdS.cells hdX, RdS.len hmX sl23, RdS.idx hmX sl23, RdS.cellB hmX (Ext.pres eB), RdS.cells hmX, RdS.len hdY sl22, RdS.idx hdY sl22, R1.intB hdY (Ext.pres eB), RdS.cells hdY, RdS.len hmY sl23, RdS.idx hmY sl23, RdS.cellB hmY (Ext.pres eB), RdS.cells hmY, RdS.len rf sl23, RdS.idx rf sl23, RdS.cellB rf (Ext.pres eB), RdS.cells rf, BoxAt.cell hb0_0, wrap_id, Int.add_sub_cancel]
 refine op_box (cs := #[.int .i64 (Y.p), vdY, vmY]) rfl ?_
 intro h0_1 e0_1 hb0_1 z0_1
 replace hb0_0 := BoxAt.ext hb0_0 e0_1
 have := Ext.size e0_1
 replace eB := Ext.trans eB e0_1
 have hfhb0_1 : Fresh h0_0.size [h0_0.size] := Fresh.one _
 have hlhb0_1 := one_lt (show h0_0.size < h0_1.size by omega)
 try simp -implicitDefEqProofs (disch := first | decide | assumption | omega) only [go_sem, RdS.len hdX sl22, RdS.idx hdX sl22, R1.intB hdX (Ext.pres eB), RdS.cells hdX, RdS.len hmX sl23, RdS.idx hmX sl23, RdS.cellB hmX (Ext.pres eB), RdS.cells hmX, RdS.len hdY sl22, RdS.idx hdY sl22, R1.intB hdY (Ext.pres eB), RdS.cells hdY, RdS.len hmY sl23, RdS.idx hmY sl23, RdS.cellB hmY (Ext.pres eB), RdS.cells hmY, RdS.len rf sl23, RdS.idx rf sl23, RdS.cellB rf (Ext.pres eB), RdS.cells rf, BoxAt.cell hb0_0, BoxAt.cell hb0_1, wrap_id, Int.add_sub_cancel]
 refine hK _ _ ?_
 clear hK K
 refine den_seq ?_
 refine den_seq ?_
 refine den_region TTok ?_
 intro K hK
 simp -implicitDefEqProofs (disch := first | decide | assumption | omega) only [go_sem, RdS.len hdX sl22, RdS.idx hdX sl22, R1.intB hdX (Ext.pres eB), RdS.cells hdX, RdS.len hmX sl23, RdS.idx hmX sl23, RdS.cellB hmX (Ext.pres eB), RdS.cells hmX, RdS.len hdY sl22, RdS.idx hdY sl22, R1.intB hdY (Ext.pres eB), RdS.cells hdY, RdS.len hmY sl23, RdS.idx hmY sl23, RdS.cellB hmY (Ext.pres eB), RdS.cells hmY, RdS.len rf sl23, RdS.idx rf sl23, RdS.cellB rf (Ext.pres eB), RdS.cells rf, BoxAt.cell hb0_0, BoxAt.cell hb0_1, wrap_id, Int.add_sub_cancel]
 refine hK _ _ ?_
 clear hK K
 refine den_block ?_
 refine den_sel [7, 2, 3, 4] ?_
 intro env_1
 simp only [go_sem]
 refine den_loopS (σ := Nat) (fun st_ => [(7, .int .i64 ((st_ : Int) + 1))]) (fun st_ H => ((st_ : Int) ≤ (X.dims.length : Int) - 1) ∧ (∀ j : Nat, j < st_ → ∀ i, i < (f.getD ((j : Int) + 1).toNat default).length → chnAt X Y f j i) ∧ (Ext h0_1 H)) (fun st_ => X.dims.length - st_) 0 ?_ ?_
 ·exact ⟨by show ((0 : Nat) : Int) ≤ _; omega, fun j hj => by omega, Ext.refl _⟩
 ·rintro k h4 ee3 ⟨hk, hz, cL2⟩
  replace hb0_0 := BoxAt.ext hb0_0 cL2
  replace hb0_1 := BoxAt.ext hb0_1 cL2
  have := Ext.size cL2
  replace eB := Ext.trans eB cL2
  simp only [List.cons_append, List.nil_append]
  refine den_seq ?_
  refine den_seq ?_
  refine den_region TTok ?_
  intro K hK
  simp -implicitDefEqProofs (disch := first | decide | assumption | omega) only [go_sem, fa31_1, ld22, RdS.len hdX sl22, RdS.idx hdX sl22, R1.intB hdX (Ext.pres eB), RdS.cells hdX, RdS.len hmX sl23, RdS.idx hmX sl23, RdS.cellB hmX (Ext.pres eB), RdS.cells hmX, RdS.len hdY sl22, RdS.idx hdY sl22, R1.intB hdY (Ext.pres eB), RdS.cells hdY, RdS.len hmY sl23, RdS.idx hmY sl23, RdS.cellB hmY (Ext.pres eB), RdS.cells hmY, RdS.len rf sl23, RdS.idx rf sl23, RdS.cellB rf (Ext.pres eB), RdS.cells rf, BoxAt.cell hb0_0, BoxAt.cell hb0_1, wrap_id, Int.add_sub_cancel]
  refine hK _ _ ?_
  clear hK K
  refine den_cond rfl (fun c0 => ?_) (fun c0 => ?_)
  ·try simp only [decide_eq_true_eq, decide_eq_false_iff_not, beq_iff_eq, beq_eq_false_iff_ne, bne_iff_ne, ne_eq, Bool.not_eq_true', Bool.not_eq_false', Bool.and_eq_true, Bool.or_eq_true, bne_eq_false_iff_eq] at c0
   refine den_skip ?_
   refine den_seq ?_
   refine den_block ?_
   refine den_seq ?_
   refine den_region TTok ?_
   intro K hK
   simp -implicitDefEqProofs (disch := first | decide | assumption | omega) only [go_sem, RdS.len hdX sl22, RdS.idx hdX sl22, R1.intB hdX (Ext.pres eB), RdS.cells hdX, RdS.len hmX sl23, RdS.idx hmX sl23, RdS.cellB hmX (Ext.pres eB), RdS.cells hmX, RdS.len hdY sl22, RdS.idx hdY sl22, R1.intB hdY (Ext.pres eB), RdS.cells hdY, RdS.len hmY sl23, RdS.idx hmY sl23, RdS.cellB hmY (Ext.pres eB), RdS.cells hmY, RdS.len rf sl23, RdS.idx rf sl23, RdS.cellB rf (Ext.pres eB), RdS.cells rf, BoxAt.cell hb0_0, BoxAt.cell hb0_1, wrap_id, Int.add_sub_cancel]
   refine hK _ _ ?_
   clear hK K
   refine den_block ?_
   refine den_sel [8, 2, 3, 4, 7] ?_
   intro env_5
   simp only [go_sem]
   refine den_loopS (σ := Nat) (fun st_ => [(8, .int .i64 (st_ : Int))]) (fun st_ H => (st_ ≤ (f.getD ((k : Int) + 1).toNat default).length) ∧ (∀ j, j < st_ → chnAt X Y f k j) ∧ (Ext h4 H)) (fun st_ => (f.getD ((k : Int) + 1).toNat default).length - st_) 0 ?_ ?_
   ·exact ⟨by simp, fun j hj => by omega, Ext.refl _⟩
   ·rintro i h8 ee7 ⟨hi, hy, cL6⟩
    replace hb0_0 := BoxAt.ext hb0_0 cL6
    replace hb0_1 := BoxAt.ext hb0_1 cL6
    have := Ext.size cL6
    replace eB := Ext.trans eB cL6
    replace cL2 := Ext.trans cL2 cL6
    simp only [List.cons_append, List.nil_append]
    refine den_seq ?_
    refine den_seq ?_
    have hfa := (hF.at (n := ((k : Int) + 1).toNat) (by omega)).1
    refine den_region TTok ?_
    intro K hK
    simp -implicitDefEqProofs (disch := first | decide | assumption | omega) only [go_sem, fa31_1, ld22, ld2, RdS.len hdX sl22, RdS.idx hdX sl22, R1.intB hdX (Ext.pres eB), RdS.cells hdX, RdS.len hmX sl23, RdS.idx hmX sl23, RdS.cellB hmX (Ext.pres eB), RdS.cells hmX, RdS.len hdY sl22, RdS.idx hdY sl22, R1.intB hdY (Ext.pres eB), RdS.cells hdY, RdS.len hmY sl23, RdS.idx hmY sl23, RdS.cellB hmY (Ext.pres eB), RdS.cells hmY, RdS.len rf sl23, RdS.idx rf sl23, RdS.cellB rf (Ext.pres eB), RdS.cells rf, BoxAt.cell hb0_0, BoxAt.cell hb0_1, wrap_id, Int.add_sub_cancel]
    refine hK _ _ ?_
    clear hK K
    refine den_cond rfl (fun c1 => ?_) (fun c1 => ?_)
    ·try simp only [decide_eq_true_eq, decide_eq_false_iff_not, beq_iff_eq, beq_eq_false_iff_ne, bne_iff_ne, ne_eq, Bool.not_eq_true', Bool.not_eq_false', Bool.and_eq_true, Bool.or_eq_true, bne_eq_false_iff_eq] at c1
     refine den_skip ?_
     refine den_seq ?_
     refine den_block ?_
     refine den_seq ?_
     have hR := chnR hX hY hp hl hF (k := k) (i := i) (by omega) (by omega)
     have hRi := hR.hi
     have hRm := hR.ml
     have hRl := hR.row.1
     have hRy := hR.img.1
     have hdm := dm_at hX.dm (k := ((k : Int) + 1).toNat) (by omega)
     have hdu := diff_unit hX (k := k) (i := i) (by omega) (by omega)
     have hul : ((unitP (X.dims.getD ((k : Int) + 1).toNat 0).toNat i).length : Int) = X.dims.getD ((k : Int) + 1).toNat 0 := by rw [unitP, List.length_set, List.length_replicate]; omega
     have hub : Bnd X.p (unitP (X.dims.getD ((k : Int) + 1).toNat 0).toNat i) := unit_bnd hX.p _ _
     have hyb := hR.img.2
     have hvv : 0 ≤ (k : Int) ∧ (k : Int) ≤ (X.dims.length : Int) - 1 → ((diffP X ((k : Int) + 1) (unitP (X.dims.getD ((k : Int) + 1).toNat 0).toNat i)).length : Int) = X.dims.getD (k : Int).toNat 0 ∧ Bnd X.p (diffP X ((k : Int) + 1) (unitP (X.dims.getD ((k : Int) + 1).toNat 0).toNat i)) := fun _ => by rw [hdu]; exact hR.row
     refine den_region TTok ?_
     intro K hK
     simp -implicitDefEqProofs (disch := first | decide | assumption | omega) only [go_sem, fa31_1, ld22, ld2, RdS.len hdX sl22, RdS.idx hdX sl22, R1.intB hdX (Ext.pres eB), RdS.cells hdX, RdS.len hmX sl23, RdS.idx hmX sl23, RdS.cellB hmX (Ext.pres eB), RdS.cells hmX, RdS.len hdY sl22, RdS.idx hdY sl22, R1.intB hdY (Ext.pres eB), RdS.cells hdY, RdS.len hmY sl23, RdS.idx hmY sl23, RdS.cellB hmY (Ext.pres eB), RdS.cells hmY, RdS.len rf sl23, RdS.idx rf sl23, RdS.cellB rf (Ext.pres eB), RdS.cells rf, BoxAt.cell hb0_0, BoxAt.cell hb0_1, wrap_id, Int.add_sub_cancel]
     try simp -implicitDefEqProofs (disch := first | decide | assumption | omega) only [go_sem, RdS.len hdX sl22, RdS.idx hdX sl22, R1.intB hdX (Ext.pres eB), RdS.cells hdX, RdS.len hmX sl23, RdS.idx hmX sl23, RdS.cellB hmX (Ext.pres eB), RdS.cells hmX, RdS.len hdY sl22, RdS.idx hdY sl22, R1.intB hdY (Ext.pres eB), RdS.cells hdY, RdS.len hmY sl23, RdS.idx hmY sl23, RdS.cellB hmY (Ext.pres eB), RdS.cells hmY, RdS.len rf sl23, RdS.idx rf sl23, RdS.cellB rf (Ext.pres eB), RdS.cells rf, BoxAt.cell hb0_0, BoxAt.cell hb0_1, wrap_id, Int.add_sub_cancel]
     refine CallA.mono (sUnit_ok  ((X.dims).getD (((k : Int) + (1 : Int))).toNat 0) (i : Int) _  (by omega)) ?_
     intro vw7_6_0 h7_6
     rintro ⟨zvw7_6_0, fw7_6_0, rfl, how7_6_0, hfw7_6_0, e7_6⟩
     replace hb0_0 := BoxAt.ext hb0_0 e7_6
     replace hb0_1 := BoxAt.ext hb0_1 e7_6
     have := Ext.size e7_6
     replace eB := Ext.trans eB e7_6
     replace cL2 := Ext.trans cL2 e7_6
     replace cL6 := Ext.trans cL6 e7_6
     have hlhow7_6_0 := OS.lt how7_6_0
     try simp -implicitDefEqProofs (disch := first | decide | assumption | omega) only [go_sem, RdS.len hdX sl22, RdS.idx hdX sl22, R1.intB hdX (Ext.pres eB), RdS.cells hdX, RdS.len hmX sl23, RdS.idx hmX sl23, RdS.cellB hmX (Ext.pres eB), RdS.cells hmX, RdS.len hdY sl22, RdS.idx hdY sl22, R1.intB hdY (Ext.pres eB), RdS.cells hdY, RdS.len hmY sl23, RdS.idx hmY sl23, RdS.cellB hmY (Ext.pres eB), RdS.cells hmY, RdS.len rf sl23, RdS.idx rf sl23, RdS.cellB rf (Ext.pres eB), RdS.cells rf, RdS.len (OS.rd how7_6_0) sl22, RdS.idx (OS.rd how7_6_0) sl22, R1.intN (OS.rd how7_6_0), RdS.cells (OS.rd how7_6_0), BoxAt.cell hb0_0, BoxAt.cell hb0_1, wrap_id, Int.add_sub_cancel]
     refine hK _ _ ?_
     clear hK K
     refine den_seq ?_
     refine den_draw TTok mixed [] [(0, true), (1, true), (2, true), (3, true), (4, true), (5, true), (6, true), (7, true), (10, true), (11, true), (12, true), (13, true), (14, true), (15, true), (16, true), (17, true), (18, true), (8, false), (9, false), (19, false), (20, false), (21, true)] (by kernel_rfl) ?_
     intro K hK
     have hr9 := RdS.rowN rf (((k : Int) + (1 : Int))).toNat (by omega)
     have hlhr9 := RdS.le hr9
     have hr10 := RdS.rowN hr9 i (by omega)
     have hlhr10 := RdS.le hr10
     simp -implicitDefEqProofs (disch := first | decide | assumption | omega) only [go_sem, ld26, ld22, ld31, RdS.len hdX sl22, RdS.idx hdX sl22, R1.intB hdX (Ext.pres eB), RdS.cells hdX, RdS.len hmX sl23, RdS.idx hmX sl23, RdS.cellB hmX (Ext.pres eB), RdS.cells hmX, RdS.len hdY sl22, RdS.idx hdY sl22, R1.intB hdY (Ext.pres eB), RdS.cells hdY, RdS.len hmY sl23, RdS.idx hmY sl23, RdS.cellB hmY (Ext.pres eB), RdS.cells hmY, RdS.len rf sl23, RdS.idx rf sl23, RdS.cellB rf (Ext.pres eB), RdS.cells rf, RdS.len hr9 sl26, RdS.idx hr9 sl26, RdS.cellB hr9 (Ext.pres eB), RdS.cells hr9, RdS.len hr10 sl22, RdS.idx hr10 sl22, R1.intB hr10 (Ext.pres eB), RdS.cells hr10, RdS.len (OS.rd how7_6_0) sl22, RdS.idx (OS.rd how7_6_0) sl22, R1.intN (OS.rd how7_6_0), RdS.cells (OS.rd how7_6_0), BoxAt.cell hb0_0, BoxAt.cell hb0_1, wrap_id, Int.add_sub_cancel]
     try simp -implicitDefEqProofs (disch := first | decide | assumption | omega) only [go_sem, RdS.len hdX sl22, RdS.idx hdX sl22, R1.intB hdX (Ext.pres eB), RdS.cells hdX, RdS.len hmX sl23, RdS.idx hmX sl23, RdS.cellB hmX (Ext.pres eB), RdS.cells hmX, RdS.len hdY sl22, RdS.idx hdY sl22, R1.intB hdY (Ext.pres eB), RdS.cells hdY, RdS.len hmY sl23, RdS.idx hmY sl23, RdS.cellB hmY (Ext.pres eB), RdS.cells hmY, RdS.len rf sl23, RdS.idx rf sl23, RdS.cellB rf (Ext.pres eB), RdS.cells rf, RdS.len hr9 sl26, RdS.idx hr9 sl26, RdS.cellB hr9 (Ext.pres eB), RdS.cells hr9, RdS.len hr10 sl22, RdS.idx hr10 sl22, R1.intB hr10 (Ext.pres eB), RdS.cells hr10, RdS.len (OS.rd how7_6_0) sl22, RdS.idx (OS.rd how7_6_0) sl22, R1.intN (OS.rd how7_6_0), RdS.cells (OS.rd how7_6_0), BoxAt.cell hb0_0, BoxAt.cell hb0_1, wrap_id, Int.add_sub_cancel]
     refine CallA.mono (sD_ok _ _ X ((k : Int) + (1 : Int)) (unitP ((X.dims).getD (((k : Int) + (1 : Int))).toNat 0).toNat (i : Int).toNat) _ ⟨_, _, rfl, (RdS.pres hdX (Ext.pres eB)), (RdS.pres hmX (Ext.pres eB))⟩ (OS.rd how7_6_0) hCX (by omega) (by first | assumption | omega) (by assumption)) ?_
     intro vw8_8_0 h8_8
     rintro ⟨zvw8_8_0, fw8_8_0, rfl, how8_8_0, hfw8_8_0, e8_8⟩
     replace how7_6_0 := OS.ext how7_6_0 e8_8
     replace hb0_0 := BoxAt.ext hb0_0 e8_8
     replace hb0_1 := BoxAt.ext hb0_1 e8_8
     have := Ext.size e8_8
     replace eB := Ext.trans eB e8_8
     replace cL2 := Ext.trans cL2 e8_8
     replace cL6 := Ext.trans cL6 e8_8
     have hlhow8_8_0 := OS.lt how8_8_0
     try simp (disch := decide) only [outv_some, outv_none, put_puts]
     refine plK_pres (Ext.pres e8_8) ?_
     try simp -implicitDefEqProofs (disch := first | decide | assumption | omega) only [go_sem, RdS.len hdX sl22, RdS.idx hdX sl22, R1.intB hdX (Ext.pres eB), RdS.cells hdX, RdS.len hmX sl23, RdS.idx hmX sl23, RdS.cellB hmX (Ext.pres eB), RdS.cells hmX, RdS.len hdY sl22, RdS.idx hdY sl22, R1.intB hdY (Ext.pres eB), RdS.cells hdY, RdS.len hmY sl23, RdS.idx hmY sl23, RdS.cellB hmY (Ext.pres eB), RdS.cells hmY, RdS.len rf sl23, RdS.idx rf sl23, RdS.cellB rf (Ext.pres eB), RdS.cells rf, RdS.len hr9 sl26, RdS.idx hr9 sl26, RdS.cellB hr9 (Ext.pres eB), RdS.cells hr9, RdS.len hr10 sl22, RdS.idx hr10 sl22, R1.intB hr10 (Ext.pres eB), RdS.cells hr10, RdS.len (OS.rd how7_6_0) sl22, RdS.idx (OS.rd how7_6_0) sl22, R1.intN (OS.rd how7_6_0), RdS.cells (OS.rd how7_6_0), RdS.len (OS.rd how8_8_0) sl22, RdS.idx (OS.rd how8_8_0) sl22, R1.intN (OS.rd how8_8_0), RdS.cells (OS.rd how8_8_0), BoxAt.cell hb0_0, BoxAt.cell hb0_1, wrap_id, Int.add_sub_cancel]
     try simp -implicitDefEqProofs (disch := first | decide | assumption | omega) only [go_sem, RdS.len hdX sl22, RdS.idx hdX sl22, R1.intB hdX (Ext.pres eB), RdS.cells hdX, RdS.len hmX sl23, RdS.idx hmX sl23, RdS.cellB hmX (Ext.pres eB), RdS.cells hmX, RdS.len hdY sl22, RdS.idx hdY sl22, R1.intB hdY (Ext.pres eB), RdS.cells hdY, RdS.len hmY sl23, RdS.idx hmY sl23, RdS.cellB hmY (Ext.pres eB), RdS.cells hmY, RdS.len rf sl23, RdS.idx rf sl23, RdS.cellB rf (Ext.pres eB), RdS.cells rf, RdS.len hr9 sl26, RdS.idx hr9 sl26, RdS.cellB hr9 (Ext.pres eB), RdS.cells hr9, RdS.len hr10 sl22, RdS.idx hr10 sl22, R1.intB hr10 (Ext.pres eB), RdS.cells hr10, RdS.len (OS.rd how7_6_0) sl22, RdS.idx (OS.rd how7_6_0) sl22, R1.intN (OS.rd how7_6_0), RdS.cells (OS.rd how7_6_0), RdS.len (OS.rd how8_8_0) sl22, RdS.idx (OS.rd how8_8_0) sl22, R1.intN (OS.rd how8_8_0), RdS.cells (OS.rd how8_8_0), BoxAt.cell hb0_0, BoxAt.cell hb0_1, wrap_id, Int.add_sub_cancel]
     refine CallA.mono (sImg_ok _ _ _ _ X Y f (k : Int) (0 : Int) (diffP X ((k : Int) + (1 : Int)) (unitP ((X.dims).getD (((k : Int) + (1 : Int))).toNat 0).toNat (i : Int).toNat)) _ ⟨_, _, rfl, (RdS.pres hdX (Ext.pres eB)), (RdS.pres hmX (Ext.pres eB))⟩ ⟨_, _, rfl, (RdS.pres hdY (Ext.pres eB)), (RdS.pres hmY (Ext.pres eB))⟩ (RdS.pres rf (Ext.pres eB)) (OS.rd how8_8_0) hX hY hF (by omega) (by omega) hvv) ?_
     intro vw8_9_0 h8_9
     rintro ⟨zvw8_9_0, fw8_9_0, rfl, how8_9_0, hfw8_9_0, e8_9⟩
     replace how7_6_0 := OS.ext how7_6_0 e8_9
     replace how8_8_0 := OS.ext how8_8_0 e8_9
     replace hb0_0 := BoxAt.ext hb0_0 e8_9
     replace hb0_1 := BoxAt.ext hb0_1 e8_9
     have := Ext.size e8_9
     replace eB := Ext.trans eB e8_9
     replace cL2 := Ext.trans cL2 e8_9
     replace cL6 := Ext.trans cL6 e8_9
     have hlhow8_9_0 := OS.lt how8_9_0
     try simp (disch := decide) only [outv_some, outv_none, put_puts]
     refine plK_pres (Ext.pres e8_9) ?_
     try simp -implicitDefEqProofs (disch := first | decide | assumption | omega) only [go_sem, RdS.len hdX sl22, RdS.idx hdX sl22, R1.intB hdX (Ext.pres eB), RdS.cells hdX, RdS.len hmX sl23, RdS.idx hmX sl23, RdS.cellB hmX (Ext.pres eB), RdS.cells hmX, RdS.len hdY sl22, RdS.idx hdY sl22, R1.intB hdY (Ext.pres eB), RdS.cells hdY, RdS.len hmY sl23, RdS.idx hmY sl23, RdS.cellB hmY (Ext.pres eB), RdS.cells hmY, RdS.len rf sl23, RdS.idx rf sl23, RdS.cellB rf (Ext.pres eB), RdS.cells rf, RdS.len hr9 sl26, RdS.idx hr9 sl26, RdS.cellB hr9 (Ext.pres eB), RdS.cells hr9, RdS.len hr10 sl22, RdS.idx hr10 sl22, R1.intB hr10 (Ext.pres eB), RdS.cells hr10, RdS.len (OS.rd how7_6_0) sl22, RdS.idx (OS.rd how7_6_0) sl22, R1.intN (OS.rd how7_6_0), RdS.cells (OS.rd how7_6_0), RdS.len (OS.rd how8_8_0) sl22, RdS.idx (OS.rd how8_8_0) sl22, R1.intN (OS.rd how8_8_0), RdS.cells (OS.rd how8_8_0), RdS.len (OS.rd how8_9_0) sl22, RdS.idx (OS.rd how8_9_0) sl22, R1.intN (OS.rd how8_9_0), RdS.cells (OS.rd how8_9_0), BoxAt.cell hb0_0, BoxAt.cell hb0_1, wrap_id, Int.add_sub_cancel]
     try simp -implicitDefEqProofs (disch := first | decide | assumption | omega) only [go_sem, RdS.len hdX sl22, RdS.idx hdX sl22, R1.intB hdX (Ext.pres eB), RdS.cells hdX, RdS.len hmX sl23, RdS.idx hmX sl23, RdS.cellB hmX (Ext.pres eB), RdS.cells hmX, RdS.len hdY sl22, RdS.idx hdY sl22, R1.intB hdY (Ext.pres eB), RdS.cells hdY, RdS.len hmY sl23, RdS.idx hmY sl23, RdS.cellB hmY (Ext.pres eB), RdS.cells hmY, RdS.len rf sl23, RdS.idx rf sl23, RdS.cellB rf (Ext.pres eB), RdS.cells rf, RdS.len hr9 sl26, RdS.idx hr9 sl26, RdS.cellB hr9 (Ext.pres eB), RdS.cells hr9, RdS.len hr10 sl22, RdS.idx hr10 sl22, R1.intB hr10 (Ext.pres eB), RdS.cells hr10, RdS.len (OS.rd how7_6_0) sl22, RdS.idx (OS.rd how7_6_0) sl22, R1.intN (OS.rd how7_6_0), RdS.cells (OS.rd how7_6_0), RdS.len (OS.rd how8_8_0) sl22, RdS.idx (OS.rd how8_8_0) sl22, R1.intN (OS.rd how8_8_0), RdS.cells (OS.rd how8_8_0), RdS.len (OS.rd how8_9_0) sl22, RdS.idx (OS.rd how8_9_0) sl22, R1.intN (OS.rd how8_9_0), RdS.cells (OS.rd how8_9_0), BoxAt.cell hb0_0, BoxAt.cell hb0_1, wrap_id, Int.add_sub_cancel]
     refine CallA.mono (sD_ok _ _ Y ((k : Int) + (1 : Int)) (((f).getD (((k : Int) + (1 : Int))).toNat default).getD i default) _ ⟨_, _, rfl, (RdS.pres hdY (Ext.pres eB)), (RdS.pres hmY (Ext.pres eB))⟩ (RdS.pres hr10 (Ext.pres eB)) hCY (by omega) (by first | assumption | omega) (by assumption)) ?_
     intro vw8_19_0 h8_19
     rintro ⟨zvw8_19_0, fw8_19_0, rfl, how8_19_0, hfw8_19_0, e8_19⟩
     replace how7_6_0 := OS.ext how7_6_0 e8_19
     replace how8_8_0 := OS.ext how8_8_0 e8_19
     replace how8_9_0 := OS.ext how8_9_0 e8_19
     replace hb0_0 := BoxAt.ext hb0_0 e8_19
     replace hb0_1 := BoxAt.ext hb0_1 e8_19
     have := Ext.size e8_19
     replace eB := Ext.trans eB e8_19
     replace cL2 := Ext.trans cL2 e8_19
     replace cL6 := Ext.trans cL6 e8_19
     have hlhow8_19_0 := OS.lt how8_19_0
     try simp (disch := decide) only [outv_some, outv_none, put_puts]
     refine plK_pres (Ext.pres e8_19) ?_
     try simp -implicitDefEqProofs (disch := first | decide | assumption | omega) only [go_sem, RdS.len hdX sl22, RdS.idx hdX sl22, R1.intB hdX (Ext.pres eB), RdS.cells hdX, RdS.len hmX sl23, RdS.idx hmX sl23, RdS.cellB hmX (Ext.pres eB), RdS.cells hmX, RdS.len hdY sl22, RdS.idx hdY sl22, R1.intB hdY (Ext.pres eB), RdS.cells hdY, RdS.len hmY sl23, RdS.idx hmY sl23, RdS.cellB hmY (Ext.pres eB), RdS.cells hmY, RdS.len rf sl23, RdS.idx rf sl23, RdS.cellB rf (Ext.pres eB), RdS.cells rf, RdS.len hr9 sl26, RdS.idx hr9 sl26, RdS.cellB hr9 (Ext.pres eB), RdS.cells hr9, RdS.len hr10 sl22, RdS.idx hr10 sl22, R1.intB hr10 (Ext.pres eB), RdS.cells hr10, RdS.len (OS.rd how7_6_0) sl22, RdS.idx (OS.rd how7_6_0) sl22, R1.intN (OS.rd how7_6_0), RdS.cells (OS.rd how7_6_0), RdS.len (OS.rd how8_8_0) sl22, RdS.idx (OS.rd how8_8_0) sl22, R1.intN (OS.rd how8_8_0), RdS.cells (OS.rd how8_8_0), RdS.len (OS.rd how8_9_0) sl22, RdS.idx (OS.rd how8_9_0) sl22, R1.intN (OS.rd how8_9_0), RdS.cells (OS.rd how8_9_0), RdS.len (OS.rd how8_19_0) sl22, RdS.idx (OS.rd how8_19_0) sl22, R1.intN (OS.rd how8_19_0), RdS.cells (OS.rd how8_19_0), BoxAt.cell hb0_0, BoxAt.cell hb0_1, wrap_id, Int.add_sub_cancel]
     try simp -implicitDefEqProofs (disch := first | decide | assumption | omega) only [go_sem, RdS.len hdX sl22, RdS.idx hdX sl22, R1.intB hdX (Ext.pres eB), RdS.cells hdX, RdS.len hmX sl23, RdS.idx hmX sl23, RdS.cellB hmX (Ext.pres eB), RdS.cells hmX, RdS.len hdY sl22, RdS.idx hdY sl22, R1.intB hdY (Ext.pres eB), RdS.cells hdY, RdS.len hmY sl23, RdS.idx hmY sl23, RdS.cellB hmY (Ext.pres eB), RdS.cells hmY, RdS.len rf sl23, RdS.idx rf sl23, RdS.cellB rf (Ext.pres eB), RdS.cells rf, RdS.len hr9 sl26, RdS.idx hr9 sl26, RdS.cellB hr9 (Ext.pres eB), RdS.cells hr9, RdS.len hr10 sl22, RdS.idx hr10 sl22, R1.intB hr10 (Ext.pres eB), RdS.cells hr10, RdS.len (OS.rd how7_6_0) sl22, RdS.idx (OS.rd how7_6_0) sl22, R1.intN (OS.rd how7_6_0), RdS.cells (OS.rd how7_6_0), RdS.len (OS.rd how8_8_0) sl22, RdS.idx (OS.rd how8_8_0) sl22, R1.intN (OS.rd how8_8_0), RdS.cells (OS.rd how8_8_0), RdS.len (OS.rd how8_9_0) sl22, RdS.idx (OS.rd how8_9_0) sl22, R1.intN (OS.rd how8_9_0), RdS.cells (OS.rd how8_9_0), RdS.len (OS.rd how8_19_0) sl22, RdS.idx (OS.rd how8_19_0) sl22, R1.intN (OS.rd how8_19_0), RdS.cells (OS.rd how8_19_0), BoxAt.cell hb0_0, BoxAt.cell hb0_1, wrap_id, Int.add_sub_cancel]
     refine CallA.mono (same1_ok _ _ (imgP X Y f (0 : Int) (k : Int) (diffP X ((k : Int) + (1 : Int)) (unitP ((X.dims).getD (((k : Int) + (1 : Int))).toNat 0).toNat (i : Int).toNat))) (diffP Y ((k : Int) + (1 : Int)) (((f).getD (((k : Int) + (1 : Int))).toNat default).getD i default)) _ (OS.rd how8_9_0) (OS.rd how8_19_0) ) ?_
     intro v_ h8_20
     rintro ⟨rfl, e8_20⟩
     replace how7_6_0 := OS.ext how7_6_0 e8_20
     replace how8_8_0 := OS.ext how8_8_0 e8_20
     replace how8_9_0 := OS.ext how8_9_0 e8_20
     replace how8_19_0 := OS.ext how8_19_0 e8_20
     replace hb0_0 := BoxAt.ext hb0_0 e8_20
     replace hb0_1 := BoxAt.ext hb0_1 e8_20
     have := Ext.size e8_20
     replace eB := Ext.trans eB e8_20
     replace cL2 := Ext.trans cL2 e8_20
     replace cL6 := Ext.trans cL6 e8_20
     try simp (disch := decide) only [outv_some, outv_none, put_puts]
     refine plK_pres (Ext.pres e8_20) ?_
     try simp -implicitDefEqProofs (disch := first | decide | assumption | omega) only [go_sem, RdS.len hdX sl22, RdS.idx hdX sl22, R1.intB hdX (Ext.pres eB), RdS.cells hdX, RdS.len hmX sl23, RdS.idx hmX sl23, RdS.cellB hmX (Ext.pres eB), RdS.cells hmX, RdS.len hdY sl22, RdS.idx hdY sl22, R1.intB hdY (Ext.pres eB), RdS.cells hdY, RdS.len hmY sl23, RdS.idx hmY sl23, RdS.cellB hmY (Ext.pres eB), RdS.cells hmY, RdS.len rf sl23, RdS.idx rf sl23, RdS.cellB rf (Ext.pres eB), RdS.cells rf, RdS.len hr9 sl26, RdS.idx hr9 sl26, RdS.cellB hr9 (Ext.pres eB), RdS.cells hr9, RdS.len hr10 sl22, RdS.idx hr10 sl22, R1.intB hr10 (Ext.pres eB), RdS.cells hr10, RdS.len (OS.rd how7_6_0) sl22, RdS.idx (OS.rd how7_6_0) sl22, R1.intN (OS.rd how7_6_0), RdS.cells (OS.rd how7_6_0), RdS.len (OS.rd how8_8_0) sl22, RdS.idx (OS.rd how8_8_0) sl22, R1.intN (OS.rd how8_8_0), RdS.cells (OS.rd how8_8_0), RdS.len (OS.rd how8_9_0) sl22, RdS.idx (OS.rd how8_9_0) sl22, R1.intN (OS.rd how8_9_0), RdS.cells (OS.rd how8_9_0), RdS.len (OS.rd how8_19_0) sl22, RdS.idx (OS.rd how8_19_0) sl22, R1.intN (OS.rd how8_19_0), RdS.cells (OS.rd how8_19_0), BoxAt.cell hb0_0, BoxAt.cell hb0_1, wrap_id, Int.add_sub_cancel]
     refine hK _ _ ?_
     clear hK K
     refine den_cond rfl (fun c2 => ?_) (fun c2 => ?_)
     ·try simp only [decide_eq_true_eq, decide_eq_false_iff_not, beq_iff_eq, beq_eq_false_iff_ne, bne_iff_ne, ne_eq, Bool.not_eq_true', Bool.not_eq_false', Bool.and_eq_true, Bool.or_eq_true, bne_eq_false_iff_eq] at c2
      refine den_seq ?_
      refine den_region TTok ?_
      intro K hK
      simp -implicitDefEqProofs (disch := first | decide | assumption | omega) only [go_sem, RdS.len hdX sl22, RdS.idx hdX sl22, R1.intB hdX (Ext.pres eB), RdS.cells hdX, RdS.len hmX sl23, RdS.idx hmX sl23, RdS.cellB hmX (Ext.pres eB), RdS.cells hmX, RdS.len hdY sl22, RdS.idx hdY sl22, R1.intB hdY (Ext.pres eB), RdS.cells hdY, RdS.len hmY sl23, RdS.idx hmY sl23, RdS.cellB hmY (Ext.pres eB), RdS.cells hmY, RdS.len rf sl23, RdS.idx rf sl23, RdS.cellB rf (Ext.pres eB), RdS.cells rf, RdS.len hr9 sl26, RdS.idx hr9 sl26, RdS.cellB hr9 (Ext.pres eB), RdS.cells hr9, RdS.len hr10 sl22, RdS.idx hr10 sl22, R1.intB hr10 (Ext.pres eB), RdS.cells hr10, wrap_id, Int.add_sub_cancel]
      refine hK _ _ ?_
      clear hK K
      refine den_ret ?_
      simp (disch := decide) only [resP_1, puts_same, puts_ne]
      exact ⟨vbool (pdec_no fun hC => by have h := hC k (by omega) i (by omega); unfold chnAt at h; rw [hdu] at c2; exact c2 h), eB⟩
     ·try simp only [decide_eq_true_eq, decide_eq_false_iff_not, beq_iff_eq, beq_eq_false_iff_ne, bne_iff_ne, ne_eq, Bool.not_eq_true', Bool.not_eq_false', Bool.and_eq_true, Bool.or_eq_true, bne_eq_false_iff_eq] at c2
      refine den_skip ?_
      refine den_blk ?_
      refine den_region TTok ?_
      intro K hK
      simp -implicitDefEqProofs (disch := first | decide | assumption | omega) only [go_sem, RdS.len hdX sl22, RdS.idx hdX sl22, R1.intB hdX (Ext.pres eB), RdS.cells hdX, RdS.len hmX sl23, RdS.idx hmX sl23, RdS.cellB hmX (Ext.pres eB), RdS.cells hmX, RdS.len hdY sl22, RdS.idx hdY sl22, R1.intB hdY (Ext.pres eB), RdS.cells hdY, RdS.len hmY sl23, RdS.idx hmY sl23, RdS.cellB hmY (Ext.pres eB), RdS.cells hmY, RdS.len rf sl23, RdS.idx rf sl23, RdS.cellB rf (Ext.pres eB), RdS.cells rf, RdS.len hr9 sl26, RdS.idx hr9 sl26, RdS.cellB hr9 (Ext.pres eB), RdS.cells hr9, RdS.len hr10 sl22, RdS.idx hr10 sl22, R1.intB hr10 (Ext.pres eB), RdS.cells hr10, BoxAt.cell hb0_0, BoxAt.cell hb0_1, wrap_id, Int.add_sub_cancel]
      refine hK _ _ ?_
      clear hK K
      refine den_stop ?_
      exact ⟨i + 1, by simp [HasL, puts_at], ⟨by omega, fun j hj => (Nat.lt_succ_iff_lt_or_eq.1 hj).elim (hy j) (fun e => by subst e; have h := c2; rw [hdu] at h; exact h), cL6⟩, by first | omega | (dsimp only; omega)⟩
    ·try simp only [decide_eq_true_eq, decide_eq_false_iff_not, beq_iff_eq, beq_eq_false_iff_ne, bne_iff_ne, ne_eq, Bool.not_eq_true', Bool.not_eq_false', Bool.and_eq_true, Bool.or_eq_true, bne_eq_false_iff_eq] at c1
     refine den_exit ?_
     refine denX_code ?_
     refine denX_stop ?_
     refine denX_hit ?_
     refine den_blk ?_
     refine den_region TTok ?_
     intro K hK
     simp -implicitDefEqProofs (disch := first | decide | assumption | omega) only [go_sem, RdS.len hdX sl22, RdS.idx hdX sl22, R1.intB hdX (Ext.pres eB), RdS.cells hdX, RdS.len hmX sl23, RdS.idx hmX sl23, RdS.cellB hmX (Ext.pres eB), RdS.cells hmX, RdS.len hdY sl22, RdS.idx hdY sl22, R1.intB hdY (Ext.pres eB), RdS.cells hdY, RdS.len hmY sl23, RdS.idx hmY sl23, RdS.cellB hmY (Ext.pres eB), RdS.cells hmY, RdS.len rf sl23, RdS.idx rf sl23, RdS.cellB rf (Ext.pres eB), RdS.cells rf, BoxAt.cell hb0_0, BoxAt.cell hb0_1, wrap_id, Int.add_sub_cancel]
     refine hK _ _ ?_
     clear hK K
     refine den_stop ?_
     exact ⟨k + 1, by simp [HasL, puts_at], ⟨by omega, fun j hj => (Nat.lt_succ_iff_lt_or_eq.1 hj).elim (hz j) (fun e => by subst e; exact fun q hq => hy q (by omega)), cL2⟩, by first | omega | (dsimp only; omega)⟩
  ·try simp only [decide_eq_true_eq, decide_eq_false_iff_not, beq_iff_eq, beq_eq_false_iff_ne, bne_iff_ne, ne_eq, Bool.not_eq_true', Bool.not_eq_false', Bool.and_eq_true, Bool.or_eq_true, bne_eq_false_iff_eq] at c0
   refine den_exit ?_
   refine denX_code ?_
   refine denX_stop ?_
   refine denX_hit ?_
   refine den_seq ?_
   refine den_region TTok ?_
   intro K hK
   simp -implicitDefEqProofs (disch := first | decide | assumption | omega) only [go_sem, RdS.len hdX sl22, RdS.idx hdX sl22, R1.intB hdX (Ext.pres eB), RdS.cells hdX, RdS.len hmX sl23, RdS.idx hmX sl23, RdS.cellB hmX (Ext.pres eB), RdS.cells hmX, RdS.len hdY sl22, RdS.idx hdY sl22, R1.intB hdY (Ext.pres eB), RdS.cells hdY, RdS.len hmY sl23, RdS.idx hmY sl23, RdS.cellB hmY (Ext.pres eB), RdS.cells hmY, RdS.len rf sl23, RdS.idx rf sl23, RdS.cellB rf (Ext.pres eB), RdS.cells rf, wrap_id, Int.add_sub_cancel]
   refine hK _ _ ?_
   clear hK K
   refine den_ret ?_
   simp (disch := decide) only [resP_1, puts_same, puts_ne]
   exact ⟨vbool (pdec_yes fun j hj => hz j (by omega)), eB⟩
end Go.Proofs.Ytjjjgllbocgkbaa
