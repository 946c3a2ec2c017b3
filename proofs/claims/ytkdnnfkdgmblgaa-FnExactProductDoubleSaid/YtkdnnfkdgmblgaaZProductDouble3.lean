/-
  What the statement FnExactProductDouble uses of the walks, part 3.
  Conditions: each theorem's own.
-/
import Derived.Test.YtkdnnfkdgmblgaaG16
import Derived.Test.YtkdnnfkdgmblgaaG17
import Derived.Test.YtkdnnfkdgmblgaaG14
import Derived.Test.YtkdnnfkdgmblgaaG13
import Derived.Test.YtkdnnfkdgmblgaaG15
import Derived.Test.YtkdnnfkdgmblgaaG18
import Derived.Test.YtkdnnfkdgmblgaaZProductDouble1
import Derived.Test.YtkdnnfkdgmblgaaZProductDouble2
set_option linter.unusedVariables false
set_option linter.unusedSimpArgs false
namespace Go.Proofs.Ytkdnnfkdgmblgaa
open Go
theorem bD0 : buildV TT 30 [] = some (.agg #[.int .i64 0, .slice none 0 0, .slice none 0 0, .slice none 0 0]) := by kernel_rfl
theorem bD2 {v : Value} (hv : ∃ A n c, v = .slice A n c) (p : Int) : buildV TT 30 [(0, .int .i64 p), (1, v)] = some (.agg #[.int .i64 p, v, .slice none 0 0, .slice none 0 0]) := by
 obtain ⟨A, n, c, rfl⟩ := hv
 kernel_rfl
theorem bD4 {v w x : Value} (hv : ∃ A n c, v = .slice A n c) (hw : ∃ A n c, w = .slice A n c) (hx : ∃ A n c, x = .slice A n c) (p : Int) : buildV TT 30 [(0, .int .i64 p), (1, v), (2, w), (3, x)] = some (.agg #[.int .i64 p, v, w, x]) := by
 obtain ⟨A, n, c, rfl⟩ := hv
 obtain ⟨A', n', c', rfl⟩ := hw
 obtain ⟨B, m, b, rfl⟩ := hx
 kernel_rfl
theorem gO_ {α : Type} {l : List α} {d : α} {n : Nat} (h : l.length ≤ n) : l.getD n d = d := by rw [List.getD_eq_getElem?_getD, List.getElem?_eq_none h]; rfl
theorem dimD_nat (X : Cx) (q : Nat) : dimP X (q : Int) = X.dims.getD q 0 := by
 by_cases h : q < X.dims.length
 ·exact dimP_at h
 ·rw [gO_ (by omega), dimP, if_neg (by rw [in3_iff]; omega)]
theorem dimsD_nat {X : Cx} (hC : IsC X) (q : Nat) : 0 ≤ X.dims.getD q 0 ∧ X.dims.getD q 0 ≤ 8 := by
 by_cases h : q < X.dims.length
 ·exact dm_at hC.dm h
 ·rw [gO_ (by omega)]; omega
theorem mapD_nat {X : Cx} (q : Nat) (hm : q < X.maps.length) (hl : X.maps.length + 1 = X.dims.length) : mapP X (((q + 1 : Nat)) : Int) = X.maps.getD q default := by
 unfold mapP
 rw [if_pos (in3_iff.2 ⟨by omega, by omega⟩), show (((q + 1 : Nat) : Int) - 1).toNat = q by omega]
theorem rw_map {X : Cx} (hC : IsC X) {i : Nat} (hi : i < X.dims.length) : IsRw X.p (X.dims.getD i 0) (dimP X ((i : Int) - 1)) (mapP X (i : Int)) := by
 have hm := hC.ml
 have hd := dimsD_nat hC i
 cases i with
 | zero =>
  have e : mapP X ((0 : Nat) : Int) = List.replicate (X.dims.getD 0 0).toNat [] := by
   rw [mapP, if_neg (by rw [in3_iff]; omega), dimD_nat]
  have e2 : dimP X (((0 : Nat) : Int) - 1) = 0 := by rw [dimP, if_neg (by rw [in3_iff]; omega)]
  rw [e, e2]
  refine ⟨by rw [List.length_replicate]; omega, fun r hr => ?_, fun r hr c hc => ?_⟩
  ·rw [List.length_replicate] at hr
   rw [List.getD_eq_getElem?_getD, List.getElem?_replicate, if_pos hr]; rfl
  ·rw [List.length_replicate] at hr
   rw [List.getD_eq_getElem?_getD, List.getElem?_replicate, if_pos hr] at hc
   cases hc
 | succ q =>
  have l := hC.lens (k := q) (by omega)
  have hd0 := dimsD_nat hC q
  rw [mapD_nat q (by omega) hm, show ((q + 1 : Nat) : Int) - 1 = (q : Nat) by omega, dimD_nat]
  exact ⟨by have := l.1; omega, fun r hr => by have := l.2 r hr; omega, fun r hr c hc => hC.num (by omega) hr hc⟩
/-- A column of the product. -/
def pdDr (X Y : Cx) (i : Nat) : List Int := (List.range Y.dims.length).map fun j : Nat => X.dims.getD i 0 * Y.dims.getD j 0
def pdAr (X Y : Cx) (i : Nat) : List (List (List Int)) := (List.range Y.dims.length).map fun j : Nat => spT true X.p 1 (mapP X (i : Int)) (X.dims.getD i 0) (dimP X ((i : Int) - 1)) (Y.dims.getD j 0)
def pdBr (X Y : Cx) (i : Nat) : List (List (List Int)) := (List.range Y.dims.length).map fun j : Nat => spT false X.p (1 - 2 * Int.tmod (i : Int) 2) (mapP Y (j : Int)) (Y.dims.getD j 0) (dimP Y ((j : Int) - 1)) (X.dims.getD i 0)
def pdR (X Y : Cx) : Db := ⟨X.p, (List.range X.dims.length).map (pdDr X Y), (List.range X.dims.length).map (pdAr X Y), (List.range X.dims.length).map (pdBr X Y)⟩
theorem pdD_step {X Y : Cx} {i : Nat} : (List.range i).map (pdDr X Y) ++ [(List.range Y.dims.length).map fun q : Nat => X.dims.getD i 0 * Y.dims.getD q 0] = (List.range (i + 1)).map (pdDr X Y) := range_step (pdDr X Y) i
theorem pdA_step {X Y : Cx} {i : Nat} : (List.range i).map (pdAr X Y) ++ [(List.range Y.dims.length).map fun q : Nat => spT true X.p 1 (mapP X (i : Int)) (X.dims.getD i 0) (dimP X ((i : Int) - 1)) (Y.dims.getD q 0)] = (List.range (i + 1)).map (pdAr X Y) := range_step (pdAr X Y) i
theorem pdB_step {X Y : Cx} {i : Nat} : (List.range i).map (pdBr X Y) ++ [(List.range Y.dims.length).map fun q : Nat => spT false X.p (1 - 2 * Int.tmod (i : Int) 2) (mapP Y (q : Int)) (Y.dims.getD q 0) (dimP Y ((q : Int) - 1)) (X.dims.getD i 0)] = (List.range (i + 1)).map (pdBr X Y) := range_step (pdBr X Y) i
def dbZ : Db := ⟨0, [], [], []⟩
def pdS (X Y : Cx) : Bool := (List.range X.dims.length).all fun i : Nat => (List.range Y.dims.length).all fun j : Nat => decide (X.dims.getD i 0 * Y.dims.getD j 0 ≤ 4)
theorem pdS_t {X Y : Cx} : pdS X Y = true ↔ ∀ i, i < X.dims.length → ∀ j, j < Y.dims.length → X.dims.getD i 0 * Y.dims.getD j 0 ≤ 4 := by
 unfold pdS
 rw [List.all_eq_true]
 constructor
 ·intro h i hi j hj
  have h1 := h i (List.mem_range.2 hi)
  rw [List.all_eq_true] at h1
  exact of_decide_eq_true (h1 j (List.mem_range.2 hj))
 ·intro h i hi
  rw [List.all_eq_true]
  intro j hj
  exact decide_eq_true (h i (List.mem_range.1 hi) j (List.mem_range.1 hj))
/-- What the product is, and the code beside it. -/
noncomputable def pdP (X Y : Cx) : Db × Int := if isC X = true ∧ isC Y = true then (if X.p = Y.p then (if X.dims.length ≤ 4 ∧ Y.dims.length ≤ 4 then (if pdS X Y = true then (pdR X Y, 0) else (dbZ, 3)) else (dbZ, 3)) else (dbZ, 2)) else (dbZ, 1)
theorem pdP_1 {X Y : Cx} (h : ¬ (isC X = true ∧ isC Y = true)) : pdP X Y = (dbZ, 1) := if_neg h
theorem pdP_2 {X Y : Cx} (h : isC X = true ∧ isC Y = true) (hp : ¬ X.p = Y.p) : pdP X Y = (dbZ, 2) := by rw [pdP, if_pos h, if_neg hp]
theorem pdP_3 {X Y : Cx} (h : isC X = true ∧ isC Y = true) (hp : X.p = Y.p) (hs : ¬ (X.dims.length ≤ 4 ∧ Y.dims.length ≤ 4)) : pdP X Y = (dbZ, 3) := by rw [pdP, if_pos h, if_pos hp, if_neg hs]
theorem pdP_4 {X Y : Cx} (h : isC X = true ∧ isC Y = true) (hp : X.p = Y.p) (hs : X.dims.length ≤ 4 ∧ Y.dims.length ≤ 4) {i j : Nat} (hi : i < X.dims.length) (hj : j < Y.dims.length) (hc : 4 < X.dims.getD i 0 * Y.dims.getD j 0) : pdP X Y = (dbZ, 3) := by
 rw [pdP, if_pos h, if_pos hp, if_pos hs, if_neg]
 intro hf
 have := pdS_t.1 hf i hi j hj
 omega
theorem pdP_0 {X Y : Cx} (h : isC X = true ∧ isC Y = true) (hp : X.p = Y.p) (hs : X.dims.length ≤ 4 ∧ Y.dims.length ≤ 4) (hf : ∀ i, i < X.dims.length → ∀ j, j < Y.dims.length → X.dims.getD i 0 * Y.dims.getD j 0 ≤ 4) : pdP X Y = (pdR X Y, 0) := by
 rw [pdP, if_pos h, if_pos hp, if_pos hs, if_pos (pdS_t.2 hf)]
theorem tm2_ (x : Int) (h : 0 ≤ x) : -1 ≤ 1 - 2 * Int.tmod x 2 ∧ 1 - 2 * Int.tmod x 2 ≤ 1 := by
 have h1 := Int.tmod_lt_of_pos x (show (0 : Int) < 2 by decide)
 have h2 := Int.tmod_nonneg 2 h
 omega

set_option maxRecDepth 100000 in
theorem sPd_ok (vX vY : Value) (X : Cx) (Y : Cx) (h : Heap) (rX : RC h vX X) (rY : RC h vY Y) (hX : IsC X) (hY : IsC Y) (hpp : X.p = Y.p) : CallA Try.prog 16 #[vX, vY] h fun v' h' => ∃ wd0 wa0 wb0 fd0 fa0 fb0, v' = .agg #[.int .i64 (pdR X Y).p, wd0, wa0, wb0] ∧ O2 h' wd0 (pdR X Y).dims fd0 ∧ O4 h' wa0 (pdR X Y).ac fa0 ∧ O4 h' wb0 (pdR X Y).dn fb0 ∧ Fresh h.size (fd0 ++ (fa0 ++ fb0)) ∧ Ext h h' := by
 obtain ⟨vdX, vmX, rfl, hdX, hmX⟩ := rX
 have hledX := RdS.le hdX
 have hlemX := RdS.le hmX
 obtain ⟨vdY, vmY, rfl, hdY, hmY⟩ := rY
 have hledY := RdS.le hdY
 have hlemY := RdS.le hmY
 have hpb := isP_bnd hX.p
 have hlX := hX.len
 have hlY := hY.len
 refine callA_intro TTok (args := [_, _]) Try.func16 (by kernel_rfl) rfl 117 rfl (by simp) [.cell 4 30] rfl ?_
 simp only [idxs, Nat.reduceAdd]
 refine den_seq ?_
 refine den_region TTok ?_
 intro K hK
 simp -implicitDefEqProofs (disch := first | decide | assumption | omega) only [go_sem, wrap_id, bD0]
 refine op_box (cs := #[.int .i64 (X.p), vdX, vmX]) rfl ?_
 intro h0_0 e0_0 hb0_0 z0_0
 have := Ext.size e0_0
 have eB := e0_0
 have hfhb0_0 : Fresh h.size [h.size] := Fresh.one _
 have hlhb0_0 := one_lt (show h.size < h0_0.size by omega)
 try simp -implicitDefEqProofs (disch := first | decide | assumption | omega) only [go_sem, wrap_id, bD0]
 refine op_box (cs := #[.int .i64 (Y.p), vdY, vmY]) rfl ?_
 intro h0_1 e0_1 hb0_1 z0_1
 replace hb0_0 := BoxAt.ext hb0_0 e0_1
 have := Ext.size e0_1
 replace eB := Ext.trans eB e0_1
 have hfhb0_1 : Fresh h0_0.size [h0_0.size] := Fresh.one _
 have hlhb0_1 := one_lt (show h0_0.size < h0_1.size by omega)
 try simp -implicitDefEqProofs (disch := first | decide | assumption | omega) only [go_sem, wrap_id, bD0]
 refine op_alloc (cs := #[.int .i64 0, .slice none 0 0, .slice none 0 0, .slice none 0 0]) (by kernel_rfl) ?_
 intro h0_2 e0_2 hb0_2 z0_2
 replace hb0_0 := BoxAt.ext hb0_0 e0_2
 replace hb0_1 := BoxAt.ext hb0_1 e0_2
 have := Ext.size e0_2
 replace eB := Ext.trans eB e0_2
 have hfhb0_2 : Fresh h0_1.size [h0_1.size] := Fresh.one _
 have hlhb0_2 := one_lt (show h0_1.size < h0_2.size by omega)
 try simp -implicitDefEqProofs (disch := first | decide | assumption | omega) only [go_sem, BoxAt.cell hb0_2, wrap_id, bD0]
 refine hK _ _ ?_
 clear hK K
 refine den_seq ?_
 refine den_region TTok ?_
 intro K hK
 simp -implicitDefEqProofs (disch := first | decide | assumption | omega) only [go_sem, fa33_0, ld2, RdS.len hdX sl22, RdS.idx hdX sl22, R1.intB hdX (Ext.pres eB), RdS.cells hdX, RdS.len hmX sl23, RdS.idx hmX sl23, RdS.cellB hmX (Ext.pres eB), RdS.cells hmX, BoxAt.cell hb0_0, wrap_id, bD0]
 refine op_bs0 sz27 O1 ?_
 intro v1_2 h1_2 ho1_2 e1_2
 replace hb0_0 := BoxAt.ext hb0_0 e1_2
 replace hb0_1 := BoxAt.ext hb0_1 e1_2
 replace hb0_2 := BoxAt.ext hb0_2 e1_2
 have := Ext.size e1_2
 replace eB := Ext.trans eB e1_2
 have hfho1_2 : Fresh h0_2.size [h0_2.size] := Fresh.one _
 have hlho1_2 := OS.lt ho1_2
 try simp -implicitDefEqProofs (disch := first | decide | assumption | omega) only [go_sem, BoxAt.cell hb0_2, wrap_id, bD0]
 refine op_bs0 sz28 O3 ?_
 intro v1_3 h1_3 ho1_3 e1_3
 replace ho1_2 := OS.ext ho1_2 e1_3
 replace hb0_0 := BoxAt.ext hb0_0 e1_3
 replace hb0_1 := BoxAt.ext hb0_1 e1_3
 replace hb0_2 := BoxAt.ext hb0_2 e1_3
 have := Ext.size e1_3
 replace eB := Ext.trans eB e1_3
 have hfho1_3 : Fresh h1_2.size [h1_2.size] := Fresh.one _
 have hlho1_3 := OS.lt ho1_3
 try simp -implicitDefEqProofs (disch := first | decide | assumption | omega) only [go_sem, BoxAt.cell hb0_2, wrap_id, bD0]
 refine op_bs0 sz28 O3 ?_
 intro v1_4 h1_4 ho1_4 e1_4
 replace ho1_2 := OS.ext ho1_2 e1_4
 replace ho1_3 := OS.ext ho1_3 e1_4
 replace hb0_0 := BoxAt.ext hb0_0 e1_4
 replace hb0_1 := BoxAt.ext hb0_1 e1_4
 replace hb0_2 := BoxAt.ext hb0_2 e1_4
 have := Ext.size e1_4
 replace eB := Ext.trans eB e1_4
 have hfho1_4 : Fresh h1_3.size [h1_3.size] := Fresh.one _
 have hlho1_4 := OS.lt ho1_4
 try simp -implicitDefEqProofs (disch := first | decide | assumption | omega) only [go_sem, RdS.len (OS.rd ho1_2) sl27, RdS.idx (OS.rd ho1_2) sl27, RdS.cellN (OS.rd ho1_2), RdS.cells (OS.rd ho1_2), RdS.len (OS.rd ho1_3) sl28, RdS.idx (OS.rd ho1_3) sl28, RdS.cellN (OS.rd ho1_3), RdS.cells (OS.rd ho1_3), RdS.len (OS.rd ho1_4) sl28, RdS.idx (OS.rd ho1_4) sl28, RdS.cellN (OS.rd ho1_4), RdS.cells (OS.rd ho1_4), wrap_id, bD0, bD4 (OS.isSl ho1_2) (OS.isSl ho1_3) (OS.isSl ho1_4)]
 refine op_alloc (cs := #[.int .i64 0, .slice none 0 0, .slice none 0 0, .slice none 0 0]) (by kernel_rfl) ?_
 intro h1_6 e1_6 hb1_6 z1_6
 replace ho1_2 := OS.ext ho1_2 e1_6
 replace ho1_3 := OS.ext ho1_3 e1_6
 replace ho1_4 := OS.ext ho1_4 e1_6
 replace hb0_0 := BoxAt.ext hb0_0 e1_6
 replace hb0_1 := BoxAt.ext hb0_1 e1_6
 replace hb0_2 := BoxAt.ext hb0_2 e1_6
 have := Ext.size e1_6
 replace eB := Ext.trans eB e1_6
 have hfhb1_6 : Fresh h1_4.size [h1_4.size] := Fresh.one _
 have hlhb1_6 := one_lt (show h1_4.size < h1_6.size by omega)
 try simp -implicitDefEqProofs (disch := first | decide | assumption | omega) only [go_sem, BoxAt.cell hb0_2, wrap_id, bD0, bD4 (OS.isSl ho1_2) (OS.isSl ho1_3) (OS.isSl ho1_4)]
 refine op_storeB (cs' := #[.int .i64 (X.p), v1_2, v1_3, v1_4]) st30 hb1_6 rfl rfl rfl (by simp) (allOne_mem (l := [.int .i64 (X.p), v1_2, v1_3, v1_4]) ⟨rfl, (OS.one ho1_2).1, (OS.one ho1_3).1, (OS.one ho1_4).1, trivial⟩) rfl ?_
 intro h1_7 hb1_6 c1_7
 replace ho1_2 := OS.chg ho1_2 c1_7 (apart_lt hlho1_2 hfhb1_6 (by omega))
 replace ho1_3 := OS.chg ho1_3 c1_7 (apart_lt hlho1_3 hfhb1_6 (by omega))
 replace ho1_4 := OS.chg ho1_4 c1_7 (apart_lt hlho1_4 hfhb1_6 (by omega))
 replace hb0_0 := BoxAt.chgA hb0_0 c1_7 (apart_lt hlhb0_0 hfhb1_6 (by omega))
 replace hb0_1 := BoxAt.chgA hb0_1 c1_7 (apart_lt hlhb0_1 hfhb1_6 (by omega))
 replace hb0_2 := BoxAt.chgA hb0_2 c1_7 (apart_lt hlhb0_2 hfhb1_6 (by omega))
 have := c1_7.size
 replace eB := Ext.then eB c1_7 (ge_of hfhb1_6 (by omega))
 try simp -implicitDefEqProofs (disch := first | decide | assumption | omega) only [go_sem, BoxAt.cell hb0_2, wrap_id, bD0, bD4 (OS.isSl ho1_2) (OS.isSl ho1_3) (OS.isSl ho1_4)]
 refine hK _ _ ?_
 clear hK K
 refine den_seq ?_
 refine den_seq ?_
 refine den_region TTok ?_
 intro K hK
 simp -implicitDefEqProofs (disch := first | decide | assumption | omega) only [go_sem, wrap_id, bD0]
 refine hK _ _ ?_
 clear hK K
 refine den_block ?_
 refine den_sel [6, 2, 3, 4, 5] ?_
 intro env_1
 simp only [go_sem]
 refine den_loopS (σ := Nat × Value × List Nat × Value × List Nat × Value × List Nat) (fun st_ => [(6, .int .i64 (st_.1 : Int))]) (fun st_ H => (st_.1 ≤ X.dims.length) ∧ (O2 H st_.2.1 ((List.range st_.1).map (pdDr X Y)) st_.2.2.1) ∧ (Fresh (h0_2.size) st_.2.2.1) ∧ (Sub ([h0_2.size] ++ ([h1_2.size] ++ ([h1_3.size] ++ ([h1_4.size])))) h1_7.size st_.2.2.1) ∧ (O4 H st_.2.2.2.1 ((List.range st_.1).map (pdAr X Y)) st_.2.2.2.2.1) ∧ (Fresh (h1_2.size) st_.2.2.2.2.1) ∧ (Sub ([h0_2.size] ++ ([h1_2.size] ++ ([h1_3.size] ++ ([h1_4.size])))) h1_7.size st_.2.2.2.2.1) ∧ (O4 H st_.2.2.2.2.2.1 ((List.range st_.1).map (pdBr X Y)) st_.2.2.2.2.2.2) ∧ (Fresh (h1_3.size) st_.2.2.2.2.2.2) ∧ (Sub ([h0_2.size] ++ ([h1_2.size] ++ ([h1_3.size] ++ ([h1_4.size])))) h1_7.size st_.2.2.2.2.2.2) ∧ (BoxAt H (h1_4.size) #[.int .i64 (X.p), st_.2.1, st_.2.2.2.1, st_.2.2.2.2.2.1] 30) ∧ (Apart st_.2.2.1 st_.2.2.2.2.1) ∧ (Apart st_.2.2.1 st_.2.2.2.2.2.2) ∧ (Apart st_.2.2.1 [h1_4.size]) ∧ (Apart st_.2.2.2.2.1 st_.2.2.2.2.2.2) ∧ (Apart st_.2.2.2.2.1 [h1_4.size]) ∧ (Apart st_.2.2.2.2.2.2 [h1_4.size]) ∧ (Chg ([h0_2.size] ++ ([h1_2.size] ++ ([h1_3.size] ++ ([h1_4.size])))) h1_7 H)) (fun st_ => X.dims.length - st_.1) (0, v1_2, [h0_2.size], v1_3, [h1_2.size], v1_4, [h1_3.size]) ?_ ?_
 ·exact ⟨by first | (simp; done) | (dsimp only; omega) | (simp; omega), by simpa using ho1_2, hfho1_2, (Sub.left Sub.refl), by simpa using ho1_3, hfho1_3, (Sub.right (Sub.left Sub.refl)), by simpa using ho1_4, hfho1_4, (Sub.right (Sub.right (Sub.left Sub.refl))), by simpa using hb1_6, (apart_lt hlho1_2 hfho1_3 (by omega)), (apart_lt hlho1_2 hfho1_4 (by omega)), (apart_lt hlho1_2 hfhb1_6 (by omega)), (apart_lt hlho1_3 hfho1_4 (by omega)), (apart_lt hlho1_3 hfhb1_6 (by omega)), (apart_lt hlho1_4 hfhb1_6 (by omega)), Chg.refl _ _⟩
 ·rintro ⟨i, vhD, fphD, vhA, fphA, vhB, fphB⟩ h4 ee3 ⟨hi0, hD, hfhD, sbhD, hA, hfhA, sbhA, hB, hfhB, sbhB, hbx5, ap_hD_hA, ap_hD_hB, ap_hD_hbx5, ap_hA_hB, ap_hA_hbx5, ap_hB_hbx5, cL2⟩
  dsimp only at hi0 hD hfhD sbhD hA hfhA sbhA hB hfhB sbhB hbx5 ap_hD_hA ap_hD_hB ap_hD_hbx5 ap_hA_hB ap_hA_hbx5 ap_hB_hbx5 cL2
  replace hb0_0 := BoxAt.chgA hb0_0 cL2 (Apart.app (apart_lt hlhb0_0 hfho1_2 (by omega)) (Apart.app (apart_lt hlhb0_0 hfho1_3 (by omega)) (Apart.app (apart_lt hlhb0_0 hfho1_4 (by omega)) (apart_lt hlhb0_0 hfhb1_6 (by omega)))))
  replace hb0_1 := BoxAt.chgA hb0_1 cL2 (Apart.app (apart_lt hlhb0_1 hfho1_2 (by omega)) (Apart.app (apart_lt hlhb0_1 hfho1_3 (by omega)) (Apart.app (apart_lt hlhb0_1 hfho1_4 (by omega)) (apart_lt hlhb0_1 hfhb1_6 (by omega)))))
  replace hb0_2 := BoxAt.chgA hb0_2 cL2 (Apart.app (apart_lt hlhb0_2 hfho1_2 (by omega)) (Apart.app (apart_lt hlhb0_2 hfho1_3 (by omega)) (Apart.app (apart_lt hlhb0_2 hfho1_4 (by omega)) (apart_lt hlhb0_2 hfhb1_6 (by omega)))))
  have := cL2.size
  replace eB := Ext.then eB cL2 (ge_app (ge_of hfho1_2 (by omega)) (ge_app (ge_of hfho1_3 (by omega)) (ge_app (ge_of hfho1_4 (by omega)) (ge_of hfhb1_6 (by omega)))))
  have hlhD := OS.lt hD
  have hlhA := OS.lt hA
  have hlhB := OS.lt hB
  have hfhbx5 := hfhb1_6
  have hlhbx5 := hlhb1_6
  simp only [List.cons_append, List.nil_append]
  have hl1 : ((List.range i).map (pdDr X Y)).length = i := by simp
  have hl2 : ((List.range i).map (pdAr X Y)).length = i := by simp
  have hl3 : ((List.range i).map (pdBr X Y)).length = i := by simp
  refine den_seq ?_
  refine den_seq ?_
  refine den_region TTok ?_
  intro K hK
  simp -implicitDefEqProofs (disch := first | decide | assumption | omega) only [go_sem, fa33_1, ld22, RdS.len hdX sl22, RdS.idx hdX sl22, R1.intB hdX (Ext.pres eB), RdS.cells hdX, RdS.len hmX sl23, RdS.idx hmX sl23, RdS.cellB hmX (Ext.pres eB), RdS.cells hmX, BoxAt.cell hb0_0, wrap_id, bD0]
  refine hK _ _ ?_
  clear hK K
  refine den_cond rfl (fun c0 => ?_) (fun c0 => ?_)
  ·try simp only [decide_eq_true_eq, decide_eq_false_iff_not, beq_iff_eq, beq_eq_false_iff_ne, bne_iff_ne, ne_eq, Bool.not_eq_true', Bool.not_eq_false', Bool.and_eq_true, Bool.or_eq_true, bne_eq_false_iff_eq] at c0
   refine den_skip ?_
   refine den_seq ?_
   refine den_block ?_
   refine den_seq ?_
   refine den_region TTok ?_
   intro K hK
   simp -implicitDefEqProofs (disch := first | decide | assumption | omega) only [go_sem, BoxAt.cell hb0_2, wrap_id, bD0]
   refine op_bs0 sz22 OI ?_
   intro v5_0 h5_0 ho5_0 e5_0
   replace hD := OS.ext hD e5_0
   replace hA := OS.ext hA e5_0
   replace hB := OS.ext hB e5_0
   replace hb0_0 := BoxAt.ext hb0_0 e5_0
   replace hb0_1 := BoxAt.ext hb0_1 e5_0
   replace hb0_2 := BoxAt.ext hb0_2 e5_0
   replace hbx5 := BoxAt.ext hbx5 e5_0
   have := Ext.size e5_0
   replace eB := Ext.trans eB e5_0
   replace cL2 := Chg.stepE cL2 e5_0
   have hfho5_0 : Fresh h4.size [h4.size] := Fresh.one _
   have hlho5_0 := OS.lt ho5_0
   try simp -implicitDefEqProofs (disch := first | decide | assumption | omega) only [go_sem, BoxAt.cell hb0_2, wrap_id, bD0]
   refine op_bs0 sz23 O2 ?_
   intro v5_1 h5_1 ho5_1 e5_1
   replace hD := OS.ext hD e5_1
   replace hA := OS.ext hA e5_1
   replace hB := OS.ext hB e5_1
   replace ho5_0 := OS.ext ho5_0 e5_1
   replace hb0_0 := BoxAt.ext hb0_0 e5_1
   replace hb0_1 := BoxAt.ext hb0_1 e5_1
   replace hb0_2 := BoxAt.ext hb0_2 e5_1
   replace hbx5 := BoxAt.ext hbx5 e5_1
   have := Ext.size e5_1
   replace eB := Ext.trans eB e5_1
   replace cL2 := Chg.stepE cL2 e5_1
   have hfho5_1 : Fresh h5_0.size [h5_0.size] := Fresh.one _
   have hlho5_1 := OS.lt ho5_1
   try simp -implicitDefEqProofs (disch := first | decide | assumption | omega) only [go_sem, BoxAt.cell hb0_2, wrap_id, bD0]
   refine op_bs0 sz23 O2 ?_
   intro v5_2 h5_2 ho5_2 e5_2
   replace hD := OS.ext hD e5_2
   replace hA := OS.ext hA e5_2
   replace hB := OS.ext hB e5_2
   replace ho5_0 := OS.ext ho5_0 e5_2
   replace ho5_1 := OS.ext ho5_1 e5_2
   replace hb0_0 := BoxAt.ext hb0_0 e5_2
   replace hb0_1 := BoxAt.ext hb0_1 e5_2
   replace hb0_2 := BoxAt.ext hb0_2 e5_2
   replace hbx5 := BoxAt.ext hbx5 e5_2
   have := Ext.size e5_2
   replace eB := Ext.trans eB e5_2
   replace cL2 := Chg.stepE cL2 e5_2
   have hfho5_2 : Fresh h5_1.size [h5_1.size] := Fresh.one _
   have hlho5_2 := OS.lt ho5_2
   try simp -implicitDefEqProofs (disch := first | decide | assumption | omega) only [go_sem, RdS.len (OS.rd ho5_0) sl22, RdS.idx (OS.rd ho5_0) sl22, R1.intN (OS.rd ho5_0), RdS.cells (OS.rd ho5_0), RdS.len (OS.rd ho5_1) sl23, RdS.idx (OS.rd ho5_1) sl23, RdS.cellN (OS.rd ho5_1), RdS.cells (OS.rd ho5_1), RdS.len (OS.rd ho5_2) sl23, RdS.idx (OS.rd ho5_2) sl23, RdS.cellN (OS.rd ho5_2), RdS.cells (OS.rd ho5_2), wrap_id, bD0]
   refine hK _ _ ?_
   clear hK K
   refine den_seq ?_
   refine den_seq ?_
   refine den_region TTok ?_
   intro K hK
   simp -implicitDefEqProofs (disch := first | decide | assumption | omega) only [go_sem, wrap_id, bD0]
   refine hK _ _ ?_
   clear hK K
   refine den_block ?_
   refine den_sel [7, 8, 9, 10, 2, 3, 4, 5, 6] ?_
   intro env_5
   simp only [go_sem]
   refine den_loopS (σ := Nat × Value × List Nat × Value × List Nat × Value × List Nat) (fun st_ => [(7, st_.2.1), (8, st_.2.2.2.1), (9, st_.2.2.2.2.2.1), (10, .int .i64 (st_.1 : Int))]) (fun st_ H => (st_.1 ≤ Y.dims.length) ∧ (O1 H st_.2.1 ((List.range st_.1).map fun q : Nat => X.dims.getD i 0 * Y.dims.getD q 0) st_.2.2.1) ∧ (Fresh (h4.size) st_.2.2.1) ∧ (Sub ([h4.size] ++ ([h5_0.size] ++ ([h5_1.size]))) h5_2.size st_.2.2.1) ∧ (O3 H st_.2.2.2.1 ((List.range st_.1).map fun q : Nat => spT true X.p 1 (mapP X (i : Int)) (X.dims.getD i 0) (dimP X ((i : Int) - 1)) (Y.dims.getD q 0)) st_.2.2.2.2.1) ∧ (Fresh (h5_0.size) st_.2.2.2.2.1) ∧ (Sub ([h4.size] ++ ([h5_0.size] ++ ([h5_1.size]))) h5_2.size st_.2.2.2.2.1) ∧ (O3 H st_.2.2.2.2.2.1 ((List.range st_.1).map fun q : Nat => spT false X.p (1 - 2 * Int.tmod (i : Int) 2) (mapP Y (q : Int)) (Y.dims.getD q 0) (dimP Y ((q : Int) - 1)) (X.dims.getD i 0)) st_.2.2.2.2.2.2) ∧ (Fresh (h5_1.size) st_.2.2.2.2.2.2) ∧ (Sub ([h4.size] ++ ([h5_0.size] ++ ([h5_1.size]))) h5_2.size st_.2.2.2.2.2.2) ∧ (Apart st_.2.2.1 st_.2.2.2.2.1) ∧ (Apart st_.2.2.1 st_.2.2.2.2.2.2) ∧ (Apart st_.2.2.2.2.1 st_.2.2.2.2.2.2) ∧ (Chg ([h4.size] ++ ([h5_0.size] ++ ([h5_1.size]))) h5_2 H)) (fun st_ => Y.dims.length - st_.1) (0, v5_0, [h4.size], v5_1, [h5_0.size], v5_2, [h5_1.size]) ?_ ?_
   ·exact ⟨by first | (simp; done) | (dsimp only; omega) | (simp; omega), by simpa using ho5_0, hfho5_0, (Sub.left Sub.refl), by simpa using ho5_1, hfho5_1, (Sub.right (Sub.left Sub.refl)), by simpa using ho5_2, hfho5_2, (Sub.right (Sub.right Sub.refl)), (apart_lt hlho5_0 hfho5_1 (by omega)), (apart_lt hlho5_0 hfho5_2 (by omega)), (apart_lt hlho5_1 hfho5_2 (by omega)), Chg.refl _ _⟩
   ·rintro ⟨j, vhE, fphE, vhF, fphF, vhG, fphG⟩ h8 ee7 ⟨hi0, hE, hfhE, sbhE, hF, hfhF, sbhF, hG, hfhG, sbhG, ap_hE_hF, ap_hE_hG, ap_hF_hG, cL6⟩
    dsimp only at hi0 hE hfhE sbhE hF hfhF sbhF hG hfhG sbhG ap_hE_hF ap_hE_hG ap_hF_hG cL6
    replace hD := OS.chg hD cL6 (Apart.app (apart_lt hlhD hfho5_0 (by omega)) (Apart.app (apart_lt hlhD hfho5_1 (by omega)) (apart_lt hlhD hfho5_2 (by omega))))
    replace hA := OS.chg hA cL6 (Apart.app (apart_lt hlhA hfho5_0 (by omega)) (Apart.app (apart_lt hlhA hfho5_1 (by omega)) (apart_lt hlhA hfho5_2 (by omega))))
    replace hB := OS.chg hB cL6 (Apart.app (apart_lt hlhB hfho5_0 (by omega)) (Apart.app (apart_lt hlhB hfho5_1 (by omega)) (apart_lt hlhB hfho5_2 (by omega))))
    replace hb0_0 := BoxAt.chgA hb0_0 cL6 (Apart.app (apart_lt hlhb0_0 hfho5_0 (by omega)) (Apart.app (apart_lt hlhb0_0 hfho5_1 (by omega)) (apart_lt hlhb0_0 hfho5_2 (by omega))))
    replace hb0_1 := BoxAt.chgA hb0_1 cL6 (Apart.app (apart_lt hlhb0_1 hfho5_0 (by omega)) (Apart.app (apart_lt hlhb0_1 hfho5_1 (by omega)) (apart_lt hlhb0_1 hfho5_2 (by omega))))
    replace hb0_2 := BoxAt.chgA hb0_2 cL6 (Apart.app (apart_lt hlhb0_2 hfho5_0 (by omega)) (Apart.app (apart_lt hlhb0_2 hfho5_1 (by omega)) (apart_lt hlhb0_2 hfho5_2 (by omega))))
    replace hbx5 := BoxAt.chgA hbx5 cL6 (Apart.app (apart_lt hlhbx5 hfho5_0 (by omega)) (Apart.app (apart_lt hlhbx5 hfho5_1 (by omega)) (apart_lt hlhbx5 hfho5_2 (by omega))))
    have := cL6.size
    replace eB := Ext.then eB cL6 (ge_app (ge_of hfho5_0 (by omega)) (ge_app (ge_of hfho5_1 (by omega)) (ge_of hfho5_2 (by omega))))
    replace cL2 := Chg.step cL2 cL6 (Sub.app (Sub.fresh hfho5_0 (by omega)) (Sub.app (Sub.fresh hfho5_1 (by omega)) (Sub.fresh hfho5_2 (by omega))))
    have hlhE := OS.lt hE
    have hlhF := OS.lt hF
    have hlhG := OS.lt hG
    simp only [List.cons_append, List.nil_append]
    refine den_seq ?_
    refine den_seq ?_
    refine den_region TTok ?_
    intro K hK
    simp -implicitDefEqProofs (disch := first | decide | assumption | omega) only [go_sem, fa33_1, ld22, RdS.len hdY sl22, RdS.idx hdY sl22, R1.intB hdY (Ext.pres eB), RdS.cells hdY, RdS.len hmY sl23, RdS.idx hmY sl23, RdS.cellB hmY (Ext.pres eB), RdS.cells hmY, BoxAt.cell hb0_1, wrap_id, bD0]
    refine hK _ _ ?_
    clear hK K
    refine den_cond rfl (fun c1 => ?_) (fun c1 => ?_)
    ·try simp only [decide_eq_true_eq, decide_eq_false_iff_not, beq_iff_eq, beq_eq_false_iff_ne, bne_iff_ne, ne_eq, Bool.not_eq_true', Bool.not_eq_false', Bool.and_eq_true, Bool.or_eq_true, bne_eq_false_iff_eq] at c1
     refine den_skip ?_
     refine den_seq ?_
     refine den_block ?_
     refine den_seq ?_
     have hdi := dimsD_nat hX i
     have hdj := dimsD_nat hY j
     have hpd := mul8 hdi hdj
     have hdA := dimP_bnd hX ((i : Int) - 1)
     have hdB := dimP_bnd hY ((j : Int) - 1)
     
     refine den_draw TTok mixed [13] [(0, true), (1, true), (2, true), (3, true), (4, true), (5, true), (6, true), (7, true), (8, true), (9, true), (10, true), (11, true), (12, false), (13, false), (14, true)] (by kernel_rfl) ?_
     intro K hK
     simp -implicitDefEqProofs (disch := first | decide | assumption | omega) only [go_sem, fa33_1, ld22, ld2, RdS.len hdX sl22, RdS.idx hdX sl22, R1.intB hdX (Ext.pres eB), RdS.cells hdX, RdS.len hmX sl23, RdS.idx hmX sl23, RdS.cellB hmX (Ext.pres eB), RdS.cells hmX, RdS.len hdY sl22, RdS.idx hdY sl22, R1.intB hdY (Ext.pres eB), RdS.cells hdY, RdS.len hmY sl23, RdS.idx hmY sl23, RdS.cellB hmY (Ext.pres eB), RdS.cells hmY, RdS.len (OS.rd hE) sl22, RdS.idx (OS.rd hE) sl22, R1.intN (OS.rd hE), RdS.cells (OS.rd hE), BoxAt.cell hb0_0, BoxAt.cell hb0_1, wrap_id, bD0]
     refine op_bs1 sz22 rfl rfl ?_
     try simp (disch := decide) only [outv_some, outv_none, put_puts]
     refine plK_pres (Ext.pres (Ext.push _ _)) ?_
     try simp -implicitDefEqProofs (disch := first | decide | assumption | omega) only [go_sem, BoxAt.cell hb0_2, wrap_id, bD0]
     refine op_append1 sz22 hE hfhE.nodup ⟨rfl, rfl⟩ List.nodup_nil (Apart.nil _) (by first | omega | (simp; omega)) rfl rfl ?_
     intro v9_13 h9_13 fp9_13 ho9_13 hn9_13 hs9_13 c9_13
     have hsz9_13 := c9_13.size
     have hfho9_13 : Fresh h4.size fp9_13 := Fresh.appd hfhE (Fresh.nil h8.size) (by omega) (by omega) hn9_13 hs9_13
     have sb9 : Sub ([h4.size] ++ ([h5_0.size] ++ ([h5_1.size]))) h5_2.size fp9_13 := Sub.grow sbhE Sub.nil (by omega) hs9_13
     replace hD := OS.chg hD c9_13 (apart_lt hlhD hfhE (by omega))
     replace hA := OS.chg hA c9_13 (apart_lt hlhA hfhE (by omega))
     replace hB := OS.chg hB c9_13 (apart_lt hlhB hfhE (by omega))
     replace hF := OS.chg hF c9_13 (Apart.symm ap_hE_hF)
     replace hG := OS.chg hG c9_13 (Apart.symm ap_hE_hG)
     replace hb0_0 := BoxAt.chgA hb0_0 c9_13 (apart_lt hlhb0_0 hfhE (by omega))
     replace hb0_1 := BoxAt.chgA hb0_1 c9_13 (apart_lt hlhb0_1 hfhE (by omega))
     replace hb0_2 := BoxAt.chgA hb0_2 c9_13 (apart_lt hlhb0_2 hfhE (by omega))
     replace hbx5 := BoxAt.chgA hbx5 c9_13 (apart_lt hlhbx5 hfhE (by omega))
     have := c9_13.size
     replace eB := Ext.then eB c9_13 (ge_of hfhE (by omega))
     replace cL2 := Chg.step cL2 c9_13 (Sub.fresh hfhE (by omega))
     replace cL6 := Chg.step cL6 c9_13 sbhE
     have ap10 : Apart fphF fp9_13 := Apart.grow hlhF (by omega) (Apart.symm ap_hE_hF) (Apart.nil _) hs9_13
     have ap11 : Apart fphG fp9_13 := Apart.grow hlhG (by omega) (Apart.symm ap_hE_hG) (Apart.nil _) hs9_13
     have hlho9_13 := OS.lt ho9_13
     try simp (disch := decide) only [outv_some, outv_none, put_puts]
     refine plK_last (by decide) ?_
     try simp -implicitDefEqProofs (disch := first | decide | assumption | omega) only [go_sem, RdS.len (OS.rd ho9_13) sl22, RdS.idx (OS.rd ho9_13) sl22, R1.intN (OS.rd ho9_13), RdS.cells (OS.rd ho9_13), wrap_id, bD0]
     refine hK _ _ ?_
     clear hK K
     refine den_seq ?_
     have hdi := dimsD_nat hX i
     have hdj := dimsD_nat hY j
     have hpd := mul8 hdi hdj
     have hdA := dimP_bnd hX ((i : Int) - 1)
     have hdB := dimP_bnd hY ((j : Int) - 1)
     have hRW := rw_map hX (i := i) (by omega)
     refine den_draw TTok mixed [22] [(0, true), (1, true), (2, true), (3, true), (4, true), (6, true), (7, true), (8, true), (9, true), (10, true), (11, true), (12, true), (13, true), (15, true), (16, true), (17, true), (18, true), (19, true), (5, false), (14, false), (20, false), (21, false), (22, false), (23, true)] (by kernel_rfl) ?_
     intro K hK
     simp -implicitDefEqProofs (disch := first | decide | assumption | omega) only [go_sem, fa33_0, fa33_1, ld22, ld2, ld33, RdS.len hdX sl22, RdS.idx hdX sl22, R1.intB hdX (Ext.pres eB), RdS.cells hdX, RdS.len hmX sl23, RdS.idx hmX sl23, RdS.cellB hmX (Ext.pres eB), RdS.cells hmX, RdS.len hdY sl22, RdS.idx hdY sl22, R1.intB hdY (Ext.pres eB), RdS.cells hdY, RdS.len hmY sl23, RdS.idx hmY sl23, RdS.cellB hmY (Ext.pres eB), RdS.cells hmY, RdS.len (OS.rd hF) sl23, RdS.idx (OS.rd hF) sl23, RdS.cellN (OS.rd hF), RdS.cells (OS.rd hF), BoxAt.cell hb0_0, BoxAt.cell hb0_1, wrap_id, bD0]
     try simp -implicitDefEqProofs (disch := first | decide | assumption | omega) only [go_sem, BoxAt.cell hb0_2, wrap_id, bD0]
     refine CallA.mono (sMap_ok _ X (i : Int) _ ⟨_, _, rfl, (RdS.pres hdX (Ext.pres eB)), (RdS.pres hmX (Ext.pres eB))⟩ hX) ?_
     intro vw10_5_0 h10_5
     rintro ⟨zvw10_5_0, rfl, hrw10_5_0, e10_5⟩
     replace hD := OS.ext hD e10_5
     replace hA := OS.ext hA e10_5
     replace hB := OS.ext hB e10_5
     replace hF := OS.ext hF e10_5
     replace hG := OS.ext hG e10_5
     replace ho9_13 := OS.ext ho9_13 e10_5
     replace hb0_0 := BoxAt.ext hb0_0 e10_5
     replace hb0_1 := BoxAt.ext hb0_1 e10_5
     replace hb0_2 := BoxAt.ext hb0_2 e10_5
     replace hbx5 := BoxAt.ext hbx5 e10_5
     have := Ext.size e10_5
     replace eB := Ext.trans eB e10_5
     replace cL2 := Chg.stepE cL2 e10_5
     replace cL6 := Chg.stepE cL6 e10_5
     have xrw10_5_0 := Ext.refl h10_5
     have hlrw10_5_0 := RdS.le hrw10_5_0
     try simp (disch := decide) only [outv_some, outv_none, put_puts]
     refine plK_pres (Ext.pres e10_5) ?_
     try simp -implicitDefEqProofs (disch := first | decide | assumption | omega) only [go_sem, BoxAt.cell hb0_2, wrap_id, bD0]
     try simp -implicitDefEqProofs (disch := first | decide | assumption | omega) only [go_sem, BoxAt.cell hb0_2, wrap_id, bD0]
     refine CallA.mono (sDim_ok _ X _ _ ⟨_, _, rfl, (RdS.pres hdX (Ext.pres eB)), (RdS.pres hmX (Ext.pres eB))⟩) ?_
     intro v_ h10_14
     rintro ⟨rfl, e10_14⟩
     replace hD := OS.ext hD e10_14
     replace hA := OS.ext hA e10_14
     replace hB := OS.ext hB e10_14
     replace hF := OS.ext hF e10_14
     replace hG := OS.ext hG e10_14
     replace ho9_13 := OS.ext ho9_13 e10_14
     replace hb0_0 := BoxAt.ext hb0_0 e10_14
     replace hb0_1 := BoxAt.ext hb0_1 e10_14
     replace hb0_2 := BoxAt.ext hb0_2 e10_14
     replace hbx5 := BoxAt.ext hbx5 e10_14
     have := Ext.size e10_14
     replace eB := Ext.trans eB e10_14
     replace xrw10_5_0 := Ext.trans xrw10_5_0 e10_14
     replace cL2 := Chg.stepE cL2 e10_14
     replace cL6 := Chg.stepE cL6 e10_14
     try simp (disch := decide) only [outv_some, outv_none, put_puts]
     refine plK_pres (Ext.pres e10_14) ?_
     try simp -implicitDefEqProofs (disch := first | decide | assumption | omega) only [go_sem, BoxAt.cell hb0_2, wrap_id, bD0]
     try simp -implicitDefEqProofs (disch := first | decide | assumption | omega) only [go_sem, BoxAt.cell hb0_2, wrap_id, bD0]
     refine CallA.mono (sSpr_ok _ X.p (mapP X (i : Int)) ((X.dims).getD i 0) (dimP X ((i : Int) - (1 : Int))) ((Y.dims).getD j 0) true (1 : Int) _ (RdS.pres hrw10_5_0 (Ext.pres xrw10_5_0)) (by omega) (by omega) (by omega) (by omega) (by omega) (by assumption)) ?_
     intro vw10_20_0 h10_20
     rintro ⟨zvw10_20_0, fw10_20_0, rfl, how10_20_0, hfw10_20_0, e10_20⟩
     replace hD := OS.ext hD e10_20
     replace hA := OS.ext hA e10_20
     replace hB := OS.ext hB e10_20
     replace hF := OS.ext hF e10_20
     replace hG := OS.ext hG e10_20
     replace ho9_13 := OS.ext ho9_13 e10_20
     replace hb0_0 := BoxAt.ext hb0_0 e10_20
     replace hb0_1 := BoxAt.ext hb0_1 e10_20
     replace hb0_2 := BoxAt.ext hb0_2 e10_20
     replace hbx5 := BoxAt.ext hbx5 e10_20
     have := Ext.size e10_20
     replace eB := Ext.trans eB e10_20
     replace xrw10_5_0 := Ext.trans xrw10_5_0 e10_20
     replace cL2 := Chg.stepE cL2 e10_20
     replace cL6 := Chg.stepE cL6 e10_20
     have hlhow10_20_0 := OS.lt how10_20_0
     try simp (disch := decide) only [outv_some, outv_none, put_puts]
     refine plK_pres (Ext.pres e10_20) ?_
     try simp -implicitDefEqProofs (disch := first | decide | assumption | omega) only [go_sem, BoxAt.cell hb0_2, wrap_id, bD0]
     refine op_bs1 sz23 rfl (OS.one how10_20_0).2 ?_
     try simp (disch := decide) only [outv_some, outv_none, put_puts]
     refine plK_pres (Ext.pres (Ext.push _ _)) ?_
     try simp -implicitDefEqProofs (disch := first | decide | assumption | omega) only [go_sem, BoxAt.cell hb0_2, wrap_id, bD0]
     refine op_append1 sz23 hF hfhF.nodup how10_20_0 hfw10_20_0.nodup (apart_lt hlhF hfw10_20_0 (by omega)) (by first | omega | (simp; omega)) rfl rfl ?_
     intro v10_22 h10_22 fp10_22 ho10_22 hn10_22 hs10_22 c10_22
     have hsz10_22 := c10_22.size
     have hfho10_22 : Fresh h5_0.size fp10_22 := Fresh.appd hfhF hfw10_20_0 (by omega) (by omega) hn10_22 hs10_22
     have sb12 : Sub ([h4.size] ++ ([h5_0.size] ++ ([h5_1.size]))) h5_2.size fp10_22 := Sub.grow sbhF (Sub.fresh hfw10_20_0 (by omega)) (by omega) hs10_22
     replace hD := OS.chg hD c10_22 (apart_lt hlhD hfhF (by omega))
     replace hA := OS.chg hA c10_22 (apart_lt hlhA hfhF (by omega))
     replace hB := OS.chg hB c10_22 (apart_lt hlhB hfhF (by omega))
     replace hG := OS.chg hG c10_22 (Apart.symm ap_hF_hG)
     replace ho9_13 := OS.chg ho9_13 c10_22 (Apart.symm ap10)
     replace hb0_0 := BoxAt.chgA hb0_0 c10_22 (apart_lt hlhb0_0 hfhF (by omega))
     replace hb0_1 := BoxAt.chgA hb0_1 c10_22 (apart_lt hlhb0_1 hfhF (by omega))
     replace hb0_2 := BoxAt.chgA hb0_2 c10_22 (apart_lt hlhb0_2 hfhF (by omega))
     replace hbx5 := BoxAt.chgA hbx5 c10_22 (apart_lt hlhbx5 hfhF (by omega))
     have := c10_22.size
     replace eB := Ext.then eB c10_22 (ge_of hfhF (by omega))
     replace cL2 := Chg.step cL2 c10_22 (Sub.fresh hfhF (by omega))
     replace cL6 := Chg.step cL6 c10_22 sbhF
     have ap13 : Apart fphG fp10_22 := Apart.grow hlhG (by omega) (Apart.symm ap_hF_hG) (apart_lt hlhG hfw10_20_0 (by omega)) hs10_22
     have ap14 : Apart fp9_13 fp10_22 := Apart.grow hlho9_13 (by omega) (Apart.symm ap10) (apart_lt hlho9_13 hfw10_20_0 (by omega)) hs10_22
     have hlho10_22 := OS.lt ho10_22
     try simp (disch := decide) only [outv_some, outv_none, put_puts]
     refine plK_last (by decide) ?_
     try simp -implicitDefEqProofs (disch := first | decide | assumption | omega) only [go_sem, RdS.len (OS.rd ho10_22) sl23, RdS.idx (OS.rd ho10_22) sl23, RdS.cellN (OS.rd ho10_22), RdS.cells (OS.rd ho10_22), wrap_id, bD0]
     refine hK _ _ ?_
     clear hK K
     have hdi := dimsD_nat hX i
     have hdj := dimsD_nat hY j
     have hpd := mul8 hdi hdj
     have hdA := dimP_bnd hX ((i : Int) - 1)
     have hdB := dimP_bnd hY ((j : Int) - 1)
     have hRW := rw_map hY (i := j) (by omega)
     rw [← hpp] at hRW
     have hsg := tm2_ (i : Int) (by omega)
     refine den_draw TTok mixed [26] [(0, true), (1, true), (2, true), (3, true), (4, true), (6, true), (7, true), (8, true), (9, true), (10, true), (11, true), (12, true), (13, true), (15, true), (16, true), (17, true), (18, true), (19, true), (20, true), (21, true), (22, true), (23, true), (5, false), (14, false), (24, false), (25, false), (26, false), (27, true)] (by kernel_rfl) ?_
     intro K hK
     simp -implicitDefEqProofs (disch := first | decide | assumption | omega) only [go_sem, fa33_0, fa33_1, ld22, ld2, ld33, RdS.len hdX sl22, RdS.idx hdX sl22, R1.intB hdX (Ext.pres eB), RdS.cells hdX, RdS.len hmX sl23, RdS.idx hmX sl23, RdS.cellB hmX (Ext.pres eB), RdS.cells hmX, RdS.len hdY sl22, RdS.idx hdY sl22, R1.intB hdY (Ext.pres eB), RdS.cells hdY, RdS.len hmY sl23, RdS.idx hmY sl23, RdS.cellB hmY (Ext.pres eB), RdS.cells hmY, RdS.len (OS.rd hG) sl23, RdS.idx (OS.rd hG) sl23, RdS.cellN (OS.rd hG), RdS.cells (OS.rd hG), BoxAt.cell hb0_0, BoxAt.cell hb0_1, wrap_id, bD0]
     try simp -implicitDefEqProofs (disch := first | decide | assumption | omega) only [go_sem, BoxAt.cell hb0_2, wrap_id, bD0]
     refine CallA.mono (sMap_ok _ Y (j : Int) _ ⟨_, _, rfl, (RdS.pres hdY (Ext.pres eB)), (RdS.pres hmY (Ext.pres eB))⟩ hY) ?_
     intro vw11_5_0 h11_5
     rintro ⟨zvw11_5_0, rfl, hrw11_5_0, e11_5⟩
     replace hD := OS.ext hD e11_5
     replace hA := OS.ext hA e11_5
     replace hB := OS.ext hB e11_5
     replace hG := OS.ext hG e11_5
     replace ho9_13 := OS.ext ho9_13 e11_5
     replace ho10_22 := OS.ext ho10_22 e11_5
     replace hb0_0 := BoxAt.ext hb0_0 e11_5
     replace hb0_1 := BoxAt.ext hb0_1 e11_5
     replace hb0_2 := BoxAt.ext hb0_2 e11_5
     replace hbx5 := BoxAt.ext hbx5 e11_5
     have := Ext.size e11_5
     replace eB := Ext.trans eB e11_5
     replace cL2 := Chg.stepE cL2 e11_5
     replace cL6 := Chg.stepE cL6 e11_5
     have xrw11_5_0 := Ext.refl h11_5
     have hlrw11_5_0 := RdS.le hrw11_5_0
     try simp (disch := decide) only [outv_some, outv_none, put_puts]
     refine plK_pres (Ext.pres e11_5) ?_
     try simp -implicitDefEqProofs (disch := first | decide | assumption | omega) only [go_sem, BoxAt.cell hb0_2, wrap_id, bD0]
     try simp -implicitDefEqProofs (disch := first | decide | assumption | omega) only [go_sem, BoxAt.cell hb0_2, wrap_id, bD0]
     refine CallA.mono (sDim_ok _ Y _ _ ⟨_, _, rfl, (RdS.pres hdY (Ext.pres eB)), (RdS.pres hmY (Ext.pres eB))⟩) ?_
     intro v_ h11_14
     rintro ⟨rfl, e11_14⟩
     replace hD := OS.ext hD e11_14
     replace hA := OS.ext hA e11_14
     replace hB := OS.ext hB e11_14
     replace hG := OS.ext hG e11_14
     replace ho9_13 := OS.ext ho9_13 e11_14
     replace ho10_22 := OS.ext ho10_22 e11_14
     replace hb0_0 := BoxAt.ext hb0_0 e11_14
     replace hb0_1 := BoxAt.ext hb0_1 e11_14
     replace hb0_2 := BoxAt.ext hb0_2 e11_14
     replace hbx5 := BoxAt.ext hbx5 e11_14
     have := Ext.size e11_14
     replace eB := Ext.trans eB e11_14
     replace xrw11_5_0 := Ext.trans xrw11_5_0 e11_14
     replace cL2 := Chg.stepE cL2 e11_14
     replace cL6 := Chg.stepE cL6 e11_14
     try simp (disch := decide) only [outv_some, outv_none, put_puts]
     refine plK_pres (Ext.pres e11_14) ?_
     try simp -implicitDefEqProofs (disch := first | decide | assumption | omega) only [go_sem, BoxAt.cell hb0_2, wrap_id, bD0]
     try simp -implicitDefEqProofs (disch := first | decide | assumption | omega) only [go_sem, BoxAt.cell hb0_2, wrap_id, bD0]
     refine CallA.mono (sSpr_ok _ X.p (mapP Y (j : Int)) ((Y.dims).getD j 0) (dimP Y ((j : Int) - (1 : Int))) ((X.dims).getD i 0) false ((1 : Int) - ((2 : Int) * (Int.tmod (i : Int) (2 : Int)))) _ (RdS.pres hrw11_5_0 (Ext.pres xrw11_5_0)) (by omega) (by omega) (by omega) (by omega) (by omega) (by assumption)) ?_
     intro vw11_24_0 h11_24
     rintro ⟨zvw11_24_0, fw11_24_0, rfl, how11_24_0, hfw11_24_0, e11_24⟩
     replace hD := OS.ext hD e11_24
     replace hA := OS.ext hA e11_24
     replace hB := OS.ext hB e11_24
     replace hG := OS.ext hG e11_24
     replace ho9_13 := OS.ext ho9_13 e11_24
     replace ho10_22 := OS.ext ho10_22 e11_24
     replace hb0_0 := BoxAt.ext hb0_0 e11_24
     replace hb0_1 := BoxAt.ext hb0_1 e11_24
     replace hb0_2 := BoxAt.ext hb0_2 e11_24
     replace hbx5 := BoxAt.ext hbx5 e11_24
     have := Ext.size e11_24
     replace eB := Ext.trans eB e11_24
     replace xrw11_5_0 := Ext.trans xrw11_5_0 e11_24
     replace cL2 := Chg.stepE cL2 e11_24
     replace cL6 := Chg.stepE cL6 e11_24
     have hlhow11_24_0 := OS.lt how11_24_0
     try simp (disch := decide) only [outv_some, outv_none, put_puts]
     refine plK_pres (Ext.pres e11_24) ?_
     try simp -implicitDefEqProofs (disch := first | decide | assumption | omega) only [go_sem, BoxAt.cell hb0_2, wrap_id, bD0]
     refine op_bs1 sz23 rfl (OS.one how11_24_0).2 ?_
     try simp (disch := decide) only [outv_some, outv_none, put_puts]
     refine plK_pres (Ext.pres (Ext.push _ _)) ?_
     try simp -implicitDefEqProofs (disch := first | decide | assumption | omega) only [go_sem, BoxAt.cell hb0_2, wrap_id, bD0]
     refine op_append1 sz23 hG hfhG.nodup how11_24_0 hfw11_24_0.nodup (apart_lt hlhG hfw11_24_0 (by omega)) (by first | omega | (simp; omega)) rfl rfl ?_
     intro v11_26 h11_26 fp11_26 ho11_26 hn11_26 hs11_26 c11_26
     have hsz11_26 := c11_26.size
     have hfho11_26 : Fresh h5_1.size fp11_26 := Fresh.appd hfhG hfw11_24_0 (by omega) (by omega) hn11_26 hs11_26
     have sb15 : Sub ([h4.size] ++ ([h5_0.size] ++ ([h5_1.size]))) h5_2.size fp11_26 := Sub.grow sbhG (Sub.fresh hfw11_24_0 (by omega)) (by omega) hs11_26
     replace hD := OS.chg hD c11_26 (apart_lt hlhD hfhG (by omega))
     replace hA := OS.chg hA c11_26 (apart_lt hlhA hfhG (by omega))
     replace hB := OS.chg hB c11_26 (apart_lt hlhB hfhG (by omega))
     replace ho9_13 := OS.chg ho9_13 c11_26 (Apart.symm ap11)
     replace ho10_22 := OS.chg ho10_22 c11_26 (Apart.symm ap13)
     replace hb0_0 := BoxAt.chgA hb0_0 c11_26 (apart_lt hlhb0_0 hfhG (by omega))
     replace hb0_1 := BoxAt.chgA hb0_1 c11_26 (apart_lt hlhb0_1 hfhG (by omega))
     replace hb0_2 := BoxAt.chgA hb0_2 c11_26 (apart_lt hlhb0_2 hfhG (by omega))
     replace hbx5 := BoxAt.chgA hbx5 c11_26 (apart_lt hlhbx5 hfhG (by omega))
     have := c11_26.size
     replace eB := Ext.then eB c11_26 (ge_of hfhG (by omega))
     replace cL2 := Chg.step cL2 c11_26 (Sub.fresh hfhG (by omega))
     replace cL6 := Chg.step cL6 c11_26 sbhG
     have ap16 : Apart fp9_13 fp11_26 := Apart.grow hlho9_13 (by omega) (Apart.symm ap11) (apart_lt hlho9_13 hfw11_24_0 (by omega)) hs11_26
     have ap17 : Apart fp10_22 fp11_26 := Apart.grow hlho10_22 (by omega) (Apart.symm ap13) (apart_lt hlho10_22 hfw11_24_0 (by omega)) hs11_26
     have hlho11_26 := OS.lt ho11_26
     try simp (disch := decide) only [outv_some, outv_none, put_puts]
     refine plK_last (by decide) ?_
     try simp -implicitDefEqProofs (disch := first | decide | assumption | omega) only [go_sem, RdS.len (OS.rd ho11_26) sl23, RdS.idx (OS.rd ho11_26) sl23, RdS.cellN (OS.rd ho11_26), RdS.cells (OS.rd ho11_26), wrap_id, bD0]
     refine hK _ _ ?_
     clear hK K
     refine den_blk ?_
     refine den_region TTok ?_
     intro K hK
     simp -implicitDefEqProofs (disch := first | decide | assumption | omega) only [go_sem, wrap_id, bD0]
     refine hK _ _ ?_
     clear hK K
     refine den_stop ?_
     rw [range_step (fun q : Nat => X.dims.getD i 0 * Y.dims.getD q 0)] at ho9_13
     rw [range_step (fun q : Nat => spT true X.p 1 (mapP X (i : Int)) (X.dims.getD i 0) (dimP X ((i : Int) - 1)) (Y.dims.getD q 0))] at ho10_22
     rw [range_step (fun q : Nat => spT false X.p (1 - 2 * Int.tmod (i : Int) 2) (mapP Y (q : Int)) (Y.dims.getD q 0) (dimP Y ((q : Int) - 1)) (X.dims.getD i 0))] at ho11_26
     exact ⟨(j + 1, v9_13, fp9_13, v10_22, fp10_22, v11_26, fp11_26), by simp [HasL, puts_at], ⟨by first | omega | (dsimp only; omega), ho9_13, hfho9_13, sb9, ho10_22, hfho10_22, sb12, ho11_26, hfho11_26, sb15, ap14, ap16, ap17, cL6⟩, by first | omega | (dsimp only; omega)⟩
    ·try simp only [decide_eq_true_eq, decide_eq_false_iff_not, beq_iff_eq, beq_eq_false_iff_ne, bne_iff_ne, ne_eq, Bool.not_eq_true', Bool.not_eq_false', Bool.and_eq_true, Bool.or_eq_true, bne_eq_false_iff_eq] at c1
     refine den_exit ?_
     refine denX_code ?_
     refine denX_stop ?_
     refine denX_hit ?_
     refine den_seq ?_
     refine den_region TTok ?_
     intro K hK
     simp -implicitDefEqProofs (disch := first | decide | assumption | omega) only [go_sem, fa30_1, ld27, RdS.len (OS.rd hD) sl27, RdS.idx (OS.rd hD) sl27, RdS.cellN (OS.rd hD), RdS.cells (OS.rd hD), RdS.len (OS.rd hA) sl28, RdS.idx (OS.rd hA) sl28, RdS.cellN (OS.rd hA), RdS.cells (OS.rd hA), RdS.len (OS.rd hB) sl28, RdS.idx (OS.rd hB) sl28, RdS.cellN (OS.rd hB), RdS.cells (OS.rd hB), RdS.len (OS.rd hE) sl22, RdS.idx (OS.rd hE) sl22, R1.intN (OS.rd hE), RdS.cells (OS.rd hE), BoxAt.cell hbx5, wrap_id, bD0]
     refine op_bs1 sz27 rfl (OS.one hE).2 ?_
     try simp -implicitDefEqProofs (disch := first | decide | assumption | omega) only [go_sem, BoxAt.cell hb0_2, wrap_id, bD0]
     refine op_append1 sz27 hD hfhD.nodup hE hfhE.nodup (apart_lt hlhD hfhE (by omega)) (by first | omega | (simp; omega)) rfl rfl ?_
     intro v12_4 h12_4 fp12_4 ho12_4 hn12_4 hs12_4 c12_4
     have hsz12_4 := c12_4.size
     have hfho12_4 : Fresh h0_2.size fp12_4 := Fresh.appd hfhD hfhE (by omega) (by omega) hn12_4 hs12_4
     have sb18 : Sub ([h0_2.size] ++ ([h1_2.size] ++ ([h1_3.size] ++ ([h1_4.size])))) h1_7.size fp12_4 := Sub.grow sbhD (Sub.fresh hfhE (by omega)) (by omega) hs12_4
     replace hA := OS.chg hA c12_4 (Apart.symm ap_hD_hA)
     replace hB := OS.chg hB c12_4 (Apart.symm ap_hD_hB)
     replace hF := OS.chg hF c12_4 (apart_gt hfhF hlhD (by omega))
     replace hG := OS.chg hG c12_4 (apart_gt hfhG hlhD (by omega))
     replace hb0_0 := BoxAt.chgA hb0_0 c12_4 (apart_lt hlhb0_0 hfhD (by omega))
     replace hb0_1 := BoxAt.chgA hb0_1 c12_4 (apart_lt hlhb0_1 hfhD (by omega))
     replace hb0_2 := BoxAt.chgA hb0_2 c12_4 (apart_lt hlhb0_2 hfhD (by omega))
     replace hbx5 := BoxAt.chgA hbx5 c12_4 (Apart.symm ap_hD_hbx5)
     have := c12_4.size
     replace eB := Ext.then eB c12_4 (ge_of hfhD (by omega))
     replace cL2 := Chg.step cL2 c12_4 sbhD
     have ap19 : Apart fphA fp12_4 := Apart.grow hlhA (by omega) (Apart.symm ap_hD_hA) (apart_lt hlhA hfhE (by omega)) hs12_4
     have ap20 : Apart fphB fp12_4 := Apart.grow hlhB (by omega) (Apart.symm ap_hD_hB) (apart_lt hlhB hfhE (by omega)) hs12_4
     have ap21 : Apart fphF fp12_4 := Apart.grow hlhF (by omega) (apart_gt hfhF hlhD (by omega)) (Apart.symm ap_hE_hF) hs12_4
     have ap22 : Apart fphG fp12_4 := Apart.grow hlhG (by omega) (apart_gt hfhG hlhD (by omega)) (Apart.symm ap_hE_hG) hs12_4
     have ap23 : Apart [h1_4.size] fp12_4 := Apart.grow hlhbx5 (by omega) (Apart.symm ap_hD_hbx5) (apart_lt hlhbx5 hfhE (by omega)) hs12_4
     have hlho12_4 := OS.lt ho12_4
     try simp -implicitDefEqProofs (disch := first | decide | assumption | omega) only [go_sem, fa30_1, RdS.len (OS.rd hA) sl28, RdS.idx (OS.rd hA) sl28, RdS.cellN (OS.rd hA), RdS.cells (OS.rd hA), RdS.len (OS.rd hB) sl28, RdS.idx (OS.rd hB) sl28, RdS.cellN (OS.rd hB), RdS.cells (OS.rd hB), BoxAt.cell hbx5, wrap_id, bD0]
     refine op_storeB (cs' := #[.int .i64 (X.p), v12_4, vhA, vhB]) st27 hbx5 rfl (OS.one ho12_4).2 rfl (by simp) (allOne_mem (l := [v12_4]) ⟨(OS.one ho12_4).1, trivial⟩) rfl ?_
     intro h12_6 hbx5 c12_6
     replace hA := OS.chg hA c12_6 ap_hA_hbx5
     replace hB := OS.chg hB c12_6 ap_hB_hbx5
     replace hF := OS.chg hF c12_6 (apart_gt hfhF hlhbx5 (by omega))
     replace hG := OS.chg hG c12_6 (apart_gt hfhG hlhbx5 (by omega))
     replace ho12_4 := OS.chg ho12_4 c12_6 (Apart.symm ap23)
     replace hb0_0 := BoxAt.chgA hb0_0 c12_6 (apart_lt hlhb0_0 hfhbx5 (by omega))
     replace hb0_1 := BoxAt.chgA hb0_1 c12_6 (apart_lt hlhb0_1 hfhbx5 (by omega))
     replace hb0_2 := BoxAt.chgA hb0_2 c12_6 (apart_lt hlhb0_2 hfhbx5 (by omega))
     have := c12_6.size
     replace eB := Ext.then eB c12_6 (ge_of hfhbx5 (by omega))
     replace cL2 := Chg.step cL2 c12_6 (Sub.right (Sub.right (Sub.right Sub.refl)))
     try simp -implicitDefEqProofs (disch := first | decide | assumption | omega) only [go_sem, BoxAt.cell hb0_2, wrap_id, bD0]
     refine hK _ _ ?_
     clear hK K
     refine den_seq ?_
     refine den_region TTok ?_
     intro K hK
     simp -implicitDefEqProofs (disch := first | decide | assumption | omega) only [go_sem, fa30_2, ld28, RdS.len (OS.rd hA) sl28, RdS.idx (OS.rd hA) sl28, RdS.cellN (OS.rd hA), RdS.cells (OS.rd hA), RdS.len (OS.rd hB) sl28, RdS.idx (OS.rd hB) sl28, RdS.cellN (OS.rd hB), RdS.cells (OS.rd hB), RdS.len (OS.rd hF) sl23, RdS.idx (OS.rd hF) sl23, RdS.cellN (OS.rd hF), RdS.cells (OS.rd hF), RdS.len (OS.rd ho12_4) sl27, RdS.idx (OS.rd ho12_4) sl27, RdS.cellN (OS.rd ho12_4), RdS.cells (OS.rd ho12_4), BoxAt.cell hbx5, wrap_id, bD0]
     refine op_bs1 sz28 rfl (OS.one hF).2 ?_
     try simp -implicitDefEqProofs (disch := first | decide | assumption | omega) only [go_sem, BoxAt.cell hb0_2, wrap_id, bD0]
     refine op_append1 sz28 hA hfhA.nodup hF hfhF.nodup (apart_lt hlhA hfhF (by omega)) (by first | omega | (simp; omega)) rfl rfl ?_
     intro v13_4 h13_4 fp13_4 ho13_4 hn13_4 hs13_4 c13_4
     have hsz13_4 := c13_4.size
     have hfho13_4 : Fresh h1_2.size fp13_4 := Fresh.appd hfhA hfhF (by omega) (by omega) hn13_4 hs13_4
     have sb24 : Sub ([h0_2.size] ++ ([h1_2.size] ++ ([h1_3.size] ++ ([h1_4.size])))) h1_7.size fp13_4 := Sub.grow sbhA (Sub.fresh hfhF (by omega)) (by omega) hs13_4
     replace hB := OS.chg hB c13_4 (Apart.symm ap_hA_hB)
     replace hG := OS.chg hG c13_4 (apart_gt hfhG hlhA (by omega))
     replace ho12_4 := OS.chg ho12_4 c13_4 (Apart.symm ap19)
     replace hb0_0 := BoxAt.chgA hb0_0 c13_4 (apart_lt hlhb0_0 hfhA (by omega))
     replace hb0_1 := BoxAt.chgA hb0_1 c13_4 (apart_lt hlhb0_1 hfhA (by omega))
     replace hb0_2 := BoxAt.chgA hb0_2 c13_4 (apart_lt hlhb0_2 hfhA (by omega))
     replace hbx5 := BoxAt.chgA hbx5 c13_4 (Apart.symm ap_hA_hbx5)
     have := c13_4.size
     replace eB := Ext.then eB c13_4 (ge_of hfhA (by omega))
     replace cL2 := Chg.step cL2 c13_4 sbhA
     have ap25 : Apart fphB fp13_4 := Apart.grow hlhB (by omega) (Apart.symm ap_hA_hB) (apart_lt hlhB hfhF (by omega)) hs13_4
     have ap26 : Apart fphG fp13_4 := Apart.grow hlhG (by omega) (apart_gt hfhG hlhA (by omega)) (Apart.symm ap_hF_hG) hs13_4
     have ap27 : Apart fp12_4 fp13_4 := Apart.grow hlho12_4 (by omega) (Apart.symm ap19) (Apart.symm ap21) hs13_4
     have ap28 : Apart [h1_4.size] fp13_4 := Apart.grow hlhbx5 (by omega) (Apart.symm ap_hA_hbx5) (apart_lt hlhbx5 hfhF (by omega)) hs13_4
     have hlho13_4 := OS.lt ho13_4
     try simp -implicitDefEqProofs (disch := first | decide | assumption | omega) only [go_sem, fa30_2, RdS.len (OS.rd hB) sl28, RdS.idx (OS.rd hB) sl28, RdS.cellN (OS.rd hB), RdS.cells (OS.rd hB), RdS.len (OS.rd ho12_4) sl27, RdS.idx (OS.rd ho12_4) sl27, RdS.cellN (OS.rd ho12_4), RdS.cells (OS.rd ho12_4), BoxAt.cell hbx5, wrap_id, bD0]
     refine op_storeB (cs' := #[.int .i64 (X.p), v12_4, v13_4, vhB]) st28 hbx5 rfl (OS.one ho13_4).2 rfl (by simp) (allOne_mem (l := [v13_4]) ⟨(OS.one ho13_4).1, trivial⟩) rfl ?_
     intro h13_6 hbx5 c13_6
     replace hB := OS.chg hB c13_6 ap_hB_hbx5
     replace hG := OS.chg hG c13_6 (apart_gt hfhG hlhbx5 (by omega))
     replace ho12_4 := OS.chg ho12_4 c13_6 (Apart.symm ap23)
     replace ho13_4 := OS.chg ho13_4 c13_6 (Apart.symm ap28)
     replace hb0_0 := BoxAt.chgA hb0_0 c13_6 (apart_lt hlhb0_0 hfhbx5 (by omega))
     replace hb0_1 := BoxAt.chgA hb0_1 c13_6 (apart_lt hlhb0_1 hfhbx5 (by omega))
     replace hb0_2 := BoxAt.chgA hb0_2 c13_6 (apart_lt hlhb0_2 hfhbx5 (by omega))
     have := c13_6.size
     replace eB := Ext.then eB c13_6 (ge_of hfhbx5 (by omega))
     replace cL2 := Chg.step cL2 c13_6 (Sub.right (Sub.right (Sub.right Sub.refl)))
     try simp -implicitDefEqProofs (disch := first | decide | assumption | omega) only [go_sem, BoxAt.cell hb0_2, wrap_id, bD0]
     refine hK _ _ ?_
     clear hK K
     refine den_region TTok ?_
     intro K hK
     simp -implicitDefEqProofs (disch := first | decide | assumption | omega) only [go_sem, fa30_3, ld28, RdS.len (OS.rd hB) sl28, RdS.idx (OS.rd hB) sl28, RdS.cellN (OS.rd hB), RdS.cells (OS.rd hB), RdS.len (OS.rd hG) sl23, RdS.idx (OS.rd hG) sl23, RdS.cellN (OS.rd hG), RdS.cells (OS.rd hG), RdS.len (OS.rd ho12_4) sl27, RdS.idx (OS.rd ho12_4) sl27, RdS.cellN (OS.rd ho12_4), RdS.cells (OS.rd ho12_4), RdS.len (OS.rd ho13_4) sl28, RdS.idx (OS.rd ho13_4) sl28, RdS.cellN (OS.rd ho13_4), RdS.cells (OS.rd ho13_4), BoxAt.cell hbx5, wrap_id, bD0]
     refine op_bs1 sz28 rfl (OS.one hG).2 ?_
     try simp -implicitDefEqProofs (disch := first | decide | assumption | omega) only [go_sem, BoxAt.cell hb0_2, wrap_id, bD0]
     refine op_append1 sz28 hB hfhB.nodup hG hfhG.nodup (apart_lt hlhB hfhG (by omega)) (by first | omega | (simp; omega)) rfl rfl ?_
     intro v14_4 h14_4 fp14_4 ho14_4 hn14_4 hs14_4 c14_4
     have hsz14_4 := c14_4.size
     have hfho14_4 : Fresh h1_3.size fp14_4 := Fresh.appd hfhB hfhG (by omega) (by omega) hn14_4 hs14_4
     have sb29 : Sub ([h0_2.size] ++ ([h1_2.size] ++ ([h1_3.size] ++ ([h1_4.size])))) h1_7.size fp14_4 := Sub.grow sbhB (Sub.fresh hfhG (by omega)) (by omega) hs14_4
     replace ho12_4 := OS.chg ho12_4 c14_4 (Apart.symm ap20)
     replace ho13_4 := OS.chg ho13_4 c14_4 (Apart.symm ap25)
     replace hb0_0 := BoxAt.chgA hb0_0 c14_4 (apart_lt hlhb0_0 hfhB (by omega))
     replace hb0_1 := BoxAt.chgA hb0_1 c14_4 (apart_lt hlhb0_1 hfhB (by omega))
     replace hb0_2 := BoxAt.chgA hb0_2 c14_4 (apart_lt hlhb0_2 hfhB (by omega))
     replace hbx5 := BoxAt.chgA hbx5 c14_4 (Apart.symm ap_hB_hbx5)
     have := c14_4.size
     replace eB := Ext.then eB c14_4 (ge_of hfhB (by omega))
     replace cL2 := Chg.step cL2 c14_4 sbhB
     have ap30 : Apart fp12_4 fp14_4 := Apart.grow hlho12_4 (by omega) (Apart.symm ap20) (Apart.symm ap22) hs14_4
     have ap31 : Apart fp13_4 fp14_4 := Apart.grow hlho13_4 (by omega) (Apart.symm ap25) (Apart.symm ap26) hs14_4
     have ap32 : Apart [h1_4.size] fp14_4 := Apart.grow hlhbx5 (by omega) (Apart.symm ap_hB_hbx5) (apart_lt hlhbx5 hfhG (by omega)) hs14_4
     have hlho14_4 := OS.lt ho14_4
     try simp -implicitDefEqProofs (disch := first | decide | assumption | omega) only [go_sem, fa30_3, RdS.len (OS.rd ho12_4) sl27, RdS.idx (OS.rd ho12_4) sl27, RdS.cellN (OS.rd ho12_4), RdS.cells (OS.rd ho12_4), RdS.len (OS.rd ho13_4) sl28, RdS.idx (OS.rd ho13_4) sl28, RdS.cellN (OS.rd ho13_4), RdS.cells (OS.rd ho13_4), BoxAt.cell hbx5, wrap_id, bD0]
     refine op_storeB (cs' := #[.int .i64 (X.p), v12_4, v13_4, v14_4]) st28 hbx5 rfl (OS.one ho14_4).2 rfl (by simp) (allOne_mem (l := [v14_4]) ⟨(OS.one ho14_4).1, trivial⟩) rfl ?_
     intro h14_6 hbx5 c14_6
     replace ho12_4 := OS.chg ho12_4 c14_6 (Apart.symm ap23)
     replace ho13_4 := OS.chg ho13_4 c14_6 (Apart.symm ap28)
     replace ho14_4 := OS.chg ho14_4 c14_6 (Apart.symm ap32)
     replace hb0_0 := BoxAt.chgA hb0_0 c14_6 (apart_lt hlhb0_0 hfhbx5 (by omega))
     replace hb0_1 := BoxAt.chgA hb0_1 c14_6 (apart_lt hlhb0_1 hfhbx5 (by omega))
     replace hb0_2 := BoxAt.chgA hb0_2 c14_6 (apart_lt hlhb0_2 hfhbx5 (by omega))
     have := c14_6.size
     replace eB := Ext.then eB c14_6 (ge_of hfhbx5 (by omega))
     replace cL2 := Chg.step cL2 c14_6 (Sub.right (Sub.right (Sub.right Sub.refl)))
     try simp -implicitDefEqProofs (disch := first | decide | assumption | omega) only [go_sem, BoxAt.cell hb0_2, wrap_id, bD0]
     refine hK _ _ ?_
     clear hK K
     refine den_blk ?_
     refine den_region TTok ?_
     intro K hK
     simp -implicitDefEqProofs (disch := first | decide | assumption | omega) only [go_sem, wrap_id, bD0]
     refine hK _ _ ?_
     clear hK K
     refine den_stop ?_
     have hjY : j = Y.dims.length := by omega
     subst hjY
     rw [pdD_step] at ho12_4
     rw [pdA_step] at ho13_4
     rw [pdB_step] at ho14_4
     exact ⟨(i + 1, v12_4, fp12_4, v13_4, fp13_4, v14_4, fp14_4), by simp [HasL, puts_at], ⟨by first | omega | (dsimp only; omega), ho12_4, hfho12_4, sb18, ho13_4, hfho13_4, sb24, ho14_4, hfho14_4, sb29, hbx5, ap27, ap30, (Apart.symm ap23), ap31, (Apart.symm ap28), (Apart.symm ap32), cL2⟩, by first | omega | (dsimp only; omega)⟩
  ·try simp only [decide_eq_true_eq, decide_eq_false_iff_not, beq_iff_eq, beq_eq_false_iff_ne, bne_iff_ne, ne_eq, Bool.not_eq_true', Bool.not_eq_false', Bool.and_eq_true, Bool.or_eq_true, bne_eq_false_iff_eq] at c0
   refine den_exit ?_
   refine denX_code ?_
   refine denX_stop ?_
   refine denX_hit ?_
   refine den_seq ?_
   refine den_region TTok ?_
   intro K hK
   simp -implicitDefEqProofs (disch := first | decide | assumption | omega) only [go_sem, ld30, RdS.len (OS.rd hD) sl27, RdS.idx (OS.rd hD) sl27, RdS.cellN (OS.rd hD), RdS.cells (OS.rd hD), RdS.len (OS.rd hA) sl28, RdS.idx (OS.rd hA) sl28, RdS.cellN (OS.rd hA), RdS.cells (OS.rd hA), RdS.len (OS.rd hB) sl28, RdS.idx (OS.rd hB) sl28, RdS.cellN (OS.rd hB), RdS.cells (OS.rd hB), BoxAt.cell hbx5, wrap_id, bD0]
   refine op_storeB (cs' := #[.int .i64 (X.p), vhD, vhA, vhB]) st30 hb0_2 rfl rfl rfl (by simp) (allOne_mem (l := [.int .i64 (X.p), vhD, vhA, vhB]) ⟨rfl, (OS.one hD).1, (OS.one hA).1, (OS.one hB).1, trivial⟩) rfl ?_
   intro h15_1 hb0_2 c15_1
   replace hD := OS.chg hD c15_1 (apart_gt hfhD hlhb0_2 (by omega))
   replace hA := OS.chg hA c15_1 (apart_gt hfhA hlhb0_2 (by omega))
   replace hB := OS.chg hB c15_1 (apart_gt hfhB hlhb0_2 (by omega))
   replace hbx5 := BoxAt.chgA hbx5 c15_1 (apart_gt hfhbx5 hlhb0_2 (by omega))
   have := c15_1.size
   replace eB := Ext.then eB c15_1 (ge_of hfhb0_2 (by omega))
   try simp -implicitDefEqProofs (disch := first | decide | assumption | omega) only [go_sem, RdS.len (OS.rd hD) sl27, RdS.idx (OS.rd hD) sl27, RdS.cellN (OS.rd hD), RdS.cells (OS.rd hD), RdS.len (OS.rd hA) sl28, RdS.idx (OS.rd hA) sl28, RdS.cellN (OS.rd hA), RdS.cells (OS.rd hA), RdS.len (OS.rd hB) sl28, RdS.idx (OS.rd hB) sl28, RdS.cellN (OS.rd hB), RdS.cells (OS.rd hB), BoxAt.cell hb0_2, wrap_id, bD0]
   refine hK _ _ ?_
   clear hK K
   refine den_ret ?_
   simp -implicitDefEqProofs (disch := first | decide | assumption | omega) only [go_sem, RdS.len (OS.rd hD) sl27, RdS.idx (OS.rd hD) sl27, RdS.cellN (OS.rd hD), RdS.cells (OS.rd hD), RdS.len (OS.rd hA) sl28, RdS.idx (OS.rd hA) sl28, RdS.cellN (OS.rd hA), RdS.cells (OS.rd hA), RdS.len (OS.rd hB) sl28, RdS.idx (OS.rd hB) sl28, RdS.cellN (OS.rd hB), RdS.cells (OS.rd hB), BoxAt.cell hb0_2, wrap_id, bD0, resP_c1, ld30]
   rw [show i = X.dims.length by omega] at hD hA hB
   exact ⟨_, _, _, _, _, _, rfl, hD, hA, hB, Fresh.two hfhD (Fresh.two hfhA hfhB ap_hA_hB (by omega) (by omega)) (Apart.app ap_hD_hA ap_hD_hB) (by omega) (by omega), eB⟩
end Go.Proofs.Ytkdnnfkdgmblgaa

namespace Go.Proofs.Ytkdnnfkdgmblgaa
open Go
theorem dimQ_bnd {D : List (List Int)} {W : Nat} (hW : ∀ r, r < D.length → (D.getD r default).length = W) (hdm : ∀ r c, r < D.length → c < W → 0 ≤ (D.getD r default).getD c 0 ∧ (D.getD r default).getD c 0 ≤ 100) (i j : Int) : 0 ≤ dimQ D i j ∧ dimQ D i j ≤ 100 := by
 unfold dimQ
 split
 ·rename_i h
  have h0 := hW 0 (by omega)
  exact hdm i.toNat j.toNat (by omega) (by omega)
 ·omega
/-- The tables that are blank at first. -/
def baF (D : List (List Int)) (W : Nat) : List (List (List (List Int))) := blF D W fun r c => dimQ D ((r : Int) - 1) (c : Int)
def bbF (D : List (List Int)) (W : Nat) : List (List (List (List Int))) := blF D W fun r c => dimQ D (r : Int) ((c : Int) - 1)

set_option maxRecDepth 100000 in
theorem iBlank_ok (p : Int) (vd : Value) (D : List (List Int)) (W : Nat) (h : Heap) (hd : R2 h vd D) (hDl : D.length ≤ 49) (hWb : W ≤ 49) (hW : ∀ r, r < D.length → (D.getD r default).length = W) (hdm : ∀ r c, r < D.length → c < W → 0 ≤ (D.getD r default).getD c 0 ∧ (D.getD r default).getD c 0 ≤ 100) : CallA Try.prog 20 #[.int .i64 p, vd] h fun v' h' => ∃ wa wb fa fb, v' = .agg #[.int .i64 p, vd, wa, wb] ∧ O4 h' wa (baF D W) fa ∧ O4 h' wb (bbF D W) fb ∧ Fresh h.size (fa ++ fb) ∧ Ext h h' := by
 have hle := RdS.le hd
 have hdS : ∃ A n c, vd = .slice A n c := by
  obtain ⟨A, c, e, _⟩ := hd
  exact ⟨_, _, _, e⟩
 refine callA_intro TTok (args := [_, _]) Try.func20 (by kernel_rfl) rfl 20 rfl (by simp) [.cell 4 30] rfl ?_
 simp only [idxs, Nat.reduceAdd]
 refine den_seq ?_
 refine den_region TTok ?_
 intro K hK
 simp -implicitDefEqProofs (disch := first | decide | assumption | omega) only [go_sem, wrap_id]
 refine op_box (cs := #[vd]) (RdS.cells hd) ?_
 intro h0_0 e0_0 hb0_0 z0_0
 have := Ext.size e0_0
 have eB := e0_0
 have hfhb0_0 : Fresh h.size [h.size] := Fresh.one _
 have hlhb0_0 := one_lt (show h.size < h0_0.size by omega)
 try simp -implicitDefEqProofs (disch := first | decide | assumption | omega) only [go_sem, wrap_id]
 refine op_alloc (cs := #[.int .i64 0, .slice none 0 0, .slice none 0 0, .slice none 0 0]) (by kernel_rfl) ?_
 intro h0_1 e0_1 hb0_1 z0_1
 replace hb0_0 := BoxAt.ext hb0_0 e0_1
 have := Ext.size e0_1
 replace eB := Ext.trans eB e0_1
 have hfhb0_1 : Fresh h0_0.size [h0_0.size] := Fresh.one _
 have hlhb0_1 := one_lt (show h0_0.size < h0_1.size by omega)
 try simp -implicitDefEqProofs (disch := first | decide | assumption | omega) only [go_sem, BoxAt.cell hb0_1, wrap_id]
 refine hK _ _ ?_
 clear hK K
 refine den_seq ?_
 refine den_region TTok ?_
 intro K hK
 simp -implicitDefEqProofs (disch := first | decide | assumption | omega) only [go_sem, ld27, RdS.len hd sl27, RdS.idx hd sl27, RdS.cellB hd (Ext.pres eB), RdS.cells hd, BoxAt.cell hb0_0, wrap_id, bD2 hdS p]
 refine op_alloc (cs := #[.int .i64 0, .slice none 0 0, .slice none 0 0, .slice none 0 0]) (by kernel_rfl) ?_
 intro h1_3 e1_3 hb1_3 z1_3
 replace hb0_0 := BoxAt.ext hb0_0 e1_3
 replace hb0_1 := BoxAt.ext hb0_1 e1_3
 have := Ext.size e1_3
 replace eB := Ext.trans eB e1_3
 have hfhb1_3 : Fresh h0_1.size [h0_1.size] := Fresh.one _
 have hlhb1_3 := one_lt (show h0_1.size < h1_3.size by omega)
 try simp -implicitDefEqProofs (disch := first | decide | assumption | omega) only [go_sem, BoxAt.cell hb0_1, wrap_id, bD2 hdS p]
 refine op_storeB (cs' := #[.int .i64 (p), vd, .slice none 0 0, .slice none 0 0]) st30 hb1_3 rfl rfl rfl (by simp) (allOne_mem (l := [.int .i64 (p), vd, .slice none 0 0, .slice none 0 0]) ⟨rfl, (RdS.one hd), rfl, rfl, trivial⟩) rfl ?_
 intro h1_4 hb1_3 c1_4
 replace hb0_0 := BoxAt.chgA hb0_0 c1_4 (apart_lt hlhb0_0 hfhb1_3 (by omega))
 replace hb0_1 := BoxAt.chgA hb0_1 c1_4 (apart_lt hlhb0_1 hfhb1_3 (by omega))
 have := c1_4.size
 replace eB := Ext.then eB c1_4 (ge_of hfhb1_3 (by omega))
 try simp -implicitDefEqProofs (disch := first | decide | assumption | omega) only [go_sem, BoxAt.cell hb0_1, wrap_id, bD2 hdS p]
 refine hK _ _ ?_
 clear hK K
 refine den_seq ?_
 refine den_region TTok ?_
 intro K hK
 simp -implicitDefEqProofs (disch := first | decide | assumption | omega) only [go_sem, RdS.len hd sl27, RdS.idx hd sl27, RdS.cellB hd (Ext.pres eB), RdS.cells hd, BoxAt.cell hb0_0, BoxAt.cell hb1_3, wrap_id]
 refine hK _ _ ?_
 clear hK K
 refine den_seq ?_
 refine den_region TTok ?_
 intro K hK
 simp -implicitDefEqProofs (disch := first | decide | assumption | omega) only [go_sem, RdS.len hd sl27, RdS.idx hd sl27, RdS.cellB hd (Ext.pres eB), RdS.cells hd, BoxAt.cell hb1_3, wrap_id]
 try simp -implicitDefEqProofs (disch := first | decide | assumption | omega) only [go_sem, BoxAt.cell hb0_1, wrap_id]
 refine CallA.mono (iBl1_ok p vd _ _ D W (fun r c => dimQ D ((r : Int) - 1) (c : Int)) _ _ _ _ (RdS.pres hd (Ext.pres eB)) hb0_0 hb1_3 (by omega) (by omega) hW hdm (fun r c _ _ => dimQ_bnd hW hdm _ _) (fun r c hr hc H eH bH => iWd2_ok p vd _ _ D _ _ _ _ H (RdS.pres hd (Ext.pres eB)) eH bH (by omega) ⟨by omega, fun r hr => by rw [hW r hr]; omega⟩ (fun r hr => by rw [hW r hr, hW 0 (by omega)]))) ?_
 intro vw3_2 h3_2
 rintro ⟨zvw3_2, fw3_2, rfl, how3_2, hfw3_2, e3_2⟩
 replace hb0_0 := BoxAt.ext hb0_0 e3_2
 replace hb0_1 := BoxAt.ext hb0_1 e3_2
 replace hb1_3 := BoxAt.ext hb1_3 e3_2
 have := Ext.size e3_2
 replace eB := Ext.trans eB e3_2
 have hlhow3_2 := OS.lt how3_2
 try simp -implicitDefEqProofs (disch := first | decide | assumption | omega) only [go_sem, fa30_2, RdS.len hd sl27, RdS.idx hd sl27, RdS.cellB hd (Ext.pres eB), RdS.cells hd, BoxAt.cell hb1_3, wrap_id]
 refine op_storeB (cs' := #[.int .i64 (p), vd, vw3_2, .slice none 0 0]) st28 hb1_3 rfl (OS.one how3_2).2 rfl (by simp) (allOne_mem (l := [vw3_2]) ⟨(OS.one how3_2).1, trivial⟩) rfl ?_
 intro h3_4 hb1_3 c3_4
 replace how3_2 := OS.chg how3_2 c3_4 (apart_gt hfw3_2 hlhb1_3 (by omega))
 replace hb0_0 := BoxAt.chgA hb0_0 c3_4 (apart_lt hlhb0_0 hfhb1_3 (by omega))
 replace hb0_1 := BoxAt.chgA hb0_1 c3_4 (apart_lt hlhb0_1 hfhb1_3 (by omega))
 have := c3_4.size
 replace eB := Ext.then eB c3_4 (ge_of hfhb1_3 (by omega))
 try simp -implicitDefEqProofs (disch := first | decide | assumption | omega) only [go_sem, BoxAt.cell hb0_1, wrap_id]
 refine hK _ _ ?_
 clear hK K
 refine den_seq ?_
 refine den_region TTok ?_
 intro K hK
 simp -implicitDefEqProofs (disch := first | decide | assumption | omega) only [go_sem, RdS.len hd sl27, RdS.idx hd sl27, RdS.cellB hd (Ext.pres eB), RdS.cells hd, RdS.len (OS.rd how3_2) sl28, RdS.idx (OS.rd how3_2) sl28, RdS.cellN (OS.rd how3_2), RdS.cells (OS.rd how3_2), BoxAt.cell hb1_3, wrap_id]
 try simp -implicitDefEqProofs (disch := first | decide | assumption | omega) only [go_sem, BoxAt.cell hb0_1, wrap_id]
 refine CallA.mono (iBl1_ok p vd _ _ D W (fun r c => dimQ D (r : Int) ((c : Int) - 1)) _ _ _ _ (RdS.pres hd (Ext.pres eB)) hb0_0 hb1_3 (by omega) (by omega) hW hdm (fun r c _ _ => dimQ_bnd hW hdm _ _) (fun r c hr hc H eH bH => iWd3_ok p vd _ _ D _ _ _ _ H (RdS.pres hd (Ext.pres eB)) eH bH (by omega) ⟨by omega, fun r hr => by rw [hW r hr]; omega⟩ (fun r hr => by rw [hW r hr, hW 0 (by omega)]))) ?_
 intro vw4_2 h4_2
 rintro ⟨zvw4_2, fw4_2, rfl, how4_2, hfw4_2, e4_2⟩
 replace how3_2 := OS.ext how3_2 e4_2
 replace hb0_0 := BoxAt.ext hb0_0 e4_2
 replace hb0_1 := BoxAt.ext hb0_1 e4_2
 replace hb1_3 := BoxAt.ext hb1_3 e4_2
 have := Ext.size e4_2
 replace eB := Ext.trans eB e4_2
 have hlhow4_2 := OS.lt how4_2
 try simp -implicitDefEqProofs (disch := first | decide | assumption | omega) only [go_sem, fa30_3, RdS.len hd sl27, RdS.idx hd sl27, RdS.cellB hd (Ext.pres eB), RdS.cells hd, RdS.len (OS.rd how3_2) sl28, RdS.idx (OS.rd how3_2) sl28, RdS.cellN (OS.rd how3_2), RdS.cells (OS.rd how3_2), BoxAt.cell hb1_3, wrap_id]
 refine op_storeB (cs' := #[.int .i64 (p), vd, vw3_2, vw4_2]) st28 hb1_3 rfl (OS.one how4_2).2 rfl (by simp) (allOne_mem (l := [vw4_2]) ⟨(OS.one how4_2).1, trivial⟩) rfl ?_
 intro h4_4 hb1_3 c4_4
 replace how3_2 := OS.chg how3_2 c4_4 (apart_gt hfw3_2 hlhb1_3 (by omega))
 replace how4_2 := OS.chg how4_2 c4_4 (apart_gt hfw4_2 hlhb1_3 (by omega))
 replace hb0_0 := BoxAt.chgA hb0_0 c4_4 (apart_lt hlhb0_0 hfhb1_3 (by omega))
 replace hb0_1 := BoxAt.chgA hb0_1 c4_4 (apart_lt hlhb0_1 hfhb1_3 (by omega))
 have := c4_4.size
 replace eB := Ext.then eB c4_4 (ge_of hfhb1_3 (by omega))
 try simp -implicitDefEqProofs (disch := first | decide | assumption | omega) only [go_sem, BoxAt.cell hb0_1, wrap_id]
 refine hK _ _ ?_
 clear hK K
 refine den_seq ?_
 refine den_region TTok ?_
 intro K hK
 simp -implicitDefEqProofs (disch := first | decide | assumption | omega) only [go_sem, ld30, RdS.len hd sl27, RdS.idx hd sl27, RdS.cellB hd (Ext.pres eB), RdS.cells hd, RdS.len (OS.rd how3_2) sl28, RdS.idx (OS.rd how3_2) sl28, RdS.cellN (OS.rd how3_2), RdS.cells (OS.rd how3_2), RdS.len (OS.rd how4_2) sl28, RdS.idx (OS.rd how4_2) sl28, RdS.cellN (OS.rd how4_2), RdS.cells (OS.rd how4_2), BoxAt.cell hb1_3, wrap_id]
 refine op_storeB (cs' := #[.int .i64 (p), vd, vw3_2, vw4_2]) st30 hb0_1 rfl rfl rfl (by simp) (allOne_mem (l := [.int .i64 (p), vd, vw3_2, vw4_2]) ⟨rfl, (RdS.one hd), (OS.one how3_2).1, (OS.one how4_2).1, trivial⟩) rfl ?_
 intro h5_1 hb0_1 c5_1
 replace how3_2 := OS.chg how3_2 c5_1 (apart_gt hfw3_2 hlhb0_1 (by omega))
 replace how4_2 := OS.chg how4_2 c5_1 (apart_gt hfw4_2 hlhb0_1 (by omega))
 replace hb0_0 := BoxAt.chgA hb0_0 c5_1 (apart_lt hlhb0_0 hfhb0_1 (by omega))
 replace hb1_3 := BoxAt.chgA hb1_3 c5_1 (apart_gt hfhb1_3 hlhb0_1 (by omega))
 have := c5_1.size
 replace eB := Ext.then eB c5_1 (ge_of hfhb0_1 (by omega))
 try simp -implicitDefEqProofs (disch := first | decide | assumption | omega) only [go_sem, RdS.len hd sl27, RdS.idx hd sl27, RdS.cellB hd (Ext.pres eB), RdS.cells hd, RdS.len (OS.rd how3_2) sl28, RdS.idx (OS.rd how3_2) sl28, RdS.cellN (OS.rd how3_2), RdS.cells (OS.rd how3_2), RdS.len (OS.rd how4_2) sl28, RdS.idx (OS.rd how4_2) sl28, RdS.cellN (OS.rd how4_2), RdS.cells (OS.rd how4_2), BoxAt.cell hb0_1, wrap_id]
 refine hK _ _ ?_
 clear hK K
 refine den_ret ?_
 simp -implicitDefEqProofs (disch := first | decide | assumption | omega) only [go_sem, RdS.len hd sl27, RdS.idx hd sl27, RdS.cellB hd (Ext.pres eB), RdS.cells hd, RdS.len (OS.rd how3_2) sl28, RdS.idx (OS.rd how3_2) sl28, RdS.cellN (OS.rd how3_2), RdS.cells (OS.rd how3_2), RdS.len (OS.rd how4_2) sl28, RdS.idx (OS.rd how4_2) sl28, RdS.cellN (OS.rd how4_2), RdS.cells (OS.rd how4_2), BoxAt.cell hb0_1, wrap_id, resP_c1, ld30]
 exact ⟨_, _, _, _, rfl, how3_2, how4_2, Fresh.two hfw3_2 hfw4_2 (apart_lt hlhow3_2 hfw4_2 (by omega)) (by omega) (by omega), eB⟩
end Go.Proofs.Ytkdnnfkdgmblgaa

namespace Go.Proofs.Ytkdnnfkdgmblgaa
open Go
/-- A cell of a table changed. -/
def setC (T : List (List (List (List Int)))) (i j : Nat) (R : List (List Int)) : List (List (List (List Int))) := T.set i ((T.getD i default).set j R)
theorem getD_setS {α : Type} {l : List α} {i : Nat} {x d : α} (h : i < l.length) : (l.set i x).getD i d = x := by
 rw [List.getD_eq_getElem?_getD, List.getElem?_set_self h]; rfl
theorem set_getS {α : Type} {l : List α} {i : Nat} {d : α} (h : i < l.length) : l.set i (l.getD i d) = l := by
 rw [List.getD_eq_getElem?_getD, List.getElem?_eq_getElem h, Option.getD_some, List.set_getElem_self]
section
variable {T : List (List (List (List Int)))} {i j : Nat} {R R' : List (List Int)}
theorem setC_len : (setC T i j R).length = T.length := by rw [setC, List.length_set]
theorem setC_row (hi : i < T.length) : (setC T i j R).getD i default = (T.getD i default).set j R := getD_setS hi
theorem setC_same (hi : i < T.length) (hj : j < (T.getD i default).length) : setC T i j ((T.getD i default).getD j default) = T := by rw [setC, set_getS hj, set_getS hi]
theorem OS.rowC {h : Heap} {v : Value} {f : List Nat} (ho : O4 h v (setC T i j R) f) (hn : f.Nodup) (hi : i < T.length) (hj : j < (T.getD i default).length) {r : Nat} (hr : r < R.length) :
  ∃ f4, O1 h (rowV h (rowV h (rowV h v i) j) r) (R.getD r default) f4 ∧ f4.Nodup ∧ (∀ b ∈ f4, b ∈ f) ∧ ∀ h' x', Chg f4 h h' → O1 h' (rowV h (rowV h (rowV h v i) j) r) x' f4 → O4 h' v (setC T i j (R.set r x')) f := by
 obtain ⟨f1, hE1, hs1, hn1, hb1⟩ := OS.elem ho hn i (by rw [setC_len]; exact hi)
 rw [setC_row hi] at hE1
 obtain ⟨f2, hE2, hs2, hn2, hb2⟩ := OS.elem hE1 hn1 j (by rw [List.length_set]; exact hj)
 rw [getD_setS hj] at hE2
 obtain ⟨f3, hE3, hs3, hn3, hb3⟩ := OS.elem hE2 hn2 r hr
 refine ⟨f3, hE3, hn3, fun b hb => hs1 b (hs2 b (hs3 b hb)), fun h' x' c o => ?_⟩
 have o2 := hb3 h' _ c o
 have o3 := hb2 h' _ (c.mono hs3) o2
 have o4 := hb1 h' _ (c.mono (fun b hb => hs2 b (hs3 b hb))) o3
 rw [List.set_set, setC, List.set_set] at o4
 exact o4
theorem RdS.rowC {h : Heap} {v : Value} (hv : R4 h v (setC T i j R)) (hi : i < T.length) (hj : j < (T.getD i default).length) : R3 h (rowV h v i) ((T.getD i default).set j R) ∧ R2 h (rowV h (rowV h v i) j) R := by
 have h1 := RdS.rowN hv i (by rw [setC_len]; exact hi)
 rw [setC_row hi] at h1
 have h2 := RdS.rowN h1 j (by rw [List.length_set]; exact hj)
 rw [getD_setS hj] at h2
 exact ⟨h1, h2⟩
end
/-- Rows of pairs, of which those before (a, b) are told and the others blank. -/
def iT (r : Nat → Nat → List Int) (z : List Int) (N M a b : Nat) : List (List Int) := (List.range (N * M)).map fun q : Nat => if q < a * M + b then r (q / M) (q % M) else z
section
variable {r : Nat → Nat → List Int} {z : List Int} {N M a b : Nat}
theorem iT_len : (iT r z N M a b).length = N * M := by simp [iT]
theorem iT_0 : iT r z N M 0 0 = List.replicate (N * M) z := by
 unfold iT
 apply List.ext_getElem (by simp)
 intro q h1 h2
 simp only [List.getElem_map, List.getElem_range, List.getElem_replicate]
 rw [if_neg (by omega)]
theorem iT_M : iT r z N M a M = iT r z N M (a + 1) 0 := by rw [iT, iT, show a * M + M = (a + 1) * M + 0 by rw [Nat.add_mul]; omega]
theorem pair_lt (ha : a < N) (hb : b < M) : a * M + b < N * M := by
 have h1 : (a + 1) * M ≤ N * M := Nat.mul_le_mul_right _ (by omega)
 rw [Nat.add_mul] at h1
 omega
theorem iT_get (ha : a < N) (hb : b < M) : (iT r z N M a b).getD (a * M + b) default = z := by
 rw [iT, List.getD_eq_getElem?_getD, List.getElem?_eq_getElem (by simpa using pair_lt ha hb)]
 simp
theorem iT_set0 (ha : a < N) (hb : b < M) : (iT r z N M a b).set (a * M + b) z = iT r z N M a b := by
 have := set_getS (l := iT r z N M a b) (i := a * M + b) (d := default) (by rw [iT_len]; exact pair_lt ha hb)
 rw [iT_get ha hb] at this
 exact this
theorem iT_step (ha : a < N) (hb : b < M) : (iT r z N M a b).set (a * M + b) (r a b) = iT r z N M a (b + 1) := by
 apply List.ext_getElem (by simp [iT])
 intro q h1 h2
 rw [List.getElem_set]
 by_cases hq : a * M + b = q
 ·subst hq
  rw [if_pos rfl]
  simp only [iT, List.getElem_map, List.getElem_range]
  rw [if_pos (by omega), show (a * M + b) / M = a by rw [Nat.mul_comm, Nat.mul_add_div (by omega), Nat.div_eq_of_lt hb]; rfl, show (a * M + b) % M = b by rw [Nat.mul_comm, Nat.mul_add_mod, Nat.mod_eq_of_lt hb]]
 ·rw [if_neg hq]
  simp only [iT, List.getElem_map, List.getElem_range]
  by_cases h3 : q < a * M + b
  ·rw [if_pos h3, if_pos (by omega)]
  ·rw [if_neg h3, if_neg (by omega)]
theorem tbA_iT (r : Nat → Nat → List Int) (z : List Int) (M : Nat) : ∀ N, iT r z N M N 0 = tbA r M N
 | 0 => by simp [iT, tbA]
 | N + 1 => by
  rw [tbA, ← tbA_iT r z M N]
  unfold iT
  rw [Nat.add_mul, Nat.one_mul, List.range_add, List.map_append, List.map_map]
  congr 1
  ·apply List.map_congr_left
   intro q hq
   rw [List.mem_range] at hq
   rw [if_pos (by omega), if_pos (by omega)]
  ·apply List.map_congr_left
   intro q hq
   rw [List.mem_range] at hq
   simp only [Function.comp]
   rw [if_pos (by omega), show (N * M + q) / M = N by rw [Nat.mul_comm, Nat.mul_add_div (by omega), Nat.div_eq_of_lt hq]; rfl, show (N * M + q) % M = q by rw [Nat.mul_comm, Nat.mul_add_mod, Nat.mod_eq_of_lt hq]]
end
/-- A table of which the cells before (i, j) are told. -/
def ptT (full blank : Nat → Nat → List (List Int)) (n m i j : Nat) : List (List (List (List Int))) := (List.range n).map fun r : Nat => (List.range m).map fun c : Nat => if r < i ∨ (r = i ∧ c < j) then full r c else blank r c
section
variable {full blank : Nat → Nat → List (List Int)} {n m i j : Nat}
theorem ptT_len : (ptT full blank n m i j).length = n := by simp [ptT]
theorem ptT_eg (hi : i < n) : (ptT full blank n m i j).getD i default = (List.range m).map fun c : Nat => if c < j then full i c else blank i c := by
 rw [ptT, List.getD_eq_getElem?_getD, List.getElem?_eq_getElem (by simpa using hi)]
 simp
theorem ptT_row (hi : i < n) : ((ptT full blank n m i j).getD i default).length = m := by rw [ptT_eg hi]; simp
theorem ptT_cell (hi : i < n) (hj : j < m) : ((ptT full blank n m i j).getD i default).getD j default = blank i j := by
 rw [ptT_eg hi, List.getD_eq_getElem?_getD, List.getElem?_eq_getElem (by simpa using hj)]
 simp
theorem ptT_0 : ptT full blank n m 0 0 = (List.range n).map fun r : Nat => (List.range m).map fun c : Nat => blank r c := by
 unfold ptT
 apply List.map_congr_left
 intro r _
 apply List.map_congr_left
 intro c _
 rw [if_neg (by omega)]
theorem ptT_end : ptT full blank n m n 0 = (List.range n).map fun r : Nat => (List.range m).map fun c : Nat => full r c := by
 unfold ptT
 apply List.map_congr_left
 intro r hr
 rw [List.mem_range] at hr
 apply List.map_congr_left
 intro c _
 rw [if_pos (by omega)]
theorem ptT_m : ptT full blank n m i m = ptT full blank n m (i + 1) 0 := by
 unfold ptT
 apply List.map_congr_left
 intro r _
 apply List.map_congr_left
 intro c hc
 rw [List.mem_range] at hc
 by_cases h : r < i ∨ (r = i ∧ c < m)
 ·rw [if_pos h, if_pos (by omega)]
 ·rw [if_neg h, if_neg (by omega)]
theorem ptT_step (hi : i < n) (hj : j < m) : setC (ptT full blank n m i j) i j (full i j) = ptT full blank n m i (j + 1) := by
 unfold setC
 rw [ptT_eg hi]
 apply List.ext_getElem (by simp [ptT])
 intro r h1 h2
 rw [List.getElem_set]
 by_cases hri : i = r
 ·subst hri
  rw [if_pos rfl]
  simp only [ptT, List.getElem_map, List.getElem_range]
  apply List.ext_getElem (by simp)
  intro c h3 h4
  rw [List.getElem_set]
  simp only [List.getElem_map, List.getElem_range]
  by_cases hcj : j = c
  ·subst hcj
   rw [if_pos rfl, if_pos (.inr ⟨trivial, by omega⟩)]
  ·rw [if_neg hcj]
   by_cases h5 : c < j
   ·rw [if_pos h5, if_pos (.inr ⟨trivial, by omega⟩)]
   ·rw [if_neg h5, if_neg (fun h => by rcases h with h | h <;> omega)]
 ·rw [if_neg hri]
  simp only [ptT, List.getElem_map, List.getElem_range]
  apply List.map_congr_left
  intro c _
  by_cases h5 : r < i
  ·rw [if_pos (.inl h5), if_pos (.inl h5)]
  ·rw [if_neg (by omega), if_neg (by omega)]
end
theorem val_A {p x : Int} (h : 0 ≤ x ∧ x < p) : (1 * x) % p = x := by rw [Int.one_mul]; exact Int.emod_eq_of_lt h.1 h.2
theorem val_B {p x s : Int} (hs : s = 1 ∨ s = -1) (h : 0 ≤ x ∧ x < p) : Int.tmod (s * x + p) p = (s * x) % p := by
 have : 0 ≤ s * x + p := by rcases hs with rfl | rfl <;> omega
 rw [Int.tmod_eq_emod_of_nonneg this, Int.add_emod_right]
theorem sg_tm {i : Nat} : 1 - Int.tmod (i : Int) 2 * 2 = 1 ∨ 1 - Int.tmod (i : Int) 2 * 2 = -1 := by
 have h := Int.tmod_eq_emod_of_nonneg (a := (i : Int)) (b := 2) (by omega)
 omega
end Go.Proofs.Ytkdnnfkdgmblgaa

namespace Go.Proofs.Ytkdnnfkdgmblgaa
open Go
structure PvOk (X Y : Cx) (i : Int) (u : List Int) (j : Int) (v : List Int) : Prop where
 cX : IsC X
 cY : IsC Y
 p : 0 < X.p ∧ X.p ≤ 7
 ci : 0 ≤ i ∧ i ≤ (X.dims.length : Int) - 1
 cj : 0 ≤ j ∧ j ≤ (Y.dims.length : Int) - 1
 lX : X.dims.length ≤ 6
 lY : Y.dims.length ≤ 6
 cu : (u.length : Int) = dimP X i ∧ Bnd X.p u
 cv : (v.length : Int) = dimP Y j ∧ Bnd X.p v
end Go.Proofs.Ytkdnnfkdgmblgaa

namespace Go.Proofs.Ytkdnnfkdgmblgaa
open Go
section
variable {P : Program} {n : Nat} {K : Env → Heap → Prop} {env : Env} {h : Heap} {d : Option Tmp} {ty : TypeId} {p : String} {a : Array Edge} {g : Option (Nat × Bool)}
end
def famAt (X Y : Cx) (f : List (List (List Int))) (s : Int) (n : Nat) : Bool := tableP X.p (f.getD n default) (X.dims.getD n 0) (dimP Y ((n : Int) + s))
structure IsFam (X Y : Cx) (f : List (List (List Int))) (s : Int) : Prop where
 len : f.length = X.dims.length
 rows : ∀ n, n < f.length → famAt X Y f s n = true
theorem famAt_iff {X Y : Cx} {f : List (List (List Int))} {s : Int} {n : Nat} : famAt X Y f s n = true ↔ ((f.getD n default).length : Int) = X.dims.getD n 0 ∧ (f.getD n default).all (isRow X.p (dimP Y ((n : Int) + s))) = true := by
 simp only [famAt, tableP, Bool.and_eq_true, decide_eq_true_eq]
theorem IsFam.at {X Y : Cx} {f : List (List (List Int))} {s : Int} (h : IsFam X Y f s) {n : Nat} (hn : n < f.length) : ((f.getD n default).length : Int) = X.dims.getD n 0 ∧ Tbl X.p (dimP Y ((n : Int) + s)) (f.getD n default) := tableP_iff.1 (h.rows n hn)
theorem IsFam.row {X Y : Cx} {f : List (List (List Int))} {s : Int} (h : IsFam X Y f s) {n i : Nat} (hn : n < f.length) (hi : i < (f.getD n default).length) : isRow X.p (dimP Y ((n : Int) + s)) ((f.getD n default).getD i default) = true := all_at (d := default) (famAt_iff.1 (h.rows n hn)).2 hi
end Go.Proofs.Ytkdnnfkdgmblgaa

namespace Go.Proofs.Ytkdnnfkdgmblgaa
open Go
/-- What a round of the test of chain maps knows. -/
structure ChnR (X Y : Cx) (f : List (List (List Int))) (k i : Nat) : Prop where
 hi : i < (X.maps.getD k default).length
 ml : k < X.maps.length
 row : (((X.maps.getD k default).getD i default).length : Int) = X.dims.getD k 0 ∧ Bnd X.p ((X.maps.getD k default).getD i default)
 img : (((f.getD ((k : Int) + 1).toNat default).getD i default).length : Int) = Y.dims.getD ((k : Int) + 1).toNat 0 ∧ Bnd Y.p ((f.getD ((k : Int) + 1).toNat default).getD i default)
end Go.Proofs.Ytkdnnfkdgmblgaa

namespace Go.Proofs.Ytkdnnfkdgmblgaa
open Go
abbrev rwA (X Y : Cx) (i j : Nat) : Nat → Nat → List Int := spR true X.p 1 (mapP X (i : Int)) (Y.dims.getD j 0) (dimP X ((i : Int) - 1))
abbrev rwB (X Y : Cx) (i j : Nat) : Nat → Nat → List Int := spR false X.p (1 - 2 * Int.tmod (i : Int) 2) (mapP Y (j : Int)) (X.dims.getD i 0) (dimP Y ((j : Int) - 1))
abbrev zrA (X Y : Cx) (i j : Nat) : List Int := List.replicate (dimP X ((i : Int) - 1) * Y.dims.getD j 0).toNat 0
abbrev zrB (X Y : Cx) (i j : Nat) : List Int := List.replicate (X.dims.getD i 0 * dimP Y ((j : Int) - 1)).toNat 0
abbrev itA (X Y : Cx) (i j a b : Nat) : List (List Int) := iT (rwA X Y i j) (zrA X Y i j) (X.dims.getD i 0).toNat (Y.dims.getD j 0).toNat a b
abbrev itB (X Y : Cx) (i j a b : Nat) : List (List Int) := iT (rwB X Y i j) (zrB X Y i j) (X.dims.getD i 0).toNat (Y.dims.getD j 0).toNat a b
abbrev kA (X Y : Cx) (i j a b k : Nat) : List Int := roA X.p 1 (mapP X (i : Int)) (Y.dims.getD j 0) (dimP X ((i : Int) - 1)) a b k
abbrev kB (X Y : Cx) (i j a b k : Nat) : List Int := roB X.p (1 - 2 * Int.tmod (i : Int) 2) (mapP Y (j : Int)) (X.dims.getD i 0) (dimP Y ((j : Int) - 1)) a b k
abbrev qR (Y : Cx) (j a b : Nat) : Nat := ((a : Int) * Y.dims.getD j 0 + (b : Int)).toNat
theorem qR_eq {Y : Cx} (hY : IsC Y) {j a b : Nat} : qR Y j a b = a * (Y.dims.getD j 0).toNat + b := by
 have h := dimsD_nat hY j
 obtain ⟨m, hm⟩ : ∃ m : Nat, Y.dims.getD j 0 = m := ⟨_, (Int.toNat_of_nonneg h.1).symm⟩
 unfold qR
 rw [hm, Int.toNat_natCast]
 omega
theorem itA_set0 {X Y : Cx} (hY : IsC Y) {i j a b : Nat} (ha : a < (X.dims.getD i 0).toNat) (hb : b < (Y.dims.getD j 0).toNat) : (itA X Y i j a b).set (qR Y j a b) (kA X Y i j a b 0) = itA X Y i j a b := by rw [qR_eq hY]; exact iT_set0 ha hb
theorem itB_set0 {X Y : Cx} (hY : IsC Y) {i j a b : Nat} (ha : a < (X.dims.getD i 0).toNat) (hb : b < (Y.dims.getD j 0).toNat) : (itB X Y i j a b).set (qR Y j a b) (kB X Y i j a b 0) = itB X Y i j a b := by rw [qR_eq hY]; exact iT_set0 ha hb
theorem itA_step {X Y : Cx} (hY : IsC Y) {i j a b : Nat} (ha : a < (X.dims.getD i 0).toNat) (hb : b < (Y.dims.getD j 0).toNat) : (itA X Y i j a b).set (qR Y j a b) (kA X Y i j a b (dimP X ((i : Int) - 1)).toNat) = itA X Y i j a (b + 1) := by rw [qR_eq hY]; exact iT_step ha hb
theorem itB_step {X Y : Cx} (hY : IsC Y) {i j a b : Nat} (ha : a < (X.dims.getD i 0).toNat) (hb : b < (Y.dims.getD j 0).toNat) : (itB X Y i j a b).set (qR Y j a b) (kB X Y i j a b (dimP Y ((j : Int) - 1)).toNat) = itB X Y i j a (b + 1) := by rw [qR_eq hY]; exact iT_step ha hb
theorem dim_pos {X : Cx} {i k : Nat} (h : (k : Int) < dimP X ((i : Int) - 1)) : 1 ≤ i := by
 rcases Nat.eq_zero_or_pos i with h1 | h1
 ·subst h1
  rw [dimP, if_neg (by rw [in3_iff]; omega)] at h
  omega
 ·exact h1
/-- A number of a map, as the program finds it. -/
theorem num_at {X : Cx} (hC : IsC X) {i a k : Nat} (hi : i < X.dims.length) (h1 : 1 ≤ i) (ha : (a : Int) < X.dims.getD i 0) (hk : (k : Int) < dimP X ((i : Int) - 1)) :
  ((i : Int) - 1).toNat < X.maps.length ∧ a < (X.maps.getD ((i : Int) - 1).toNat default).length ∧ k < ((X.maps.getD ((i : Int) - 1).toNat default).getD a default).length ∧
  0 ≤ ((X.maps.getD ((i : Int) - 1).toNat default).getD a default).getD k 0 ∧ ((X.maps.getD ((i : Int) - 1).toNat default).getD a default).getD k 0 < X.p ∧ mapP X (i : Int) = X.maps.getD ((i : Int) - 1).toNat default := by
 obtain ⟨q, rfl⟩ : ∃ q, i = q + 1 := ⟨i - 1, by omega⟩
 have hm := hC.ml
 have e : ((q + 1 : Nat) : Int) - 1 = (q : Nat) := by omega
 rw [e, dimD_nat] at hk
 rw [e, Int.toNat_natCast]
 have l := hC.lens (k := q) (by omega)
 have l2 := l.2 a (by omega)
 have n := hC.num (k := q) (i := a) (j := k) (by omega) (by omega) (by omega)
 exact ⟨by omega, by omega, by omega, n.1, n.2, mapD_nat q (by omega) hm⟩

set_option maxRecDepth 100000 in
theorem iPd1_ok (X Y : Cx) (vdX vmX vdY vmY vd va vb : Value) (TA TB : List (List (List (List Int)))) (i j b2 b3 b4 b5 : Nat) (fA fB : List Nat) (h0 h : Heap) (hdX : R1 h0 vdX X.dims) (hmX : R3 h0 vmX X.maps) (hdY : R1 h0 vdY Y.dims) (hmY : R3 h0 vmY Y.maps) (eB : Ext h0 h) (hb2 : BoxAt h b2 #[.int .i64 X.p, vdX, vmX] 33) (hb3 : BoxAt h b3 #[.int .i64 Y.p, vdY, vmY] 33) (hb4 : BoxAt h b4 #[.int .i64 X.p, vd, va, vb] 30) (hb5 : BoxAt h b5 #[.int .i64 X.p] 2) (hA : O4 h va (setC TA i j (itA X Y i j 0 0)) fA) (hB : O4 h vb (setC TB i j (itB X Y i j 0 0)) fB) (hfA : Fresh h0.size fA) (hfB : Fresh h0.size fB) (apAB : Apart fA fB) (hnA : b2 ∉ fA ∧ b3 ∉ fA ∧ b4 ∉ fA ∧ b5 ∉ fA) (hnB : b2 ∉ fB ∧ b3 ∉ fB ∧ b4 ∉ fB ∧ b5 ∉ fB) (hX : IsC X) (hY : IsC Y) (hpp : X.p = Y.p) (hi : i < X.dims.length) (hj : j < Y.dims.length) (hTA : i < TA.length ∧ j < (TA.getD i default).length) (hTB : i < TB.length ∧ j < (TB.getD i default).length) : CallA Try.prog 22 #[.int .i64 (i : Int), .int .i64 (j : Int), .pointer (some ⟨b2, 0, none⟩), .pointer (some ⟨b3, 0, none⟩), .pointer (some ⟨b4, 0, none⟩), .pointer (some ⟨b5, 0, none⟩)] h fun v' h' => v' = .tuple #[] ∧ O4 h' va (setC TA i j (itA X Y i j (X.dims.getD i 0).toNat 0)) fA ∧ O4 h' vb (setC TB i j (itB X Y i j (X.dims.getD i 0).toNat 0)) fB ∧ Chg (fA ++ fB) h h' := by
 have hdi := dimsD_nat hX i
 have hdj := dimsD_nat hY j
 have hdA := dimP_bnd hX ((i : Int) - 1)
 have hdB := dimP_bnd hY ((j : Int) - 1)
 have hpb := isP_bnd hX.p
 have hlX := hX.len
 have hlY := hY.len
 have hleX := RdS.le hdX
 have hleY := RdS.le hdY
 have hlemX := RdS.le hmX
 have hlemY := RdS.le hmY
 refine callA_intro TTok (args := [_, _, _, _, _, _]) Try.func22 (by kernel_rfl) rfl 130 rfl (by simp) [] rfl ?_
 simp only [idxs, Nat.reduceAdd]
 refine den_seq ?_
 refine den_region TTok ?_
 intro K hK
 simp -implicitDefEqProofs (disch := first | decide | assumption | omega) only [go_sem, fa33_1, ld22, ld2, RdS.len hdX sl22, RdS.idx hdX sl22, R1.intB hdX (Ext.pres eB), RdS.cells hdX, RdS.len hmX sl23, RdS.idx hmX sl23, RdS.cellB hmX (Ext.pres eB), RdS.cells hmX, BoxAt.cell hb2, wrap_id]
 refine hK _ _ ?_
 clear hK K
 refine den_block ?_
 refine den_sel [18, 0, 1, 2, 3, 4, 5, 17] ?_
 intro env_1
 simp only [go_sem]
 refine den_loopS (σ := Nat) (fun s => [(18, .int .i64 (s : Int))]) (fun s H => Ext h0 H ∧ (s : Int) ≤ X.dims.getD i 0 ∧ O4 H va (setC TA i j (itA X Y i j s 0)) fA ∧ O4 H vb (setC TB i j (itB X Y i j s 0)) fB ∧ (BoxAt H b2 #[.int .i64 X.p, vdX, vmX] 33 ∧ BoxAt H b3 #[.int .i64 Y.p, vdY, vmY] 33 ∧ BoxAt H b4 #[.int .i64 X.p, vd, va, vb] 30 ∧ BoxAt H b5 #[.int .i64 X.p] 2) ∧ Chg (fA ++ fB) h H) (fun s => (X.dims.getD i 0).toNat - s) 0 ?_ ?_
 ·exact ⟨eB, by omega, hA, hB, ⟨hb2, hb3, hb4, hb5⟩, by first | exact Chg.refl _ _ | exact Ext.chg (by assumption) _⟩
 ·rintro a h4 ee3 ⟨eB, ha, hA, hB, ⟨hb2, hb3, hb4, hb5⟩, hch⟩
  simp only [List.cons_append, List.nil_append]
  have := Ext.size eB
  refine den_seq ?_
  refine den_region TTok ?_
  intro K hK
  simp -implicitDefEqProofs (disch := first | decide | assumption | omega) only [go_sem, wrap_id]
  refine hK _ _ ?_
  clear hK K
  refine den_seq ?_
  refine den_cond rfl (fun c0 => ?_) (fun c0 => ?_)
  ·try simp only [decide_eq_true_eq, decide_eq_false_iff_not, beq_iff_eq, beq_eq_false_iff_ne, bne_iff_ne, ne_eq, Bool.not_eq_true', Bool.not_eq_false', Bool.and_eq_true, Bool.or_eq_true, bne_eq_false_iff_eq] at c0
   refine den_skip ?_
   refine den_seq ?_
   refine den_block ?_
   refine den_seq ?_
   refine den_region TTok ?_
   intro K hK
   simp -implicitDefEqProofs (disch := first | decide | assumption | omega) only [go_sem, wrap_id]
   refine hK _ _ ?_
   clear hK K
   refine den_seq ?_
   refine den_region TTok ?_
   intro K hK
   simp -implicitDefEqProofs (disch := first | decide | assumption | omega) only [go_sem, fa33_1, ld22, ld2, RdS.len hdY sl22, RdS.idx hdY sl22, R1.intB hdY (Ext.pres eB), RdS.cells hdY, RdS.len hmY sl23, RdS.idx hmY sl23, RdS.cellB hmY (Ext.pres eB), RdS.cells hmY, BoxAt.cell hb3, wrap_id]
   refine hK _ _ ?_
   clear hK K
   refine den_block ?_
   refine den_sel [26, 0, 1, 2, 3, 4, 5, 8, 17, 18, 25] ?_
   intro env_5
   simp only [go_sem]
   refine den_loopS (σ := Nat) (fun s => [(26, .int .i64 (s : Int))]) (fun s H => Ext h0 H ∧ (s : Int) ≤ Y.dims.getD j 0 ∧ O4 H va (setC TA i j (itA X Y i j a s)) fA ∧ O4 H vb (setC TB i j (itB X Y i j a s)) fB ∧ (BoxAt H b2 #[.int .i64 X.p, vdX, vmX] 33 ∧ BoxAt H b3 #[.int .i64 Y.p, vdY, vmY] 33 ∧ BoxAt H b4 #[.int .i64 X.p, vd, va, vb] 30 ∧ BoxAt H b5 #[.int .i64 X.p] 2) ∧ Chg (fA ++ fB) h H) (fun s => (Y.dims.getD j 0).toNat - s) 0 ?_ ?_
   ·exact ⟨eB, by omega, hA, hB, ⟨hb2, hb3, hb4, hb5⟩, (by first | exact hch | exact hch.trans (Ext.chg (by assumption) _))⟩
   ·rintro b h8 ee7 ⟨eB, hb, hA, hB, ⟨hb2, hb3, hb4, hb5⟩, hch⟩
    simp only [List.cons_append, List.nil_append]
    have := Ext.size eB
    refine den_seq ?_
    refine den_region TTok ?_
    intro K hK
    simp -implicitDefEqProofs (disch := first | decide | assumption | omega) only [go_sem, wrap_id]
    refine hK _ _ ?_
    clear hK K
    refine den_seq ?_
    refine den_cond rfl (fun c1 => ?_) (fun c1 => ?_)
    ·try simp only [decide_eq_true_eq, decide_eq_false_iff_not, beq_iff_eq, beq_eq_false_iff_ne, bne_iff_ne, ne_eq, Bool.not_eq_true', Bool.not_eq_false', Bool.and_eq_true, Bool.or_eq_true, bne_eq_false_iff_eq] at c1
     refine den_skip ?_
     refine den_seq ?_
     refine den_block ?_
     refine den_seq ?_
     refine den_region TTok ?_
     intro K hK
     simp -implicitDefEqProofs (disch := first | decide | assumption | omega) only [go_sem, wrap_id]
     refine hK _ _ ?_
     clear hK K
     refine den_seq ?_
     have hqi := mulR (c := (a : Int)) (m := Y.dims.getD j 0) (n := X.dims.getD i 0) (b := (b : Int)) ⟨by omega, by omega⟩ ⟨by omega, by omega⟩
     have hqm := mul8 hdi hdj
     refine den_region TTok ?_
     intro K hK
     simp -implicitDefEqProofs (disch := first | decide | assumption | omega) only [go_sem, fa33_1, ld22, ld2, RdS.len hdY sl22, RdS.idx hdY sl22, R1.intB hdY (Ext.pres eB), RdS.cells hdY, RdS.len hmY sl23, RdS.idx hmY sl23, RdS.cellB hmY (Ext.pres eB), RdS.cells hmY, BoxAt.cell hb3, wrap_id]
     refine hK _ _ ?_
     clear hK K
     refine den_seq ?_
     refine den_seq ?_
     refine den_region TTok ?_
     intro K hK
     simp -implicitDefEqProofs (disch := first | decide | assumption | omega) only [go_sem, ld33, RdS.len hdX sl22, RdS.idx hdX sl22, R1.intB hdX (Ext.pres eB), RdS.cells hdX, RdS.len hmX sl23, RdS.idx hmX sl23, RdS.cellB hmX (Ext.pres eB), RdS.cells hmX, BoxAt.cell hb2, wrap_id]
     try simp -implicitDefEqProofs (disch := first | decide | assumption | omega) only [go_sem, wrap_id]
     refine CallA.mono (iDim_ok _ X _ _ ⟨_, _, rfl, (RdS.pres hdX (Ext.pres eB)), (RdS.pres hmX (Ext.pres eB))⟩) ?_
     intro v_ h7_3
     rintro ⟨rfl, e7_3⟩
     replace hA := OS.ext hA e7_3
     replace hB := OS.ext hB e7_3
     replace hb2 := BoxAt.ext hb2 e7_3
     replace hb3 := BoxAt.ext hb3 e7_3
     replace hb4 := BoxAt.ext hb4 e7_3
     replace hb5 := BoxAt.ext hb5 e7_3
     have := Ext.size e7_3
     replace eB := Ext.trans eB e7_3
     try simp -implicitDefEqProofs (disch := first | decide | assumption | omega) only [go_sem, wrap_id]
     refine hK _ _ ?_
     clear hK K
     refine den_block ?_
     refine den_sel [42, 0, 1, 2, 3, 4, 5, 8, 9, 10, 17, 18, 25, 26, 41] ?_
     intro env_9
     simp only [go_sem]
     refine den_loopS (σ := Nat) (fun s => [(42, .int .i64 (s : Int))]) (fun s H => Ext h0 H ∧ (s : Int) ≤ dimP X ((i : Int) - 1) ∧ O4 H va (setC TA i j ((itA X Y i j a b).set (qR Y j a b) (kA X Y i j a b s))) fA ∧ O4 H vb (setC TB i j (itB X Y i j a b)) fB ∧ (BoxAt H b2 #[.int .i64 X.p, vdX, vmX] 33 ∧ BoxAt H b3 #[.int .i64 Y.p, vdY, vmY] 33 ∧ BoxAt H b4 #[.int .i64 X.p, vd, va, vb] 30 ∧ BoxAt H b5 #[.int .i64 X.p] 2) ∧ Chg (fA ++ fB) h H) (fun s => (dimP X ((i : Int) - 1)).toNat - s) 0 ?_ ?_
     ·exact ⟨eB, by omega, by rw [itA_set0 hY (by omega) (by omega)]; exact hA, hB, ⟨hb2, hb3, hb4, hb5⟩, (by first | exact hch | exact hch.trans (Ext.chg (by assumption) _))⟩
     ·rintro k h12 ee11 ⟨eB, hk, hA, hB, ⟨hb2, hb3, hb4, hb5⟩, hch⟩
      simp only [List.cons_append, List.nil_append]
      have := Ext.size eB
      refine den_seq ?_
      refine den_region TTok ?_
      intro K hK
      simp -implicitDefEqProofs (disch := first | decide | assumption | omega) only [go_sem, wrap_id]
      refine hK _ _ ?_
      clear hK K
      refine den_seq ?_
      refine den_cond rfl (fun c2 => ?_) (fun c2 => ?_)
      ·try simp only [decide_eq_true_eq, decide_eq_false_iff_not, beq_iff_eq, beq_eq_false_iff_ne, bne_iff_ne, ne_eq, Bool.not_eq_true', Bool.not_eq_false', Bool.and_eq_true, Bool.or_eq_true, bne_eq_false_iff_eq] at c2
       refine den_skip ?_
       refine den_seq ?_
       refine den_block ?_
       refine den_seq ?_
       refine den_region TTok ?_
       intro K hK
       simp -implicitDefEqProofs (disch := first | decide | assumption | omega) only [go_sem, wrap_id]
       refine hK _ _ ?_
       clear hK K
       have h1i := dim_pos (X := X) (i := i) (k := k) (by omega)
       have hnm := num_at hX (i := i) (a := a) (k := k) (by omega) h1i (by omega) (by omega)
       have m1 := RdS.rowN hmX ((i : Int) - 1).toNat (by omega)
       have m2 := RdS.rowN m1 a (by omega)
       have hlm := RdS.le m1
       have hqe := qR_eq hY (j := j) (a := a) (b := b)
       have hql := pair_lt (N := (X.dims.getD i 0).toNat) (M := (Y.dims.getD j 0).toNat) (a := a) (b := b) (by omega) (by omega)
       have hqi := mulR (c := (a : Int)) (m := Y.dims.getD j 0) (n := X.dims.getD i 0) (b := (b : Int)) ⟨by omega, by omega⟩ ⟨by omega, by omega⟩
       have hln : (itA X Y i j a b).length = (X.dims.getD i 0).toNat * (Y.dims.getD j 0).toNat := iT_len
       obtain ⟨r1, r2⟩ := RdS.rowC (OS.rd hA) hTA.1 hTA.2
       obtain ⟨f4, hE, hnE, hsE, hbk⟩ := OS.rowC hA hfA.nodup hTA.1 hTA.2 (r := qR Y j a b) (by rw [List.length_set, hln]; omega)
       have r3 := RdS.rowN r2 (qR Y j a b) (by rw [List.length_set, hln]; omega)
       rw [getD_setS (show qR Y j a b < (itA X Y i j a b).length by rw [hln]; omega)] at hE r3
       have hlk : (kA X Y i j a b k).length = (dimP X ((i : Int) - 1) * Y.dims.getD j 0).toNat := roA_len _
       have hrl : ((itA X Y i j a b).set (qR Y j a b) (kA X Y i j a b k)).length = (X.dims.getD i 0).toNat * (Y.dims.getD j 0).toNat := by rw [List.length_set, hln]
       have hqe2 : ((a : Int) * Y.dims.getD j 0 + (b : Int)).toNat = a * (Y.dims.getD j 0).toNat + b := hqe
       have hqb : (a : Int) * Y.dims.getD j 0 + (b : Int) < ((((itA X Y i j a b).set (qR Y j a b) (kA X Y i j a b k)).length : Nat) : Int) := by rw [hrl]; omega
       have hqn : 0 ≤ (a : Int) * Y.dims.getD j 0 + (b : Int) := by omega
       have hrl1 : ((TA.getD i default).set j ((itA X Y i j a b).set (qR Y j a b) (kA X Y i j a b k))).length = (TA.getD i default).length := List.length_set
       have hrl0 : (setC TA i j ((itA X Y i j a b).set (qR Y j a b) (kA X Y i j a b k))).length = TA.length := setC_len
       have hmb := mul8 hdA hdj
       have hix := mulR (c := (k : Int)) (m := Y.dims.getD j 0) (n := dimP X ((i : Int) - 1)) (b := (b : Int)) ⟨by omega, by omega⟩ ⟨by omega, by omega⟩
       have hva : ((X.maps.getD ((i : Int) - 1).toNat default).getD a default).getD k 0 = (1 * ((mapP X (i : Int)).getD a default).getD k 0) % X.p := by rw [hnm.2.2.2.2.2, val_A ⟨hnm.2.2.2.1, hnm.2.2.2.2.1⟩]
       refine den_draw TTok mixed [33] [(0, true), (1, true), (2, true), (3, true), (4, true), (5, true), (6, true), (7, true), (8, true), (9, true), (10, true), (11, true), (12, true), (13, true), (14, true), (15, true), (16, true), (17, true), (18, true), (19, true), (20, true), (21, true), (22, true), (23, true), (24, true), (25, true), (26, true), (27, true), (28, true), (29, true), (30, true), (31, true), (32, true), (33, false)] (by kernel_rfl) ?_
       intro K hK
       have hr13 := RdS.rowN hmX (((i : Int) - (1 : Int))).toNat (by omega)
       have hlhr13 := RdS.le hr13
       have hr14 := RdS.rowN hr13 a (by omega)
       have hlhr14 := RdS.le hr14
       simp -implicitDefEqProofs (disch := first | decide | assumption | omega) only [go_sem, fa33_1, fa33_2, fa30_2, ld28, ld23, ld27, ld22, ld2, RdS.len hdX sl22, RdS.idx hdX sl22, R1.intB hdX (Ext.pres eB), RdS.cells hdX, RdS.len hmX sl23, RdS.idx hmX sl23, RdS.cellB hmX (Ext.pres eB), RdS.cells hmX, RdS.len hdY sl22, RdS.idx hdY sl22, R1.intB hdY (Ext.pres eB), RdS.cells hdY, RdS.len hmY sl23, RdS.idx hmY sl23, RdS.cellB hmY (Ext.pres eB), RdS.cells hmY, RdS.len hr13 sl27, RdS.idx hr13 sl27, RdS.cellB hr13 (Ext.pres eB), RdS.cells hr13, RdS.len hr14 sl22, RdS.idx hr14 sl22, R1.intB hr14 (Ext.pres eB), RdS.cells hr14, RdS.len (OS.rd hA) sl28, RdS.idx (OS.rd hA) sl28, RdS.cellN (OS.rd hA), RdS.cells (OS.rd hA), RdS.len (OS.rd hB) sl28, RdS.idx (OS.rd hB) sl28, RdS.cellN (OS.rd hB), RdS.cells (OS.rd hB), BoxAt.cell hb2, BoxAt.cell hb3, BoxAt.cell hb4, wrap_id, RdS.idx m1 sl27, RdS.cellB m1 (Ext.pres eB), RdS.idx m2 sl22, R1.intB m2 (Ext.pres eB), RdS.idx r1 sl23, RdS.cellN r1, RdS.idx r2 sl27, RdS.cellN r2, RdS.idx r3 sl22]
       refine op_store1 (j := ((k : Int) * Y.dims.getD j 0 + (b : Int)).toNat) st2 hE hnE (by omega) rfl rfl ?_
       intro h10_33 hF cE
       have cT0 := cE.mono hsE
       rw [hva, roA_step] at hF
       have hx2 := hbk _ _ cE hF
       rw [List.set_set] at hx2
       have cT := cT0
       replace hA := hx2
       replace hB := OS.chg hB cT (Apart.symm apAB)
       replace hb2 := BoxAt.chg hb2 cT hnA.1
       replace hb3 := BoxAt.chg hb3 cT hnA.2.1
       replace hb4 := BoxAt.chg hb4 cT hnA.2.2.1
       replace hb5 := BoxAt.chg hb5 cT hnA.2.2.2
       replace eB := Ext.then eB cT hfA.ge
       replace hch := hch.trans (cT.mono (fun b hb => List.mem_append_left _ hb))
       try simp (disch := decide) only [outv_some, outv_none, put_puts]
       refine plK_last (by decide) ?_
       try simp -implicitDefEqProofs (disch := first | decide | assumption | omega) only [go_sem, wrap_id, RdS.idx m1 sl27, RdS.cellB m1 (Ext.pres eB), RdS.idx m2 sl22, R1.intB m2 (Ext.pres eB), RdS.idx r1 sl23, RdS.cellN r1, RdS.idx r2 sl27, RdS.cellN r2, RdS.idx r3 sl22]
       refine hK _ _ ?_
       clear hK K
       refine den_blk ?_
       refine den_region TTok ?_
       intro K hK
       simp -implicitDefEqProofs (disch := first | decide | assumption | omega) only [go_sem, wrap_id]
       refine hK _ _ ?_
       clear hK K
       refine den_stop ?_
       exact ⟨k + 1, by simp [HasL, puts_at], ⟨eB, by omega, hA, hB, ⟨hb2, hb3, hb4, hb5⟩, hch⟩, by omega⟩
      ·try simp only [decide_eq_true_eq, decide_eq_false_iff_not, beq_iff_eq, beq_eq_false_iff_ne, bne_iff_ne, ne_eq, Bool.not_eq_true', Bool.not_eq_false', Bool.and_eq_true, Bool.or_eq_true, bne_eq_false_iff_eq] at c2
       refine den_exit ?_
       refine denX_code ?_
       refine denX_stop ?_
       refine denX_hit ?_
       refine den_seq ?_
       refine den_region TTok ?_
       intro K hK
       simp -implicitDefEqProofs (disch := first | decide | assumption | omega) only [go_sem, ld33, RdS.len hdY sl22, RdS.idx hdY sl22, R1.intB hdY (Ext.pres eB), RdS.cells hdY, RdS.len hmY sl23, RdS.idx hmY sl23, RdS.cellB hmY (Ext.pres eB), RdS.cells hmY, BoxAt.cell hb3, wrap_id]
       try simp -implicitDefEqProofs (disch := first | decide | assumption | omega) only [go_sem, wrap_id]
       refine CallA.mono (iDim_ok _ Y _ _ ⟨_, _, rfl, (RdS.pres hdY (Ext.pres eB)), (RdS.pres hmY (Ext.pres eB))⟩) ?_
       intro v_ h12_3
       rintro ⟨rfl, e12_3⟩
       replace hA := OS.ext hA e12_3
       replace hB := OS.ext hB e12_3
       replace hb2 := BoxAt.ext hb2 e12_3
       replace hb3 := BoxAt.ext hb3 e12_3
       replace hb4 := BoxAt.ext hb4 e12_3
       replace hb5 := BoxAt.ext hb5 e12_3
       have := Ext.size e12_3
       replace eB := Ext.trans eB e12_3
       try simp -implicitDefEqProofs (disch := first | decide | assumption | omega) only [go_sem, wrap_id]
       refine hK _ _ ?_
       clear hK K
       refine den_block ?_
       refine den_sel [83, 0, 1, 2, 3, 4, 5, 8, 9, 10, 17, 18, 25, 26, 82] ?_
       intro env_15
       simp only [go_sem]
       refine den_loopS (σ := Nat) (fun s => [(83, .int .i64 (s : Int))]) (fun s H => Ext h0 H ∧ (s : Int) ≤ dimP Y ((j : Int) - 1) ∧ O4 H va (setC TA i j ((itA X Y i j a b).set (qR Y j a b) (kA X Y i j a b k))) fA ∧ O4 H vb (setC TB i j ((itB X Y i j a b).set (qR Y j a b) (kB X Y i j a b s))) fB ∧ (BoxAt H b2 #[.int .i64 X.p, vdX, vmX] 33 ∧ BoxAt H b3 #[.int .i64 Y.p, vdY, vmY] 33 ∧ BoxAt H b4 #[.int .i64 X.p, vd, va, vb] 30 ∧ BoxAt H b5 #[.int .i64 X.p] 2) ∧ Chg (fA ++ fB) h H) (fun s => (dimP Y ((j : Int) - 1)).toNat - s) 0 ?_ ?_
       ·exact ⟨eB, by omega, hA, by rw [itB_set0 hY (by omega) (by omega)]; exact hB, ⟨hb2, hb3, hb4, hb5⟩, (by first | exact hch | exact hch.trans (Ext.chg (by assumption) _))⟩
       ·rintro k2 h18 ee17 ⟨eB, hk2, hA, hB, ⟨hb2, hb3, hb4, hb5⟩, hch⟩
        simp only [List.cons_append, List.nil_append]
        have := Ext.size eB
        refine den_seq ?_
        refine den_region TTok ?_
        intro K hK
        simp -implicitDefEqProofs (disch := first | decide | assumption | omega) only [go_sem, wrap_id]
        refine hK _ _ ?_
        clear hK K
        refine den_seq ?_
        refine den_cond rfl (fun c3 => ?_) (fun c3 => ?_)
        ·try simp only [decide_eq_true_eq, decide_eq_false_iff_not, beq_iff_eq, beq_eq_false_iff_ne, bne_iff_ne, ne_eq, Bool.not_eq_true', Bool.not_eq_false', Bool.and_eq_true, Bool.or_eq_true, bne_eq_false_iff_eq] at c3
         refine den_skip ?_
         refine den_seq ?_
         refine den_block ?_
         refine den_seq ?_
         refine den_region TTok ?_
         intro K hK
         simp -implicitDefEqProofs (disch := first | decide | assumption | omega) only [go_sem, wrap_id]
         refine hK _ _ ?_
         clear hK K
         have h1i := dim_pos (X := Y) (i := j) (k := k2) (by omega)
         have hnm := num_at hY (i := j) (a := b) (k := k2) (by omega) h1i (by omega) (by omega)
         have m1 := RdS.rowN hmY ((j : Int) - 1).toNat (by omega)
         have m2 := RdS.rowN m1 b (by omega)
         have hlm := RdS.le m1
         have hqe := qR_eq hY (j := j) (a := a) (b := b)
         have hql := pair_lt (N := (X.dims.getD i 0).toNat) (M := (Y.dims.getD j 0).toNat) (a := a) (b := b) (by omega) (by omega)
         have hqi := mulR (c := (a : Int)) (m := Y.dims.getD j 0) (n := X.dims.getD i 0) (b := (b : Int)) ⟨by omega, by omega⟩ ⟨by omega, by omega⟩
         have hln : (itB X Y i j a b).length = (X.dims.getD i 0).toNat * (Y.dims.getD j 0).toNat := iT_len
         obtain ⟨r1, r2⟩ := RdS.rowC (OS.rd hB) hTB.1 hTB.2
         obtain ⟨f4, hE, hnE, hsE, hbk⟩ := OS.rowC hB hfB.nodup hTB.1 hTB.2 (r := qR Y j a b) (by rw [List.length_set, hln]; omega)
         have r3 := RdS.rowN r2 (qR Y j a b) (by rw [List.length_set, hln]; omega)
         rw [getD_setS (show qR Y j a b < (itB X Y i j a b).length by rw [hln]; omega)] at hE r3
         have hlk : (kB X Y i j a b k2).length = (X.dims.getD i 0 * dimP Y ((j : Int) - 1)).toNat := roB_len _
         have hrl : ((itB X Y i j a b).set (qR Y j a b) (kB X Y i j a b k2)).length = (X.dims.getD i 0).toNat * (Y.dims.getD j 0).toNat := by rw [List.length_set, hln]
         have hqe2 : ((a : Int) * Y.dims.getD j 0 + (b : Int)).toNat = a * (Y.dims.getD j 0).toNat + b := hqe
         have hqb : (a : Int) * Y.dims.getD j 0 + (b : Int) < ((((itB X Y i j a b).set (qR Y j a b) (kB X Y i j a b k2)).length : Nat) : Int) := by rw [hrl]; omega
         have hqn : 0 ≤ (a : Int) * Y.dims.getD j 0 + (b : Int) := by omega
         have hrl1 : ((TB.getD i default).set j ((itB X Y i j a b).set (qR Y j a b) (kB X Y i j a b k2))).length = (TB.getD i default).length := List.length_set
         have hrl0 : (setC TB i j ((itB X Y i j a b).set (qR Y j a b) (kB X Y i j a b k2))).length = TB.length := setC_len
         have hmb := mul8 hdi hdB
         have hix := mulR (c := (a : Int)) (m := dimP Y ((j : Int) - 1)) (n := X.dims.getD i 0) (b := (k2 : Int)) ⟨by omega, by omega⟩ ⟨by omega, by omega⟩
         have hsg := sg_tm (i := i)
         have hs2 : 1 - Int.tmod (i : Int) 2 * 2 = 1 - 2 * Int.tmod (i : Int) 2 := by omega
         have hsb := sgm (sg := 1 - Int.tmod (i : Int) 2 * 2) (by omega) ⟨hnm.2.2.2.1, hpp ▸ hnm.2.2.2.2.1⟩ hpb.2
         have hdY1 : Y.dims.getD ((j : Int) - 1).toNat 0 = dimP Y ((j : Int) - 1) := by rw [← dimD_nat Y, Int.toNat_of_nonneg (by omega)]
         have hva : Int.tmod ((1 - Int.tmod (i : Int) 2 * 2) * ((Y.maps.getD ((j : Int) - 1).toNat default).getD b default).getD k2 0 + X.p) X.p = ((1 - 2 * Int.tmod (i : Int) 2) * ((mapP Y (j : Int)).getD b default).getD k2 0) % X.p := by rw [hnm.2.2.2.2.2, val_B hsg ⟨hnm.2.2.2.1, hpp ▸ hnm.2.2.2.2.1⟩, hs2]
         refine den_draw TTok mixed [41] [(0, true), (1, true), (2, true), (3, true), (4, true), (5, true), (6, true), (7, true), (8, true), (9, true), (10, true), (11, true), (12, true), (13, true), (14, true), (15, true), (16, true), (17, true), (18, true), (19, true), (20, true), (21, true), (23, true), (24, true), (25, true), (26, true), (27, true), (28, true), (29, true), (30, true), (31, true), (32, true), (33, true), (34, true), (36, true), (38, true), (22, false), (35, true), (37, true), (39, true), (40, true), (41, false)] (by kernel_rfl) ?_
         intro K hK
         have hr19 := RdS.rowN hmY (((j : Int) - (1 : Int))).toNat (by omega)
         have hlhr19 := RdS.le hr19
         have hr20 := RdS.rowN hr19 b (by omega)
         have hlhr20 := RdS.le hr20
         simp -implicitDefEqProofs (disch := first | decide | assumption | omega) only [go_sem, fa33_1, fa33_2, fa30_3, ld28, ld23, ld27, ld22, ld2, RdS.len hdY sl22, RdS.idx hdY sl22, R1.intB hdY (Ext.pres eB), RdS.cells hdY, RdS.len hmY sl23, RdS.idx hmY sl23, RdS.cellB hmY (Ext.pres eB), RdS.cells hmY, RdS.len hr19 sl27, RdS.idx hr19 sl27, RdS.cellB hr19 (Ext.pres eB), RdS.cells hr19, RdS.len hr20 sl22, RdS.idx hr20 sl22, R1.intB hr20 (Ext.pres eB), RdS.cells hr20, RdS.len (OS.rd hA) sl28, RdS.idx (OS.rd hA) sl28, RdS.cellN (OS.rd hA), RdS.cells (OS.rd hA), RdS.len (OS.rd hB) sl28, RdS.idx (OS.rd hB) sl28, RdS.cellN (OS.rd hB), RdS.cells (OS.rd hB), BoxAt.cell hb3, BoxAt.cell hb4, BoxAt.cell hb5, wrap_id, RdS.idx m1 sl27, RdS.cellB m1 (Ext.pres eB), RdS.idx m2 sl22, R1.intB m2 (Ext.pres eB), RdS.idx r1 sl23, RdS.cellN r1, RdS.idx r2 sl27, RdS.cellN r2, RdS.idx r3 sl22, hdY1]
         try simp -implicitDefEqProofs (disch := first | decide | assumption | omega) only [go_sem, wrap_id, RdS.idx m1 sl27, RdS.cellB m1 (Ext.pres eB), RdS.idx m2 sl22, R1.intB m2 (Ext.pres eB), RdS.idx r1 sl23, RdS.cellN r1, RdS.idx r2 sl27, RdS.cellN r2, RdS.idx r3 sl22, hdY1]
         refine CallA.mono (iSign_ok  (i : Int) _  (by omega)) ?_
         intro v_ h15_22
         rintro ⟨rfl, e15_22⟩
         replace hA := OS.ext hA e15_22
         replace hB := OS.ext hB e15_22
         replace hb2 := BoxAt.ext hb2 e15_22
         replace hb3 := BoxAt.ext hb3 e15_22
         replace hb4 := BoxAt.ext hb4 e15_22
         replace hb5 := BoxAt.ext hb5 e15_22
         have := Ext.size e15_22
         replace eB := Ext.trans eB e15_22
         try simp (disch := decide) only [outv_some, outv_none, put_puts]
         refine plK_pres (Ext.pres e15_22) ?_
         try simp -implicitDefEqProofs (disch := first | decide | assumption | omega) only [go_sem, wrap_id, RdS.idx m1 sl27, RdS.cellB m1 (Ext.pres eB), RdS.idx m2 sl22, R1.intB m2 (Ext.pres eB), RdS.idx r1 sl23, RdS.cellN r1, RdS.idx r2 sl27, RdS.cellN r2, RdS.idx r3 sl22, hdY1]
         replace hE := OS.ext hE e15_22
         replace hch := hch.trans (Ext.chg e15_22 _)
         refine op_store1 (j := ((a : Int) * dimP Y ((j : Int) - 1) + (k2 : Int)).toNat) st2 hE hnE (by omega) rfl rfl ?_
         intro h15_41 hF cE
         have cT0 := cE.mono hsE
         replace cE := (Ext.chg e15_22 _).trans cE
         rw [hva, roB_step] at hF
         have hx2 := hbk _ _ cE hF
         rw [List.set_set] at hx2
         have cT := cT0
         replace hB := hx2
         replace hA := OS.chg hA cT apAB
         replace hb2 := BoxAt.chg hb2 cT hnB.1
         replace hb3 := BoxAt.chg hb3 cT hnB.2.1
         replace hb4 := BoxAt.chg hb4 cT hnB.2.2.1
         replace hb5 := BoxAt.chg hb5 cT hnB.2.2.2
         replace eB := Ext.then eB cT hfB.ge
         replace hch := hch.trans (cT.mono (fun b hb => List.mem_append_right _ hb))
         try simp (disch := decide) only [outv_some, outv_none, put_puts]
         refine plK_last (by decide) ?_
         try simp -implicitDefEqProofs (disch := first | decide | assumption | omega) only [go_sem, wrap_id, RdS.idx m1 sl27, RdS.cellB m1 (Ext.pres eB), RdS.idx m2 sl22, R1.intB m2 (Ext.pres eB), RdS.idx r1 sl23, RdS.cellN r1, RdS.idx r2 sl27, RdS.cellN r2, RdS.idx r3 sl22, hdY1]
         refine hK _ _ ?_
         clear hK K
         refine den_blk ?_
         refine den_region TTok ?_
         intro K hK
         simp -implicitDefEqProofs (disch := first | decide | assumption | omega) only [go_sem, wrap_id]
         refine hK _ _ ?_
         clear hK K
         refine den_stop ?_
         exact ⟨k2 + 1, by simp [HasL, puts_at], ⟨eB, by omega, hA, hB, ⟨hb2, hb3, hb4, hb5⟩, hch⟩, by omega⟩
        ·try simp only [decide_eq_true_eq, decide_eq_false_iff_not, beq_iff_eq, beq_eq_false_iff_ne, bne_iff_ne, ne_eq, Bool.not_eq_true', Bool.not_eq_false', Bool.and_eq_true, Bool.or_eq_true, bne_eq_false_iff_eq] at c3
         refine den_exit ?_
         refine denX_code ?_
         refine denX_stop ?_
         refine denX_hit ?_
         refine den_blk ?_
         refine den_region TTok ?_
         intro K hK
         simp -implicitDefEqProofs (disch := first | decide | assumption | omega) only [go_sem, wrap_id]
         refine hK _ _ ?_
         clear hK K
         refine den_stop ?_
         have hka : k = (dimP X ((i : Int) - 1)).toNat := by omega
         have hkb : k2 = (dimP Y ((j : Int) - 1)).toNat := by omega
         subst hka
         subst hkb
         rw [itA_step hY (by omega) (by omega)] at hA
         rw [itB_step hY (by omega) (by omega)] at hB
         exact ⟨b + 1, by simp [HasL, puts_at], ⟨eB, by omega, hA, hB, ⟨hb2, hb3, hb4, hb5⟩, hch⟩, by omega⟩
    ·try simp only [decide_eq_true_eq, decide_eq_false_iff_not, beq_iff_eq, beq_eq_false_iff_ne, bne_iff_ne, ne_eq, Bool.not_eq_true', Bool.not_eq_false', Bool.and_eq_true, Bool.or_eq_true, bne_eq_false_iff_eq] at c1
     refine den_exit ?_
     refine denX_code ?_
     refine denX_stop ?_
     refine denX_hit ?_
     refine den_blk ?_
     refine den_region TTok ?_
     intro K hK
     simp -implicitDefEqProofs (disch := first | decide | assumption | omega) only [go_sem, wrap_id]
     refine hK _ _ ?_
     clear hK K
     refine den_stop ?_
     have hbM : b = (Y.dims.getD j 0).toNat := by omega
     subst hbM
     have eMA : itA X Y i j a (Y.dims.getD j 0).toNat = itA X Y i j (a + 1) 0 := iT_M
     have eMB : itB X Y i j a (Y.dims.getD j 0).toNat = itB X Y i j (a + 1) 0 := iT_M
     rw [eMA] at hA
     rw [eMB] at hB
     exact ⟨a + 1, by simp [HasL, puts_at], ⟨eB, by omega, hA, hB, ⟨hb2, hb3, hb4, hb5⟩, hch⟩, by omega⟩
  ·try simp only [decide_eq_true_eq, decide_eq_false_iff_not, beq_iff_eq, beq_eq_false_iff_ne, bne_iff_ne, ne_eq, Bool.not_eq_true', Bool.not_eq_false', Bool.and_eq_true, Bool.or_eq_true, bne_eq_false_iff_eq] at c0
   refine den_exit ?_
   refine denX_code ?_
   refine denX_stop ?_
   refine denX_hit ?_
   refine den_nil ?_
   simp (disch := decide) only [resP_0, puts_same, puts_ne]
   rw [show a = (X.dims.getD i 0).toNat by omega] at hA hB
   exact ⟨by first | rfl | trivial, hA, hB, hch⟩
end Go.Proofs.Ytkdnnfkdgmblgaa

namespace Go.Proofs.Ytkdnnfkdgmblgaa
open Go
set_option maxRecDepth 100000 in
theorem sPD_ok (vX vY : Value) (X : Cx) (Y : Cx) (h : Heap) (rX : RC h vX X) (rY : RC h vY Y)  : CallA Try.prog 5 #[vX, vY] h fun v' h' => ∃ wd0 wa0 wb0 fd0 fa0 fb0, v' = .tuple #[.agg #[.int .i64 ((pdP X Y).1).p, wd0, wa0, wb0], .int .i64 ((pdP X Y).2)] ∧ O2 h' wd0 ((pdP X Y).1).dims fd0 ∧ O4 h' wa0 ((pdP X Y).1).ac fa0 ∧ O4 h' wb0 ((pdP X Y).1).dn fb0 ∧ Fresh h.size (fd0 ++ (fa0 ++ fb0)) ∧ Ext h h' := by
 obtain ⟨vdX, vmX, rfl, hdX, hmX⟩ := rX
 have hledX := RdS.le hdX
 have hlemX := RdS.le hmX
 obtain ⟨vdY, vmY, rfl, hdY, hmY⟩ := rY
 have hledY := RdS.le hdY
 have hlemY := RdS.le hmY
 refine callA_intro TTok (args := [_, _]) Try.func5 (by kernel_rfl) rfl 67 rfl (by simp) [.cell 4 30, .tmp 5] rfl ?_
 simp only [idxs, Nat.reduceAdd]
 refine den_seq ?_
 refine den_region TTok ?_
 intro K hK
 simp -implicitDefEqProofs (disch := first | decide | assumption | omega) only [go_sem, wrap_id, bD0]
 refine op_box (cs := #[.int .i64 (X.p), vdX, vmX]) rfl ?_
 intro h0_0 e0_0 hb0_0 z0_0
 have := Ext.size e0_0
 have eB := e0_0
 have hfhb0_0 : Fresh h.size [h.size] := Fresh.one _
 have hlhb0_0 := one_lt (show h.size < h0_0.size by omega)
 try simp -implicitDefEqProofs (disch := first | decide | assumption | omega) only [go_sem, wrap_id, bD0]
 refine op_box (cs := #[.int .i64 (Y.p), vdY, vmY]) rfl ?_
 intro h0_1 e0_1 hb0_1 z0_1
 replace hb0_0 := BoxAt.ext hb0_0 e0_1
 have := Ext.size e0_1
 replace eB := Ext.trans eB e0_1
 have hfhb0_1 : Fresh h0_0.size [h0_0.size] := Fresh.one _
 have hlhb0_1 := one_lt (show h0_0.size < h0_1.size by omega)
 try simp -implicitDefEqProofs (disch := first | decide | assumption | omega) only [go_sem, wrap_id, bD0]
 refine op_alloc (cs := #[.int .i64 0, .slice none 0 0, .slice none 0 0, .slice none 0 0]) (by kernel_rfl) ?_
 intro h0_2 e0_2 hb0_2 z0_2
 replace hb0_0 := BoxAt.ext hb0_0 e0_2
 replace hb0_1 := BoxAt.ext hb0_1 e0_2
 have := Ext.size e0_2
 replace eB := Ext.trans eB e0_2
 have hfhb0_2 : Fresh h0_1.size [h0_1.size] := Fresh.one _
 have hlhb0_2 := one_lt (show h0_1.size < h0_2.size by omega)
 try simp -implicitDefEqProofs (disch := first | decide | assumption | omega) only [go_sem, wrap_id, bD0]
 refine hK _ _ ?_
 clear hK K
 refine den_seq ?_
 refine den_block ?_
 refine den_seq ?_
 refine den_merge [(8, .bool (((!((isC X))) || (!((isC Y))))))] [2, 3, 4] (fun H => Ext h0_2 H) ?_ ?_
  -- a way
 ·refine den_region TTok ?_
  intro K hK
  simp -implicitDefEqProofs (disch := first | decide | assumption | (simp (disch := decide) only [slotOf_zero, slotOf_succ, Option.map_some, puts_same, puts_ne, gv_bool, gv_undef, tt, tf, ft, ff, eq_self, if_true, if_false, Bool.false_eq_true, Bool.not_true, Bool.not_false]; done) | omega) only [go_sem, ld33, RdS.len hdX sl22, RdS.idx hdX sl22, R1.intB hdX (Ext.pres eB), RdS.cells hdX, RdS.len hmX sl23, RdS.idx hmX sl23, RdS.cellB hmX (Ext.pres eB), RdS.cells hmX, BoxAt.cell hb0_0, wrap_id, bD0]
  try simp -implicitDefEqProofs (disch := first | decide | assumption | omega) only [go_sem, BoxAt.cell hb0_2, wrap_id, bD0]
  refine CallA.mono (sIs_ok _ X _ ⟨_, _, rfl, (RdS.pres hdX (Ext.pres eB)), (RdS.pres hmX (Ext.pres eB))⟩) ?_
  intro v_ h1_1
  rintro ⟨rfl, e1_1⟩
  replace hb0_0 := BoxAt.ext hb0_0 e1_1
  replace hb0_1 := BoxAt.ext hb0_1 e1_1
  replace hb0_2 := BoxAt.ext hb0_2 e1_1
  have := Ext.size e1_1
  replace eB := Ext.trans eB e1_1
  try simp -implicitDefEqProofs (disch := first | decide | assumption | (simp (disch := decide) only [slotOf_zero, slotOf_succ, Option.map_some, puts_same, puts_ne, gv_bool, gv_undef, tt, tf, ft, ff, eq_self, if_true, if_false, Bool.false_eq_true, Bool.not_true, Bool.not_false]; done) | omega) only [go_sem, wrap_id, bD0]
  refine opsP_F (by simp (disch := decide) only [slotOf_zero, slotOf_succ, Option.map_some, puts_same, puts_ne, gv_bool, gv_undef, tt, tf, ft, ff, eq_self, if_true, if_false, Bool.false_eq_true, Bool.not_true, Bool.not_false]; rfl) (fun g1 => ?_) (fun g1 => ?_)
  ·try simp -implicitDefEqProofs (disch := first | decide | assumption | (simp (disch := decide) only [slotOf_zero, slotOf_succ, Option.map_some, puts_same, puts_ne, gv_bool, gv_undef, tt, tf, ft, ff, eq_self, if_true, if_false, Bool.false_eq_true, Bool.not_true, Bool.not_false, g1]; done) | omega) only [go_sem, ld33, RdS.len hdY sl22, RdS.idx hdY sl22, R1.intB hdY (Ext.pres eB), RdS.cells hdY, RdS.len hmY sl23, RdS.idx hmY sl23, RdS.cellB hmY (Ext.pres eB), RdS.cells hmY, BoxAt.cell hb0_1, wrap_id, bD0, g1, eq_self, if_true, if_false, Bool.false_eq_true]
   try simp -implicitDefEqProofs (disch := first | decide | assumption | omega) only [go_sem, BoxAt.cell hb0_2, wrap_id, bD0]
   refine CallA.mono (sIs_ok _ Y _ ⟨_, _, rfl, (RdS.pres hdY (Ext.pres eB)), (RdS.pres hmY (Ext.pres eB))⟩) ?_
   intro v_ h1_5
   rintro ⟨rfl, e1_5⟩
   replace hb0_0 := BoxAt.ext hb0_0 e1_5
   replace hb0_1 := BoxAt.ext hb0_1 e1_5
   replace hb0_2 := BoxAt.ext hb0_2 e1_5
   have := Ext.size e1_5
   replace eB := Ext.trans eB e1_5
   try simp -implicitDefEqProofs (disch := first | decide | assumption | (simp (disch := decide) only [slotOf_zero, slotOf_succ, Option.map_some, puts_same, puts_ne, gv_bool, gv_undef, tt, tf, ft, ff, eq_self, if_true, if_false, Bool.false_eq_true, Bool.not_true, Bool.not_false, g1]; done) | omega) only [go_sem, wrap_id, bD0, g1, eq_self, if_true, if_false, Bool.false_eq_true]
   refine hK _ _ ?_
   clear hK K
   refine den_stop ?_
   refine ⟨?_, (Ext.trans e1_1 e1_5)⟩
   first | (simp (disch := decide) only [go_sem, g1, eq_self, Bool.true_and, Bool.and_true, Bool.false_and, Bool.and_false, Bool.true_or, Bool.or_true, Bool.false_or, Bool.or_false, if_true, if_false, Bool.false_eq_true]; done) | simp [HasL, sel, puts_at, g1]
  ·try simp -implicitDefEqProofs (disch := first | decide | assumption | (simp (disch := decide) only [slotOf_zero, slotOf_succ, Option.map_some, puts_same, puts_ne, gv_bool, gv_undef, tt, tf, ft, ff, eq_self, if_true, if_false, Bool.false_eq_true, Bool.not_true, Bool.not_false, g1]; done) | omega) only [go_sem, wrap_id, bD0, g1, eq_self, if_true, if_false, Bool.false_eq_true]
   refine hK _ _ ?_
   clear hK K
   refine den_stop ?_
   refine ⟨?_, e1_1⟩
   first | (simp (disch := decide) only [go_sem, g1, eq_self, Bool.true_and, Bool.and_true, Bool.false_and, Bool.and_false, Bool.true_or, Bool.or_true, Bool.false_or, Bool.or_false, if_true, if_false, Bool.false_eq_true]; done) | simp [HasL, sel, puts_at, g1]
 intro en2 h3 e4
 replace hb0_0 := BoxAt.ext hb0_0 e4
 replace hb0_1 := BoxAt.ext hb0_1 e4
 replace hb0_2 := BoxAt.ext hb0_2 e4
 have := Ext.size e4
 replace eB := Ext.trans eB e4
 simp (disch := decide) only [go_sem]
 refine den_cond rfl (fun c0 => ?_) (fun c0 => ?_)
 ·try simp only [decide_eq_true_eq, decide_eq_false_iff_not, beq_iff_eq, beq_eq_false_iff_ne, bne_iff_ne, ne_eq, Bool.not_eq_true', Bool.not_eq_false', Bool.and_eq_true, Bool.or_eq_true, bne_eq_false_iff_eq, Bool.not_eq_true, Bool.not_eq_false] at c0
  refine den_seq ?_
  refine den_region TTok ?_
  intro K hK
  simp -implicitDefEqProofs (disch := first | decide | assumption | omega) only [go_sem, wrap_id, bD0]
  refine op_storeB (cs' := #[.int .i64 ((0 : Int)), .slice none 0 0, .slice none 0 0, .slice none 0 0]) st30 hb0_2 rfl rfl rfl (by simp) (allOne_mem (l := [.int .i64 ((0 : Int)), .slice none 0 0, .slice none 0 0, .slice none 0 0]) ⟨rfl, rfl, rfl, rfl, trivial⟩) rfl ?_
  intro h2_1 hb0_2 c2_1
  have := c2_1.size
  replace eB := Ext.then eB c2_1 (ge_of hfhb0_2 (by omega))
  try simp -implicitDefEqProofs (disch := first | decide | assumption | omega) only [go_sem, wrap_id, bD0]
  refine hK _ _ ?_
  clear hK K
  refine den_ret ?_
  simp -implicitDefEqProofs (disch := first | decide | assumption | omega) only [go_sem, BoxAt.cell hb0_2, wrap_id, bD0, resP_ct, ld30]
  rw [show pdP X Y = _ from pdP_1 (by rintro ⟨h1, h2⟩; rw [h1, h2] at c0; simp at c0)]
  exact ⟨.slice none 0 0, .slice none 0 0, .slice none 0 0, [], [], [], rfl, OS.nil, OS.nil, OS.nil, Fresh.nil _, eB⟩
 ·try simp only [decide_eq_true_eq, decide_eq_false_iff_not, beq_iff_eq, beq_eq_false_iff_ne, bne_iff_ne, ne_eq, Bool.not_eq_true', Bool.not_eq_false', Bool.and_eq_true, Bool.or_eq_true, bne_eq_false_iff_eq, Bool.not_eq_true, Bool.not_eq_false] at c0
  have hXY : isC X = true ∧ isC Y = true := by simpa using c0
  have hX := isC_t.1 hXY.1
  have hY := isC_t.1 hXY.2
  have hlX := hX.len
  have hlY := hY.len
  refine den_seq ?_
  refine den_region TTok ?_
  intro K hK
  simp -implicitDefEqProofs (disch := first | decide | assumption | omega) only [go_sem, fa33_0, ld2, RdS.len hdX sl22, RdS.idx hdX sl22, R1.intB hdX (Ext.pres eB), RdS.cells hdX, RdS.len hmX sl23, RdS.idx hmX sl23, RdS.cellB hmX (Ext.pres eB), RdS.cells hmX, RdS.len hdY sl22, RdS.idx hdY sl22, R1.intB hdY (Ext.pres eB), RdS.cells hdY, RdS.len hmY sl23, RdS.idx hmY sl23, RdS.cellB hmY (Ext.pres eB), RdS.cells hmY, BoxAt.cell hb0_0, BoxAt.cell hb0_1, wrap_id, bD0]
  refine hK _ _ ?_
  clear hK K
  refine den_cond rfl (fun c1 => ?_) (fun c1 => ?_)
  ·try simp only [decide_eq_true_eq, decide_eq_false_iff_not, beq_iff_eq, beq_eq_false_iff_ne, bne_iff_ne, ne_eq, Bool.not_eq_true', Bool.not_eq_false', Bool.and_eq_true, Bool.or_eq_true, bne_eq_false_iff_eq, Bool.not_eq_true, Bool.not_eq_false] at c1
   refine den_seq ?_
   refine den_region TTok ?_
   intro K hK
   simp -implicitDefEqProofs (disch := first | decide | assumption | omega) only [go_sem, wrap_id, bD0]
   refine op_storeB (cs' := #[.int .i64 ((0 : Int)), .slice none 0 0, .slice none 0 0, .slice none 0 0]) st30 hb0_2 rfl rfl rfl (by simp) (allOne_mem (l := [.int .i64 ((0 : Int)), .slice none 0 0, .slice none 0 0, .slice none 0 0]) ⟨rfl, rfl, rfl, rfl, trivial⟩) rfl ?_
   intro h4_1 hb0_2 c4_1
   have := c4_1.size
   replace eB := Ext.then eB c4_1 (ge_of hfhb0_2 (by omega))
   try simp -implicitDefEqProofs (disch := first | decide | assumption | omega) only [go_sem, wrap_id, bD0]
   refine hK _ _ ?_
   clear hK K
   refine den_ret ?_
   simp -implicitDefEqProofs (disch := first | decide | assumption | omega) only [go_sem, BoxAt.cell hb0_2, wrap_id, bD0, resP_ct, ld30]
   rw [show pdP X Y = _ from pdP_2 hXY (by simpa using c1)]
   exact ⟨.slice none 0 0, .slice none 0 0, .slice none 0 0, [], [], [], rfl, OS.nil, OS.nil, OS.nil, Fresh.nil _, eB⟩
  ·try simp only [decide_eq_true_eq, decide_eq_false_iff_not, beq_iff_eq, beq_eq_false_iff_ne, bne_iff_ne, ne_eq, Bool.not_eq_true', Bool.not_eq_false', Bool.and_eq_true, Bool.or_eq_true, bne_eq_false_iff_eq, Bool.not_eq_true, Bool.not_eq_false] at c1
   have hpp : X.p = Y.p := by simpa using c1
   refine den_seq ?_
   refine den_mergeH [(25, .bool (((decide ((4 : Int) < ((X.dims).length : Int))) || (decide ((4 : Int) < ((Y.dims).length : Int))))))] [2, 3, 4] ?_ ?_
    -- a way
   ·refine den_region TTok ?_
    intro K hK
    simp -implicitDefEqProofs (disch := first | decide | assumption | (simp (disch := decide) only [slotOf_zero, slotOf_succ, Option.map_some, puts_same, puts_ne, gv_bool, gv_undef, tt, tf, ft, ff, eq_self, if_true, if_false, Bool.false_eq_true, Bool.not_true, Bool.not_false]; done) | omega) only [go_sem, fa33_1, ld22, RdS.len hdX sl22, RdS.idx hdX sl22, R1.intB hdX (Ext.pres eB), RdS.cells hdX, RdS.len hmX sl23, RdS.idx hmX sl23, RdS.cellB hmX (Ext.pres eB), RdS.cells hmX, BoxAt.cell hb0_0, wrap_id, bD0]
    refine opsP_F (by simp (disch := decide) only [slotOf_zero, slotOf_succ, Option.map_some, puts_same, puts_ne, gv_bool, gv_undef, tt, tf, ft, ff, eq_self, if_true, if_false, Bool.false_eq_true, Bool.not_true, Bool.not_false]; rfl) (fun g5 => ?_) (fun g5 => ?_)
    ·try simp -implicitDefEqProofs (disch := first | decide | assumption | (simp (disch := decide) only [slotOf_zero, slotOf_succ, Option.map_some, puts_same, puts_ne, gv_bool, gv_undef, tt, tf, ft, ff, eq_self, if_true, if_false, Bool.false_eq_true, Bool.not_true, Bool.not_false, g5]; done) | omega) only [go_sem, fa33_1, ld22, RdS.len hdY sl22, RdS.idx hdY sl22, R1.intB hdY (Ext.pres eB), RdS.cells hdY, RdS.len hmY sl23, RdS.idx hmY sl23, RdS.cellB hmY (Ext.pres eB), RdS.cells hmY, BoxAt.cell hb0_1, wrap_id, bD0, g5, eq_self, if_true, if_false, Bool.false_eq_true]
     refine hK _ _ ?_
     clear hK K
     refine den_stop ?_
     refine ⟨?_, rfl⟩
     first | (simp (disch := decide) only [go_sem, g5, eq_self, Bool.true_and, Bool.and_true, Bool.false_and, Bool.and_false, Bool.true_or, Bool.or_true, Bool.false_or, Bool.or_false, if_true, if_false, Bool.false_eq_true]; done) | simp [HasL, sel, puts_at, g5]
    ·try simp -implicitDefEqProofs (disch := first | decide | assumption | (simp (disch := decide) only [slotOf_zero, slotOf_succ, Option.map_some, puts_same, puts_ne, gv_bool, gv_undef, tt, tf, ft, ff, eq_self, if_true, if_false, Bool.false_eq_true, Bool.not_true, Bool.not_false, g5]; done) | omega) only [go_sem, wrap_id, bD0, g5, eq_self, if_true, if_false, Bool.false_eq_true]
     refine hK _ _ ?_
     clear hK K
     refine den_stop ?_
     refine ⟨?_, rfl⟩
     first | (simp (disch := decide) only [go_sem, g5, eq_self, Bool.true_and, Bool.and_true, Bool.false_and, Bool.and_false, Bool.true_or, Bool.or_true, Bool.false_or, Bool.or_false, if_true, if_false, Bool.false_eq_true]; done) | simp [HasL, sel, puts_at, g5]
   intro en6
   simp (disch := decide) only [go_sem]
   refine den_cond rfl (fun c2 => ?_) (fun c2 => ?_)
   ·try simp only [decide_eq_true_eq, decide_eq_false_iff_not, beq_iff_eq, beq_eq_false_iff_ne, bne_iff_ne, ne_eq, Bool.not_eq_true', Bool.not_eq_false', Bool.and_eq_true, Bool.or_eq_true, bne_eq_false_iff_eq, Bool.not_eq_true, Bool.not_eq_false] at c2
    refine den_seq ?_
    refine den_region TTok ?_
    intro K hK
    simp -implicitDefEqProofs (disch := first | decide | assumption | omega) only [go_sem, wrap_id, bD0]
    refine op_storeB (cs' := #[.int .i64 ((0 : Int)), .slice none 0 0, .slice none 0 0, .slice none 0 0]) st30 hb0_2 rfl rfl rfl (by simp) (allOne_mem (l := [.int .i64 ((0 : Int)), .slice none 0 0, .slice none 0 0, .slice none 0 0]) ⟨rfl, rfl, rfl, rfl, trivial⟩) rfl ?_
    intro h6_1 hb0_2 c6_1
    have := c6_1.size
    replace eB := Ext.then eB c6_1 (ge_of hfhb0_2 (by omega))
    try simp -implicitDefEqProofs (disch := first | decide | assumption | omega) only [go_sem, wrap_id, bD0]
    refine hK _ _ ?_
    clear hK K
    refine den_ret ?_
    simp -implicitDefEqProofs (disch := first | decide | assumption | omega) only [go_sem, BoxAt.cell hb0_2, wrap_id, bD0, resP_ct, ld30]
    rw [show pdP X Y = _ from pdP_3 hXY hpp (by intro hh; omega)]
    exact ⟨.slice none 0 0, .slice none 0 0, .slice none 0 0, [], [], [], rfl, OS.nil, OS.nil, OS.nil, Fresh.nil _, eB⟩
   ·try simp only [decide_eq_true_eq, decide_eq_false_iff_not, beq_iff_eq, beq_eq_false_iff_ne, bne_iff_ne, ne_eq, Bool.not_eq_true', Bool.not_eq_false', Bool.and_eq_true, Bool.or_eq_true, bne_eq_false_iff_eq, Bool.not_eq_true, Bool.not_eq_false] at c2
    have hs4 : X.dims.length ≤ 4 ∧ Y.dims.length ≤ 4 := by first | omega | (simp at c2; omega)
    refine den_skip ?_
    refine den_blk ?_
    refine den_seq ?_
    refine den_seq ?_
    refine den_region TTok ?_
    intro K hK
    simp -implicitDefEqProofs (disch := first | decide | assumption | omega) only [go_sem, wrap_id, bD0]
    refine hK _ _ ?_
    clear hK K
    refine den_block ?_
    refine den_sel [6, 2, 3, 4] ?_
    intro env_9
    simp only [go_sem]
    refine den_loopS (σ := Nat) (fun st_ => [(6, .int .i64 (st_ : Int))]) (fun st_ H => (st_ ≤ X.dims.length) ∧ (∀ q, q < st_ → ∀ j, j < Y.dims.length → X.dims.getD q 0 * Y.dims.getD j 0 ≤ 4) ∧ (Ext h3 H)) (fun st_ => X.dims.length - st_) 0 ?_ ?_
    ·exact ⟨by omega, fun q h => by omega, Ext.refl _⟩
    ·rintro i h12 ee11 ⟨hi_, hq_, cL10⟩
     replace hb0_0 := BoxAt.ext hb0_0 cL10
     replace hb0_1 := BoxAt.ext hb0_1 cL10
     replace hb0_2 := BoxAt.ext hb0_2 cL10
     have := Ext.size cL10
     replace eB := Ext.trans eB cL10
     simp only [List.cons_append, List.nil_append]
     refine den_seq ?_
     refine den_seq ?_
     refine den_region TTok ?_
     intro K hK
     simp -implicitDefEqProofs (disch := first | decide | assumption | omega) only [go_sem, fa33_1, ld22, RdS.len hdX sl22, RdS.idx hdX sl22, R1.intB hdX (Ext.pres eB), RdS.cells hdX, RdS.len hmX sl23, RdS.idx hmX sl23, RdS.cellB hmX (Ext.pres eB), RdS.cells hmX, BoxAt.cell hb0_0, wrap_id, bD0]
     refine hK _ _ ?_
     clear hK K
     refine den_cond rfl (fun c3 => ?_) (fun c3 => ?_)
     ·try simp only [decide_eq_true_eq, decide_eq_false_iff_not, beq_iff_eq, beq_eq_false_iff_ne, bne_iff_ne, ne_eq, Bool.not_eq_true', Bool.not_eq_false', Bool.and_eq_true, Bool.or_eq_true, bne_eq_false_iff_eq, Bool.not_eq_true, Bool.not_eq_false] at c3
      refine den_skip ?_
      refine den_seq ?_
      refine den_block ?_
      refine den_seq ?_
      refine den_region TTok ?_
      intro K hK
      simp -implicitDefEqProofs (disch := first | decide | assumption | omega) only [go_sem, wrap_id, bD0]
      refine hK _ _ ?_
      clear hK K
      refine den_block ?_
      refine den_sel [7, 2, 3, 4, 6] ?_
      intro env_13
      simp only [go_sem]
      refine den_loopS (σ := Nat) (fun st_ => [(7, .int .i64 (st_ : Int))]) (fun st_ H => (st_ ≤ Y.dims.length) ∧ (∀ q, q < st_ → X.dims.getD i 0 * Y.dims.getD q 0 ≤ 4) ∧ (Ext h12 H)) (fun st_ => Y.dims.length - st_) 0 ?_ ?_
      ·exact ⟨by omega, fun q h => by omega, Ext.refl _⟩
      ·rintro j h16 ee15 ⟨hj_, hr_, cL14⟩
       replace hb0_0 := BoxAt.ext hb0_0 cL14
       replace hb0_1 := BoxAt.ext hb0_1 cL14
       replace hb0_2 := BoxAt.ext hb0_2 cL14
       have := Ext.size cL14
       replace eB := Ext.trans eB cL14
       replace cL10 := Ext.trans cL10 cL14
       simp only [List.cons_append, List.nil_append]
       refine den_seq ?_
       refine den_seq ?_
       refine den_region TTok ?_
       intro K hK
       simp -implicitDefEqProofs (disch := first | decide | assumption | omega) only [go_sem, fa33_1, ld22, RdS.len hdY sl22, RdS.idx hdY sl22, R1.intB hdY (Ext.pres eB), RdS.cells hdY, RdS.len hmY sl23, RdS.idx hmY sl23, RdS.cellB hmY (Ext.pres eB), RdS.cells hmY, BoxAt.cell hb0_1, wrap_id, bD0]
       refine hK _ _ ?_
       clear hK K
       refine den_cond rfl (fun c4 => ?_) (fun c4 => ?_)
       ·try simp only [decide_eq_true_eq, decide_eq_false_iff_not, beq_iff_eq, beq_eq_false_iff_ne, bne_iff_ne, ne_eq, Bool.not_eq_true', Bool.not_eq_false', Bool.and_eq_true, Bool.or_eq_true, bne_eq_false_iff_eq, Bool.not_eq_true, Bool.not_eq_false] at c4
        refine den_skip ?_
        refine den_seq ?_
        refine den_block ?_
        refine den_seq ?_
        have hdi := dimsD_nat hX i
        have hdj := dimsD_nat hY j
        have hpd := mul8 hdi hdj
        refine den_draw TTok mixed [] [(0, true), (1, true), (2, true), (3, true), (4, true), (5, true), (6, true), (7, true), (8, true), (9, true), (10, true), (11, true)] (by kernel_rfl) ?_
        intro K hK
        simp -implicitDefEqProofs (disch := first | decide | assumption | omega) only [go_sem, fa33_1, ld22, ld2, RdS.len hdX sl22, RdS.idx hdX sl22, R1.intB hdX (Ext.pres eB), RdS.cells hdX, RdS.len hmX sl23, RdS.idx hmX sl23, RdS.cellB hmX (Ext.pres eB), RdS.cells hmX, RdS.len hdY sl22, RdS.idx hdY sl22, R1.intB hdY (Ext.pres eB), RdS.cells hdY, RdS.len hmY sl23, RdS.idx hmY sl23, RdS.cellB hmY (Ext.pres eB), RdS.cells hmY, BoxAt.cell hb0_0, BoxAt.cell hb0_1, wrap_id, bD0]
        refine hK _ _ ?_
        clear hK K
        refine den_cond rfl (fun c5 => ?_) (fun c5 => ?_)
        ·try simp only [decide_eq_true_eq, decide_eq_false_iff_not, beq_iff_eq, beq_eq_false_iff_ne, bne_iff_ne, ne_eq, Bool.not_eq_true', Bool.not_eq_false', Bool.and_eq_true, Bool.or_eq_true, bne_eq_false_iff_eq, Bool.not_eq_true, Bool.not_eq_false] at c5
         refine den_seq ?_
         refine den_region TTok ?_
         intro K hK
         simp -implicitDefEqProofs (disch := first | decide | assumption | omega) only [go_sem, wrap_id, bD0]
         refine op_storeB (cs' := #[.int .i64 ((0 : Int)), .slice none 0 0, .slice none 0 0, .slice none 0 0]) st30 hb0_2 rfl rfl rfl (by simp) (allOne_mem (l := [.int .i64 ((0 : Int)), .slice none 0 0, .slice none 0 0, .slice none 0 0]) ⟨rfl, rfl, rfl, rfl, trivial⟩) rfl ?_
         intro h14_1 hb0_2 c14_1
         have := c14_1.size
         replace eB := Ext.then eB c14_1 (ge_of hfhb0_2 (by omega))
         try simp -implicitDefEqProofs (disch := first | decide | assumption | omega) only [go_sem, wrap_id, bD0]
         refine hK _ _ ?_
         clear hK K
         refine den_ret ?_
         simp -implicitDefEqProofs (disch := first | decide | assumption | omega) only [go_sem, BoxAt.cell hb0_2, wrap_id, bD0, resP_ct, ld30]
         rw [show pdP X Y = _ from pdP_4 hXY hpp hs4 (i := i) (j := j) (by omega) (by omega) (by omega)]
         exact ⟨.slice none 0 0, .slice none 0 0, .slice none 0 0, [], [], [], rfl, OS.nil, OS.nil, OS.nil, Fresh.nil _, eB⟩
        ·try simp only [decide_eq_true_eq, decide_eq_false_iff_not, beq_iff_eq, beq_eq_false_iff_ne, bne_iff_ne, ne_eq, Bool.not_eq_true', Bool.not_eq_false', Bool.and_eq_true, Bool.or_eq_true, bne_eq_false_iff_eq, Bool.not_eq_true, Bool.not_eq_false] at c5
         refine den_skip ?_
         refine den_blk ?_
         refine den_region TTok ?_
         intro K hK
         simp -implicitDefEqProofs (disch := first | decide | assumption | omega) only [go_sem, wrap_id, bD0]
         refine hK _ _ ?_
         clear hK K
         refine den_stop ?_
         exact ⟨j + 1, by simp [HasL, puts_at], ⟨by omega, (fun q hq => (Nat.lt_succ_iff_lt_or_eq.1 hq).elim (hr_ q) (fun e => by subst e; omega)), cL14⟩, by first | omega | (dsimp only; omega)⟩
       ·try simp only [decide_eq_true_eq, decide_eq_false_iff_not, beq_iff_eq, beq_eq_false_iff_ne, bne_iff_ne, ne_eq, Bool.not_eq_true', Bool.not_eq_false', Bool.and_eq_true, Bool.or_eq_true, bne_eq_false_iff_eq, Bool.not_eq_true, Bool.not_eq_false] at c4
        refine den_exit ?_
        refine denX_code ?_
        refine denX_stop ?_
        refine denX_hit ?_
        refine den_blk ?_
        refine den_region TTok ?_
        intro K hK
        simp -implicitDefEqProofs (disch := first | decide | assumption | omega) only [go_sem, wrap_id, bD0]
        refine hK _ _ ?_
        clear hK K
        refine den_stop ?_
        exact ⟨i + 1, by simp [HasL, puts_at], ⟨by omega, (fun q hq j' hj' => (Nat.lt_succ_iff_lt_or_eq.1 hq).elim (fun h => hq_ q h j' hj') (fun e => by subst e; exact hr_ j' (by omega))), cL10⟩, by first | omega | (dsimp only; omega)⟩
     ·try simp only [decide_eq_true_eq, decide_eq_false_iff_not, beq_iff_eq, beq_eq_false_iff_ne, bne_iff_ne, ne_eq, Bool.not_eq_true', Bool.not_eq_false', Bool.and_eq_true, Bool.or_eq_true, bne_eq_false_iff_eq, Bool.not_eq_true, Bool.not_eq_false] at c3
      refine den_exit ?_
      refine denX_code ?_
      refine denX_stop ?_
      refine denX_hit ?_
      refine den_seq ?_
      refine den_region TTok ?_
      intro K hK
      simp -implicitDefEqProofs (disch := first | decide | assumption | omega) only [go_sem, ld33, RdS.len hdX sl22, RdS.idx hdX sl22, R1.intB hdX (Ext.pres eB), RdS.cells hdX, RdS.len hmX sl23, RdS.idx hmX sl23, RdS.cellB hmX (Ext.pres eB), RdS.cells hmX, RdS.len hdY sl22, RdS.idx hdY sl22, R1.intB hdY (Ext.pres eB), RdS.cells hdY, RdS.len hmY sl23, RdS.idx hmY sl23, RdS.cellB hmY (Ext.pres eB), RdS.cells hmY, BoxAt.cell hb0_0, BoxAt.cell hb0_1, wrap_id, bD0]
      try simp -implicitDefEqProofs (disch := first | decide | assumption | omega) only [go_sem, BoxAt.cell hb0_2, wrap_id, bD0]
      refine CallA.mono (sPd_ok _ _ X Y _ ⟨_, _, rfl, (RdS.pres hdX (Ext.pres eB)), (RdS.pres hmX (Ext.pres eB))⟩ ⟨_, _, rfl, (RdS.pres hdY (Ext.pres eB)), (RdS.pres hmY (Ext.pres eB))⟩ hX hY hpp) ?_
      intro v_ h15_2
      rintro ⟨vd15_2_0, va15_2_0, vb15_2_0, fd15_2_0, fa15_2_0, fb15_2_0, rfl, hod15_2_0, hoa15_2_0, hob15_2_0, hf15_2_0, e15_2⟩
      replace hb0_0 := BoxAt.ext hb0_0 e15_2
      replace hb0_1 := BoxAt.ext hb0_1 e15_2
      replace hb0_2 := BoxAt.ext hb0_2 e15_2
      have := Ext.size e15_2
      replace eB := Ext.trans eB e15_2
      have hfd15_2_0 := hf15_2_0.left
      have hf15_2_0r0 := hf15_2_0.right
      have hfa15_2_0 := hf15_2_0r0.left
      have hfb15_2_0 := hf15_2_0r0.right
      have hlhod15_2_0 := OS.lt hod15_2_0
      have hlhoa15_2_0 := OS.lt hoa15_2_0
      have hlhob15_2_0 := OS.lt hob15_2_0
      have ap17 : Apart fd15_2_0 fa15_2_0 := Apart.lft (apart_nodup hf15_2_0)
      have ap18 : Apart fd15_2_0 fb15_2_0 := Apart.rgt (apart_nodup hf15_2_0)
      have ap19 : Apart fa15_2_0 fb15_2_0 := apart_nodup hf15_2_0r0
      try simp -implicitDefEqProofs (disch := first | decide | assumption | omega) only [go_sem, BoxAt.cell hb0_2, wrap_id, bD0]
      refine op_storeB (cs' := #[.int .i64 (((pdR X Y).p)), vd15_2_0, va15_2_0, vb15_2_0]) st30 hb0_2 rfl rfl rfl (by simp) (allOne_mem (l := [.int .i64 (((pdR X Y).p)), vd15_2_0, va15_2_0, vb15_2_0]) ⟨rfl, (OS.one hod15_2_0).1, (OS.one hoa15_2_0).1, (OS.one hob15_2_0).1, trivial⟩) rfl ?_
      intro h15_3 hb0_2 c15_3
      replace hod15_2_0 := OS.chg hod15_2_0 c15_3 (apart_gt hfd15_2_0 hlhb0_2 (by omega))
      replace hoa15_2_0 := OS.chg hoa15_2_0 c15_3 (apart_gt hfa15_2_0 hlhb0_2 (by omega))
      replace hob15_2_0 := OS.chg hob15_2_0 c15_3 (apart_gt hfb15_2_0 hlhb0_2 (by omega))
      replace hb0_0 := BoxAt.chgA hb0_0 c15_3 (apart_lt hlhb0_0 hfhb0_2 (by omega))
      replace hb0_1 := BoxAt.chgA hb0_1 c15_3 (apart_lt hlhb0_1 hfhb0_2 (by omega))
      have := c15_3.size
      replace eB := Ext.then eB c15_3 (ge_of hfhb0_2 (by omega))
      try simp -implicitDefEqProofs (disch := first | decide | assumption | omega) only [go_sem, wrap_id, bD0]
      refine hK _ _ ?_
      clear hK K
      refine den_ret ?_
      simp -implicitDefEqProofs (disch := first | decide | assumption | omega) only [go_sem, RdS.len (OS.rd hod15_2_0) sl27, RdS.idx (OS.rd hod15_2_0) sl27, RdS.cellN (OS.rd hod15_2_0), RdS.cells (OS.rd hod15_2_0), RdS.len (OS.rd hoa15_2_0) sl28, RdS.idx (OS.rd hoa15_2_0) sl28, RdS.cellN (OS.rd hoa15_2_0), RdS.cells (OS.rd hoa15_2_0), RdS.len (OS.rd hob15_2_0) sl28, RdS.idx (OS.rd hob15_2_0) sl28, RdS.cellN (OS.rd hob15_2_0), RdS.cells (OS.rd hob15_2_0), BoxAt.cell hb0_2, wrap_id, bD0, resP_ct, ld30]
      rw [show pdP X Y = _ from pdP_0 hXY hpp hs4 (fun q hq j' hj' => hq_ q (by omega) j' hj')]
      exact ⟨_, _, _, _, _, _, rfl, hod15_2_0, hoa15_2_0, hob15_2_0, Fresh.two hfd15_2_0 (Fresh.two hfa15_2_0 hfb15_2_0 ap19 (by omega) (by omega)) (Apart.app ap17 ap18) (by omega) (by omega), eB⟩
end Go.Proofs.Ytkdnnfkdgmblgaa

namespace Go.Proofs.Ytkdnnfkdgmblgaa
open Go
abbrev flA (X Y : Cx) (r c : Nat) : List (List Int) := spT true X.p 1 (mapP X (r : Int)) (X.dims.getD r 0) (dimP X ((r : Int) - 1)) (Y.dims.getD c 0)
abbrev flB (X Y : Cx) (r c : Nat) : List (List Int) := spT false X.p (1 - 2 * Int.tmod (r : Int) 2) (mapP Y (c : Int)) (Y.dims.getD c 0) (dimP Y ((c : Int) - 1)) (X.dims.getD r 0)
abbrev pdDl (X Y : Cx) : List (List Int) := (List.range X.dims.length).map (pdDr X Y)
section
variable {X Y : Cx} {i j : Nat}
theorem pdDl_len : (pdDl X Y).length = X.dims.length := by simp
theorem pdDl_row (hi : i < X.dims.length) : (pdDl X Y).getD i default = pdDr X Y i := getD_map_range (pdDr X Y) hi
theorem pdDl_rl (hi : i < X.dims.length) : ((pdDl X Y).getD i default).length = Y.dims.length := by rw [pdDl_row hi, pdDr]; simp
theorem pdDl_at (hi : i < X.dims.length) (hj : j < Y.dims.length) : ((pdDl X Y).getD i default).getD j 0 = X.dims.getD i 0 * Y.dims.getD j 0 := by
 rw [pdDl_row hi, pdDr, List.getD_eq_getElem?_getD, List.getElem?_eq_getElem (by simpa using hj)]
 simp
theorem flA_it : itA X Y i j (X.dims.getD i 0).toNat 0 = flA X Y i j := by
 rw [show itA X Y i j (X.dims.getD i 0).toNat 0 = tbA (rwA X Y i j) (Y.dims.getD j 0).toNat (X.dims.getD i 0).toNat from tbA_iT _ _ _ _]
 rfl
theorem flB_it : itB X Y i j (X.dims.getD i 0).toNat 0 = flB X Y i j := by
 rw [show itB X Y i j (X.dims.getD i 0).toNat 0 = tbA (rwB X Y i j) (Y.dims.getD j 0).toNat (X.dims.getD i 0).toNat from tbA_iT _ _ _ _]
 rfl
theorem toNat_mul8 {x y : Int} (hx : 0 ≤ x) (hy : 0 ≤ y) : (x * y).toNat = x.toNat * y.toNat := by
 obtain ⟨a, rfl⟩ := Int.eq_ofNat_of_zero_le hx
 obtain ⟨b, rfl⟩ := Int.eq_ofNat_of_zero_le hy
 rw [← Int.natCast_mul]; rfl
theorem dimQ_l (hX : IsC X) (hi : i < X.dims.length) (hj : j < Y.dims.length) : dimQ (pdDl X Y) ((i : Int) - 1) (j : Int) = dimP X ((i : Int) - 1) * Y.dims.getD j 0 := by
 cases i with
 | zero => rw [dimQ_f (by omega), show dimP X (((0 : Nat) : Int) - 1) = 0 by rw [dimP, if_neg (by rw [in3_iff]; omega)], Int.zero_mul]
 | succ q =>
  rw [show ((q + 1 : Nat) : Int) - 1 = (q : Nat) by omega, dimQ_t ⟨by rw [pdDl_len]; omega, by omega, by rw [pdDl_rl (by omega)]; omega⟩, Int.toNat_natCast, Int.toNat_natCast, pdDl_at (by omega) hj, dimD_nat]
theorem dimQ_r (hY : IsC Y) (hi : i < X.dims.length) (hj : j < Y.dims.length) : dimQ (pdDl X Y) (i : Int) ((j : Int) - 1) = X.dims.getD i 0 * dimP Y ((j : Int) - 1) := by
 cases j with
 | zero => rw [dimQ_f (by omega), show dimP Y (((0 : Nat) : Int) - 1) = 0 by rw [dimP, if_neg (by rw [in3_iff]; omega)], Int.mul_zero]
 | succ q =>
  rw [show ((q + 1 : Nat) : Int) - 1 = (q : Nat) by omega, dimQ_t ⟨by rw [pdDl_len]; omega, by omega, by rw [pdDl_rl (by omega)]; omega⟩, Int.toNat_natCast, Int.toNat_natCast, pdDl_at hi (by omega), dimD_nat]
theorem itA_blank (hX : IsC X) (hY : IsC Y) (hi : i < X.dims.length) (hj : j < Y.dims.length) : blR (((pdDl X Y).getD i default).getD j 0) (dimQ (pdDl X Y) ((i : Int) - 1) (j : Int)) = itA X Y i j 0 0 := by
 rw [show itA X Y i j 0 0 = _ from iT_0, blR, pdDl_at hi hj, dimQ_l hX hi hj, toNat_mul8 (dimsD_nat hX i).1 (dimsD_nat hY j).1]
theorem itB_blank (hX : IsC X) (hY : IsC Y) (hi : i < X.dims.length) (hj : j < Y.dims.length) : blR (((pdDl X Y).getD i default).getD j 0) (dimQ (pdDl X Y) (i : Int) ((j : Int) - 1)) = itB X Y i j 0 0 := by
 rw [show itB X Y i j 0 0 = _ from iT_0, blR, pdDl_at hi hj, dimQ_r hY hi hj, toNat_mul8 (dimsD_nat hX i).1 (dimsD_nat hY j).1]
end
abbrev tA (X Y : Cx) (i j : Nat) := ptT (flA X Y) (fun r c => itA X Y r c 0 0) X.dims.length Y.dims.length i j
abbrev tB (X Y : Cx) (i j : Nat) := ptT (flB X Y) (fun r c => itB X Y r c 0 0) X.dims.length Y.dims.length i j
theorem tA_0 {X Y : Cx} (hX : IsC X) (hY : IsC Y) : baF (pdDl X Y) Y.dims.length = tA X Y 0 0 := by
 rw [show tA X Y 0 0 = _ from ptT_0, baF, blF, pdDl_len]
 apply List.map_congr_left
 intro r hr
 apply List.map_congr_left
 intro c hc
 rw [List.mem_range] at hr hc
 exact itA_blank hX hY hr hc
theorem tB_0 {X Y : Cx} (hX : IsC X) (hY : IsC Y) : bbF (pdDl X Y) Y.dims.length = tB X Y 0 0 := by
 rw [show tB X Y 0 0 = _ from ptT_0, bbF, blF, pdDl_len]
 apply List.map_congr_left
 intro r hr
 apply List.map_congr_left
 intro c hc
 rw [List.mem_range] at hr hc
 exact itB_blank hX hY hr hc
theorem tA_end {X Y : Cx} : tA X Y X.dims.length 0 = (pdR X Y).ac := ptT_end
theorem tB_end {X Y : Cx} : tB X Y X.dims.length 0 = (pdR X Y).dn := ptT_end
structure PRel (X Y : Cx) (h0 : Heap) (vdX vmX vdY vmY vd va vb : Value) (b2 b3 b4 b5 : Nat) (fA fB : List Nat) (i j : Nat) (H : Heap) : Prop where
 A : O4 H va (tA X Y i j) fA
 B : O4 H vb (tB X Y i j) fB
 e : Ext h0 H
 b2 : BoxAt H b2 #[.int .i64 X.p, vdX, vmX] 33
 b3 : BoxAt H b3 #[.int .i64 Y.p, vdY, vmY] 33
 b4 : BoxAt H b4 #[.int .i64 X.p, vd, va, vb] 30
 b5 : BoxAt H b5 #[.int .i64 X.p] 2
theorem pd_each {X Y : Cx} {h0 hs : Heap} {vdX vmX vdY vmY vd va vb : Value} {b2 b3 b4 b5 : Nat} {fA fB : List Nat} (hX : IsC X) (hY : IsC Y) (hpp : X.p = Y.p) (hdX : R1 h0 vdX X.dims) (hmX : R3 h0 vmX X.maps) (hdY : R1 h0 vdY Y.dims) (hmY : R3 h0 vmY Y.maps) (hd : R2 h0 vd (pdDl X Y))
  (hfA : Fresh h0.size fA) (hfB : Fresh h0.size fB) (apAB : Apart fA fB) (hnA : b2 ∉ fA ∧ b3 ∉ fA ∧ b4 ∉ fA ∧ b5 ∉ fA) (hnB : b2 ∉ fB ∧ b3 ∉ fB ∧ b4 ∉ fB ∧ b5 ∉ fB) (r0 : PRel X Y h0 vdX vmX vdY vmY vd va vb b2 b3 b4 b5 fA fB 0 0 hs) :
  CallA Try.prog 21 #[.agg #[.int .i64 X.p, vd, va, vb], .func (.func 22) #[] #[.pointer (some ⟨b2, 0, none⟩), .pointer (some ⟨b3, 0, none⟩), .pointer (some ⟨b4, 0, none⟩), .pointer (some ⟨b5, 0, none⟩)]] hs fun v' H' => v' = .tuple #[] ∧ PRel X Y h0 vdX vmX vdY vmY vd va vb b2 b3 b4 b5 fA fB X.dims.length 0 H' := by
 have hlX := hX.len
 have hlY := hY.len
 refine (eachD_ok X.p (PRel X Y h0 vdX vmX vdY vmY vd va vb b2 b3 b4 b5 fA fB) _ _ (pdDl X Y) Y.dims.length vd va vb h0 hd (fun h1 => pdDl_rl (by rw [pdDl_len] at h1; omega)) (by omega) hs r0 ?_ (fun i j H r => r.e) ?_ ?_).mono (fun v' H' q => ⟨q.1, by have := q.2; rw [pdDl_len] at this; exact this⟩)
 ·intro i j H H' r e
  exact ⟨OS.ext r.A e, OS.ext r.B e, r.e.trans e, r.b2.ext e, r.b3.ext e, r.b4.ext e, r.b5.ext e⟩
 ·intro i H r
  have e1 : tA X Y i Y.dims.length = tA X Y (i + 1) 0 := ptT_m
  have e2 : tB X Y i Y.dims.length = tB X Y (i + 1) 0 := ptT_m
  exact ⟨e1 ▸ r.A, e2 ▸ r.B, r.e, r.b2, r.b3, r.b4, r.b5⟩
 ·intro i j H hi hj hlt r
  rw [pdDl_len] at hi
  simp only [List.append_toArray, List.cons_append, List.nil_append]
  have lA : (tA X Y i j).length = X.dims.length := ptT_len
  have lB : (tB X Y i j).length = X.dims.length := ptT_len
  have kA_ : ((tA X Y i j).getD i default).length = Y.dims.length := ptT_row hi
  have kB_ : ((tB X Y i j).getD i default).length = Y.dims.length := ptT_row hi
  have cA : ((tA X Y i j).getD i default).getD j default = itA X Y i j 0 0 := ptT_cell hi hj
  have cB : ((tB X Y i j).getD i default).getD j default = itB X Y i j 0 0 := ptT_cell hi hj
  have sA_ : setC (tA X Y i j) i j (itA X Y i j 0 0) = tA X Y i j := by rw [← cA]; exact setC_same (by omega) (by omega)
  have sB_ : setC (tB X Y i j) i j (itB X Y i j 0 0) = tB X Y i j := by rw [← cB]; exact setC_same (by omega) (by omega)
  refine (iPd1_ok X Y vdX vmX vdY vmY vd va vb (tA X Y i j) (tB X Y i j) i j b2 b3 b4 b5 fA fB h0 H hdX hmX hdY hmY r.e r.b2 r.b3 r.b4 r.b5 (by rw [sA_]; exact r.A) (by rw [sB_]; exact r.B) hfA hfB apAB hnA hnB hX hY hpp hi hj ⟨by omega, by omega⟩ ⟨by omega, by omega⟩).mono ?_
  rintro u H' ⟨_, oA, oB, c⟩
  rw [flA_it, show setC (tA X Y i j) i j (flA X Y i j) = tA X Y i (j + 1) from ptT_step hi hj] at oA
  rw [flB_it, show setC (tB X Y i j) i j (flB X Y i j) = tB X Y i (j + 1) from ptT_step hi hj] at oB
  have hz : ∀ b, b ∉ fA → b ∉ fB → b ∉ fA ++ fB := fun b h1 h2 hm => (List.mem_append.1 hm).elim h1 h2
  have hs0 := Ext.size r0.e
  refine ⟨⟨oA, oB, Ext.then r.e c (fun b hb => (List.mem_append.1 hb).elim (hfA.ge b) (hfB.ge b)), r.b2.chg c (hz _ hnA.1 hnB.1), r.b3.chg c (hz _ hnA.2.1 hnB.2.1), r.b4.chg c (hz _ hnA.2.2.1 hnB.2.2.1), r.b5.chg c (hz _ hnA.2.2.2 hnB.2.2.2)⟩, fA ++ fB, c, fun hm => ?_⟩
  rcases List.mem_append.1 hm with h1 | h1
  ·have := OS.lt r0.A _ h1; omega
  ·have := OS.lt r0.B _ h1; omega
end Go.Proofs.Ytkdnnfkdgmblgaa
