/-
  What the statement FnExactSwapFamily uses of the walks, part 3.
  Conditions: each theorem's own.
-/
import Derived.Test.YtffggocjkhcgeaaG16
import Derived.Test.YtffggocjkhcgeaaG17
import Derived.Test.YtffggocjkhcgeaaG14
import Derived.Test.YtffggocjkhcgeaaG13
import Derived.Test.YtffggocjkhcgeaaG15
import Derived.Test.YtffggocjkhcgeaaG18
import Derived.Test.YtffggocjkhcgeaaG21
import Derived.Test.YtffggocjkhcgeaaZSwapFamily1
import Derived.Test.YtffggocjkhcgeaaZSwapFamily2
set_option linter.unusedVariables false
set_option linter.unusedSimpArgs false
namespace Go.Proofs.Ytffggocjkhcgeaa
open Go
theorem t_all1 {X Y : Cx} (hX : IsC X) (hY : IsC Y) {k i j : Nat} {v : Int} (hi : i < (X.maps.getD k default).length) (hj : j < ((X.maps.getD k default).getD i default).length) (n : Nat) : ∀ u ∈ upL (tF1 X Y k i j v) (fun q => (dimP Y q).toNat) n, InU ((tdP X Y).length - 1) (tA X Y) (tB X Y) u := fun u hu => by
 obtain ⟨q, m, _, hm, rfl⟩ := mem_upL hu
 exact t_in1 hX hY hi hj hm
theorem t_all2 {X Y : Cx} (hX : IsC X) (hY : IsC Y) {k i j : Nat} {v : Int} (hi : i < (Y.maps.getD k default).length) (hj : j < ((Y.maps.getD k default).getD i default).length) (n : Nat) : ∀ u ∈ upL (tF2 X Y k i j v) (fun q => (dimP X q).toNat) n, InU ((tdP X Y).length - 1) (tA X Y) (tB X Y) u := fun u hu => by
 obtain ⟨q, m, _, hm, rfl⟩ := mem_upL hu
 exact t_in2 hX hY hi hj hm
theorem t_row1 {X Y : Cx} (hX : IsC X) (hY : IsC Y) {k i j : Nat} {v : Int} (hi : i < (X.maps.getD k default).length) (hj : j < ((X.maps.getD k default).getD i default).length) (q n : Nat) (hn : (n : Int) ≤ dimP Y (q : Int)) : ∀ u ∈ (List.range n).map (tF1 X Y k i j v q), InU ((tdP X Y).length - 1) (tA X Y) (tB X Y) u := fun u hu => by
 obtain ⟨m, hm, rfl⟩ := List.mem_map.1 hu
 rw [List.mem_range] at hm
 exact t_in1 hX hY hi hj (by omega)
theorem t_row2 {X Y : Cx} (hX : IsC X) (hY : IsC Y) {k i j : Nat} {v : Int} (hi : i < (Y.maps.getD k default).length) (hj : j < ((Y.maps.getD k default).getD i default).length) (q n : Nat) (hn : (n : Int) ≤ dimP X (q : Int)) : ∀ u ∈ (List.range n).map (tF2 X Y k i j v q), InU ((tdP X Y).length - 1) (tA X Y) (tB X Y) u := fun u hu => by
 obtain ⟨m, hm, rfl⟩ := List.mem_map.1 hu
 rw [List.mem_range] at hm
 exact t_in2 hX hY hi hj (by omega)
theorem applyU_step {p : Int} {M : M3} {g : Nat → Upd} {m : Nat} : applyU p M ((List.range (m + 1)).map g) = upd3 p (applyU p M ((List.range m).map g)) (g m).1.1 (g m).1.2.1 (g m).1.2.2 (g m).2 := by
 rw [List.range_succ, List.map_append, applyU_app]; rfl
theorem sg_v {q : Nat} {v : Int} (hv : -7 ≤ v ∧ v ≤ 7) : -7 ≤ (1 - (q : Int).tmod 2 * 2) * v ∧ (1 - (q : Int).tmod 2 * 2) * v ≤ 7 := by
 have h1 := Int.tmod_nonneg 2 (show (0 : Int) ≤ (q : Int) by omega)
 have h2 := Int.tmod_lt_of_pos (q : Int) (show (0 : Int) < 2 by decide)
 have : (q : Int).tmod 2 = 0 ∨ (q : Int).tmod 2 = 1 := by omega
 rcases this with e | e <;> rw [e] <;> omega

set_option maxRecDepth 100000 in
theorem ten1_ok (X Y : Cx) (vdX vmX vdY vmY vD vw : Value) (M : M3) (f : List Nat) (k i j : Nat) (v : Int) (bO bY bX : Nat) (Ot : Heap → Prop) (h0 h : Heap) (hdX : R1 h0 vdX X.dims) (hmX : R3 h0 vmX X.maps) (hdY : R1 h0 vdY Y.dims) (hmY : R3 h0 vmY Y.maps) (hX : IsC X) (hY : IsC Y) (hi : i < (X.maps.getD k default).length) (hj : j < ((X.maps.getD k default).getD i default).length) (hv : -7 ≤ v ∧ v ≤ 7) (hom : O3 h vw M f) (hsh : Sh ((tdP X Y).length - 1) (tA X Y) (tB X Y) M) (hin : In3 X.p ((tdP X Y).length - 1) (tA X Y) (tB X Y) M) (hn : f.Nodup) (eB : Ext h0 h) (hge : ∀ b ∈ f, h0.size ≤ b) (hOt : Ot h) (hot : ∀ H H', Chg f H H' → Ot H → Ot H') (hE : ∀ H, Ot H → BoxAt H bO #[.int .i64 X.p, vD, vw] 30 ∧ BoxAt H bY #[.int .i64 Y.p, vdY, vmY] 30 ∧ BoxAt H bX #[.int .i64 X.p, vdX, vmX] 30 ∧ R1 H vD (tdP X Y)) : CallA Try.prog 148 #[.int .i64 ((k : Int) + 1), .int .i64 (i : Int), .int .i64 (j : Int), .int .i64 v, .pointer (some ⟨bY, 0, none⟩), .pointer (some ⟨bO, 0, none⟩), .pointer (some ⟨bX, 0, none⟩)] h fun v' h' => v' = .tuple #[] ∧ O3 h' vw (applyU X.p M (tU1 X Y k i j v)) f ∧ Chg f h h' := by
 obtain ⟨hbO, hbY, hbX, rD⟩ := hE _ hOt
 have hlX := hX.len
 have hlY := hY.len
 have hledX := RdS.le hdX
 have hledY := RdS.le hdY
 have hkm := maps_lt hi
 have hmm := hX.ml
 have hrd := row_dim hX hi
 have hcd := col_dim hX hi hj
 have hb1 := dimP_bnd hX ((k + 1 : Nat) : Int)
 have hb2 := dimP_bnd hX (k : Int)
 have hpb := isP_bnd hX.p
 have hlM := OS.lt hom
 refine callA_intro TTok (args := [_, _, _, _, _, _, _]) Try.func148 (by kernel_rfl) rfl 48 rfl (by simp) [] rfl ?_
 simp only [idxs, Nat.reduceAdd]
 refine den_seq ?_
 refine den_region TTok ?_
 intro K hK
 simp -implicitDefEqProofs (disch := first | decide | assumption | omega) only [go_sem, fa30_1, ld22, RdS.len hdX sl22, RdS.idx hdX sl22, R1.intB hdX (Ext.pres eB), RdS.cells hdX, RdS.len hmX sl23, RdS.idx hmX sl23, RdS.cellB hmX (Ext.pres eB), RdS.cells hmX, RdS.len hdY sl22, RdS.idx hdY sl22, R1.intB hdY (Ext.pres eB), RdS.cells hdY, RdS.len hmY sl23, RdS.idx hmY sl23, RdS.cellB hmY (Ext.pres eB), RdS.cells hmY, RdS.len (OS.rd hom) sl23, RdS.idx (OS.rd hom) sl23, RdS.cellN (OS.rd hom), RdS.cells (OS.rd hom), BoxAt.cell hbO, BoxAt.cell hbY, BoxAt.cell hbX, wrap_id, Int.add_sub_cancel]
 try simp -implicitDefEqProofs (disch := first | decide | assumption | omega) only [go_sem, RdS.len hdX sl22, RdS.idx hdX sl22, R1.intB hdX (Ext.pres eB), RdS.cells hdX, RdS.len hmX sl23, RdS.idx hmX sl23, RdS.cellB hmX (Ext.pres eB), RdS.cells hmX, RdS.len hdY sl22, RdS.idx hdY sl22, R1.intB hdY (Ext.pres eB), RdS.cells hdY, RdS.len hmY sl23, RdS.idx hmY sl23, RdS.cellB hmY (Ext.pres eB), RdS.cells hmY, RdS.len (OS.rd hom) sl23, RdS.idx (OS.rd hom) sl23, RdS.cellN (OS.rd hom), RdS.cells (OS.rd hom), BoxAt.cell hbO, BoxAt.cell hbY, BoxAt.cell hbX, wrap_id, Int.add_sub_cancel]
 refine CallA.pure (size1_ok _ _ _ (RdS.pres hdY (Ext.pres eB))) ?_
 try simp -implicitDefEqProofs (disch := first | decide | assumption | omega) only [go_sem, RdS.len hdX sl22, RdS.idx hdX sl22, R1.intB hdX (Ext.pres eB), RdS.cells hdX, RdS.len hmX sl23, RdS.idx hmX sl23, RdS.cellB hmX (Ext.pres eB), RdS.cells hmX, RdS.len hdY sl22, RdS.idx hdY sl22, R1.intB hdY (Ext.pres eB), RdS.cells hdY, RdS.len hmY sl23, RdS.idx hmY sl23, RdS.cellB hmY (Ext.pres eB), RdS.cells hmY, RdS.len (OS.rd hom) sl23, RdS.idx (OS.rd hom) sl23, RdS.cellN (OS.rd hom), RdS.cells (OS.rd hom), BoxAt.cell hbO, BoxAt.cell hbY, BoxAt.cell hbX, wrap_id, Int.add_sub_cancel]
 refine hK _ _ ?_
 clear hK K
 refine den_block ?_
 refine den_sel [16, 0, 1, 2, 3, 4, 5, 6, 15] ?_
 intro env_1
 simp only [go_sem]
 refine den_loopS (σ := Nat) (fun s => [(16, .int .i64 (s : Int))]) (fun s H => Ext h0 H ∧ s ≤ Y.dims.length ∧ O3 H vw (applyU X.p M (upL (tF1 X Y k i j v) (fun q => (dimP Y q).toNat) s)) f ∧ Chg f h H ∧ Ot H ∧ BoxAt H bO #[.int .i64 X.p, vD, vw] 30 ∧ BoxAt H bY #[.int .i64 Y.p, vdY, vmY] 30 ∧ BoxAt H bX #[.int .i64 X.p, vdX, vmX] 30 ∧ R1 H vD (tdP X Y)) (fun s => Y.dims.length - s) 0 ?_ ?_
 ·exact ⟨eB, by omega, by rw [upL, applyU]; exact hom, Chg.refl _ _, hOt, hE _ hOt⟩
 ·rintro q h4 ee3 ⟨eB, hq, hom, hch, hOt, hbO, hbY, hbX, rD⟩
  simp only [List.cons_append, List.nil_append]
  have := Ext.size eB
  refine den_seq ?_
  refine den_region TTok ?_
  intro K hK
  simp -implicitDefEqProofs (disch := first | decide | assumption | omega) only [go_sem, RdS.len hdX sl22, RdS.idx hdX sl22, R1.intB hdX (Ext.pres eB), RdS.cells hdX, RdS.len hmX sl23, RdS.idx hmX sl23, RdS.cellB hmX (Ext.pres eB), RdS.cells hmX, RdS.len hdY sl22, RdS.idx hdY sl22, R1.intB hdY (Ext.pres eB), RdS.cells hdY, RdS.len hmY sl23, RdS.idx hmY sl23, RdS.cellB hmY (Ext.pres eB), RdS.cells hmY, RdS.len (OS.rd hom) sl23, RdS.idx (OS.rd hom) sl23, RdS.cellN (OS.rd hom), RdS.cells (OS.rd hom), BoxAt.cell hbO, BoxAt.cell hbY, BoxAt.cell hbX, wrap_id, Int.add_sub_cancel]
  refine hK _ _ ?_
  clear hK K
  refine den_seq ?_
  refine den_cond rfl (fun c0 => ?_) (fun c0 => ?_)
  ·try simp only [decide_eq_true_eq, decide_eq_false_iff_not, beq_iff_eq, beq_eq_false_iff_ne, bne_iff_ne, ne_eq, Bool.not_eq_true', Bool.not_eq_false', Bool.and_eq_true, Bool.or_eq_true, bne_eq_false_iff_eq] at c0
   refine den_skip ?_
   refine den_seq ?_
   refine den_block ?_
   refine den_seq ?_
   refine den_region TTok ?_
   intro K hK
   simp -implicitDefEqProofs (disch := first | decide | assumption | omega) only [go_sem, RdS.len hdX sl22, RdS.idx hdX sl22, R1.intB hdX (Ext.pres eB), RdS.cells hdX, RdS.len hmX sl23, RdS.idx hmX sl23, RdS.cellB hmX (Ext.pres eB), RdS.cells hmX, RdS.len hdY sl22, RdS.idx hdY sl22, R1.intB hdY (Ext.pres eB), RdS.cells hdY, RdS.len hmY sl23, RdS.idx hmY sl23, RdS.cellB hmY (Ext.pres eB), RdS.cells hmY, RdS.len (OS.rd hom) sl23, RdS.idx (OS.rd hom) sl23, RdS.cellN (OS.rd hom), RdS.cells (OS.rd hom), BoxAt.cell hbO, BoxAt.cell hbY, BoxAt.cell hbX, wrap_id, Int.add_sub_cancel]
   refine hK _ _ ?_
   clear hK K
   refine den_seq ?_
   have hbq := dimP_bnd hY (q : Int)
   refine den_region TTok ?_
   intro K hK
   simp -implicitDefEqProofs (disch := first | decide | assumption | omega) only [go_sem, ld30, RdS.len hdX sl22, RdS.idx hdX sl22, R1.intB hdX (Ext.pres eB), RdS.cells hdX, RdS.len hmX sl23, RdS.idx hmX sl23, RdS.cellB hmX (Ext.pres eB), RdS.cells hmX, RdS.len hdY sl22, RdS.idx hdY sl22, R1.intB hdY (Ext.pres eB), RdS.cells hdY, RdS.len hmY sl23, RdS.idx hmY sl23, RdS.cellB hmY (Ext.pres eB), RdS.cells hmY, RdS.len (OS.rd hom) sl23, RdS.idx (OS.rd hom) sl23, RdS.cellN (OS.rd hom), RdS.cells (OS.rd hom), BoxAt.cell hbO, BoxAt.cell hbY, BoxAt.cell hbX, wrap_id, Int.add_sub_cancel]
   try simp -implicitDefEqProofs (disch := first | decide | assumption | omega) only [go_sem, RdS.len hdX sl22, RdS.idx hdX sl22, R1.intB hdX (Ext.pres eB), RdS.cells hdX, RdS.len hmX sl23, RdS.idx hmX sl23, RdS.cellB hmX (Ext.pres eB), RdS.cells hmX, RdS.len hdY sl22, RdS.idx hdY sl22, R1.intB hdY (Ext.pres eB), RdS.cells hdY, RdS.len hmY sl23, RdS.idx hmY sl23, RdS.cellB hmY (Ext.pres eB), RdS.cells hmY, RdS.len (OS.rd hom) sl23, RdS.idx (OS.rd hom) sl23, RdS.cellN (OS.rd hom), RdS.cells (OS.rd hom), BoxAt.cell hbO, BoxAt.cell hbY, BoxAt.cell hbX, wrap_id, Int.add_sub_cancel]
   refine CallA.mono (iDim_ok _ Y _ _ ⟨_, _, rfl, (RdS.pres hdY (Ext.pres eB)), (RdS.pres hmY (Ext.pres eB))⟩) ?_
   intro v_ h3_2
   rintro ⟨rfl, e3_2⟩
   replace hom := OS.ext hom e3_2
   replace hbO := BoxAt.ext hbO e3_2
   replace hbY := BoxAt.ext hbY e3_2
   replace hbX := BoxAt.ext hbX e3_2
   replace rD := RdS.pres rD (Ext.pres e3_2)
   have := Ext.size e3_2
   replace eB := Ext.trans eB e3_2
   try simp -implicitDefEqProofs (disch := first | decide | assumption | omega) only [go_sem, RdS.len hdX sl22, RdS.idx hdX sl22, R1.intB hdX (Ext.pres eB), RdS.cells hdX, RdS.len hmX sl23, RdS.idx hmX sl23, RdS.cellB hmX (Ext.pres eB), RdS.cells hmX, RdS.len hdY sl22, RdS.idx hdY sl22, R1.intB hdY (Ext.pres eB), RdS.cells hdY, RdS.len hmY sl23, RdS.idx hmY sl23, RdS.cellB hmY (Ext.pres eB), RdS.cells hmY, RdS.len (OS.rd hom) sl23, RdS.idx (OS.rd hom) sl23, RdS.cellN (OS.rd hom), RdS.cells (OS.rd hom), BoxAt.cell hbO, BoxAt.cell hbY, BoxAt.cell hbX, wrap_id, Int.add_sub_cancel]
   refine hK _ _ ?_
   clear hK K
   refine den_block ?_
   refine den_sel [22, 0, 1, 2, 3, 4, 5, 6, 11, 15, 16, 21] ?_
   intro env_5
   simp only [go_sem]
   refine den_loopS (σ := Nat) (fun s => [(22, .int .i64 (s : Int))]) (fun s H => Ext h0 H ∧ (s : Int) ≤ dimP Y (q : Int) ∧ O3 H vw (applyU X.p (applyU X.p M (upL (tF1 X Y k i j v) (fun q => (dimP Y q).toNat) q)) ((List.range s).map (tF1 X Y k i j v q))) f ∧ Chg f h H ∧ Ot H ∧ BoxAt H bO #[.int .i64 X.p, vD, vw] 30 ∧ BoxAt H bY #[.int .i64 Y.p, vdY, vmY] 30 ∧ BoxAt H bX #[.int .i64 X.p, vdX, vmX] 30 ∧ R1 H vD (tdP X Y)) (fun s => (dimP Y (q : Int)).toNat - s) 0 ?_ ?_
   ·exact ⟨eB, by omega, hom, hch.trans (Ext.chg e3_2 _), hot _ _ (Ext.chg e3_2 _) hOt, hE _ (hot _ _ (Ext.chg e3_2 _) hOt)⟩
   ·rintro m h8 ee7 ⟨eB, hm, hom, hch, hOt, hbO, hbY, hbX, rD⟩
    simp only [List.cons_append, List.nil_append]
    have := Ext.size eB
    refine den_seq ?_
    refine den_region TTok ?_
    intro K hK
    simp -implicitDefEqProofs (disch := first | decide | assumption | omega) only [go_sem, RdS.len hdX sl22, RdS.idx hdX sl22, R1.intB hdX (Ext.pres eB), RdS.cells hdX, RdS.len hmX sl23, RdS.idx hmX sl23, RdS.cellB hmX (Ext.pres eB), RdS.cells hmX, RdS.len hdY sl22, RdS.idx hdY sl22, R1.intB hdY (Ext.pres eB), RdS.cells hdY, RdS.len hmY sl23, RdS.idx hmY sl23, RdS.cellB hmY (Ext.pres eB), RdS.cells hmY, RdS.len (OS.rd hom) sl23, RdS.idx (OS.rd hom) sl23, RdS.cellN (OS.rd hom), RdS.cells (OS.rd hom), BoxAt.cell hbO, BoxAt.cell hbY, BoxAt.cell hbX, wrap_id, Int.add_sub_cancel]
    refine hK _ _ ?_
    clear hK K
    refine den_seq ?_
    refine den_cond rfl (fun c1 => ?_) (fun c1 => ?_)
    ·try simp only [decide_eq_true_eq, decide_eq_false_iff_not, beq_iff_eq, beq_eq_false_iff_ne, bne_iff_ne, ne_eq, Bool.not_eq_true', Bool.not_eq_false', Bool.and_eq_true, Bool.or_eq_true, bne_eq_false_iff_eq] at c1
     refine den_skip ?_
     refine den_seq ?_
     refine den_block ?_
     refine den_seq ?_
     refine den_region TTok ?_
     intro K hK
     simp -implicitDefEqProofs (disch := first | decide | assumption | omega) only [go_sem, RdS.len hdX sl22, RdS.idx hdX sl22, R1.intB hdX (Ext.pres eB), RdS.cells hdX, RdS.len hmX sl23, RdS.idx hmX sl23, RdS.cellB hmX (Ext.pres eB), RdS.cells hmX, RdS.len hdY sl22, RdS.idx hdY sl22, R1.intB hdY (Ext.pres eB), RdS.cells hdY, RdS.len hmY sl23, RdS.idx hmY sl23, RdS.cellB hmY (Ext.pres eB), RdS.cells hmY, RdS.len (OS.rd hom) sl23, RdS.idx (OS.rd hom) sl23, RdS.cellN (OS.rd hom), RdS.cells (OS.rd hom), BoxAt.cell hbO, BoxAt.cell hbY, BoxAt.cell hbX, wrap_id, Int.add_sub_cancel]
     refine hK _ _ ?_
     clear hK K
     have hS := applyU_sh (p := X.p) (applyU_sh (p := X.p) hsh (t_all1 hX hY (v := v) hi hj q)) (t_row1 hX hY (v := v) hi hj q m (by omega))
     have hI := applyU_in hpb.1 (applyU_sh (p := X.p) hsh (t_all1 hX hY (v := v) hi hj q)) (applyU_in hpb.1 hsh hin (t_all1 hX hY (v := v) hi hj q)) (t_row1 hX hY (v := v) hi hj q m (by omega))
     have hiu := t_in1 hX hY (v := v) hi hj (q := q) (m := m) (by omega)
     have hin1 : k + q < (tdP X Y).length - 1 := hiu.1
     have hin2 : (placeP X Y ((k : Int) + 1) (i : Int) (q : Int) (m : Int)).toNat < tA X Y (k + q) := hiu.2.1
     have hin3 : (placeP X Y (k : Int) (j : Int) (q : Int) (m : Int)).toNat < tB X Y (k + q) := hiu.2.2
     have hr1 := hS.rows _ hin1
     have hr2 := hS.cols _ _ hin1 hin2
     have hi3 := hI _ _ _ hin1 hin2 hin3
     have hsl := hS.len
     have hp0 : 0 ≤ placeP X Y ((k : Int) + 1) (i : Int) (q : Int) (m : Int) := (pl_lt hX hY hrd (show (m : Int) < dimP Y (q : Int) by omega)).1
     have hp1 : 0 ≤ placeP X Y (k : Int) (j : Int) (q : Int) (m : Int) := (pl_lt hX hY hcd (show (m : Int) < dimP Y (q : Int) by omega)).1
     have ek : (((k : Int) + 1 + (q : Int)) - 1).toNat = k + q := by omega
     refine den_draw TTok mixed [20] [(0, true), (1, true), (2, true), (3, true), (4, true), (5, true), (6, true), (7, true), (8, true), (9, true), (11, true), (12, true), (13, true), (14, true), (15, true), (16, true), (17, true), (19, true), (10, false), (18, false), (20, false)] (by kernel_rfl) ?_
     intro K hK
     simp -implicitDefEqProofs (disch := first | decide | assumption | omega) only [go_sem, ld30, RdS.len hdX sl22, RdS.idx hdX sl22, R1.intB hdX (Ext.pres eB), RdS.cells hdX, RdS.len hmX sl23, RdS.idx hmX sl23, RdS.cellB hmX (Ext.pres eB), RdS.cells hmX, RdS.len hdY sl22, RdS.idx hdY sl22, R1.intB hdY (Ext.pres eB), RdS.cells hdY, RdS.len hmY sl23, RdS.idx hmY sl23, RdS.cellB hmY (Ext.pres eB), RdS.cells hmY, RdS.len (OS.rd hom) sl23, RdS.idx (OS.rd hom) sl23, RdS.cellN (OS.rd hom), RdS.cells (OS.rd hom), BoxAt.cell hbO, BoxAt.cell hbY, BoxAt.cell hbX, wrap_id, Int.add_sub_cancel]
     try simp -implicitDefEqProofs (disch := first | decide | assumption | omega) only [go_sem, RdS.len hdX sl22, RdS.idx hdX sl22, R1.intB hdX (Ext.pres eB), RdS.cells hdX, RdS.len hmX sl23, RdS.idx hmX sl23, RdS.cellB hmX (Ext.pres eB), RdS.cells hmX, RdS.len hdY sl22, RdS.idx hdY sl22, R1.intB hdY (Ext.pres eB), RdS.cells hdY, RdS.len hmY sl23, RdS.idx hmY sl23, RdS.cellB hmY (Ext.pres eB), RdS.cells hmY, RdS.len (OS.rd hom) sl23, RdS.idx (OS.rd hom) sl23, RdS.cellN (OS.rd hom), RdS.cells (OS.rd hom), BoxAt.cell hbO, BoxAt.cell hbY, BoxAt.cell hbX, wrap_id, Int.add_sub_cancel]
     refine CallA.mono (iPlace_ok _ _ X Y _ _ _ _ _ ⟨_, _, rfl, (RdS.pres hdX (Ext.pres eB)), (RdS.pres hmX (Ext.pres eB))⟩ ⟨_, _, rfl, (RdS.pres hdY (Ext.pres eB)), (RdS.pres hmY (Ext.pres eB))⟩ hX hY (by omega) (by omega) (by omega) (by omega)) ?_
     intro v_ h6_10
     rintro ⟨rfl, e6_10⟩
     replace hom := OS.ext hom e6_10
     replace hbO := BoxAt.ext hbO e6_10
     replace hbY := BoxAt.ext hbY e6_10
     replace hbX := BoxAt.ext hbX e6_10
     replace rD := RdS.pres rD (Ext.pres e6_10)
     have := Ext.size e6_10
     replace eB := Ext.trans eB e6_10
     try simp (disch := decide) only [outv_some, outv_none, put_puts]
     refine plK_pres (Ext.pres e6_10) ?_
     try simp -implicitDefEqProofs (disch := first | decide | assumption | omega) only [go_sem, RdS.len hdX sl22, RdS.idx hdX sl22, R1.intB hdX (Ext.pres eB), RdS.cells hdX, RdS.len hmX sl23, RdS.idx hmX sl23, RdS.cellB hmX (Ext.pres eB), RdS.cells hmX, RdS.len hdY sl22, RdS.idx hdY sl22, R1.intB hdY (Ext.pres eB), RdS.cells hdY, RdS.len hmY sl23, RdS.idx hmY sl23, RdS.cellB hmY (Ext.pres eB), RdS.cells hmY, RdS.len (OS.rd hom) sl23, RdS.idx (OS.rd hom) sl23, RdS.cellN (OS.rd hom), RdS.cells (OS.rd hom), BoxAt.cell hbO, BoxAt.cell hbY, BoxAt.cell hbX, wrap_id, Int.add_sub_cancel]
     try simp -implicitDefEqProofs (disch := first | decide | assumption | omega) only [go_sem, RdS.len hdX sl22, RdS.idx hdX sl22, R1.intB hdX (Ext.pres eB), RdS.cells hdX, RdS.len hmX sl23, RdS.idx hmX sl23, RdS.cellB hmX (Ext.pres eB), RdS.cells hmX, RdS.len hdY sl22, RdS.idx hdY sl22, R1.intB hdY (Ext.pres eB), RdS.cells hdY, RdS.len hmY sl23, RdS.idx hmY sl23, RdS.cellB hmY (Ext.pres eB), RdS.cells hmY, RdS.len (OS.rd hom) sl23, RdS.idx (OS.rd hom) sl23, RdS.cellN (OS.rd hom), RdS.cells (OS.rd hom), BoxAt.cell hbO, BoxAt.cell hbY, BoxAt.cell hbX, wrap_id, Int.add_sub_cancel]
     refine CallA.mono (iPlace_ok _ _ X Y _ _ _ _ _ ⟨_, _, rfl, (RdS.pres hdX (Ext.pres eB)), (RdS.pres hmX (Ext.pres eB))⟩ ⟨_, _, rfl, (RdS.pres hdY (Ext.pres eB)), (RdS.pres hmY (Ext.pres eB))⟩ hX hY (by omega) (by omega) (by omega) (by omega)) ?_
     intro v_ h6_18
     rintro ⟨rfl, e6_18⟩
     replace hom := OS.ext hom e6_18
     replace hbO := BoxAt.ext hbO e6_18
     replace hbY := BoxAt.ext hbY e6_18
     replace hbX := BoxAt.ext hbX e6_18
     replace rD := RdS.pres rD (Ext.pres e6_18)
     have := Ext.size e6_18
     replace eB := Ext.trans eB e6_18
     try simp (disch := decide) only [outv_some, outv_none, put_puts]
     refine plK_pres (Ext.pres e6_18) ?_
     try simp -implicitDefEqProofs (disch := first | decide | assumption | omega) only [go_sem, RdS.len hdX sl22, RdS.idx hdX sl22, R1.intB hdX (Ext.pres eB), RdS.cells hdX, RdS.len hmX sl23, RdS.idx hmX sl23, RdS.cellB hmX (Ext.pres eB), RdS.cells hmX, RdS.len hdY sl22, RdS.idx hdY sl22, R1.intB hdY (Ext.pres eB), RdS.cells hdY, RdS.len hmY sl23, RdS.idx hmY sl23, RdS.cellB hmY (Ext.pres eB), RdS.cells hmY, RdS.len (OS.rd hom) sl23, RdS.idx (OS.rd hom) sl23, RdS.cellN (OS.rd hom), RdS.cells (OS.rd hom), BoxAt.cell hbO, BoxAt.cell hbY, BoxAt.cell hbX, wrap_id, Int.add_sub_cancel]
     try simp -implicitDefEqProofs (disch := first | decide | assumption | omega) only [go_sem, RdS.len hdX sl22, RdS.idx hdX sl22, R1.intB hdX (Ext.pres eB), RdS.cells hdX, RdS.len hmX sl23, RdS.idx hmX sl23, RdS.cellB hmX (Ext.pres eB), RdS.cells hmX, RdS.len hdY sl22, RdS.idx hdY sl22, R1.intB hdY (Ext.pres eB), RdS.cells hdY, RdS.len hmY sl23, RdS.idx hmY sl23, RdS.cellB hmY (Ext.pres eB), RdS.cells hmY, RdS.len (OS.rd hom) sl23, RdS.idx (OS.rd hom) sl23, RdS.cellN (OS.rd hom), RdS.cells (OS.rd hom), BoxAt.cell hbO, BoxAt.cell hbY, BoxAt.cell hbX, wrap_id, Int.add_sub_cancel]
     refine CallA.mono (addAt_ok X.p _ _ (tdP X Y) _ f _ _ _ _ _ rD hom hn hpb (by omega) ⟨by omega, by rw [ek, hr1]; omega⟩ ⟨by omega, by rw [ek, hr2]; omega⟩ (by rw [ek]; exact hi3) (by first | exact hsv | omega)) ?_
     intro v_ h6_20
     rintro ⟨rfl, hom2, cad⟩
     have hch2 := (hch.trans (Ext.chg (e6_10.trans e6_18) _)).trans cad
     have hOt2 := hot _ _ ((Ext.chg (e6_10.trans e6_18) f).trans cad) hOt
     replace eB := Ext.then eB cad hge
     rw [ek] at hom2
     try simp (disch := decide) only [outv_some, outv_none, put_puts]
     refine plK_last (by decide) ?_
     try simp -implicitDefEqProofs (disch := first | decide | assumption | omega) only [go_sem, RdS.len hdX sl22, RdS.idx hdX sl22, R1.intB hdX (Ext.pres eB), RdS.cells hdX, RdS.len hmX sl23, RdS.idx hmX sl23, RdS.cellB hmX (Ext.pres eB), RdS.cells hmX, RdS.len hdY sl22, RdS.idx hdY sl22, R1.intB hdY (Ext.pres eB), RdS.cells hdY, RdS.len hmY sl23, RdS.idx hmY sl23, RdS.cellB hmY (Ext.pres eB), RdS.cells hmY, RdS.len (OS.rd hom) sl23, RdS.idx (OS.rd hom) sl23, RdS.cellN (OS.rd hom), RdS.cells (OS.rd hom), BoxAt.cell hbO, BoxAt.cell hbY, BoxAt.cell hbX, wrap_id, Int.add_sub_cancel]
     refine hK _ _ ?_
     clear hK K
     refine den_blk ?_
     refine den_region TTok ?_
     intro K hK
     simp -implicitDefEqProofs (disch := first | decide | assumption | omega) only [go_sem, RdS.len hdX sl22, RdS.idx hdX sl22, R1.intB hdX (Ext.pres eB), RdS.cells hdX, RdS.len hmX sl23, RdS.idx hmX sl23, RdS.cellB hmX (Ext.pres eB), RdS.cells hmX, RdS.len hdY sl22, RdS.idx hdY sl22, R1.intB hdY (Ext.pres eB), RdS.cells hdY, RdS.len hmY sl23, RdS.idx hmY sl23, RdS.cellB hmY (Ext.pres eB), RdS.cells hmY, RdS.len (OS.rd hom) sl23, RdS.idx (OS.rd hom) sl23, RdS.cellN (OS.rd hom), RdS.cells (OS.rd hom), BoxAt.cell hbO, BoxAt.cell hbY, BoxAt.cell hbX, wrap_id, Int.add_sub_cancel]
     refine hK _ _ ?_
     clear hK K
     refine den_stop ?_
     refine ⟨m + 1, by simp [HasL, puts_at], ⟨eB, by omega, ?_, hch2, hOt2, hE _ hOt2⟩, by omega⟩
     rw [applyU_step]
     exact hom2
    ·try simp only [decide_eq_true_eq, decide_eq_false_iff_not, beq_iff_eq, beq_eq_false_iff_ne, bne_iff_ne, ne_eq, Bool.not_eq_true', Bool.not_eq_false', Bool.and_eq_true, Bool.or_eq_true, bne_eq_false_iff_eq] at c1
     refine den_exit ?_
     refine denX_code ?_
     refine denX_stop ?_
     refine denX_hit ?_
     refine den_blk ?_
     refine den_region TTok ?_
     intro K hK
     simp -implicitDefEqProofs (disch := first | decide | assumption | omega) only [go_sem, RdS.len hdX sl22, RdS.idx hdX sl22, R1.intB hdX (Ext.pres eB), RdS.cells hdX, RdS.len hmX sl23, RdS.idx hmX sl23, RdS.cellB hmX (Ext.pres eB), RdS.cells hmX, RdS.len hdY sl22, RdS.idx hdY sl22, R1.intB hdY (Ext.pres eB), RdS.cells hdY, RdS.len hmY sl23, RdS.idx hmY sl23, RdS.cellB hmY (Ext.pres eB), RdS.cells hmY, RdS.len (OS.rd hom) sl23, RdS.idx (OS.rd hom) sl23, RdS.cellN (OS.rd hom), RdS.cells (OS.rd hom), BoxAt.cell hbO, BoxAt.cell hbY, BoxAt.cell hbX, wrap_id, Int.add_sub_cancel]
     refine hK _ _ ?_
     clear hK K
     refine den_stop ?_
     refine ⟨q + 1, by simp [HasL, puts_at], ⟨eB, by omega, ?_, hch, hOt, hbO, hbY, hbX, rD⟩, by omega⟩
     rw [upL, applyU_app, show (dimP Y (q : Int)).toNat = m by omega]
     exact hom
  ·try simp only [decide_eq_true_eq, decide_eq_false_iff_not, beq_iff_eq, beq_eq_false_iff_ne, bne_iff_ne, ne_eq, Bool.not_eq_true', Bool.not_eq_false', Bool.and_eq_true, Bool.or_eq_true, bne_eq_false_iff_eq] at c0
   refine den_exit ?_
   refine denX_code ?_
   refine denX_stop ?_
   refine denX_hit ?_
   refine den_nil ?_
   simp (disch := decide) only [resP_0, puts_same, puts_ne]
   rw [tU1, show Y.dims.length = q by omega]
   exact ⟨by first | rfl | trivial, hom, hch⟩

set_option maxRecDepth 100000 in
theorem ten2_ok (X Y : Cx) (vdX vmX vdY vmY vD vw : Value) (M : M3) (f : List Nat) (k i j : Nat) (v : Int) (bO bY bX : Nat) (Ot : Heap → Prop) (h0 h : Heap) (hdX : R1 h0 vdX X.dims) (hmX : R3 h0 vmX X.maps) (hdY : R1 h0 vdY Y.dims) (hmY : R3 h0 vmY Y.maps) (hX : IsC X) (hY : IsC Y) (hi : i < (Y.maps.getD k default).length) (hj : j < ((Y.maps.getD k default).getD i default).length) (hv : -7 ≤ v ∧ v ≤ 7) (hom : O3 h vw M f) (hsh : Sh ((tdP X Y).length - 1) (tA X Y) (tB X Y) M) (hin : In3 X.p ((tdP X Y).length - 1) (tA X Y) (tB X Y) M) (hn : f.Nodup) (eB : Ext h0 h) (hge : ∀ b ∈ f, h0.size ≤ b) (hOt : Ot h) (hot : ∀ H H', Chg f H H' → Ot H → Ot H') (hE : ∀ H, Ot H → BoxAt H bO #[.int .i64 X.p, vD, vw] 30 ∧ BoxAt H bY #[.int .i64 Y.p, vdY, vmY] 30 ∧ BoxAt H bX #[.int .i64 X.p, vdX, vmX] 30 ∧ R1 H vD (tdP X Y)) : CallA Try.prog 149 #[.int .i64 ((k : Int) + 1), .int .i64 (i : Int), .int .i64 (j : Int), .int .i64 v, .pointer (some ⟨bX, 0, none⟩), .pointer (some ⟨bO, 0, none⟩), .pointer (some ⟨bY, 0, none⟩)] h fun v' h' => v' = .tuple #[] ∧ O3 h' vw (applyU X.p M (tU2 X Y k i j v)) f ∧ Chg f h h' := by
 obtain ⟨hbO, hbY, hbX, rD⟩ := hE _ hOt
 have hlX := hX.len
 have hlY := hY.len
 have hledX := RdS.le hdX
 have hledY := RdS.le hdY
 have hkm := maps_lt hi
 have hmm := hY.ml
 have hrd := row_dim hY hi
 have hcd := col_dim hY hi hj
 have hb1 := dimP_bnd hY ((k + 1 : Nat) : Int)
 have hb2 := dimP_bnd hY (k : Int)
 have hpb := isP_bnd hX.p
 have hlM := OS.lt hom
 refine callA_intro TTok (args := [_, _, _, _, _, _, _]) Try.func149 (by kernel_rfl) rfl 51 rfl (by simp) [] rfl ?_
 simp only [idxs, Nat.reduceAdd]
 refine den_seq ?_
 refine den_region TTok ?_
 intro K hK
 simp -implicitDefEqProofs (disch := first | decide | assumption | omega) only [go_sem, fa30_1, ld22, RdS.len hdX sl22, RdS.idx hdX sl22, R1.intB hdX (Ext.pres eB), RdS.cells hdX, RdS.len hmX sl23, RdS.idx hmX sl23, RdS.cellB hmX (Ext.pres eB), RdS.cells hmX, RdS.len hdY sl22, RdS.idx hdY sl22, R1.intB hdY (Ext.pres eB), RdS.cells hdY, RdS.len hmY sl23, RdS.idx hmY sl23, RdS.cellB hmY (Ext.pres eB), RdS.cells hmY, RdS.len (OS.rd hom) sl23, RdS.idx (OS.rd hom) sl23, RdS.cellN (OS.rd hom), RdS.cells (OS.rd hom), BoxAt.cell hbO, BoxAt.cell hbY, BoxAt.cell hbX, wrap_id, Int.add_sub_cancel]
 try simp -implicitDefEqProofs (disch := first | decide | assumption | omega) only [go_sem, RdS.len hdX sl22, RdS.idx hdX sl22, R1.intB hdX (Ext.pres eB), RdS.cells hdX, RdS.len hmX sl23, RdS.idx hmX sl23, RdS.cellB hmX (Ext.pres eB), RdS.cells hmX, RdS.len hdY sl22, RdS.idx hdY sl22, R1.intB hdY (Ext.pres eB), RdS.cells hdY, RdS.len hmY sl23, RdS.idx hmY sl23, RdS.cellB hmY (Ext.pres eB), RdS.cells hmY, RdS.len (OS.rd hom) sl23, RdS.idx (OS.rd hom) sl23, RdS.cellN (OS.rd hom), RdS.cells (OS.rd hom), BoxAt.cell hbO, BoxAt.cell hbY, BoxAt.cell hbX, wrap_id, Int.add_sub_cancel]
 refine CallA.pure (size1_ok _ _ _ (RdS.pres hdX (Ext.pres eB))) ?_
 try simp -implicitDefEqProofs (disch := first | decide | assumption | omega) only [go_sem, RdS.len hdX sl22, RdS.idx hdX sl22, R1.intB hdX (Ext.pres eB), RdS.cells hdX, RdS.len hmX sl23, RdS.idx hmX sl23, RdS.cellB hmX (Ext.pres eB), RdS.cells hmX, RdS.len hdY sl22, RdS.idx hdY sl22, R1.intB hdY (Ext.pres eB), RdS.cells hdY, RdS.len hmY sl23, RdS.idx hmY sl23, RdS.cellB hmY (Ext.pres eB), RdS.cells hmY, RdS.len (OS.rd hom) sl23, RdS.idx (OS.rd hom) sl23, RdS.cellN (OS.rd hom), RdS.cells (OS.rd hom), BoxAt.cell hbO, BoxAt.cell hbY, BoxAt.cell hbX, wrap_id, Int.add_sub_cancel]
 refine hK _ _ ?_
 clear hK K
 refine den_block ?_
 refine den_sel [16, 0, 1, 2, 3, 4, 5, 6, 15] ?_
 intro env_1
 simp only [go_sem]
 refine den_loopS (σ := Nat) (fun s => [(16, .int .i64 (s : Int))]) (fun s H => Ext h0 H ∧ s ≤ X.dims.length ∧ O3 H vw (applyU X.p M (upL (tF2 X Y k i j v) (fun q => (dimP X q).toNat) s)) f ∧ Chg f h H ∧ Ot H ∧ BoxAt H bO #[.int .i64 X.p, vD, vw] 30 ∧ BoxAt H bY #[.int .i64 Y.p, vdY, vmY] 30 ∧ BoxAt H bX #[.int .i64 X.p, vdX, vmX] 30 ∧ R1 H vD (tdP X Y)) (fun s => X.dims.length - s) 0 ?_ ?_
 ·exact ⟨eB, by omega, by rw [upL, applyU]; exact hom, Chg.refl _ _, hOt, hE _ hOt⟩
 ·rintro q h4 ee3 ⟨eB, hq, hom, hch, hOt, hbO, hbY, hbX, rD⟩
  simp only [List.cons_append, List.nil_append]
  have := Ext.size eB
  refine den_seq ?_
  refine den_region TTok ?_
  intro K hK
  simp -implicitDefEqProofs (disch := first | decide | assumption | omega) only [go_sem, RdS.len hdX sl22, RdS.idx hdX sl22, R1.intB hdX (Ext.pres eB), RdS.cells hdX, RdS.len hmX sl23, RdS.idx hmX sl23, RdS.cellB hmX (Ext.pres eB), RdS.cells hmX, RdS.len hdY sl22, RdS.idx hdY sl22, R1.intB hdY (Ext.pres eB), RdS.cells hdY, RdS.len hmY sl23, RdS.idx hmY sl23, RdS.cellB hmY (Ext.pres eB), RdS.cells hmY, RdS.len (OS.rd hom) sl23, RdS.idx (OS.rd hom) sl23, RdS.cellN (OS.rd hom), RdS.cells (OS.rd hom), BoxAt.cell hbO, BoxAt.cell hbY, BoxAt.cell hbX, wrap_id, Int.add_sub_cancel]
  refine hK _ _ ?_
  clear hK K
  refine den_seq ?_
  refine den_cond rfl (fun c0 => ?_) (fun c0 => ?_)
  ·try simp only [decide_eq_true_eq, decide_eq_false_iff_not, beq_iff_eq, beq_eq_false_iff_ne, bne_iff_ne, ne_eq, Bool.not_eq_true', Bool.not_eq_false', Bool.and_eq_true, Bool.or_eq_true, bne_eq_false_iff_eq] at c0
   refine den_skip ?_
   refine den_seq ?_
   refine den_block ?_
   refine den_seq ?_
   refine den_region TTok ?_
   intro K hK
   simp -implicitDefEqProofs (disch := first | decide | assumption | omega) only [go_sem, RdS.len hdX sl22, RdS.idx hdX sl22, R1.intB hdX (Ext.pres eB), RdS.cells hdX, RdS.len hmX sl23, RdS.idx hmX sl23, RdS.cellB hmX (Ext.pres eB), RdS.cells hmX, RdS.len hdY sl22, RdS.idx hdY sl22, R1.intB hdY (Ext.pres eB), RdS.cells hdY, RdS.len hmY sl23, RdS.idx hmY sl23, RdS.cellB hmY (Ext.pres eB), RdS.cells hmY, RdS.len (OS.rd hom) sl23, RdS.idx (OS.rd hom) sl23, RdS.cellN (OS.rd hom), RdS.cells (OS.rd hom), BoxAt.cell hbO, BoxAt.cell hbY, BoxAt.cell hbX, wrap_id, Int.add_sub_cancel]
   refine hK _ _ ?_
   clear hK K
   refine den_seq ?_
   have hbq := dimP_bnd hX (q : Int)
   refine den_region TTok ?_
   intro K hK
   simp -implicitDefEqProofs (disch := first | decide | assumption | omega) only [go_sem, ld30, RdS.len hdX sl22, RdS.idx hdX sl22, R1.intB hdX (Ext.pres eB), RdS.cells hdX, RdS.len hmX sl23, RdS.idx hmX sl23, RdS.cellB hmX (Ext.pres eB), RdS.cells hmX, RdS.len hdY sl22, RdS.idx hdY sl22, R1.intB hdY (Ext.pres eB), RdS.cells hdY, RdS.len hmY sl23, RdS.idx hmY sl23, RdS.cellB hmY (Ext.pres eB), RdS.cells hmY, RdS.len (OS.rd hom) sl23, RdS.idx (OS.rd hom) sl23, RdS.cellN (OS.rd hom), RdS.cells (OS.rd hom), BoxAt.cell hbO, BoxAt.cell hbY, BoxAt.cell hbX, wrap_id, Int.add_sub_cancel]
   try simp -implicitDefEqProofs (disch := first | decide | assumption | omega) only [go_sem, RdS.len hdX sl22, RdS.idx hdX sl22, R1.intB hdX (Ext.pres eB), RdS.cells hdX, RdS.len hmX sl23, RdS.idx hmX sl23, RdS.cellB hmX (Ext.pres eB), RdS.cells hmX, RdS.len hdY sl22, RdS.idx hdY sl22, R1.intB hdY (Ext.pres eB), RdS.cells hdY, RdS.len hmY sl23, RdS.idx hmY sl23, RdS.cellB hmY (Ext.pres eB), RdS.cells hmY, RdS.len (OS.rd hom) sl23, RdS.idx (OS.rd hom) sl23, RdS.cellN (OS.rd hom), RdS.cells (OS.rd hom), BoxAt.cell hbO, BoxAt.cell hbY, BoxAt.cell hbX, wrap_id, Int.add_sub_cancel]
   refine CallA.mono (iDim_ok _ X _ _ ⟨_, _, rfl, (RdS.pres hdX (Ext.pres eB)), (RdS.pres hmX (Ext.pres eB))⟩) ?_
   intro v_ h3_2
   rintro ⟨rfl, e3_2⟩
   replace hom := OS.ext hom e3_2
   replace hbO := BoxAt.ext hbO e3_2
   replace hbY := BoxAt.ext hbY e3_2
   replace hbX := BoxAt.ext hbX e3_2
   replace rD := RdS.pres rD (Ext.pres e3_2)
   have := Ext.size e3_2
   replace eB := Ext.trans eB e3_2
   try simp -implicitDefEqProofs (disch := first | decide | assumption | omega) only [go_sem, RdS.len hdX sl22, RdS.idx hdX sl22, R1.intB hdX (Ext.pres eB), RdS.cells hdX, RdS.len hmX sl23, RdS.idx hmX sl23, RdS.cellB hmX (Ext.pres eB), RdS.cells hmX, RdS.len hdY sl22, RdS.idx hdY sl22, R1.intB hdY (Ext.pres eB), RdS.cells hdY, RdS.len hmY sl23, RdS.idx hmY sl23, RdS.cellB hmY (Ext.pres eB), RdS.cells hmY, RdS.len (OS.rd hom) sl23, RdS.idx (OS.rd hom) sl23, RdS.cellN (OS.rd hom), RdS.cells (OS.rd hom), BoxAt.cell hbO, BoxAt.cell hbY, BoxAt.cell hbX, wrap_id, Int.add_sub_cancel]
   refine hK _ _ ?_
   clear hK K
   refine den_block ?_
   refine den_sel [22, 0, 1, 2, 3, 4, 5, 6, 11, 15, 16, 21] ?_
   intro env_5
   simp only [go_sem]
   refine den_loopS (σ := Nat) (fun s => [(22, .int .i64 (s : Int))]) (fun s H => Ext h0 H ∧ (s : Int) ≤ dimP X (q : Int) ∧ O3 H vw (applyU X.p (applyU X.p M (upL (tF2 X Y k i j v) (fun q => (dimP X q).toNat) q)) ((List.range s).map (tF2 X Y k i j v q))) f ∧ Chg f h H ∧ Ot H ∧ BoxAt H bO #[.int .i64 X.p, vD, vw] 30 ∧ BoxAt H bY #[.int .i64 Y.p, vdY, vmY] 30 ∧ BoxAt H bX #[.int .i64 X.p, vdX, vmX] 30 ∧ R1 H vD (tdP X Y)) (fun s => (dimP X (q : Int)).toNat - s) 0 ?_ ?_
   ·exact ⟨eB, by omega, hom, hch.trans (Ext.chg e3_2 _), hot _ _ (Ext.chg e3_2 _) hOt, hE _ (hot _ _ (Ext.chg e3_2 _) hOt)⟩
   ·rintro m h8 ee7 ⟨eB, hm, hom, hch, hOt, hbO, hbY, hbX, rD⟩
    simp only [List.cons_append, List.nil_append]
    have := Ext.size eB
    refine den_seq ?_
    refine den_region TTok ?_
    intro K hK
    simp -implicitDefEqProofs (disch := first | decide | assumption | omega) only [go_sem, RdS.len hdX sl22, RdS.idx hdX sl22, R1.intB hdX (Ext.pres eB), RdS.cells hdX, RdS.len hmX sl23, RdS.idx hmX sl23, RdS.cellB hmX (Ext.pres eB), RdS.cells hmX, RdS.len hdY sl22, RdS.idx hdY sl22, R1.intB hdY (Ext.pres eB), RdS.cells hdY, RdS.len hmY sl23, RdS.idx hmY sl23, RdS.cellB hmY (Ext.pres eB), RdS.cells hmY, RdS.len (OS.rd hom) sl23, RdS.idx (OS.rd hom) sl23, RdS.cellN (OS.rd hom), RdS.cells (OS.rd hom), BoxAt.cell hbO, BoxAt.cell hbY, BoxAt.cell hbX, wrap_id, Int.add_sub_cancel]
    refine hK _ _ ?_
    clear hK K
    refine den_seq ?_
    refine den_cond rfl (fun c1 => ?_) (fun c1 => ?_)
    ·try simp only [decide_eq_true_eq, decide_eq_false_iff_not, beq_iff_eq, beq_eq_false_iff_ne, bne_iff_ne, ne_eq, Bool.not_eq_true', Bool.not_eq_false', Bool.and_eq_true, Bool.or_eq_true, bne_eq_false_iff_eq] at c1
     refine den_skip ?_
     refine den_seq ?_
     refine den_block ?_
     refine den_seq ?_
     refine den_region TTok ?_
     intro K hK
     simp -implicitDefEqProofs (disch := first | decide | assumption | omega) only [go_sem, RdS.len hdX sl22, RdS.idx hdX sl22, R1.intB hdX (Ext.pres eB), RdS.cells hdX, RdS.len hmX sl23, RdS.idx hmX sl23, RdS.cellB hmX (Ext.pres eB), RdS.cells hmX, RdS.len hdY sl22, RdS.idx hdY sl22, R1.intB hdY (Ext.pres eB), RdS.cells hdY, RdS.len hmY sl23, RdS.idx hmY sl23, RdS.cellB hmY (Ext.pres eB), RdS.cells hmY, RdS.len (OS.rd hom) sl23, RdS.idx (OS.rd hom) sl23, RdS.cellN (OS.rd hom), RdS.cells (OS.rd hom), BoxAt.cell hbO, BoxAt.cell hbY, BoxAt.cell hbX, wrap_id, Int.add_sub_cancel]
     refine hK _ _ ?_
     clear hK K
     have hS := applyU_sh (p := X.p) (applyU_sh (p := X.p) hsh (t_all2 hX hY (v := v) hi hj q)) (t_row2 hX hY (v := v) hi hj q m (by omega))
     have hI := applyU_in hpb.1 (applyU_sh (p := X.p) hsh (t_all2 hX hY (v := v) hi hj q)) (applyU_in hpb.1 hsh hin (t_all2 hX hY (v := v) hi hj q)) (t_row2 hX hY (v := v) hi hj q m (by omega))
     have hiu := t_in2 hX hY (v := v) hi hj (q := q) (m := m) (by omega)
     have hin1 : q + k < (tdP X Y).length - 1 := hiu.1
     have hin2 : (placeP X Y (q : Int) (m : Int) ((k : Int) + 1) (i : Int)).toNat < tA X Y (q + k) := hiu.2.1
     have hin3 : (placeP X Y (q : Int) (m : Int) (k : Int) (j : Int)).toNat < tB X Y (q + k) := hiu.2.2
     have hr1 := hS.rows _ hin1
     have hr2 := hS.cols _ _ hin1 hin2
     have hi3 := hI _ _ _ hin1 hin2 hin3
     have hsl := hS.len
     have hp0 : 0 ≤ placeP X Y (q : Int) (m : Int) ((k : Int) + 1) (i : Int) := (pl_lt hX hY (show (m : Int) < dimP X (q : Int) by omega) hrd).1
     have hp1 : 0 ≤ placeP X Y (q : Int) (m : Int) (k : Int) (j : Int) := (pl_lt hX hY (show (m : Int) < dimP X (q : Int) by omega) hcd).1
     have ek : (((q : Int) + ((k : Int) + 1)) - 1).toNat = q + k := by omega
     have hsv := sg_v (q := q) hv
     have htm := tmod_in (p := 2) (x := (q : Int)) (by decide)
     refine den_draw TTok mixed [23] [(0, true), (1, true), (2, true), (3, true), (4, true), (5, true), (6, true), (7, true), (8, true), (9, true), (11, true), (12, true), (13, true), (14, true), (15, true), (16, true), (17, true), (19, true), (21, true), (10, false), (18, false), (20, false), (22, true), (23, false)] (by kernel_rfl) ?_
     intro K hK
     simp -implicitDefEqProofs (disch := first | decide | assumption | omega) only [go_sem, ld30, RdS.len hdX sl22, RdS.idx hdX sl22, R1.intB hdX (Ext.pres eB), RdS.cells hdX, RdS.len hmX sl23, RdS.idx hmX sl23, RdS.cellB hmX (Ext.pres eB), RdS.cells hmX, RdS.len hdY sl22, RdS.idx hdY sl22, R1.intB hdY (Ext.pres eB), RdS.cells hdY, RdS.len hmY sl23, RdS.idx hmY sl23, RdS.cellB hmY (Ext.pres eB), RdS.cells hmY, RdS.len (OS.rd hom) sl23, RdS.idx (OS.rd hom) sl23, RdS.cellN (OS.rd hom), RdS.cells (OS.rd hom), BoxAt.cell hbO, BoxAt.cell hbY, BoxAt.cell hbX, wrap_id, Int.add_sub_cancel]
     try simp -implicitDefEqProofs (disch := first | decide | assumption | omega) only [go_sem, RdS.len hdX sl22, RdS.idx hdX sl22, R1.intB hdX (Ext.pres eB), RdS.cells hdX, RdS.len hmX sl23, RdS.idx hmX sl23, RdS.cellB hmX (Ext.pres eB), RdS.cells hmX, RdS.len hdY sl22, RdS.idx hdY sl22, R1.intB hdY (Ext.pres eB), RdS.cells hdY, RdS.len hmY sl23, RdS.idx hmY sl23, RdS.cellB hmY (Ext.pres eB), RdS.cells hmY, RdS.len (OS.rd hom) sl23, RdS.idx (OS.rd hom) sl23, RdS.cellN (OS.rd hom), RdS.cells (OS.rd hom), BoxAt.cell hbO, BoxAt.cell hbY, BoxAt.cell hbX, wrap_id, Int.add_sub_cancel]
     refine CallA.mono (iPlace_ok _ _ X Y _ _ _ _ _ ⟨_, _, rfl, (RdS.pres hdX (Ext.pres eB)), (RdS.pres hmX (Ext.pres eB))⟩ ⟨_, _, rfl, (RdS.pres hdY (Ext.pres eB)), (RdS.pres hmY (Ext.pres eB))⟩ hX hY (by omega) (by omega) (by omega) (by omega)) ?_
     intro v_ h6_10
     rintro ⟨rfl, e6_10⟩
     replace hom := OS.ext hom e6_10
     replace hbO := BoxAt.ext hbO e6_10
     replace hbY := BoxAt.ext hbY e6_10
     replace hbX := BoxAt.ext hbX e6_10
     replace rD := RdS.pres rD (Ext.pres e6_10)
     have := Ext.size e6_10
     replace eB := Ext.trans eB e6_10
     try simp (disch := decide) only [outv_some, outv_none, put_puts]
     refine plK_pres (Ext.pres e6_10) ?_
     try simp -implicitDefEqProofs (disch := first | decide | assumption | omega) only [go_sem, RdS.len hdX sl22, RdS.idx hdX sl22, R1.intB hdX (Ext.pres eB), RdS.cells hdX, RdS.len hmX sl23, RdS.idx hmX sl23, RdS.cellB hmX (Ext.pres eB), RdS.cells hmX, RdS.len hdY sl22, RdS.idx hdY sl22, R1.intB hdY (Ext.pres eB), RdS.cells hdY, RdS.len hmY sl23, RdS.idx hmY sl23, RdS.cellB hmY (Ext.pres eB), RdS.cells hmY, RdS.len (OS.rd hom) sl23, RdS.idx (OS.rd hom) sl23, RdS.cellN (OS.rd hom), RdS.cells (OS.rd hom), BoxAt.cell hbO, BoxAt.cell hbY, BoxAt.cell hbX, wrap_id, Int.add_sub_cancel]
     try simp -implicitDefEqProofs (disch := first | decide | assumption | omega) only [go_sem, RdS.len hdX sl22, RdS.idx hdX sl22, R1.intB hdX (Ext.pres eB), RdS.cells hdX, RdS.len hmX sl23, RdS.idx hmX sl23, RdS.cellB hmX (Ext.pres eB), RdS.cells hmX, RdS.len hdY sl22, RdS.idx hdY sl22, R1.intB hdY (Ext.pres eB), RdS.cells hdY, RdS.len hmY sl23, RdS.idx hmY sl23, RdS.cellB hmY (Ext.pres eB), RdS.cells hmY, RdS.len (OS.rd hom) sl23, RdS.idx (OS.rd hom) sl23, RdS.cellN (OS.rd hom), RdS.cells (OS.rd hom), BoxAt.cell hbO, BoxAt.cell hbY, BoxAt.cell hbX, wrap_id, Int.add_sub_cancel]
     refine CallA.mono (iPlace_ok _ _ X Y _ _ _ _ _ ⟨_, _, rfl, (RdS.pres hdX (Ext.pres eB)), (RdS.pres hmX (Ext.pres eB))⟩ ⟨_, _, rfl, (RdS.pres hdY (Ext.pres eB)), (RdS.pres hmY (Ext.pres eB))⟩ hX hY (by omega) (by omega) (by omega) (by omega)) ?_
     intro v_ h6_18
     rintro ⟨rfl, e6_18⟩
     replace hom := OS.ext hom e6_18
     replace hbO := BoxAt.ext hbO e6_18
     replace hbY := BoxAt.ext hbY e6_18
     replace hbX := BoxAt.ext hbX e6_18
     replace rD := RdS.pres rD (Ext.pres e6_18)
     have := Ext.size e6_18
     replace eB := Ext.trans eB e6_18
     try simp (disch := decide) only [outv_some, outv_none, put_puts]
     refine plK_pres (Ext.pres e6_18) ?_
     try simp -implicitDefEqProofs (disch := first | decide | assumption | omega) only [go_sem, RdS.len hdX sl22, RdS.idx hdX sl22, R1.intB hdX (Ext.pres eB), RdS.cells hdX, RdS.len hmX sl23, RdS.idx hmX sl23, RdS.cellB hmX (Ext.pres eB), RdS.cells hmX, RdS.len hdY sl22, RdS.idx hdY sl22, R1.intB hdY (Ext.pres eB), RdS.cells hdY, RdS.len hmY sl23, RdS.idx hmY sl23, RdS.cellB hmY (Ext.pres eB), RdS.cells hmY, RdS.len (OS.rd hom) sl23, RdS.idx (OS.rd hom) sl23, RdS.cellN (OS.rd hom), RdS.cells (OS.rd hom), BoxAt.cell hbO, BoxAt.cell hbY, BoxAt.cell hbX, wrap_id, Int.add_sub_cancel]
     try simp -implicitDefEqProofs (disch := first | decide | assumption | omega) only [go_sem, RdS.len hdX sl22, RdS.idx hdX sl22, R1.intB hdX (Ext.pres eB), RdS.cells hdX, RdS.len hmX sl23, RdS.idx hmX sl23, RdS.cellB hmX (Ext.pres eB), RdS.cells hmX, RdS.len hdY sl22, RdS.idx hdY sl22, R1.intB hdY (Ext.pres eB), RdS.cells hdY, RdS.len hmY sl23, RdS.idx hmY sl23, RdS.cellB hmY (Ext.pres eB), RdS.cells hmY, RdS.len (OS.rd hom) sl23, RdS.idx (OS.rd hom) sl23, RdS.cellN (OS.rd hom), RdS.cells (OS.rd hom), BoxAt.cell hbO, BoxAt.cell hbY, BoxAt.cell hbX, wrap_id, Int.add_sub_cancel]
     refine CallA.mono (iSign_ok  (q : Int) _  (by omega)) ?_
     intro v_ h6_20
     rintro ⟨rfl, e6_20⟩
     replace hom := OS.ext hom e6_20
     replace hbO := BoxAt.ext hbO e6_20
     replace hbY := BoxAt.ext hbY e6_20
     replace hbX := BoxAt.ext hbX e6_20
     replace rD := RdS.pres rD (Ext.pres e6_20)
     have := Ext.size e6_20
     replace eB := Ext.trans eB e6_20
     try simp (disch := decide) only [outv_some, outv_none, put_puts]
     refine plK_pres (Ext.pres e6_20) ?_
     try simp -implicitDefEqProofs (disch := first | decide | assumption | omega) only [go_sem, RdS.len hdX sl22, RdS.idx hdX sl22, R1.intB hdX (Ext.pres eB), RdS.cells hdX, RdS.len hmX sl23, RdS.idx hmX sl23, RdS.cellB hmX (Ext.pres eB), RdS.cells hmX, RdS.len hdY sl22, RdS.idx hdY sl22, R1.intB hdY (Ext.pres eB), RdS.cells hdY, RdS.len hmY sl23, RdS.idx hmY sl23, RdS.cellB hmY (Ext.pres eB), RdS.cells hmY, RdS.len (OS.rd hom) sl23, RdS.idx (OS.rd hom) sl23, RdS.cellN (OS.rd hom), RdS.cells (OS.rd hom), BoxAt.cell hbO, BoxAt.cell hbY, BoxAt.cell hbX, wrap_id, Int.add_sub_cancel]
     try simp -implicitDefEqProofs (disch := first | decide | assumption | omega) only [go_sem, RdS.len hdX sl22, RdS.idx hdX sl22, R1.intB hdX (Ext.pres eB), RdS.cells hdX, RdS.len hmX sl23, RdS.idx hmX sl23, RdS.cellB hmX (Ext.pres eB), RdS.cells hmX, RdS.len hdY sl22, RdS.idx hdY sl22, R1.intB hdY (Ext.pres eB), RdS.cells hdY, RdS.len hmY sl23, RdS.idx hmY sl23, RdS.cellB hmY (Ext.pres eB), RdS.cells hmY, RdS.len (OS.rd hom) sl23, RdS.idx (OS.rd hom) sl23, RdS.cellN (OS.rd hom), RdS.cells (OS.rd hom), BoxAt.cell hbO, BoxAt.cell hbY, BoxAt.cell hbX, wrap_id, Int.add_sub_cancel]
     refine CallA.mono (addAt_ok X.p _ _ (tdP X Y) _ f _ _ _ _ _ rD hom hn hpb (by omega) ⟨by omega, by rw [ek, hr1]; omega⟩ ⟨by omega, by rw [ek, hr2]; omega⟩ (by rw [ek]; exact hi3) (by first | exact hsv | omega)) ?_
     intro v_ h6_23
     rintro ⟨rfl, hom2, cad⟩
     have hch2 := (hch.trans (Ext.chg ((e6_10.trans e6_18).trans e6_20) _)).trans cad
     have hOt2 := hot _ _ ((Ext.chg ((e6_10.trans e6_18).trans e6_20) f).trans cad) hOt
     replace eB := Ext.then eB cad hge
     rw [ek] at hom2
     try simp (disch := decide) only [outv_some, outv_none, put_puts]
     refine plK_last (by decide) ?_
     try simp -implicitDefEqProofs (disch := first | decide | assumption | omega) only [go_sem, RdS.len hdX sl22, RdS.idx hdX sl22, R1.intB hdX (Ext.pres eB), RdS.cells hdX, RdS.len hmX sl23, RdS.idx hmX sl23, RdS.cellB hmX (Ext.pres eB), RdS.cells hmX, RdS.len hdY sl22, RdS.idx hdY sl22, R1.intB hdY (Ext.pres eB), RdS.cells hdY, RdS.len hmY sl23, RdS.idx hmY sl23, RdS.cellB hmY (Ext.pres eB), RdS.cells hmY, RdS.len (OS.rd hom) sl23, RdS.idx (OS.rd hom) sl23, RdS.cellN (OS.rd hom), RdS.cells (OS.rd hom), BoxAt.cell hbO, BoxAt.cell hbY, BoxAt.cell hbX, wrap_id, Int.add_sub_cancel]
     refine hK _ _ ?_
     clear hK K
     refine den_blk ?_
     refine den_region TTok ?_
     intro K hK
     simp -implicitDefEqProofs (disch := first | decide | assumption | omega) only [go_sem, RdS.len hdX sl22, RdS.idx hdX sl22, R1.intB hdX (Ext.pres eB), RdS.cells hdX, RdS.len hmX sl23, RdS.idx hmX sl23, RdS.cellB hmX (Ext.pres eB), RdS.cells hmX, RdS.len hdY sl22, RdS.idx hdY sl22, R1.intB hdY (Ext.pres eB), RdS.cells hdY, RdS.len hmY sl23, RdS.idx hmY sl23, RdS.cellB hmY (Ext.pres eB), RdS.cells hmY, RdS.len (OS.rd hom) sl23, RdS.idx (OS.rd hom) sl23, RdS.cellN (OS.rd hom), RdS.cells (OS.rd hom), BoxAt.cell hbO, BoxAt.cell hbY, BoxAt.cell hbX, wrap_id, Int.add_sub_cancel]
     refine hK _ _ ?_
     clear hK K
     refine den_stop ?_
     refine ⟨m + 1, by simp [HasL, puts_at], ⟨eB, by omega, ?_, hch2, hOt2, hE _ hOt2⟩, by omega⟩
     rw [applyU_step]
     exact hom2
    ·try simp only [decide_eq_true_eq, decide_eq_false_iff_not, beq_iff_eq, beq_eq_false_iff_ne, bne_iff_ne, ne_eq, Bool.not_eq_true', Bool.not_eq_false', Bool.and_eq_true, Bool.or_eq_true, bne_eq_false_iff_eq] at c1
     refine den_exit ?_
     refine denX_code ?_
     refine denX_stop ?_
     refine denX_hit ?_
     refine den_blk ?_
     refine den_region TTok ?_
     intro K hK
     simp -implicitDefEqProofs (disch := first | decide | assumption | omega) only [go_sem, RdS.len hdX sl22, RdS.idx hdX sl22, R1.intB hdX (Ext.pres eB), RdS.cells hdX, RdS.len hmX sl23, RdS.idx hmX sl23, RdS.cellB hmX (Ext.pres eB), RdS.cells hmX, RdS.len hdY sl22, RdS.idx hdY sl22, R1.intB hdY (Ext.pres eB), RdS.cells hdY, RdS.len hmY sl23, RdS.idx hmY sl23, RdS.cellB hmY (Ext.pres eB), RdS.cells hmY, RdS.len (OS.rd hom) sl23, RdS.idx (OS.rd hom) sl23, RdS.cellN (OS.rd hom), RdS.cells (OS.rd hom), BoxAt.cell hbO, BoxAt.cell hbY, BoxAt.cell hbX, wrap_id, Int.add_sub_cancel]
     refine hK _ _ ?_
     clear hK K
     refine den_stop ?_
     refine ⟨q + 1, by simp [HasL, puts_at], ⟨eB, by omega, ?_, hch, hOt, hbO, hbY, hbX, rD⟩, by omega⟩
     rw [upL, applyU_app, show (dimP X (q : Int)).toNat = m by omega]
     exact hom
  ·try simp only [decide_eq_true_eq, decide_eq_false_iff_not, beq_iff_eq, beq_eq_false_iff_ne, bne_iff_ne, ne_eq, Bool.not_eq_true', Bool.not_eq_false', Bool.and_eq_true, Bool.or_eq_true, bne_eq_false_iff_eq] at c0
   refine den_exit ?_
   refine denX_code ?_
   refine denX_stop ?_
   refine denX_hit ?_
   refine den_nil ?_
   simp (disch := decide) only [resP_0, puts_same, puts_ne]
   rw [tU2, show X.dims.length = q by omega]
   exact ⟨by first | rfl | trivial, hom, hch⟩
end Go.Proofs.Ytffggocjkhcgeaa

namespace Go.Proofs.Ytffggocjkhcgeaa
open Go
def fitP (D : List Int) : Bool := D.all (fun x => decide (x ≤ 8)) && decide ((D.length : Int) ≤ 6)
noncomputable def teP (X Y : Cx) : Cx × Int := if fitP (tdP X Y) = true then (⟨X.p, tdP X Y, tT X Y⟩, 0) else (⟨0, [], []⟩, 3)
theorem fit_no {D : List Int} (c : 6 < (D.length : Int) ∨ (D.any fun x => decide (8 < x)) = true) : ¬ fitP D = true := fun h => by
 rw [fitP, Bool.and_eq_true] at h
 rcases c with c | c
 ·have := of_decide_eq_true h.2; omega
 ·obtain ⟨x, hx, h8⟩ := List.any_eq_true.1 c
  have h8 : 8 < x := by simpa using h8
  have := of_decide_eq_true (List.all_eq_true.1 h.1 x hx)
  omega
theorem fit_yes {D : List Int} (c1 : (D.length : Int) ≤ 6) (c2 : (D.any fun x => decide (8 < x)) = false) : fitP D = true := by
 rw [fitP, Bool.and_eq_true]
 refine ⟨List.all_eq_true.2 fun x hx => ?_, decide_eq_true c1⟩
 have := List.any_eq_false.1 c2 x hx
 have : ¬ 8 < x := by simpa using this
 exact decide_eq_true (by omega)
theorem fit_len {D : List Int} (h : fitP D = true) : (D.length : Int) ≤ 6 := by
 rw [fitP, Bool.and_eq_true] at h
 exact of_decide_eq_true h.2
theorem fit_all {X Y : Cx} (hX : IsC X) (hY : IsC Y) (h : fitP (tdP X Y) = true) : (tdP X Y).all (fun x => in3 x 0 8) = true := List.all_eq_true.2 fun x hx => in3_iff.2 ⟨by
 obtain ⟨q, _, rfl⟩ := List.mem_map.1 hx
 exact (sumP_bnd hX hY (q : Int) (q + 1)).1, by
 rw [fitP, Bool.and_eq_true] at h
 exact of_decide_eq_true (List.all_eq_true.1 h.1 x hx)⟩
theorem place_next (X Y : Cx) (i a j b : Int) (hi : 0 ≤ i) : placeP X Y i a j (dimP Y j) = placeP X Y i (a + 1) j 0 ∧ placeP X Y i a j (b + 1) = placeP X Y i a j b + 1 ∧ placeP X Y i 0 j 0 = sumP X Y (i + j) i.toNat ∧ placeP X Y i (dimP X i) j 0 = sumP X Y (i + j) (i.toNat + 1) := by
 refine ⟨?_, ?_, ?_, ?_⟩
 ·unfold placeP; rw [Int.add_mul, Int.one_mul]; omega
 ·unfold placeP; omega
 ·unfold placeP; omega
 ·rw [sumP, Int.toNat_of_nonneg hi, show i + j - i = j by omega]; unfold placeP; omega
set_option maxRecDepth 100000 in
theorem sFits_ok (vD : Value) (D : List Int) (h : Heap) (rD : R1 h vD D)  : CallA Try.prog 100 #[vD] h fun v' h' => v' = .bool (fitP D) ∧ Ext h h' := by
 have hleD := RdS.le rD
 refine callA_intro TTok (args := [_]) Try.func100 (by kernel_rfl) rfl 18 rfl (by simp) [.tmp 2] rfl ?_
 simp only [idxs, Nat.reduceAdd]
 refine den_seq ?_
 refine den_region TTok ?_
 intro K hK
 simp -implicitDefEqProofs (disch := first | decide | assumption | omega) only [go_sem, RdS.len rD sl22, RdS.idx rD sl22, R1.intB rD (HPres.refl _), RdS.cells rD, wrap_id]
 refine hK _ _ ?_
 clear hK K
 refine den_seq ?_
 refine den_seq ?_
 refine den_region TTok ?_
 intro K hK
 simp -implicitDefEqProofs (disch := first | decide | assumption | omega) only [go_sem, RdS.len rD sl22, RdS.idx rD sl22, R1.intB rD (HPres.refl _), RdS.cells rD, wrap_id]
 refine hK _ _ ?_
 clear hK K
 refine den_block ?_
 refine den_sel [3, 0] ?_
 intro env_1
 simp only [go_sem]
 refine den_loopP (σ := Nat) (fun st_ => [(3, .int .i64 (st_ : Int))]) (fun st_ => (st_ ≤ D.length) ∧ ((D.take st_).all (fun x => decide (x ≤ 8)) = true)) (fun st_ => D.length - st_) 0 ?_ ?_
 ·exact ⟨by simp, by simp⟩
 ·rintro k ee2 ⟨hk_, hz⟩
  simp only [List.cons_append, List.nil_append]
  refine den_seq ?_
  refine den_seq ?_
  refine den_region TTok ?_
  intro K hK
  simp -implicitDefEqProofs (disch := first | decide | assumption | omega) only [go_sem, RdS.len rD sl22, RdS.idx rD sl22, R1.intB rD (HPres.refl _), RdS.cells rD, wrap_id]
  refine hK _ _ ?_
  clear hK K
  refine den_cond rfl (fun c0 => ?_) (fun c0 => ?_)
  ·try simp only [decide_eq_true_eq, decide_eq_false_iff_not, beq_iff_eq, beq_eq_false_iff_ne, bne_iff_ne, ne_eq, Bool.not_eq_true', Bool.not_eq_false', Bool.and_eq_true, Bool.or_eq_true, bne_eq_false_iff_eq] at c0
   refine den_skip ?_
   refine den_seq ?_
   refine den_block ?_
   refine den_seq ?_
   refine den_region TTok ?_
   intro K hK
   simp -implicitDefEqProofs (disch := first | decide | assumption | omega) only [go_sem, ld2, RdS.len rD sl22, RdS.idx rD sl22, R1.intB rD (HPres.refl _), RdS.cells rD, wrap_id]
   refine hK _ _ ?_
   clear hK K
   refine den_cond rfl (fun c1 => ?_) (fun c1 => ?_)
   ·try simp only [decide_eq_true_eq, decide_eq_false_iff_not, beq_iff_eq, beq_eq_false_iff_ne, bne_iff_ne, ne_eq, Bool.not_eq_true', Bool.not_eq_false', Bool.and_eq_true, Bool.or_eq_true, bne_eq_false_iff_eq] at c1
    refine den_seq ?_
    refine den_region TTok ?_
    intro K hK
    simp -implicitDefEqProofs (disch := first | decide | assumption | omega) only [go_sem, RdS.len rD sl22, RdS.idx rD sl22, R1.intB rD (HPres.refl _), RdS.cells rD, wrap_id]
    refine hK _ _ ?_
    clear hK K
    refine den_ret ?_
    simp (disch := decide) only [resP_1, puts_same, puts_ne]
    exact ⟨vbool (by rw [fitP, all_stop (d := 0) (k := k) (by omega) (by simpa using c1)]; rfl), (Ext.refl _)⟩
   ·try simp only [decide_eq_true_eq, decide_eq_false_iff_not, beq_iff_eq, beq_eq_false_iff_ne, bne_iff_ne, ne_eq, Bool.not_eq_true', Bool.not_eq_false', Bool.and_eq_true, Bool.or_eq_true, bne_eq_false_iff_eq] at c1
    refine den_skip ?_
    refine den_blk ?_
    refine den_region TTok ?_
    intro K hK
    simp -implicitDefEqProofs (disch := first | decide | assumption | omega) only [go_sem, RdS.len rD sl22, RdS.idx rD sl22, R1.intB rD (HPres.refl _), RdS.cells rD, wrap_id]
    refine hK _ _ ?_
    clear hK K
    refine den_stop ?_
    exact ⟨k + 1, by simp [HasL, puts_at], ⟨rfl, by omega, all_step (d := 0) (by omega) hz (by simpa using c1)⟩, by first | omega | (dsimp only; omega)⟩
  ·try simp only [decide_eq_true_eq, decide_eq_false_iff_not, beq_iff_eq, beq_eq_false_iff_ne, bne_iff_ne, ne_eq, Bool.not_eq_true', Bool.not_eq_false', Bool.and_eq_true, Bool.or_eq_true, bne_eq_false_iff_eq] at c0
   refine den_exit ?_
   refine denX_code ?_
   refine denX_stop ?_
   refine denX_hit ?_
   refine den_seq ?_
   refine den_region TTok ?_
   intro K hK
   simp -implicitDefEqProofs (disch := first | decide | assumption | omega) only [go_sem, RdS.len rD sl22, RdS.idx rD sl22, R1.intB rD (HPres.refl _), RdS.cells rD, wrap_id]
   refine hK _ _ ?_
   clear hK K
   refine den_ret ?_
   simp (disch := decide) only [resP_1, puts_same, puts_ne]
   exact ⟨vbool (by rw [fitP, all_end (by omega) hz]; rfl), (Ext.refl _)⟩
end Go.Proofs.Ytffggocjkhcgeaa

namespace Go.Proofs.Ytffggocjkhcgeaa
open Go
open Classical in
/-- Row r of degree n of a family on a tensor product, told by its pairs. -/
noncomputable def pRow (X Y : Cx) (F : Nat → Nat → Nat → Nat → List Int) (n r : Nat) : List Int :=
 if h : ∃ q : Nat × Nat × Nat × Nat, q.1 + q.2.2.1 = n ∧ (q.2.1 : Int) < dimP X q.1 ∧ (q.2.2.2 : Int) < dimP Y q.2.2.1 ∧ placeP X Y q.1 q.2.1 q.2.2.1 q.2.2.2 = r then F h.choose.1 h.choose.2.1 h.choose.2.2.1 h.choose.2.2.2 else []
theorem pRow_at {X Y : Cx} (hX : IsC X) (hY : IsC Y) {F : Nat → Nat → Nat → Nat → List Int} {i a j b : Nat} (ha : (a : Int) < dimP X i) (hb : (b : Int) < dimP Y j) : pRow X Y F (i + j) (placeP X Y i a j b).toNat = F i a j b := by
 have n1 := (pl_lt hX hY ha hb).1
 have h : ∃ q : Nat × Nat × Nat × Nat, q.1 + q.2.2.1 = i + j ∧ (q.2.1 : Int) < dimP X q.1 ∧ (q.2.2.2 : Int) < dimP Y q.2.2.1 ∧ placeP X Y q.1 q.2.1 q.2.2.1 q.2.2.2 = ((placeP X Y i a j b).toNat : Int) := ⟨(i, a, j, b), rfl, ha, hb, by show placeP X Y i a j b = _; omega⟩
 unfold pRow
 rw [dif_pos h]
 obtain ⟨e1, e2, e3, e4⟩ := h.choose_spec
 have := place_inj hX hY e1 e2 e3 ha hb (by rw [e4]; omega)
 rw [this.1, this.2.1, this.2.2.1, this.2.2.2]
noncomputable def pRows (X Y : Cx) (F : Nat → Nat → Nat → Nat → List Int) (n : Nat) : List (List Int) := (List.range (sumP X Y n (n + 1)).toNat).map fun r : Nat => pRow X Y F n r
noncomputable def pfam (X Y : Cx) (F : Nat → Nat → Nat → Nat → List Int) : M3 := (List.range (X.dims.length + Y.dims.length - 1)).map fun n : Nat => pRows X Y F n
theorem pRows_all {X Y : Cx} {F : Nat → Nat → Nat → Nat → List Int} {n m : Nat} (h : X.dims.length ≤ m ∨ n + 1 ≤ m) : (List.range (sumP X Y n m).toNat).map (fun r : Nat => pRow X Y F n r) = pRows X Y F n := by
 have e : sumP X Y n m = sumP X Y n (n + 1) := by
  by_cases h1 : n + 1 ≤ m
  ·exact sumP_ext h1 (fun i hi => by rw [dimP_neg (Y := Y) (by omega), Int.mul_zero])
  ·exact (sumP_ext (by omega) (fun i hi => by rw [dimP_big (Y := X) (by omega), Int.zero_mul])).symm
 rw [e]; rfl
theorem pRow_step {X Y : Cx} (hX : IsC X) (hY : IsC Y) {F : Nat → Nat → Nat → Nat → List Int} {n i a b : Nat} (hi : i ≤ n) (ha : (a : Int) < dimP X i) (hb : (b : Int) < dimP Y ((n : Int) - i)) :
  (List.range (placeP X Y i a ((n : Int) - i) b).toNat).map (fun r : Nat => pRow X Y F n r) ++ [F i a (n - i) b] = (List.range (placeP X Y i a ((n : Int) - i) ((b + 1 : Nat) : Int)).toNat).map fun r : Nat => pRow X Y F n r := by
 have ej : (n : Int) - i = ((n - i : Nat) : Int) := by omega
 rw [ej] at hb ⊢
 have n1 := pl_lt hX hY ha hb
 have h2 := (place_next X Y i a ((n - i : Nat) : Int) b (by omega)).2.1
 have h3 := pRow_at hX hY (F := F) ha hb
 rw [show i + (n - i) = n by omega] at h3
 rw [show (((b + 1 : Nat)) : Int) = (b : Int) + 1 by omega, h2, show (placeP X Y i a ((n - i : Nat) : Int) b + 1).toNat = (placeP X Y i a ((n - i : Nat) : Int) b).toNat + 1 by omega, ← range_step (fun r : Nat => pRow X Y F n r), h3]
theorem pair_pos {X Y : Cx} {n i a b : Nat} (ha : (a : Int) < dimP X i) (hb : (b : Int) < dimP Y ((n : Int) - i)) : i ≤ n ∧ (i : Int) ≤ (X.dims.length : Int) - 1 ∧ (n : Int) - i ≤ (Y.dims.length : Int) - 1 := by
 refine ⟨?_, ?_, ?_⟩
 ·by_cases h : i ≤ n
  ·exact h
  ·rw [dimP_neg (by omega)] at hb; omega
 ·have := dim_lt ha; omega
 ·by_cases h : (Y.dims.length : Int) ≤ (n : Int) - i
  ·rw [dimP_big h] at hb; omega
  ·omega
def S0 (f : Nat → Int) : Nat → Int
 | 0 => 0
 | n + 1 => S0 f n + f n
theorem S0_head (f : Nat → Int) : ∀ n, S0 f (n + 1) = f 0 + S0 (fun k => f (k + 1)) n
 | 0 => by simp [S0]
 | n + 1 => by rw [S0, S0_head f n, S0]; omega
theorem S0_rev (f : Nat → Int) : ∀ n, S0 f n = S0 (fun k => f (n - 1 - k)) n
 | 0 => rfl
 | n + 1 => by
  rw [S0_head (fun k => f (n + 1 - 1 - k)) n, S0, S0_rev f n]
  have : ∀ m, m ≤ n → S0 (fun k => f (n - 1 - k)) m = S0 (fun k => f (n + 1 - 1 - (k + 1))) m := by
   intro m
   induction m with
   | zero => intro _; rfl
   | succ m ih => intro hm; rw [S0, S0, ih (by omega), show n + 1 - 1 - (m + 1) = n - 1 - m by omega]
  rw [this n (Nat.le_refl _), show n + 1 - 1 - 0 = n by omega]; omega
theorem sumP_S0 (X Y : Cx) (s : Nat) : ∀ m, m ≤ s + 1 → sumP X Y s m = S0 (fun k => dimP X (k : Int) * dimP Y ((s - k : Nat) : Int)) m
 | 0, _ => rfl
 | m + 1, h => by rw [sumP, S0, sumP_S0 X Y s m (by omega), show (s : Int) - (m : Int) = ((s - m : Nat) : Int) by omega]
theorem S0_congr {f g : Nat → Int} : ∀ n, (∀ k, k < n → f k = g k) → S0 f n = S0 g n
 | 0, _ => rfl
 | n + 1, h => by rw [S0, S0, S0_congr n (fun k hk => h k (by omega)), h n (by omega)]
theorem sumP_comm (X Y : Cx) (s : Nat) : sumP X Y s (s + 1) = sumP Y X s (s + 1) := by
 rw [sumP_S0 X Y s _ (Nat.le_refl _), sumP_S0 Y X s _ (Nat.le_refl _), S0_rev]
 refine S0_congr _ (fun k hk => ?_)
 show dimP X ((s + 1 - 1 - k : Nat) : Int) * dimP Y ((s - (s + 1 - 1 - k) : Nat) : Int) = dimP Y (k : Int) * dimP X ((s - k : Nat) : Int)
 rw [show s + 1 - 1 - k = s - k by omega, show s - (s - k) = k by omega, Int.mul_comm]
theorem tdP_comm (X Y : Cx) {n : Nat} (h : n < X.dims.length + Y.dims.length - 1) : (tdP Y X).getD n 0 = (tdP X Y).getD n 0 := by
 rw [tdP_get X Y h, tdP_get Y X (by omega), sumP_comm]
def swRow (X Y : Cx) (i a j b : Nat) : List Int := (List.replicate ((tdP X Y).getD (i + j) 0).toNat 0).set (placeP Y X j b i a).toNat ((1 - 2 * ((i : Int) * (j : Int)).tmod 2) % X.p)
noncomputable def swP (X Y : Cx) : M3 × Int := if twoP X Y = 0 then (if fitP (tdP X Y) = true then (pfam X Y (swRow X Y), 0) else ([], 3)) else ([], twoP X Y)
theorem cnt_pfam {X Y : Cx} (hX : IsC X) (hY : IsC Y) (hf : fitP (tdP X Y) = true) {F : Nat → Nat → Nat → Nat → List Int} (hc : ∀ i a j b : Nat, (a : Int) < dimP X (i : Int) → (b : Int) < dimP Y (j : Int) → (F i a j b).length ≤ 8) : 0 ≤ cntL cnt2 (pfam X Y F) ∧ cntL cnt2 (pfam X Y F) ≤ 384 := by
 have ha := fit_all hX hY hf
 have hl := fit_len hf
 rw [tdP_len] at hl
 have hlX := hX.len
 have hq := cntL_bnd (ct := cnt2) (c := 64) (xs := pfam X Y F) (m := 6) (by omega) (fun x hx => ?_) (by rw [pfam, List.length_map, List.length_range]; omega)
 ·exact ⟨hq.1, by have := hq.2; omega⟩
 obtain ⟨n, hn, rfl⟩ := List.mem_map.1 hx
 rw [List.mem_range] at hn
 have hs : (sumP X Y n (n + 1)).toNat ≤ 8 := by
  have := in3_iff.1 (all_at (f := fun x => in3 x 0 8) (d := 0) ha (k := n) (by rw [tdP_len]; exact hn))
  rw [tdP_get X Y hn] at this; omega
 have hq := cntL_bnd (ct := cnt1) (c := 8) (xs := pRows X Y F n) (m := 8) (by omega) (fun y hy => ?_) (by rw [pRows, List.length_map, List.length_range]; omega)
 ·exact ⟨hq.1, by have := hq.2; show cntL cnt1 (pRows X Y F n) ≤ 64; omega⟩
 obtain ⟨r, hr, rfl⟩ := List.mem_map.1 hy
 rw [List.mem_range] at hr
 obtain ⟨i, a, j, b, _, hs', ha', hb', hcp⟩ := place_surj hX hY (s := n) (r := (r : Int)) (by omega) (m := n + 1) (by omega)
 have := pRow_at hX hY (F := F) ha' hb'
 rw [hs', show (placeP X Y i a j b).toNat = r by omega] at this
 rw [this]
 have := hc i a j b ha' hb'
 simp only [cnt1]; omega
theorem cnt_sw (X Y : Cx) : 0 ≤ cntL cnt2 (swP X Y).1 ∧ cntL cnt2 (swP X Y).1 ≤ 384 := by
 unfold swP
 split
 ·rename_i hc
  obtain ⟨hX, hY, _⟩ := twoP_0 hc
  split
  ·rename_i hf
   refine cnt_pfam hX hY hf (fun i a j b h1 h2 => ?_)
   have := in3_iff.1 (all_at (f := fun x => in3 x 0 8) (d := 0) (fit_all hX hY hf) (k := i + j) (by have := dim_lt h1; have := dim_lt h2; rw [tdP_len]; omega))
   rw [swRow, List.length_set, List.length_replicate]; omega
  ·exact ⟨Int.le_refl _, by show (0 : Int) ≤ _; decide⟩
 ·exact ⟨Int.le_refl _, by show (0 : Int) ≤ _; decide⟩
theorem sw_val {p e : Int} (hp : isP p = true) (he : 0 ≤ e) : (1 - e.tmod 2 * 2 + p).tmod p = (1 - 2 * e.tmod 2) % p := by
 have h1 := Int.tmod_nonneg 2 he
 have h2 := Int.tmod_lt_of_pos e (show (0 : Int) < 2 by decide)
 have hq : p = 2 ∨ p = 3 ∨ p = 5 ∨ p = 7 := by simpa [isP, or_assoc] using hp
 have : e.tmod 2 = 0 ∨ e.tmod 2 = 1 := by omega
 rcases this with e0 | e0 <;> rw [e0] <;> rcases hq with rfl | rfl | rfl | rfl <;> decide
end Go.Proofs.Ytffggocjkhcgeaa

namespace Go.Proofs.Ytffggocjkhcgeaa
open Go
set_option maxRecDepth 100000 in
set_option maxHeartbeats 4000000 in
theorem pairFam_ok (X Y : Cx) (vdX vmX vdY vmY : Value) (Fn : Nat → Nat → Nat → Nat → List Int) (g : FuncId) (cs : Array Value) (h : Heap) (hdX : R1 h vdX X.dims) (hmX : R3 h vmX X.maps) (hdY : R1 h vdY Y.dims) (hmY : R3 h vmY Y.maps) (hX : IsC X) (hY : IsC Y) (hf : ∀ (i a b : Nat) (j : Int), (a : Int) < dimP X i → (b : Int) < dimP Y j → 0 ≤ j → ∀ h', Ext h h' → CallA Try.prog g (#[.int .i64 (i : Int), .int .i64 (a : Int), .int .i64 j, .int .i64 (b : Int)] ++ cs) h' fun v' h'' => ∃ f0, O1 h'' v' (Fn i a j.toNat b) f0 ∧ Fresh h'.size f0 ∧ Ext h' h'') : CallA Try.prog 105 #[.agg #[.int .i64 X.p, vdX, vmX], .agg #[.int .i64 Y.p, vdY, vmY], .func (.func g) #[] cs] h fun v' h' => ∃ f0, O3 h' v' (pfam X Y Fn) f0 ∧ Fresh h.size f0 ∧ Ext h h' := by
 have hledX := RdS.le hdX
 have hledY := RdS.le hdY
 have hlX := hX.len
 have hlY := hY.len
 refine callA_intro TTok (args := [_, _, _]) Try.func105 (by kernel_rfl) rfl 64 rfl (by simp) [.tmp 6] rfl ?_
 simp only [idxs, Nat.reduceAdd]
 refine den_seq ?_
 refine den_region TTok ?_
 intro K hK
 simp -implicitDefEqProofs (disch := first | decide | assumption | omega) only [go_sem, RdS.len hdX sl22, RdS.idx hdX sl22, R1.intB hdX (HPres.refl _), RdS.cells hdX, RdS.len hmX sl23, RdS.idx hmX sl23, RdS.cellB hmX (HPres.refl _), RdS.cells hmX, RdS.len hdY sl22, RdS.idx hdY sl22, R1.intB hdY (HPres.refl _), RdS.cells hdY, RdS.len hmY sl23, RdS.idx hmY sl23, RdS.cellB hmY (HPres.refl _), RdS.cells hmY, wrap_id]
 refine op_box (cs := #[.int .i64 (X.p), vdX, vmX]) rfl ?_
 intro h0_0 e0_0 hb0_0 z0_0
 have := Ext.size e0_0
 have eB := e0_0
 have hfhb0_0 : Fresh h.size [h.size] := Fresh.one _
 have hlhb0_0 := one_lt (show h.size < h0_0.size by omega)
 try simp -implicitDefEqProofs (disch := first | decide | assumption | omega) only [go_sem, RdS.len hdX sl22, RdS.idx hdX sl22, R1.intB hdX (Ext.pres eB), RdS.cells hdX, RdS.len hmX sl23, RdS.idx hmX sl23, RdS.cellB hmX (Ext.pres eB), RdS.cells hmX, RdS.len hdY sl22, RdS.idx hdY sl22, R1.intB hdY (Ext.pres eB), RdS.cells hdY, RdS.len hmY sl23, RdS.idx hmY sl23, RdS.cellB hmY (Ext.pres eB), RdS.cells hmY, BoxAt.cell hb0_0, wrap_id]
 refine op_box (cs := #[.int .i64 (Y.p), vdY, vmY]) rfl ?_
 intro h0_1 e0_1 hb0_1 z0_1
 replace hb0_0 := BoxAt.ext hb0_0 e0_1
 have := Ext.size e0_1
 replace eB := Ext.trans eB e0_1
 have hfhb0_1 : Fresh h0_0.size [h0_0.size] := Fresh.one _
 have hlhb0_1 := one_lt (show h0_0.size < h0_1.size by omega)
 try simp -implicitDefEqProofs (disch := first | decide | assumption | omega) only [go_sem, RdS.len hdX sl22, RdS.idx hdX sl22, R1.intB hdX (Ext.pres eB), RdS.cells hdX, RdS.len hmX sl23, RdS.idx hmX sl23, RdS.cellB hmX (Ext.pres eB), RdS.cells hmX, RdS.len hdY sl22, RdS.idx hdY sl22, R1.intB hdY (Ext.pres eB), RdS.cells hdY, RdS.len hmY sl23, RdS.idx hmY sl23, RdS.cellB hmY (Ext.pres eB), RdS.cells hmY, BoxAt.cell hb0_0, BoxAt.cell hb0_1, wrap_id]
 refine hK _ _ ?_
 clear hK K
 refine den_seq ?_
 refine den_region TTok ?_
 intro K hK
 simp -implicitDefEqProofs (disch := first | decide | assumption | omega) only [go_sem, RdS.len hdX sl22, RdS.idx hdX sl22, R1.intB hdX (Ext.pres eB), RdS.cells hdX, RdS.len hmX sl23, RdS.idx hmX sl23, RdS.cellB hmX (Ext.pres eB), RdS.cells hmX, RdS.len hdY sl22, RdS.idx hdY sl22, R1.intB hdY (Ext.pres eB), RdS.cells hdY, RdS.len hmY sl23, RdS.idx hmY sl23, RdS.cellB hmY (Ext.pres eB), RdS.cells hmY, BoxAt.cell hb0_0, BoxAt.cell hb0_1, wrap_id]
 refine op_bs0 sz23 O2 ?_
 intro v1_0 h1_0 ho1_0 e1_0
 replace hb0_0 := BoxAt.ext hb0_0 e1_0
 replace hb0_1 := BoxAt.ext hb0_1 e1_0
 have := Ext.size e1_0
 replace eB := Ext.trans eB e1_0
 have hfho1_0 : Fresh h0_1.size [h0_1.size] := Fresh.one _
 have hlho1_0 := OS.lt ho1_0
 try simp -implicitDefEqProofs (disch := first | decide | assumption | omega) only [go_sem, RdS.len hdX sl22, RdS.idx hdX sl22, R1.intB hdX (Ext.pres eB), RdS.cells hdX, RdS.len hmX sl23, RdS.idx hmX sl23, RdS.cellB hmX (Ext.pres eB), RdS.cells hmX, RdS.len hdY sl22, RdS.idx hdY sl22, R1.intB hdY (Ext.pres eB), RdS.cells hdY, RdS.len hmY sl23, RdS.idx hmY sl23, RdS.cellB hmY (Ext.pres eB), RdS.cells hmY, RdS.len (OS.rd ho1_0) sl23, RdS.idx (OS.rd ho1_0) sl23, RdS.cellN (OS.rd ho1_0), RdS.cells (OS.rd ho1_0), BoxAt.cell hb0_0, BoxAt.cell hb0_1, wrap_id]
 refine hK _ _ ?_
 clear hK K
 refine den_seq ?_
 refine den_seq ?_
 refine den_draw TTok mixed [] [(0, true), (2, true), (6, true), (1, false), (3, false), (4, true), (5, true)] (by kernel_rfl) ?_
 intro K hK
 simp -implicitDefEqProofs (disch := first | decide | assumption | omega) only [go_sem, ld30, RdS.len hdX sl22, RdS.idx hdX sl22, R1.intB hdX (Ext.pres eB), RdS.cells hdX, RdS.len hmX sl23, RdS.idx hmX sl23, RdS.cellB hmX (Ext.pres eB), RdS.cells hmX, RdS.len hdY sl22, RdS.idx hdY sl22, R1.intB hdY (Ext.pres eB), RdS.cells hdY, RdS.len hmY sl23, RdS.idx hmY sl23, RdS.cellB hmY (Ext.pres eB), RdS.cells hmY, RdS.len (OS.rd ho1_0) sl23, RdS.idx (OS.rd ho1_0) sl23, RdS.cellN (OS.rd ho1_0), RdS.cells (OS.rd ho1_0), BoxAt.cell hb0_0, BoxAt.cell hb0_1, wrap_id]
 try simp -implicitDefEqProofs (disch := first | decide | assumption | omega) only [go_sem, RdS.len hdX sl22, RdS.idx hdX sl22, R1.intB hdX (Ext.pres eB), RdS.cells hdX, RdS.len hmX sl23, RdS.idx hmX sl23, RdS.cellB hmX (Ext.pres eB), RdS.cells hmX, RdS.len hdY sl22, RdS.idx hdY sl22, R1.intB hdY (Ext.pres eB), RdS.cells hdY, RdS.len hmY sl23, RdS.idx hmY sl23, RdS.cellB hmY (Ext.pres eB), RdS.cells hmY, RdS.len (OS.rd ho1_0) sl23, RdS.idx (OS.rd ho1_0) sl23, RdS.cellN (OS.rd ho1_0), RdS.cells (OS.rd ho1_0), BoxAt.cell hb0_0, BoxAt.cell hb0_1, wrap_id]
 refine CallA.mono (top_ok _ X _ ⟨_, _, rfl, (RdS.pres hdX (Ext.pres eB)), (RdS.pres hmX (Ext.pres eB))⟩) ?_
 intro v_ h2_1
 rintro ⟨rfl, e2_1⟩
 replace ho1_0 := OS.ext ho1_0 e2_1
 replace hb0_0 := BoxAt.ext hb0_0 e2_1
 replace hb0_1 := BoxAt.ext hb0_1 e2_1
 have := Ext.size e2_1
 replace eB := Ext.trans eB e2_1
 try simp (disch := decide) only [outv_some, outv_none, put_puts]
 refine plK_pres (Ext.pres e2_1) ?_
 try simp -implicitDefEqProofs (disch := first | decide | assumption | omega) only [go_sem, RdS.len hdX sl22, RdS.idx hdX sl22, R1.intB hdX (Ext.pres eB), RdS.cells hdX, RdS.len hmX sl23, RdS.idx hmX sl23, RdS.cellB hmX (Ext.pres eB), RdS.cells hmX, RdS.len hdY sl22, RdS.idx hdY sl22, R1.intB hdY (Ext.pres eB), RdS.cells hdY, RdS.len hmY sl23, RdS.idx hmY sl23, RdS.cellB hmY (Ext.pres eB), RdS.cells hmY, RdS.len (OS.rd ho1_0) sl23, RdS.idx (OS.rd ho1_0) sl23, RdS.cellN (OS.rd ho1_0), RdS.cells (OS.rd ho1_0), BoxAt.cell hb0_0, BoxAt.cell hb0_1, wrap_id]
 try simp -implicitDefEqProofs (disch := first | decide | assumption | omega) only [go_sem, RdS.len hdX sl22, RdS.idx hdX sl22, R1.intB hdX (Ext.pres eB), RdS.cells hdX, RdS.len hmX sl23, RdS.idx hmX sl23, RdS.cellB hmX (Ext.pres eB), RdS.cells hmX, RdS.len hdY sl22, RdS.idx hdY sl22, R1.intB hdY (Ext.pres eB), RdS.cells hdY, RdS.len hmY sl23, RdS.idx hmY sl23, RdS.cellB hmY (Ext.pres eB), RdS.cells hmY, RdS.len (OS.rd ho1_0) sl23, RdS.idx (OS.rd ho1_0) sl23, RdS.cellN (OS.rd ho1_0), RdS.cells (OS.rd ho1_0), BoxAt.cell hb0_0, BoxAt.cell hb0_1, wrap_id]
 refine CallA.mono (top_ok _ Y _ ⟨_, _, rfl, (RdS.pres hdY (Ext.pres eB)), (RdS.pres hmY (Ext.pres eB))⟩) ?_
 intro v_ h2_3
 rintro ⟨rfl, e2_3⟩
 replace ho1_0 := OS.ext ho1_0 e2_3
 replace hb0_0 := BoxAt.ext hb0_0 e2_3
 replace hb0_1 := BoxAt.ext hb0_1 e2_3
 have := Ext.size e2_3
 replace eB := Ext.trans eB e2_3
 try simp (disch := decide) only [outv_some, outv_none, put_puts]
 refine plK_pres (Ext.pres e2_3) ?_
 try simp -implicitDefEqProofs (disch := first | decide | assumption | omega) only [go_sem, RdS.len hdX sl22, RdS.idx hdX sl22, R1.intB hdX (Ext.pres eB), RdS.cells hdX, RdS.len hmX sl23, RdS.idx hmX sl23, RdS.cellB hmX (Ext.pres eB), RdS.cells hmX, RdS.len hdY sl22, RdS.idx hdY sl22, R1.intB hdY (Ext.pres eB), RdS.cells hdY, RdS.len hmY sl23, RdS.idx hmY sl23, RdS.cellB hmY (Ext.pres eB), RdS.cells hmY, RdS.len (OS.rd ho1_0) sl23, RdS.idx (OS.rd ho1_0) sl23, RdS.cellN (OS.rd ho1_0), RdS.cells (OS.rd ho1_0), BoxAt.cell hb0_0, BoxAt.cell hb0_1, wrap_id]
 refine hK _ _ ?_
 clear hK K
 refine den_block ?_
 refine den_sel [7, 20, 2, 3, 4, 19] ?_
 intro env_1
 simp only [go_sem]
 refine den_loopS (σ := Nat × Value × List Nat) (fun st_ => [(7, st_.2.1), (20, .int .i64 (st_.1 : Int))]) (fun st_ H => (st_.1 ≤ X.dims.length + Y.dims.length - 1) ∧ (O3 H st_.2.1 ((List.range st_.1).map fun q : Nat => pRows X Y Fn q) st_.2.2) ∧ (Fresh (h0_1.size) st_.2.2) ∧ (Sub [h0_1.size] h2_3.size st_.2.2) ∧ (Chg [h0_1.size] h2_3 H)) (fun st_ => X.dims.length + Y.dims.length - st_.1) (0, v1_0, [h0_1.size]) ?_ ?_
 ·exact ⟨by first | (simp; done) | (dsimp only; omega) | (simp; omega), by simpa using ho1_0, hfho1_0, Sub.refl, Chg.refl _ _⟩
 ·rintro ⟨n, vhO, fphO⟩ h4 ee3 ⟨hi0, hO, hfhO, sbhO, cL2⟩
  dsimp only at hi0 hO hfhO sbhO cL2
  replace hb0_0 := BoxAt.chgA hb0_0 cL2 (apart_lt hlhb0_0 hfho1_0 (by omega))
  replace hb0_1 := BoxAt.chgA hb0_1 cL2 (apart_lt hlhb0_1 hfho1_0 (by omega))
  have := cL2.size
  replace eB := Ext.then eB cL2 (ge_of hfho1_0 (by omega))
  have hlhO := OS.lt hO
  simp only [List.cons_append, List.nil_append]
  refine den_seq ?_
  refine den_region TTok ?_
  intro K hK
  simp -implicitDefEqProofs (disch := first | decide | assumption | omega) only [go_sem, RdS.len hdX sl22, RdS.idx hdX sl22, R1.intB hdX (Ext.pres eB), RdS.cells hdX, RdS.len hmX sl23, RdS.idx hmX sl23, RdS.cellB hmX (Ext.pres eB), RdS.cells hmX, RdS.len hdY sl22, RdS.idx hdY sl22, R1.intB hdY (Ext.pres eB), RdS.cells hdY, RdS.len hmY sl23, RdS.idx hmY sl23, RdS.cellB hmY (Ext.pres eB), RdS.cells hmY, RdS.len (OS.rd hO) sl23, RdS.idx (OS.rd hO) sl23, RdS.cellN (OS.rd hO), RdS.cells (OS.rd hO), BoxAt.cell hb0_0, BoxAt.cell hb0_1, wrap_id]
  refine hK _ _ ?_
  clear hK K
  refine den_seq ?_
  refine den_cond rfl (fun c0 => ?_) (fun c0 => ?_)
  ·try simp only [decide_eq_true_eq, decide_eq_false_iff_not, beq_iff_eq, beq_eq_false_iff_ne, bne_iff_ne, ne_eq, Bool.not_eq_true', Bool.not_eq_false', Bool.and_eq_true, Bool.or_eq_true, bne_eq_false_iff_eq] at c0
   refine den_skip ?_
   refine den_seq ?_
   refine den_block ?_
   refine den_seq ?_
   refine den_region TTok ?_
   intro K hK
   simp -implicitDefEqProofs (disch := first | decide | assumption | omega) only [go_sem, RdS.len hdX sl22, RdS.idx hdX sl22, R1.intB hdX (Ext.pres eB), RdS.cells hdX, RdS.len hmX sl23, RdS.idx hmX sl23, RdS.cellB hmX (Ext.pres eB), RdS.cells hmX, RdS.len hdY sl22, RdS.idx hdY sl22, R1.intB hdY (Ext.pres eB), RdS.cells hdY, RdS.len hmY sl23, RdS.idx hmY sl23, RdS.cellB hmY (Ext.pres eB), RdS.cells hmY, RdS.len (OS.rd hO) sl23, RdS.idx (OS.rd hO) sl23, RdS.cellN (OS.rd hO), RdS.cells (OS.rd hO), BoxAt.cell hb0_0, BoxAt.cell hb0_1, wrap_id]
   refine hK _ _ ?_
   clear hK K
   refine den_seq ?_
   refine den_region TTok ?_
   intro K hK
   simp -implicitDefEqProofs (disch := first | decide | assumption | omega) only [go_sem, RdS.len hdX sl22, RdS.idx hdX sl22, R1.intB hdX (Ext.pres eB), RdS.cells hdX, RdS.len hmX sl23, RdS.idx hmX sl23, RdS.cellB hmX (Ext.pres eB), RdS.cells hmX, RdS.len hdY sl22, RdS.idx hdY sl22, R1.intB hdY (Ext.pres eB), RdS.cells hdY, RdS.len hmY sl23, RdS.idx hmY sl23, RdS.cellB hmY (Ext.pres eB), RdS.cells hmY, RdS.len (OS.rd hO) sl23, RdS.idx (OS.rd hO) sl23, RdS.cellN (OS.rd hO), RdS.cells (OS.rd hO), BoxAt.cell hb0_0, BoxAt.cell hb0_1, wrap_id]
   refine op_bs0 sz56 O1 ?_
   intro v5_0 h5_0 ho5_0 e5_0
   replace hO := OS.ext hO e5_0
   replace hb0_0 := BoxAt.ext hb0_0 e5_0
   replace hb0_1 := BoxAt.ext hb0_1 e5_0
   have := Ext.size e5_0
   replace eB := Ext.trans eB e5_0
   replace cL2 := Chg.stepE cL2 e5_0
   have hfho5_0 : Fresh h4.size [h4.size] := Fresh.one _
   have hlho5_0 := OS.lt ho5_0
   try simp -implicitDefEqProofs (disch := first | decide | assumption | omega) only [go_sem, RdS.len hdX sl22, RdS.idx hdX sl22, R1.intB hdX (Ext.pres eB), RdS.cells hdX, RdS.len hmX sl23, RdS.idx hmX sl23, RdS.cellB hmX (Ext.pres eB), RdS.cells hmX, RdS.len hdY sl22, RdS.idx hdY sl22, R1.intB hdY (Ext.pres eB), RdS.cells hdY, RdS.len hmY sl23, RdS.idx hmY sl23, RdS.cellB hmY (Ext.pres eB), RdS.cells hmY, RdS.len (OS.rd hO) sl23, RdS.idx (OS.rd hO) sl23, RdS.cellN (OS.rd hO), RdS.cells (OS.rd hO), RdS.len (OS.rd ho5_0) sl56, RdS.idx (OS.rd ho5_0) sl56, RdS.cellN (OS.rd ho5_0), RdS.cells (OS.rd ho5_0), BoxAt.cell hb0_0, BoxAt.cell hb0_1, wrap_id]
   refine hK _ _ ?_
   clear hK K
   refine den_seq ?_
   refine den_seq ?_
   refine den_region TTok ?_
   intro K hK
   simp -implicitDefEqProofs (disch := first | decide | assumption | omega) only [go_sem, fa30_1, ld22, RdS.len hdX sl22, RdS.idx hdX sl22, R1.intB hdX (Ext.pres eB), RdS.cells hdX, RdS.len hmX sl23, RdS.idx hmX sl23, RdS.cellB hmX (Ext.pres eB), RdS.cells hmX, RdS.len hdY sl22, RdS.idx hdY sl22, R1.intB hdY (Ext.pres eB), RdS.cells hdY, RdS.len hmY sl23, RdS.idx hmY sl23, RdS.cellB hmY (Ext.pres eB), RdS.cells hmY, RdS.len (OS.rd hO) sl23, RdS.idx (OS.rd hO) sl23, RdS.cellN (OS.rd hO), RdS.cells (OS.rd hO), RdS.len (OS.rd ho5_0) sl56, RdS.idx (OS.rd ho5_0) sl56, RdS.cellN (OS.rd ho5_0), RdS.cells (OS.rd ho5_0), BoxAt.cell hb0_0, BoxAt.cell hb0_1, wrap_id]
   try simp -implicitDefEqProofs (disch := first | decide | assumption | omega) only [go_sem, RdS.len hdX sl22, RdS.idx hdX sl22, R1.intB hdX (Ext.pres eB), RdS.cells hdX, RdS.len hmX sl23, RdS.idx hmX sl23, RdS.cellB hmX (Ext.pres eB), RdS.cells hmX, RdS.len hdY sl22, RdS.idx hdY sl22, R1.intB hdY (Ext.pres eB), RdS.cells hdY, RdS.len hmY sl23, RdS.idx hmY sl23, RdS.cellB hmY (Ext.pres eB), RdS.cells hmY, RdS.len (OS.rd hO) sl23, RdS.idx (OS.rd hO) sl23, RdS.cellN (OS.rd hO), RdS.cells (OS.rd hO), RdS.len (OS.rd ho5_0) sl56, RdS.idx (OS.rd ho5_0) sl56, RdS.cellN (OS.rd ho5_0), RdS.cells (OS.rd ho5_0), BoxAt.cell hb0_0, BoxAt.cell hb0_1, wrap_id]
   refine CallA.pure (size1_ok _ _ _ (RdS.pres hdX (Ext.pres eB))) ?_
   try simp -implicitDefEqProofs (disch := first | decide | assumption | omega) only [go_sem, RdS.len hdX sl22, RdS.idx hdX sl22, R1.intB hdX (Ext.pres eB), RdS.cells hdX, RdS.len hmX sl23, RdS.idx hmX sl23, RdS.cellB hmX (Ext.pres eB), RdS.cells hmX, RdS.len hdY sl22, RdS.idx hdY sl22, R1.intB hdY (Ext.pres eB), RdS.cells hdY, RdS.len hmY sl23, RdS.idx hmY sl23, RdS.cellB hmY (Ext.pres eB), RdS.cells hmY, RdS.len (OS.rd hO) sl23, RdS.idx (OS.rd hO) sl23, RdS.cellN (OS.rd hO), RdS.cells (OS.rd hO), RdS.len (OS.rd ho5_0) sl56, RdS.idx (OS.rd ho5_0) sl56, RdS.cellN (OS.rd ho5_0), RdS.cells (OS.rd ho5_0), BoxAt.cell hb0_0, BoxAt.cell hb0_1, wrap_id]
   refine hK _ _ ?_
   clear hK K
   refine den_block ?_
   refine den_sel [9, 27, 2, 3, 4, 7, 8, 19, 20, 26] ?_
   intro env_5
   simp only [go_sem]
   refine den_loopS (σ := Nat × Value × List Nat) (fun st_ => [(9, st_.2.1), (27, .int .i64 (st_.1 : Int))]) (fun st_ H => (st_.1 ≤ X.dims.length) ∧ (O2 H st_.2.1 ((List.range (sumP X Y n st_.1).toNat).map fun r : Nat => pRow X Y Fn n r) st_.2.2) ∧ (Fresh (h4.size) st_.2.2) ∧ (Sub [h4.size] h5_0.size st_.2.2) ∧ (Chg [h4.size] h5_0 H)) (fun st_ => X.dims.length - st_.1) (0, v5_0, [h4.size]) ?_ ?_
   ·exact ⟨by first | (simp; done) | (dsimp only; omega) | (simp; omega), by rw [sumP]; exact ho5_0, hfho5_0, Sub.refl, Chg.refl _ _⟩
   ·rintro ⟨i, vhR, fphR⟩ h8 ee7 ⟨hi0, hR, hfhR, sbhR, cL6⟩
    dsimp only at hi0 hR hfhR sbhR cL6
    replace hO := OS.chg hO cL6 (apart_lt hlhO hfho5_0 (by omega))
    replace hb0_0 := BoxAt.chgA hb0_0 cL6 (apart_lt hlhb0_0 hfho5_0 (by omega))
    replace hb0_1 := BoxAt.chgA hb0_1 cL6 (apart_lt hlhb0_1 hfho5_0 (by omega))
    have := cL6.size
    replace eB := Ext.then eB cL6 (ge_of hfho5_0 (by omega))
    replace cL2 := Chg.step cL2 cL6 (Sub.fresh hfho5_0 (by omega))
    have hlhR := OS.lt hR
    simp only [List.cons_append, List.nil_append]
    refine den_seq ?_
    refine den_region TTok ?_
    intro K hK
    simp -implicitDefEqProofs (disch := first | decide | assumption | omega) only [go_sem, RdS.len hdX sl22, RdS.idx hdX sl22, R1.intB hdX (Ext.pres eB), RdS.cells hdX, RdS.len hmX sl23, RdS.idx hmX sl23, RdS.cellB hmX (Ext.pres eB), RdS.cells hmX, RdS.len hdY sl22, RdS.idx hdY sl22, R1.intB hdY (Ext.pres eB), RdS.cells hdY, RdS.len hmY sl23, RdS.idx hmY sl23, RdS.cellB hmY (Ext.pres eB), RdS.cells hmY, RdS.len (OS.rd hO) sl23, RdS.idx (OS.rd hO) sl23, RdS.cellN (OS.rd hO), RdS.cells (OS.rd hO), RdS.len (OS.rd hR) sl56, RdS.idx (OS.rd hR) sl56, RdS.cellN (OS.rd hR), RdS.cells (OS.rd hR), BoxAt.cell hb0_0, BoxAt.cell hb0_1, wrap_id]
    refine hK _ _ ?_
    clear hK K
    refine den_seq ?_
    refine den_cond rfl (fun c1 => ?_) (fun c1 => ?_)
    ·try simp only [decide_eq_true_eq, decide_eq_false_iff_not, beq_iff_eq, beq_eq_false_iff_ne, bne_iff_ne, ne_eq, Bool.not_eq_true', Bool.not_eq_false', Bool.and_eq_true, Bool.or_eq_true, bne_eq_false_iff_eq] at c1
     refine den_skip ?_
     refine den_seq ?_
     refine den_block ?_
     refine den_seq ?_
     refine den_region TTok ?_
     intro K hK
     simp -implicitDefEqProofs (disch := first | decide | assumption | omega) only [go_sem, RdS.len hdX sl22, RdS.idx hdX sl22, R1.intB hdX (Ext.pres eB), RdS.cells hdX, RdS.len hmX sl23, RdS.idx hmX sl23, RdS.cellB hmX (Ext.pres eB), RdS.cells hmX, RdS.len hdY sl22, RdS.idx hdY sl22, R1.intB hdY (Ext.pres eB), RdS.cells hdY, RdS.len hmY sl23, RdS.idx hmY sl23, RdS.cellB hmY (Ext.pres eB), RdS.cells hmY, RdS.len (OS.rd hO) sl23, RdS.idx (OS.rd hO) sl23, RdS.cellN (OS.rd hO), RdS.cells (OS.rd hO), RdS.len (OS.rd hR) sl56, RdS.idx (OS.rd hR) sl56, RdS.cellN (OS.rd hR), RdS.cells (OS.rd hR), BoxAt.cell hb0_0, BoxAt.cell hb0_1, wrap_id]
     refine hK _ _ ?_
     clear hK K
     refine den_seq ?_
     have hbX := dimP_bnd hX (i : Int)
     refine den_region TTok ?_
     intro K hK
     simp -implicitDefEqProofs (disch := first | decide | assumption | omega) only [go_sem, ld30, RdS.len hdX sl22, RdS.idx hdX sl22, R1.intB hdX (Ext.pres eB), RdS.cells hdX, RdS.len hmX sl23, RdS.idx hmX sl23, RdS.cellB hmX (Ext.pres eB), RdS.cells hmX, RdS.len hdY sl22, RdS.idx hdY sl22, R1.intB hdY (Ext.pres eB), RdS.cells hdY, RdS.len hmY sl23, RdS.idx hmY sl23, RdS.cellB hmY (Ext.pres eB), RdS.cells hmY, RdS.len (OS.rd hO) sl23, RdS.idx (OS.rd hO) sl23, RdS.cellN (OS.rd hO), RdS.cells (OS.rd hO), RdS.len (OS.rd hR) sl56, RdS.idx (OS.rd hR) sl56, RdS.cellN (OS.rd hR), RdS.cells (OS.rd hR), BoxAt.cell hb0_0, BoxAt.cell hb0_1, wrap_id]
     try simp -implicitDefEqProofs (disch := first | decide | assumption | omega) only [go_sem, RdS.len hdX sl22, RdS.idx hdX sl22, R1.intB hdX (Ext.pres eB), RdS.cells hdX, RdS.len hmX sl23, RdS.idx hmX sl23, RdS.cellB hmX (Ext.pres eB), RdS.cells hmX, RdS.len hdY sl22, RdS.idx hdY sl22, R1.intB hdY (Ext.pres eB), RdS.cells hdY, RdS.len hmY sl23, RdS.idx hmY sl23, RdS.cellB hmY (Ext.pres eB), RdS.cells hmY, RdS.len (OS.rd hO) sl23, RdS.idx (OS.rd hO) sl23, RdS.cellN (OS.rd hO), RdS.cells (OS.rd hO), RdS.len (OS.rd hR) sl56, RdS.idx (OS.rd hR) sl56, RdS.cellN (OS.rd hR), RdS.cells (OS.rd hR), BoxAt.cell hb0_0, BoxAt.cell hb0_1, wrap_id]
     refine CallA.mono (iDim_ok _ X _ _ ⟨_, _, rfl, (RdS.pres hdX (Ext.pres eB)), (RdS.pres hmX (Ext.pres eB))⟩) ?_
     intro v_ h9_2
     rintro ⟨rfl, e9_2⟩
     replace hO := OS.ext hO e9_2
     replace hR := OS.ext hR e9_2
     replace hb0_0 := BoxAt.ext hb0_0 e9_2
     replace hb0_1 := BoxAt.ext hb0_1 e9_2
     have := Ext.size e9_2
     replace eB := Ext.trans eB e9_2
     replace cL2 := Chg.stepE cL2 e9_2
     replace cL6 := Chg.stepE cL6 e9_2
     try simp -implicitDefEqProofs (disch := first | decide | assumption | omega) only [go_sem, RdS.len hdX sl22, RdS.idx hdX sl22, R1.intB hdX (Ext.pres eB), RdS.cells hdX, RdS.len hmX sl23, RdS.idx hmX sl23, RdS.cellB hmX (Ext.pres eB), RdS.cells hmX, RdS.len hdY sl22, RdS.idx hdY sl22, R1.intB hdY (Ext.pres eB), RdS.cells hdY, RdS.len hmY sl23, RdS.idx hmY sl23, RdS.cellB hmY (Ext.pres eB), RdS.cells hmY, RdS.len (OS.rd hO) sl23, RdS.idx (OS.rd hO) sl23, RdS.cellN (OS.rd hO), RdS.cells (OS.rd hO), RdS.len (OS.rd hR) sl56, RdS.idx (OS.rd hR) sl56, RdS.cellN (OS.rd hR), RdS.cells (OS.rd hR), BoxAt.cell hb0_0, BoxAt.cell hb0_1, wrap_id]
     refine hK _ _ ?_
     clear hK K
     refine den_block ?_
     refine den_sel [9, 33, 2, 3, 4, 7, 8, 10, 19, 20, 26, 27, 32] ?_
     intro env_9
     simp only [go_sem]
     refine den_loopS (σ := Nat × Value × List Nat) (fun st_ => [(9, st_.2.1), (33, .int .i64 (st_.1 : Int))]) (fun st_ H => ((st_.1 : Int) ≤ dimP X i) ∧ (O2 H st_.2.1 ((List.range (placeP X Y i st_.1 ((n : Int) - i) 0).toNat).map fun r : Nat => pRow X Y Fn n r) st_.2.2) ∧ (Fresh (h4.size) st_.2.2) ∧ (Sub fphR h9_2.size st_.2.2) ∧ (Chg fphR h9_2 H)) (fun st_ => (dimP X i).toNat - st_.1) (0, vhR, fphR) ?_ ?_
     ·exact ⟨by have := dimP_bnd hX (i : Int); omega, by rw [show placeP X Y i ((0 : Nat) : Int) ((n : Int) - i) 0 = sumP X Y n i by have h := (place_next X Y i 0 ((n : Int) - i) 0 (by omega)).2.2.1; rw [show (i : Int) + ((n : Int) - i) = n by omega, Int.toNat_natCast] at h; exact h]; exact hR, hfhR, Sub.refl, Chg.refl _ _⟩
     ·rintro ⟨a, vhA, fphA⟩ h12 ee11 ⟨hi0, hA, hfhA, sbhA, cL10⟩
      dsimp only at hi0 hA hfhA sbhA cL10
      replace hO := OS.chg hO cL10 (apart_lt hlhO hfhR (by omega))
      replace hb0_0 := BoxAt.chgA hb0_0 cL10 (apart_lt hlhb0_0 hfhR (by omega))
      replace hb0_1 := BoxAt.chgA hb0_1 cL10 (apart_lt hlhb0_1 hfhR (by omega))
      have := cL10.size
      replace eB := Ext.then eB cL10 (ge_of hfhR (by omega))
      replace cL2 := Chg.step cL2 cL10 (Sub.fresh hfhR (by omega))
      replace cL6 := Chg.step cL6 cL10 sbhR
      have sb13 : Sub [h4.size] h5_0.size fphA := Sub.trans sbhA sbhR (by omega)
      have hlhA := OS.lt hA
      simp only [List.cons_append, List.nil_append]
      refine den_seq ?_
      refine den_region TTok ?_
      intro K hK
      simp -implicitDefEqProofs (disch := first | decide | assumption | omega) only [go_sem, RdS.len hdX sl22, RdS.idx hdX sl22, R1.intB hdX (Ext.pres eB), RdS.cells hdX, RdS.len hmX sl23, RdS.idx hmX sl23, RdS.cellB hmX (Ext.pres eB), RdS.cells hmX, RdS.len hdY sl22, RdS.idx hdY sl22, R1.intB hdY (Ext.pres eB), RdS.cells hdY, RdS.len hmY sl23, RdS.idx hmY sl23, RdS.cellB hmY (Ext.pres eB), RdS.cells hmY, RdS.len (OS.rd hO) sl23, RdS.idx (OS.rd hO) sl23, RdS.cellN (OS.rd hO), RdS.cells (OS.rd hO), RdS.len (OS.rd hA) sl56, RdS.idx (OS.rd hA) sl56, RdS.cellN (OS.rd hA), RdS.cells (OS.rd hA), BoxAt.cell hb0_0, BoxAt.cell hb0_1, wrap_id]
      refine hK _ _ ?_
      clear hK K
      refine den_seq ?_
      refine den_cond rfl (fun c2 => ?_) (fun c2 => ?_)
      ·try simp only [decide_eq_true_eq, decide_eq_false_iff_not, beq_iff_eq, beq_eq_false_iff_ne, bne_iff_ne, ne_eq, Bool.not_eq_true', Bool.not_eq_false', Bool.and_eq_true, Bool.or_eq_true, bne_eq_false_iff_eq] at c2
       refine den_skip ?_
       refine den_seq ?_
       refine den_block ?_
       refine den_seq ?_
       refine den_region TTok ?_
       intro K hK
       simp -implicitDefEqProofs (disch := first | decide | assumption | omega) only [go_sem, RdS.len hdX sl22, RdS.idx hdX sl22, R1.intB hdX (Ext.pres eB), RdS.cells hdX, RdS.len hmX sl23, RdS.idx hmX sl23, RdS.cellB hmX (Ext.pres eB), RdS.cells hmX, RdS.len hdY sl22, RdS.idx hdY sl22, R1.intB hdY (Ext.pres eB), RdS.cells hdY, RdS.len hmY sl23, RdS.idx hmY sl23, RdS.cellB hmY (Ext.pres eB), RdS.cells hmY, RdS.len (OS.rd hO) sl23, RdS.idx (OS.rd hO) sl23, RdS.cellN (OS.rd hO), RdS.cells (OS.rd hO), RdS.len (OS.rd hA) sl56, RdS.idx (OS.rd hA) sl56, RdS.cellN (OS.rd hA), RdS.cells (OS.rd hA), BoxAt.cell hb0_0, BoxAt.cell hb0_1, wrap_id]
       refine hK _ _ ?_
       clear hK K
       refine den_seq ?_
       have hbY := dimP_bnd hY ((n : Int) - i)
       refine den_region TTok ?_
       intro K hK
       simp -implicitDefEqProofs (disch := first | decide | assumption | omega) only [go_sem, ld30, RdS.len hdX sl22, RdS.idx hdX sl22, R1.intB hdX (Ext.pres eB), RdS.cells hdX, RdS.len hmX sl23, RdS.idx hmX sl23, RdS.cellB hmX (Ext.pres eB), RdS.cells hmX, RdS.len hdY sl22, RdS.idx hdY sl22, R1.intB hdY (Ext.pres eB), RdS.cells hdY, RdS.len hmY sl23, RdS.idx hmY sl23, RdS.cellB hmY (Ext.pres eB), RdS.cells hmY, RdS.len (OS.rd hO) sl23, RdS.idx (OS.rd hO) sl23, RdS.cellN (OS.rd hO), RdS.cells (OS.rd hO), RdS.len (OS.rd hA) sl56, RdS.idx (OS.rd hA) sl56, RdS.cellN (OS.rd hA), RdS.cells (OS.rd hA), BoxAt.cell hb0_0, BoxAt.cell hb0_1, wrap_id]
       try simp -implicitDefEqProofs (disch := first | decide | assumption | omega) only [go_sem, RdS.len hdX sl22, RdS.idx hdX sl22, R1.intB hdX (Ext.pres eB), RdS.cells hdX, RdS.len hmX sl23, RdS.idx hmX sl23, RdS.cellB hmX (Ext.pres eB), RdS.cells hmX, RdS.len hdY sl22, RdS.idx hdY sl22, R1.intB hdY (Ext.pres eB), RdS.cells hdY, RdS.len hmY sl23, RdS.idx hmY sl23, RdS.cellB hmY (Ext.pres eB), RdS.cells hmY, RdS.len (OS.rd hO) sl23, RdS.idx (OS.rd hO) sl23, RdS.cellN (OS.rd hO), RdS.cells (OS.rd hO), RdS.len (OS.rd hA) sl56, RdS.idx (OS.rd hA) sl56, RdS.cellN (OS.rd hA), RdS.cells (OS.rd hA), BoxAt.cell hb0_0, BoxAt.cell hb0_1, wrap_id]
       refine CallA.mono (iDim_ok _ Y _ _ ⟨_, _, rfl, (RdS.pres hdY (Ext.pres eB)), (RdS.pres hmY (Ext.pres eB))⟩) ?_
       intro v_ h12_4
       rintro ⟨rfl, e12_4⟩
       replace hO := OS.ext hO e12_4
       replace hA := OS.ext hA e12_4
       replace hb0_0 := BoxAt.ext hb0_0 e12_4
       replace hb0_1 := BoxAt.ext hb0_1 e12_4
       have := Ext.size e12_4
       replace eB := Ext.trans eB e12_4
       replace cL2 := Chg.stepE cL2 e12_4
       replace cL6 := Chg.stepE cL6 e12_4
       replace cL10 := Chg.stepE cL10 e12_4
       try simp -implicitDefEqProofs (disch := first | decide | assumption | omega) only [go_sem, RdS.len hdX sl22, RdS.idx hdX sl22, R1.intB hdX (Ext.pres eB), RdS.cells hdX, RdS.len hmX sl23, RdS.idx hmX sl23, RdS.cellB hmX (Ext.pres eB), RdS.cells hmX, RdS.len hdY sl22, RdS.idx hdY sl22, R1.intB hdY (Ext.pres eB), RdS.cells hdY, RdS.len hmY sl23, RdS.idx hmY sl23, RdS.cellB hmY (Ext.pres eB), RdS.cells hmY, RdS.len (OS.rd hO) sl23, RdS.idx (OS.rd hO) sl23, RdS.cellN (OS.rd hO), RdS.cells (OS.rd hO), RdS.len (OS.rd hA) sl56, RdS.idx (OS.rd hA) sl56, RdS.cellN (OS.rd hA), RdS.cells (OS.rd hA), BoxAt.cell hb0_0, BoxAt.cell hb0_1, wrap_id]
       refine hK _ _ ?_
       clear hK K
       refine den_block ?_
       refine den_sel [9, 41, 2, 3, 4, 7, 8, 10, 11, 19, 20, 26, 27, 32, 33, 40] ?_
       intro env_14
       simp only [go_sem]
       refine den_loopS (σ := Nat × Value × List Nat) (fun st_ => [(9, st_.2.1), (41, .int .i64 (st_.1 : Int))]) (fun st_ H => ((st_.1 : Int) ≤ dimP Y ((n : Int) - i)) ∧ (O2 H st_.2.1 ((List.range (placeP X Y i a ((n : Int) - i) st_.1).toNat).map fun r : Nat => pRow X Y Fn n r) st_.2.2) ∧ (Fresh (h4.size) st_.2.2) ∧ (Sub fphA h12_4.size st_.2.2) ∧ (Chg fphA h12_4 H)) (fun st_ => (dimP Y ((n : Int) - i)).toNat - st_.1) (0, vhA, fphA) ?_ ?_
       ·exact ⟨by have := dimP_bnd hY ((n : Int) - i); omega, by exact hA, hfhA, Sub.refl, Chg.refl _ _⟩
       ·rintro ⟨b, vhB, fphB⟩ h17 ee16 ⟨hi0, hB, hfhB, sbhB, cL15⟩
        dsimp only at hi0 hB hfhB sbhB cL15
        replace hO := OS.chg hO cL15 (apart_lt hlhO hfhA (by omega))
        replace hb0_0 := BoxAt.chgA hb0_0 cL15 (apart_lt hlhb0_0 hfhA (by omega))
        replace hb0_1 := BoxAt.chgA hb0_1 cL15 (apart_lt hlhb0_1 hfhA (by omega))
        have := cL15.size
        replace eB := Ext.then eB cL15 (ge_of hfhA (by omega))
        replace cL2 := Chg.step cL2 cL15 (Sub.fresh hfhA (by omega))
        replace cL6 := Chg.step cL6 cL15 sb13
        replace cL10 := Chg.step cL10 cL15 sbhA
        have sb18 : Sub [h4.size] h5_0.size fphB := Sub.trans sbhB sb13 (by omega)
        have sb19 : Sub fphR h9_2.size fphB := Sub.trans sbhB sbhA (by omega)
        have hlhB := OS.lt hB
        simp only [List.cons_append, List.nil_append]
        refine den_seq ?_
        refine den_region TTok ?_
        intro K hK
        simp -implicitDefEqProofs (disch := first | decide | assumption | omega) only [go_sem, RdS.len hdX sl22, RdS.idx hdX sl22, R1.intB hdX (Ext.pres eB), RdS.cells hdX, RdS.len hmX sl23, RdS.idx hmX sl23, RdS.cellB hmX (Ext.pres eB), RdS.cells hmX, RdS.len hdY sl22, RdS.idx hdY sl22, R1.intB hdY (Ext.pres eB), RdS.cells hdY, RdS.len hmY sl23, RdS.idx hmY sl23, RdS.cellB hmY (Ext.pres eB), RdS.cells hmY, RdS.len (OS.rd hO) sl23, RdS.idx (OS.rd hO) sl23, RdS.cellN (OS.rd hO), RdS.cells (OS.rd hO), RdS.len (OS.rd hB) sl56, RdS.idx (OS.rd hB) sl56, RdS.cellN (OS.rd hB), RdS.cells (OS.rd hB), BoxAt.cell hb0_0, BoxAt.cell hb0_1, wrap_id]
        refine hK _ _ ?_
        clear hK K
        refine den_seq ?_
        refine den_cond rfl (fun c3 => ?_) (fun c3 => ?_)
        ·try simp only [decide_eq_true_eq, decide_eq_false_iff_not, beq_iff_eq, beq_eq_false_iff_ne, bne_iff_ne, ne_eq, Bool.not_eq_true', Bool.not_eq_false', Bool.and_eq_true, Bool.or_eq_true, bne_eq_false_iff_eq] at c3
         refine den_skip ?_
         refine den_seq ?_
         refine den_block ?_
         refine den_seq ?_
         refine den_region TTok ?_
         intro K hK
         simp -implicitDefEqProofs (disch := first | decide | assumption | omega) only [go_sem, RdS.len hdX sl22, RdS.idx hdX sl22, R1.intB hdX (Ext.pres eB), RdS.cells hdX, RdS.len hmX sl23, RdS.idx hmX sl23, RdS.cellB hmX (Ext.pres eB), RdS.cells hmX, RdS.len hdY sl22, RdS.idx hdY sl22, R1.intB hdY (Ext.pres eB), RdS.cells hdY, RdS.len hmY sl23, RdS.idx hmY sl23, RdS.cellB hmY (Ext.pres eB), RdS.cells hmY, RdS.len (OS.rd hO) sl23, RdS.idx (OS.rd hO) sl23, RdS.cellN (OS.rd hO), RdS.cells (OS.rd hO), RdS.len (OS.rd hB) sl56, RdS.idx (OS.rd hB) sl56, RdS.cellN (OS.rd hB), RdS.cells (OS.rd hB), BoxAt.cell hb0_0, BoxAt.cell hb0_1, wrap_id]
         refine hK _ _ ?_
         clear hK K
         have hps := pair_pos (X := X) (Y := Y) (n := n) (i := i) (a := a) (b := b) (by omega) (by omega)
         have hpl := place_lt hX hY (i := i) (j := (n : Int) - i) (a := a) (b := b) (by omega) (by omega) (by omega) (by omega)
         rw [show ((i : Int) + ((n : Int) - i)).toNat = n by omega] at hpl
         have htb := tdP_bnd hX hY (n := n) (by omega)
         have hlt : ((List.range (placeP X Y i a ((n : Int) - i) b).toNat).map fun r : Nat => pRow X Y Fn n r).length ≤ 704 := by rw [List.length_map, List.length_range]; omega
         refine den_region TTok ?_
         intro K hK
         simp -implicitDefEqProofs (disch := first | decide | assumption | omega) only [go_sem, RdS.len hdX sl22, RdS.idx hdX sl22, R1.intB hdX (Ext.pres eB), RdS.cells hdX, RdS.len hmX sl23, RdS.idx hmX sl23, RdS.cellB hmX (Ext.pres eB), RdS.cells hmX, RdS.len hdY sl22, RdS.idx hdY sl22, R1.intB hdY (Ext.pres eB), RdS.cells hdY, RdS.len hmY sl23, RdS.idx hmY sl23, RdS.cellB hmY (Ext.pres eB), RdS.cells hmY, RdS.len (OS.rd hO) sl23, RdS.idx (OS.rd hO) sl23, RdS.cellN (OS.rd hO), RdS.cells (OS.rd hO), RdS.len (OS.rd hB) sl56, RdS.idx (OS.rd hB) sl56, RdS.cellN (OS.rd hB), RdS.cells (OS.rd hB), BoxAt.cell hb0_0, BoxAt.cell hb0_1, wrap_id]
         try simp -implicitDefEqProofs (disch := first | decide | assumption | omega) only [go_sem, RdS.len hdX sl22, RdS.idx hdX sl22, R1.intB hdX (Ext.pres eB), RdS.cells hdX, RdS.len hmX sl23, RdS.idx hmX sl23, RdS.cellB hmX (Ext.pres eB), RdS.cells hmX, RdS.len hdY sl22, RdS.idx hdY sl22, R1.intB hdY (Ext.pres eB), RdS.cells hdY, RdS.len hmY sl23, RdS.idx hmY sl23, RdS.cellB hmY (Ext.pres eB), RdS.cells hmY, RdS.len (OS.rd hO) sl23, RdS.idx (OS.rd hO) sl23, RdS.cellN (OS.rd hO), RdS.cells (OS.rd hO), RdS.len (OS.rd hB) sl56, RdS.idx (OS.rd hB) sl56, RdS.cellN (OS.rd hB), RdS.cells (OS.rd hB), BoxAt.cell hb0_0, BoxAt.cell hb0_1, wrap_id]
         refine CallA.mono (hf i a b _ (by omega) (by omega) (by omega) _ eB) ?_
         intro vw15_8 h15_8
         rintro ⟨fw15_8, how15_8, hfw15_8, e15_8⟩
         replace hO := OS.ext hO e15_8
         replace hB := OS.ext hB e15_8
         replace hb0_0 := BoxAt.ext hb0_0 e15_8
         replace hb0_1 := BoxAt.ext hb0_1 e15_8
         have := Ext.size e15_8
         replace eB := Ext.trans eB e15_8
         replace cL2 := Chg.stepE cL2 e15_8
         replace cL6 := Chg.stepE cL6 e15_8
         replace cL10 := Chg.stepE cL10 e15_8
         replace cL15 := Chg.stepE cL15 e15_8
         have hlhow15_8 := OS.lt how15_8
         try simp -implicitDefEqProofs (disch := first | decide | assumption | omega) only [go_sem, RdS.len hdX sl22, RdS.idx hdX sl22, R1.intB hdX (Ext.pres eB), RdS.cells hdX, RdS.len hmX sl23, RdS.idx hmX sl23, RdS.cellB hmX (Ext.pres eB), RdS.cells hmX, RdS.len hdY sl22, RdS.idx hdY sl22, R1.intB hdY (Ext.pres eB), RdS.cells hdY, RdS.len hmY sl23, RdS.idx hmY sl23, RdS.cellB hmY (Ext.pres eB), RdS.cells hmY, RdS.len (OS.rd hO) sl23, RdS.idx (OS.rd hO) sl23, RdS.cellN (OS.rd hO), RdS.cells (OS.rd hO), RdS.len (OS.rd hB) sl56, RdS.idx (OS.rd hB) sl56, RdS.cellN (OS.rd hB), RdS.cells (OS.rd hB), RdS.len (OS.rd how15_8) sl22, RdS.idx (OS.rd how15_8) sl22, R1.intN (OS.rd how15_8), RdS.cells (OS.rd how15_8), BoxAt.cell hb0_0, BoxAt.cell hb0_1, wrap_id]
         refine op_bs1 sz56 rfl (OS.one how15_8).2 ?_
         try simp -implicitDefEqProofs (disch := first | decide | assumption | omega) only [go_sem, RdS.len hdX sl22, RdS.idx hdX sl22, R1.intB hdX (Ext.pres eB), RdS.cells hdX, RdS.len hmX sl23, RdS.idx hmX sl23, RdS.cellB hmX (Ext.pres eB), RdS.cells hmX, RdS.len hdY sl22, RdS.idx hdY sl22, R1.intB hdY (Ext.pres eB), RdS.cells hdY, RdS.len hmY sl23, RdS.idx hmY sl23, RdS.cellB hmY (Ext.pres eB), RdS.cells hmY, RdS.len (OS.rd hO) sl23, RdS.idx (OS.rd hO) sl23, RdS.cellN (OS.rd hO), RdS.cells (OS.rd hO), RdS.len (OS.rd hB) sl56, RdS.idx (OS.rd hB) sl56, RdS.cellN (OS.rd hB), RdS.cells (OS.rd hB), RdS.len (OS.rd how15_8) sl22, RdS.idx (OS.rd how15_8) sl22, R1.intN (OS.rd how15_8), RdS.cells (OS.rd how15_8), BoxAt.cell hb0_0, BoxAt.cell hb0_1, wrap_id]
         refine op_append1 sz56 hB hfhB.nodup how15_8 hfw15_8.nodup (apart_lt hlhB hfw15_8 (by omega)) (by first | omega | (simp; omega)) rfl rfl ?_
         intro v15_10 h15_10 fp15_10 ho15_10 hn15_10 hs15_10 c15_10
         have hsz15_10 := c15_10.size
         have hfho15_10 : Fresh h4.size fp15_10 := Fresh.appd hfhB hfw15_8 (by omega) (by omega) hn15_10 hs15_10
         have sb20 : Sub [h4.size] h5_0.size fp15_10 := Sub.grow sb18 (Sub.fresh hfw15_8 (by omega)) (by omega) hs15_10
         have sb21 : Sub fphR h9_2.size fp15_10 := Sub.grow sb19 (Sub.fresh hfw15_8 (by omega)) (by omega) hs15_10
         have sb22 : Sub fphA h12_4.size fp15_10 := Sub.grow sbhB (Sub.fresh hfw15_8 (by omega)) (by omega) hs15_10
         replace hO := OS.chg hO c15_10 (apart_lt hlhO hfhB (by omega))
         replace hb0_0 := BoxAt.chgA hb0_0 c15_10 (apart_lt hlhb0_0 hfhB (by omega))
         replace hb0_1 := BoxAt.chgA hb0_1 c15_10 (apart_lt hlhb0_1 hfhB (by omega))
         have := c15_10.size
         replace eB := Ext.then eB c15_10 (ge_of hfhB (by omega))
         replace cL2 := Chg.step cL2 c15_10 (Sub.fresh hfhB (by omega))
         replace cL6 := Chg.step cL6 c15_10 sb18
         replace cL10 := Chg.step cL10 c15_10 sb19
         replace cL15 := Chg.step cL15 c15_10 sbhB
         have hlho15_10 := OS.lt ho15_10
         try simp -implicitDefEqProofs (disch := first | decide | assumption | omega) only [go_sem, RdS.len hdX sl22, RdS.idx hdX sl22, R1.intB hdX (Ext.pres eB), RdS.cells hdX, RdS.len hmX sl23, RdS.idx hmX sl23, RdS.cellB hmX (Ext.pres eB), RdS.cells hmX, RdS.len hdY sl22, RdS.idx hdY sl22, R1.intB hdY (Ext.pres eB), RdS.cells hdY, RdS.len hmY sl23, RdS.idx hmY sl23, RdS.cellB hmY (Ext.pres eB), RdS.cells hmY, RdS.len (OS.rd hO) sl23, RdS.idx (OS.rd hO) sl23, RdS.cellN (OS.rd hO), RdS.cells (OS.rd hO), RdS.len (OS.rd ho15_10) sl56, RdS.idx (OS.rd ho15_10) sl56, RdS.cellN (OS.rd ho15_10), RdS.cells (OS.rd ho15_10), BoxAt.cell hb0_0, BoxAt.cell hb0_1, wrap_id]
         refine hK _ _ ?_
         clear hK K
         refine den_blk ?_
         refine den_region TTok ?_
         intro K hK
         simp -implicitDefEqProofs (disch := first | decide | assumption | omega) only [go_sem, RdS.len hdX sl22, RdS.idx hdX sl22, R1.intB hdX (Ext.pres eB), RdS.cells hdX, RdS.len hmX sl23, RdS.idx hmX sl23, RdS.cellB hmX (Ext.pres eB), RdS.cells hmX, RdS.len hdY sl22, RdS.idx hdY sl22, R1.intB hdY (Ext.pres eB), RdS.cells hdY, RdS.len hmY sl23, RdS.idx hmY sl23, RdS.cellB hmY (Ext.pres eB), RdS.cells hmY, RdS.len (OS.rd hO) sl23, RdS.idx (OS.rd hO) sl23, RdS.cellN (OS.rd hO), RdS.cells (OS.rd hO), RdS.len (OS.rd ho15_10) sl56, RdS.idx (OS.rd ho15_10) sl56, RdS.cellN (OS.rd ho15_10), RdS.cells (OS.rd ho15_10), BoxAt.cell hb0_0, BoxAt.cell hb0_1, wrap_id]
         refine hK _ _ ?_
         clear hK K
         refine den_stop ?_
         rw [show ((n : Int) - (i : Int)).toNat = n - i by omega, pRow_step hX hY hps.1 (by omega) (by omega)] at ho15_10
         exact ⟨(b + 1, v15_10, fp15_10), by simp [HasL, puts_at], ⟨by first | omega | (dsimp only; omega), ho15_10, hfho15_10, sb22, cL15⟩, by first | omega | (dsimp only; omega)⟩
        ·try simp only [decide_eq_true_eq, decide_eq_false_iff_not, beq_iff_eq, beq_eq_false_iff_ne, bne_iff_ne, ne_eq, Bool.not_eq_true', Bool.not_eq_false', Bool.and_eq_true, Bool.or_eq_true, bne_eq_false_iff_eq] at c3
         refine den_exit ?_
         refine denX_code ?_
         refine denX_stop ?_
         refine denX_hit ?_
         refine den_blk ?_
         have hlo : ((List.range n).map fun q : Nat => pRows X Y Fn q).length = n := by simp
         refine den_region TTok ?_
         intro K hK
         simp -implicitDefEqProofs (disch := first | decide | assumption | omega) only [go_sem, RdS.len hdX sl22, RdS.idx hdX sl22, R1.intB hdX (Ext.pres eB), RdS.cells hdX, RdS.len hmX sl23, RdS.idx hmX sl23, RdS.cellB hmX (Ext.pres eB), RdS.cells hmX, RdS.len hdY sl22, RdS.idx hdY sl22, R1.intB hdY (Ext.pres eB), RdS.cells hdY, RdS.len hmY sl23, RdS.idx hmY sl23, RdS.cellB hmY (Ext.pres eB), RdS.cells hmY, RdS.len (OS.rd hO) sl23, RdS.idx (OS.rd hO) sl23, RdS.cellN (OS.rd hO), RdS.cells (OS.rd hO), RdS.len (OS.rd hB) sl56, RdS.idx (OS.rd hB) sl56, RdS.cellN (OS.rd hB), RdS.cells (OS.rd hB), BoxAt.cell hb0_0, BoxAt.cell hb0_1, wrap_id]
         refine hK _ _ ?_
         clear hK K
         refine den_stop ?_
         rw [show placeP X Y i a ((n : Int) - i) b = placeP X Y i ((a + 1 : Nat) : Int) ((n : Int) - i) 0 by rw [show (b : Int) = dimP Y ((n : Int) - i) by omega]; exact (place_next X Y i a ((n : Int) - i) 0 (by omega)).1] at hB
         exact ⟨(a + 1, vhB, fphB), by simp [HasL, puts_at], ⟨by first | omega | (dsimp only; omega), hB, hfhB, sb19, cL10⟩, by first | omega | (dsimp only; omega)⟩
      ·try simp only [decide_eq_true_eq, decide_eq_false_iff_not, beq_iff_eq, beq_eq_false_iff_ne, bne_iff_ne, ne_eq, Bool.not_eq_true', Bool.not_eq_false', Bool.and_eq_true, Bool.or_eq_true, bne_eq_false_iff_eq] at c2
       refine den_exit ?_
       refine denX_code ?_
       refine denX_stop ?_
       refine denX_hit ?_
       refine den_blk ?_
       have hlo : ((List.range n).map fun q : Nat => pRows X Y Fn q).length = n := by simp
       refine den_region TTok ?_
       intro K hK
       simp -implicitDefEqProofs (disch := first | decide | assumption | omega) only [go_sem, RdS.len hdX sl22, RdS.idx hdX sl22, R1.intB hdX (Ext.pres eB), RdS.cells hdX, RdS.len hmX sl23, RdS.idx hmX sl23, RdS.cellB hmX (Ext.pres eB), RdS.cells hmX, RdS.len hdY sl22, RdS.idx hdY sl22, R1.intB hdY (Ext.pres eB), RdS.cells hdY, RdS.len hmY sl23, RdS.idx hmY sl23, RdS.cellB hmY (Ext.pres eB), RdS.cells hmY, RdS.len (OS.rd hO) sl23, RdS.idx (OS.rd hO) sl23, RdS.cellN (OS.rd hO), RdS.cells (OS.rd hO), RdS.len (OS.rd hA) sl56, RdS.idx (OS.rd hA) sl56, RdS.cellN (OS.rd hA), RdS.cells (OS.rd hA), BoxAt.cell hb0_0, BoxAt.cell hb0_1, wrap_id]
       refine hK _ _ ?_
       clear hK K
       refine den_stop ?_
       rw [show placeP X Y i a ((n : Int) - i) 0 = sumP X Y n (i + 1) by have h := (place_next X Y i 0 ((n : Int) - i) 0 (by omega)).2.2.2; rw [show (a : Int) = dimP X i by omega, h, show (i : Int) + ((n : Int) - i) = n by omega, Int.toNat_natCast]] at hA
       exact ⟨(i + 1, vhA, fphA), by simp [HasL, puts_at], ⟨by first | omega | (dsimp only; omega), hA, hfhA, sb13, cL6⟩, by first | omega | (dsimp only; omega)⟩
    ·try simp only [decide_eq_true_eq, decide_eq_false_iff_not, beq_iff_eq, beq_eq_false_iff_ne, bne_iff_ne, ne_eq, Bool.not_eq_true', Bool.not_eq_false', Bool.and_eq_true, Bool.or_eq_true, bne_eq_false_iff_eq] at c1
     refine den_exit ?_
     refine denX_code ?_
     refine denX_stop ?_
     refine denX_hit ?_
     have hlo : ((List.range n).map fun q : Nat => pRows X Y Fn q).length = n := by simp
     refine den_region TTok ?_
     intro K hK
     simp -implicitDefEqProofs (disch := first | decide | assumption | omega) only [go_sem, RdS.len hdX sl22, RdS.idx hdX sl22, R1.intB hdX (Ext.pres eB), RdS.cells hdX, RdS.len hmX sl23, RdS.idx hmX sl23, RdS.cellB hmX (Ext.pres eB), RdS.cells hmX, RdS.len hdY sl22, RdS.idx hdY sl22, R1.intB hdY (Ext.pres eB), RdS.cells hdY, RdS.len hmY sl23, RdS.idx hmY sl23, RdS.cellB hmY (Ext.pres eB), RdS.cells hmY, RdS.len (OS.rd hO) sl23, RdS.idx (OS.rd hO) sl23, RdS.cellN (OS.rd hO), RdS.cells (OS.rd hO), RdS.len (OS.rd hR) sl56, RdS.idx (OS.rd hR) sl56, RdS.cellN (OS.rd hR), RdS.cells (OS.rd hR), BoxAt.cell hb0_0, BoxAt.cell hb0_1, wrap_id]
     refine op_bs1 sz23 rfl (OS.one hR).2 ?_
     try simp -implicitDefEqProofs (disch := first | decide | assumption | omega) only [go_sem, RdS.len hdX sl22, RdS.idx hdX sl22, R1.intB hdX (Ext.pres eB), RdS.cells hdX, RdS.len hmX sl23, RdS.idx hmX sl23, RdS.cellB hmX (Ext.pres eB), RdS.cells hmX, RdS.len hdY sl22, RdS.idx hdY sl22, R1.intB hdY (Ext.pres eB), RdS.cells hdY, RdS.len hmY sl23, RdS.idx hmY sl23, RdS.cellB hmY (Ext.pres eB), RdS.cells hmY, RdS.len (OS.rd hO) sl23, RdS.idx (OS.rd hO) sl23, RdS.cellN (OS.rd hO), RdS.cells (OS.rd hO), RdS.len (OS.rd hR) sl56, RdS.idx (OS.rd hR) sl56, RdS.cellN (OS.rd hR), RdS.cells (OS.rd hR), BoxAt.cell hb0_0, BoxAt.cell hb0_1, wrap_id]
     refine op_append1 sz23 hO hfhO.nodup hR hfhR.nodup (apart_lt hlhO hfhR (by omega)) (by first | omega | (simp; omega)) rfl rfl ?_
     intro v19_3 h19_3 fp19_3 ho19_3 hn19_3 hs19_3 c19_3
     have hsz19_3 := c19_3.size
     have hfho19_3 : Fresh h0_1.size fp19_3 := Fresh.appd hfhO hfhR (by omega) (by omega) hn19_3 hs19_3
     have sb23 : Sub [h0_1.size] h2_3.size fp19_3 := Sub.grow sbhO (Sub.fresh hfhR (by omega)) (by omega) hs19_3
     replace hb0_0 := BoxAt.chgA hb0_0 c19_3 (apart_lt hlhb0_0 hfhO (by omega))
     replace hb0_1 := BoxAt.chgA hb0_1 c19_3 (apart_lt hlhb0_1 hfhO (by omega))
     have := c19_3.size
     replace eB := Ext.then eB c19_3 (ge_of hfhO (by omega))
     replace cL2 := Chg.step cL2 c19_3 sbhO
     have hlho19_3 := OS.lt ho19_3
     try simp -implicitDefEqProofs (disch := first | decide | assumption | omega) only [go_sem, RdS.len hdX sl22, RdS.idx hdX sl22, R1.intB hdX (Ext.pres eB), RdS.cells hdX, RdS.len hmX sl23, RdS.idx hmX sl23, RdS.cellB hmX (Ext.pres eB), RdS.cells hmX, RdS.len hdY sl22, RdS.idx hdY sl22, R1.intB hdY (Ext.pres eB), RdS.cells hdY, RdS.len hmY sl23, RdS.idx hmY sl23, RdS.cellB hmY (Ext.pres eB), RdS.cells hmY, RdS.len (OS.rd ho19_3) sl23, RdS.idx (OS.rd ho19_3) sl23, RdS.cellN (OS.rd ho19_3), RdS.cells (OS.rd ho19_3), BoxAt.cell hb0_0, BoxAt.cell hb0_1, wrap_id]
     refine hK _ _ ?_
     clear hK K
     refine den_blk ?_
     refine den_region TTok ?_
     intro K hK
     simp -implicitDefEqProofs (disch := first | decide | assumption | omega) only [go_sem, RdS.len hdX sl22, RdS.idx hdX sl22, R1.intB hdX (Ext.pres eB), RdS.cells hdX, RdS.len hmX sl23, RdS.idx hmX sl23, RdS.cellB hmX (Ext.pres eB), RdS.cells hmX, RdS.len hdY sl22, RdS.idx hdY sl22, R1.intB hdY (Ext.pres eB), RdS.cells hdY, RdS.len hmY sl23, RdS.idx hmY sl23, RdS.cellB hmY (Ext.pres eB), RdS.cells hmY, RdS.len (OS.rd ho19_3) sl23, RdS.idx (OS.rd ho19_3) sl23, RdS.cellN (OS.rd ho19_3), RdS.cells (OS.rd ho19_3), BoxAt.cell hb0_0, BoxAt.cell hb0_1, wrap_id]
     refine hK _ _ ?_
     clear hK K
     refine den_stop ?_
     rw [pRows_all (.inl (by omega)), range_step (fun q : Nat => pRows X Y Fn q)] at ho19_3
     exact ⟨(n + 1, v19_3, fp19_3), by simp [HasL, puts_at], ⟨by first | omega | (dsimp only; omega), ho19_3, hfho19_3, sb23, cL2⟩, by first | omega | (dsimp only; omega)⟩
  ·try simp only [decide_eq_true_eq, decide_eq_false_iff_not, beq_iff_eq, beq_eq_false_iff_ne, bne_iff_ne, ne_eq, Bool.not_eq_true', Bool.not_eq_false', Bool.and_eq_true, Bool.or_eq_true, bne_eq_false_iff_eq] at c0
   refine den_exit ?_
   refine denX_code ?_
   refine denX_stop ?_
   refine denX_hit ?_
   refine den_seq ?_
   refine den_region TTok ?_
   intro K hK
   simp -implicitDefEqProofs (disch := first | decide | assumption | omega) only [go_sem, RdS.len hdX sl22, RdS.idx hdX sl22, R1.intB hdX (Ext.pres eB), RdS.cells hdX, RdS.len hmX sl23, RdS.idx hmX sl23, RdS.cellB hmX (Ext.pres eB), RdS.cells hmX, RdS.len hdY sl22, RdS.idx hdY sl22, R1.intB hdY (Ext.pres eB), RdS.cells hdY, RdS.len hmY sl23, RdS.idx hmY sl23, RdS.cellB hmY (Ext.pres eB), RdS.cells hmY, RdS.len (OS.rd hO) sl23, RdS.idx (OS.rd hO) sl23, RdS.cellN (OS.rd hO), RdS.cells (OS.rd hO), wrap_id]
   refine hK _ _ ?_
   clear hK K
   refine den_ret ?_
   simp (disch := decide) only [resP_1, puts_same, puts_ne]
   rw [show n = X.dims.length + Y.dims.length - 1 by omega] at hO
   exact ⟨_, hO, hfhO.mono (by omega), eB⟩
end Go.Proofs.Ytffggocjkhcgeaa

namespace Go.Proofs.Ytffggocjkhcgeaa
open Go
theorem te_0 {X Y : Cx} (h : (teP X Y).2 = 0) : fitP (tdP X Y) = true := by
 unfold teP at h
 split at h
 ·assumption
 ·cases h
theorem te_n {X Y : Cx} (h : ¬ (teP X Y).2 = 0) : ¬ fitP (tdP X Y) = true ∧ (teP X Y).2 = 3 := by
 unfold teP at h ⊢
 split
 ·rename_i hf; rw [if_pos hf] at h; exact (h rfl).elim
 ·rename_i hf; exact ⟨hf, rfl⟩
theorem sw_row {X Y : Cx} {n i a b : Nat} (hi : i ≤ n) : (List.replicate ((tdP X Y).getD n 0).toNat (0 : Int)).set (placeP Y X ((n : Int) - (i : Int)) (b : Int) (i : Int) (a : Int)).toNat ((1 - 2 * ((i : Int) * ((n : Int) - (i : Int))).tmod 2) % X.p) = swRow X Y i a (n - i) b := by
 rw [swRow, show i + (n - i) = n by omega, show ((n - i : Nat) : Int) = (n : Int) - (i : Int) by omega]

set_option maxRecDepth 100000 in
theorem swC_ok (X Y Z : Cx) (vdX vmX vdY vmY vdZ vmZ : Value) (i a j b : Nat) (bX bY bZ : Nat) (h : Heap) (hdX : R1 h vdX X.dims) (hmX : R3 h vmX X.maps) (hdY : R1 h vdY Y.dims) (hmY : R3 h vmY Y.maps) (hdZ : R1 h vdZ Z.dims) (hmZ : R3 h vmZ Z.maps) (hbX : BoxAt h bX #[.int .i64 X.p, vdX, vmX] 30) (hbY : BoxAt h bY #[.int .i64 Y.p, vdY, vmY] 30) (hbZ : BoxAt h bZ #[.int .i64 Z.p, vdZ, vmZ] 30) (hX : IsC X) (hY : IsC Y) (hZ : Z.dims = tdP X Y) (ha : (a : Int) < dimP X i) (hb : (b : Int) < dimP Y j) : CallA Try.prog 106 #[.int .i64 (i : Int), .int .i64 (a : Int), .int .i64 (j : Int), .int .i64 (b : Int), .pointer (some ⟨bZ, 0, none⟩), .pointer (some ⟨bX, 0, none⟩), .pointer (some ⟨bY, 0, none⟩)] h fun v' h' => ∃ f0, O1 h' v' (swRow X Y i a j b) f0 ∧ Fresh h.size f0 ∧ Ext h h' := by
 have hlhbX := one_lt hbX.lt
 have hfhbX : Fresh bX [bX] := Fresh.one _
 have hlhbY := one_lt hbY.lt
 have hfhbY : Fresh bY [bY] := Fresh.one _
 have hlhbZ := one_lt hbZ.lt
 have hfhbZ : Fresh bZ [bZ] := Fresh.one _
 have hledX := RdS.le hdX
 have hledY := RdS.le hdY
 have hledZ := RdS.le hdZ
 have hlX := hX.len
 have hlY := hY.len
 have hil := dim_lt ha
 have hjl := dim_lt hb
 have hbx := dimP_bnd hX (i : Int)
 have hby := dimP_bnd hY (j : Int)
 have hpb := isP_bnd hX.p
 have hzd : dimP Z ((i : Int) + (j : Int)) = (tdP X Y).getD (i + j) 0 := by rw [show (i : Int) + (j : Int) = ((i + j : Nat) : Int) by omega, dimP_nat, hZ]
 have htb := tdP_bnd hX hY (n := i + j) (by omega)
 have hpl := pl_lt hY hX hb ha
 rw [show j + i = i + j by omega, tdP_comm X Y (by omega)] at hpl
 have hmij := mul64 (x := (i : Int)) (y := (j : Int)) (by omega) (by omega)
 have htm := tmod_in (p := 2) (x := (i : Int) * (j : Int)) (by decide)
 have htn := Int.tmod_nonneg 2 hmij.1
 have hsv := sw_val hX.p hmij.1
 have htp := tmod_in (p := X.p) (x := 1 - ((i : Int) * (j : Int)).tmod 2 * 2 + X.p) hpb.1
 refine callA_intro TTok (args := [_, _, _, _, _, _, _]) Try.func106 (by kernel_rfl) rfl 39 rfl (by simp) [.tmp 11] rfl ?_
 simp only [idxs, Nat.reduceAdd]
 refine den_seq ?_
 refine den_region TTok ?_
 intro K hK
 simp -implicitDefEqProofs (disch := first | decide | assumption | omega) only [go_sem, RdS.len hdX sl22, RdS.idx hdX sl22, R1.intB hdX (HPres.refl _), RdS.cells hdX, RdS.len hmX sl23, RdS.idx hmX sl23, RdS.cellB hmX (HPres.refl _), RdS.cells hmX, RdS.len hdY sl22, RdS.idx hdY sl22, R1.intB hdY (HPres.refl _), RdS.cells hdY, RdS.len hmY sl23, RdS.idx hmY sl23, RdS.cellB hmY (HPres.refl _), RdS.cells hmY, RdS.len hdZ sl22, RdS.idx hdZ sl22, R1.intB hdZ (HPres.refl _), RdS.cells hdZ, RdS.len hmZ sl23, RdS.idx hmZ sl23, RdS.cellB hmZ (HPres.refl _), RdS.cells hmZ, BoxAt.cell hbZ, BoxAt.cell hbX, BoxAt.cell hbY, wrap_id]
 refine hK _ _ ?_
 clear hK K
 refine den_seq ?_
 refine den_region TTok ?_
 intro K hK
 simp -implicitDefEqProofs (disch := first | decide | assumption | omega) only [go_sem, ld30, RdS.len hdX sl22, RdS.idx hdX sl22, R1.intB hdX (HPres.refl _), RdS.cells hdX, RdS.len hmX sl23, RdS.idx hmX sl23, RdS.cellB hmX (HPres.refl _), RdS.cells hmX, RdS.len hdY sl22, RdS.idx hdY sl22, R1.intB hdY (HPres.refl _), RdS.cells hdY, RdS.len hmY sl23, RdS.idx hmY sl23, RdS.cellB hmY (HPres.refl _), RdS.cells hmY, RdS.len hdZ sl22, RdS.idx hdZ sl22, R1.intB hdZ (HPres.refl _), RdS.cells hdZ, RdS.len hmZ sl23, RdS.idx hmZ sl23, RdS.cellB hmZ (HPres.refl _), RdS.cells hmZ, BoxAt.cell hbZ, BoxAt.cell hbX, BoxAt.cell hbY, wrap_id]
 try simp -implicitDefEqProofs (disch := first | decide | assumption | omega) only [go_sem, RdS.len hdX sl22, RdS.idx hdX sl22, R1.intB hdX (HPres.refl _), RdS.cells hdX, RdS.len hmX sl23, RdS.idx hmX sl23, RdS.cellB hmX (HPres.refl _), RdS.cells hmX, RdS.len hdY sl22, RdS.idx hdY sl22, R1.intB hdY (HPres.refl _), RdS.cells hdY, RdS.len hmY sl23, RdS.idx hmY sl23, RdS.cellB hmY (HPres.refl _), RdS.cells hmY, RdS.len hdZ sl22, RdS.idx hdZ sl22, R1.intB hdZ (HPres.refl _), RdS.cells hdZ, RdS.len hmZ sl23, RdS.idx hmZ sl23, RdS.cellB hmZ (HPres.refl _), RdS.cells hmZ, BoxAt.cell hbZ, BoxAt.cell hbX, BoxAt.cell hbY, wrap_id]
 refine CallA.mono (iDim_ok _ Z _ _ ⟨_, _, rfl, hdZ, hmZ⟩) ?_
 intro v_ h1_4
 rintro ⟨rfl, e1_4⟩
 replace hbZ := BoxAt.ext hbZ e1_4
 replace hbX := BoxAt.ext hbX e1_4
 replace hbY := BoxAt.ext hbY e1_4
 have := Ext.size e1_4
 have eB := e1_4
 try simp -implicitDefEqProofs (disch := first | decide | assumption | omega) only [go_sem, RdS.len hdX sl22, RdS.idx hdX sl22, R1.intB hdX (Ext.pres eB), RdS.cells hdX, RdS.len hmX sl23, RdS.idx hmX sl23, RdS.cellB hmX (Ext.pres eB), RdS.cells hmX, RdS.len hdY sl22, RdS.idx hdY sl22, R1.intB hdY (Ext.pres eB), RdS.cells hdY, RdS.len hmY sl23, RdS.idx hmY sl23, RdS.cellB hmY (Ext.pres eB), RdS.cells hmY, RdS.len hdZ sl22, RdS.idx hdZ sl22, R1.intB hdZ (Ext.pres eB), RdS.cells hdZ, RdS.len hmZ sl23, RdS.idx hmZ sl23, RdS.cellB hmZ (Ext.pres eB), RdS.cells hmZ, BoxAt.cell hbZ, BoxAt.cell hbX, BoxAt.cell hbY, wrap_id]
 refine op_make sz22 rfl rfl (by omega) (by omega) OI 0 (fun _ => ⟨rfl, rfl⟩) ?_
 intro v1_5 h1_5 ho1_5 e1_5
 replace hbZ := BoxAt.ext hbZ e1_5
 replace hbX := BoxAt.ext hbX e1_5
 replace hbY := BoxAt.ext hbY e1_5
 have := Ext.size e1_5
 replace eB := Ext.trans eB e1_5
 have hfho1_5 : Fresh h1_4.size [h1_4.size] := Fresh.one _
 have hlenho1_5 : (List.replicate ((dimP Z ((i : Int) + (j : Int)))).toNat (0 : Int)).length = ((dimP Z ((i : Int) + (j : Int)))).toNat := List.length_replicate
 have hlho1_5 := OS.lt ho1_5
 try simp -implicitDefEqProofs (disch := first | decide | assumption | omega) only [go_sem, RdS.len hdX sl22, RdS.idx hdX sl22, R1.intB hdX (Ext.pres eB), RdS.cells hdX, RdS.len hmX sl23, RdS.idx hmX sl23, RdS.cellB hmX (Ext.pres eB), RdS.cells hmX, RdS.len hdY sl22, RdS.idx hdY sl22, R1.intB hdY (Ext.pres eB), RdS.cells hdY, RdS.len hmY sl23, RdS.idx hmY sl23, RdS.cellB hmY (Ext.pres eB), RdS.cells hmY, RdS.len hdZ sl22, RdS.idx hdZ sl22, R1.intB hdZ (Ext.pres eB), RdS.cells hdZ, RdS.len hmZ sl23, RdS.idx hmZ sl23, RdS.cellB hmZ (Ext.pres eB), RdS.cells hmZ, RdS.len (OS.rd ho1_5) sl22, RdS.idx (OS.rd ho1_5) sl22, R1.intN (OS.rd ho1_5), RdS.cells (OS.rd ho1_5), BoxAt.cell hbZ, BoxAt.cell hbX, BoxAt.cell hbY, wrap_id]
 refine hK _ _ ?_
 clear hK K
 refine den_seq ?_
 have hrl : (List.replicate (dimP Z ((i : Int) + (j : Int))).toNat (0 : Int)).length = (dimP Z ((i : Int) + (j : Int))).toNat := List.length_replicate
 refine den_draw TTok mixed [19] [(0, true), (1, true), (2, true), (3, true), (4, true), (5, true), (6, true), (8, true), (9, true), (10, true), (12, true), (13, true), (15, true), (16, true), (7, false), (11, false), (14, true), (17, true), (18, true), (19, false)] (by kernel_rfl) ?_
 intro K hK
 simp -implicitDefEqProofs (disch := first | decide | assumption | omega) only [go_sem, fa30_0, ld2, ld30, RdS.len hdX sl22, RdS.idx hdX sl22, R1.intB hdX (Ext.pres eB), RdS.cells hdX, RdS.len hmX sl23, RdS.idx hmX sl23, RdS.cellB hmX (Ext.pres eB), RdS.cells hmX, RdS.len hdY sl22, RdS.idx hdY sl22, R1.intB hdY (Ext.pres eB), RdS.cells hdY, RdS.len hmY sl23, RdS.idx hmY sl23, RdS.cellB hmY (Ext.pres eB), RdS.cells hmY, RdS.len hdZ sl22, RdS.idx hdZ sl22, R1.intB hdZ (Ext.pres eB), RdS.cells hdZ, RdS.len hmZ sl23, RdS.idx hmZ sl23, RdS.cellB hmZ (Ext.pres eB), RdS.cells hmZ, RdS.len (OS.rd ho1_5) sl22, RdS.idx (OS.rd ho1_5) sl22, R1.intN (OS.rd ho1_5), RdS.cells (OS.rd ho1_5), BoxAt.cell hbZ, BoxAt.cell hbX, BoxAt.cell hbY, wrap_id]
 try simp -implicitDefEqProofs (disch := first | decide | assumption | omega) only [go_sem, RdS.len hdX sl22, RdS.idx hdX sl22, R1.intB hdX (Ext.pres eB), RdS.cells hdX, RdS.len hmX sl23, RdS.idx hmX sl23, RdS.cellB hmX (Ext.pres eB), RdS.cells hmX, RdS.len hdY sl22, RdS.idx hdY sl22, R1.intB hdY (Ext.pres eB), RdS.cells hdY, RdS.len hmY sl23, RdS.idx hmY sl23, RdS.cellB hmY (Ext.pres eB), RdS.cells hmY, RdS.len hdZ sl22, RdS.idx hdZ sl22, R1.intB hdZ (Ext.pres eB), RdS.cells hdZ, RdS.len hmZ sl23, RdS.idx hmZ sl23, RdS.cellB hmZ (Ext.pres eB), RdS.cells hmZ, RdS.len (OS.rd ho1_5) sl22, RdS.idx (OS.rd ho1_5) sl22, R1.intN (OS.rd ho1_5), RdS.cells (OS.rd ho1_5), BoxAt.cell hbZ, BoxAt.cell hbX, BoxAt.cell hbY, wrap_id]
 refine CallA.mono (iPlace_ok _ _ Y X _ _ _ _ _ ⟨_, _, rfl, (RdS.pres hdY (Ext.pres eB)), (RdS.pres hmY (Ext.pres eB))⟩ ⟨_, _, rfl, (RdS.pres hdX (Ext.pres eB)), (RdS.pres hmX (Ext.pres eB))⟩ hY hX (by omega) (by omega) (by omega) (by omega)) ?_
 intro v_ h2_7
 rintro ⟨rfl, e2_7⟩
 replace ho1_5 := OS.ext ho1_5 e2_7
 replace hbZ := BoxAt.ext hbZ e2_7
 replace hbX := BoxAt.ext hbX e2_7
 replace hbY := BoxAt.ext hbY e2_7
 have := Ext.size e2_7
 replace eB := Ext.trans eB e2_7
 try simp (disch := decide) only [outv_some, outv_none, put_puts]
 refine plK_pres (Ext.pres e2_7) ?_
 try simp -implicitDefEqProofs (disch := first | decide | assumption | omega) only [go_sem, RdS.len hdX sl22, RdS.idx hdX sl22, R1.intB hdX (Ext.pres eB), RdS.cells hdX, RdS.len hmX sl23, RdS.idx hmX sl23, RdS.cellB hmX (Ext.pres eB), RdS.cells hmX, RdS.len hdY sl22, RdS.idx hdY sl22, R1.intB hdY (Ext.pres eB), RdS.cells hdY, RdS.len hmY sl23, RdS.idx hmY sl23, RdS.cellB hmY (Ext.pres eB), RdS.cells hmY, RdS.len hdZ sl22, RdS.idx hdZ sl22, R1.intB hdZ (Ext.pres eB), RdS.cells hdZ, RdS.len hmZ sl23, RdS.idx hmZ sl23, RdS.cellB hmZ (Ext.pres eB), RdS.cells hmZ, RdS.len (OS.rd ho1_5) sl22, RdS.idx (OS.rd ho1_5) sl22, R1.intN (OS.rd ho1_5), RdS.cells (OS.rd ho1_5), BoxAt.cell hbZ, BoxAt.cell hbX, BoxAt.cell hbY, wrap_id]
 try simp -implicitDefEqProofs (disch := first | decide | assumption | omega) only [go_sem, RdS.len hdX sl22, RdS.idx hdX sl22, R1.intB hdX (Ext.pres eB), RdS.cells hdX, RdS.len hmX sl23, RdS.idx hmX sl23, RdS.cellB hmX (Ext.pres eB), RdS.cells hmX, RdS.len hdY sl22, RdS.idx hdY sl22, R1.intB hdY (Ext.pres eB), RdS.cells hdY, RdS.len hmY sl23, RdS.idx hmY sl23, RdS.cellB hmY (Ext.pres eB), RdS.cells hmY, RdS.len hdZ sl22, RdS.idx hdZ sl22, R1.intB hdZ (Ext.pres eB), RdS.cells hdZ, RdS.len hmZ sl23, RdS.idx hmZ sl23, RdS.cellB hmZ (Ext.pres eB), RdS.cells hmZ, RdS.len (OS.rd ho1_5) sl22, RdS.idx (OS.rd ho1_5) sl22, R1.intN (OS.rd ho1_5), RdS.cells (OS.rd ho1_5), BoxAt.cell hbZ, BoxAt.cell hbX, BoxAt.cell hbY, wrap_id]
 refine CallA.mono (iSign_ok  ((i : Int) * (j : Int)) _  (by omega)) ?_
 intro v_ h2_11
 rintro ⟨rfl, e2_11⟩
 replace ho1_5 := OS.ext ho1_5 e2_11
 replace hbZ := BoxAt.ext hbZ e2_11
 replace hbX := BoxAt.ext hbX e2_11
 replace hbY := BoxAt.ext hbY e2_11
 have := Ext.size e2_11
 replace eB := Ext.trans eB e2_11
 try simp (disch := decide) only [outv_some, outv_none, put_puts]
 refine plK_pres (Ext.pres e2_11) ?_
 try simp -implicitDefEqProofs (disch := first | decide | assumption | omega) only [go_sem, RdS.len hdX sl22, RdS.idx hdX sl22, R1.intB hdX (Ext.pres eB), RdS.cells hdX, RdS.len hmX sl23, RdS.idx hmX sl23, RdS.cellB hmX (Ext.pres eB), RdS.cells hmX, RdS.len hdY sl22, RdS.idx hdY sl22, R1.intB hdY (Ext.pres eB), RdS.cells hdY, RdS.len hmY sl23, RdS.idx hmY sl23, RdS.cellB hmY (Ext.pres eB), RdS.cells hmY, RdS.len hdZ sl22, RdS.idx hdZ sl22, R1.intB hdZ (Ext.pres eB), RdS.cells hdZ, RdS.len hmZ sl23, RdS.idx hmZ sl23, RdS.cellB hmZ (Ext.pres eB), RdS.cells hmZ, RdS.len (OS.rd ho1_5) sl22, RdS.idx (OS.rd ho1_5) sl22, R1.intN (OS.rd ho1_5), RdS.cells (OS.rd ho1_5), BoxAt.cell hbZ, BoxAt.cell hbX, BoxAt.cell hbY, wrap_id]
 refine op_store1 (j := ((placeP Y X (j : Int) (b : Int) (i : Int) (a : Int))).toNat) st2 ho1_5 hfho1_5.nodup (by first | omega | (simp; omega)) rfl rfl ?_
 intro h2_19 ho2_19 c2_19
 have hsz2_19 := c2_19.size
 replace hbZ := BoxAt.chgA hbZ c2_19 (apart_lt hlhbZ hfho1_5 (by omega))
 replace hbX := BoxAt.chgA hbX c2_19 (apart_lt hlhbX hfho1_5 (by omega))
 replace hbY := BoxAt.chgA hbY c2_19 (apart_lt hlhbY hfho1_5 (by omega))
 have := c2_19.size
 replace eB := Ext.then eB c2_19 (ge_of hfho1_5 (by omega))
 have hlho2_19 := hlho1_5
 have hlenho2_19 : ((List.replicate ((dimP Z ((i : Int) + (j : Int)))).toNat 0).set (((placeP Y X (j : Int) (b : Int) (i : Int) (a : Int))).toNat) (Int.tmod ((1 - ((i : Int) * (j : Int)).tmod 2 * 2) + X.p) X.p) : List Int).length = (List.replicate ((dimP Z ((i : Int) + (j : Int)))).toNat 0 : List Int).length := List.length_set
 try simp (disch := decide) only [outv_some, outv_none, put_puts]
 refine plK_last (by decide) ?_
 try simp -implicitDefEqProofs (disch := first | decide | assumption | omega) only [go_sem, RdS.len hdX sl22, RdS.idx hdX sl22, R1.intB hdX (Ext.pres eB), RdS.cells hdX, RdS.len hmX sl23, RdS.idx hmX sl23, RdS.cellB hmX (Ext.pres eB), RdS.cells hmX, RdS.len hdY sl22, RdS.idx hdY sl22, R1.intB hdY (Ext.pres eB), RdS.cells hdY, RdS.len hmY sl23, RdS.idx hmY sl23, RdS.cellB hmY (Ext.pres eB), RdS.cells hmY, RdS.len hdZ sl22, RdS.idx hdZ sl22, R1.intB hdZ (Ext.pres eB), RdS.cells hdZ, RdS.len hmZ sl23, RdS.idx hmZ sl23, RdS.cellB hmZ (Ext.pres eB), RdS.cells hmZ, RdS.len (OS.rd ho2_19) sl22, RdS.idx (OS.rd ho2_19) sl22, R1.intN (OS.rd ho2_19), RdS.cells (OS.rd ho2_19), BoxAt.cell hbZ, BoxAt.cell hbX, BoxAt.cell hbY, wrap_id]
 refine hK _ _ ?_
 clear hK K
 refine den_seq ?_
 refine den_region TTok ?_
 intro K hK
 simp -implicitDefEqProofs (disch := first | decide | assumption | omega) only [go_sem, RdS.len hdX sl22, RdS.idx hdX sl22, R1.intB hdX (Ext.pres eB), RdS.cells hdX, RdS.len hmX sl23, RdS.idx hmX sl23, RdS.cellB hmX (Ext.pres eB), RdS.cells hmX, RdS.len hdY sl22, RdS.idx hdY sl22, R1.intB hdY (Ext.pres eB), RdS.cells hdY, RdS.len hmY sl23, RdS.idx hmY sl23, RdS.cellB hmY (Ext.pres eB), RdS.cells hmY, RdS.len hdZ sl22, RdS.idx hdZ sl22, R1.intB hdZ (Ext.pres eB), RdS.cells hdZ, RdS.len hmZ sl23, RdS.idx hmZ sl23, RdS.cellB hmZ (Ext.pres eB), RdS.cells hmZ, RdS.len (OS.rd ho2_19) sl22, RdS.idx (OS.rd ho2_19) sl22, R1.intN (OS.rd ho2_19), RdS.cells (OS.rd ho2_19), BoxAt.cell hbZ, BoxAt.cell hbX, BoxAt.cell hbY, wrap_id]
 refine hK _ _ ?_
 clear hK K
 refine den_ret ?_
 simp (disch := decide) only [resP_1, puts_same, puts_ne]
 have e : swRow X Y i a j b = (List.replicate (dimP Z ((i : Int) + (j : Int))).toNat (0 : Int)).set (placeP Y X j b i a).toNat ((1 - ((i : Int) * (j : Int)).tmod 2 * 2 + X.p).tmod X.p) := by rw [swRow, hsv, hzd]
 rw [e]
 exact ⟨_, ho2_19, (hfho1_5).mono (by omega), eB⟩
end Go.Proofs.Ytffggocjkhcgeaa

namespace Go.Proofs.Ytffggocjkhcgeaa
open Go
set_option maxRecDepth 100000 in
theorem iTns_ok (vX vY : Value) (X : Cx) (Y : Cx) (h : Heap) (rX : RC h vX X) (rY : RC h vY Y) (hX : IsC X) (hY : IsC Y) (hpp : X.p = Y.p) : CallA Try.prog 104 #[vX, vY] h fun v' h' => ∃ wd0 wm0 fd0 fm0, v' = .tuple #[.agg #[.int .i64 ((teP X Y).1).p, wd0, wm0], .int .i64 ((teP X Y).2)] ∧ O1 h' wd0 ((teP X Y).1).dims fd0 ∧ O3 h' wm0 ((teP X Y).1).maps fm0 ∧ Fresh h.size (fd0 ++ fm0) ∧ Ext h h' := by
 obtain ⟨vdX, vmX, rfl, hdX, hmX⟩ := rX
 have hledX := RdS.le hdX
 have hlemX := RdS.le hmX
 obtain ⟨vdY, vmY, rfl, hdY, hmY⟩ := rY
 have hledY := RdS.le hdY
 have hlemY := RdS.le hmY
 have hlX := hX.len
 have hlY := hY.len
 have hpb := isP_bnd hX.p
 have htl := tdP_len X Y
 have hTs := tT_sh hX hY
 have hTl := hTs.len
 have hzb := t_zb X Y hpb.1
 refine callA_intro TTok (args := [_, _]) Try.func104 (by kernel_rfl) rfl 31 rfl (by simp) [.cell 4 30, .tmp 5] rfl ?_
 simp only [idxs, Nat.reduceAdd]
 refine den_seq ?_
 refine den_region TTok ?_
 intro K hK
 simp -implicitDefEqProofs (disch := first | decide | assumption | omega) only [go_sem, RdS.len hdX sl22, RdS.idx hdX sl22, R1.intB hdX (HPres.refl _), RdS.cells hdX, RdS.len hmX sl23, RdS.idx hmX sl23, RdS.cellB hmX (HPres.refl _), RdS.cells hmX, RdS.len hdY sl22, RdS.idx hdY sl22, R1.intB hdY (HPres.refl _), RdS.cells hdY, RdS.len hmY sl23, RdS.idx hmY sl23, RdS.cellB hmY (HPres.refl _), RdS.cells hmY, wrap_id, bC0]
 refine op_box (cs := #[.int .i64 (X.p), vdX, vmX]) rfl ?_
 intro h0_0 e0_0 hb0_0 z0_0
 have := Ext.size e0_0
 have eB := e0_0
 have hfhb0_0 : Fresh h.size [h.size] := Fresh.one _
 have hlhb0_0 := one_lt (show h.size < h0_0.size by omega)
 try simp -implicitDefEqProofs (disch := first | decide | assumption | omega) only [go_sem, RdS.len hdX sl22, RdS.idx hdX sl22, R1.intB hdX (Ext.pres eB), RdS.cells hdX, RdS.len hmX sl23, RdS.idx hmX sl23, RdS.cellB hmX (Ext.pres eB), RdS.cells hmX, RdS.len hdY sl22, RdS.idx hdY sl22, R1.intB hdY (Ext.pres eB), RdS.cells hdY, RdS.len hmY sl23, RdS.idx hmY sl23, RdS.cellB hmY (Ext.pres eB), RdS.cells hmY, BoxAt.cell hb0_0, wrap_id, bC0]
 refine op_box (cs := #[.int .i64 (Y.p), vdY, vmY]) rfl ?_
 intro h0_1 e0_1 hb0_1 z0_1
 replace hb0_0 := BoxAt.ext hb0_0 e0_1
 have := Ext.size e0_1
 replace eB := Ext.trans eB e0_1
 have hfhb0_1 : Fresh h0_0.size [h0_0.size] := Fresh.one _
 have hlhb0_1 := one_lt (show h0_0.size < h0_1.size by omega)
 try simp -implicitDefEqProofs (disch := first | decide | assumption | omega) only [go_sem, RdS.len hdX sl22, RdS.idx hdX sl22, R1.intB hdX (Ext.pres eB), RdS.cells hdX, RdS.len hmX sl23, RdS.idx hmX sl23, RdS.cellB hmX (Ext.pres eB), RdS.cells hmX, RdS.len hdY sl22, RdS.idx hdY sl22, R1.intB hdY (Ext.pres eB), RdS.cells hdY, RdS.len hmY sl23, RdS.idx hmY sl23, RdS.cellB hmY (Ext.pres eB), RdS.cells hmY, BoxAt.cell hb0_0, BoxAt.cell hb0_1, wrap_id, bC0]
 refine op_alloc (cs := #[.int .i64 0, .slice none 0 0, .slice none 0 0]) (by kernel_rfl) ?_
 intro h0_2 e0_2 hb0_2 z0_2
 replace hb0_0 := BoxAt.ext hb0_0 e0_2
 replace hb0_1 := BoxAt.ext hb0_1 e0_2
 have := Ext.size e0_2
 replace eB := Ext.trans eB e0_2
 have hfhb0_2 : Fresh h0_1.size [h0_1.size] := Fresh.one _
 have hlhb0_2 := one_lt (show h0_1.size < h0_2.size by omega)
 try simp -implicitDefEqProofs (disch := first | decide | assumption | omega) only [go_sem, RdS.len hdX sl22, RdS.idx hdX sl22, R1.intB hdX (Ext.pres eB), RdS.cells hdX, RdS.len hmX sl23, RdS.idx hmX sl23, RdS.cellB hmX (Ext.pres eB), RdS.cells hmX, RdS.len hdY sl22, RdS.idx hdY sl22, R1.intB hdY (Ext.pres eB), RdS.cells hdY, RdS.len hmY sl23, RdS.idx hmY sl23, RdS.cellB hmY (Ext.pres eB), RdS.cells hmY, BoxAt.cell hb0_0, BoxAt.cell hb0_1, BoxAt.cell hb0_2, wrap_id, bC0]
 refine hK _ _ ?_
 clear hK K
 refine den_seq ?_
 refine den_region TTok ?_
 intro K hK
 simp -implicitDefEqProofs (disch := first | decide | assumption | omega) only [go_sem, ld30, RdS.len hdX sl22, RdS.idx hdX sl22, R1.intB hdX (Ext.pres eB), RdS.cells hdX, RdS.len hmX sl23, RdS.idx hmX sl23, RdS.cellB hmX (Ext.pres eB), RdS.cells hmX, RdS.len hdY sl22, RdS.idx hdY sl22, R1.intB hdY (Ext.pres eB), RdS.cells hdY, RdS.len hmY sl23, RdS.idx hmY sl23, RdS.cellB hmY (Ext.pres eB), RdS.cells hmY, BoxAt.cell hb0_0, BoxAt.cell hb0_1, BoxAt.cell hb0_2, wrap_id, bC0]
 try simp -implicitDefEqProofs (disch := first | decide | assumption | omega) only [go_sem, RdS.len hdX sl22, RdS.idx hdX sl22, R1.intB hdX (Ext.pres eB), RdS.cells hdX, RdS.len hmX sl23, RdS.idx hmX sl23, RdS.cellB hmX (Ext.pres eB), RdS.cells hmX, RdS.len hdY sl22, RdS.idx hdY sl22, R1.intB hdY (Ext.pres eB), RdS.cells hdY, RdS.len hmY sl23, RdS.idx hmY sl23, RdS.cellB hmY (Ext.pres eB), RdS.cells hmY, BoxAt.cell hb0_0, BoxAt.cell hb0_1, BoxAt.cell hb0_2, wrap_id, bC0]
 refine CallA.mono (iDims_ok _ _ X Y _ ⟨_, _, rfl, (RdS.pres hdX (Ext.pres eB)), (RdS.pres hmX (Ext.pres eB))⟩ ⟨_, _, rfl, (RdS.pres hdY (Ext.pres eB)), (RdS.pres hmY (Ext.pres eB))⟩ (hX) (hY)) ?_
 intro vw1_2_0 h1_2
 rintro ⟨zvw1_2_0, fw1_2_0, rfl, how1_2_0, hfw1_2_0, e1_2⟩
 replace hb0_0 := BoxAt.ext hb0_0 e1_2
 replace hb0_1 := BoxAt.ext hb0_1 e1_2
 replace hb0_2 := BoxAt.ext hb0_2 e1_2
 have := Ext.size e1_2
 replace eB := Ext.trans eB e1_2
 have hlhow1_2_0 := OS.lt how1_2_0
 try simp -implicitDefEqProofs (disch := first | decide | assumption | omega) only [go_sem, RdS.len hdX sl22, RdS.idx hdX sl22, R1.intB hdX (Ext.pres eB), RdS.cells hdX, RdS.len hmX sl23, RdS.idx hmX sl23, RdS.cellB hmX (Ext.pres eB), RdS.cells hmX, RdS.len hdY sl22, RdS.idx hdY sl22, R1.intB hdY (Ext.pres eB), RdS.cells hdY, RdS.len hmY sl23, RdS.idx hmY sl23, RdS.cellB hmY (Ext.pres eB), RdS.cells hmY, RdS.len (OS.rd how1_2_0) sl22, RdS.idx (OS.rd how1_2_0) sl22, R1.intN (OS.rd how1_2_0), RdS.cells (OS.rd how1_2_0), BoxAt.cell hb0_0, BoxAt.cell hb0_1, BoxAt.cell hb0_2, wrap_id, bC0]
 refine hK _ _ ?_
 clear hK K
 refine den_seq ?_
 refine den_seq ?_
 refine den_merge [(18, .bool (((decide ((6 : Int) < ((tdP X Y).length : Int))) || (!((!(tdP X Y).any (fun x => decide (8 < x))))))))] [2, 3, 4, 6] (fun H => Ext h1_2 H) ?_ ?_
  -- a way
 ·refine den_region TTok ?_
  intro K hK
  simp -implicitDefEqProofs (disch := first | decide | assumption | (simp (disch := decide) only [slotOf_zero, slotOf_succ, Option.map_some, puts_same, puts_ne, gv_bool, gv_undef, tt, tf, ft, ff, eq_self, if_true, if_false, Bool.false_eq_true, Bool.not_true, Bool.not_false]; done) | omega) only [go_sem, RdS.len hdX sl22, RdS.idx hdX sl22, R1.intB hdX (Ext.pres eB), RdS.cells hdX, RdS.len hmX sl23, RdS.idx hmX sl23, RdS.cellB hmX (Ext.pres eB), RdS.cells hmX, RdS.len hdY sl22, RdS.idx hdY sl22, R1.intB hdY (Ext.pres eB), RdS.cells hdY, RdS.len hmY sl23, RdS.idx hmY sl23, RdS.cellB hmY (Ext.pres eB), RdS.cells hmY, RdS.len (OS.rd how1_2_0) sl22, RdS.idx (OS.rd how1_2_0) sl22, R1.intN (OS.rd how1_2_0), RdS.cells (OS.rd how1_2_0), BoxAt.cell hb0_0, BoxAt.cell hb0_1, BoxAt.cell hb0_2, wrap_id, bC0]
  refine opsP_F (by simp (disch := decide) only [slotOf_zero, slotOf_succ, Option.map_some, puts_same, puts_ne, gv_bool, gv_undef, tt, tf, ft, ff, eq_self, if_true, if_false, Bool.false_eq_true, Bool.not_true, Bool.not_false]; rfl) (fun g1 => ?_) (fun g1 => ?_)
  ·try simp -implicitDefEqProofs (disch := first | decide | assumption | (simp (disch := decide) only [slotOf_zero, slotOf_succ, Option.map_some, puts_same, puts_ne, gv_bool, gv_undef, tt, tf, ft, ff, eq_self, if_true, if_false, Bool.false_eq_true, Bool.not_true, Bool.not_false, g1]; done) | omega) only [go_sem, RdS.len hdX sl22, RdS.idx hdX sl22, R1.intB hdX (Ext.pres eB), RdS.cells hdX, RdS.len hmX sl23, RdS.idx hmX sl23, RdS.cellB hmX (Ext.pres eB), RdS.cells hmX, RdS.len hdY sl22, RdS.idx hdY sl22, R1.intB hdY (Ext.pres eB), RdS.cells hdY, RdS.len hmY sl23, RdS.idx hmY sl23, RdS.cellB hmY (Ext.pres eB), RdS.cells hmY, RdS.len (OS.rd how1_2_0) sl22, RdS.idx (OS.rd how1_2_0) sl22, R1.intN (OS.rd how1_2_0), RdS.cells (OS.rd how1_2_0), BoxAt.cell hb0_0, BoxAt.cell hb0_1, BoxAt.cell hb0_2, wrap_id, bC0, g1, eq_self, if_true, if_false, Bool.false_eq_true]
   try simp -implicitDefEqProofs (disch := first | decide | assumption | omega) only [go_sem, RdS.len hdX sl22, RdS.idx hdX sl22, R1.intB hdX (Ext.pres eB), RdS.cells hdX, RdS.len hmX sl23, RdS.idx hmX sl23, RdS.cellB hmX (Ext.pres eB), RdS.cells hmX, RdS.len hdY sl22, RdS.idx hdY sl22, R1.intB hdY (Ext.pres eB), RdS.cells hdY, RdS.len hmY sl23, RdS.idx hmY sl23, RdS.cellB hmY (Ext.pres eB), RdS.cells hmY, RdS.len (OS.rd how1_2_0) sl22, RdS.idx (OS.rd how1_2_0) sl22, R1.intN (OS.rd how1_2_0), RdS.cells (OS.rd how1_2_0), BoxAt.cell hb0_0, BoxAt.cell hb0_1, BoxAt.cell hb0_2, wrap_id, bC0]
   refine CallA.mono (arS_ok _ _ _ (OS.rd how1_2_0)) ?_
   intro v_ h2_5
   rintro ⟨rfl, e2_5⟩
   replace how1_2_0 := OS.ext how1_2_0 e2_5
   replace hb0_0 := BoxAt.ext hb0_0 e2_5
   replace hb0_1 := BoxAt.ext hb0_1 e2_5
   replace hb0_2 := BoxAt.ext hb0_2 e2_5
   have := Ext.size e2_5
   replace eB := Ext.trans eB e2_5
   try simp -implicitDefEqProofs (disch := first | decide | assumption | (simp (disch := decide) only [slotOf_zero, slotOf_succ, Option.map_some, puts_same, puts_ne, gv_bool, gv_undef, tt, tf, ft, ff, eq_self, if_true, if_false, Bool.false_eq_true, Bool.not_true, Bool.not_false, g1]; done) | omega) only [go_sem, RdS.len hdX sl22, RdS.idx hdX sl22, R1.intB hdX (Ext.pres eB), RdS.cells hdX, RdS.len hmX sl23, RdS.idx hmX sl23, RdS.cellB hmX (Ext.pres eB), RdS.cells hmX, RdS.len hdY sl22, RdS.idx hdY sl22, R1.intB hdY (Ext.pres eB), RdS.cells hdY, RdS.len hmY sl23, RdS.idx hmY sl23, RdS.cellB hmY (Ext.pres eB), RdS.cells hmY, RdS.len (OS.rd how1_2_0) sl22, RdS.idx (OS.rd how1_2_0) sl22, R1.intN (OS.rd how1_2_0), RdS.cells (OS.rd how1_2_0), BoxAt.cell hb0_0, BoxAt.cell hb0_1, BoxAt.cell hb0_2, wrap_id, bC0, g1, eq_self, if_true, if_false, Bool.false_eq_true]
   refine hK _ _ ?_
   clear hK K
   refine den_stop ?_
   refine ⟨?_, e2_5⟩
   first | (simp (disch := decide) only [go_sem, g1, eq_self, Bool.true_and, Bool.and_true, Bool.false_and, Bool.and_false, Bool.true_or, Bool.or_true, Bool.false_or, Bool.or_false, if_true, if_false, Bool.false_eq_true]; done) | simp [HasL, sel, puts_at, g1]
  ·try simp -implicitDefEqProofs (disch := first | decide | assumption | (simp (disch := decide) only [slotOf_zero, slotOf_succ, Option.map_some, puts_same, puts_ne, gv_bool, gv_undef, tt, tf, ft, ff, eq_self, if_true, if_false, Bool.false_eq_true, Bool.not_true, Bool.not_false, g1]; done) | omega) only [go_sem, RdS.len hdX sl22, RdS.idx hdX sl22, R1.intB hdX (Ext.pres eB), RdS.cells hdX, RdS.len hmX sl23, RdS.idx hmX sl23, RdS.cellB hmX (Ext.pres eB), RdS.cells hmX, RdS.len hdY sl22, RdS.idx hdY sl22, R1.intB hdY (Ext.pres eB), RdS.cells hdY, RdS.len hmY sl23, RdS.idx hmY sl23, RdS.cellB hmY (Ext.pres eB), RdS.cells hmY, RdS.len (OS.rd how1_2_0) sl22, RdS.idx (OS.rd how1_2_0) sl22, R1.intN (OS.rd how1_2_0), RdS.cells (OS.rd how1_2_0), BoxAt.cell hb0_0, BoxAt.cell hb0_1, BoxAt.cell hb0_2, wrap_id, bC0, g1, eq_self, if_true, if_false, Bool.false_eq_true]
   refine hK _ _ ?_
   clear hK K
   refine den_stop ?_
   refine ⟨?_, Ext.refl _⟩
   first | (simp (disch := decide) only [go_sem, g1, eq_self, Bool.true_and, Bool.and_true, Bool.false_and, Bool.and_false, Bool.true_or, Bool.or_true, Bool.false_or, Bool.or_false, if_true, if_false, Bool.false_eq_true]; done) | simp [HasL, sel, puts_at, g1]
 intro en2 h3 e4
 replace how1_2_0 := OS.ext how1_2_0 e4
 replace hb0_0 := BoxAt.ext hb0_0 e4
 replace hb0_1 := BoxAt.ext hb0_1 e4
 replace hb0_2 := BoxAt.ext hb0_2 e4
 have := Ext.size e4
 replace eB := Ext.trans eB e4
 simp (disch := decide) only [go_sem]
 refine den_cond rfl (fun c0 => ?_) (fun c0 => ?_)
 ·try simp only [decide_eq_true_eq, decide_eq_false_iff_not, beq_iff_eq, beq_eq_false_iff_ne, bne_iff_ne, ne_eq, Bool.not_eq_true', Bool.not_eq_false', Bool.and_eq_true, Bool.or_eq_true, bne_eq_false_iff_eq, Bool.or_eq_false_iff, Bool.and_eq_false_iff] at c0
  have hnf : ¬ fitP (tdP X Y) = true := fit_no (by simpa using c0)
  refine den_seq ?_
  refine den_region TTok ?_
  intro K hK
  simp -implicitDefEqProofs (disch := first | decide | assumption | omega) only [go_sem, RdS.len hdX sl22, RdS.idx hdX sl22, R1.intB hdX (Ext.pres eB), RdS.cells hdX, RdS.len hmX sl23, RdS.idx hmX sl23, RdS.cellB hmX (Ext.pres eB), RdS.cells hmX, RdS.len hdY sl22, RdS.idx hdY sl22, R1.intB hdY (Ext.pres eB), RdS.cells hdY, RdS.len hmY sl23, RdS.idx hmY sl23, RdS.cellB hmY (Ext.pres eB), RdS.cells hmY, BoxAt.cell hb0_2, wrap_id, bC0]
  refine op_storeB (cs' := #[.int .i64 ((0 : Int)), .slice none 0 0, .slice none 0 0]) st30 hb0_2 rfl rfl rfl (by simp) (allOne_mem (l := [.int .i64 ((0 : Int)), .slice none 0 0, .slice none 0 0]) ⟨rfl, rfl, rfl, trivial⟩) rfl ?_
  intro h3_1 hb0_2 c3_1
  have := c3_1.size
  replace eB := Ext.then eB c3_1 (ge_of hfhb0_2 (by omega))
  try simp -implicitDefEqProofs (disch := first | decide | assumption | omega) only [go_sem, RdS.len hdX sl22, RdS.idx hdX sl22, R1.intB hdX (Ext.pres eB), RdS.cells hdX, RdS.len hmX sl23, RdS.idx hmX sl23, RdS.cellB hmX (Ext.pres eB), RdS.cells hmX, RdS.len hdY sl22, RdS.idx hdY sl22, R1.intB hdY (Ext.pres eB), RdS.cells hdY, RdS.len hmY sl23, RdS.idx hmY sl23, RdS.cellB hmY (Ext.pres eB), RdS.cells hmY, BoxAt.cell hb0_2, wrap_id, bC0]
  refine hK _ _ ?_
  clear hK K
  refine den_ret ?_
  simp -implicitDefEqProofs (disch := first | decide | assumption | omega) only [go_sem, RdS.len hdX sl22, RdS.idx hdX sl22, R1.intB hdX (Ext.pres eB), RdS.cells hdX, RdS.len hmX sl23, RdS.idx hmX sl23, RdS.cellB hmX (Ext.pres eB), RdS.cells hmX, RdS.len hdY sl22, RdS.idx hdY sl22, R1.intB hdY (Ext.pres eB), RdS.cells hdY, RdS.len hmY sl23, RdS.idx hmY sl23, RdS.cellB hmY (Ext.pres eB), RdS.cells hmY, BoxAt.cell hb0_2, wrap_id, bC0, resP_ct, ld30]
  have hz : teP X Y = (⟨0, [], []⟩, 3) := by rw [teP, if_neg hnf]
  rw [hz]
  exact ⟨.slice none 0 0, .slice none 0 0, [], [], rfl, OS.nil, OS.nil, Fresh.nil _, eB⟩
 ·try simp only [decide_eq_true_eq, decide_eq_false_iff_not, beq_iff_eq, beq_eq_false_iff_ne, bne_iff_ne, ne_eq, Bool.not_eq_true', Bool.not_eq_false', Bool.and_eq_true, Bool.or_eq_true, bne_eq_false_iff_eq, Bool.or_eq_false_iff, Bool.and_eq_false_iff] at c0
  have hnf : fitP (tdP X Y) = true := fit_yes (by have := c0; omega) (by simpa using c0.2)
  have hbD := fit_all hX hY hnf
  have hbL : (tdP X Y).length ≤ 16 := by have := fit_len hnf; omega
  refine den_skip ?_
  refine den_seq ?_
  refine den_region TTok ?_
  intro K hK
  simp -implicitDefEqProofs (disch := first | decide | assumption | omega) only [go_sem, fa30_0, ld2, RdS.len hdX sl22, RdS.idx hdX sl22, R1.intB hdX (Ext.pres eB), RdS.cells hdX, RdS.len hmX sl23, RdS.idx hmX sl23, RdS.cellB hmX (Ext.pres eB), RdS.cells hmX, RdS.len hdY sl22, RdS.idx hdY sl22, R1.intB hdY (Ext.pres eB), RdS.cells hdY, RdS.len hmY sl23, RdS.idx hmY sl23, RdS.cellB hmY (Ext.pres eB), RdS.cells hmY, RdS.len (OS.rd how1_2_0) sl22, RdS.idx (OS.rd how1_2_0) sl22, R1.intN (OS.rd how1_2_0), RdS.cells (OS.rd how1_2_0), BoxAt.cell hb0_0, BoxAt.cell hb0_1, BoxAt.cell hb0_2, wrap_id, bC0]
  try simp -implicitDefEqProofs (disch := first | decide | assumption | omega) only [go_sem, RdS.len hdX sl22, RdS.idx hdX sl22, R1.intB hdX (Ext.pres eB), RdS.cells hdX, RdS.len hmX sl23, RdS.idx hmX sl23, RdS.cellB hmX (Ext.pres eB), RdS.cells hmX, RdS.len hdY sl22, RdS.idx hdY sl22, R1.intB hdY (Ext.pres eB), RdS.cells hdY, RdS.len hmY sl23, RdS.idx hmY sl23, RdS.cellB hmY (Ext.pres eB), RdS.cells hmY, RdS.len (OS.rd how1_2_0) sl22, RdS.idx (OS.rd how1_2_0) sl22, R1.intN (OS.rd how1_2_0), RdS.cells (OS.rd how1_2_0), BoxAt.cell hb0_0, BoxAt.cell hb0_1, BoxAt.cell hb0_2, wrap_id, bC0]
  refine CallA.mono (blank_ok _ _ (tdP X Y) _ (OS.rd how1_2_0) hbD hbL) ?_
  intro v_ h4_3
  rintro ⟨vw4_3, fw4_3, rfl, how4_3, hfw4_3, e4_3⟩
  replace how1_2_0 := OS.ext how1_2_0 e4_3
  replace hb0_0 := BoxAt.ext hb0_0 e4_3
  replace hb0_1 := BoxAt.ext hb0_1 e4_3
  replace hb0_2 := BoxAt.ext hb0_2 e4_3
  have := Ext.size e4_3
  replace eB := Ext.trans eB e4_3
  have hlhow4_3 := OS.lt how4_3
  try simp -implicitDefEqProofs (disch := first | decide | assumption | omega) only [go_sem, RdS.len hdX sl22, RdS.idx hdX sl22, R1.intB hdX (Ext.pres eB), RdS.cells hdX, RdS.len hmX sl23, RdS.idx hmX sl23, RdS.cellB hmX (Ext.pres eB), RdS.cells hmX, RdS.len hdY sl22, RdS.idx hdY sl22, R1.intB hdY (Ext.pres eB), RdS.cells hdY, RdS.len hmY sl23, RdS.idx hmY sl23, RdS.cellB hmY (Ext.pres eB), RdS.cells hmY, RdS.len (OS.rd how1_2_0) sl22, RdS.idx (OS.rd how1_2_0) sl22, R1.intN (OS.rd how1_2_0), RdS.cells (OS.rd how1_2_0), RdS.len (OS.rd how4_3) sl23, RdS.idx (OS.rd how4_3) sl23, RdS.cellN (OS.rd how4_3), RdS.cells (OS.rd how4_3), BoxAt.cell hb0_0, BoxAt.cell hb0_1, BoxAt.cell hb0_2, wrap_id, bC0]
  refine op_alloc (cs := #[.int .i64 0, .slice none 0 0, .slice none 0 0]) (by kernel_rfl) ?_
  intro h4_4 e4_4 hb4_4 z4_4
  replace how1_2_0 := OS.ext how1_2_0 e4_4
  replace how4_3 := OS.ext how4_3 e4_4
  replace hb0_0 := BoxAt.ext hb0_0 e4_4
  replace hb0_1 := BoxAt.ext hb0_1 e4_4
  replace hb0_2 := BoxAt.ext hb0_2 e4_4
  have := Ext.size e4_4
  replace eB := Ext.trans eB e4_4
  have hfhb4_4 : Fresh h4_3.size [h4_3.size] := Fresh.one _
  have hlhb4_4 := one_lt (show h4_3.size < h4_4.size by omega)
  try simp -implicitDefEqProofs (disch := first | decide | assumption | omega) only [go_sem, RdS.len hdX sl22, RdS.idx hdX sl22, R1.intB hdX (Ext.pres eB), RdS.cells hdX, RdS.len hmX sl23, RdS.idx hmX sl23, RdS.cellB hmX (Ext.pres eB), RdS.cells hmX, RdS.len hdY sl22, RdS.idx hdY sl22, R1.intB hdY (Ext.pres eB), RdS.cells hdY, RdS.len hmY sl23, RdS.idx hmY sl23, RdS.cellB hmY (Ext.pres eB), RdS.cells hmY, RdS.len (OS.rd how1_2_0) sl22, RdS.idx (OS.rd how1_2_0) sl22, R1.intN (OS.rd how1_2_0), RdS.cells (OS.rd how1_2_0), RdS.len (OS.rd how4_3) sl23, RdS.idx (OS.rd how4_3) sl23, RdS.cellN (OS.rd how4_3), RdS.cells (OS.rd how4_3), BoxAt.cell hb0_0, BoxAt.cell hb0_1, BoxAt.cell hb0_2, BoxAt.cell hb4_4, wrap_id, bC0]
  refine op_storeB (cs' := #[.int .i64 (X.p), vw1_2_0, vw4_3]) st30 hb4_4 rfl rfl rfl (by simp) (allOne_mem (l := [.int .i64 (X.p), vw1_2_0, vw4_3]) ⟨rfl, (OS.one how1_2_0).1, (OS.one how4_3).1, trivial⟩) rfl ?_
  intro h4_5 hb4_4 c4_5
  replace how1_2_0 := OS.chg how1_2_0 c4_5 (apart_lt hlhow1_2_0 hfhb4_4 (by omega))
  replace how4_3 := OS.chg how4_3 c4_5 (apart_lt hlhow4_3 hfhb4_4 (by omega))
  replace hb0_0 := BoxAt.chgA hb0_0 c4_5 (apart_lt hlhb0_0 hfhb4_4 (by omega))
  replace hb0_1 := BoxAt.chgA hb0_1 c4_5 (apart_lt hlhb0_1 hfhb4_4 (by omega))
  replace hb0_2 := BoxAt.chgA hb0_2 c4_5 (apart_lt hlhb0_2 hfhb4_4 (by omega))
  have := c4_5.size
  replace eB := Ext.then eB c4_5 (ge_of hfhb4_4 (by omega))
  try simp -implicitDefEqProofs (disch := first | decide | assumption | omega) only [go_sem, RdS.len hdX sl22, RdS.idx hdX sl22, R1.intB hdX (Ext.pres eB), RdS.cells hdX, RdS.len hmX sl23, RdS.idx hmX sl23, RdS.cellB hmX (Ext.pres eB), RdS.cells hmX, RdS.len hdY sl22, RdS.idx hdY sl22, R1.intB hdY (Ext.pres eB), RdS.cells hdY, RdS.len hmY sl23, RdS.idx hmY sl23, RdS.cellB hmY (Ext.pres eB), RdS.cells hmY, RdS.len (OS.rd how1_2_0) sl22, RdS.idx (OS.rd how1_2_0) sl22, R1.intN (OS.rd how1_2_0), RdS.cells (OS.rd how1_2_0), RdS.len (OS.rd how4_3) sl23, RdS.idx (OS.rd how4_3) sl23, RdS.cellN (OS.rd how4_3), RdS.cells (OS.rd how4_3), BoxAt.cell hb0_0, BoxAt.cell hb0_1, BoxAt.cell hb0_2, BoxAt.cell hb4_4, wrap_id, bC0]
  refine hK _ _ ?_
  clear hK K
  refine den_seq ?_
  refine den_region TTok ?_
  intro K hK
  simp -implicitDefEqProofs (disch := first | decide | assumption | omega) only [go_sem, ld30, RdS.len hdX sl22, RdS.idx hdX sl22, R1.intB hdX (Ext.pres eB), RdS.cells hdX, RdS.len hmX sl23, RdS.idx hmX sl23, RdS.cellB hmX (Ext.pres eB), RdS.cells hmX, RdS.len hdY sl22, RdS.idx hdY sl22, R1.intB hdY (Ext.pres eB), RdS.cells hdY, RdS.len hmY sl23, RdS.idx hmY sl23, RdS.cellB hmY (Ext.pres eB), RdS.cells hmY, RdS.len (OS.rd how1_2_0) sl22, RdS.idx (OS.rd how1_2_0) sl22, R1.intN (OS.rd how1_2_0), RdS.cells (OS.rd how1_2_0), RdS.len (OS.rd how4_3) sl23, RdS.idx (OS.rd how4_3) sl23, RdS.cellN (OS.rd how4_3), RdS.cells (OS.rd how4_3), BoxAt.cell hb0_0, BoxAt.cell hb0_1, BoxAt.cell hb0_2, BoxAt.cell hb4_4, wrap_id, bC0]
  try simp -implicitDefEqProofs (disch := first | decide | assumption | omega) only [go_sem, RdS.len hdX sl22, RdS.idx hdX sl22, R1.intB hdX (Ext.pres eB), RdS.cells hdX, RdS.len hmX sl23, RdS.idx hmX sl23, RdS.cellB hmX (Ext.pres eB), RdS.cells hmX, RdS.len hdY sl22, RdS.idx hdY sl22, R1.intB hdY (Ext.pres eB), RdS.cells hdY, RdS.len hmY sl23, RdS.idx hmY sl23, RdS.cellB hmY (Ext.pres eB), RdS.cells hmY, RdS.len (OS.rd how1_2_0) sl22, RdS.idx (OS.rd how1_2_0) sl22, R1.intN (OS.rd how1_2_0), RdS.cells (OS.rd how1_2_0), RdS.len (OS.rd how4_3) sl23, RdS.idx (OS.rd how4_3) sl23, RdS.cellN (OS.rd how4_3), RdS.cells (OS.rd how4_3), BoxAt.cell hb0_0, BoxAt.cell hb0_1, BoxAt.cell hb0_2, BoxAt.cell hb4_4, wrap_id, bC0]
  refine CallA.mono (each_upd (X := X) (s0 := (zblk (tdP X Y) ((tdP X Y).length - 1))) (p := X.p) (L := (tdP X Y).length - 1) (A := tA X Y) (B := tB X Y) (U := tU1 X Y) (Ot := (fun H => BoxAt H (h4_3.size) #[.int .i64 X.p, vw1_2_0, vw4_3] 30 ∧ BoxAt H (h0_0.size) #[.int .i64 Y.p, vdY, vmY] 30 ∧ BoxAt H (h.size) #[.int .i64 X.p, vdX, vmX] 30 ∧ O1 H vw1_2_0 (tdP X Y) fw1_2_0)) hpb.1 hdX hmX ⟨how4_3, hzb.1, hzb.2, eB, hb4_4, hb0_1, hb0_0, how1_2_0⟩ (fun H H' c o => ⟨BoxAt.chgA o.1 c (apart_gt hfhb4_4 hlhow4_3 (by omega)), BoxAt.chgA o.2.1 c (apart_lt hlhb0_1 hfw4_3 (by omega)), BoxAt.chgA o.2.2.1 c (apart_lt hlhb0_0 hfw4_3 (by omega)), OS.chg o.2.2.2 c (apart_lt hlhow1_2_0 hfw4_3 (by omega))⟩) (ge_of hfw4_3 (by omega)) (t_u1 hX hY) (fun s H k i j hk hi hj r => by
  simp only [List.append_toArray, List.cons_append, List.nil_append]
  have hnm := hX.num hk hi hj
  exact (ten1_ok X Y vdX vmX vdY vmY _ _ s _ k i j _ _ _ _ (fun H => BoxAt H (h4_3.size) #[.int .i64 X.p, vw1_2_0, vw4_3] 30 ∧ BoxAt H (h0_0.size) #[.int .i64 Y.p, vdY, vmY] 30 ∧ BoxAt H (h.size) #[.int .i64 X.p, vdX, vmX] 30 ∧ O1 H vw1_2_0 (tdP X Y) fw1_2_0) h H hdX hmX hdY hmY hX hY hi hj (by omega) r.o r.sh r.i3 hfw4_3.nodup r.e (ge_of hfw4_3 (by omega)) r.ot (fun H H' c o => ⟨BoxAt.chgA o.1 c (apart_gt hfhb4_4 hlhow4_3 (by omega)), BoxAt.chgA o.2.1 c (apart_lt hlhb0_1 hfw4_3 (by omega)), BoxAt.chgA o.2.2.1 c (apart_lt hlhb0_0 hfw4_3 (by omega)), OS.chg o.2.2.2 c (apart_lt hlhow1_2_0 hfw4_3 (by omega))⟩) (fun H o => ⟨o.1, o.2.1, o.2.2.1, OS.rd o.2.2.2⟩)).mono (fun u H' q => q.2))) ?_
  intro v_ h5_2
  rintro ⟨rfl, hog5_2, cg5_2⟩
  replace how1_2_0 := OS.chg how1_2_0 cg5_2 (apart_lt hlhow1_2_0 hfw4_3 (by omega))
  replace hb0_0 := BoxAt.chgA hb0_0 cg5_2 (apart_lt hlhb0_0 hfw4_3 (by omega))
  replace hb0_1 := BoxAt.chgA hb0_1 cg5_2 (apart_lt hlhb0_1 hfw4_3 (by omega))
  replace hb0_2 := BoxAt.chgA hb0_2 cg5_2 (apart_lt hlhb0_2 hfw4_3 (by omega))
  replace hb4_4 := BoxAt.chgA hb4_4 cg5_2 (apart_gt hfhb4_4 hlhow4_3 (by omega))
  have := cg5_2.size
  replace eB := Ext.then eB cg5_2 (ge_of hfw4_3 (by omega))
  have hlhog5_2 := hlhow4_3
  try simp -implicitDefEqProofs (disch := first | decide | assumption | omega) only [go_sem, RdS.len hdX sl22, RdS.idx hdX sl22, R1.intB hdX (Ext.pres eB), RdS.cells hdX, RdS.len hmX sl23, RdS.idx hmX sl23, RdS.cellB hmX (Ext.pres eB), RdS.cells hmX, RdS.len hdY sl22, RdS.idx hdY sl22, R1.intB hdY (Ext.pres eB), RdS.cells hdY, RdS.len hmY sl23, RdS.idx hmY sl23, RdS.cellB hmY (Ext.pres eB), RdS.cells hmY, RdS.len (OS.rd how1_2_0) sl22, RdS.idx (OS.rd how1_2_0) sl22, R1.intN (OS.rd how1_2_0), RdS.cells (OS.rd how1_2_0), RdS.len (OS.rd hog5_2) sl23, RdS.idx (OS.rd hog5_2) sl23, RdS.cellN (OS.rd hog5_2), RdS.cells (OS.rd hog5_2), BoxAt.cell hb0_0, BoxAt.cell hb0_1, BoxAt.cell hb0_2, BoxAt.cell hb4_4, wrap_id, bC0]
  refine hK _ _ ?_
  clear hK K
  refine den_seq ?_
  refine den_region TTok ?_
  intro K hK
  simp -implicitDefEqProofs (disch := first | decide | assumption | omega) only [go_sem, ld30, RdS.len hdX sl22, RdS.idx hdX sl22, R1.intB hdX (Ext.pres eB), RdS.cells hdX, RdS.len hmX sl23, RdS.idx hmX sl23, RdS.cellB hmX (Ext.pres eB), RdS.cells hmX, RdS.len hdY sl22, RdS.idx hdY sl22, R1.intB hdY (Ext.pres eB), RdS.cells hdY, RdS.len hmY sl23, RdS.idx hmY sl23, RdS.cellB hmY (Ext.pres eB), RdS.cells hmY, RdS.len (OS.rd how1_2_0) sl22, RdS.idx (OS.rd how1_2_0) sl22, R1.intN (OS.rd how1_2_0), RdS.cells (OS.rd how1_2_0), RdS.len (OS.rd hog5_2) sl23, RdS.idx (OS.rd hog5_2) sl23, RdS.cellN (OS.rd hog5_2), RdS.cells (OS.rd hog5_2), BoxAt.cell hb0_0, BoxAt.cell hb0_1, BoxAt.cell hb0_2, BoxAt.cell hb4_4, wrap_id, bC0]
  try simp -implicitDefEqProofs (disch := first | decide | assumption | omega) only [go_sem, RdS.len hdX sl22, RdS.idx hdX sl22, R1.intB hdX (Ext.pres eB), RdS.cells hdX, RdS.len hmX sl23, RdS.idx hmX sl23, RdS.cellB hmX (Ext.pres eB), RdS.cells hmX, RdS.len hdY sl22, RdS.idx hdY sl22, R1.intB hdY (Ext.pres eB), RdS.cells hdY, RdS.len hmY sl23, RdS.idx hmY sl23, RdS.cellB hmY (Ext.pres eB), RdS.cells hmY, RdS.len (OS.rd how1_2_0) sl22, RdS.idx (OS.rd how1_2_0) sl22, R1.intN (OS.rd how1_2_0), RdS.cells (OS.rd how1_2_0), RdS.len (OS.rd hog5_2) sl23, RdS.idx (OS.rd hog5_2) sl23, RdS.cellN (OS.rd hog5_2), RdS.cells (OS.rd hog5_2), BoxAt.cell hb0_0, BoxAt.cell hb0_1, BoxAt.cell hb0_2, BoxAt.cell hb4_4, wrap_id, bC0]
  refine CallA.mono (each_upd (X := Y) (s0 := (tT1 X Y)) (p := X.p) (L := (tdP X Y).length - 1) (A := tA X Y) (B := tB X Y) (U := tU2 X Y) (Ot := (fun H => BoxAt H (h4_3.size) #[.int .i64 X.p, vw1_2_0, vw4_3] 30 ∧ BoxAt H (h0_0.size) #[.int .i64 Y.p, vdY, vmY] 30 ∧ BoxAt H (h.size) #[.int .i64 X.p, vdX, vmX] 30 ∧ O1 H vw1_2_0 (tdP X Y) fw1_2_0)) hpb.1 hdY hmY ⟨hog5_2, (tT1_sh hX hY).1, (tT1_sh hX hY).2, eB, hb4_4, hb0_1, hb0_0, how1_2_0⟩ (fun H H' c o => ⟨BoxAt.chgA o.1 c (apart_gt hfhb4_4 hlhog5_2 (by omega)), BoxAt.chgA o.2.1 c (apart_lt hlhb0_1 hfw4_3 (by omega)), BoxAt.chgA o.2.2.1 c (apart_lt hlhb0_0 hfw4_3 (by omega)), OS.chg o.2.2.2 c (apart_lt hlhow1_2_0 hfw4_3 (by omega))⟩) (ge_of hfw4_3 (by omega)) (t_u2 hX hY) (fun s H k i j hk hi hj r => by
  simp only [List.append_toArray, List.cons_append, List.nil_append]
  have hnm := hY.num hk hi hj
  exact (ten2_ok X Y vdX vmX vdY vmY _ _ s _ k i j _ _ _ _ (fun H => BoxAt H (h4_3.size) #[.int .i64 X.p, vw1_2_0, vw4_3] 30 ∧ BoxAt H (h0_0.size) #[.int .i64 Y.p, vdY, vmY] 30 ∧ BoxAt H (h.size) #[.int .i64 X.p, vdX, vmX] 30 ∧ O1 H vw1_2_0 (tdP X Y) fw1_2_0) h H hdX hmX hdY hmY hX hY hi hj (by omega) r.o r.sh r.i3 hfw4_3.nodup r.e (ge_of hfw4_3 (by omega)) r.ot (fun H H' c o => ⟨BoxAt.chgA o.1 c (apart_gt hfhb4_4 hlhog5_2 (by omega)), BoxAt.chgA o.2.1 c (apart_lt hlhb0_1 hfw4_3 (by omega)), BoxAt.chgA o.2.2.1 c (apart_lt hlhb0_0 hfw4_3 (by omega)), OS.chg o.2.2.2 c (apart_lt hlhow1_2_0 hfw4_3 (by omega))⟩) (fun H o => ⟨o.1, o.2.1, o.2.2.1, OS.rd o.2.2.2⟩)).mono (fun u H' q => q.2))) ?_
  intro v_ h6_2
  rintro ⟨rfl, hog6_2, cg6_2⟩
  replace how1_2_0 := OS.chg how1_2_0 cg6_2 (apart_lt hlhow1_2_0 hfw4_3 (by omega))
  replace hb0_0 := BoxAt.chgA hb0_0 cg6_2 (apart_lt hlhb0_0 hfw4_3 (by omega))
  replace hb0_1 := BoxAt.chgA hb0_1 cg6_2 (apart_lt hlhb0_1 hfw4_3 (by omega))
  replace hb0_2 := BoxAt.chgA hb0_2 cg6_2 (apart_lt hlhb0_2 hfw4_3 (by omega))
  replace hb4_4 := BoxAt.chgA hb4_4 cg6_2 (apart_gt hfhb4_4 hlhog5_2 (by omega))
  have := cg6_2.size
  replace eB := Ext.then eB cg6_2 (ge_of hfw4_3 (by omega))
  have hlhog6_2 := hlhog5_2
  try simp -implicitDefEqProofs (disch := first | decide | assumption | omega) only [go_sem, RdS.len hdX sl22, RdS.idx hdX sl22, R1.intB hdX (Ext.pres eB), RdS.cells hdX, RdS.len hmX sl23, RdS.idx hmX sl23, RdS.cellB hmX (Ext.pres eB), RdS.cells hmX, RdS.len hdY sl22, RdS.idx hdY sl22, R1.intB hdY (Ext.pres eB), RdS.cells hdY, RdS.len hmY sl23, RdS.idx hmY sl23, RdS.cellB hmY (Ext.pres eB), RdS.cells hmY, RdS.len (OS.rd how1_2_0) sl22, RdS.idx (OS.rd how1_2_0) sl22, R1.intN (OS.rd how1_2_0), RdS.cells (OS.rd how1_2_0), RdS.len (OS.rd hog6_2) sl23, RdS.idx (OS.rd hog6_2) sl23, RdS.cellN (OS.rd hog6_2), RdS.cells (OS.rd hog6_2), BoxAt.cell hb0_0, BoxAt.cell hb0_1, BoxAt.cell hb0_2, BoxAt.cell hb4_4, wrap_id, bC0]
  refine hK _ _ ?_
  clear hK K
  refine den_seq ?_
  refine den_region TTok ?_
  intro K hK
  simp -implicitDefEqProofs (disch := first | decide | assumption | omega) only [go_sem, ld30, RdS.len hdX sl22, RdS.idx hdX sl22, R1.intB hdX (Ext.pres eB), RdS.cells hdX, RdS.len hmX sl23, RdS.idx hmX sl23, RdS.cellB hmX (Ext.pres eB), RdS.cells hmX, RdS.len hdY sl22, RdS.idx hdY sl22, R1.intB hdY (Ext.pres eB), RdS.cells hdY, RdS.len hmY sl23, RdS.idx hmY sl23, RdS.cellB hmY (Ext.pres eB), RdS.cells hmY, RdS.len (OS.rd how1_2_0) sl22, RdS.idx (OS.rd how1_2_0) sl22, R1.intN (OS.rd how1_2_0), RdS.cells (OS.rd how1_2_0), RdS.len (OS.rd hog6_2) sl23, RdS.idx (OS.rd hog6_2) sl23, RdS.cellN (OS.rd hog6_2), RdS.cells (OS.rd hog6_2), BoxAt.cell hb0_2, BoxAt.cell hb4_4, wrap_id, bC0]
  refine op_storeB (cs' := #[.int .i64 (X.p), vw1_2_0, vw4_3]) st30 hb0_2 rfl rfl rfl (by simp) (allOne_mem (l := [.int .i64 (X.p), vw1_2_0, vw4_3]) ⟨rfl, (OS.one how1_2_0).1, (OS.one hog6_2).1, trivial⟩) rfl ?_
  intro h7_1 hb0_2 c7_1
  replace how1_2_0 := OS.chg how1_2_0 c7_1 (apart_gt hfw1_2_0 hlhb0_2 (by omega))
  replace hog6_2 := OS.chg hog6_2 c7_1 (apart_gt hfw4_3 hlhb0_2 (by omega))
  replace hb4_4 := BoxAt.chgA hb4_4 c7_1 (apart_gt hfhb4_4 hlhb0_2 (by omega))
  have := c7_1.size
  replace eB := Ext.then eB c7_1 (ge_of hfhb0_2 (by omega))
  try simp -implicitDefEqProofs (disch := first | decide | assumption | omega) only [go_sem, RdS.len hdX sl22, RdS.idx hdX sl22, R1.intB hdX (Ext.pres eB), RdS.cells hdX, RdS.len hmX sl23, RdS.idx hmX sl23, RdS.cellB hmX (Ext.pres eB), RdS.cells hmX, RdS.len hdY sl22, RdS.idx hdY sl22, R1.intB hdY (Ext.pres eB), RdS.cells hdY, RdS.len hmY sl23, RdS.idx hmY sl23, RdS.cellB hmY (Ext.pres eB), RdS.cells hmY, RdS.len (OS.rd how1_2_0) sl22, RdS.idx (OS.rd how1_2_0) sl22, R1.intN (OS.rd how1_2_0), RdS.cells (OS.rd how1_2_0), RdS.len (OS.rd hog6_2) sl23, RdS.idx (OS.rd hog6_2) sl23, RdS.cellN (OS.rd hog6_2), RdS.cells (OS.rd hog6_2), BoxAt.cell hb0_2, BoxAt.cell hb4_4, wrap_id, bC0]
  refine hK _ _ ?_
  clear hK K
  refine den_ret ?_
  simp -implicitDefEqProofs (disch := first | decide | assumption | omega) only [go_sem, RdS.len hdX sl22, RdS.idx hdX sl22, R1.intB hdX (Ext.pres eB), RdS.cells hdX, RdS.len hmX sl23, RdS.idx hmX sl23, RdS.cellB hmX (Ext.pres eB), RdS.cells hmX, RdS.len hdY sl22, RdS.idx hdY sl22, R1.intB hdY (Ext.pres eB), RdS.cells hdY, RdS.len hmY sl23, RdS.idx hmY sl23, RdS.cellB hmY (Ext.pres eB), RdS.cells hmY, RdS.len (OS.rd how1_2_0) sl22, RdS.idx (OS.rd how1_2_0) sl22, R1.intN (OS.rd how1_2_0), RdS.cells (OS.rd how1_2_0), RdS.len (OS.rd hog6_2) sl23, RdS.idx (OS.rd hog6_2) sl23, RdS.cellN (OS.rd hog6_2), RdS.cells (OS.rd hog6_2), BoxAt.cell hb0_2, BoxAt.cell hb4_4, wrap_id, bC0, resP_ct, ld30]
  have hz : teP X Y = (⟨X.p, tdP X Y, tT X Y⟩, 0) := by rw [teP, if_pos hnf]
  rw [hz]
  exact ⟨_, _, _, _, rfl, how1_2_0, hog6_2, Fresh.two hfw1_2_0 hfw4_3 (apart_lt hlhow1_2_0 hfw4_3 (by omega)) (by omega) (by omega), eB⟩
end Go.Proofs.Ytffggocjkhcgeaa

namespace Go.Proofs.Ytffggocjkhcgeaa
open Go
set_option maxRecDepth 100000 in
set_option maxHeartbeats 4000000 in
theorem sSw_ok (vX vY : Value) (X : Cx) (Y : Cx) (h : Heap) (rX : RC h vX X) (rY : RC h vY Y)  : CallA Try.prog 41 #[vX, vY] h fun v' h' => ∃ w0 f0, v' = .tuple #[w0, .int .i64 ((swP X Y).2)] ∧ O3 h' w0 ((swP X Y).1) f0 ∧ Fresh h.size f0 ∧ Ext h h' := by
 obtain ⟨vdX, vmX, rfl, hdX, hmX⟩ := rX
 have hledX := RdS.le hdX
 have hlemX := RdS.le hmX
 obtain ⟨vdY, vmY, rfl, hdY, hmY⟩ := rY
 have hledY := RdS.le hdY
 have hlemY := RdS.le hmY
 refine callA_intro TTok (args := [_, _]) Try.func41 (by kernel_rfl) rfl 92 rfl (by simp) [.tmp 4, .tmp 5] rfl ?_
 simp only [idxs, Nat.reduceAdd]
 refine den_seq ?_
 refine den_region TTok ?_
 intro K hK
 simp -implicitDefEqProofs (disch := first | decide | assumption | omega) only [go_sem, RdS.len hdX sl22, RdS.idx hdX sl22, R1.intB hdX (HPres.refl _), RdS.cells hdX, RdS.len hmX sl23, RdS.idx hmX sl23, RdS.cellB hmX (HPres.refl _), RdS.cells hmX, RdS.len hdY sl22, RdS.idx hdY sl22, R1.intB hdY (HPres.refl _), RdS.cells hdY, RdS.len hmY sl23, RdS.idx hmY sl23, RdS.cellB hmY (HPres.refl _), RdS.cells hmY, wrap_id]
 refine op_box (cs := #[.int .i64 (X.p), vdX, vmX]) rfl ?_
 intro h0_0 e0_0 hb0_0 z0_0
 have := Ext.size e0_0
 have eB := e0_0
 have hfhb0_0 : Fresh h.size [h.size] := Fresh.one _
 have hlhb0_0 := one_lt (show h.size < h0_0.size by omega)
 try simp -implicitDefEqProofs (disch := first | decide | assumption | omega) only [go_sem, RdS.len hdX sl22, RdS.idx hdX sl22, R1.intB hdX (Ext.pres eB), RdS.cells hdX, RdS.len hmX sl23, RdS.idx hmX sl23, RdS.cellB hmX (Ext.pres eB), RdS.cells hmX, RdS.len hdY sl22, RdS.idx hdY sl22, R1.intB hdY (Ext.pres eB), RdS.cells hdY, RdS.len hmY sl23, RdS.idx hmY sl23, RdS.cellB hmY (Ext.pres eB), RdS.cells hmY, BoxAt.cell hb0_0, wrap_id]
 refine op_box (cs := #[.int .i64 (Y.p), vdY, vmY]) rfl ?_
 intro h0_1 e0_1 hb0_1 z0_1
 replace hb0_0 := BoxAt.ext hb0_0 e0_1
 have := Ext.size e0_1
 replace eB := Ext.trans eB e0_1
 have hfhb0_1 : Fresh h0_0.size [h0_0.size] := Fresh.one _
 have hlhb0_1 := one_lt (show h0_0.size < h0_1.size by omega)
 try simp -implicitDefEqProofs (disch := first | decide | assumption | omega) only [go_sem, RdS.len hdX sl22, RdS.idx hdX sl22, R1.intB hdX (Ext.pres eB), RdS.cells hdX, RdS.len hmX sl23, RdS.idx hmX sl23, RdS.cellB hmX (Ext.pres eB), RdS.cells hmX, RdS.len hdY sl22, RdS.idx hdY sl22, R1.intB hdY (Ext.pres eB), RdS.cells hdY, RdS.len hmY sl23, RdS.idx hmY sl23, RdS.cellB hmY (Ext.pres eB), RdS.cells hmY, BoxAt.cell hb0_0, BoxAt.cell hb0_1, wrap_id]
 refine hK _ _ ?_
 clear hK K
 refine den_seq ?_
 refine den_seq ?_
 refine den_region TTok ?_
 intro K hK
 simp -implicitDefEqProofs (disch := first | decide | assumption | omega) only [go_sem, ld30, RdS.len hdX sl22, RdS.idx hdX sl22, R1.intB hdX (Ext.pres eB), RdS.cells hdX, RdS.len hmX sl23, RdS.idx hmX sl23, RdS.cellB hmX (Ext.pres eB), RdS.cells hmX, RdS.len hdY sl22, RdS.idx hdY sl22, R1.intB hdY (Ext.pres eB), RdS.cells hdY, RdS.len hmY sl23, RdS.idx hmY sl23, RdS.cellB hmY (Ext.pres eB), RdS.cells hmY, BoxAt.cell hb0_0, BoxAt.cell hb0_1, wrap_id]
 try simp -implicitDefEqProofs (disch := first | decide | assumption | omega) only [go_sem, RdS.len hdX sl22, RdS.idx hdX sl22, R1.intB hdX (Ext.pres eB), RdS.cells hdX, RdS.len hmX sl23, RdS.idx hmX sl23, RdS.cellB hmX (Ext.pres eB), RdS.cells hmX, RdS.len hdY sl22, RdS.idx hdY sl22, R1.intB hdY (Ext.pres eB), RdS.cells hdY, RdS.len hmY sl23, RdS.idx hmY sl23, RdS.cellB hmY (Ext.pres eB), RdS.cells hmY, BoxAt.cell hb0_0, BoxAt.cell hb0_1, wrap_id]
 refine CallA.mono (two_ok _ _ X Y _ ⟨_, _, rfl, (RdS.pres hdX (Ext.pres eB)), (RdS.pres hmX (Ext.pres eB))⟩ ⟨_, _, rfl, (RdS.pres hdY (Ext.pres eB)), (RdS.pres hmY (Ext.pres eB))⟩) ?_
 intro v_ h1_2
 rintro ⟨rfl, e1_2⟩
 replace hb0_0 := BoxAt.ext hb0_0 e1_2
 replace hb0_1 := BoxAt.ext hb0_1 e1_2
 have := Ext.size e1_2
 replace eB := Ext.trans eB e1_2
 try simp -implicitDefEqProofs (disch := first | decide | assumption | omega) only [go_sem, RdS.len hdX sl22, RdS.idx hdX sl22, R1.intB hdX (Ext.pres eB), RdS.cells hdX, RdS.len hmX sl23, RdS.idx hmX sl23, RdS.cellB hmX (Ext.pres eB), RdS.cells hmX, RdS.len hdY sl22, RdS.idx hdY sl22, R1.intB hdY (Ext.pres eB), RdS.cells hdY, RdS.len hmY sl23, RdS.idx hmY sl23, RdS.cellB hmY (Ext.pres eB), RdS.cells hmY, BoxAt.cell hb0_0, BoxAt.cell hb0_1, wrap_id]
 refine hK _ _ ?_
 clear hK K
 refine den_seq ?_
 refine den_region TTok ?_
 intro K hK
 simp -implicitDefEqProofs (disch := first | decide | assumption | omega) only [go_sem, RdS.len hdX sl22, RdS.idx hdX sl22, R1.intB hdX (Ext.pres eB), RdS.cells hdX, RdS.len hmX sl23, RdS.idx hmX sl23, RdS.cellB hmX (Ext.pres eB), RdS.cells hmX, RdS.len hdY sl22, RdS.idx hdY sl22, R1.intB hdY (Ext.pres eB), RdS.cells hdY, RdS.len hmY sl23, RdS.idx hmY sl23, RdS.cellB hmY (Ext.pres eB), RdS.cells hmY, BoxAt.cell hb0_0, BoxAt.cell hb0_1, wrap_id]
 refine hK _ _ ?_
 clear hK K
 refine den_cond rfl (fun c0 => ?_) (fun c0 => ?_)
 ·try simp only [decide_eq_true_eq, decide_eq_false_iff_not, beq_iff_eq, beq_eq_false_iff_ne, bne_iff_ne, ne_eq, Bool.not_eq_true', Bool.not_eq_false', Bool.and_eq_true, Bool.or_eq_true, bne_eq_false_iff_eq] at c0
  refine den_seq ?_
  refine den_region TTok ?_
  intro K hK
  simp -implicitDefEqProofs (disch := first | decide | assumption | omega) only [go_sem, RdS.len hdX sl22, RdS.idx hdX sl22, R1.intB hdX (Ext.pres eB), RdS.cells hdX, RdS.len hmX sl23, RdS.idx hmX sl23, RdS.cellB hmX (Ext.pres eB), RdS.cells hmX, RdS.len hdY sl22, RdS.idx hdY sl22, R1.intB hdY (Ext.pres eB), RdS.cells hdY, RdS.len hmY sl23, RdS.idx hmY sl23, RdS.cellB hmY (Ext.pres eB), RdS.cells hmY, wrap_id]
  refine hK _ _ ?_
  clear hK K
  refine den_ret ?_
  simp (disch := decide) only [resP_2, puts_same, puts_ne]
  have hz : swP X Y = ([], twoP X Y) := by rw [swP, if_neg c0]
  rw [hz]
  exact ⟨.slice none 0 0, [], rfl, OS.nil, Fresh.nil _, eB⟩
 ·try simp only [decide_eq_true_eq, decide_eq_false_iff_not, beq_iff_eq, beq_eq_false_iff_ne, bne_iff_ne, ne_eq, Bool.not_eq_true', Bool.not_eq_false', Bool.and_eq_true, Bool.or_eq_true, bne_eq_false_iff_eq] at c0
  have hXY := twoP_0 c0
  obtain ⟨hX, hY, hpp⟩ := hXY
  have htl := tdP_len X Y
  have hlX := hX.len
  have hlY := hY.len
  have hpb := isP_bnd hX.p
  refine den_skip ?_
  refine den_seq ?_
  refine den_region TTok ?_
  intro K hK
  simp -implicitDefEqProofs (disch := first | decide | assumption | omega) only [go_sem, ld30, RdS.len hdX sl22, RdS.idx hdX sl22, R1.intB hdX (Ext.pres eB), RdS.cells hdX, RdS.len hmX sl23, RdS.idx hmX sl23, RdS.cellB hmX (Ext.pres eB), RdS.cells hmX, RdS.len hdY sl22, RdS.idx hdY sl22, R1.intB hdY (Ext.pres eB), RdS.cells hdY, RdS.len hmY sl23, RdS.idx hmY sl23, RdS.cellB hmY (Ext.pres eB), RdS.cells hmY, BoxAt.cell hb0_0, BoxAt.cell hb0_1, wrap_id]
  try simp -implicitDefEqProofs (disch := first | decide | assumption | omega) only [go_sem, RdS.len hdX sl22, RdS.idx hdX sl22, R1.intB hdX (Ext.pres eB), RdS.cells hdX, RdS.len hmX sl23, RdS.idx hmX sl23, RdS.cellB hmX (Ext.pres eB), RdS.cells hmX, RdS.len hdY sl22, RdS.idx hdY sl22, R1.intB hdY (Ext.pres eB), RdS.cells hdY, RdS.len hmY sl23, RdS.idx hmY sl23, RdS.cellB hmY (Ext.pres eB), RdS.cells hmY, BoxAt.cell hb0_0, BoxAt.cell hb0_1, wrap_id]
  refine CallA.mono (sDims_ok _ _ X Y _ ⟨_, _, rfl, (RdS.pres hdX (Ext.pres eB)), (RdS.pres hmX (Ext.pres eB))⟩ ⟨_, _, rfl, (RdS.pres hdY (Ext.pres eB)), (RdS.pres hmY (Ext.pres eB))⟩ (hX) (hY)) ?_
  intro vw4_2_0 h4_2
  rintro ⟨zvw4_2_0, fw4_2_0, rfl, how4_2_0, hfw4_2_0, e4_2⟩
  replace hb0_0 := BoxAt.ext hb0_0 e4_2
  replace hb0_1 := BoxAt.ext hb0_1 e4_2
  have := Ext.size e4_2
  replace eB := Ext.trans eB e4_2
  have hlhow4_2_0 := OS.lt how4_2_0
  try simp -implicitDefEqProofs (disch := first | decide | assumption | omega) only [go_sem, RdS.len hdX sl22, RdS.idx hdX sl22, R1.intB hdX (Ext.pres eB), RdS.cells hdX, RdS.len hmX sl23, RdS.idx hmX sl23, RdS.cellB hmX (Ext.pres eB), RdS.cells hmX, RdS.len hdY sl22, RdS.idx hdY sl22, R1.intB hdY (Ext.pres eB), RdS.cells hdY, RdS.len hmY sl23, RdS.idx hmY sl23, RdS.cellB hmY (Ext.pres eB), RdS.cells hmY, RdS.len (OS.rd how4_2_0) sl22, RdS.idx (OS.rd how4_2_0) sl22, R1.intN (OS.rd how4_2_0), RdS.cells (OS.rd how4_2_0), BoxAt.cell hb0_0, BoxAt.cell hb0_1, wrap_id]
  refine hK _ _ ?_
  clear hK K
  refine den_seq ?_
  refine den_seq ?_
  refine den_region TTok ?_
  intro K hK
  simp -implicitDefEqProofs (disch := first | decide | assumption | omega) only [go_sem, RdS.len hdX sl22, RdS.idx hdX sl22, R1.intB hdX (Ext.pres eB), RdS.cells hdX, RdS.len hmX sl23, RdS.idx hmX sl23, RdS.cellB hmX (Ext.pres eB), RdS.cells hmX, RdS.len hdY sl22, RdS.idx hdY sl22, R1.intB hdY (Ext.pres eB), RdS.cells hdY, RdS.len hmY sl23, RdS.idx hmY sl23, RdS.cellB hmY (Ext.pres eB), RdS.cells hmY, RdS.len (OS.rd how4_2_0) sl22, RdS.idx (OS.rd how4_2_0) sl22, R1.intN (OS.rd how4_2_0), RdS.cells (OS.rd how4_2_0), BoxAt.cell hb0_0, BoxAt.cell hb0_1, wrap_id]
  try simp -implicitDefEqProofs (disch := first | decide | assumption | omega) only [go_sem, RdS.len hdX sl22, RdS.idx hdX sl22, R1.intB hdX (Ext.pres eB), RdS.cells hdX, RdS.len hmX sl23, RdS.idx hmX sl23, RdS.cellB hmX (Ext.pres eB), RdS.cells hmX, RdS.len hdY sl22, RdS.idx hdY sl22, R1.intB hdY (Ext.pres eB), RdS.cells hdY, RdS.len hmY sl23, RdS.idx hmY sl23, RdS.cellB hmY (Ext.pres eB), RdS.cells hmY, RdS.len (OS.rd how4_2_0) sl22, RdS.idx (OS.rd how4_2_0) sl22, R1.intN (OS.rd how4_2_0), RdS.cells (OS.rd how4_2_0), BoxAt.cell hb0_0, BoxAt.cell hb0_1, wrap_id]
  refine CallA.mono (sFits_ok _ (tdP X Y) _ (OS.rd how4_2_0) ) ?_
  intro v_ h5_1
  rintro ⟨rfl, e5_1⟩
  replace how4_2_0 := OS.ext how4_2_0 e5_1
  replace hb0_0 := BoxAt.ext hb0_0 e5_1
  replace hb0_1 := BoxAt.ext hb0_1 e5_1
  have := Ext.size e5_1
  replace eB := Ext.trans eB e5_1
  try simp -implicitDefEqProofs (disch := first | decide | assumption | omega) only [go_sem, RdS.len hdX sl22, RdS.idx hdX sl22, R1.intB hdX (Ext.pres eB), RdS.cells hdX, RdS.len hmX sl23, RdS.idx hmX sl23, RdS.cellB hmX (Ext.pres eB), RdS.cells hmX, RdS.len hdY sl22, RdS.idx hdY sl22, R1.intB hdY (Ext.pres eB), RdS.cells hdY, RdS.len hmY sl23, RdS.idx hmY sl23, RdS.cellB hmY (Ext.pres eB), RdS.cells hmY, RdS.len (OS.rd how4_2_0) sl22, RdS.idx (OS.rd how4_2_0) sl22, R1.intN (OS.rd how4_2_0), RdS.cells (OS.rd how4_2_0), BoxAt.cell hb0_0, BoxAt.cell hb0_1, wrap_id]
  refine hK _ _ ?_
  clear hK K
  refine den_cond rfl (fun c1 => ?_) (fun c1 => ?_)
  ·try simp only [decide_eq_true_eq, decide_eq_false_iff_not, beq_iff_eq, beq_eq_false_iff_ne, bne_iff_ne, ne_eq, Bool.not_eq_true', Bool.not_eq_false', Bool.and_eq_true, Bool.or_eq_true, bne_eq_false_iff_eq] at c1
   refine den_seq ?_
   refine den_region TTok ?_
   intro K hK
   simp -implicitDefEqProofs (disch := first | decide | assumption | omega) only [go_sem, RdS.len hdX sl22, RdS.idx hdX sl22, R1.intB hdX (Ext.pres eB), RdS.cells hdX, RdS.len hmX sl23, RdS.idx hmX sl23, RdS.cellB hmX (Ext.pres eB), RdS.cells hmX, RdS.len hdY sl22, RdS.idx hdY sl22, R1.intB hdY (Ext.pres eB), RdS.cells hdY, RdS.len hmY sl23, RdS.idx hmY sl23, RdS.cellB hmY (Ext.pres eB), RdS.cells hmY, wrap_id]
   refine hK _ _ ?_
   clear hK K
   refine den_ret ?_
   simp (disch := decide) only [resP_2, puts_same, puts_ne]
   have hz : swP X Y = ([], 3) := by rw [swP, if_pos c0, if_neg (by simpa using c1)]
   rw [hz]
   exact ⟨.slice none 0 0, [], rfl, OS.nil, Fresh.nil _, eB⟩
  ·try simp only [decide_eq_true_eq, decide_eq_false_iff_not, beq_iff_eq, beq_eq_false_iff_ne, bne_iff_ne, ne_eq, Bool.not_eq_true', Bool.not_eq_false', Bool.and_eq_true, Bool.or_eq_true, bne_eq_false_iff_eq] at c1
   have hft : fitP (tdP X Y) = true := by simpa using c1
   have hfl := fit_len hft
   refine den_skip ?_
   refine den_seq ?_
   refine den_region TTok ?_
   intro K hK
   simp -implicitDefEqProofs (disch := first | decide | assumption | omega) only [go_sem, RdS.len hdX sl22, RdS.idx hdX sl22, R1.intB hdX (Ext.pres eB), RdS.cells hdX, RdS.len hmX sl23, RdS.idx hmX sl23, RdS.cellB hmX (Ext.pres eB), RdS.cells hmX, RdS.len hdY sl22, RdS.idx hdY sl22, R1.intB hdY (Ext.pres eB), RdS.cells hdY, RdS.len hmY sl23, RdS.idx hmY sl23, RdS.cellB hmY (Ext.pres eB), RdS.cells hmY, RdS.len (OS.rd how4_2_0) sl22, RdS.idx (OS.rd how4_2_0) sl22, R1.intN (OS.rd how4_2_0), RdS.cells (OS.rd how4_2_0), BoxAt.cell hb0_0, BoxAt.cell hb0_1, wrap_id]
   refine op_bs0 sz23 O2 ?_
   intro v7_0 h7_0 ho7_0 e7_0
   replace how4_2_0 := OS.ext how4_2_0 e7_0
   replace hb0_0 := BoxAt.ext hb0_0 e7_0
   replace hb0_1 := BoxAt.ext hb0_1 e7_0
   have := Ext.size e7_0
   replace eB := Ext.trans eB e7_0
   have hfho7_0 : Fresh h5_1.size [h5_1.size] := Fresh.one _
   have hlho7_0 := OS.lt ho7_0
   try simp -implicitDefEqProofs (disch := first | decide | assumption | omega) only [go_sem, RdS.len hdX sl22, RdS.idx hdX sl22, R1.intB hdX (Ext.pres eB), RdS.cells hdX, RdS.len hmX sl23, RdS.idx hmX sl23, RdS.cellB hmX (Ext.pres eB), RdS.cells hmX, RdS.len hdY sl22, RdS.idx hdY sl22, R1.intB hdY (Ext.pres eB), RdS.cells hdY, RdS.len hmY sl23, RdS.idx hmY sl23, RdS.cellB hmY (Ext.pres eB), RdS.cells hmY, RdS.len (OS.rd how4_2_0) sl22, RdS.idx (OS.rd how4_2_0) sl22, R1.intN (OS.rd how4_2_0), RdS.cells (OS.rd how4_2_0), RdS.len (OS.rd ho7_0) sl23, RdS.idx (OS.rd ho7_0) sl23, RdS.cellN (OS.rd ho7_0), RdS.cells (OS.rd ho7_0), BoxAt.cell hb0_0, BoxAt.cell hb0_1, wrap_id]
   refine hK _ _ ?_
   clear hK K
   refine den_seq ?_
   refine den_seq ?_
   refine den_region TTok ?_
   intro K hK
   simp -implicitDefEqProofs (disch := first | decide | assumption | omega) only [go_sem, RdS.len hdX sl22, RdS.idx hdX sl22, R1.intB hdX (Ext.pres eB), RdS.cells hdX, RdS.len hmX sl23, RdS.idx hmX sl23, RdS.cellB hmX (Ext.pres eB), RdS.cells hmX, RdS.len hdY sl22, RdS.idx hdY sl22, R1.intB hdY (Ext.pres eB), RdS.cells hdY, RdS.len hmY sl23, RdS.idx hmY sl23, RdS.cellB hmY (Ext.pres eB), RdS.cells hmY, RdS.len (OS.rd how4_2_0) sl22, RdS.idx (OS.rd how4_2_0) sl22, R1.intN (OS.rd how4_2_0), RdS.cells (OS.rd how4_2_0), RdS.len (OS.rd ho7_0) sl23, RdS.idx (OS.rd ho7_0) sl23, RdS.cellN (OS.rd ho7_0), RdS.cells (OS.rd ho7_0), BoxAt.cell hb0_0, BoxAt.cell hb0_1, wrap_id]
   refine hK _ _ ?_
   clear hK K
   refine den_block ?_
   refine den_sel [8, 9, 2, 3, 7] ?_
   intro env_1
   simp only [go_sem]
   refine den_loopS (σ := Nat × Value × List Nat) (fun st_ => [(8, st_.2.1), (9, .int .i64 (st_.1 : Int))]) (fun st_ H => (st_.1 ≤ (tdP X Y).length) ∧ (O3 H st_.2.1 ((List.range st_.1).map fun q : Nat => pRows X Y (swRow X Y) q) st_.2.2) ∧ (Fresh (h5_1.size) st_.2.2) ∧ (Sub [h5_1.size] h7_0.size st_.2.2) ∧ (Chg [h5_1.size] h7_0 H)) (fun st_ => (tdP X Y).length - st_.1) (0, v7_0, [h5_1.size]) ?_ ?_
   ·exact ⟨by first | (simp; done) | (dsimp only; omega) | (simp; omega), by simpa using ho7_0, hfho7_0, Sub.refl, Chg.refl _ _⟩
   ·rintro ⟨n, vhO, fphO⟩ h4 ee3 ⟨hi0, hO, hfhO, sbhO, cL2⟩
    dsimp only at hi0 hO hfhO sbhO cL2
    replace how4_2_0 := OS.chg how4_2_0 cL2 (apart_lt hlhow4_2_0 hfho7_0 (by omega))
    replace hb0_0 := BoxAt.chgA hb0_0 cL2 (apart_lt hlhb0_0 hfho7_0 (by omega))
    replace hb0_1 := BoxAt.chgA hb0_1 cL2 (apart_lt hlhb0_1 hfho7_0 (by omega))
    have := cL2.size
    replace eB := Ext.then eB cL2 (ge_of hfho7_0 (by omega))
    have hlhO := OS.lt hO
    simp only [List.cons_append, List.nil_append]
    refine den_seq ?_
    refine den_seq ?_
    refine den_region TTok ?_
    intro K hK
    simp -implicitDefEqProofs (disch := first | decide | assumption | omega) only [go_sem, RdS.len hdX sl22, RdS.idx hdX sl22, R1.intB hdX (Ext.pres eB), RdS.cells hdX, RdS.len hmX sl23, RdS.idx hmX sl23, RdS.cellB hmX (Ext.pres eB), RdS.cells hmX, RdS.len hdY sl22, RdS.idx hdY sl22, R1.intB hdY (Ext.pres eB), RdS.cells hdY, RdS.len hmY sl23, RdS.idx hmY sl23, RdS.cellB hmY (Ext.pres eB), RdS.cells hmY, RdS.len (OS.rd how4_2_0) sl22, RdS.idx (OS.rd how4_2_0) sl22, R1.intN (OS.rd how4_2_0), RdS.cells (OS.rd how4_2_0), RdS.len (OS.rd hO) sl23, RdS.idx (OS.rd hO) sl23, RdS.cellN (OS.rd hO), RdS.cells (OS.rd hO), BoxAt.cell hb0_0, BoxAt.cell hb0_1, wrap_id]
    refine hK _ _ ?_
    clear hK K
    refine den_cond rfl (fun c2 => ?_) (fun c2 => ?_)
    ·try simp only [decide_eq_true_eq, decide_eq_false_iff_not, beq_iff_eq, beq_eq_false_iff_ne, bne_iff_ne, ne_eq, Bool.not_eq_true', Bool.not_eq_false', Bool.and_eq_true, Bool.or_eq_true, bne_eq_false_iff_eq] at c2
     refine den_skip ?_
     refine den_seq ?_
     refine den_block ?_
     refine den_seq ?_
     refine den_region TTok ?_
     intro K hK
     simp -implicitDefEqProofs (disch := first | decide | assumption | omega) only [go_sem, RdS.len hdX sl22, RdS.idx hdX sl22, R1.intB hdX (Ext.pres eB), RdS.cells hdX, RdS.len hmX sl23, RdS.idx hmX sl23, RdS.cellB hmX (Ext.pres eB), RdS.cells hmX, RdS.len hdY sl22, RdS.idx hdY sl22, R1.intB hdY (Ext.pres eB), RdS.cells hdY, RdS.len hmY sl23, RdS.idx hmY sl23, RdS.cellB hmY (Ext.pres eB), RdS.cells hmY, RdS.len (OS.rd how4_2_0) sl22, RdS.idx (OS.rd how4_2_0) sl22, R1.intN (OS.rd how4_2_0), RdS.cells (OS.rd how4_2_0), RdS.len (OS.rd hO) sl23, RdS.idx (OS.rd hO) sl23, RdS.cellN (OS.rd hO), RdS.cells (OS.rd hO), BoxAt.cell hb0_0, BoxAt.cell hb0_1, wrap_id]
     refine op_bs0 sz56 O1 ?_
     intro v11_0 h11_0 ho11_0 e11_0
     replace how4_2_0 := OS.ext how4_2_0 e11_0
     replace hO := OS.ext hO e11_0
     replace hb0_0 := BoxAt.ext hb0_0 e11_0
     replace hb0_1 := BoxAt.ext hb0_1 e11_0
     have := Ext.size e11_0
     replace eB := Ext.trans eB e11_0
     replace cL2 := Chg.stepE cL2 e11_0
     have hfho11_0 : Fresh h4.size [h4.size] := Fresh.one _
     have hlho11_0 := OS.lt ho11_0
     try simp -implicitDefEqProofs (disch := first | decide | assumption | omega) only [go_sem, RdS.len hdX sl22, RdS.idx hdX sl22, R1.intB hdX (Ext.pres eB), RdS.cells hdX, RdS.len hmX sl23, RdS.idx hmX sl23, RdS.cellB hmX (Ext.pres eB), RdS.cells hmX, RdS.len hdY sl22, RdS.idx hdY sl22, R1.intB hdY (Ext.pres eB), RdS.cells hdY, RdS.len hmY sl23, RdS.idx hmY sl23, RdS.cellB hmY (Ext.pres eB), RdS.cells hmY, RdS.len (OS.rd how4_2_0) sl22, RdS.idx (OS.rd how4_2_0) sl22, R1.intN (OS.rd how4_2_0), RdS.cells (OS.rd how4_2_0), RdS.len (OS.rd hO) sl23, RdS.idx (OS.rd hO) sl23, RdS.cellN (OS.rd hO), RdS.cells (OS.rd hO), RdS.len (OS.rd ho11_0) sl56, RdS.idx (OS.rd ho11_0) sl56, RdS.cellN (OS.rd ho11_0), RdS.cells (OS.rd ho11_0), BoxAt.cell hb0_0, BoxAt.cell hb0_1, wrap_id]
     refine hK _ _ ?_
     clear hK K
     refine den_seq ?_
     refine den_seq ?_
     refine den_region TTok ?_
     intro K hK
     simp -implicitDefEqProofs (disch := first | decide | assumption | omega) only [go_sem, RdS.len hdX sl22, RdS.idx hdX sl22, R1.intB hdX (Ext.pres eB), RdS.cells hdX, RdS.len hmX sl23, RdS.idx hmX sl23, RdS.cellB hmX (Ext.pres eB), RdS.cells hmX, RdS.len hdY sl22, RdS.idx hdY sl22, R1.intB hdY (Ext.pres eB), RdS.cells hdY, RdS.len hmY sl23, RdS.idx hmY sl23, RdS.cellB hmY (Ext.pres eB), RdS.cells hmY, RdS.len (OS.rd how4_2_0) sl22, RdS.idx (OS.rd how4_2_0) sl22, R1.intN (OS.rd how4_2_0), RdS.cells (OS.rd how4_2_0), RdS.len (OS.rd hO) sl23, RdS.idx (OS.rd hO) sl23, RdS.cellN (OS.rd hO), RdS.cells (OS.rd hO), RdS.len (OS.rd ho11_0) sl56, RdS.idx (OS.rd ho11_0) sl56, RdS.cellN (OS.rd ho11_0), RdS.cells (OS.rd ho11_0), BoxAt.cell hb0_0, BoxAt.cell hb0_1, wrap_id]
     refine hK _ _ ?_
     clear hK K
     refine den_block ?_
     refine den_sel [10, 11, 2, 3, 7, 8, 9] ?_
     intro env_5
     simp only [go_sem]
     refine den_loopS (σ := Nat × Value × List Nat) (fun st_ => [(10, st_.2.1), (11, .int .i64 (st_.1 : Int))]) (fun st_ H => (st_.1 ≤ n + 1) ∧ (O2 H st_.2.1 ((List.range (sumP X Y n st_.1).toNat).map fun r : Nat => pRow X Y (swRow X Y) n r) st_.2.2) ∧ (Fresh (h4.size) st_.2.2) ∧ (Sub [h4.size] h11_0.size st_.2.2) ∧ (Chg [h4.size] h11_0 H)) (fun st_ => n + 1 - st_.1) (0, v11_0, [h4.size]) ?_ ?_
     ·exact ⟨by first | (simp; done) | (dsimp only; omega) | (simp; omega), by rw [sumP]; exact ho11_0, hfho11_0, Sub.refl, Chg.refl _ _⟩
     ·rintro ⟨i, vhR, fphR⟩ h8 ee7 ⟨hi0, hR, hfhR, sbhR, cL6⟩
      dsimp only at hi0 hR hfhR sbhR cL6
      replace how4_2_0 := OS.chg how4_2_0 cL6 (apart_lt hlhow4_2_0 hfho11_0 (by omega))
      replace hO := OS.chg hO cL6 (apart_lt hlhO hfho11_0 (by omega))
      replace hb0_0 := BoxAt.chgA hb0_0 cL6 (apart_lt hlhb0_0 hfho11_0 (by omega))
      replace hb0_1 := BoxAt.chgA hb0_1 cL6 (apart_lt hlhb0_1 hfho11_0 (by omega))
      have := cL6.size
      replace eB := Ext.then eB cL6 (ge_of hfho11_0 (by omega))
      replace cL2 := Chg.step cL2 cL6 (Sub.fresh hfho11_0 (by omega))
      have hlhR := OS.lt hR
      simp only [List.cons_append, List.nil_append]
      refine den_seq ?_
      refine den_seq ?_
      refine den_region TTok ?_
      intro K hK
      simp -implicitDefEqProofs (disch := first | decide | assumption | omega) only [go_sem, RdS.len hdX sl22, RdS.idx hdX sl22, R1.intB hdX (Ext.pres eB), RdS.cells hdX, RdS.len hmX sl23, RdS.idx hmX sl23, RdS.cellB hmX (Ext.pres eB), RdS.cells hmX, RdS.len hdY sl22, RdS.idx hdY sl22, R1.intB hdY (Ext.pres eB), RdS.cells hdY, RdS.len hmY sl23, RdS.idx hmY sl23, RdS.cellB hmY (Ext.pres eB), RdS.cells hmY, RdS.len (OS.rd how4_2_0) sl22, RdS.idx (OS.rd how4_2_0) sl22, R1.intN (OS.rd how4_2_0), RdS.cells (OS.rd how4_2_0), RdS.len (OS.rd hO) sl23, RdS.idx (OS.rd hO) sl23, RdS.cellN (OS.rd hO), RdS.cells (OS.rd hO), RdS.len (OS.rd hR) sl56, RdS.idx (OS.rd hR) sl56, RdS.cellN (OS.rd hR), RdS.cells (OS.rd hR), BoxAt.cell hb0_0, BoxAt.cell hb0_1, wrap_id]
      refine hK _ _ ?_
      clear hK K
      refine den_cond rfl (fun c3 => ?_) (fun c3 => ?_)
      ·try simp only [decide_eq_true_eq, decide_eq_false_iff_not, beq_iff_eq, beq_eq_false_iff_ne, bne_iff_ne, ne_eq, Bool.not_eq_true', Bool.not_eq_false', Bool.and_eq_true, Bool.or_eq_true, bne_eq_false_iff_eq] at c3
       refine den_skip ?_
       refine den_seq ?_
       refine den_block ?_
       refine den_seq ?_
       refine den_region TTok ?_
       intro K hK
       simp -implicitDefEqProofs (disch := first | decide | assumption | omega) only [go_sem, RdS.len hdX sl22, RdS.idx hdX sl22, R1.intB hdX (Ext.pres eB), RdS.cells hdX, RdS.len hmX sl23, RdS.idx hmX sl23, RdS.cellB hmX (Ext.pres eB), RdS.cells hmX, RdS.len hdY sl22, RdS.idx hdY sl22, R1.intB hdY (Ext.pres eB), RdS.cells hdY, RdS.len hmY sl23, RdS.idx hmY sl23, RdS.cellB hmY (Ext.pres eB), RdS.cells hmY, RdS.len (OS.rd how4_2_0) sl22, RdS.idx (OS.rd how4_2_0) sl22, R1.intN (OS.rd how4_2_0), RdS.cells (OS.rd how4_2_0), RdS.len (OS.rd hO) sl23, RdS.idx (OS.rd hO) sl23, RdS.cellN (OS.rd hO), RdS.cells (OS.rd hO), RdS.len (OS.rd hR) sl56, RdS.idx (OS.rd hR) sl56, RdS.cellN (OS.rd hR), RdS.cells (OS.rd hR), BoxAt.cell hb0_0, BoxAt.cell hb0_1, wrap_id]
       refine hK _ _ ?_
       clear hK K
       refine den_block ?_
       refine den_sel [10, 12, 2, 3, 7, 8, 9, 11] ?_
       intro env_9
       simp only [go_sem]
       refine den_loopS (σ := Nat × Value × List Nat) (fun st_ => [(10, st_.2.1), (12, .int .i64 (st_.1 : Int))]) (fun st_ H => ((st_.1 : Int) ≤ dimP X i) ∧ (O2 H st_.2.1 ((List.range (placeP X Y i st_.1 ((n : Int) - i) 0).toNat).map fun r : Nat => pRow X Y (swRow X Y) n r) st_.2.2) ∧ (Fresh (h4.size) st_.2.2) ∧ (Sub fphR h8.size st_.2.2) ∧ (Chg fphR h8 H)) (fun st_ => (dimP X i).toNat - st_.1) (0, vhR, fphR) ?_ ?_
       ·exact ⟨by have := dimP_bnd hX (i : Int); omega, by rw [show placeP X Y i ((0 : Nat) : Int) ((n : Int) - i) 0 = sumP X Y n i by have h := (place_next X Y i 0 ((n : Int) - i) 0 (by omega)).2.2.1; rw [show (i : Int) + ((n : Int) - i) = n by omega, Int.toNat_natCast] at h; exact h]; exact hR, hfhR, Sub.refl, Chg.refl _ _⟩
       ·rintro ⟨a, vhA, fphA⟩ h12 ee11 ⟨hi0, hA, hfhA, sbhA, cL10⟩
        dsimp only at hi0 hA hfhA sbhA cL10
        replace how4_2_0 := OS.chg how4_2_0 cL10 (apart_lt hlhow4_2_0 hfhR (by omega))
        replace hO := OS.chg hO cL10 (apart_lt hlhO hfhR (by omega))
        replace hb0_0 := BoxAt.chgA hb0_0 cL10 (apart_lt hlhb0_0 hfhR (by omega))
        replace hb0_1 := BoxAt.chgA hb0_1 cL10 (apart_lt hlhb0_1 hfhR (by omega))
        have := cL10.size
        replace eB := Ext.then eB cL10 (ge_of hfhR (by omega))
        replace cL2 := Chg.step cL2 cL10 (Sub.fresh hfhR (by omega))
        replace cL6 := Chg.step cL6 cL10 sbhR
        have sb13 : Sub [h4.size] h11_0.size fphA := Sub.trans sbhA sbhR (by omega)
        have hlhA := OS.lt hA
        simp only [List.cons_append, List.nil_append]
        refine den_seq ?_
        refine den_seq ?_
        have hbX := dimP_bnd hX (i : Int)
        refine den_region TTok ?_
        intro K hK
        simp -implicitDefEqProofs (disch := first | decide | assumption | omega) only [go_sem, ld30, RdS.len hdX sl22, RdS.idx hdX sl22, R1.intB hdX (Ext.pres eB), RdS.cells hdX, RdS.len hmX sl23, RdS.idx hmX sl23, RdS.cellB hmX (Ext.pres eB), RdS.cells hmX, RdS.len hdY sl22, RdS.idx hdY sl22, R1.intB hdY (Ext.pres eB), RdS.cells hdY, RdS.len hmY sl23, RdS.idx hmY sl23, RdS.cellB hmY (Ext.pres eB), RdS.cells hmY, RdS.len (OS.rd how4_2_0) sl22, RdS.idx (OS.rd how4_2_0) sl22, R1.intN (OS.rd how4_2_0), RdS.cells (OS.rd how4_2_0), RdS.len (OS.rd hO) sl23, RdS.idx (OS.rd hO) sl23, RdS.cellN (OS.rd hO), RdS.cells (OS.rd hO), RdS.len (OS.rd hA) sl56, RdS.idx (OS.rd hA) sl56, RdS.cellN (OS.rd hA), RdS.cells (OS.rd hA), BoxAt.cell hb0_0, BoxAt.cell hb0_1, wrap_id]
        try simp -implicitDefEqProofs (disch := first | decide | assumption | omega) only [go_sem, RdS.len hdX sl22, RdS.idx hdX sl22, R1.intB hdX (Ext.pres eB), RdS.cells hdX, RdS.len hmX sl23, RdS.idx hmX sl23, RdS.cellB hmX (Ext.pres eB), RdS.cells hmX, RdS.len hdY sl22, RdS.idx hdY sl22, R1.intB hdY (Ext.pres eB), RdS.cells hdY, RdS.len hmY sl23, RdS.idx hmY sl23, RdS.cellB hmY (Ext.pres eB), RdS.cells hmY, RdS.len (OS.rd how4_2_0) sl22, RdS.idx (OS.rd how4_2_0) sl22, R1.intN (OS.rd how4_2_0), RdS.cells (OS.rd how4_2_0), RdS.len (OS.rd hO) sl23, RdS.idx (OS.rd hO) sl23, RdS.cellN (OS.rd hO), RdS.cells (OS.rd hO), RdS.len (OS.rd hA) sl56, RdS.idx (OS.rd hA) sl56, RdS.cellN (OS.rd hA), RdS.cells (OS.rd hA), BoxAt.cell hb0_0, BoxAt.cell hb0_1, wrap_id]
        refine CallA.mono (sDim_ok _ X _ _ ⟨_, _, rfl, (RdS.pres hdX (Ext.pres eB)), (RdS.pres hmX (Ext.pres eB))⟩) ?_
        intro v_ h16_3
        rintro ⟨rfl, e16_3⟩
        replace how4_2_0 := OS.ext how4_2_0 e16_3
        replace hO := OS.ext hO e16_3
        replace hA := OS.ext hA e16_3
        replace hb0_0 := BoxAt.ext hb0_0 e16_3
        replace hb0_1 := BoxAt.ext hb0_1 e16_3
        have := Ext.size e16_3
        replace eB := Ext.trans eB e16_3
        replace cL2 := Chg.stepE cL2 e16_3
        replace cL6 := Chg.stepE cL6 e16_3
        replace cL10 := Chg.stepE cL10 e16_3
        try simp -implicitDefEqProofs (disch := first | decide | assumption | omega) only [go_sem, RdS.len hdX sl22, RdS.idx hdX sl22, R1.intB hdX (Ext.pres eB), RdS.cells hdX, RdS.len hmX sl23, RdS.idx hmX sl23, RdS.cellB hmX (Ext.pres eB), RdS.cells hmX, RdS.len hdY sl22, RdS.idx hdY sl22, R1.intB hdY (Ext.pres eB), RdS.cells hdY, RdS.len hmY sl23, RdS.idx hmY sl23, RdS.cellB hmY (Ext.pres eB), RdS.cells hmY, RdS.len (OS.rd how4_2_0) sl22, RdS.idx (OS.rd how4_2_0) sl22, R1.intN (OS.rd how4_2_0), RdS.cells (OS.rd how4_2_0), RdS.len (OS.rd hO) sl23, RdS.idx (OS.rd hO) sl23, RdS.cellN (OS.rd hO), RdS.cells (OS.rd hO), RdS.len (OS.rd hA) sl56, RdS.idx (OS.rd hA) sl56, RdS.cellN (OS.rd hA), RdS.cells (OS.rd hA), BoxAt.cell hb0_0, BoxAt.cell hb0_1, wrap_id]
        refine hK _ _ ?_
        clear hK K
        refine den_cond rfl (fun c4 => ?_) (fun c4 => ?_)
        ·try simp only [decide_eq_true_eq, decide_eq_false_iff_not, beq_iff_eq, beq_eq_false_iff_ne, bne_iff_ne, ne_eq, Bool.not_eq_true', Bool.not_eq_false', Bool.and_eq_true, Bool.or_eq_true, bne_eq_false_iff_eq] at c4
         refine den_skip ?_
         refine den_seq ?_
         refine den_block ?_
         refine den_seq ?_
         refine den_region TTok ?_
         intro K hK
         simp -implicitDefEqProofs (disch := first | decide | assumption | omega) only [go_sem, RdS.len hdX sl22, RdS.idx hdX sl22, R1.intB hdX (Ext.pres eB), RdS.cells hdX, RdS.len hmX sl23, RdS.idx hmX sl23, RdS.cellB hmX (Ext.pres eB), RdS.cells hmX, RdS.len hdY sl22, RdS.idx hdY sl22, R1.intB hdY (Ext.pres eB), RdS.cells hdY, RdS.len hmY sl23, RdS.idx hmY sl23, RdS.cellB hmY (Ext.pres eB), RdS.cells hmY, RdS.len (OS.rd how4_2_0) sl22, RdS.idx (OS.rd how4_2_0) sl22, R1.intN (OS.rd how4_2_0), RdS.cells (OS.rd how4_2_0), RdS.len (OS.rd hO) sl23, RdS.idx (OS.rd hO) sl23, RdS.cellN (OS.rd hO), RdS.cells (OS.rd hO), RdS.len (OS.rd hA) sl56, RdS.idx (OS.rd hA) sl56, RdS.cellN (OS.rd hA), RdS.cells (OS.rd hA), BoxAt.cell hb0_0, BoxAt.cell hb0_1, wrap_id]
         refine hK _ _ ?_
         clear hK K
         refine den_block ?_
         refine den_sel [10, 13, 2, 3, 7, 8, 9, 11, 12] ?_
         intro env_14
         simp only [go_sem]
         refine den_loopS (σ := Nat × Value × List Nat) (fun st_ => [(10, st_.2.1), (13, .int .i64 (st_.1 : Int))]) (fun st_ H => ((st_.1 : Int) ≤ dimP Y ((n : Int) - i)) ∧ (O2 H st_.2.1 ((List.range (placeP X Y i a ((n : Int) - i) st_.1).toNat).map fun r : Nat => pRow X Y (swRow X Y) n r) st_.2.2) ∧ (Fresh (h4.size) st_.2.2) ∧ (Sub fphA h16_3.size st_.2.2) ∧ (Chg fphA h16_3 H)) (fun st_ => (dimP Y ((n : Int) - i)).toNat - st_.1) (0, vhA, fphA) ?_ ?_
         ·exact ⟨by have := dimP_bnd hY ((n : Int) - i); omega, by exact hA, hfhA, Sub.refl, Chg.refl _ _⟩
         ·rintro ⟨b, vhB, fphB⟩ h17 ee16 ⟨hi0, hB, hfhB, sbhB, cL15⟩
          dsimp only at hi0 hB hfhB sbhB cL15
          replace how4_2_0 := OS.chg how4_2_0 cL15 (apart_lt hlhow4_2_0 hfhA (by omega))
          replace hO := OS.chg hO cL15 (apart_lt hlhO hfhA (by omega))
          replace hb0_0 := BoxAt.chgA hb0_0 cL15 (apart_lt hlhb0_0 hfhA (by omega))
          replace hb0_1 := BoxAt.chgA hb0_1 cL15 (apart_lt hlhb0_1 hfhA (by omega))
          have := cL15.size
          replace eB := Ext.then eB cL15 (ge_of hfhA (by omega))
          replace cL2 := Chg.step cL2 cL15 (Sub.fresh hfhA (by omega))
          replace cL6 := Chg.step cL6 cL15 sb13
          replace cL10 := Chg.step cL10 cL15 sbhA
          have sb18 : Sub [h4.size] h11_0.size fphB := Sub.trans sbhB sb13 (by omega)
          have sb19 : Sub fphR h8.size fphB := Sub.trans sbhB sbhA (by omega)
          have hlhB := OS.lt hB
          simp only [List.cons_append, List.nil_append]
          refine den_seq ?_
          refine den_seq ?_
          have hbY := dimP_bnd hY ((n : Int) - i)
          refine den_region TTok ?_
          intro K hK
          simp -implicitDefEqProofs (disch := first | decide | assumption | omega) only [go_sem, ld30, RdS.len hdX sl22, RdS.idx hdX sl22, R1.intB hdX (Ext.pres eB), RdS.cells hdX, RdS.len hmX sl23, RdS.idx hmX sl23, RdS.cellB hmX (Ext.pres eB), RdS.cells hmX, RdS.len hdY sl22, RdS.idx hdY sl22, R1.intB hdY (Ext.pres eB), RdS.cells hdY, RdS.len hmY sl23, RdS.idx hmY sl23, RdS.cellB hmY (Ext.pres eB), RdS.cells hmY, RdS.len (OS.rd how4_2_0) sl22, RdS.idx (OS.rd how4_2_0) sl22, R1.intN (OS.rd how4_2_0), RdS.cells (OS.rd how4_2_0), RdS.len (OS.rd hO) sl23, RdS.idx (OS.rd hO) sl23, RdS.cellN (OS.rd hO), RdS.cells (OS.rd hO), RdS.len (OS.rd hB) sl56, RdS.idx (OS.rd hB) sl56, RdS.cellN (OS.rd hB), RdS.cells (OS.rd hB), BoxAt.cell hb0_0, BoxAt.cell hb0_1, wrap_id]
          try simp -implicitDefEqProofs (disch := first | decide | assumption | omega) only [go_sem, RdS.len hdX sl22, RdS.idx hdX sl22, R1.intB hdX (Ext.pres eB), RdS.cells hdX, RdS.len hmX sl23, RdS.idx hmX sl23, RdS.cellB hmX (Ext.pres eB), RdS.cells hmX, RdS.len hdY sl22, RdS.idx hdY sl22, R1.intB hdY (Ext.pres eB), RdS.cells hdY, RdS.len hmY sl23, RdS.idx hmY sl23, RdS.cellB hmY (Ext.pres eB), RdS.cells hmY, RdS.len (OS.rd how4_2_0) sl22, RdS.idx (OS.rd how4_2_0) sl22, R1.intN (OS.rd how4_2_0), RdS.cells (OS.rd how4_2_0), RdS.len (OS.rd hO) sl23, RdS.idx (OS.rd hO) sl23, RdS.cellN (OS.rd hO), RdS.cells (OS.rd hO), RdS.len (OS.rd hB) sl56, RdS.idx (OS.rd hB) sl56, RdS.cellN (OS.rd hB), RdS.cells (OS.rd hB), BoxAt.cell hb0_0, BoxAt.cell hb0_1, wrap_id]
          refine CallA.mono (sDim_ok _ Y _ _ ⟨_, _, rfl, (RdS.pres hdY (Ext.pres eB)), (RdS.pres hmY (Ext.pres eB))⟩) ?_
          intro v_ h19_5
          rintro ⟨rfl, e19_5⟩
          replace how4_2_0 := OS.ext how4_2_0 e19_5
          replace hO := OS.ext hO e19_5
          replace hB := OS.ext hB e19_5
          replace hb0_0 := BoxAt.ext hb0_0 e19_5
          replace hb0_1 := BoxAt.ext hb0_1 e19_5
          have := Ext.size e19_5
          replace eB := Ext.trans eB e19_5
          replace cL2 := Chg.stepE cL2 e19_5
          replace cL6 := Chg.stepE cL6 e19_5
          replace cL10 := Chg.stepE cL10 e19_5
          replace cL15 := Chg.stepE cL15 e19_5
          try simp -implicitDefEqProofs (disch := first | decide | assumption | omega) only [go_sem, RdS.len hdX sl22, RdS.idx hdX sl22, R1.intB hdX (Ext.pres eB), RdS.cells hdX, RdS.len hmX sl23, RdS.idx hmX sl23, RdS.cellB hmX (Ext.pres eB), RdS.cells hmX, RdS.len hdY sl22, RdS.idx hdY sl22, R1.intB hdY (Ext.pres eB), RdS.cells hdY, RdS.len hmY sl23, RdS.idx hmY sl23, RdS.cellB hmY (Ext.pres eB), RdS.cells hmY, RdS.len (OS.rd how4_2_0) sl22, RdS.idx (OS.rd how4_2_0) sl22, R1.intN (OS.rd how4_2_0), RdS.cells (OS.rd how4_2_0), RdS.len (OS.rd hO) sl23, RdS.idx (OS.rd hO) sl23, RdS.cellN (OS.rd hO), RdS.cells (OS.rd hO), RdS.len (OS.rd hB) sl56, RdS.idx (OS.rd hB) sl56, RdS.cellN (OS.rd hB), RdS.cells (OS.rd hB), BoxAt.cell hb0_0, BoxAt.cell hb0_1, wrap_id]
          refine hK _ _ ?_
          clear hK K
          refine den_cond rfl (fun c5 => ?_) (fun c5 => ?_)
          ·try simp only [decide_eq_true_eq, decide_eq_false_iff_not, beq_iff_eq, beq_eq_false_iff_ne, bne_iff_ne, ne_eq, Bool.not_eq_true', Bool.not_eq_false', Bool.and_eq_true, Bool.or_eq_true, bne_eq_false_iff_eq] at c5
           refine den_skip ?_
           refine den_seq ?_
           refine den_block ?_
           refine den_seq ?_
           have hps := pair_pos (X := X) (Y := Y) (n := n) (i := i) (a := a) (b := b) (by omega) (by omega)
           have htb := tdP_bnd hX hY (n := n) (by omega)
           refine den_region TTok ?_
           intro K hK
           simp -implicitDefEqProofs (disch := first | decide | assumption | omega) only [go_sem, ld2, RdS.len hdX sl22, RdS.idx hdX sl22, R1.intB hdX (Ext.pres eB), RdS.cells hdX, RdS.len hmX sl23, RdS.idx hmX sl23, RdS.cellB hmX (Ext.pres eB), RdS.cells hmX, RdS.len hdY sl22, RdS.idx hdY sl22, R1.intB hdY (Ext.pres eB), RdS.cells hdY, RdS.len hmY sl23, RdS.idx hmY sl23, RdS.cellB hmY (Ext.pres eB), RdS.cells hmY, RdS.len (OS.rd how4_2_0) sl22, RdS.idx (OS.rd how4_2_0) sl22, R1.intN (OS.rd how4_2_0), RdS.cells (OS.rd how4_2_0), RdS.len (OS.rd hO) sl23, RdS.idx (OS.rd hO) sl23, RdS.cellN (OS.rd hO), RdS.cells (OS.rd hO), RdS.len (OS.rd hB) sl56, RdS.idx (OS.rd hB) sl56, RdS.cellN (OS.rd hB), RdS.cells (OS.rd hB), BoxAt.cell hb0_0, BoxAt.cell hb0_1, wrap_id]
           refine op_make sz22 rfl rfl (by omega) (by omega) OI 0 (fun _ => ⟨rfl, rfl⟩) ?_
           intro v21_4 h21_4 ho21_4 e21_4
           replace how4_2_0 := OS.ext how4_2_0 e21_4
           replace hO := OS.ext hO e21_4
           replace hB := OS.ext hB e21_4
           replace hb0_0 := BoxAt.ext hb0_0 e21_4
           replace hb0_1 := BoxAt.ext hb0_1 e21_4
           have := Ext.size e21_4
           replace eB := Ext.trans eB e21_4
           replace cL2 := Chg.stepE cL2 e21_4
           replace cL6 := Chg.stepE cL6 e21_4
           replace cL10 := Chg.stepE cL10 e21_4
           replace cL15 := Chg.stepE cL15 e21_4
           have hfho21_4 : Fresh h19_5.size [h19_5.size] := Fresh.one _
           have hlenho21_4 : (List.replicate (((tdP X Y).getD n 0)).toNat (0 : Int)).length = (((tdP X Y).getD n 0)).toNat := List.length_replicate
           have hlho21_4 := OS.lt ho21_4
           try simp -implicitDefEqProofs (disch := first | decide | assumption | omega) only [go_sem, RdS.len hdX sl22, RdS.idx hdX sl22, R1.intB hdX (Ext.pres eB), RdS.cells hdX, RdS.len hmX sl23, RdS.idx hmX sl23, RdS.cellB hmX (Ext.pres eB), RdS.cells hmX, RdS.len hdY sl22, RdS.idx hdY sl22, R1.intB hdY (Ext.pres eB), RdS.cells hdY, RdS.len hmY sl23, RdS.idx hmY sl23, RdS.cellB hmY (Ext.pres eB), RdS.cells hmY, RdS.len (OS.rd how4_2_0) sl22, RdS.idx (OS.rd how4_2_0) sl22, R1.intN (OS.rd how4_2_0), RdS.cells (OS.rd how4_2_0), RdS.len (OS.rd hO) sl23, RdS.idx (OS.rd hO) sl23, RdS.cellN (OS.rd hO), RdS.cells (OS.rd hO), RdS.len (OS.rd hB) sl56, RdS.idx (OS.rd hB) sl56, RdS.cellN (OS.rd hB), RdS.cells (OS.rd hB), RdS.len (OS.rd ho21_4) sl22, RdS.idx (OS.rd ho21_4) sl22, R1.intN (OS.rd ho21_4), RdS.cells (OS.rd ho21_4), BoxAt.cell hb0_0, BoxAt.cell hb0_1, wrap_id]
           refine hK _ _ ?_
           clear hK K
           refine den_seq ?_
           have hrl : (List.replicate ((tdP X Y).getD n 0).toNat (0 : Int)).length = ((tdP X Y).getD n 0).toNat := List.length_replicate
           have hpl := place_lt hY hX (i := (n : Int) - i) (j := i) (a := b) (b := a) (by omega) (by omega) (by omega) (by omega)
           rw [show ((n : Int) - i + i).toNat = n by omega, tdP_comm X Y (by omega)] at hpl
           have hmij := mul64 (x := (i : Int)) (y := (n : Int) - (i : Int)) (by omega) (by omega)
           have htm := tmod_in (p := 2) (x := (i : Int) * ((n : Int) - (i : Int))) (by decide)
           have htn := Int.tmod_nonneg 2 hmij.1
           refine den_draw TTok mixed [22] [(0, true), (1, true), (2, true), (3, true), (4, true), (5, true), (6, true), (7, true), (8, true), (10, true), (11, true), (12, true), (13, true), (14, true), (15, true), (16, true), (17, true), (18, true), (19, true), (9, false), (20, false), (21, true), (22, false)] (by kernel_rfl) ?_
           intro K hK
           simp -implicitDefEqProofs (disch := first | decide | assumption | omega) only [go_sem, fa30_0, ld2, ld30, RdS.len hdX sl22, RdS.idx hdX sl22, R1.intB hdX (Ext.pres eB), RdS.cells hdX, RdS.len hmX sl23, RdS.idx hmX sl23, RdS.cellB hmX (Ext.pres eB), RdS.cells hmX, RdS.len hdY sl22, RdS.idx hdY sl22, R1.intB hdY (Ext.pres eB), RdS.cells hdY, RdS.len hmY sl23, RdS.idx hmY sl23, RdS.cellB hmY (Ext.pres eB), RdS.cells hmY, RdS.len (OS.rd how4_2_0) sl22, RdS.idx (OS.rd how4_2_0) sl22, R1.intN (OS.rd how4_2_0), RdS.cells (OS.rd how4_2_0), RdS.len (OS.rd hO) sl23, RdS.idx (OS.rd hO) sl23, RdS.cellN (OS.rd hO), RdS.cells (OS.rd hO), RdS.len (OS.rd hB) sl56, RdS.idx (OS.rd hB) sl56, RdS.cellN (OS.rd hB), RdS.cells (OS.rd hB), RdS.len (OS.rd ho21_4) sl22, RdS.idx (OS.rd ho21_4) sl22, R1.intN (OS.rd ho21_4), RdS.cells (OS.rd ho21_4), BoxAt.cell hb0_0, BoxAt.cell hb0_1, wrap_id]
           try simp -implicitDefEqProofs (disch := first | decide | assumption | omega) only [go_sem, RdS.len hdX sl22, RdS.idx hdX sl22, R1.intB hdX (Ext.pres eB), RdS.cells hdX, RdS.len hmX sl23, RdS.idx hmX sl23, RdS.cellB hmX (Ext.pres eB), RdS.cells hmX, RdS.len hdY sl22, RdS.idx hdY sl22, R1.intB hdY (Ext.pres eB), RdS.cells hdY, RdS.len hmY sl23, RdS.idx hmY sl23, RdS.cellB hmY (Ext.pres eB), RdS.cells hmY, RdS.len (OS.rd how4_2_0) sl22, RdS.idx (OS.rd how4_2_0) sl22, R1.intN (OS.rd how4_2_0), RdS.cells (OS.rd how4_2_0), RdS.len (OS.rd hO) sl23, RdS.idx (OS.rd hO) sl23, RdS.cellN (OS.rd hO), RdS.cells (OS.rd hO), RdS.len (OS.rd hB) sl56, RdS.idx (OS.rd hB) sl56, RdS.cellN (OS.rd hB), RdS.cells (OS.rd hB), RdS.len (OS.rd ho21_4) sl22, RdS.idx (OS.rd ho21_4) sl22, R1.intN (OS.rd ho21_4), RdS.cells (OS.rd ho21_4), BoxAt.cell hb0_0, BoxAt.cell hb0_1, wrap_id]
           refine CallA.mono (sPlace_ok _ _ Y X _ _ _ _ _ ⟨_, _, rfl, (RdS.pres hdY (Ext.pres eB)), (RdS.pres hmY (Ext.pres eB))⟩ ⟨_, _, rfl, (RdS.pres hdX (Ext.pres eB)), (RdS.pres hmX (Ext.pres eB))⟩ hY hX (by omega) (by omega) (by omega) (by omega)) ?_
           intro v_ h22_9
           rintro ⟨rfl, e22_9⟩
           replace how4_2_0 := OS.ext how4_2_0 e22_9
           replace hO := OS.ext hO e22_9
           replace hB := OS.ext hB e22_9
           replace ho21_4 := OS.ext ho21_4 e22_9
           replace hb0_0 := BoxAt.ext hb0_0 e22_9
           replace hb0_1 := BoxAt.ext hb0_1 e22_9
           have := Ext.size e22_9
           replace eB := Ext.trans eB e22_9
           replace cL2 := Chg.stepE cL2 e22_9
           replace cL6 := Chg.stepE cL6 e22_9
           replace cL10 := Chg.stepE cL10 e22_9
           replace cL15 := Chg.stepE cL15 e22_9
           try simp (disch := decide) only [outv_some, outv_none, put_puts]
           refine plK_pres (Ext.pres e22_9) ?_
           try simp -implicitDefEqProofs (disch := first | decide | assumption | omega) only [go_sem, RdS.len hdX sl22, RdS.idx hdX sl22, R1.intB hdX (Ext.pres eB), RdS.cells hdX, RdS.len hmX sl23, RdS.idx hmX sl23, RdS.cellB hmX (Ext.pres eB), RdS.cells hmX, RdS.len hdY sl22, RdS.idx hdY sl22, R1.intB hdY (Ext.pres eB), RdS.cells hdY, RdS.len hmY sl23, RdS.idx hmY sl23, RdS.cellB hmY (Ext.pres eB), RdS.cells hmY, RdS.len (OS.rd how4_2_0) sl22, RdS.idx (OS.rd how4_2_0) sl22, R1.intN (OS.rd how4_2_0), RdS.cells (OS.rd how4_2_0), RdS.len (OS.rd hO) sl23, RdS.idx (OS.rd hO) sl23, RdS.cellN (OS.rd hO), RdS.cells (OS.rd hO), RdS.len (OS.rd hB) sl56, RdS.idx (OS.rd hB) sl56, RdS.cellN (OS.rd hB), RdS.cells (OS.rd hB), RdS.len (OS.rd ho21_4) sl22, RdS.idx (OS.rd ho21_4) sl22, R1.intN (OS.rd ho21_4), RdS.cells (OS.rd ho21_4), BoxAt.cell hb0_0, BoxAt.cell hb0_1, wrap_id]
           try simp -implicitDefEqProofs (disch := first | decide | assumption | omega) only [go_sem, RdS.len hdX sl22, RdS.idx hdX sl22, R1.intB hdX (Ext.pres eB), RdS.cells hdX, RdS.len hmX sl23, RdS.idx hmX sl23, RdS.cellB hmX (Ext.pres eB), RdS.cells hmX, RdS.len hdY sl22, RdS.idx hdY sl22, R1.intB hdY (Ext.pres eB), RdS.cells hdY, RdS.len hmY sl23, RdS.idx hmY sl23, RdS.cellB hmY (Ext.pres eB), RdS.cells hmY, RdS.len (OS.rd how4_2_0) sl22, RdS.idx (OS.rd how4_2_0) sl22, R1.intN (OS.rd how4_2_0), RdS.cells (OS.rd how4_2_0), RdS.len (OS.rd hO) sl23, RdS.idx (OS.rd hO) sl23, RdS.cellN (OS.rd hO), RdS.cells (OS.rd hO), RdS.len (OS.rd hB) sl56, RdS.idx (OS.rd hB) sl56, RdS.cellN (OS.rd hB), RdS.cells (OS.rd hB), RdS.len (OS.rd ho21_4) sl22, RdS.idx (OS.rd ho21_4) sl22, R1.intN (OS.rd ho21_4), RdS.cells (OS.rd ho21_4), BoxAt.cell hb0_0, BoxAt.cell hb0_1, wrap_id]
           refine CallA.mono (sMod_ok  X.p ((1 : Int) - ((2 : Int) * (Int.tmod ((i : Int) * ((n : Int) - (i : Int))) (2 : Int)))) _  (by omega) (by omega)) ?_
           intro v_ h22_20
           rintro ⟨rfl, e22_20⟩
           replace how4_2_0 := OS.ext how4_2_0 e22_20
           replace hO := OS.ext hO e22_20
           replace hB := OS.ext hB e22_20
           replace ho21_4 := OS.ext ho21_4 e22_20
           replace hb0_0 := BoxAt.ext hb0_0 e22_20
           replace hb0_1 := BoxAt.ext hb0_1 e22_20
           have := Ext.size e22_20
           replace eB := Ext.trans eB e22_20
           replace cL2 := Chg.stepE cL2 e22_20
           replace cL6 := Chg.stepE cL6 e22_20
           replace cL10 := Chg.stepE cL10 e22_20
           replace cL15 := Chg.stepE cL15 e22_20
           try simp (disch := decide) only [outv_some, outv_none, put_puts]
           refine plK_pres (Ext.pres e22_20) ?_
           try simp -implicitDefEqProofs (disch := first | decide | assumption | omega) only [go_sem, RdS.len hdX sl22, RdS.idx hdX sl22, R1.intB hdX (Ext.pres eB), RdS.cells hdX, RdS.len hmX sl23, RdS.idx hmX sl23, RdS.cellB hmX (Ext.pres eB), RdS.cells hmX, RdS.len hdY sl22, RdS.idx hdY sl22, R1.intB hdY (Ext.pres eB), RdS.cells hdY, RdS.len hmY sl23, RdS.idx hmY sl23, RdS.cellB hmY (Ext.pres eB), RdS.cells hmY, RdS.len (OS.rd how4_2_0) sl22, RdS.idx (OS.rd how4_2_0) sl22, R1.intN (OS.rd how4_2_0), RdS.cells (OS.rd how4_2_0), RdS.len (OS.rd hO) sl23, RdS.idx (OS.rd hO) sl23, RdS.cellN (OS.rd hO), RdS.cells (OS.rd hO), RdS.len (OS.rd hB) sl56, RdS.idx (OS.rd hB) sl56, RdS.cellN (OS.rd hB), RdS.cells (OS.rd hB), RdS.len (OS.rd ho21_4) sl22, RdS.idx (OS.rd ho21_4) sl22, R1.intN (OS.rd ho21_4), RdS.cells (OS.rd ho21_4), BoxAt.cell hb0_0, BoxAt.cell hb0_1, wrap_id]
           refine op_store1 (j := ((placeP Y X ((n : Int) - (i : Int)) (b : Int) (i : Int) (a : Int))).toNat) st2 ho21_4 hfho21_4.nodup (by first | omega | (simp; omega)) rfl rfl ?_
           intro h22_22 ho22_22 c22_22
           have hsz22_22 := c22_22.size
           replace how4_2_0 := OS.chg how4_2_0 c22_22 (apart_lt hlhow4_2_0 hfho21_4 (by omega))
           replace hO := OS.chg hO c22_22 (apart_lt hlhO hfho21_4 (by omega))
           replace hB := OS.chg hB c22_22 (apart_lt hlhB hfho21_4 (by omega))
           replace hb0_0 := BoxAt.chgA hb0_0 c22_22 (apart_lt hlhb0_0 hfho21_4 (by omega))
           replace hb0_1 := BoxAt.chgA hb0_1 c22_22 (apart_lt hlhb0_1 hfho21_4 (by omega))
           have := c22_22.size
           replace eB := Ext.then eB c22_22 (ge_of hfho21_4 (by omega))
           replace cL2 := Chg.step cL2 c22_22 (Sub.fresh hfho21_4 (by omega))
           replace cL6 := Chg.step cL6 c22_22 (Sub.fresh hfho21_4 (by omega))
           replace cL10 := Chg.step cL10 c22_22 (Sub.fresh hfho21_4 (by omega))
           replace cL15 := Chg.step cL15 c22_22 (Sub.fresh hfho21_4 (by omega))
           have hlho22_22 := hlho21_4
           have hlenho22_22 : ((List.replicate (((tdP X Y).getD n 0)).toNat 0).set (((placeP Y X ((n : Int) - (i : Int)) (b : Int) (i : Int) (a : Int))).toNat) (((1 : Int) - ((2 : Int) * (Int.tmod ((i : Int) * ((n : Int) - (i : Int))) (2 : Int)))) % X.p) : List Int).length = (List.replicate (((tdP X Y).getD n 0)).toNat 0 : List Int).length := List.length_set
           try simp (disch := decide) only [outv_some, outv_none, put_puts]
           refine plK_last (by decide) ?_
           try simp -implicitDefEqProofs (disch := first | decide | assumption | omega) only [go_sem, RdS.len hdX sl22, RdS.idx hdX sl22, R1.intB hdX (Ext.pres eB), RdS.cells hdX, RdS.len hmX sl23, RdS.idx hmX sl23, RdS.cellB hmX (Ext.pres eB), RdS.cells hmX, RdS.len hdY sl22, RdS.idx hdY sl22, R1.intB hdY (Ext.pres eB), RdS.cells hdY, RdS.len hmY sl23, RdS.idx hmY sl23, RdS.cellB hmY (Ext.pres eB), RdS.cells hmY, RdS.len (OS.rd how4_2_0) sl22, RdS.idx (OS.rd how4_2_0) sl22, R1.intN (OS.rd how4_2_0), RdS.cells (OS.rd how4_2_0), RdS.len (OS.rd hO) sl23, RdS.idx (OS.rd hO) sl23, RdS.cellN (OS.rd hO), RdS.cells (OS.rd hO), RdS.len (OS.rd hB) sl56, RdS.idx (OS.rd hB) sl56, RdS.cellN (OS.rd hB), RdS.cells (OS.rd hB), RdS.len (OS.rd ho22_22) sl22, RdS.idx (OS.rd ho22_22) sl22, R1.intN (OS.rd ho22_22), RdS.cells (OS.rd ho22_22), BoxAt.cell hb0_0, BoxAt.cell hb0_1, wrap_id]
           refine hK _ _ ?_
           clear hK K
           have hpl2 := place_lt hX hY (i := i) (j := (n : Int) - i) (a := a) (b := b) (by omega) (by omega) (by omega) (by omega)
           rw [show ((i : Int) + ((n : Int) - i)).toNat = n by omega] at hpl2
           have hlt : ((List.range (placeP X Y i a ((n : Int) - i) b).toNat).map fun r : Nat => pRow X Y (swRow X Y) n r).length ≤ 704 := by rw [List.length_map, List.length_range]; omega
           refine den_region TTok ?_
           intro K hK
           simp -implicitDefEqProofs (disch := first | decide | assumption | omega) only [go_sem, RdS.len hdX sl22, RdS.idx hdX sl22, R1.intB hdX (Ext.pres eB), RdS.cells hdX, RdS.len hmX sl23, RdS.idx hmX sl23, RdS.cellB hmX (Ext.pres eB), RdS.cells hmX, RdS.len hdY sl22, RdS.idx hdY sl22, R1.intB hdY (Ext.pres eB), RdS.cells hdY, RdS.len hmY sl23, RdS.idx hmY sl23, RdS.cellB hmY (Ext.pres eB), RdS.cells hmY, RdS.len (OS.rd how4_2_0) sl22, RdS.idx (OS.rd how4_2_0) sl22, R1.intN (OS.rd how4_2_0), RdS.cells (OS.rd how4_2_0), RdS.len (OS.rd hO) sl23, RdS.idx (OS.rd hO) sl23, RdS.cellN (OS.rd hO), RdS.cells (OS.rd hO), RdS.len (OS.rd hB) sl56, RdS.idx (OS.rd hB) sl56, RdS.cellN (OS.rd hB), RdS.cells (OS.rd hB), RdS.len (OS.rd ho22_22) sl22, RdS.idx (OS.rd ho22_22) sl22, R1.intN (OS.rd ho22_22), RdS.cells (OS.rd ho22_22), BoxAt.cell hb0_0, BoxAt.cell hb0_1, wrap_id]
           refine op_bs1 sz56 rfl (OS.one ho22_22).2 ?_
           try simp -implicitDefEqProofs (disch := first | decide | assumption | omega) only [go_sem, RdS.len hdX sl22, RdS.idx hdX sl22, R1.intB hdX (Ext.pres eB), RdS.cells hdX, RdS.len hmX sl23, RdS.idx hmX sl23, RdS.cellB hmX (Ext.pres eB), RdS.cells hmX, RdS.len hdY sl22, RdS.idx hdY sl22, R1.intB hdY (Ext.pres eB), RdS.cells hdY, RdS.len hmY sl23, RdS.idx hmY sl23, RdS.cellB hmY (Ext.pres eB), RdS.cells hmY, RdS.len (OS.rd how4_2_0) sl22, RdS.idx (OS.rd how4_2_0) sl22, R1.intN (OS.rd how4_2_0), RdS.cells (OS.rd how4_2_0), RdS.len (OS.rd hO) sl23, RdS.idx (OS.rd hO) sl23, RdS.cellN (OS.rd hO), RdS.cells (OS.rd hO), RdS.len (OS.rd hB) sl56, RdS.idx (OS.rd hB) sl56, RdS.cellN (OS.rd hB), RdS.cells (OS.rd hB), RdS.len (OS.rd ho22_22) sl22, RdS.idx (OS.rd ho22_22) sl22, R1.intN (OS.rd ho22_22), RdS.cells (OS.rd ho22_22), BoxAt.cell hb0_0, BoxAt.cell hb0_1, wrap_id]
           refine op_append1 sz56 hB hfhB.nodup ho22_22 hfho21_4.nodup (apart_lt hlhB hfho21_4 (by omega)) (by first | omega | (simp; omega)) rfl rfl ?_
           intro v23_3 h23_3 fp23_3 ho23_3 hn23_3 hs23_3 c23_3
           have hsz23_3 := c23_3.size
           have hfho23_3 : Fresh h4.size fp23_3 := Fresh.appd hfhB hfho21_4 (by omega) (by omega) hn23_3 hs23_3
           have sb20 : Sub [h4.size] h11_0.size fp23_3 := Sub.grow sb18 (Sub.fresh hfho21_4 (by omega)) (by omega) hs23_3
           have sb21 : Sub fphR h8.size fp23_3 := Sub.grow sb19 (Sub.fresh hfho21_4 (by omega)) (by omega) hs23_3
           have sb22 : Sub fphA h16_3.size fp23_3 := Sub.grow sbhB (Sub.fresh hfho21_4 (by omega)) (by omega) hs23_3
           replace how4_2_0 := OS.chg how4_2_0 c23_3 (apart_lt hlhow4_2_0 hfhB (by omega))
           replace hO := OS.chg hO c23_3 (apart_lt hlhO hfhB (by omega))
           replace hb0_0 := BoxAt.chgA hb0_0 c23_3 (apart_lt hlhb0_0 hfhB (by omega))
           replace hb0_1 := BoxAt.chgA hb0_1 c23_3 (apart_lt hlhb0_1 hfhB (by omega))
           have := c23_3.size
           replace eB := Ext.then eB c23_3 (ge_of hfhB (by omega))
           replace cL2 := Chg.step cL2 c23_3 (Sub.fresh hfhB (by omega))
           replace cL6 := Chg.step cL6 c23_3 sb18
           replace cL10 := Chg.step cL10 c23_3 sb19
           replace cL15 := Chg.step cL15 c23_3 sbhB
           have hlho23_3 := OS.lt ho23_3
           try simp -implicitDefEqProofs (disch := first | decide | assumption | omega) only [go_sem, RdS.len hdX sl22, RdS.idx hdX sl22, R1.intB hdX (Ext.pres eB), RdS.cells hdX, RdS.len hmX sl23, RdS.idx hmX sl23, RdS.cellB hmX (Ext.pres eB), RdS.cells hmX, RdS.len hdY sl22, RdS.idx hdY sl22, R1.intB hdY (Ext.pres eB), RdS.cells hdY, RdS.len hmY sl23, RdS.idx hmY sl23, RdS.cellB hmY (Ext.pres eB), RdS.cells hmY, RdS.len (OS.rd how4_2_0) sl22, RdS.idx (OS.rd how4_2_0) sl22, R1.intN (OS.rd how4_2_0), RdS.cells (OS.rd how4_2_0), RdS.len (OS.rd hO) sl23, RdS.idx (OS.rd hO) sl23, RdS.cellN (OS.rd hO), RdS.cells (OS.rd hO), RdS.len (OS.rd ho23_3) sl56, RdS.idx (OS.rd ho23_3) sl56, RdS.cellN (OS.rd ho23_3), RdS.cells (OS.rd ho23_3), BoxAt.cell hb0_0, BoxAt.cell hb0_1, wrap_id]
           refine hK _ _ ?_
           clear hK K
           refine den_blk ?_
           refine den_region TTok ?_
           intro K hK
           simp -implicitDefEqProofs (disch := first | decide | assumption | omega) only [go_sem, RdS.len hdX sl22, RdS.idx hdX sl22, R1.intB hdX (Ext.pres eB), RdS.cells hdX, RdS.len hmX sl23, RdS.idx hmX sl23, RdS.cellB hmX (Ext.pres eB), RdS.cells hmX, RdS.len hdY sl22, RdS.idx hdY sl22, R1.intB hdY (Ext.pres eB), RdS.cells hdY, RdS.len hmY sl23, RdS.idx hmY sl23, RdS.cellB hmY (Ext.pres eB), RdS.cells hmY, RdS.len (OS.rd how4_2_0) sl22, RdS.idx (OS.rd how4_2_0) sl22, R1.intN (OS.rd how4_2_0), RdS.cells (OS.rd how4_2_0), RdS.len (OS.rd hO) sl23, RdS.idx (OS.rd hO) sl23, RdS.cellN (OS.rd hO), RdS.cells (OS.rd hO), RdS.len (OS.rd ho23_3) sl56, RdS.idx (OS.rd ho23_3) sl56, RdS.cellN (OS.rd ho23_3), RdS.cells (OS.rd ho23_3), BoxAt.cell hb0_0, BoxAt.cell hb0_1, wrap_id]
           refine hK _ _ ?_
           clear hK K
           refine den_stop ?_
           rw [sw_row hps.1, pRow_step (F := swRow X Y) hX hY hps.1 (by omega) (by omega)] at ho23_3
           exact ⟨(b + 1, v23_3, fp23_3), by simp [HasL, puts_at], ⟨by first | omega | (dsimp only; omega), ho23_3, hfho23_3, sb22, cL15⟩, by first | omega | (dsimp only; omega)⟩
          ·try simp only [decide_eq_true_eq, decide_eq_false_iff_not, beq_iff_eq, beq_eq_false_iff_ne, bne_iff_ne, ne_eq, Bool.not_eq_true', Bool.not_eq_false', Bool.and_eq_true, Bool.or_eq_true, bne_eq_false_iff_eq] at c5
           refine den_exit ?_
           refine denX_code ?_
           refine denX_stop ?_
           refine denX_hit ?_
           refine den_blk ?_
           refine den_region TTok ?_
           intro K hK
           simp -implicitDefEqProofs (disch := first | decide | assumption | omega) only [go_sem, RdS.len hdX sl22, RdS.idx hdX sl22, R1.intB hdX (Ext.pres eB), RdS.cells hdX, RdS.len hmX sl23, RdS.idx hmX sl23, RdS.cellB hmX (Ext.pres eB), RdS.cells hmX, RdS.len hdY sl22, RdS.idx hdY sl22, R1.intB hdY (Ext.pres eB), RdS.cells hdY, RdS.len hmY sl23, RdS.idx hmY sl23, RdS.cellB hmY (Ext.pres eB), RdS.cells hmY, RdS.len (OS.rd how4_2_0) sl22, RdS.idx (OS.rd how4_2_0) sl22, R1.intN (OS.rd how4_2_0), RdS.cells (OS.rd how4_2_0), RdS.len (OS.rd hO) sl23, RdS.idx (OS.rd hO) sl23, RdS.cellN (OS.rd hO), RdS.cells (OS.rd hO), RdS.len (OS.rd hB) sl56, RdS.idx (OS.rd hB) sl56, RdS.cellN (OS.rd hB), RdS.cells (OS.rd hB), BoxAt.cell hb0_0, BoxAt.cell hb0_1, wrap_id]
           refine hK _ _ ?_
           clear hK K
           refine den_stop ?_
           rw [show placeP X Y i a ((n : Int) - i) b = placeP X Y i ((a + 1 : Nat) : Int) ((n : Int) - i) 0 by rw [show (b : Int) = dimP Y ((n : Int) - i) by omega]; exact (place_next X Y i a ((n : Int) - i) 0 (by omega)).1] at hB
           exact ⟨(a + 1, vhB, fphB), by simp [HasL, puts_at], ⟨by first | omega | (dsimp only; omega), hB, hfhB, sb19, cL10⟩, by first | omega | (dsimp only; omega)⟩
        ·try simp only [decide_eq_true_eq, decide_eq_false_iff_not, beq_iff_eq, beq_eq_false_iff_ne, bne_iff_ne, ne_eq, Bool.not_eq_true', Bool.not_eq_false', Bool.and_eq_true, Bool.or_eq_true, bne_eq_false_iff_eq] at c4
         refine den_exit ?_
         refine denX_code ?_
         refine denX_stop ?_
         refine denX_hit ?_
         refine den_blk ?_
         refine den_region TTok ?_
         intro K hK
         simp -implicitDefEqProofs (disch := first | decide | assumption | omega) only [go_sem, RdS.len hdX sl22, RdS.idx hdX sl22, R1.intB hdX (Ext.pres eB), RdS.cells hdX, RdS.len hmX sl23, RdS.idx hmX sl23, RdS.cellB hmX (Ext.pres eB), RdS.cells hmX, RdS.len hdY sl22, RdS.idx hdY sl22, R1.intB hdY (Ext.pres eB), RdS.cells hdY, RdS.len hmY sl23, RdS.idx hmY sl23, RdS.cellB hmY (Ext.pres eB), RdS.cells hmY, RdS.len (OS.rd how4_2_0) sl22, RdS.idx (OS.rd how4_2_0) sl22, R1.intN (OS.rd how4_2_0), RdS.cells (OS.rd how4_2_0), RdS.len (OS.rd hO) sl23, RdS.idx (OS.rd hO) sl23, RdS.cellN (OS.rd hO), RdS.cells (OS.rd hO), RdS.len (OS.rd hA) sl56, RdS.idx (OS.rd hA) sl56, RdS.cellN (OS.rd hA), RdS.cells (OS.rd hA), BoxAt.cell hb0_0, BoxAt.cell hb0_1, wrap_id]
         refine hK _ _ ?_
         clear hK K
         refine den_stop ?_
         rw [show placeP X Y i a ((n : Int) - i) 0 = sumP X Y n (i + 1) by have h := (place_next X Y i 0 ((n : Int) - i) 0 (by omega)).2.2.2; rw [show (a : Int) = dimP X i by omega, h, show (i : Int) + ((n : Int) - i) = n by omega, Int.toNat_natCast]] at hA
         exact ⟨(i + 1, vhA, fphA), by simp [HasL, puts_at], ⟨by first | omega | (dsimp only; omega), hA, hfhA, sb13, cL6⟩, by first | omega | (dsimp only; omega)⟩
      ·try simp only [decide_eq_true_eq, decide_eq_false_iff_not, beq_iff_eq, beq_eq_false_iff_ne, bne_iff_ne, ne_eq, Bool.not_eq_true', Bool.not_eq_false', Bool.and_eq_true, Bool.or_eq_true, bne_eq_false_iff_eq] at c3
       refine den_exit ?_
       refine denX_code ?_
       refine denX_stop ?_
       refine denX_hit ?_
       have hlo : ((List.range n).map fun q : Nat => pRows X Y (swRow X Y) q).length = n := by simp
       refine den_region TTok ?_
       intro K hK
       simp -implicitDefEqProofs (disch := first | decide | assumption | omega) only [go_sem, RdS.len hdX sl22, RdS.idx hdX sl22, R1.intB hdX (Ext.pres eB), RdS.cells hdX, RdS.len hmX sl23, RdS.idx hmX sl23, RdS.cellB hmX (Ext.pres eB), RdS.cells hmX, RdS.len hdY sl22, RdS.idx hdY sl22, R1.intB hdY (Ext.pres eB), RdS.cells hdY, RdS.len hmY sl23, RdS.idx hmY sl23, RdS.cellB hmY (Ext.pres eB), RdS.cells hmY, RdS.len (OS.rd how4_2_0) sl22, RdS.idx (OS.rd how4_2_0) sl22, R1.intN (OS.rd how4_2_0), RdS.cells (OS.rd how4_2_0), RdS.len (OS.rd hO) sl23, RdS.idx (OS.rd hO) sl23, RdS.cellN (OS.rd hO), RdS.cells (OS.rd hO), RdS.len (OS.rd hR) sl56, RdS.idx (OS.rd hR) sl56, RdS.cellN (OS.rd hR), RdS.cells (OS.rd hR), BoxAt.cell hb0_0, BoxAt.cell hb0_1, wrap_id]
       refine op_bs1 sz23 rfl (OS.one hR).2 ?_
       try simp -implicitDefEqProofs (disch := first | decide | assumption | omega) only [go_sem, RdS.len hdX sl22, RdS.idx hdX sl22, R1.intB hdX (Ext.pres eB), RdS.cells hdX, RdS.len hmX sl23, RdS.idx hmX sl23, RdS.cellB hmX (Ext.pres eB), RdS.cells hmX, RdS.len hdY sl22, RdS.idx hdY sl22, R1.intB hdY (Ext.pres eB), RdS.cells hdY, RdS.len hmY sl23, RdS.idx hmY sl23, RdS.cellB hmY (Ext.pres eB), RdS.cells hmY, RdS.len (OS.rd how4_2_0) sl22, RdS.idx (OS.rd how4_2_0) sl22, R1.intN (OS.rd how4_2_0), RdS.cells (OS.rd how4_2_0), RdS.len (OS.rd hO) sl23, RdS.idx (OS.rd hO) sl23, RdS.cellN (OS.rd hO), RdS.cells (OS.rd hO), RdS.len (OS.rd hR) sl56, RdS.idx (OS.rd hR) sl56, RdS.cellN (OS.rd hR), RdS.cells (OS.rd hR), BoxAt.cell hb0_0, BoxAt.cell hb0_1, wrap_id]
       refine op_append1 sz23 hO hfhO.nodup hR hfhR.nodup (apart_lt hlhO hfhR (by omega)) (by first | omega | (simp; omega)) rfl rfl ?_
       intro v24_3 h24_3 fp24_3 ho24_3 hn24_3 hs24_3 c24_3
       have hsz24_3 := c24_3.size
       have hfho24_3 : Fresh h5_1.size fp24_3 := Fresh.appd hfhO hfhR (by omega) (by omega) hn24_3 hs24_3
       have sb23 : Sub [h5_1.size] h7_0.size fp24_3 := Sub.grow sbhO (Sub.fresh hfhR (by omega)) (by omega) hs24_3
       replace how4_2_0 := OS.chg how4_2_0 c24_3 (apart_lt hlhow4_2_0 hfhO (by omega))
       replace hb0_0 := BoxAt.chgA hb0_0 c24_3 (apart_lt hlhb0_0 hfhO (by omega))
       replace hb0_1 := BoxAt.chgA hb0_1 c24_3 (apart_lt hlhb0_1 hfhO (by omega))
       have := c24_3.size
       replace eB := Ext.then eB c24_3 (ge_of hfhO (by omega))
       replace cL2 := Chg.step cL2 c24_3 sbhO
       have hlho24_3 := OS.lt ho24_3
       try simp -implicitDefEqProofs (disch := first | decide | assumption | omega) only [go_sem, RdS.len hdX sl22, RdS.idx hdX sl22, R1.intB hdX (Ext.pres eB), RdS.cells hdX, RdS.len hmX sl23, RdS.idx hmX sl23, RdS.cellB hmX (Ext.pres eB), RdS.cells hmX, RdS.len hdY sl22, RdS.idx hdY sl22, R1.intB hdY (Ext.pres eB), RdS.cells hdY, RdS.len hmY sl23, RdS.idx hmY sl23, RdS.cellB hmY (Ext.pres eB), RdS.cells hmY, RdS.len (OS.rd how4_2_0) sl22, RdS.idx (OS.rd how4_2_0) sl22, R1.intN (OS.rd how4_2_0), RdS.cells (OS.rd how4_2_0), RdS.len (OS.rd ho24_3) sl23, RdS.idx (OS.rd ho24_3) sl23, RdS.cellN (OS.rd ho24_3), RdS.cells (OS.rd ho24_3), BoxAt.cell hb0_0, BoxAt.cell hb0_1, wrap_id]
       refine hK _ _ ?_
       clear hK K
       refine den_blk ?_
       refine den_region TTok ?_
       intro K hK
       simp -implicitDefEqProofs (disch := first | decide | assumption | omega) only [go_sem, RdS.len hdX sl22, RdS.idx hdX sl22, R1.intB hdX (Ext.pres eB), RdS.cells hdX, RdS.len hmX sl23, RdS.idx hmX sl23, RdS.cellB hmX (Ext.pres eB), RdS.cells hmX, RdS.len hdY sl22, RdS.idx hdY sl22, R1.intB hdY (Ext.pres eB), RdS.cells hdY, RdS.len hmY sl23, RdS.idx hmY sl23, RdS.cellB hmY (Ext.pres eB), RdS.cells hmY, RdS.len (OS.rd how4_2_0) sl22, RdS.idx (OS.rd how4_2_0) sl22, R1.intN (OS.rd how4_2_0), RdS.cells (OS.rd how4_2_0), RdS.len (OS.rd ho24_3) sl23, RdS.idx (OS.rd ho24_3) sl23, RdS.cellN (OS.rd ho24_3), RdS.cells (OS.rd ho24_3), BoxAt.cell hb0_0, BoxAt.cell hb0_1, wrap_id]
       refine hK _ _ ?_
       clear hK K
       refine den_stop ?_
       rw [pRows_all (.inr (by omega)), range_step (fun q : Nat => pRows X Y (swRow X Y) q)] at ho24_3
       exact ⟨(n + 1, v24_3, fp24_3), by simp [HasL, puts_at], ⟨by first | omega | (dsimp only; omega), ho24_3, hfho24_3, sb23, cL2⟩, by first | omega | (dsimp only; omega)⟩
    ·try simp only [decide_eq_true_eq, decide_eq_false_iff_not, beq_iff_eq, beq_eq_false_iff_ne, bne_iff_ne, ne_eq, Bool.not_eq_true', Bool.not_eq_false', Bool.and_eq_true, Bool.or_eq_true, bne_eq_false_iff_eq] at c2
     refine den_exit ?_
     refine denX_code ?_
     refine denX_stop ?_
     refine denX_hit ?_
     refine den_seq ?_
     refine den_region TTok ?_
     intro K hK
     simp -implicitDefEqProofs (disch := first | decide | assumption | omega) only [go_sem, RdS.len hdX sl22, RdS.idx hdX sl22, R1.intB hdX (Ext.pres eB), RdS.cells hdX, RdS.len hmX sl23, RdS.idx hmX sl23, RdS.cellB hmX (Ext.pres eB), RdS.cells hmX, RdS.len hdY sl22, RdS.idx hdY sl22, R1.intB hdY (Ext.pres eB), RdS.cells hdY, RdS.len hmY sl23, RdS.idx hmY sl23, RdS.cellB hmY (Ext.pres eB), RdS.cells hmY, RdS.len (OS.rd hO) sl23, RdS.idx (OS.rd hO) sl23, RdS.cellN (OS.rd hO), RdS.cells (OS.rd hO), wrap_id]
     refine hK _ _ ?_
     clear hK K
     refine den_ret ?_
     simp (disch := decide) only [resP_2, puts_same, puts_ne]
     have hz : swP X Y = (pfam X Y (swRow X Y), 0) := by rw [swP, if_pos c0, if_pos hft]
     rw [hz]
     rw [show n = X.dims.length + Y.dims.length - 1 by omega] at hO
     exact ⟨_, _, rfl, hO, hfhO.mono (by omega), eB⟩

set_option maxRecDepth 100000 in
theorem iSw_ok (vX vY : Value) (X : Cx) (Y : Cx) (h : Heap) (rX : RC h vX X) (rY : RC h vY Y)  : CallA Try.prog 42 #[vX, vY] h fun v' h' => ∃ w0 f0, v' = .tuple #[w0, .int .i64 ((swP X Y).2)] ∧ O3 h' w0 ((swP X Y).1) f0 ∧ Fresh h.size f0 ∧ Ext h h' := by
 obtain ⟨vdX, vmX, rfl, hdX, hmX⟩ := rX
 have hledX := RdS.le hdX
 have hlemX := RdS.le hmX
 obtain ⟨vdY, vmY, rfl, hdY, hmY⟩ := rY
 have hledY := RdS.le hdY
 have hlemY := RdS.le hmY
 refine callA_intro TTok (args := [_, _]) Try.func42 (by kernel_rfl) rfl 29 rfl (by simp) [.tmp 4, .tmp 5] rfl ?_
 simp only [idxs, Nat.reduceAdd]
 refine den_seq ?_
 refine den_region TTok ?_
 intro K hK
 simp -implicitDefEqProofs (disch := first | decide | assumption | omega) only [go_sem, RdS.len hdX sl22, RdS.idx hdX sl22, R1.intB hdX (HPres.refl _), RdS.cells hdX, RdS.len hmX sl23, RdS.idx hmX sl23, RdS.cellB hmX (HPres.refl _), RdS.cells hmX, RdS.len hdY sl22, RdS.idx hdY sl22, R1.intB hdY (HPres.refl _), RdS.cells hdY, RdS.len hmY sl23, RdS.idx hmY sl23, RdS.cellB hmY (HPres.refl _), RdS.cells hmY, wrap_id]
 refine op_box (cs := #[.int .i64 (X.p), vdX, vmX]) rfl ?_
 intro h0_0 e0_0 hb0_0 z0_0
 have := Ext.size e0_0
 have eB := e0_0
 have hfhb0_0 : Fresh h.size [h.size] := Fresh.one _
 have hlhb0_0 := one_lt (show h.size < h0_0.size by omega)
 try simp -implicitDefEqProofs (disch := first | decide | assumption | omega) only [go_sem, RdS.len hdX sl22, RdS.idx hdX sl22, R1.intB hdX (Ext.pres eB), RdS.cells hdX, RdS.len hmX sl23, RdS.idx hmX sl23, RdS.cellB hmX (Ext.pres eB), RdS.cells hmX, RdS.len hdY sl22, RdS.idx hdY sl22, R1.intB hdY (Ext.pres eB), RdS.cells hdY, RdS.len hmY sl23, RdS.idx hmY sl23, RdS.cellB hmY (Ext.pres eB), RdS.cells hmY, BoxAt.cell hb0_0, wrap_id]
 refine op_box (cs := #[.int .i64 (Y.p), vdY, vmY]) rfl ?_
 intro h0_1 e0_1 hb0_1 z0_1
 replace hb0_0 := BoxAt.ext hb0_0 e0_1
 have := Ext.size e0_1
 replace eB := Ext.trans eB e0_1
 have hfhb0_1 : Fresh h0_0.size [h0_0.size] := Fresh.one _
 have hlhb0_1 := one_lt (show h0_0.size < h0_1.size by omega)
 try simp -implicitDefEqProofs (disch := first | decide | assumption | omega) only [go_sem, RdS.len hdX sl22, RdS.idx hdX sl22, R1.intB hdX (Ext.pres eB), RdS.cells hdX, RdS.len hmX sl23, RdS.idx hmX sl23, RdS.cellB hmX (Ext.pres eB), RdS.cells hmX, RdS.len hdY sl22, RdS.idx hdY sl22, R1.intB hdY (Ext.pres eB), RdS.cells hdY, RdS.len hmY sl23, RdS.idx hmY sl23, RdS.cellB hmY (Ext.pres eB), RdS.cells hmY, BoxAt.cell hb0_0, BoxAt.cell hb0_1, wrap_id]
 refine hK _ _ ?_
 clear hK K
 refine den_seq ?_
 refine den_seq ?_
 refine den_region TTok ?_
 intro K hK
 simp -implicitDefEqProofs (disch := first | decide | assumption | omega) only [go_sem, ld30, RdS.len hdX sl22, RdS.idx hdX sl22, R1.intB hdX (Ext.pres eB), RdS.cells hdX, RdS.len hmX sl23, RdS.idx hmX sl23, RdS.cellB hmX (Ext.pres eB), RdS.cells hmX, RdS.len hdY sl22, RdS.idx hdY sl22, R1.intB hdY (Ext.pres eB), RdS.cells hdY, RdS.len hmY sl23, RdS.idx hmY sl23, RdS.cellB hmY (Ext.pres eB), RdS.cells hmY, BoxAt.cell hb0_0, BoxAt.cell hb0_1, wrap_id]
 refine op_bs2C (X := X) (Y := Y) ⟨_, _, rfl, (RdS.pres hdX (Ext.pres eB)), (RdS.pres hmX (Ext.pres eB))⟩ ⟨_, _, rfl, (RdS.pres hdY (Ext.pres eB)), (RdS.pres hmY (Ext.pres eB))⟩ ?_
 intro v1_2 h1_2 ho1_2 e1_2
 replace hb0_0 := BoxAt.ext hb0_0 e1_2
 replace hb0_1 := BoxAt.ext hb0_1 e1_2
 have := Ext.size e1_2
 replace eB := Ext.trans eB e1_2
 try simp -implicitDefEqProofs (disch := first | decide | assumption | omega) only [go_sem, RdS.len hdX sl22, RdS.idx hdX sl22, R1.intB hdX (Ext.pres eB), RdS.cells hdX, RdS.len hmX sl23, RdS.idx hmX sl23, RdS.cellB hmX (Ext.pres eB), RdS.cells hmX, RdS.len hdY sl22, RdS.idx hdY sl22, R1.intB hdY (Ext.pres eB), RdS.cells hdY, RdS.len hmY sl23, RdS.idx hmY sl23, RdS.cellB hmY (Ext.pres eB), RdS.cells hmY, BoxAt.cell hb0_0, BoxAt.cell hb0_1, wrap_id]
 try simp -implicitDefEqProofs (disch := first | decide | assumption | omega) only [go_sem, RdS.len hdX sl22, RdS.idx hdX sl22, R1.intB hdX (Ext.pres eB), RdS.cells hdX, RdS.len hmX sl23, RdS.idx hmX sl23, RdS.cellB hmX (Ext.pres eB), RdS.cells hmX, RdS.len hdY sl22, RdS.idx hdY sl22, R1.intB hdY (Ext.pres eB), RdS.cells hdY, RdS.len hmY sl23, RdS.idx hmY sl23, RdS.cellB hmY (Ext.pres eB), RdS.cells hmY, BoxAt.cell hb0_0, BoxAt.cell hb0_1, wrap_id]
 refine CallA.mono (same2_ok _ _ _ _ ho1_2) ?_
 intro v_ h1_3
 rintro ⟨rfl, e1_3⟩
 replace hb0_0 := BoxAt.ext hb0_0 e1_3
 replace hb0_1 := BoxAt.ext hb0_1 e1_3
 replace ho1_2 := RdA.pres ho1_2 (Ext.pres e1_3)
 have := Ext.size e1_3
 replace eB := Ext.trans eB e1_3
 try simp -implicitDefEqProofs (disch := first | decide | assumption | omega) only [go_sem, RdS.len hdX sl22, RdS.idx hdX sl22, R1.intB hdX (Ext.pres eB), RdS.cells hdX, RdS.len hmX sl23, RdS.idx hmX sl23, RdS.cellB hmX (Ext.pres eB), RdS.cells hmX, RdS.len hdY sl22, RdS.idx hdY sl22, R1.intB hdY (Ext.pres eB), RdS.cells hdY, RdS.len hmY sl23, RdS.idx hmY sl23, RdS.cellB hmY (Ext.pres eB), RdS.cells hmY, BoxAt.cell hb0_0, BoxAt.cell hb0_1, wrap_id]
 refine hK _ _ ?_
 clear hK K
 refine den_seq ?_
 refine den_region TTok ?_
 intro K hK
 simp -implicitDefEqProofs (disch := first | decide | assumption | omega) only [go_sem, RdS.len hdX sl22, RdS.idx hdX sl22, R1.intB hdX (Ext.pres eB), RdS.cells hdX, RdS.len hmX sl23, RdS.idx hmX sl23, RdS.cellB hmX (Ext.pres eB), RdS.cells hmX, RdS.len hdY sl22, RdS.idx hdY sl22, R1.intB hdY (Ext.pres eB), RdS.cells hdY, RdS.len hmY sl23, RdS.idx hmY sl23, RdS.cellB hmY (Ext.pres eB), RdS.cells hmY, BoxAt.cell hb0_0, BoxAt.cell hb0_1, wrap_id]
 refine hK _ _ ?_
 clear hK K
 refine den_cond rfl (fun c0 => ?_) (fun c0 => ?_)
 ·try simp only [decide_eq_true_eq, decide_eq_false_iff_not, beq_iff_eq, beq_eq_false_iff_ne, bne_iff_ne, ne_eq, Bool.not_eq_true', Bool.not_eq_false', Bool.and_eq_true, Bool.or_eq_true, bne_eq_false_iff_eq] at c0
  refine den_seq ?_
  refine den_region TTok ?_
  intro K hK
  simp -implicitDefEqProofs (disch := first | decide | assumption | omega) only [go_sem, RdS.len hdX sl22, RdS.idx hdX sl22, R1.intB hdX (Ext.pres eB), RdS.cells hdX, RdS.len hmX sl23, RdS.idx hmX sl23, RdS.cellB hmX (Ext.pres eB), RdS.cells hmX, RdS.len hdY sl22, RdS.idx hdY sl22, R1.intB hdY (Ext.pres eB), RdS.cells hdY, RdS.len hmY sl23, RdS.idx hmY sl23, RdS.cellB hmY (Ext.pres eB), RdS.cells hmY, wrap_id]
  refine hK _ _ ?_
  clear hK K
  refine den_ret ?_
  simp (disch := decide) only [resP_2, puts_same, puts_ne]
  have hz : swP X Y = ([], twoP X Y) := by rw [swP, if_neg c0]
  rw [hz]
  exact ⟨.slice none 0 0, [], rfl, OS.nil, Fresh.nil _, eB⟩
 ·try simp only [decide_eq_true_eq, decide_eq_false_iff_not, beq_iff_eq, beq_eq_false_iff_ne, bne_iff_ne, ne_eq, Bool.not_eq_true', Bool.not_eq_false', Bool.and_eq_true, Bool.or_eq_true, bne_eq_false_iff_eq] at c0
  have hXY := twoP_0 c0
  obtain ⟨hX, hY, hpp⟩ := hXY
  have htl := tdP_len X Y
  have hlX := hX.len
  have hlY := hY.len
  have hpb := isP_bnd hX.p
  refine den_skip ?_
  refine den_seq ?_
  refine den_region TTok ?_
  intro K hK
  simp -implicitDefEqProofs (disch := first | decide | assumption | omega) only [go_sem, ld30, RdS.len hdX sl22, RdS.idx hdX sl22, R1.intB hdX (Ext.pres eB), RdS.cells hdX, RdS.len hmX sl23, RdS.idx hmX sl23, RdS.cellB hmX (Ext.pres eB), RdS.cells hmX, RdS.len hdY sl22, RdS.idx hdY sl22, R1.intB hdY (Ext.pres eB), RdS.cells hdY, RdS.len hmY sl23, RdS.idx hmY sl23, RdS.cellB hmY (Ext.pres eB), RdS.cells hmY, BoxAt.cell hb0_0, BoxAt.cell hb0_1, wrap_id]
  try simp -implicitDefEqProofs (disch := first | decide | assumption | omega) only [go_sem, RdS.len hdX sl22, RdS.idx hdX sl22, R1.intB hdX (Ext.pres eB), RdS.cells hdX, RdS.len hmX sl23, RdS.idx hmX sl23, RdS.cellB hmX (Ext.pres eB), RdS.cells hmX, RdS.len hdY sl22, RdS.idx hdY sl22, R1.intB hdY (Ext.pres eB), RdS.cells hdY, RdS.len hmY sl23, RdS.idx hmY sl23, RdS.cellB hmY (Ext.pres eB), RdS.cells hmY, BoxAt.cell hb0_0, BoxAt.cell hb0_1, wrap_id]
  refine CallA.mono (iTns_ok _ _ X Y _ ⟨_, _, rfl, (RdS.pres hdX (Ext.pres eB)), (RdS.pres hmX (Ext.pres eB))⟩ ⟨_, _, rfl, (RdS.pres hdY (Ext.pres eB)), (RdS.pres hmY (Ext.pres eB))⟩ hX hY (by first | exact hpp | omega)) ?_
  intro v_ h4_2
  rintro ⟨vd4_2_0, vm4_2_0, fd4_2_0, fm4_2_0, rfl, hod4_2_0, hom4_2_0, hf4_2_0, e4_2⟩
  replace hb0_0 := BoxAt.ext hb0_0 e4_2
  replace hb0_1 := BoxAt.ext hb0_1 e4_2
  replace ho1_2 := RdA.pres ho1_2 (Ext.pres e4_2)
  have := Ext.size e4_2
  replace eB := Ext.trans eB e4_2
  have hfd4_2_0 := hf4_2_0.left
  have hfm4_2_0 := hf4_2_0.right
  have hlhod4_2_0 := OS.lt hod4_2_0
  have hlhom4_2_0 := OS.lt hom4_2_0
  have ap1 : Apart fd4_2_0 fm4_2_0 := apart_nodup hf4_2_0
  try simp -implicitDefEqProofs (disch := first | decide | assumption | omega) only [go_sem, RdS.len hdX sl22, RdS.idx hdX sl22, R1.intB hdX (Ext.pres eB), RdS.cells hdX, RdS.len hmX sl23, RdS.idx hmX sl23, RdS.cellB hmX (Ext.pres eB), RdS.cells hmX, RdS.len hdY sl22, RdS.idx hdY sl22, R1.intB hdY (Ext.pres eB), RdS.cells hdY, RdS.len hmY sl23, RdS.idx hmY sl23, RdS.cellB hmY (Ext.pres eB), RdS.cells hmY, RdS.len (OS.rd hod4_2_0) sl22, RdS.idx (OS.rd hod4_2_0) sl22, R1.intN (OS.rd hod4_2_0), RdS.cells (OS.rd hod4_2_0), RdS.len (OS.rd hom4_2_0) sl23, RdS.idx (OS.rd hom4_2_0) sl23, RdS.cellN (OS.rd hom4_2_0), RdS.cells (OS.rd hom4_2_0), BoxAt.cell hb0_0, BoxAt.cell hb0_1, wrap_id]
  refine op_alloc (cs := #[.int .i64 0, .slice none 0 0, .slice none 0 0]) (by kernel_rfl) ?_
  intro h4_6 e4_6 hb4_6 z4_6
  replace hod4_2_0 := OS.ext hod4_2_0 e4_6
  replace hom4_2_0 := OS.ext hom4_2_0 e4_6
  replace hb0_0 := BoxAt.ext hb0_0 e4_6
  replace hb0_1 := BoxAt.ext hb0_1 e4_6
  replace ho1_2 := RdA.pres ho1_2 (Ext.pres e4_6)
  have := Ext.size e4_6
  replace eB := Ext.trans eB e4_6
  have hfhb4_6 : Fresh h4_2.size [h4_2.size] := Fresh.one _
  have hlhb4_6 := one_lt (show h4_2.size < h4_6.size by omega)
  try simp -implicitDefEqProofs (disch := first | decide | assumption | omega) only [go_sem, RdS.len hdX sl22, RdS.idx hdX sl22, R1.intB hdX (Ext.pres eB), RdS.cells hdX, RdS.len hmX sl23, RdS.idx hmX sl23, RdS.cellB hmX (Ext.pres eB), RdS.cells hmX, RdS.len hdY sl22, RdS.idx hdY sl22, R1.intB hdY (Ext.pres eB), RdS.cells hdY, RdS.len hmY sl23, RdS.idx hmY sl23, RdS.cellB hmY (Ext.pres eB), RdS.cells hmY, RdS.len (OS.rd hod4_2_0) sl22, RdS.idx (OS.rd hod4_2_0) sl22, R1.intN (OS.rd hod4_2_0), RdS.cells (OS.rd hod4_2_0), RdS.len (OS.rd hom4_2_0) sl23, RdS.idx (OS.rd hom4_2_0) sl23, RdS.cellN (OS.rd hom4_2_0), RdS.cells (OS.rd hom4_2_0), BoxAt.cell hb0_0, BoxAt.cell hb0_1, BoxAt.cell hb4_6, wrap_id]
  refine op_storeB (cs' := #[.int .i64 ((((teP X Y).1).p)), vd4_2_0, vm4_2_0]) st30 hb4_6 rfl rfl rfl (by simp) (allOne_mem (l := [.int .i64 ((((teP X Y).1).p)), vd4_2_0, vm4_2_0]) ⟨rfl, (OS.one hod4_2_0).1, (OS.one hom4_2_0).1, trivial⟩) rfl ?_
  intro h4_7 hb4_6 c4_7
  replace hod4_2_0 := OS.chg hod4_2_0 c4_7 (apart_lt hlhod4_2_0 hfhb4_6 (by omega))
  replace hom4_2_0 := OS.chg hom4_2_0 c4_7 (apart_lt hlhom4_2_0 hfhb4_6 (by omega))
  replace hb0_0 := BoxAt.chgA hb0_0 c4_7 (apart_lt hlhb0_0 hfhb4_6 (by omega))
  replace hb0_1 := BoxAt.chgA hb0_1 c4_7 (apart_lt hlhb0_1 hfhb4_6 (by omega))
  have := c4_7.size
  replace eB := Ext.then eB c4_7 (ge_of hfhb4_6 (by omega))
  try simp -implicitDefEqProofs (disch := first | decide | assumption | omega) only [go_sem, RdS.len hdX sl22, RdS.idx hdX sl22, R1.intB hdX (Ext.pres eB), RdS.cells hdX, RdS.len hmX sl23, RdS.idx hmX sl23, RdS.cellB hmX (Ext.pres eB), RdS.cells hmX, RdS.len hdY sl22, RdS.idx hdY sl22, R1.intB hdY (Ext.pres eB), RdS.cells hdY, RdS.len hmY sl23, RdS.idx hmY sl23, RdS.cellB hmY (Ext.pres eB), RdS.cells hmY, RdS.len (OS.rd hod4_2_0) sl22, RdS.idx (OS.rd hod4_2_0) sl22, R1.intN (OS.rd hod4_2_0), RdS.cells (OS.rd hod4_2_0), RdS.len (OS.rd hom4_2_0) sl23, RdS.idx (OS.rd hom4_2_0) sl23, RdS.cellN (OS.rd hom4_2_0), RdS.cells (OS.rd hom4_2_0), BoxAt.cell hb0_0, BoxAt.cell hb0_1, BoxAt.cell hb4_6, wrap_id]
  refine hK _ _ ?_
  clear hK K
  refine den_seq ?_
  refine den_seq ?_
  refine den_region TTok ?_
  intro K hK
  simp -implicitDefEqProofs (disch := first | decide | assumption | omega) only [go_sem, RdS.len hdX sl22, RdS.idx hdX sl22, R1.intB hdX (Ext.pres eB), RdS.cells hdX, RdS.len hmX sl23, RdS.idx hmX sl23, RdS.cellB hmX (Ext.pres eB), RdS.cells hmX, RdS.len hdY sl22, RdS.idx hdY sl22, R1.intB hdY (Ext.pres eB), RdS.cells hdY, RdS.len hmY sl23, RdS.idx hmY sl23, RdS.cellB hmY (Ext.pres eB), RdS.cells hmY, RdS.len (OS.rd hod4_2_0) sl22, RdS.idx (OS.rd hod4_2_0) sl22, R1.intN (OS.rd hod4_2_0), RdS.cells (OS.rd hod4_2_0), RdS.len (OS.rd hom4_2_0) sl23, RdS.idx (OS.rd hom4_2_0) sl23, RdS.cellN (OS.rd hom4_2_0), RdS.cells (OS.rd hom4_2_0), BoxAt.cell hb0_0, BoxAt.cell hb0_1, BoxAt.cell hb4_6, wrap_id]
  refine hK _ _ ?_
  clear hK K
  refine den_cond rfl (fun c1 => ?_) (fun c1 => ?_)
  ·try simp only [decide_eq_true_eq, decide_eq_false_iff_not, beq_iff_eq, beq_eq_false_iff_ne, bne_iff_ne, ne_eq, Bool.not_eq_true', Bool.not_eq_false', Bool.and_eq_true, Bool.or_eq_true, bne_eq_false_iff_eq] at c1
   refine den_seq ?_
   refine den_region TTok ?_
   intro K hK
   simp -implicitDefEqProofs (disch := first | decide | assumption | omega) only [go_sem, RdS.len hdX sl22, RdS.idx hdX sl22, R1.intB hdX (Ext.pres eB), RdS.cells hdX, RdS.len hmX sl23, RdS.idx hmX sl23, RdS.cellB hmX (Ext.pres eB), RdS.cells hmX, RdS.len hdY sl22, RdS.idx hdY sl22, R1.intB hdY (Ext.pres eB), RdS.cells hdY, RdS.len hmY sl23, RdS.idx hmY sl23, RdS.cellB hmY (Ext.pres eB), RdS.cells hmY, wrap_id]
   refine hK _ _ ?_
   clear hK K
   refine den_ret ?_
   simp (disch := decide) only [resP_2, puts_same, puts_ne]
   have hn3 := te_n (show ¬ (teP X Y).2 = 0 from c1)
   have hz : swP X Y = ([], (teP X Y).2) := by rw [swP, if_pos c0, if_neg hn3.1, hn3.2]
   rw [hz]
   exact ⟨.slice none 0 0, [], rfl, OS.nil, Fresh.nil _, eB⟩
  ·try simp only [decide_eq_true_eq, decide_eq_false_iff_not, beq_iff_eq, beq_eq_false_iff_ne, bne_iff_ne, ne_eq, Bool.not_eq_true', Bool.not_eq_false', Bool.and_eq_true, Bool.or_eq_true, bne_eq_false_iff_eq] at c1
   have hft := te_0 (by simpa using c1)
   have hte : teP X Y = (⟨X.p, tdP X Y, tT X Y⟩, 0) := by rw [teP, if_pos hft]
   refine den_skip ?_
   refine den_seq ?_
   refine den_region TTok ?_
   intro K hK
   simp -implicitDefEqProofs (disch := first | decide | assumption | omega) only [go_sem, ld30, RdS.len hdX sl22, RdS.idx hdX sl22, R1.intB hdX (Ext.pres eB), RdS.cells hdX, RdS.len hmX sl23, RdS.idx hmX sl23, RdS.cellB hmX (Ext.pres eB), RdS.cells hmX, RdS.len hdY sl22, RdS.idx hdY sl22, R1.intB hdY (Ext.pres eB), RdS.cells hdY, RdS.len hmY sl23, RdS.idx hmY sl23, RdS.cellB hmY (Ext.pres eB), RdS.cells hmY, RdS.len (OS.rd hod4_2_0) sl22, RdS.idx (OS.rd hod4_2_0) sl22, R1.intN (OS.rd hod4_2_0), RdS.cells (OS.rd hod4_2_0), RdS.len (OS.rd hom4_2_0) sl23, RdS.idx (OS.rd hom4_2_0) sl23, RdS.cellN (OS.rd hom4_2_0), RdS.cells (OS.rd hom4_2_0), BoxAt.cell hb0_0, BoxAt.cell hb0_1, BoxAt.cell hb4_6, wrap_id]
   try simp -implicitDefEqProofs (disch := first | decide | assumption | omega) only [go_sem, RdS.len hdX sl22, RdS.idx hdX sl22, R1.intB hdX (Ext.pres eB), RdS.cells hdX, RdS.len hmX sl23, RdS.idx hmX sl23, RdS.cellB hmX (Ext.pres eB), RdS.cells hmX, RdS.len hdY sl22, RdS.idx hdY sl22, R1.intB hdY (Ext.pres eB), RdS.cells hdY, RdS.len hmY sl23, RdS.idx hmY sl23, RdS.cellB hmY (Ext.pres eB), RdS.cells hmY, RdS.len (OS.rd hod4_2_0) sl22, RdS.idx (OS.rd hod4_2_0) sl22, R1.intN (OS.rd hod4_2_0), RdS.cells (OS.rd hod4_2_0), RdS.len (OS.rd hom4_2_0) sl23, RdS.idx (OS.rd hom4_2_0) sl23, RdS.cellN (OS.rd hom4_2_0), RdS.cells (OS.rd hom4_2_0), BoxAt.cell hb0_0, BoxAt.cell hb0_1, BoxAt.cell hb4_6, wrap_id]
   refine CallA.mono (pairFam_ok X Y vdX vmX vdY vmY (swRow X Y) _ _ _ (RdS.pres hdX (Ext.pres eB)) (RdS.pres hmX (Ext.pres eB)) (RdS.pres hdY (Ext.pres eB)) (RdS.pres hmY (Ext.pres eB)) hX hY (fun i a b j ha hb hj h' e => by
  obtain ⟨m, rfl⟩ := Int.eq_ofNat_of_zero_le hj
  simp only [List.append_toArray, List.cons_append, List.nil_append]
  exact swC_ok X Y (teP X Y).1 vdX vmX vdY vmY _ _ i a m b _ _ _ h' (RdS.pres hdX (Ext.pres (Ext.trans eB e))) (RdS.pres hmX (Ext.pres (Ext.trans eB e))) (RdS.pres hdY (Ext.pres (Ext.trans eB e))) (RdS.pres hmY (Ext.pres (Ext.trans eB e))) (RdS.pres (OS.rd hod4_2_0) (Ext.pres e)) (RdS.pres (OS.rd hom4_2_0) (Ext.pres e)) (BoxAt.ext hb0_0 e) (BoxAt.ext hb0_1 e) (BoxAt.ext hb4_6 e) hX hY (by rw [hte]) ha hb)) ?_
   intro vw7_3 h7_3
   rintro ⟨fw7_3, how7_3, hfw7_3, e7_3⟩
   replace hod4_2_0 := OS.ext hod4_2_0 e7_3
   replace hom4_2_0 := OS.ext hom4_2_0 e7_3
   replace hb0_0 := BoxAt.ext hb0_0 e7_3
   replace hb0_1 := BoxAt.ext hb0_1 e7_3
   replace hb4_6 := BoxAt.ext hb4_6 e7_3
   have := Ext.size e7_3
   replace eB := Ext.trans eB e7_3
   have hlhow7_3 := OS.lt how7_3
   try simp -implicitDefEqProofs (disch := first | decide | assumption | omega) only [go_sem, RdS.len hdX sl22, RdS.idx hdX sl22, R1.intB hdX (Ext.pres eB), RdS.cells hdX, RdS.len hmX sl23, RdS.idx hmX sl23, RdS.cellB hmX (Ext.pres eB), RdS.cells hmX, RdS.len hdY sl22, RdS.idx hdY sl22, R1.intB hdY (Ext.pres eB), RdS.cells hdY, RdS.len hmY sl23, RdS.idx hmY sl23, RdS.cellB hmY (Ext.pres eB), RdS.cells hmY, RdS.len (OS.rd hod4_2_0) sl22, RdS.idx (OS.rd hod4_2_0) sl22, R1.intN (OS.rd hod4_2_0), RdS.cells (OS.rd hod4_2_0), RdS.len (OS.rd hom4_2_0) sl23, RdS.idx (OS.rd hom4_2_0) sl23, RdS.cellN (OS.rd hom4_2_0), RdS.cells (OS.rd hom4_2_0), RdS.len (OS.rd how7_3) sl23, RdS.idx (OS.rd how7_3) sl23, RdS.cellN (OS.rd how7_3), RdS.cells (OS.rd how7_3), BoxAt.cell hb0_0, BoxAt.cell hb0_1, BoxAt.cell hb4_6, wrap_id]
   refine hK _ _ ?_
   clear hK K
   refine den_ret ?_
   simp (disch := decide) only [resP_2, puts_same, puts_ne]
   have hz : swP X Y = (pfam X Y (swRow X Y), 0) := by rw [swP, if_pos c0, if_pos hft]
   rw [hz]
   exact ⟨_, _, rfl, how7_3, hfw7_3.mono (by omega), eB⟩
end Go.Proofs.Ytffggocjkhcgeaa
