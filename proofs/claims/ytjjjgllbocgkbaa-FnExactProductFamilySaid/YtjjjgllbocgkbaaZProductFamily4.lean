/-
  What the statement FnExactProductFamily uses of the walks, part 4.
  Conditions: each theorem's own.
-/
import Derived.Test.YtjjjgllbocgkbaaG16
import Derived.Test.YtjjjgllbocgkbaaG17
import Derived.Test.YtjjjgllbocgkbaaG14
import Derived.Test.YtjjjgllbocgkbaaG13
import Derived.Test.YtjjjgllbocgkbaaG15
import Derived.Test.YtjjjgllbocgkbaaG18
import Derived.Test.YtjjjgllbocgkbaaG21
import Derived.Test.YtjjjgllbocgkbaaZProductFamily1
import Derived.Test.YtjjjgllbocgkbaaZProductFamily2
import Derived.Test.YtjjjgllbocgkbaaZProductFamily3
set_option linter.unusedVariables false
set_option linter.unusedSimpArgs false
namespace Go.Proofs.Ytjjjgllbocgkbaa
open Go
theorem t_all1 {X Y : Cx} (hX : IsC X) (hY : IsC Y) {k i j : Nat} {v : Int} (hi : i < (X.maps.getD k default).length) (hj : j < ((X.maps.getD k default).getD i default).length) (n : Nat) : ∀ u ∈ upL (tF1 X Y k i j v) (fun q => (dimP Y q).toNat) n, InU ((tdP X Y).length - 1) (tA X Y) (tB X Y) u := fun u hu => by
 obtain ⟨q, m, _, hm, rfl⟩ := mem_upL hu
 exact t_in1 hX hY hi hj hm
theorem t_all2 {X Y : Cx} (hX : IsC X) (hY : IsC Y) {k i j : Nat} {v : Int} (hi : i < (Y.maps.getD k default).length) (hj : j < ((Y.maps.getD k default).getD i default).length) (n : Nat) : ∀ u ∈ upL (tF2 X Y k i j v) (fun q => (dimP X q).toNat) n, InU ((tdP X Y).length - 1) (tA X Y) (tB X Y) u := fun u hu => by
 obtain ⟨q, m, _, hm, rfl⟩ := mem_upL hu
 exact t_in2 hX hY hi hj hm
theorem t_row1 {X Y : Cx} (hX : IsC X) (hY : IsC Y) {k i j : Nat} {v : Int} (hi : i < (X.maps.getD k default).length) (hj : j < ((X.maps.getD k default).getD i default).length) (q n : Nat) (hn : (n : Int) ≤ dimP Y (q : Int)) : ∀ u ∈ (List.range n).map (tF1 X Y k i j v q), InU ((tdP X Y).length - 1) (tA X Y) (tB X Y) u := fun u hu => by
 obtain ⟨m, hm, rfl⟩ := List.mem_map.1 hu
 rw [List.mem_range] at hm
 exact t_in1 hX hY hi hj (by omega)
theorem t_row2 {X Y : Cx} (hX : IsC X) (hY : IsC Y) {k i j : Nat} {v : Int} (hi : i < (Y.maps.getD k default).length) (hj : j < ((Y.maps.getD k default).getD i default).length) (q n : Nat) (hn : (n : Int) ≤ dimP X (q : Int)) : ∀ u ∈ (List.range n).map (tF2 X Y k i j v q), InU ((tdP X Y).length - 1) (tA X Y) (tB X Y) u := fun u hu => by
 obtain ⟨m, hm, rfl⟩ := List.mem_map.1 hu
 rw [List.mem_range] at hm
 exact t_in2 hX hY hi hj (by omega)
theorem applyU_step {p : Int} {M : M3} {g : Nat → Upd} {m : Nat} : applyU p M ((List.range (m + 1)).map g) = upd3 p (applyU p M ((List.range m).map g)) (g m).1.1 (g m).1.2.1 (g m).1.2.2 (g m).2 := by
 rw [List.range_succ, List.map_append, applyU_app]; rfl
theorem sg_v {q : Nat} {v : Int} (hv : -7 ≤ v ∧ v ≤ 7) : -7 ≤ (1 - (q : Int).tmod 2 * 2) * v ∧ (1 - (q : Int).tmod 2 * 2) * v ≤ 7 := by
 have h1 := Int.tmod_nonneg 2 (show (0 : Int) ≤ (q : Int) by omega)
 have h2 := Int.tmod_lt_of_pos (q : Int) (show (0 : Int) < 2 by decide)
 have : (q : Int).tmod 2 = 0 ∨ (q : Int).tmod 2 = 1 := by omega
 rcases this with e | e <;> rw [e] <;> omega

set_option maxRecDepth 100000 in
theorem ten1_ok (X Y : Cx) (vdX vmX vdY vmY vD vw : Value) (M : M3) (f : List Nat) (k i j : Nat) (v : Int) (bO bY bX : Nat) (Ot : Heap → Prop) (h0 h : Heap) (hdX : R1 h0 vdX X.dims) (hmX : R3 h0 vmX X.maps) (hdY : R1 h0 vdY Y.dims) (hmY : R3 h0 vmY Y.maps) (hX : IsC X) (hY : IsC Y) (hi : i < (X.maps.getD k default).length) (hj : j < ((X.maps.getD k default).getD i default).length) (hv : -7 ≤ v ∧ v ≤ 7) (hom : O3 h vw M f) (hsh : Sh ((tdP X Y).length - 1) (tA X Y) (tB X Y) M) (hin : In3 X.p ((tdP X Y).length - 1) (tA X Y) (tB X Y) M) (hn : f.Nodup) (eB : Ext h0 h) (hge : ∀ b ∈ f, h0.size ≤ b) (hOt : Ot h) (hot : ∀ H H', Chg f H H' → Ot H → Ot H') (hE : ∀ H, Ot H → BoxAt H bO #[.int .i64 X.p, vD, vw] 31 ∧ BoxAt H bY #[.int .i64 Y.p, vdY, vmY] 31 ∧ BoxAt H bX #[.int .i64 X.p, vdX, vmX] 31 ∧ R1 H vD (tdP X Y)) : CallA Try.prog 197 #[.int .i64 ((k : Int) + 1), .int .i64 (i : Int), .int .i64 (j : Int), .int .i64 v, .pointer (some ⟨bY, 0, none⟩), .pointer (some ⟨bO, 0, none⟩), .pointer (some ⟨bX, 0, none⟩)] h fun v' h' => v' = .tuple #[] ∧ O3 h' vw (applyU X.p M (tU1 X Y k i j v)) f ∧ Chg f h h' := by
 obtain ⟨hbO, hbY, hbX, rD⟩ := hE _ hOt
 have hlX := hX.len
 have hlY := hY.len
 have hledX := RdS.le hdX
 have hledY := RdS.le hdY
 have hkm := maps_lt hi
 have hmm := hX.ml
 have hrd := row_dim hX hi
 have hcd := col_dim hX hi hj
 have hb1 := dimP_bnd hX ((k + 1 : Nat) : Int)
 have hb2 := dimP_bnd hX (k : Int)
 have hpb := isP_bnd hX.p
 have hlM := OS.lt hom
 refine callA_intro TTok (args := [_, _, _, _, _, _, _]) Try.func197 (by kernel_rfl) rfl 48 rfl (by simp) [] rfl ?_
 simp only [idxs, Nat.reduceAdd]
 refine den_seq ?_
 refine den_region TTok ?_
 intro K hK
 simp -implicitDefEqProofs (disch := first | decide | assumption | omega) only [go_sem, fa31_1, ld22, RdS.len hdX sl22, RdS.idx hdX sl22, R1.intB hdX (Ext.pres eB), RdS.cells hdX, RdS.len hmX sl23, RdS.idx hmX sl23, RdS.cellB hmX (Ext.pres eB), RdS.cells hmX, RdS.len hdY sl22, RdS.idx hdY sl22, R1.intB hdY (Ext.pres eB), RdS.cells hdY, RdS.len hmY sl23, RdS.idx hmY sl23, RdS.cellB hmY (Ext.pres eB), RdS.cells hmY, RdS.len (OS.rd hom) sl23, RdS.idx (OS.rd hom) sl23, RdS.cellN (OS.rd hom), RdS.cells (OS.rd hom), BoxAt.cell hbO, BoxAt.cell hbY, BoxAt.cell hbX, wrap_id, Int.add_sub_cancel]
 try simp -implicitDefEqProofs (disch := first | decide | assumption | omega) only [go_sem, RdS.len hdX sl22, RdS.idx hdX sl22, R1.intB hdX (Ext.pres eB), RdS.cells hdX, RdS.len hmX sl23, RdS.idx hmX sl23, RdS.cellB hmX (Ext.pres eB), RdS.cells hmX, RdS.len hdY sl22, RdS.idx hdY sl22, R1.intB hdY (Ext.pres eB), RdS.cells hdY, RdS.len hmY sl23, RdS.idx hmY sl23, RdS.cellB hmY (Ext.pres eB), RdS.cells hmY, RdS.len (OS.rd hom) sl23, RdS.idx (OS.rd hom) sl23, RdS.cellN (OS.rd hom), RdS.cells (OS.rd hom), BoxAt.cell hbO, BoxAt.cell hbY, BoxAt.cell hbX, wrap_id, Int.add_sub_cancel]
 refine CallA.pure (size1_ok _ _ _ (RdS.pres hdY (Ext.pres eB))) ?_
 try simp -implicitDefEqProofs (disch := first | decide | assumption | omega) only [go_sem, RdS.len hdX sl22, RdS.idx hdX sl22, R1.intB hdX (Ext.pres eB), RdS.cells hdX, RdS.len hmX sl23, RdS.idx hmX sl23, RdS.cellB hmX (Ext.pres eB), RdS.cells hmX, RdS.len hdY sl22, RdS.idx hdY sl22, R1.intB hdY (Ext.pres eB), RdS.cells hdY, RdS.len hmY sl23, RdS.idx hmY sl23, RdS.cellB hmY (Ext.pres eB), RdS.cells hmY, RdS.len (OS.rd hom) sl23, RdS.idx (OS.rd hom) sl23, RdS.cellN (OS.rd hom), RdS.cells (OS.rd hom), BoxAt.cell hbO, BoxAt.cell hbY, BoxAt.cell hbX, wrap_id, Int.add_sub_cancel]
 refine hK _ _ ?_
 clear hK K
 refine den_block ?_
 refine den_sel [16, 0, 1, 2, 3, 4, 5, 6, 15] ?_
 intro env_1
 simp only [go_sem]
 refine den_loopS (σ := Nat) (fun s => [(16, .int .i64 (s : Int))]) (fun s H => Ext h0 H ∧ s ≤ Y.dims.length ∧ O3 H vw (applyU X.p M (upL (tF1 X Y k i j v) (fun q => (dimP Y q).toNat) s)) f ∧ Chg f h H ∧ Ot H ∧ BoxAt H bO #[.int .i64 X.p, vD, vw] 31 ∧ BoxAt H bY #[.int .i64 Y.p, vdY, vmY] 31 ∧ BoxAt H bX #[.int .i64 X.p, vdX, vmX] 31 ∧ R1 H vD (tdP X Y)) (fun s => Y.dims.length - s) 0 ?_ ?_
 ·exact ⟨eB, by omega, by rw [upL, applyU]; exact hom, Chg.refl _ _, hOt, hE _ hOt⟩
 ·rintro q h4 ee3 ⟨eB, hq, hom, hch, hOt, hbO, hbY, hbX, rD⟩
  simp only [List.cons_append, List.nil_append]
  have := Ext.size eB
  refine den_seq ?_
  refine den_region TTok ?_
  intro K hK
  simp -implicitDefEqProofs (disch := first | decide | assumption | omega) only [go_sem, RdS.len hdX sl22, RdS.idx hdX sl22, R1.intB hdX (Ext.pres eB), RdS.cells hdX, RdS.len hmX sl23, RdS.idx hmX sl23, RdS.cellB hmX (Ext.pres eB), RdS.cells hmX, RdS.len hdY sl22, RdS.idx hdY sl22, R1.intB hdY (Ext.pres eB), RdS.cells hdY, RdS.len hmY sl23, RdS.idx hmY sl23, RdS.cellB hmY (Ext.pres eB), RdS.cells hmY, RdS.len (OS.rd hom) sl23, RdS.idx (OS.rd hom) sl23, RdS.cellN (OS.rd hom), RdS.cells (OS.rd hom), BoxAt.cell hbO, BoxAt.cell hbY, BoxAt.cell hbX, wrap_id, Int.add_sub_cancel]
  refine hK _ _ ?_
  clear hK K
  refine den_seq ?_
  refine den_cond rfl (fun c0 => ?_) (fun c0 => ?_)
  ·try simp only [decide_eq_true_eq, decide_eq_false_iff_not, beq_iff_eq, beq_eq_false_iff_ne, bne_iff_ne, ne_eq, Bool.not_eq_true', Bool.not_eq_false', Bool.and_eq_true, Bool.or_eq_true, bne_eq_false_iff_eq] at c0
   refine den_skip ?_
   refine den_seq ?_
   refine den_block ?_
   refine den_seq ?_
   refine den_region TTok ?_
   intro K hK
   simp -implicitDefEqProofs (disch := first | decide | assumption | omega) only [go_sem, RdS.len hdX sl22, RdS.idx hdX sl22, R1.intB hdX (Ext.pres eB), RdS.cells hdX, RdS.len hmX sl23, RdS.idx hmX sl23, RdS.cellB hmX (Ext.pres eB), RdS.cells hmX, RdS.len hdY sl22, RdS.idx hdY sl22, R1.intB hdY (Ext.pres eB), RdS.cells hdY, RdS.len hmY sl23, RdS.idx hmY sl23, RdS.cellB hmY (Ext.pres eB), RdS.cells hmY, RdS.len (OS.rd hom) sl23, RdS.idx (OS.rd hom) sl23, RdS.cellN (OS.rd hom), RdS.cells (OS.rd hom), BoxAt.cell hbO, BoxAt.cell hbY, BoxAt.cell hbX, wrap_id, Int.add_sub_cancel]
   refine hK _ _ ?_
   clear hK K
   refine den_seq ?_
   have hbq := dimP_bnd hY (q : Int)
   refine den_region TTok ?_
   intro K hK
   simp -implicitDefEqProofs (disch := first | decide | assumption | omega) only [go_sem, ld31, RdS.len hdX sl22, RdS.idx hdX sl22, R1.intB hdX (Ext.pres eB), RdS.cells hdX, RdS.len hmX sl23, RdS.idx hmX sl23, RdS.cellB hmX (Ext.pres eB), RdS.cells hmX, RdS.len hdY sl22, RdS.idx hdY sl22, R1.intB hdY (Ext.pres eB), RdS.cells hdY, RdS.len hmY sl23, RdS.idx hmY sl23, RdS.cellB hmY (Ext.pres eB), RdS.cells hmY, RdS.len (OS.rd hom) sl23, RdS.idx (OS.rd hom) sl23, RdS.cellN (OS.rd hom), RdS.cells (OS.rd hom), BoxAt.cell hbO, BoxAt.cell hbY, BoxAt.cell hbX, wrap_id, Int.add_sub_cancel]
   try simp -implicitDefEqProofs (disch := first | decide | assumption | omega) only [go_sem, RdS.len hdX sl22, RdS.idx hdX sl22, R1.intB hdX (Ext.pres eB), RdS.cells hdX, RdS.len hmX sl23, RdS.idx hmX sl23, RdS.cellB hmX (Ext.pres eB), RdS.cells hmX, RdS.len hdY sl22, RdS.idx hdY sl22, R1.intB hdY (Ext.pres eB), RdS.cells hdY, RdS.len hmY sl23, RdS.idx hmY sl23, RdS.cellB hmY (Ext.pres eB), RdS.cells hmY, RdS.len (OS.rd hom) sl23, RdS.idx (OS.rd hom) sl23, RdS.cellN (OS.rd hom), RdS.cells (OS.rd hom), BoxAt.cell hbO, BoxAt.cell hbY, BoxAt.cell hbX, wrap_id, Int.add_sub_cancel]
   refine CallA.mono (iDim_ok _ Y _ _ ⟨_, _, rfl, (RdS.pres hdY (Ext.pres eB)), (RdS.pres hmY (Ext.pres eB))⟩) ?_
   intro v_ h3_2
   rintro ⟨rfl, e3_2⟩
   replace hom := OS.ext hom e3_2
   replace hbO := BoxAt.ext hbO e3_2
   replace hbY := BoxAt.ext hbY e3_2
   replace hbX := BoxAt.ext hbX e3_2
   replace rD := RdS.pres rD (Ext.pres e3_2)
   have := Ext.size e3_2
   replace eB := Ext.trans eB e3_2
   try simp -implicitDefEqProofs (disch := first | decide | assumption | omega) only [go_sem, RdS.len hdX sl22, RdS.idx hdX sl22, R1.intB hdX (Ext.pres eB), RdS.cells hdX, RdS.len hmX sl23, RdS.idx hmX sl23, RdS.cellB hmX (Ext.pres eB), RdS.cells hmX, RdS.len hdY sl22, RdS.idx hdY sl22, R1.intB hdY (Ext.pres eB), RdS.cells hdY, RdS.len hmY sl23, RdS.idx hmY sl23, RdS.cellB hmY (Ext.pres eB), RdS.cells hmY, RdS.len (OS.rd hom) sl23, RdS.idx (OS.rd hom) sl23, RdS.cellN (OS.rd hom), RdS.cells (OS.rd hom), BoxAt.cell hbO, BoxAt.cell hbY, BoxAt.cell hbX, wrap_id, Int.add_sub_cancel]
   refine hK _ _ ?_
   clear hK K
   refine den_block ?_
   refine den_sel [22, 0, 1, 2, 3, 4, 5, 6, 11, 15, 16, 21] ?_
   intro env_5
   simp only [go_sem]
   refine den_loopS (σ := Nat) (fun s => [(22, .int .i64 (s : Int))]) (fun s H => Ext h0 H ∧ (s : Int) ≤ dimP Y (q : Int) ∧ O3 H vw (applyU X.p (applyU X.p M (upL (tF1 X Y k i j v) (fun q => (dimP Y q).toNat) q)) ((List.range s).map (tF1 X Y k i j v q))) f ∧ Chg f h H ∧ Ot H ∧ BoxAt H bO #[.int .i64 X.p, vD, vw] 31 ∧ BoxAt H bY #[.int .i64 Y.p, vdY, vmY] 31 ∧ BoxAt H bX #[.int .i64 X.p, vdX, vmX] 31 ∧ R1 H vD (tdP X Y)) (fun s => (dimP Y (q : Int)).toNat - s) 0 ?_ ?_
   ·exact ⟨eB, by omega, hom, hch.trans (Ext.chg e3_2 _), hot _ _ (Ext.chg e3_2 _) hOt, hE _ (hot _ _ (Ext.chg e3_2 _) hOt)⟩
   ·rintro m h8 ee7 ⟨eB, hm, hom, hch, hOt, hbO, hbY, hbX, rD⟩
    simp only [List.cons_append, List.nil_append]
    have := Ext.size eB
    refine den_seq ?_
    refine den_region TTok ?_
    intro K hK
    simp -implicitDefEqProofs (disch := first | decide | assumption | omega) only [go_sem, RdS.len hdX sl22, RdS.idx hdX sl22, R1.intB hdX (Ext.pres eB), RdS.cells hdX, RdS.len hmX sl23, RdS.idx hmX sl23, RdS.cellB hmX (Ext.pres eB), RdS.cells hmX, RdS.len hdY sl22, RdS.idx hdY sl22, R1.intB hdY (Ext.pres eB), RdS.cells hdY, RdS.len hmY sl23, RdS.idx hmY sl23, RdS.cellB hmY (Ext.pres eB), RdS.cells hmY, RdS.len (OS.rd hom) sl23, RdS.idx (OS.rd hom) sl23, RdS.cellN (OS.rd hom), RdS.cells (OS.rd hom), BoxAt.cell hbO, BoxAt.cell hbY, BoxAt.cell hbX, wrap_id, Int.add_sub_cancel]
    refine hK _ _ ?_
    clear hK K
    refine den_seq ?_
    refine den_cond rfl (fun c1 => ?_) (fun c1 => ?_)
    ·try simp only [decide_eq_true_eq, decide_eq_false_iff_not, beq_iff_eq, beq_eq_false_iff_ne, bne_iff_ne, ne_eq, Bool.not_eq_true', Bool.not_eq_false', Bool.and_eq_true, Bool.or_eq_true, bne_eq_false_iff_eq] at c1
     refine den_skip ?_
     refine den_seq ?_
     refine den_block ?_
     refine den_seq ?_
     refine den_region TTok ?_
     intro K hK
     simp -implicitDefEqProofs (disch := first | decide | assumption | omega) only [go_sem, RdS.len hdX sl22, RdS.idx hdX sl22, R1.intB hdX (Ext.pres eB), RdS.cells hdX, RdS.len hmX sl23, RdS.idx hmX sl23, RdS.cellB hmX (Ext.pres eB), RdS.cells hmX, RdS.len hdY sl22, RdS.idx hdY sl22, R1.intB hdY (Ext.pres eB), RdS.cells hdY, RdS.len hmY sl23, RdS.idx hmY sl23, RdS.cellB hmY (Ext.pres eB), RdS.cells hmY, RdS.len (OS.rd hom) sl23, RdS.idx (OS.rd hom) sl23, RdS.cellN (OS.rd hom), RdS.cells (OS.rd hom), BoxAt.cell hbO, BoxAt.cell hbY, BoxAt.cell hbX, wrap_id, Int.add_sub_cancel]
     refine hK _ _ ?_
     clear hK K
     have hS := applyU_sh (p := X.p) (applyU_sh (p := X.p) hsh (t_all1 hX hY (v := v) hi hj q)) (t_row1 hX hY (v := v) hi hj q m (by omega))
     have hI := applyU_in hpb.1 (applyU_sh (p := X.p) hsh (t_all1 hX hY (v := v) hi hj q)) (applyU_in hpb.1 hsh hin (t_all1 hX hY (v := v) hi hj q)) (t_row1 hX hY (v := v) hi hj q m (by omega))
     have hiu := t_in1 hX hY (v := v) hi hj (q := q) (m := m) (by omega)
     have hin1 : k + q < (tdP X Y).length - 1 := hiu.1
     have hin2 : (placeP X Y ((k : Int) + 1) (i : Int) (q : Int) (m : Int)).toNat < tA X Y (k + q) := hiu.2.1
     have hin3 : (placeP X Y (k : Int) (j : Int) (q : Int) (m : Int)).toNat < tB X Y (k + q) := hiu.2.2
     have hr1 := hS.rows _ hin1
     have hr2 := hS.cols _ _ hin1 hin2
     have hi3 := hI _ _ _ hin1 hin2 hin3
     have hsl := hS.len
     have hp0 : 0 ≤ placeP X Y ((k : Int) + 1) (i : Int) (q : Int) (m : Int) := (pl_lt hX hY hrd (show (m : Int) < dimP Y (q : Int) by omega)).1
     have hp1 : 0 ≤ placeP X Y (k : Int) (j : Int) (q : Int) (m : Int) := (pl_lt hX hY hcd (show (m : Int) < dimP Y (q : Int) by omega)).1
     have ek : (((k : Int) + 1 + (q : Int)) - 1).toNat = k + q := by omega
     refine den_draw TTok mixed [20] [(0, true), (1, true), (2, true), (3, true), (4, true), (5, true), (6, true), (7, true), (8, true), (9, true), (11, true), (12, true), (13, true), (14, true), (15, true), (16, true), (17, true), (19, true), (10, false), (18, false), (20, false)] (by kernel_rfl) ?_
     intro K hK
     simp -implicitDefEqProofs (disch := first | decide | assumption | omega) only [go_sem, ld31, RdS.len hdX sl22, RdS.idx hdX sl22, R1.intB hdX (Ext.pres eB), RdS.cells hdX, RdS.len hmX sl23, RdS.idx hmX sl23, RdS.cellB hmX (Ext.pres eB), RdS.cells hmX, RdS.len hdY sl22, RdS.idx hdY sl22, R1.intB hdY (Ext.pres eB), RdS.cells hdY, RdS.len hmY sl23, RdS.idx hmY sl23, RdS.cellB hmY (Ext.pres eB), RdS.cells hmY, RdS.len (OS.rd hom) sl23, RdS.idx (OS.rd hom) sl23, RdS.cellN (OS.rd hom), RdS.cells (OS.rd hom), BoxAt.cell hbO, BoxAt.cell hbY, BoxAt.cell hbX, wrap_id, Int.add_sub_cancel]
     try simp -implicitDefEqProofs (disch := first | decide | assumption | omega) only [go_sem, RdS.len hdX sl22, RdS.idx hdX sl22, R1.intB hdX (Ext.pres eB), RdS.cells hdX, RdS.len hmX sl23, RdS.idx hmX sl23, RdS.cellB hmX (Ext.pres eB), RdS.cells hmX, RdS.len hdY sl22, RdS.idx hdY sl22, R1.intB hdY (Ext.pres eB), RdS.cells hdY, RdS.len hmY sl23, RdS.idx hmY sl23, RdS.cellB hmY (Ext.pres eB), RdS.cells hmY, RdS.len (OS.rd hom) sl23, RdS.idx (OS.rd hom) sl23, RdS.cellN (OS.rd hom), RdS.cells (OS.rd hom), BoxAt.cell hbO, BoxAt.cell hbY, BoxAt.cell hbX, wrap_id, Int.add_sub_cancel]
     refine CallA.mono (iPlace_ok _ _ X Y _ _ _ _ _ ⟨_, _, rfl, (RdS.pres hdX (Ext.pres eB)), (RdS.pres hmX (Ext.pres eB))⟩ ⟨_, _, rfl, (RdS.pres hdY (Ext.pres eB)), (RdS.pres hmY (Ext.pres eB))⟩ hX hY (by omega) (by omega) (by omega) (by omega)) ?_
     intro v_ h6_10
     rintro ⟨rfl, e6_10⟩
     replace hom := OS.ext hom e6_10
     replace hbO := BoxAt.ext hbO e6_10
     replace hbY := BoxAt.ext hbY e6_10
     replace hbX := BoxAt.ext hbX e6_10
     replace rD := RdS.pres rD (Ext.pres e6_10)
     have := Ext.size e6_10
     replace eB := Ext.trans eB e6_10
     try simp (disch := decide) only [outv_some, outv_none, put_puts]
     refine plK_pres (Ext.pres e6_10) ?_
     try simp -implicitDefEqProofs (disch := first | decide | assumption | omega) only [go_sem, RdS.len hdX sl22, RdS.idx hdX sl22, R1.intB hdX (Ext.pres eB), RdS.cells hdX, RdS.len hmX sl23, RdS.idx hmX sl23, RdS.cellB hmX (Ext.pres eB), RdS.cells hmX, RdS.len hdY sl22, RdS.idx hdY sl22, R1.intB hdY (Ext.pres eB), RdS.cells hdY, RdS.len hmY sl23, RdS.idx hmY sl23, RdS.cellB hmY (Ext.pres eB), RdS.cells hmY, RdS.len (OS.rd hom) sl23, RdS.idx (OS.rd hom) sl23, RdS.cellN (OS.rd hom), RdS.cells (OS.rd hom), BoxAt.cell hbO, BoxAt.cell hbY, BoxAt.cell hbX, wrap_id, Int.add_sub_cancel]
     try simp -implicitDefEqProofs (disch := first | decide | assumption | omega) only [go_sem, RdS.len hdX sl22, RdS.idx hdX sl22, R1.intB hdX (Ext.pres eB), RdS.cells hdX, RdS.len hmX sl23, RdS.idx hmX sl23, RdS.cellB hmX (Ext.pres eB), RdS.cells hmX, RdS.len hdY sl22, RdS.idx hdY sl22, R1.intB hdY (Ext.pres eB), RdS.cells hdY, RdS.len hmY sl23, RdS.idx hmY sl23, RdS.cellB hmY (Ext.pres eB), RdS.cells hmY, RdS.len (OS.rd hom) sl23, RdS.idx (OS.rd hom) sl23, RdS.cellN (OS.rd hom), RdS.cells (OS.rd hom), BoxAt.cell hbO, BoxAt.cell hbY, BoxAt.cell hbX, wrap_id, Int.add_sub_cancel]
     refine CallA.mono (iPlace_ok _ _ X Y _ _ _ _ _ ⟨_, _, rfl, (RdS.pres hdX (Ext.pres eB)), (RdS.pres hmX (Ext.pres eB))⟩ ⟨_, _, rfl, (RdS.pres hdY (Ext.pres eB)), (RdS.pres hmY (Ext.pres eB))⟩ hX hY (by omega) (by omega) (by omega) (by omega)) ?_
     intro v_ h6_18
     rintro ⟨rfl, e6_18⟩
     replace hom := OS.ext hom e6_18
     replace hbO := BoxAt.ext hbO e6_18
     replace hbY := BoxAt.ext hbY e6_18
     replace hbX := BoxAt.ext hbX e6_18
     replace rD := RdS.pres rD (Ext.pres e6_18)
     have := Ext.size e6_18
     replace eB := Ext.trans eB e6_18
     try simp (disch := decide) only [outv_some, outv_none, put_puts]
     refine plK_pres (Ext.pres e6_18) ?_
     try simp -implicitDefEqProofs (disch := first | decide | assumption | omega) only [go_sem, RdS.len hdX sl22, RdS.idx hdX sl22, R1.intB hdX (Ext.pres eB), RdS.cells hdX, RdS.len hmX sl23, RdS.idx hmX sl23, RdS.cellB hmX (Ext.pres eB), RdS.cells hmX, RdS.len hdY sl22, RdS.idx hdY sl22, R1.intB hdY (Ext.pres eB), RdS.cells hdY, RdS.len hmY sl23, RdS.idx hmY sl23, RdS.cellB hmY (Ext.pres eB), RdS.cells hmY, RdS.len (OS.rd hom) sl23, RdS.idx (OS.rd hom) sl23, RdS.cellN (OS.rd hom), RdS.cells (OS.rd hom), BoxAt.cell hbO, BoxAt.cell hbY, BoxAt.cell hbX, wrap_id, Int.add_sub_cancel]
     try simp -implicitDefEqProofs (disch := first | decide | assumption | omega) only [go_sem, RdS.len hdX sl22, RdS.idx hdX sl22, R1.intB hdX (Ext.pres eB), RdS.cells hdX, RdS.len hmX sl23, RdS.idx hmX sl23, RdS.cellB hmX (Ext.pres eB), RdS.cells hmX, RdS.len hdY sl22, RdS.idx hdY sl22, R1.intB hdY (Ext.pres eB), RdS.cells hdY, RdS.len hmY sl23, RdS.idx hmY sl23, RdS.cellB hmY (Ext.pres eB), RdS.cells hmY, RdS.len (OS.rd hom) sl23, RdS.idx (OS.rd hom) sl23, RdS.cellN (OS.rd hom), RdS.cells (OS.rd hom), BoxAt.cell hbO, BoxAt.cell hbY, BoxAt.cell hbX, wrap_id, Int.add_sub_cancel]
     refine CallA.mono (addAt_ok X.p _ _ (tdP X Y) _ f _ _ _ _ _ rD hom hn hpb (by omega) ⟨by omega, by rw [ek, hr1]; omega⟩ ⟨by omega, by rw [ek, hr2]; omega⟩ (by rw [ek]; exact hi3) (by first | exact hsv | omega)) ?_
     intro v_ h6_20
     rintro ⟨rfl, hom2, cad⟩
     have hch2 := (hch.trans (Ext.chg (e6_10.trans e6_18) _)).trans cad
     have hOt2 := hot _ _ ((Ext.chg (e6_10.trans e6_18) f).trans cad) hOt
     replace eB := Ext.then eB cad hge
     rw [ek] at hom2
     try simp (disch := decide) only [outv_some, outv_none, put_puts]
     refine plK_last (by decide) ?_
     try simp -implicitDefEqProofs (disch := first | decide | assumption | omega) only [go_sem, RdS.len hdX sl22, RdS.idx hdX sl22, R1.intB hdX (Ext.pres eB), RdS.cells hdX, RdS.len hmX sl23, RdS.idx hmX sl23, RdS.cellB hmX (Ext.pres eB), RdS.cells hmX, RdS.len hdY sl22, RdS.idx hdY sl22, R1.intB hdY (Ext.pres eB), RdS.cells hdY, RdS.len hmY sl23, RdS.idx hmY sl23, RdS.cellB hmY (Ext.pres eB), RdS.cells hmY, RdS.len (OS.rd hom) sl23, RdS.idx (OS.rd hom) sl23, RdS.cellN (OS.rd hom), RdS.cells (OS.rd hom), BoxAt.cell hbO, BoxAt.cell hbY, BoxAt.cell hbX, wrap_id, Int.add_sub_cancel]
     refine hK _ _ ?_
     clear hK K
     refine den_blk ?_
     refine den_region TTok ?_
     intro K hK
     simp -implicitDefEqProofs (disch := first | decide | assumption | omega) only [go_sem, RdS.len hdX sl22, RdS.idx hdX sl22, R1.intB hdX (Ext.pres eB), RdS.cells hdX, RdS.len hmX sl23, RdS.idx hmX sl23, RdS.cellB hmX (Ext.pres eB), RdS.cells hmX, RdS.len hdY sl22, RdS.idx hdY sl22, R1.intB hdY (Ext.pres eB), RdS.cells hdY, RdS.len hmY sl23, RdS.idx hmY sl23, RdS.cellB hmY (Ext.pres eB), RdS.cells hmY, RdS.len (OS.rd hom) sl23, RdS.idx (OS.rd hom) sl23, RdS.cellN (OS.rd hom), RdS.cells (OS.rd hom), BoxAt.cell hbO, BoxAt.cell hbY, BoxAt.cell hbX, wrap_id, Int.add_sub_cancel]
     refine hK _ _ ?_
     clear hK K
     refine den_stop ?_
     refine ⟨m + 1, by simp [HasL, puts_at], ⟨eB, by omega, ?_, hch2, hOt2, hE _ hOt2⟩, by omega⟩
     rw [applyU_step]
     exact hom2
    ·try simp only [decide_eq_true_eq, decide_eq_false_iff_not, beq_iff_eq, beq_eq_false_iff_ne, bne_iff_ne, ne_eq, Bool.not_eq_true', Bool.not_eq_false', Bool.and_eq_true, Bool.or_eq_true, bne_eq_false_iff_eq] at c1
     refine den_exit ?_
     refine denX_code ?_
     refine denX_stop ?_
     refine denX_hit ?_
     refine den_blk ?_
     refine den_region TTok ?_
     intro K hK
     simp -implicitDefEqProofs (disch := first | decide | assumption | omega) only [go_sem, RdS.len hdX sl22, RdS.idx hdX sl22, R1.intB hdX (Ext.pres eB), RdS.cells hdX, RdS.len hmX sl23, RdS.idx hmX sl23, RdS.cellB hmX (Ext.pres eB), RdS.cells hmX, RdS.len hdY sl22, RdS.idx hdY sl22, R1.intB hdY (Ext.pres eB), RdS.cells hdY, RdS.len hmY sl23, RdS.idx hmY sl23, RdS.cellB hmY (Ext.pres eB), RdS.cells hmY, RdS.len (OS.rd hom) sl23, RdS.idx (OS.rd hom) sl23, RdS.cellN (OS.rd hom), RdS.cells (OS.rd hom), BoxAt.cell hbO, BoxAt.cell hbY, BoxAt.cell hbX, wrap_id, Int.add_sub_cancel]
     refine hK _ _ ?_
     clear hK K
     refine den_stop ?_
     refine ⟨q + 1, by simp [HasL, puts_at], ⟨eB, by omega, ?_, hch, hOt, hbO, hbY, hbX, rD⟩, by omega⟩
     rw [upL, applyU_app, show (dimP Y (q : Int)).toNat = m by omega]
     exact hom
  ·try simp only [decide_eq_true_eq, decide_eq_false_iff_not, beq_iff_eq, beq_eq_false_iff_ne, bne_iff_ne, ne_eq, Bool.not_eq_true', Bool.not_eq_false', Bool.and_eq_true, Bool.or_eq_true, bne_eq_false_iff_eq] at c0
   refine den_exit ?_
   refine denX_code ?_
   refine denX_stop ?_
   refine denX_hit ?_
   refine den_nil ?_
   simp (disch := decide) only [resP_0, puts_same, puts_ne]
   rw [tU1, show Y.dims.length = q by omega]
   exact ⟨by first | rfl | trivial, hom, hch⟩

set_option maxRecDepth 100000 in
theorem ten2_ok (X Y : Cx) (vdX vmX vdY vmY vD vw : Value) (M : M3) (f : List Nat) (k i j : Nat) (v : Int) (bO bY bX : Nat) (Ot : Heap → Prop) (h0 h : Heap) (hdX : R1 h0 vdX X.dims) (hmX : R3 h0 vmX X.maps) (hdY : R1 h0 vdY Y.dims) (hmY : R3 h0 vmY Y.maps) (hX : IsC X) (hY : IsC Y) (hi : i < (Y.maps.getD k default).length) (hj : j < ((Y.maps.getD k default).getD i default).length) (hv : -7 ≤ v ∧ v ≤ 7) (hom : O3 h vw M f) (hsh : Sh ((tdP X Y).length - 1) (tA X Y) (tB X Y) M) (hin : In3 X.p ((tdP X Y).length - 1) (tA X Y) (tB X Y) M) (hn : f.Nodup) (eB : Ext h0 h) (hge : ∀ b ∈ f, h0.size ≤ b) (hOt : Ot h) (hot : ∀ H H', Chg f H H' → Ot H → Ot H') (hE : ∀ H, Ot H → BoxAt H bO #[.int .i64 X.p, vD, vw] 31 ∧ BoxAt H bY #[.int .i64 Y.p, vdY, vmY] 31 ∧ BoxAt H bX #[.int .i64 X.p, vdX, vmX] 31 ∧ R1 H vD (tdP X Y)) : CallA Try.prog 199 #[.int .i64 ((k : Int) + 1), .int .i64 (i : Int), .int .i64 (j : Int), .int .i64 v, .pointer (some ⟨bX, 0, none⟩), .pointer (some ⟨bO, 0, none⟩), .pointer (some ⟨bY, 0, none⟩)] h fun v' h' => v' = .tuple #[] ∧ O3 h' vw (applyU X.p M (tU2 X Y k i j v)) f ∧ Chg f h h' := by
 obtain ⟨hbO, hbY, hbX, rD⟩ := hE _ hOt
 have hlX := hX.len
 have hlY := hY.len
 have hledX := RdS.le hdX
 have hledY := RdS.le hdY
 have hkm := maps_lt hi
 have hmm := hY.ml
 have hrd := row_dim hY hi
 have hcd := col_dim hY hi hj
 have hb1 := dimP_bnd hY ((k + 1 : Nat) : Int)
 have hb2 := dimP_bnd hY (k : Int)
 have hpb := isP_bnd hX.p
 have hlM := OS.lt hom
 refine callA_intro TTok (args := [_, _, _, _, _, _, _]) Try.func199 (by kernel_rfl) rfl 51 rfl (by simp) [] rfl ?_
 simp only [idxs, Nat.reduceAdd]
 refine den_seq ?_
 refine den_region TTok ?_
 intro K hK
 simp -implicitDefEqProofs (disch := first | decide | assumption | omega) only [go_sem, fa31_1, ld22, RdS.len hdX sl22, RdS.idx hdX sl22, R1.intB hdX (Ext.pres eB), RdS.cells hdX, RdS.len hmX sl23, RdS.idx hmX sl23, RdS.cellB hmX (Ext.pres eB), RdS.cells hmX, RdS.len hdY sl22, RdS.idx hdY sl22, R1.intB hdY (Ext.pres eB), RdS.cells hdY, RdS.len hmY sl23, RdS.idx hmY sl23, RdS.cellB hmY (Ext.pres eB), RdS.cells hmY, RdS.len (OS.rd hom) sl23, RdS.idx (OS.rd hom) sl23, RdS.cellN (OS.rd hom), RdS.cells (OS.rd hom), BoxAt.cell hbO, BoxAt.cell hbY, BoxAt.cell hbX, wrap_id, Int.add_sub_cancel]
 try simp -implicitDefEqProofs (disch := first | decide | assumption | omega) only [go_sem, RdS.len hdX sl22, RdS.idx hdX sl22, R1.intB hdX (Ext.pres eB), RdS.cells hdX, RdS.len hmX sl23, RdS.idx hmX sl23, RdS.cellB hmX (Ext.pres eB), RdS.cells hmX, RdS.len hdY sl22, RdS.idx hdY sl22, R1.intB hdY (Ext.pres eB), RdS.cells hdY, RdS.len hmY sl23, RdS.idx hmY sl23, RdS.cellB hmY (Ext.pres eB), RdS.cells hmY, RdS.len (OS.rd hom) sl23, RdS.idx (OS.rd hom) sl23, RdS.cellN (OS.rd hom), RdS.cells (OS.rd hom), BoxAt.cell hbO, BoxAt.cell hbY, BoxAt.cell hbX, wrap_id, Int.add_sub_cancel]
 refine CallA.pure (size1_ok _ _ _ (RdS.pres hdX (Ext.pres eB))) ?_
 try simp -implicitDefEqProofs (disch := first | decide | assumption | omega) only [go_sem, RdS.len hdX sl22, RdS.idx hdX sl22, R1.intB hdX (Ext.pres eB), RdS.cells hdX, RdS.len hmX sl23, RdS.idx hmX sl23, RdS.cellB hmX (Ext.pres eB), RdS.cells hmX, RdS.len hdY sl22, RdS.idx hdY sl22, R1.intB hdY (Ext.pres eB), RdS.cells hdY, RdS.len hmY sl23, RdS.idx hmY sl23, RdS.cellB hmY (Ext.pres eB), RdS.cells hmY, RdS.len (OS.rd hom) sl23, RdS.idx (OS.rd hom) sl23, RdS.cellN (OS.rd hom), RdS.cells (OS.rd hom), BoxAt.cell hbO, BoxAt.cell hbY, BoxAt.cell hbX, wrap_id, Int.add_sub_cancel]
 refine hK _ _ ?_
 clear hK K
 refine den_block ?_
 refine den_sel [16, 0, 1, 2, 3, 4, 5, 6, 15] ?_
 intro env_1
 simp only [go_sem]
 refine den_loopS (σ := Nat) (fun s => [(16, .int .i64 (s : Int))]) (fun s H => Ext h0 H ∧ s ≤ X.dims.length ∧ O3 H vw (applyU X.p M (upL (tF2 X Y k i j v) (fun q => (dimP X q).toNat) s)) f ∧ Chg f h H ∧ Ot H ∧ BoxAt H bO #[.int .i64 X.p, vD, vw] 31 ∧ BoxAt H bY #[.int .i64 Y.p, vdY, vmY] 31 ∧ BoxAt H bX #[.int .i64 X.p, vdX, vmX] 31 ∧ R1 H vD (tdP X Y)) (fun s => X.dims.length - s) 0 ?_ ?_
 ·exact ⟨eB, by omega, by rw [upL, applyU]; exact hom, Chg.refl _ _, hOt, hE _ hOt⟩
 ·rintro q h4 ee3 ⟨eB, hq, hom, hch, hOt, hbO, hbY, hbX, rD⟩
  simp only [List.cons_append, List.nil_append]
  have := Ext.size eB
  refine den_seq ?_
  refine den_region TTok ?_
  intro K hK
  simp -implicitDefEqProofs (disch := first | decide | assumption | omega) only [go_sem, RdS.len hdX sl22, RdS.idx hdX sl22, R1.intB hdX (Ext.pres eB), RdS.cells hdX, RdS.len hmX sl23, RdS.idx hmX sl23, RdS.cellB hmX (Ext.pres eB), RdS.cells hmX, RdS.len hdY sl22, RdS.idx hdY sl22, R1.intB hdY (Ext.pres eB), RdS.cells hdY, RdS.len hmY sl23, RdS.idx hmY sl23, RdS.cellB hmY (Ext.pres eB), RdS.cells hmY, RdS.len (OS.rd hom) sl23, RdS.idx (OS.rd hom) sl23, RdS.cellN (OS.rd hom), RdS.cells (OS.rd hom), BoxAt.cell hbO, BoxAt.cell hbY, BoxAt.cell hbX, wrap_id, Int.add_sub_cancel]
  refine hK _ _ ?_
  clear hK K
  refine den_seq ?_
  refine den_cond rfl (fun c0 => ?_) (fun c0 => ?_)
  ·try simp only [decide_eq_true_eq, decide_eq_false_iff_not, beq_iff_eq, beq_eq_false_iff_ne, bne_iff_ne, ne_eq, Bool.not_eq_true', Bool.not_eq_false', Bool.and_eq_true, Bool.or_eq_true, bne_eq_false_iff_eq] at c0
   refine den_skip ?_
   refine den_seq ?_
   refine den_block ?_
   refine den_seq ?_
   refine den_region TTok ?_
   intro K hK
   simp -implicitDefEqProofs (disch := first | decide | assumption | omega) only [go_sem, RdS.len hdX sl22, RdS.idx hdX sl22, R1.intB hdX (Ext.pres eB), RdS.cells hdX, RdS.len hmX sl23, RdS.idx hmX sl23, RdS.cellB hmX (Ext.pres eB), RdS.cells hmX, RdS.len hdY sl22, RdS.idx hdY sl22, R1.intB hdY (Ext.pres eB), RdS.cells hdY, RdS.len hmY sl23, RdS.idx hmY sl23, RdS.cellB hmY (Ext.pres eB), RdS.cells hmY, RdS.len (OS.rd hom) sl23, RdS.idx (OS.rd hom) sl23, RdS.cellN (OS.rd hom), RdS.cells (OS.rd hom), BoxAt.cell hbO, BoxAt.cell hbY, BoxAt.cell hbX, wrap_id, Int.add_sub_cancel]
   refine hK _ _ ?_
   clear hK K
   refine den_seq ?_
   have hbq := dimP_bnd hX (q : Int)
   refine den_region TTok ?_
   intro K hK
   simp -implicitDefEqProofs (disch := first | decide | assumption | omega) only [go_sem, ld31, RdS.len hdX sl22, RdS.idx hdX sl22, R1.intB hdX (Ext.pres eB), RdS.cells hdX, RdS.len hmX sl23, RdS.idx hmX sl23, RdS.cellB hmX (Ext.pres eB), RdS.cells hmX, RdS.len hdY sl22, RdS.idx hdY sl22, R1.intB hdY (Ext.pres eB), RdS.cells hdY, RdS.len hmY sl23, RdS.idx hmY sl23, RdS.cellB hmY (Ext.pres eB), RdS.cells hmY, RdS.len (OS.rd hom) sl23, RdS.idx (OS.rd hom) sl23, RdS.cellN (OS.rd hom), RdS.cells (OS.rd hom), BoxAt.cell hbO, BoxAt.cell hbY, BoxAt.cell hbX, wrap_id, Int.add_sub_cancel]
   try simp -implicitDefEqProofs (disch := first | decide | assumption | omega) only [go_sem, RdS.len hdX sl22, RdS.idx hdX sl22, R1.intB hdX (Ext.pres eB), RdS.cells hdX, RdS.len hmX sl23, RdS.idx hmX sl23, RdS.cellB hmX (Ext.pres eB), RdS.cells hmX, RdS.len hdY sl22, RdS.idx hdY sl22, R1.intB hdY (Ext.pres eB), RdS.cells hdY, RdS.len hmY sl23, RdS.idx hmY sl23, RdS.cellB hmY (Ext.pres eB), RdS.cells hmY, RdS.len (OS.rd hom) sl23, RdS.idx (OS.rd hom) sl23, RdS.cellN (OS.rd hom), RdS.cells (OS.rd hom), BoxAt.cell hbO, BoxAt.cell hbY, BoxAt.cell hbX, wrap_id, Int.add_sub_cancel]
   refine CallA.mono (iDim_ok _ X _ _ ⟨_, _, rfl, (RdS.pres hdX (Ext.pres eB)), (RdS.pres hmX (Ext.pres eB))⟩) ?_
   intro v_ h3_2
   rintro ⟨rfl, e3_2⟩
   replace hom := OS.ext hom e3_2
   replace hbO := BoxAt.ext hbO e3_2
   replace hbY := BoxAt.ext hbY e3_2
   replace hbX := BoxAt.ext hbX e3_2
   replace rD := RdS.pres rD (Ext.pres e3_2)
   have := Ext.size e3_2
   replace eB := Ext.trans eB e3_2
   try simp -implicitDefEqProofs (disch := first | decide | assumption | omega) only [go_sem, RdS.len hdX sl22, RdS.idx hdX sl22, R1.intB hdX (Ext.pres eB), RdS.cells hdX, RdS.len hmX sl23, RdS.idx hmX sl23, RdS.cellB hmX (Ext.pres eB), RdS.cells hmX, RdS.len hdY sl22, RdS.idx hdY sl22, R1.intB hdY (Ext.pres eB), RdS.cells hdY, RdS.len hmY sl23, RdS.idx hmY sl23, RdS.cellB hmY (Ext.pres eB), RdS.cells hmY, RdS.len (OS.rd hom) sl23, RdS.idx (OS.rd hom) sl23, RdS.cellN (OS.rd hom), RdS.cells (OS.rd hom), BoxAt.cell hbO, BoxAt.cell hbY, BoxAt.cell hbX, wrap_id, Int.add_sub_cancel]
   refine hK _ _ ?_
   clear hK K
   refine den_block ?_
   refine den_sel [22, 0, 1, 2, 3, 4, 5, 6, 11, 15, 16, 21] ?_
   intro env_5
   simp only [go_sem]
   refine den_loopS (σ := Nat) (fun s => [(22, .int .i64 (s : Int))]) (fun s H => Ext h0 H ∧ (s : Int) ≤ dimP X (q : Int) ∧ O3 H vw (applyU X.p (applyU X.p M (upL (tF2 X Y k i j v) (fun q => (dimP X q).toNat) q)) ((List.range s).map (tF2 X Y k i j v q))) f ∧ Chg f h H ∧ Ot H ∧ BoxAt H bO #[.int .i64 X.p, vD, vw] 31 ∧ BoxAt H bY #[.int .i64 Y.p, vdY, vmY] 31 ∧ BoxAt H bX #[.int .i64 X.p, vdX, vmX] 31 ∧ R1 H vD (tdP X Y)) (fun s => (dimP X (q : Int)).toNat - s) 0 ?_ ?_
   ·exact ⟨eB, by omega, hom, hch.trans (Ext.chg e3_2 _), hot _ _ (Ext.chg e3_2 _) hOt, hE _ (hot _ _ (Ext.chg e3_2 _) hOt)⟩
   ·rintro m h8 ee7 ⟨eB, hm, hom, hch, hOt, hbO, hbY, hbX, rD⟩
    simp only [List.cons_append, List.nil_append]
    have := Ext.size eB
    refine den_seq ?_
    refine den_region TTok ?_
    intro K hK
    simp -implicitDefEqProofs (disch := first | decide | assumption | omega) only [go_sem, RdS.len hdX sl22, RdS.idx hdX sl22, R1.intB hdX (Ext.pres eB), RdS.cells hdX, RdS.len hmX sl23, RdS.idx hmX sl23, RdS.cellB hmX (Ext.pres eB), RdS.cells hmX, RdS.len hdY sl22, RdS.idx hdY sl22, R1.intB hdY (Ext.pres eB), RdS.cells hdY, RdS.len hmY sl23, RdS.idx hmY sl23, RdS.cellB hmY (Ext.pres eB), RdS.cells hmY, RdS.len (OS.rd hom) sl23, RdS.idx (OS.rd hom) sl23, RdS.cellN (OS.rd hom), RdS.cells (OS.rd hom), BoxAt.cell hbO, BoxAt.cell hbY, BoxAt.cell hbX, wrap_id, Int.add_sub_cancel]
    refine hK _ _ ?_
    clear hK K
    refine den_seq ?_
    refine den_cond rfl (fun c1 => ?_) (fun c1 => ?_)
    ·try simp only [decide_eq_true_eq, decide_eq_false_iff_not, beq_iff_eq, beq_eq_false_iff_ne, bne_iff_ne, ne_eq, Bool.not_eq_true', Bool.not_eq_false', Bool.and_eq_true, Bool.or_eq_true, bne_eq_false_iff_eq] at c1
     refine den_skip ?_
     refine den_seq ?_
     refine den_block ?_
     refine den_seq ?_
     refine den_region TTok ?_
     intro K hK
     simp -implicitDefEqProofs (disch := first | decide | assumption | omega) only [go_sem, RdS.len hdX sl22, RdS.idx hdX sl22, R1.intB hdX (Ext.pres eB), RdS.cells hdX, RdS.len hmX sl23, RdS.idx hmX sl23, RdS.cellB hmX (Ext.pres eB), RdS.cells hmX, RdS.len hdY sl22, RdS.idx hdY sl22, R1.intB hdY (Ext.pres eB), RdS.cells hdY, RdS.len hmY sl23, RdS.idx hmY sl23, RdS.cellB hmY (Ext.pres eB), RdS.cells hmY, RdS.len (OS.rd hom) sl23, RdS.idx (OS.rd hom) sl23, RdS.cellN (OS.rd hom), RdS.cells (OS.rd hom), BoxAt.cell hbO, BoxAt.cell hbY, BoxAt.cell hbX, wrap_id, Int.add_sub_cancel]
     refine hK _ _ ?_
     clear hK K
     have hS := applyU_sh (p := X.p) (applyU_sh (p := X.p) hsh (t_all2 hX hY (v := v) hi hj q)) (t_row2 hX hY (v := v) hi hj q m (by omega))
     have hI := applyU_in hpb.1 (applyU_sh (p := X.p) hsh (t_all2 hX hY (v := v) hi hj q)) (applyU_in hpb.1 hsh hin (t_all2 hX hY (v := v) hi hj q)) (t_row2 hX hY (v := v) hi hj q m (by omega))
     have hiu := t_in2 hX hY (v := v) hi hj (q := q) (m := m) (by omega)
     have hin1 : q + k < (tdP X Y).length - 1 := hiu.1
     have hin2 : (placeP X Y (q : Int) (m : Int) ((k : Int) + 1) (i : Int)).toNat < tA X Y (q + k) := hiu.2.1
     have hin3 : (placeP X Y (q : Int) (m : Int) (k : Int) (j : Int)).toNat < tB X Y (q + k) := hiu.2.2
     have hr1 := hS.rows _ hin1
     have hr2 := hS.cols _ _ hin1 hin2
     have hi3 := hI _ _ _ hin1 hin2 hin3
     have hsl := hS.len
     have hp0 : 0 ≤ placeP X Y (q : Int) (m : Int) ((k : Int) + 1) (i : Int) := (pl_lt hX hY (show (m : Int) < dimP X (q : Int) by omega) hrd).1
     have hp1 : 0 ≤ placeP X Y (q : Int) (m : Int) (k : Int) (j : Int) := (pl_lt hX hY (show (m : Int) < dimP X (q : Int) by omega) hcd).1
     have ek : (((q : Int) + ((k : Int) + 1)) - 1).toNat = q + k := by omega
     have hsv := sg_v (q := q) hv
     have htm := tmod_in (p := 2) (x := (q : Int)) (by decide)
     refine den_draw TTok mixed [23] [(0, true), (1, true), (2, true), (3, true), (4, true), (5, true), (6, true), (7, true), (8, true), (9, true), (11, true), (12, true), (13, true), (14, true), (15, true), (16, true), (17, true), (19, true), (21, true), (10, false), (18, false), (20, false), (22, true), (23, false)] (by kernel_rfl) ?_
     intro K hK
     simp -implicitDefEqProofs (disch := first | decide | assumption | omega) only [go_sem, ld31, RdS.len hdX sl22, RdS.idx hdX sl22, R1.intB hdX (Ext.pres eB), RdS.cells hdX, RdS.len hmX sl23, RdS.idx hmX sl23, RdS.cellB hmX (Ext.pres eB), RdS.cells hmX, RdS.len hdY sl22, RdS.idx hdY sl22, R1.intB hdY (Ext.pres eB), RdS.cells hdY, RdS.len hmY sl23, RdS.idx hmY sl23, RdS.cellB hmY (Ext.pres eB), RdS.cells hmY, RdS.len (OS.rd hom) sl23, RdS.idx (OS.rd hom) sl23, RdS.cellN (OS.rd hom), RdS.cells (OS.rd hom), BoxAt.cell hbO, BoxAt.cell hbY, BoxAt.cell hbX, wrap_id, Int.add_sub_cancel]
     try simp -implicitDefEqProofs (disch := first | decide | assumption | omega) only [go_sem, RdS.len hdX sl22, RdS.idx hdX sl22, R1.intB hdX (Ext.pres eB), RdS.cells hdX, RdS.len hmX sl23, RdS.idx hmX sl23, RdS.cellB hmX (Ext.pres eB), RdS.cells hmX, RdS.len hdY sl22, RdS.idx hdY sl22, R1.intB hdY (Ext.pres eB), RdS.cells hdY, RdS.len hmY sl23, RdS.idx hmY sl23, RdS.cellB hmY (Ext.pres eB), RdS.cells hmY, RdS.len (OS.rd hom) sl23, RdS.idx (OS.rd hom) sl23, RdS.cellN (OS.rd hom), RdS.cells (OS.rd hom), BoxAt.cell hbO, BoxAt.cell hbY, BoxAt.cell hbX, wrap_id, Int.add_sub_cancel]
     refine CallA.mono (iPlace_ok _ _ X Y _ _ _ _ _ ⟨_, _, rfl, (RdS.pres hdX (Ext.pres eB)), (RdS.pres hmX (Ext.pres eB))⟩ ⟨_, _, rfl, (RdS.pres hdY (Ext.pres eB)), (RdS.pres hmY (Ext.pres eB))⟩ hX hY (by omega) (by omega) (by omega) (by omega)) ?_
     intro v_ h6_10
     rintro ⟨rfl, e6_10⟩
     replace hom := OS.ext hom e6_10
     replace hbO := BoxAt.ext hbO e6_10
     replace hbY := BoxAt.ext hbY e6_10
     replace hbX := BoxAt.ext hbX e6_10
     replace rD := RdS.pres rD (Ext.pres e6_10)
     have := Ext.size e6_10
     replace eB := Ext.trans eB e6_10
     try simp (disch := decide) only [outv_some, outv_none, put_puts]
     refine plK_pres (Ext.pres e6_10) ?_
     try simp -implicitDefEqProofs (disch := first | decide | assumption | omega) only [go_sem, RdS.len hdX sl22, RdS.idx hdX sl22, R1.intB hdX (Ext.pres eB), RdS.cells hdX, RdS.len hmX sl23, RdS.idx hmX sl23, RdS.cellB hmX (Ext.pres eB), RdS.cells hmX, RdS.len hdY sl22, RdS.idx hdY sl22, R1.intB hdY (Ext.pres eB), RdS.cells hdY, RdS.len hmY sl23, RdS.idx hmY sl23, RdS.cellB hmY (Ext.pres eB), RdS.cells hmY, RdS.len (OS.rd hom) sl23, RdS.idx (OS.rd hom) sl23, RdS.cellN (OS.rd hom), RdS.cells (OS.rd hom), BoxAt.cell hbO, BoxAt.cell hbY, BoxAt.cell hbX, wrap_id, Int.add_sub_cancel]
     try simp -implicitDefEqProofs (disch := first | decide | assumption | omega) only [go_sem, RdS.len hdX sl22, RdS.idx hdX sl22, R1.intB hdX (Ext.pres eB), RdS.cells hdX, RdS.len hmX sl23, RdS.idx hmX sl23, RdS.cellB hmX (Ext.pres eB), RdS.cells hmX, RdS.len hdY sl22, RdS.idx hdY sl22, R1.intB hdY (Ext.pres eB), RdS.cells hdY, RdS.len hmY sl23, RdS.idx hmY sl23, RdS.cellB hmY (Ext.pres eB), RdS.cells hmY, RdS.len (OS.rd hom) sl23, RdS.idx (OS.rd hom) sl23, RdS.cellN (OS.rd hom), RdS.cells (OS.rd hom), BoxAt.cell hbO, BoxAt.cell hbY, BoxAt.cell hbX, wrap_id, Int.add_sub_cancel]
     refine CallA.mono (iPlace_ok _ _ X Y _ _ _ _ _ ⟨_, _, rfl, (RdS.pres hdX (Ext.pres eB)), (RdS.pres hmX (Ext.pres eB))⟩ ⟨_, _, rfl, (RdS.pres hdY (Ext.pres eB)), (RdS.pres hmY (Ext.pres eB))⟩ hX hY (by omega) (by omega) (by omega) (by omega)) ?_
     intro v_ h6_18
     rintro ⟨rfl, e6_18⟩
     replace hom := OS.ext hom e6_18
     replace hbO := BoxAt.ext hbO e6_18
     replace hbY := BoxAt.ext hbY e6_18
     replace hbX := BoxAt.ext hbX e6_18
     replace rD := RdS.pres rD (Ext.pres e6_18)
     have := Ext.size e6_18
     replace eB := Ext.trans eB e6_18
     try simp (disch := decide) only [outv_some, outv_none, put_puts]
     refine plK_pres (Ext.pres e6_18) ?_
     try simp -implicitDefEqProofs (disch := first | decide | assumption | omega) only [go_sem, RdS.len hdX sl22, RdS.idx hdX sl22, R1.intB hdX (Ext.pres eB), RdS.cells hdX, RdS.len hmX sl23, RdS.idx hmX sl23, RdS.cellB hmX (Ext.pres eB), RdS.cells hmX, RdS.len hdY sl22, RdS.idx hdY sl22, R1.intB hdY (Ext.pres eB), RdS.cells hdY, RdS.len hmY sl23, RdS.idx hmY sl23, RdS.cellB hmY (Ext.pres eB), RdS.cells hmY, RdS.len (OS.rd hom) sl23, RdS.idx (OS.rd hom) sl23, RdS.cellN (OS.rd hom), RdS.cells (OS.rd hom), BoxAt.cell hbO, BoxAt.cell hbY, BoxAt.cell hbX, wrap_id, Int.add_sub_cancel]
     try simp -implicitDefEqProofs (disch := first | decide | assumption | omega) only [go_sem, RdS.len hdX sl22, RdS.idx hdX sl22, R1.intB hdX (Ext.pres eB), RdS.cells hdX, RdS.len hmX sl23, RdS.idx hmX sl23, RdS.cellB hmX (Ext.pres eB), RdS.cells hmX, RdS.len hdY sl22, RdS.idx hdY sl22, R1.intB hdY (Ext.pres eB), RdS.cells hdY, RdS.len hmY sl23, RdS.idx hmY sl23, RdS.cellB hmY (Ext.pres eB), RdS.cells hmY, RdS.len (OS.rd hom) sl23, RdS.idx (OS.rd hom) sl23, RdS.cellN (OS.rd hom), RdS.cells (OS.rd hom), BoxAt.cell hbO, BoxAt.cell hbY, BoxAt.cell hbX, wrap_id, Int.add_sub_cancel]
     refine CallA.mono (iSign_ok  (q : Int) _  (by omega)) ?_
     intro v_ h6_20
     rintro ⟨rfl, e6_20⟩
     replace hom := OS.ext hom e6_20
     replace hbO := BoxAt.ext hbO e6_20
     replace hbY := BoxAt.ext hbY e6_20
     replace hbX := BoxAt.ext hbX e6_20
     replace rD := RdS.pres rD (Ext.pres e6_20)
     have := Ext.size e6_20
     replace eB := Ext.trans eB e6_20
     try simp (disch := decide) only [outv_some, outv_none, put_puts]
     refine plK_pres (Ext.pres e6_20) ?_
     try simp -implicitDefEqProofs (disch := first | decide | assumption | omega) only [go_sem, RdS.len hdX sl22, RdS.idx hdX sl22, R1.intB hdX (Ext.pres eB), RdS.cells hdX, RdS.len hmX sl23, RdS.idx hmX sl23, RdS.cellB hmX (Ext.pres eB), RdS.cells hmX, RdS.len hdY sl22, RdS.idx hdY sl22, R1.intB hdY (Ext.pres eB), RdS.cells hdY, RdS.len hmY sl23, RdS.idx hmY sl23, RdS.cellB hmY (Ext.pres eB), RdS.cells hmY, RdS.len (OS.rd hom) sl23, RdS.idx (OS.rd hom) sl23, RdS.cellN (OS.rd hom), RdS.cells (OS.rd hom), BoxAt.cell hbO, BoxAt.cell hbY, BoxAt.cell hbX, wrap_id, Int.add_sub_cancel]
     try simp -implicitDefEqProofs (disch := first | decide | assumption | omega) only [go_sem, RdS.len hdX sl22, RdS.idx hdX sl22, R1.intB hdX (Ext.pres eB), RdS.cells hdX, RdS.len hmX sl23, RdS.idx hmX sl23, RdS.cellB hmX (Ext.pres eB), RdS.cells hmX, RdS.len hdY sl22, RdS.idx hdY sl22, R1.intB hdY (Ext.pres eB), RdS.cells hdY, RdS.len hmY sl23, RdS.idx hmY sl23, RdS.cellB hmY (Ext.pres eB), RdS.cells hmY, RdS.len (OS.rd hom) sl23, RdS.idx (OS.rd hom) sl23, RdS.cellN (OS.rd hom), RdS.cells (OS.rd hom), BoxAt.cell hbO, BoxAt.cell hbY, BoxAt.cell hbX, wrap_id, Int.add_sub_cancel]
     refine CallA.mono (addAt_ok X.p _ _ (tdP X Y) _ f _ _ _ _ _ rD hom hn hpb (by omega) ⟨by omega, by rw [ek, hr1]; omega⟩ ⟨by omega, by rw [ek, hr2]; omega⟩ (by rw [ek]; exact hi3) (by first | exact hsv | omega)) ?_
     intro v_ h6_23
     rintro ⟨rfl, hom2, cad⟩
     have hch2 := (hch.trans (Ext.chg ((e6_10.trans e6_18).trans e6_20) _)).trans cad
     have hOt2 := hot _ _ ((Ext.chg ((e6_10.trans e6_18).trans e6_20) f).trans cad) hOt
     replace eB := Ext.then eB cad hge
     rw [ek] at hom2
     try simp (disch := decide) only [outv_some, outv_none, put_puts]
     refine plK_last (by decide) ?_
     try simp -implicitDefEqProofs (disch := first | decide | assumption | omega) only [go_sem, RdS.len hdX sl22, RdS.idx hdX sl22, R1.intB hdX (Ext.pres eB), RdS.cells hdX, RdS.len hmX sl23, RdS.idx hmX sl23, RdS.cellB hmX (Ext.pres eB), RdS.cells hmX, RdS.len hdY sl22, RdS.idx hdY sl22, R1.intB hdY (Ext.pres eB), RdS.cells hdY, RdS.len hmY sl23, RdS.idx hmY sl23, RdS.cellB hmY (Ext.pres eB), RdS.cells hmY, RdS.len (OS.rd hom) sl23, RdS.idx (OS.rd hom) sl23, RdS.cellN (OS.rd hom), RdS.cells (OS.rd hom), BoxAt.cell hbO, BoxAt.cell hbY, BoxAt.cell hbX, wrap_id, Int.add_sub_cancel]
     refine hK _ _ ?_
     clear hK K
     refine den_blk ?_
     refine den_region TTok ?_
     intro K hK
     simp -implicitDefEqProofs (disch := first | decide | assumption | omega) only [go_sem, RdS.len hdX sl22, RdS.idx hdX sl22, R1.intB hdX (Ext.pres eB), RdS.cells hdX, RdS.len hmX sl23, RdS.idx hmX sl23, RdS.cellB hmX (Ext.pres eB), RdS.cells hmX, RdS.len hdY sl22, RdS.idx hdY sl22, R1.intB hdY (Ext.pres eB), RdS.cells hdY, RdS.len hmY sl23, RdS.idx hmY sl23, RdS.cellB hmY (Ext.pres eB), RdS.cells hmY, RdS.len (OS.rd hom) sl23, RdS.idx (OS.rd hom) sl23, RdS.cellN (OS.rd hom), RdS.cells (OS.rd hom), BoxAt.cell hbO, BoxAt.cell hbY, BoxAt.cell hbX, wrap_id, Int.add_sub_cancel]
     refine hK _ _ ?_
     clear hK K
     refine den_stop ?_
     refine ⟨m + 1, by simp [HasL, puts_at], ⟨eB, by omega, ?_, hch2, hOt2, hE _ hOt2⟩, by omega⟩
     rw [applyU_step]
     exact hom2
    ·try simp only [decide_eq_true_eq, decide_eq_false_iff_not, beq_iff_eq, beq_eq_false_iff_ne, bne_iff_ne, ne_eq, Bool.not_eq_true', Bool.not_eq_false', Bool.and_eq_true, Bool.or_eq_true, bne_eq_false_iff_eq] at c1
     refine den_exit ?_
     refine denX_code ?_
     refine denX_stop ?_
     refine denX_hit ?_
     refine den_blk ?_
     refine den_region TTok ?_
     intro K hK
     simp -implicitDefEqProofs (disch := first | decide | assumption | omega) only [go_sem, RdS.len hdX sl22, RdS.idx hdX sl22, R1.intB hdX (Ext.pres eB), RdS.cells hdX, RdS.len hmX sl23, RdS.idx hmX sl23, RdS.cellB hmX (Ext.pres eB), RdS.cells hmX, RdS.len hdY sl22, RdS.idx hdY sl22, R1.intB hdY (Ext.pres eB), RdS.cells hdY, RdS.len hmY sl23, RdS.idx hmY sl23, RdS.cellB hmY (Ext.pres eB), RdS.cells hmY, RdS.len (OS.rd hom) sl23, RdS.idx (OS.rd hom) sl23, RdS.cellN (OS.rd hom), RdS.cells (OS.rd hom), BoxAt.cell hbO, BoxAt.cell hbY, BoxAt.cell hbX, wrap_id, Int.add_sub_cancel]
     refine hK _ _ ?_
     clear hK K
     refine den_stop ?_
     refine ⟨q + 1, by simp [HasL, puts_at], ⟨eB, by omega, ?_, hch, hOt, hbO, hbY, hbX, rD⟩, by omega⟩
     rw [upL, applyU_app, show (dimP X (q : Int)).toNat = m by omega]
     exact hom
  ·try simp only [decide_eq_true_eq, decide_eq_false_iff_not, beq_iff_eq, beq_eq_false_iff_ne, bne_iff_ne, ne_eq, Bool.not_eq_true', Bool.not_eq_false', Bool.and_eq_true, Bool.or_eq_true, bne_eq_false_iff_eq] at c0
   refine den_exit ?_
   refine denX_code ?_
   refine denX_stop ?_
   refine denX_hit ?_
   refine den_nil ?_
   simp (disch := decide) only [resP_0, puts_same, puts_ne]
   rw [tU2, show X.dims.length = q by omega]
   exact ⟨by first | rfl | trivial, hom, hch⟩
end Go.Proofs.Ytjjjgllbocgkbaa

namespace Go.Proofs.Ytjjjgllbocgkbaa
open Go
def fitP (D : List Int) : Bool := D.all (fun x => decide (x ≤ 8)) && decide ((D.length : Int) ≤ 6)
noncomputable def teP (X Y : Cx) : Cx × Int := if fitP (tdP X Y) = true then (⟨X.p, tdP X Y, tT X Y⟩, 0) else (⟨0, [], []⟩, 3)
theorem fit_no {D : List Int} (c : 6 < (D.length : Int) ∨ (D.any fun x => decide (8 < x)) = true) : ¬ fitP D = true := fun h => by
 rw [fitP, Bool.and_eq_true] at h
 rcases c with c | c
 ·have := of_decide_eq_true h.2; omega
 ·obtain ⟨x, hx, h8⟩ := List.any_eq_true.1 c
  have h8 : 8 < x := by simpa using h8
  have := of_decide_eq_true (List.all_eq_true.1 h.1 x hx)
  omega
theorem fit_yes {D : List Int} (c1 : (D.length : Int) ≤ 6) (c2 : (D.any fun x => decide (8 < x)) = false) : fitP D = true := by
 rw [fitP, Bool.and_eq_true]
 refine ⟨List.all_eq_true.2 fun x hx => ?_, decide_eq_true c1⟩
 have := List.any_eq_false.1 c2 x hx
 have : ¬ 8 < x := by simpa using this
 exact decide_eq_true (by omega)
theorem fit_len {D : List Int} (h : fitP D = true) : (D.length : Int) ≤ 6 := by
 rw [fitP, Bool.and_eq_true] at h
 exact of_decide_eq_true h.2
theorem fit_all {X Y : Cx} (hX : IsC X) (hY : IsC Y) (h : fitP (tdP X Y) = true) : (tdP X Y).all (fun x => in3 x 0 8) = true := List.all_eq_true.2 fun x hx => in3_iff.2 ⟨by
 obtain ⟨q, _, rfl⟩ := List.mem_map.1 hx
 exact (sumP_bnd hX hY (q : Int) (q + 1)).1, by
 rw [fitP, Bool.and_eq_true] at h
 exact of_decide_eq_true (List.all_eq_true.1 h.1 x hx)⟩
theorem place_next (X Y : Cx) (i a j b : Int) (hi : 0 ≤ i) : placeP X Y i a j (dimP Y j) = placeP X Y i (a + 1) j 0 ∧ placeP X Y i a j (b + 1) = placeP X Y i a j b + 1 ∧ placeP X Y i 0 j 0 = sumP X Y (i + j) i.toNat ∧ placeP X Y i (dimP X i) j 0 = sumP X Y (i + j) (i.toNat + 1) := by
 refine ⟨?_, ?_, ?_, ?_⟩
 ·unfold placeP; rw [Int.add_mul, Int.one_mul]; omega
 ·unfold placeP; omega
 ·unfold placeP; omega
 ·rw [sumP, Int.toNat_of_nonneg hi, show i + j - i = j by omega]; unfold placeP; omega
set_option maxRecDepth 100000 in
theorem sFits_ok (vD : Value) (D : List Int) (h : Heap) (rD : R1 h vD D)  : CallA Try.prog 124 #[vD] h fun v' h' => v' = .bool (fitP D) ∧ Ext h h' := by
 have hleD := RdS.le rD
 refine callA_intro TTok (args := [_]) Try.func124 (by kernel_rfl) rfl 18 rfl (by simp) [.tmp 2] rfl ?_
 simp only [idxs, Nat.reduceAdd]
 refine den_seq ?_
 refine den_region TTok ?_
 intro K hK
 simp -implicitDefEqProofs (disch := first | decide | assumption | omega) only [go_sem, RdS.len rD sl22, RdS.idx rD sl22, R1.intB rD (HPres.refl _), RdS.cells rD, wrap_id]
 refine hK _ _ ?_
 clear hK K
 refine den_seq ?_
 refine den_seq ?_
 refine den_region TTok ?_
 intro K hK
 simp -implicitDefEqProofs (disch := first | decide | assumption | omega) only [go_sem, RdS.len rD sl22, RdS.idx rD sl22, R1.intB rD (HPres.refl _), RdS.cells rD, wrap_id]
 refine hK _ _ ?_
 clear hK K
 refine den_block ?_
 refine den_sel [3, 0] ?_
 intro env_1
 simp only [go_sem]
 refine den_loopP (σ := Nat) (fun st_ => [(3, .int .i64 (st_ : Int))]) (fun st_ => (st_ ≤ D.length) ∧ ((D.take st_).all (fun x => decide (x ≤ 8)) = true)) (fun st_ => D.length - st_) 0 ?_ ?_
 ·exact ⟨by simp, by simp⟩
 ·rintro k ee2 ⟨hk_, hz⟩
  simp only [List.cons_append, List.nil_append]
  refine den_seq ?_
  refine den_seq ?_
  refine den_region TTok ?_
  intro K hK
  simp -implicitDefEqProofs (disch := first | decide | assumption | omega) only [go_sem, RdS.len rD sl22, RdS.idx rD sl22, R1.intB rD (HPres.refl _), RdS.cells rD, wrap_id]
  refine hK _ _ ?_
  clear hK K
  refine den_cond rfl (fun c0 => ?_) (fun c0 => ?_)
  ·try simp only [decide_eq_true_eq, decide_eq_false_iff_not, beq_iff_eq, beq_eq_false_iff_ne, bne_iff_ne, ne_eq, Bool.not_eq_true', Bool.not_eq_false', Bool.and_eq_true, Bool.or_eq_true, bne_eq_false_iff_eq] at c0
   refine den_skip ?_
   refine den_seq ?_
   refine den_block ?_
   refine den_seq ?_
   refine den_region TTok ?_
   intro K hK
   simp -implicitDefEqProofs (disch := first | decide | assumption | omega) only [go_sem, ld2, RdS.len rD sl22, RdS.idx rD sl22, R1.intB rD (HPres.refl _), RdS.cells rD, wrap_id]
   refine hK _ _ ?_
   clear hK K
   refine den_cond rfl (fun c1 => ?_) (fun c1 => ?_)
   ·try simp only [decide_eq_true_eq, decide_eq_false_iff_not, beq_iff_eq, beq_eq_false_iff_ne, bne_iff_ne, ne_eq, Bool.not_eq_true', Bool.not_eq_false', Bool.and_eq_true, Bool.or_eq_true, bne_eq_false_iff_eq] at c1
    refine den_seq ?_
    refine den_region TTok ?_
    intro K hK
    simp -implicitDefEqProofs (disch := first | decide | assumption | omega) only [go_sem, RdS.len rD sl22, RdS.idx rD sl22, R1.intB rD (HPres.refl _), RdS.cells rD, wrap_id]
    refine hK _ _ ?_
    clear hK K
    refine den_ret ?_
    simp (disch := decide) only [resP_1, puts_same, puts_ne]
    exact ⟨vbool (by rw [fitP, all_stop (d := 0) (k := k) (by omega) (by simpa using c1)]; rfl), (Ext.refl _)⟩
   ·try simp only [decide_eq_true_eq, decide_eq_false_iff_not, beq_iff_eq, beq_eq_false_iff_ne, bne_iff_ne, ne_eq, Bool.not_eq_true', Bool.not_eq_false', Bool.and_eq_true, Bool.or_eq_true, bne_eq_false_iff_eq] at c1
    refine den_skip ?_
    refine den_blk ?_
    refine den_region TTok ?_
    intro K hK
    simp -implicitDefEqProofs (disch := first | decide | assumption | omega) only [go_sem, RdS.len rD sl22, RdS.idx rD sl22, R1.intB rD (HPres.refl _), RdS.cells rD, wrap_id]
    refine hK _ _ ?_
    clear hK K
    refine den_stop ?_
    exact ⟨k + 1, by simp [HasL, puts_at], ⟨rfl, by omega, all_step (d := 0) (by omega) hz (by simpa using c1)⟩, by first | omega | (dsimp only; omega)⟩
  ·try simp only [decide_eq_true_eq, decide_eq_false_iff_not, beq_iff_eq, beq_eq_false_iff_ne, bne_iff_ne, ne_eq, Bool.not_eq_true', Bool.not_eq_false', Bool.and_eq_true, Bool.or_eq_true, bne_eq_false_iff_eq] at c0
   refine den_exit ?_
   refine denX_code ?_
   refine denX_stop ?_
   refine denX_hit ?_
   refine den_seq ?_
   refine den_region TTok ?_
   intro K hK
   simp -implicitDefEqProofs (disch := first | decide | assumption | omega) only [go_sem, RdS.len rD sl22, RdS.idx rD sl22, R1.intB rD (HPres.refl _), RdS.cells rD, wrap_id]
   refine hK _ _ ?_
   clear hK K
   refine den_ret ?_
   simp (disch := decide) only [resP_1, puts_same, puts_ne]
   exact ⟨vbool (by rw [fitP, all_end (by omega) hz]; rfl), (Ext.refl _)⟩
end Go.Proofs.Ytjjjgllbocgkbaa

namespace Go.Proofs.Ytjjjgllbocgkbaa
open Go
open Classical in
/-- Row r of degree n of a family on a tensor product, told by its pairs. -/
noncomputable def pRow (X Y : Cx) (F : Nat → Nat → Nat → Nat → List Int) (n r : Nat) : List Int :=
 if h : ∃ q : Nat × Nat × Nat × Nat, q.1 + q.2.2.1 = n ∧ (q.2.1 : Int) < dimP X q.1 ∧ (q.2.2.2 : Int) < dimP Y q.2.2.1 ∧ placeP X Y q.1 q.2.1 q.2.2.1 q.2.2.2 = r then F h.choose.1 h.choose.2.1 h.choose.2.2.1 h.choose.2.2.2 else []
theorem pRow_at {X Y : Cx} (hX : IsC X) (hY : IsC Y) {F : Nat → Nat → Nat → Nat → List Int} {i a j b : Nat} (ha : (a : Int) < dimP X i) (hb : (b : Int) < dimP Y j) : pRow X Y F (i + j) (placeP X Y i a j b).toNat = F i a j b := by
 have n1 := (pl_lt hX hY ha hb).1
 have h : ∃ q : Nat × Nat × Nat × Nat, q.1 + q.2.2.1 = i + j ∧ (q.2.1 : Int) < dimP X q.1 ∧ (q.2.2.2 : Int) < dimP Y q.2.2.1 ∧ placeP X Y q.1 q.2.1 q.2.2.1 q.2.2.2 = ((placeP X Y i a j b).toNat : Int) := ⟨(i, a, j, b), rfl, ha, hb, by show placeP X Y i a j b = _; omega⟩
 unfold pRow
 rw [dif_pos h]
 obtain ⟨e1, e2, e3, e4⟩ := h.choose_spec
 have := place_inj hX hY e1 e2 e3 ha hb (by rw [e4]; omega)
 rw [this.1, this.2.1, this.2.2.1, this.2.2.2]
noncomputable def pRows (X Y : Cx) (F : Nat → Nat → Nat → Nat → List Int) (n : Nat) : List (List Int) := (List.range (sumP X Y n (n + 1)).toNat).map fun r : Nat => pRow X Y F n r
noncomputable def pfam (X Y : Cx) (F : Nat → Nat → Nat → Nat → List Int) : M3 := (List.range (X.dims.length + Y.dims.length - 1)).map fun n : Nat => pRows X Y F n
theorem pRows_all {X Y : Cx} {F : Nat → Nat → Nat → Nat → List Int} {n m : Nat} (h : X.dims.length ≤ m ∨ n + 1 ≤ m) : (List.range (sumP X Y n m).toNat).map (fun r : Nat => pRow X Y F n r) = pRows X Y F n := by
 have e : sumP X Y n m = sumP X Y n (n + 1) := by
  by_cases h1 : n + 1 ≤ m
  ·exact sumP_ext h1 (fun i hi => by rw [dimP_neg (Y := Y) (by omega), Int.mul_zero])
  ·exact (sumP_ext (by omega) (fun i hi => by rw [dimP_big (Y := X) (by omega), Int.zero_mul])).symm
 rw [e]; rfl
theorem pRow_step {X Y : Cx} (hX : IsC X) (hY : IsC Y) {F : Nat → Nat → Nat → Nat → List Int} {n i a b : Nat} (hi : i ≤ n) (ha : (a : Int) < dimP X i) (hb : (b : Int) < dimP Y ((n : Int) - i)) :
  (List.range (placeP X Y i a ((n : Int) - i) b).toNat).map (fun r : Nat => pRow X Y F n r) ++ [F i a (n - i) b] = (List.range (placeP X Y i a ((n : Int) - i) ((b + 1 : Nat) : Int)).toNat).map fun r : Nat => pRow X Y F n r := by
 have ej : (n : Int) - i = ((n - i : Nat) : Int) := by omega
 rw [ej] at hb ⊢
 have n1 := pl_lt hX hY ha hb
 have h2 := (place_next X Y i a ((n - i : Nat) : Int) b (by omega)).2.1
 have h3 := pRow_at hX hY (F := F) ha hb
 rw [show i + (n - i) = n by omega] at h3
 rw [show (((b + 1 : Nat)) : Int) = (b : Int) + 1 by omega, h2, show (placeP X Y i a ((n - i : Nat) : Int) b + 1).toNat = (placeP X Y i a ((n - i : Nat) : Int) b).toNat + 1 by omega, ← range_step (fun r : Nat => pRow X Y F n r), h3]
theorem pair_pos {X Y : Cx} {n i a b : Nat} (ha : (a : Int) < dimP X i) (hb : (b : Int) < dimP Y ((n : Int) - i)) : i ≤ n ∧ (i : Int) ≤ (X.dims.length : Int) - 1 ∧ (n : Int) - i ≤ (Y.dims.length : Int) - 1 := by
 refine ⟨?_, ?_, ?_⟩
 ·by_cases h : i ≤ n
  ·exact h
  ·rw [dimP_neg (by omega)] at hb; omega
 ·have := dim_lt ha; omega
 ·by_cases h : (Y.dims.length : Int) ≤ (n : Int) - i
  ·rw [dimP_big h] at hb; omega
  ·omega
theorem cnt_pfam {X Y : Cx} (hX : IsC X) (hY : IsC Y) (hf : fitP (tdP X Y) = true) {F : Nat → Nat → Nat → Nat → List Int} (hc : ∀ i a j b : Nat, (a : Int) < dimP X (i : Int) → (b : Int) < dimP Y (j : Int) → (F i a j b).length ≤ 8) : 0 ≤ cntL cnt2 (pfam X Y F) ∧ cntL cnt2 (pfam X Y F) ≤ 384 := by
 have ha := fit_all hX hY hf
 have hl := fit_len hf
 rw [tdP_len] at hl
 have hlX := hX.len
 have hq := cntL_bnd (ct := cnt2) (c := 64) (xs := pfam X Y F) (m := 6) (by omega) (fun x hx => ?_) (by rw [pfam, List.length_map, List.length_range]; omega)
 ·exact ⟨hq.1, by have := hq.2; omega⟩
 obtain ⟨n, hn, rfl⟩ := List.mem_map.1 hx
 rw [List.mem_range] at hn
 have hs : (sumP X Y n (n + 1)).toNat ≤ 8 := by
  have := in3_iff.1 (all_at (f := fun x => in3 x 0 8) (d := 0) ha (k := n) (by rw [tdP_len]; exact hn))
  rw [tdP_get X Y hn] at this; omega
 have hq := cntL_bnd (ct := cnt1) (c := 8) (xs := pRows X Y F n) (m := 8) (by omega) (fun y hy => ?_) (by rw [pRows, List.length_map, List.length_range]; omega)
 ·exact ⟨hq.1, by have := hq.2; show cntL cnt1 (pRows X Y F n) ≤ 64; omega⟩
 obtain ⟨r, hr, rfl⟩ := List.mem_map.1 hy
 rw [List.mem_range] at hr
 obtain ⟨i, a, j, b, _, hs', ha', hb', hcp⟩ := place_surj hX hY (s := n) (r := (r : Int)) (by omega) (m := n + 1) (by omega)
 have := pRow_at hX hY (F := F) ha' hb'
 rw [hs', show (placeP X Y i a j b).toNat = r by omega] at this
 rw [this]
 have := hc i a j b ha' hb'
 simp only [cnt1]; omega
end Go.Proofs.Ytjjjgllbocgkbaa

namespace Go.Proofs.Ytjjjgllbocgkbaa
open Go
noncomputable def prC (X U : Cx) (f : M3) (Y V : Cx) (g : M3) : Int := if famC X U [f] = 1 ∨ famC Y V [g] = 1 then 1 else if famC X U [f] ≠ 0 ∨ famC Y V [g] ≠ 0 ∨ twoP X Y ≠ 0 then 2 else if chnP X U f = true ∧ chnP Y V g = true then 0 else 5
def prRow (U V : Cx) (f g : M3) (i a j b : Nat) : List Int := pvO U V i ((f.getD i default).getD a default) j ((g.getD j default).getD b default) ((f.getD i default).getD a default).length
noncomputable def prP (X U : Cx) (f : M3) (Y V : Cx) (g : M3) : M3 × Int := if prC X U f Y V g = 0 then (if fitP (tdP X Y) = true ∧ fitP (tdP U V) = true then (pfam X Y (prRow U V f g), 0) else ([], 3)) else ([], prC X U f Y V g)
structure PrOk (X U : Cx) (f : M3) (Y V : Cx) (g : M3) : Prop where
 cX : IsC X
 cU : IsC U
 cY : IsC Y
 cV : IsC V
 px : X.p = U.p
 lx : X.dims.length = U.dims.length
 py : Y.p = V.p
 ly : Y.dims.length = V.dims.length
 pp : X.p = Y.p
 fF : IsFam X U f 0
 fG : IsFam Y V g 0
theorem pr_ok {X U Y V : Cx} {f g : M3} (h1 : famC X U [f] = 0) (h2 : famC Y V [g] = 0) (h3 : twoP X Y = 0) : PrOk X U f Y V g := by
 obtain ⟨a1, a2⟩ := famC_0 h1
 obtain ⟨b1, b2⟩ := famC_0 h2
 obtain ⟨cX, cU, p1, l1⟩ := pairC_0 a1
 obtain ⟨cY, cV, p2, l2⟩ := pairC_0 b1
 exact ⟨cX, cU, cY, cV, p1, l1, p2, l2, (twoP_0 h3).2.2, a2 f (by simp), b2 g (by simp)⟩
theorem prC_0 {X U Y V : Cx} {f g : M3} (h : prC X U f Y V g = 0) : PrOk X U f Y V g := by
 unfold prC at h
 split at h
 ·cases h
 ·split at h
  ·cases h
  ·rename_i h2
   exact pr_ok (by omega) (by omega) (by omega)
/-- What the pairs of a row ask. -/
theorem pr_pv {X U Y V : Cx} {f g : M3} (k : PrOk X U f Y V g) {i a j b : Nat} (ha : (a : Int) < dimP X (i : Int)) (hb : (b : Int) < dimP Y (j : Int)) : PvOk U V (i : Int) ((f.getD i default).getD a default) (j : Int) ((g.getD j default).getD b default) ∧ i < f.length ∧ a < (f.getD i default).length ∧ j < g.length ∧ b < (g.getD j default).length := by
 have hi := dim_lt ha; have hj := dim_lt hb
 have lf := k.fF.len; have lg := k.fG.len
 have hf := k.fF.at (n := i) (by omega)
 have hg := k.fG.at (n := j) (by omega)
 rw [dimP_nat] at ha hb
 rw [Int.add_zero] at hf hg
 have hlx := k.lx; have hly := k.ly
 have h1 := k.cU.len; have h2 := k.cV.len
 have ha' : a < (f.getD i default).length := by omega
 have hb' : b < (g.getD j default).length := by omega
 have r1 := hf.2.at (k := a) ha'
 have r2 := hg.2.at (k := b) hb'
 exact ⟨⟨k.cU, k.cV, isP_bnd k.cU.p, ⟨by omega, by omega⟩, ⟨by omega, by omega⟩, h1.2, h2.2, ⟨r1.1, by rw [← k.px]; exact r1.2⟩, ⟨r2.1, by rw [← k.px, k.pp]; exact r2.2⟩⟩, by omega, ha', by omega, hb'⟩
theorem cnt_pr (X U : Cx) (f : M3) (Y V : Cx) (g : M3) : 0 ≤ cntL cnt2 (prP X U f Y V g).1 ∧ cntL cnt2 (prP X U f Y V g).1 ≤ 384 := by
 have hz : 0 ≤ cntL cnt2 ([] : M3) ∧ cntL cnt2 ([] : M3) ≤ 384 := ⟨Int.le_refl _, by show (0 : Int) ≤ _; decide⟩
 unfold prP
 split
 ·rename_i hc
  have k := prC_0 hc
  split
  ·rename_i hf
   refine cnt_pfam k.cX k.cY hf.1 (fun i a j b h1 h2 => ?_)
   have hp := pr_pv k h1 h2
   have hi := dim_lt h1; have hj := dim_lt h2
   have hlx := k.lx; have hly := k.ly
   have := in3_iff.1 (all_at (f := fun x => in3 x 0 8) (d := 0) (fit_all k.cU k.cV hf.2) (k := i + j) (by rw [tdP_len]; omega))
   rw [prRow, pvO_len, show ((i : Int) + (j : Int)).toNat = i + j by omega]; omega
  ·exact hz
 ·exact hz
end Go.Proofs.Ytjjjgllbocgkbaa

namespace Go.Proofs.Ytjjjgllbocgkbaa
open Go
set_option maxRecDepth 100000 in
set_option maxHeartbeats 4000000 in
theorem pairFam_ok (X Y : Cx) (vdX vmX vdY vmY : Value) (Fn : Nat → Nat → Nat → Nat → List Int) (g : FuncId) (cs : Array Value) (h : Heap) (hdX : R1 h vdX X.dims) (hmX : R3 h vmX X.maps) (hdY : R1 h vdY Y.dims) (hmY : R3 h vmY Y.maps) (hX : IsC X) (hY : IsC Y) (hf : ∀ (i a b : Nat) (j : Int), (a : Int) < dimP X i → (b : Int) < dimP Y j → 0 ≤ j → ∀ h', Ext h h' → CallA Try.prog g (#[.int .i64 (i : Int), .int .i64 (a : Int), .int .i64 j, .int .i64 (b : Int)] ++ cs) h' fun v' h'' => ∃ f0, O1 h'' v' (Fn i a j.toNat b) f0 ∧ Fresh h'.size f0 ∧ Ext h' h'') : CallA Try.prog 131 #[.agg #[.int .i64 X.p, vdX, vmX], .agg #[.int .i64 Y.p, vdY, vmY], .func (.func g) #[] cs] h fun v' h' => ∃ f0, O3 h' v' (pfam X Y Fn) f0 ∧ Fresh h.size f0 ∧ Ext h h' := by
 have hledX := RdS.le hdX
 have hledY := RdS.le hdY
 have hlX := hX.len
 have hlY := hY.len
 refine callA_intro TTok (args := [_, _, _]) Try.func131 (by kernel_rfl) rfl 64 rfl (by simp) [.tmp 6] rfl ?_
 simp only [idxs, Nat.reduceAdd]
 refine den_seq ?_
 refine den_region TTok ?_
 intro K hK
 simp -implicitDefEqProofs (disch := first | decide | assumption | omega) only [go_sem, RdS.len hdX sl22, RdS.idx hdX sl22, R1.intB hdX (HPres.refl _), RdS.cells hdX, RdS.len hmX sl23, RdS.idx hmX sl23, RdS.cellB hmX (HPres.refl _), RdS.cells hmX, RdS.len hdY sl22, RdS.idx hdY sl22, R1.intB hdY (HPres.refl _), RdS.cells hdY, RdS.len hmY sl23, RdS.idx hmY sl23, RdS.cellB hmY (HPres.refl _), RdS.cells hmY, wrap_id]
 refine op_box (cs := #[.int .i64 (X.p), vdX, vmX]) rfl ?_
 intro h0_0 e0_0 hb0_0 z0_0
 have := Ext.size e0_0
 have eB := e0_0
 have hfhb0_0 : Fresh h.size [h.size] := Fresh.one _
 have hlhb0_0 := one_lt (show h.size < h0_0.size by omega)
 try simp -implicitDefEqProofs (disch := first | decide | assumption | omega) only [go_sem, RdS.len hdX sl22, RdS.idx hdX sl22, R1.intB hdX (Ext.pres eB), RdS.cells hdX, RdS.len hmX sl23, RdS.idx hmX sl23, RdS.cellB hmX (Ext.pres eB), RdS.cells hmX, RdS.len hdY sl22, RdS.idx hdY sl22, R1.intB hdY (Ext.pres eB), RdS.cells hdY, RdS.len hmY sl23, RdS.idx hmY sl23, RdS.cellB hmY (Ext.pres eB), RdS.cells hmY, BoxAt.cell hb0_0, wrap_id]
 refine op_box (cs := #[.int .i64 (Y.p), vdY, vmY]) rfl ?_
 intro h0_1 e0_1 hb0_1 z0_1
 replace hb0_0 := BoxAt.ext hb0_0 e0_1
 have := Ext.size e0_1
 replace eB := Ext.trans eB e0_1
 have hfhb0_1 : Fresh h0_0.size [h0_0.size] := Fresh.one _
 have hlhb0_1 := one_lt (show h0_0.size < h0_1.size by omega)
 try simp -implicitDefEqProofs (disch := first | decide | assumption | omega) only [go_sem, RdS.len hdX sl22, RdS.idx hdX sl22, R1.intB hdX (Ext.pres eB), RdS.cells hdX, RdS.len hmX sl23, RdS.idx hmX sl23, RdS.cellB hmX (Ext.pres eB), RdS.cells hmX, RdS.len hdY sl22, RdS.idx hdY sl22, R1.intB hdY (Ext.pres eB), RdS.cells hdY, RdS.len hmY sl23, RdS.idx hmY sl23, RdS.cellB hmY (Ext.pres eB), RdS.cells hmY, BoxAt.cell hb0_0, BoxAt.cell hb0_1, wrap_id]
 refine hK _ _ ?_
 clear hK K
 refine den_seq ?_
 refine den_region TTok ?_
 intro K hK
 simp -implicitDefEqProofs (disch := first | decide | assumption | omega) only [go_sem, RdS.len hdX sl22, RdS.idx hdX sl22, R1.intB hdX (Ext.pres eB), RdS.cells hdX, RdS.len hmX sl23, RdS.idx hmX sl23, RdS.cellB hmX (Ext.pres eB), RdS.cells hmX, RdS.len hdY sl22, RdS.idx hdY sl22, R1.intB hdY (Ext.pres eB), RdS.cells hdY, RdS.len hmY sl23, RdS.idx hmY sl23, RdS.cellB hmY (Ext.pres eB), RdS.cells hmY, BoxAt.cell hb0_0, BoxAt.cell hb0_1, wrap_id]
 refine op_bs0 sz23 O2 ?_
 intro v1_0 h1_0 ho1_0 e1_0
 replace hb0_0 := BoxAt.ext hb0_0 e1_0
 replace hb0_1 := BoxAt.ext hb0_1 e1_0
 have := Ext.size e1_0
 replace eB := Ext.trans eB e1_0
 have hfho1_0 : Fresh h0_1.size [h0_1.size] := Fresh.one _
 have hlho1_0 := OS.lt ho1_0
 try simp -implicitDefEqProofs (disch := first | decide | assumption | omega) only [go_sem, RdS.len hdX sl22, RdS.idx hdX sl22, R1.intB hdX (Ext.pres eB), RdS.cells hdX, RdS.len hmX sl23, RdS.idx hmX sl23, RdS.cellB hmX (Ext.pres eB), RdS.cells hmX, RdS.len hdY sl22, RdS.idx hdY sl22, R1.intB hdY (Ext.pres eB), RdS.cells hdY, RdS.len hmY sl23, RdS.idx hmY sl23, RdS.cellB hmY (Ext.pres eB), RdS.cells hmY, RdS.len (OS.rd ho1_0) sl23, RdS.idx (OS.rd ho1_0) sl23, RdS.cellN (OS.rd ho1_0), RdS.cells (OS.rd ho1_0), BoxAt.cell hb0_0, BoxAt.cell hb0_1, wrap_id]
 refine hK _ _ ?_
 clear hK K
 refine den_seq ?_
 refine den_seq ?_
 refine den_draw TTok mixed [] [(0, true), (2, true), (6, true), (1, false), (3, false), (4, true), (5, true)] (by kernel_rfl) ?_
 intro K hK
 simp -implicitDefEqProofs (disch := first | decide | assumption | omega) only [go_sem, ld31, RdS.len hdX sl22, RdS.idx hdX sl22, R1.intB hdX (Ext.pres eB), RdS.cells hdX, RdS.len hmX sl23, RdS.idx hmX sl23, RdS.cellB hmX (Ext.pres eB), RdS.cells hmX, RdS.len hdY sl22, RdS.idx hdY sl22, R1.intB hdY (Ext.pres eB), RdS.cells hdY, RdS.len hmY sl23, RdS.idx hmY sl23, RdS.cellB hmY (Ext.pres eB), RdS.cells hmY, RdS.len (OS.rd ho1_0) sl23, RdS.idx (OS.rd ho1_0) sl23, RdS.cellN (OS.rd ho1_0), RdS.cells (OS.rd ho1_0), BoxAt.cell hb0_0, BoxAt.cell hb0_1, wrap_id]
 try simp -implicitDefEqProofs (disch := first | decide | assumption | omega) only [go_sem, RdS.len hdX sl22, RdS.idx hdX sl22, R1.intB hdX (Ext.pres eB), RdS.cells hdX, RdS.len hmX sl23, RdS.idx hmX sl23, RdS.cellB hmX (Ext.pres eB), RdS.cells hmX, RdS.len hdY sl22, RdS.idx hdY sl22, R1.intB hdY (Ext.pres eB), RdS.cells hdY, RdS.len hmY sl23, RdS.idx hmY sl23, RdS.cellB hmY (Ext.pres eB), RdS.cells hmY, RdS.len (OS.rd ho1_0) sl23, RdS.idx (OS.rd ho1_0) sl23, RdS.cellN (OS.rd ho1_0), RdS.cells (OS.rd ho1_0), BoxAt.cell hb0_0, BoxAt.cell hb0_1, wrap_id]
 refine CallA.mono (top_ok _ X _ ⟨_, _, rfl, (RdS.pres hdX (Ext.pres eB)), (RdS.pres hmX (Ext.pres eB))⟩) ?_
 intro v_ h2_1
 rintro ⟨rfl, e2_1⟩
 replace ho1_0 := OS.ext ho1_0 e2_1
 replace hb0_0 := BoxAt.ext hb0_0 e2_1
 replace hb0_1 := BoxAt.ext hb0_1 e2_1
 have := Ext.size e2_1
 replace eB := Ext.trans eB e2_1
 try simp (disch := decide) only [outv_some, outv_none, put_puts]
 refine plK_pres (Ext.pres e2_1) ?_
 try simp -implicitDefEqProofs (disch := first | decide | assumption | omega) only [go_sem, RdS.len hdX sl22, RdS.idx hdX sl22, R1.intB hdX (Ext.pres eB), RdS.cells hdX, RdS.len hmX sl23, RdS.idx hmX sl23, RdS.cellB hmX (Ext.pres eB), RdS.cells hmX, RdS.len hdY sl22, RdS.idx hdY sl22, R1.intB hdY (Ext.pres eB), RdS.cells hdY, RdS.len hmY sl23, RdS.idx hmY sl23, RdS.cellB hmY (Ext.pres eB), RdS.cells hmY, RdS.len (OS.rd ho1_0) sl23, RdS.idx (OS.rd ho1_0) sl23, RdS.cellN (OS.rd ho1_0), RdS.cells (OS.rd ho1_0), BoxAt.cell hb0_0, BoxAt.cell hb0_1, wrap_id]
 try simp -implicitDefEqProofs (disch := first | decide | assumption | omega) only [go_sem, RdS.len hdX sl22, RdS.idx hdX sl22, R1.intB hdX (Ext.pres eB), RdS.cells hdX, RdS.len hmX sl23, RdS.idx hmX sl23, RdS.cellB hmX (Ext.pres eB), RdS.cells hmX, RdS.len hdY sl22, RdS.idx hdY sl22, R1.intB hdY (Ext.pres eB), RdS.cells hdY, RdS.len hmY sl23, RdS.idx hmY sl23, RdS.cellB hmY (Ext.pres eB), RdS.cells hmY, RdS.len (OS.rd ho1_0) sl23, RdS.idx (OS.rd ho1_0) sl23, RdS.cellN (OS.rd ho1_0), RdS.cells (OS.rd ho1_0), BoxAt.cell hb0_0, BoxAt.cell hb0_1, wrap_id]
 refine CallA.mono (top_ok _ Y _ ⟨_, _, rfl, (RdS.pres hdY (Ext.pres eB)), (RdS.pres hmY (Ext.pres eB))⟩) ?_
 intro v_ h2_3
 rintro ⟨rfl, e2_3⟩
 replace ho1_0 := OS.ext ho1_0 e2_3
 replace hb0_0 := BoxAt.ext hb0_0 e2_3
 replace hb0_1 := BoxAt.ext hb0_1 e2_3
 have := Ext.size e2_3
 replace eB := Ext.trans eB e2_3
 try simp (disch := decide) only [outv_some, outv_none, put_puts]
 refine plK_pres (Ext.pres e2_3) ?_
 try simp -implicitDefEqProofs (disch := first | decide | assumption | omega) only [go_sem, RdS.len hdX sl22, RdS.idx hdX sl22, R1.intB hdX (Ext.pres eB), RdS.cells hdX, RdS.len hmX sl23, RdS.idx hmX sl23, RdS.cellB hmX (Ext.pres eB), RdS.cells hmX, RdS.len hdY sl22, RdS.idx hdY sl22, R1.intB hdY (Ext.pres eB), RdS.cells hdY, RdS.len hmY sl23, RdS.idx hmY sl23, RdS.cellB hmY (Ext.pres eB), RdS.cells hmY, RdS.len (OS.rd ho1_0) sl23, RdS.idx (OS.rd ho1_0) sl23, RdS.cellN (OS.rd ho1_0), RdS.cells (OS.rd ho1_0), BoxAt.cell hb0_0, BoxAt.cell hb0_1, wrap_id]
 refine hK _ _ ?_
 clear hK K
 refine den_block ?_
 refine den_sel [7, 20, 2, 3, 4, 19] ?_
 intro env_1
 simp only [go_sem]
 refine den_loopS (σ := Nat × Value × List Nat) (fun st_ => [(7, st_.2.1), (20, .int .i64 (st_.1 : Int))]) (fun st_ H => (st_.1 ≤ X.dims.length + Y.dims.length - 1) ∧ (O3 H st_.2.1 ((List.range st_.1).map fun q : Nat => pRows X Y Fn q) st_.2.2) ∧ (Fresh (h0_1.size) st_.2.2) ∧ (Sub [h0_1.size] h2_3.size st_.2.2) ∧ (Chg [h0_1.size] h2_3 H)) (fun st_ => X.dims.length + Y.dims.length - st_.1) (0, v1_0, [h0_1.size]) ?_ ?_
 ·exact ⟨by first | (simp; done) | (dsimp only; omega) | (simp; omega), by simpa using ho1_0, hfho1_0, Sub.refl, Chg.refl _ _⟩
 ·rintro ⟨n, vhO, fphO⟩ h4 ee3 ⟨hi0, hO, hfhO, sbhO, cL2⟩
  dsimp only at hi0 hO hfhO sbhO cL2
  replace hb0_0 := BoxAt.chgA hb0_0 cL2 (apart_lt hlhb0_0 hfho1_0 (by omega))
  replace hb0_1 := BoxAt.chgA hb0_1 cL2 (apart_lt hlhb0_1 hfho1_0 (by omega))
  have := cL2.size
  replace eB := Ext.then eB cL2 (ge_of hfho1_0 (by omega))
  have hlhO := OS.lt hO
  simp only [List.cons_append, List.nil_append]
  refine den_seq ?_
  refine den_region TTok ?_
  intro K hK
  simp -implicitDefEqProofs (disch := first | decide | assumption | omega) only [go_sem, RdS.len hdX sl22, RdS.idx hdX sl22, R1.intB hdX (Ext.pres eB), RdS.cells hdX, RdS.len hmX sl23, RdS.idx hmX sl23, RdS.cellB hmX (Ext.pres eB), RdS.cells hmX, RdS.len hdY sl22, RdS.idx hdY sl22, R1.intB hdY (Ext.pres eB), RdS.cells hdY, RdS.len hmY sl23, RdS.idx hmY sl23, RdS.cellB hmY (Ext.pres eB), RdS.cells hmY, RdS.len (OS.rd hO) sl23, RdS.idx (OS.rd hO) sl23, RdS.cellN (OS.rd hO), RdS.cells (OS.rd hO), BoxAt.cell hb0_0, BoxAt.cell hb0_1, wrap_id]
  refine hK _ _ ?_
  clear hK K
  refine den_seq ?_
  refine den_cond rfl (fun c0 => ?_) (fun c0 => ?_)
  ·try simp only [decide_eq_true_eq, decide_eq_false_iff_not, beq_iff_eq, beq_eq_false_iff_ne, bne_iff_ne, ne_eq, Bool.not_eq_true', Bool.not_eq_false', Bool.and_eq_true, Bool.or_eq_true, bne_eq_false_iff_eq] at c0
   refine den_skip ?_
   refine den_seq ?_
   refine den_block ?_
   refine den_seq ?_
   refine den_region TTok ?_
   intro K hK
   simp -implicitDefEqProofs (disch := first | decide | assumption | omega) only [go_sem, RdS.len hdX sl22, RdS.idx hdX sl22, R1.intB hdX (Ext.pres eB), RdS.cells hdX, RdS.len hmX sl23, RdS.idx hmX sl23, RdS.cellB hmX (Ext.pres eB), RdS.cells hmX, RdS.len hdY sl22, RdS.idx hdY sl22, R1.intB hdY (Ext.pres eB), RdS.cells hdY, RdS.len hmY sl23, RdS.idx hmY sl23, RdS.cellB hmY (Ext.pres eB), RdS.cells hmY, RdS.len (OS.rd hO) sl23, RdS.idx (OS.rd hO) sl23, RdS.cellN (OS.rd hO), RdS.cells (OS.rd hO), BoxAt.cell hb0_0, BoxAt.cell hb0_1, wrap_id]
   refine hK _ _ ?_
   clear hK K
   refine den_seq ?_
   refine den_region TTok ?_
   intro K hK
   simp -implicitDefEqProofs (disch := first | decide | assumption | omega) only [go_sem, RdS.len hdX sl22, RdS.idx hdX sl22, R1.intB hdX (Ext.pres eB), RdS.cells hdX, RdS.len hmX sl23, RdS.idx hmX sl23, RdS.cellB hmX (Ext.pres eB), RdS.cells hmX, RdS.len hdY sl22, RdS.idx hdY sl22, R1.intB hdY (Ext.pres eB), RdS.cells hdY, RdS.len hmY sl23, RdS.idx hmY sl23, RdS.cellB hmY (Ext.pres eB), RdS.cells hmY, RdS.len (OS.rd hO) sl23, RdS.idx (OS.rd hO) sl23, RdS.cellN (OS.rd hO), RdS.cells (OS.rd hO), BoxAt.cell hb0_0, BoxAt.cell hb0_1, wrap_id]
   refine op_bs0 sz26 O1 ?_
   intro v5_0 h5_0 ho5_0 e5_0
   replace hO := OS.ext hO e5_0
   replace hb0_0 := BoxAt.ext hb0_0 e5_0
   replace hb0_1 := BoxAt.ext hb0_1 e5_0
   have := Ext.size e5_0
   replace eB := Ext.trans eB e5_0
   replace cL2 := Chg.stepE cL2 e5_0
   have hfho5_0 : Fresh h4.size [h4.size] := Fresh.one _
   have hlho5_0 := OS.lt ho5_0
   try simp -implicitDefEqProofs (disch := first | decide | assumption | omega) only [go_sem, RdS.len hdX sl22, RdS.idx hdX sl22, R1.intB hdX (Ext.pres eB), RdS.cells hdX, RdS.len hmX sl23, RdS.idx hmX sl23, RdS.cellB hmX (Ext.pres eB), RdS.cells hmX, RdS.len hdY sl22, RdS.idx hdY sl22, R1.intB hdY (Ext.pres eB), RdS.cells hdY, RdS.len hmY sl23, RdS.idx hmY sl23, RdS.cellB hmY (Ext.pres eB), RdS.cells hmY, RdS.len (OS.rd hO) sl23, RdS.idx (OS.rd hO) sl23, RdS.cellN (OS.rd hO), RdS.cells (OS.rd hO), RdS.len (OS.rd ho5_0) sl26, RdS.idx (OS.rd ho5_0) sl26, RdS.cellN (OS.rd ho5_0), RdS.cells (OS.rd ho5_0), BoxAt.cell hb0_0, BoxAt.cell hb0_1, wrap_id]
   refine hK _ _ ?_
   clear hK K
   refine den_seq ?_
   refine den_seq ?_
   refine den_region TTok ?_
   intro K hK
   simp -implicitDefEqProofs (disch := first | decide | assumption | omega) only [go_sem, fa31_1, ld22, RdS.len hdX sl22, RdS.idx hdX sl22, R1.intB hdX (Ext.pres eB), RdS.cells hdX, RdS.len hmX sl23, RdS.idx hmX sl23, RdS.cellB hmX (Ext.pres eB), RdS.cells hmX, RdS.len hdY sl22, RdS.idx hdY sl22, R1.intB hdY (Ext.pres eB), RdS.cells hdY, RdS.len hmY sl23, RdS.idx hmY sl23, RdS.cellB hmY (Ext.pres eB), RdS.cells hmY, RdS.len (OS.rd hO) sl23, RdS.idx (OS.rd hO) sl23, RdS.cellN (OS.rd hO), RdS.cells (OS.rd hO), RdS.len (OS.rd ho5_0) sl26, RdS.idx (OS.rd ho5_0) sl26, RdS.cellN (OS.rd ho5_0), RdS.cells (OS.rd ho5_0), BoxAt.cell hb0_0, BoxAt.cell hb0_1, wrap_id]
   try simp -implicitDefEqProofs (disch := first | decide | assumption | omega) only [go_sem, RdS.len hdX sl22, RdS.idx hdX sl22, R1.intB hdX (Ext.pres eB), RdS.cells hdX, RdS.len hmX sl23, RdS.idx hmX sl23, RdS.cellB hmX (Ext.pres eB), RdS.cells hmX, RdS.len hdY sl22, RdS.idx hdY sl22, R1.intB hdY (Ext.pres eB), RdS.cells hdY, RdS.len hmY sl23, RdS.idx hmY sl23, RdS.cellB hmY (Ext.pres eB), RdS.cells hmY, RdS.len (OS.rd hO) sl23, RdS.idx (OS.rd hO) sl23, RdS.cellN (OS.rd hO), RdS.cells (OS.rd hO), RdS.len (OS.rd ho5_0) sl26, RdS.idx (OS.rd ho5_0) sl26, RdS.cellN (OS.rd ho5_0), RdS.cells (OS.rd ho5_0), BoxAt.cell hb0_0, BoxAt.cell hb0_1, wrap_id]
   refine CallA.pure (size1_ok _ _ _ (RdS.pres hdX (Ext.pres eB))) ?_
   try simp -implicitDefEqProofs (disch := first | decide | assumption | omega) only [go_sem, RdS.len hdX sl22, RdS.idx hdX sl22, R1.intB hdX (Ext.pres eB), RdS.cells hdX, RdS.len hmX sl23, RdS.idx hmX sl23, RdS.cellB hmX (Ext.pres eB), RdS.cells hmX, RdS.len hdY sl22, RdS.idx hdY sl22, R1.intB hdY (Ext.pres eB), RdS.cells hdY, RdS.len hmY sl23, RdS.idx hmY sl23, RdS.cellB hmY (Ext.pres eB), RdS.cells hmY, RdS.len (OS.rd hO) sl23, RdS.idx (OS.rd hO) sl23, RdS.cellN (OS.rd hO), RdS.cells (OS.rd hO), RdS.len (OS.rd ho5_0) sl26, RdS.idx (OS.rd ho5_0) sl26, RdS.cellN (OS.rd ho5_0), RdS.cells (OS.rd ho5_0), BoxAt.cell hb0_0, BoxAt.cell hb0_1, wrap_id]
   refine hK _ _ ?_
   clear hK K
   refine den_block ?_
   refine den_sel [9, 27, 2, 3, 4, 7, 8, 19, 20, 26] ?_
   intro env_5
   simp only [go_sem]
   refine den_loopS (σ := Nat × Value × List Nat) (fun st_ => [(9, st_.2.1), (27, .int .i64 (st_.1 : Int))]) (fun st_ H => (st_.1 ≤ X.dims.length) ∧ (O2 H st_.2.1 ((List.range (sumP X Y n st_.1).toNat).map fun r : Nat => pRow X Y Fn n r) st_.2.2) ∧ (Fresh (h4.size) st_.2.2) ∧ (Sub [h4.size] h5_0.size st_.2.2) ∧ (Chg [h4.size] h5_0 H)) (fun st_ => X.dims.length - st_.1) (0, v5_0, [h4.size]) ?_ ?_
   ·exact ⟨by first | (simp; done) | (dsimp only; omega) | (simp; omega), by rw [sumP]; exact ho5_0, hfho5_0, Sub.refl, Chg.refl _ _⟩
   ·rintro ⟨i, vhR, fphR⟩ h8 ee7 ⟨hi0, hR, hfhR, sbhR, cL6⟩
    dsimp only at hi0 hR hfhR sbhR cL6
    replace hO := OS.chg hO cL6 (apart_lt hlhO hfho5_0 (by omega))
    replace hb0_0 := BoxAt.chgA hb0_0 cL6 (apart_lt hlhb0_0 hfho5_0 (by omega))
    replace hb0_1 := BoxAt.chgA hb0_1 cL6 (apart_lt hlhb0_1 hfho5_0 (by omega))
    have := cL6.size
    replace eB := Ext.then eB cL6 (ge_of hfho5_0 (by omega))
    replace cL2 := Chg.step cL2 cL6 (Sub.fresh hfho5_0 (by omega))
    have hlhR := OS.lt hR
    simp only [List.cons_append, List.nil_append]
    refine den_seq ?_
    refine den_region TTok ?_
    intro K hK
    simp -implicitDefEqProofs (disch := first | decide | assumption | omega) only [go_sem, RdS.len hdX sl22, RdS.idx hdX sl22, R1.intB hdX (Ext.pres eB), RdS.cells hdX, RdS.len hmX sl23, RdS.idx hmX sl23, RdS.cellB hmX (Ext.pres eB), RdS.cells hmX, RdS.len hdY sl22, RdS.idx hdY sl22, R1.intB hdY (Ext.pres eB), RdS.cells hdY, RdS.len hmY sl23, RdS.idx hmY sl23, RdS.cellB hmY (Ext.pres eB), RdS.cells hmY, RdS.len (OS.rd hO) sl23, RdS.idx (OS.rd hO) sl23, RdS.cellN (OS.rd hO), RdS.cells (OS.rd hO), RdS.len (OS.rd hR) sl26, RdS.idx (OS.rd hR) sl26, RdS.cellN (OS.rd hR), RdS.cells (OS.rd hR), BoxAt.cell hb0_0, BoxAt.cell hb0_1, wrap_id]
    refine hK _ _ ?_
    clear hK K
    refine den_seq ?_
    refine den_cond rfl (fun c1 => ?_) (fun c1 => ?_)
    ·try simp only [decide_eq_true_eq, decide_eq_false_iff_not, beq_iff_eq, beq_eq_false_iff_ne, bne_iff_ne, ne_eq, Bool.not_eq_true', Bool.not_eq_false', Bool.and_eq_true, Bool.or_eq_true, bne_eq_false_iff_eq] at c1
     refine den_skip ?_
     refine den_seq ?_
     refine den_block ?_
     refine den_seq ?_
     refine den_region TTok ?_
     intro K hK
     simp -implicitDefEqProofs (disch := first | decide | assumption | omega) only [go_sem, RdS.len hdX sl22, RdS.idx hdX sl22, R1.intB hdX (Ext.pres eB), RdS.cells hdX, RdS.len hmX sl23, RdS.idx hmX sl23, RdS.cellB hmX (Ext.pres eB), RdS.cells hmX, RdS.len hdY sl22, RdS.idx hdY sl22, R1.intB hdY (Ext.pres eB), RdS.cells hdY, RdS.len hmY sl23, RdS.idx hmY sl23, RdS.cellB hmY (Ext.pres eB), RdS.cells hmY, RdS.len (OS.rd hO) sl23, RdS.idx (OS.rd hO) sl23, RdS.cellN (OS.rd hO), RdS.cells (OS.rd hO), RdS.len (OS.rd hR) sl26, RdS.idx (OS.rd hR) sl26, RdS.cellN (OS.rd hR), RdS.cells (OS.rd hR), BoxAt.cell hb0_0, BoxAt.cell hb0_1, wrap_id]
     refine hK _ _ ?_
     clear hK K
     refine den_seq ?_
     have hbX := dimP_bnd hX (i : Int)
     refine den_region TTok ?_
     intro K hK
     simp -implicitDefEqProofs (disch := first | decide | assumption | omega) only [go_sem, ld31, RdS.len hdX sl22, RdS.idx hdX sl22, R1.intB hdX (Ext.pres eB), RdS.cells hdX, RdS.len hmX sl23, RdS.idx hmX sl23, RdS.cellB hmX (Ext.pres eB), RdS.cells hmX, RdS.len hdY sl22, RdS.idx hdY sl22, R1.intB hdY (Ext.pres eB), RdS.cells hdY, RdS.len hmY sl23, RdS.idx hmY sl23, RdS.cellB hmY (Ext.pres eB), RdS.cells hmY, RdS.len (OS.rd hO) sl23, RdS.idx (OS.rd hO) sl23, RdS.cellN (OS.rd hO), RdS.cells (OS.rd hO), RdS.len (OS.rd hR) sl26, RdS.idx (OS.rd hR) sl26, RdS.cellN (OS.rd hR), RdS.cells (OS.rd hR), BoxAt.cell hb0_0, BoxAt.cell hb0_1, wrap_id]
     try simp -implicitDefEqProofs (disch := first | decide | assumption | omega) only [go_sem, RdS.len hdX sl22, RdS.idx hdX sl22, R1.intB hdX (Ext.pres eB), RdS.cells hdX, RdS.len hmX sl23, RdS.idx hmX sl23, RdS.cellB hmX (Ext.pres eB), RdS.cells hmX, RdS.len hdY sl22, RdS.idx hdY sl22, R1.intB hdY (Ext.pres eB), RdS.cells hdY, RdS.len hmY sl23, RdS.idx hmY sl23, RdS.cellB hmY (Ext.pres eB), RdS.cells hmY, RdS.len (OS.rd hO) sl23, RdS.idx (OS.rd hO) sl23, RdS.cellN (OS.rd hO), RdS.cells (OS.rd hO), RdS.len (OS.rd hR) sl26, RdS.idx (OS.rd hR) sl26, RdS.cellN (OS.rd hR), RdS.cells (OS.rd hR), BoxAt.cell hb0_0, BoxAt.cell hb0_1, wrap_id]
     refine CallA.mono (iDim_ok _ X _ _ ⟨_, _, rfl, (RdS.pres hdX (Ext.pres eB)), (RdS.pres hmX (Ext.pres eB))⟩) ?_
     intro v_ h9_2
     rintro ⟨rfl, e9_2⟩
     replace hO := OS.ext hO e9_2
     replace hR := OS.ext hR e9_2
     replace hb0_0 := BoxAt.ext hb0_0 e9_2
     replace hb0_1 := BoxAt.ext hb0_1 e9_2
     have := Ext.size e9_2
     replace eB := Ext.trans eB e9_2
     replace cL2 := Chg.stepE cL2 e9_2
     replace cL6 := Chg.stepE cL6 e9_2
     try simp -implicitDefEqProofs (disch := first | decide | assumption | omega) only [go_sem, RdS.len hdX sl22, RdS.idx hdX sl22, R1.intB hdX (Ext.pres eB), RdS.cells hdX, RdS.len hmX sl23, RdS.idx hmX sl23, RdS.cellB hmX (Ext.pres eB), RdS.cells hmX, RdS.len hdY sl22, RdS.idx hdY sl22, R1.intB hdY (Ext.pres eB), RdS.cells hdY, RdS.len hmY sl23, RdS.idx hmY sl23, RdS.cellB hmY (Ext.pres eB), RdS.cells hmY, RdS.len (OS.rd hO) sl23, RdS.idx (OS.rd hO) sl23, RdS.cellN (OS.rd hO), RdS.cells (OS.rd hO), RdS.len (OS.rd hR) sl26, RdS.idx (OS.rd hR) sl26, RdS.cellN (OS.rd hR), RdS.cells (OS.rd hR), BoxAt.cell hb0_0, BoxAt.cell hb0_1, wrap_id]
     refine hK _ _ ?_
     clear hK K
     refine den_block ?_
     refine den_sel [9, 33, 2, 3, 4, 7, 8, 10, 19, 20, 26, 27, 32] ?_
     intro env_9
     simp only [go_sem]
     refine den_loopS (σ := Nat × Value × List Nat) (fun st_ => [(9, st_.2.1), (33, .int .i64 (st_.1 : Int))]) (fun st_ H => ((st_.1 : Int) ≤ dimP X i) ∧ (O2 H st_.2.1 ((List.range (placeP X Y i st_.1 ((n : Int) - i) 0).toNat).map fun r : Nat => pRow X Y Fn n r) st_.2.2) ∧ (Fresh (h4.size) st_.2.2) ∧ (Sub fphR h9_2.size st_.2.2) ∧ (Chg fphR h9_2 H)) (fun st_ => (dimP X i).toNat - st_.1) (0, vhR, fphR) ?_ ?_
     ·exact ⟨by have := dimP_bnd hX (i : Int); omega, by rw [show placeP X Y i ((0 : Nat) : Int) ((n : Int) - i) 0 = sumP X Y n i by have h := (place_next X Y i 0 ((n : Int) - i) 0 (by omega)).2.2.1; rw [show (i : Int) + ((n : Int) - i) = n by omega, Int.toNat_natCast] at h; exact h]; exact hR, hfhR, Sub.refl, Chg.refl _ _⟩
     ·rintro ⟨a, vhA, fphA⟩ h12 ee11 ⟨hi0, hA, hfhA, sbhA, cL10⟩
      dsimp only at hi0 hA hfhA sbhA cL10
      replace hO := OS.chg hO cL10 (apart_lt hlhO hfhR (by omega))
      replace hb0_0 := BoxAt.chgA hb0_0 cL10 (apart_lt hlhb0_0 hfhR (by omega))
      replace hb0_1 := BoxAt.chgA hb0_1 cL10 (apart_lt hlhb0_1 hfhR (by omega))
      have := cL10.size
      replace eB := Ext.then eB cL10 (ge_of hfhR (by omega))
      replace cL2 := Chg.step cL2 cL10 (Sub.fresh hfhR (by omega))
      replace cL6 := Chg.step cL6 cL10 sbhR
      have sb13 : Sub [h4.size] h5_0.size fphA := Sub.trans sbhA sbhR (by omega)
      have hlhA := OS.lt hA
      simp only [List.cons_append, List.nil_append]
      refine den_seq ?_
      refine den_region TTok ?_
      intro K hK
      simp -implicitDefEqProofs (disch := first | decide | assumption | omega) only [go_sem, RdS.len hdX sl22, RdS.idx hdX sl22, R1.intB hdX (Ext.pres eB), RdS.cells hdX, RdS.len hmX sl23, RdS.idx hmX sl23, RdS.cellB hmX (Ext.pres eB), RdS.cells hmX, RdS.len hdY sl22, RdS.idx hdY sl22, R1.intB hdY (Ext.pres eB), RdS.cells hdY, RdS.len hmY sl23, RdS.idx hmY sl23, RdS.cellB hmY (Ext.pres eB), RdS.cells hmY, RdS.len (OS.rd hO) sl23, RdS.idx (OS.rd hO) sl23, RdS.cellN (OS.rd hO), RdS.cells (OS.rd hO), RdS.len (OS.rd hA) sl26, RdS.idx (OS.rd hA) sl26, RdS.cellN (OS.rd hA), RdS.cells (OS.rd hA), BoxAt.cell hb0_0, BoxAt.cell hb0_1, wrap_id]
      refine hK _ _ ?_
      clear hK K
      refine den_seq ?_
      refine den_cond rfl (fun c2 => ?_) (fun c2 => ?_)
      ·try simp only [decide_eq_true_eq, decide_eq_false_iff_not, beq_iff_eq, beq_eq_false_iff_ne, bne_iff_ne, ne_eq, Bool.not_eq_true', Bool.not_eq_false', Bool.and_eq_true, Bool.or_eq_true, bne_eq_false_iff_eq] at c2
       refine den_skip ?_
       refine den_seq ?_
       refine den_block ?_
       refine den_seq ?_
       refine den_region TTok ?_
       intro K hK
       simp -implicitDefEqProofs (disch := first | decide | assumption | omega) only [go_sem, RdS.len hdX sl22, RdS.idx hdX sl22, R1.intB hdX (Ext.pres eB), RdS.cells hdX, RdS.len hmX sl23, RdS.idx hmX sl23, RdS.cellB hmX (Ext.pres eB), RdS.cells hmX, RdS.len hdY sl22, RdS.idx hdY sl22, R1.intB hdY (Ext.pres eB), RdS.cells hdY, RdS.len hmY sl23, RdS.idx hmY sl23, RdS.cellB hmY (Ext.pres eB), RdS.cells hmY, RdS.len (OS.rd hO) sl23, RdS.idx (OS.rd hO) sl23, RdS.cellN (OS.rd hO), RdS.cells (OS.rd hO), RdS.len (OS.rd hA) sl26, RdS.idx (OS.rd hA) sl26, RdS.cellN (OS.rd hA), RdS.cells (OS.rd hA), BoxAt.cell hb0_0, BoxAt.cell hb0_1, wrap_id]
       refine hK _ _ ?_
       clear hK K
       refine den_seq ?_
       have hbY := dimP_bnd hY ((n : Int) - i)
       refine den_region TTok ?_
       intro K hK
       simp -implicitDefEqProofs (disch := first | decide | assumption | omega) only [go_sem, ld31, RdS.len hdX sl22, RdS.idx hdX sl22, R1.intB hdX (Ext.pres eB), RdS.cells hdX, RdS.len hmX sl23, RdS.idx hmX sl23, RdS.cellB hmX (Ext.pres eB), RdS.cells hmX, RdS.len hdY sl22, RdS.idx hdY sl22, R1.intB hdY (Ext.pres eB), RdS.cells hdY, RdS.len hmY sl23, RdS.idx hmY sl23, RdS.cellB hmY (Ext.pres eB), RdS.cells hmY, RdS.len (OS.rd hO) sl23, RdS.idx (OS.rd hO) sl23, RdS.cellN (OS.rd hO), RdS.cells (OS.rd hO), RdS.len (OS.rd hA) sl26, RdS.idx (OS.rd hA) sl26, RdS.cellN (OS.rd hA), RdS.cells (OS.rd hA), BoxAt.cell hb0_0, BoxAt.cell hb0_1, wrap_id]
       try simp -implicitDefEqProofs (disch := first | decide | assumption | omega) only [go_sem, RdS.len hdX sl22, RdS.idx hdX sl22, R1.intB hdX (Ext.pres eB), RdS.cells hdX, RdS.len hmX sl23, RdS.idx hmX sl23, RdS.cellB hmX (Ext.pres eB), RdS.cells hmX, RdS.len hdY sl22, RdS.idx hdY sl22, R1.intB hdY (Ext.pres eB), RdS.cells hdY, RdS.len hmY sl23, RdS.idx hmY sl23, RdS.cellB hmY (Ext.pres eB), RdS.cells hmY, RdS.len (OS.rd hO) sl23, RdS.idx (OS.rd hO) sl23, RdS.cellN (OS.rd hO), RdS.cells (OS.rd hO), RdS.len (OS.rd hA) sl26, RdS.idx (OS.rd hA) sl26, RdS.cellN (OS.rd hA), RdS.cells (OS.rd hA), BoxAt.cell hb0_0, BoxAt.cell hb0_1, wrap_id]
       refine CallA.mono (iDim_ok _ Y _ _ ⟨_, _, rfl, (RdS.pres hdY (Ext.pres eB)), (RdS.pres hmY (Ext.pres eB))⟩) ?_
       intro v_ h12_4
       rintro ⟨rfl, e12_4⟩
       replace hO := OS.ext hO e12_4
       replace hA := OS.ext hA e12_4
       replace hb0_0 := BoxAt.ext hb0_0 e12_4
       replace hb0_1 := BoxAt.ext hb0_1 e12_4
       have := Ext.size e12_4
       replace eB := Ext.trans eB e12_4
       replace cL2 := Chg.stepE cL2 e12_4
       replace cL6 := Chg.stepE cL6 e12_4
       replace cL10 := Chg.stepE cL10 e12_4
       try simp -implicitDefEqProofs (disch := first | decide | assumption | omega) only [go_sem, RdS.len hdX sl22, RdS.idx hdX sl22, R1.intB hdX (Ext.pres eB), RdS.cells hdX, RdS.len hmX sl23, RdS.idx hmX sl23, RdS.cellB hmX (Ext.pres eB), RdS.cells hmX, RdS.len hdY sl22, RdS.idx hdY sl22, R1.intB hdY (Ext.pres eB), RdS.cells hdY, RdS.len hmY sl23, RdS.idx hmY sl23, RdS.cellB hmY (Ext.pres eB), RdS.cells hmY, RdS.len (OS.rd hO) sl23, RdS.idx (OS.rd hO) sl23, RdS.cellN (OS.rd hO), RdS.cells (OS.rd hO), RdS.len (OS.rd hA) sl26, RdS.idx (OS.rd hA) sl26, RdS.cellN (OS.rd hA), RdS.cells (OS.rd hA), BoxAt.cell hb0_0, BoxAt.cell hb0_1, wrap_id]
       refine hK _ _ ?_
       clear hK K
       refine den_block ?_
       refine den_sel [9, 41, 2, 3, 4, 7, 8, 10, 11, 19, 20, 26, 27, 32, 33, 40] ?_
       intro env_14
       simp only [go_sem]
       refine den_loopS (σ := Nat × Value × List Nat) (fun st_ => [(9, st_.2.1), (41, .int .i64 (st_.1 : Int))]) (fun st_ H => ((st_.1 : Int) ≤ dimP Y ((n : Int) - i)) ∧ (O2 H st_.2.1 ((List.range (placeP X Y i a ((n : Int) - i) st_.1).toNat).map fun r : Nat => pRow X Y Fn n r) st_.2.2) ∧ (Fresh (h4.size) st_.2.2) ∧ (Sub fphA h12_4.size st_.2.2) ∧ (Chg fphA h12_4 H)) (fun st_ => (dimP Y ((n : Int) - i)).toNat - st_.1) (0, vhA, fphA) ?_ ?_
       ·exact ⟨by have := dimP_bnd hY ((n : Int) - i); omega, by exact hA, hfhA, Sub.refl, Chg.refl _ _⟩
       ·rintro ⟨b, vhB, fphB⟩ h17 ee16 ⟨hi0, hB, hfhB, sbhB, cL15⟩
        dsimp only at hi0 hB hfhB sbhB cL15
        replace hO := OS.chg hO cL15 (apart_lt hlhO hfhA (by omega))
        replace hb0_0 := BoxAt.chgA hb0_0 cL15 (apart_lt hlhb0_0 hfhA (by omega))
        replace hb0_1 := BoxAt.chgA hb0_1 cL15 (apart_lt hlhb0_1 hfhA (by omega))
        have := cL15.size
        replace eB := Ext.then eB cL15 (ge_of hfhA (by omega))
        replace cL2 := Chg.step cL2 cL15 (Sub.fresh hfhA (by omega))
        replace cL6 := Chg.step cL6 cL15 sb13
        replace cL10 := Chg.step cL10 cL15 sbhA
        have sb18 : Sub [h4.size] h5_0.size fphB := Sub.trans sbhB sb13 (by omega)
        have sb19 : Sub fphR h9_2.size fphB := Sub.trans sbhB sbhA (by omega)
        have hlhB := OS.lt hB
        simp only [List.cons_append, List.nil_append]
        refine den_seq ?_
        refine den_region TTok ?_
        intro K hK
        simp -implicitDefEqProofs (disch := first | decide | assumption | omega) only [go_sem, RdS.len hdX sl22, RdS.idx hdX sl22, R1.intB hdX (Ext.pres eB), RdS.cells hdX, RdS.len hmX sl23, RdS.idx hmX sl23, RdS.cellB hmX (Ext.pres eB), RdS.cells hmX, RdS.len hdY sl22, RdS.idx hdY sl22, R1.intB hdY (Ext.pres eB), RdS.cells hdY, RdS.len hmY sl23, RdS.idx hmY sl23, RdS.cellB hmY (Ext.pres eB), RdS.cells hmY, RdS.len (OS.rd hO) sl23, RdS.idx (OS.rd hO) sl23, RdS.cellN (OS.rd hO), RdS.cells (OS.rd hO), RdS.len (OS.rd hB) sl26, RdS.idx (OS.rd hB) sl26, RdS.cellN (OS.rd hB), RdS.cells (OS.rd hB), BoxAt.cell hb0_0, BoxAt.cell hb0_1, wrap_id]
        refine hK _ _ ?_
        clear hK K
        refine den_seq ?_
        refine den_cond rfl (fun c3 => ?_) (fun c3 => ?_)
        ·try simp only [decide_eq_true_eq, decide_eq_false_iff_not, beq_iff_eq, beq_eq_false_iff_ne, bne_iff_ne, ne_eq, Bool.not_eq_true', Bool.not_eq_false', Bool.and_eq_true, Bool.or_eq_true, bne_eq_false_iff_eq] at c3
         refine den_skip ?_
         refine den_seq ?_
         refine den_block ?_
         refine den_seq ?_
         refine den_region TTok ?_
         intro K hK
         simp -implicitDefEqProofs (disch := first | decide | assumption | omega) only [go_sem, RdS.len hdX sl22, RdS.idx hdX sl22, R1.intB hdX (Ext.pres eB), RdS.cells hdX, RdS.len hmX sl23, RdS.idx hmX sl23, RdS.cellB hmX (Ext.pres eB), RdS.cells hmX, RdS.len hdY sl22, RdS.idx hdY sl22, R1.intB hdY (Ext.pres eB), RdS.cells hdY, RdS.len hmY sl23, RdS.idx hmY sl23, RdS.cellB hmY (Ext.pres eB), RdS.cells hmY, RdS.len (OS.rd hO) sl23, RdS.idx (OS.rd hO) sl23, RdS.cellN (OS.rd hO), RdS.cells (OS.rd hO), RdS.len (OS.rd hB) sl26, RdS.idx (OS.rd hB) sl26, RdS.cellN (OS.rd hB), RdS.cells (OS.rd hB), BoxAt.cell hb0_0, BoxAt.cell hb0_1, wrap_id]
         refine hK _ _ ?_
         clear hK K
         have hps := pair_pos (X := X) (Y := Y) (n := n) (i := i) (a := a) (b := b) (by omega) (by omega)
         have hpl := place_lt hX hY (i := i) (j := (n : Int) - i) (a := a) (b := b) (by omega) (by omega) (by omega) (by omega)
         rw [show ((i : Int) + ((n : Int) - i)).toNat = n by omega] at hpl
         have htb := tdP_bnd hX hY (n := n) (by omega)
         have hlt : ((List.range (placeP X Y i a ((n : Int) - i) b).toNat).map fun r : Nat => pRow X Y Fn n r).length ≤ 704 := by rw [List.length_map, List.length_range]; omega
         refine den_region TTok ?_
         intro K hK
         simp -implicitDefEqProofs (disch := first | decide | assumption | omega) only [go_sem, RdS.len hdX sl22, RdS.idx hdX sl22, R1.intB hdX (Ext.pres eB), RdS.cells hdX, RdS.len hmX sl23, RdS.idx hmX sl23, RdS.cellB hmX (Ext.pres eB), RdS.cells hmX, RdS.len hdY sl22, RdS.idx hdY sl22, R1.intB hdY (Ext.pres eB), RdS.cells hdY, RdS.len hmY sl23, RdS.idx hmY sl23, RdS.cellB hmY (Ext.pres eB), RdS.cells hmY, RdS.len (OS.rd hO) sl23, RdS.idx (OS.rd hO) sl23, RdS.cellN (OS.rd hO), RdS.cells (OS.rd hO), RdS.len (OS.rd hB) sl26, RdS.idx (OS.rd hB) sl26, RdS.cellN (OS.rd hB), RdS.cells (OS.rd hB), BoxAt.cell hb0_0, BoxAt.cell hb0_1, wrap_id]
         try simp -implicitDefEqProofs (disch := first | decide | assumption | omega) only [go_sem, RdS.len hdX sl22, RdS.idx hdX sl22, R1.intB hdX (Ext.pres eB), RdS.cells hdX, RdS.len hmX sl23, RdS.idx hmX sl23, RdS.cellB hmX (Ext.pres eB), RdS.cells hmX, RdS.len hdY sl22, RdS.idx hdY sl22, R1.intB hdY (Ext.pres eB), RdS.cells hdY, RdS.len hmY sl23, RdS.idx hmY sl23, RdS.cellB hmY (Ext.pres eB), RdS.cells hmY, RdS.len (OS.rd hO) sl23, RdS.idx (OS.rd hO) sl23, RdS.cellN (OS.rd hO), RdS.cells (OS.rd hO), RdS.len (OS.rd hB) sl26, RdS.idx (OS.rd hB) sl26, RdS.cellN (OS.rd hB), RdS.cells (OS.rd hB), BoxAt.cell hb0_0, BoxAt.cell hb0_1, wrap_id]
         refine CallA.mono (hf i a b _ (by omega) (by omega) (by omega) _ eB) ?_
         intro vw15_8 h15_8
         rintro ⟨fw15_8, how15_8, hfw15_8, e15_8⟩
         replace hO := OS.ext hO e15_8
         replace hB := OS.ext hB e15_8
         replace hb0_0 := BoxAt.ext hb0_0 e15_8
         replace hb0_1 := BoxAt.ext hb0_1 e15_8
         have := Ext.size e15_8
         replace eB := Ext.trans eB e15_8
         replace cL2 := Chg.stepE cL2 e15_8
         replace cL6 := Chg.stepE cL6 e15_8
         replace cL10 := Chg.stepE cL10 e15_8
         replace cL15 := Chg.stepE cL15 e15_8
         have hlhow15_8 := OS.lt how15_8
         try simp -implicitDefEqProofs (disch := first | decide | assumption | omega) only [go_sem, RdS.len hdX sl22, RdS.idx hdX sl22, R1.intB hdX (Ext.pres eB), RdS.cells hdX, RdS.len hmX sl23, RdS.idx hmX sl23, RdS.cellB hmX (Ext.pres eB), RdS.cells hmX, RdS.len hdY sl22, RdS.idx hdY sl22, R1.intB hdY (Ext.pres eB), RdS.cells hdY, RdS.len hmY sl23, RdS.idx hmY sl23, RdS.cellB hmY (Ext.pres eB), RdS.cells hmY, RdS.len (OS.rd hO) sl23, RdS.idx (OS.rd hO) sl23, RdS.cellN (OS.rd hO), RdS.cells (OS.rd hO), RdS.len (OS.rd hB) sl26, RdS.idx (OS.rd hB) sl26, RdS.cellN (OS.rd hB), RdS.cells (OS.rd hB), RdS.len (OS.rd how15_8) sl22, RdS.idx (OS.rd how15_8) sl22, R1.intN (OS.rd how15_8), RdS.cells (OS.rd how15_8), BoxAt.cell hb0_0, BoxAt.cell hb0_1, wrap_id]
         refine op_bs1 sz26 rfl (OS.one how15_8).2 ?_
         try simp -implicitDefEqProofs (disch := first | decide | assumption | omega) only [go_sem, RdS.len hdX sl22, RdS.idx hdX sl22, R1.intB hdX (Ext.pres eB), RdS.cells hdX, RdS.len hmX sl23, RdS.idx hmX sl23, RdS.cellB hmX (Ext.pres eB), RdS.cells hmX, RdS.len hdY sl22, RdS.idx hdY sl22, R1.intB hdY (Ext.pres eB), RdS.cells hdY, RdS.len hmY sl23, RdS.idx hmY sl23, RdS.cellB hmY (Ext.pres eB), RdS.cells hmY, RdS.len (OS.rd hO) sl23, RdS.idx (OS.rd hO) sl23, RdS.cellN (OS.rd hO), RdS.cells (OS.rd hO), RdS.len (OS.rd hB) sl26, RdS.idx (OS.rd hB) sl26, RdS.cellN (OS.rd hB), RdS.cells (OS.rd hB), RdS.len (OS.rd how15_8) sl22, RdS.idx (OS.rd how15_8) sl22, R1.intN (OS.rd how15_8), RdS.cells (OS.rd how15_8), BoxAt.cell hb0_0, BoxAt.cell hb0_1, wrap_id]
         refine op_append1 sz26 hB hfhB.nodup how15_8 hfw15_8.nodup (apart_lt hlhB hfw15_8 (by omega)) (by first | omega | (simp; omega)) rfl rfl ?_
         intro v15_10 h15_10 fp15_10 ho15_10 hn15_10 hs15_10 c15_10
         have hsz15_10 := c15_10.size
         have hfho15_10 : Fresh h4.size fp15_10 := Fresh.appd hfhB hfw15_8 (by omega) (by omega) hn15_10 hs15_10
         have sb20 : Sub [h4.size] h5_0.size fp15_10 := Sub.grow sb18 (Sub.fresh hfw15_8 (by omega)) (by omega) hs15_10
         have sb21 : Sub fphR h9_2.size fp15_10 := Sub.grow sb19 (Sub.fresh hfw15_8 (by omega)) (by omega) hs15_10
         have sb22 : Sub fphA h12_4.size fp15_10 := Sub.grow sbhB (Sub.fresh hfw15_8 (by omega)) (by omega) hs15_10
         replace hO := OS.chg hO c15_10 (apart_lt hlhO hfhB (by omega))
         replace hb0_0 := BoxAt.chgA hb0_0 c15_10 (apart_lt hlhb0_0 hfhB (by omega))
         replace hb0_1 := BoxAt.chgA hb0_1 c15_10 (apart_lt hlhb0_1 hfhB (by omega))
         have := c15_10.size
         replace eB := Ext.then eB c15_10 (ge_of hfhB (by omega))
         replace cL2 := Chg.step cL2 c15_10 (Sub.fresh hfhB (by omega))
         replace cL6 := Chg.step cL6 c15_10 sb18
         replace cL10 := Chg.step cL10 c15_10 sb19
         replace cL15 := Chg.step cL15 c15_10 sbhB
         have hlho15_10 := OS.lt ho15_10
         try simp -implicitDefEqProofs (disch := first | decide | assumption | omega) only [go_sem, RdS.len hdX sl22, RdS.idx hdX sl22, R1.intB hdX (Ext.pres eB), RdS.cells hdX, RdS.len hmX sl23, RdS.idx hmX sl23, RdS.cellB hmX (Ext.pres eB), RdS.cells hmX, RdS.len hdY sl22, RdS.idx hdY sl22, R1.intB hdY (Ext.pres eB), RdS.cells hdY, RdS.len hmY sl23, RdS.idx hmY sl23, RdS.cellB hmY (Ext.pres eB), RdS.cells hmY, RdS.len (OS.rd hO) sl23, RdS.idx (OS.rd hO) sl23, RdS.cellN (OS.rd hO), RdS.cells (OS.rd hO), RdS.len (OS.rd ho15_10) sl26, RdS.idx (OS.rd ho15_10) sl26, RdS.cellN (OS.rd ho15_10), RdS.cells (OS.rd ho15_10), BoxAt.cell hb0_0, BoxAt.cell hb0_1, wrap_id]
         refine hK _ _ ?_
         clear hK K
         refine den_blk ?_
         refine den_region TTok ?_
         intro K hK
         simp -implicitDefEqProofs (disch := first | decide | assumption | omega) only [go_sem, RdS.len hdX sl22, RdS.idx hdX sl22, R1.intB hdX (Ext.pres eB), RdS.cells hdX, RdS.len hmX sl23, RdS.idx hmX sl23, RdS.cellB hmX (Ext.pres eB), RdS.cells hmX, RdS.len hdY sl22, RdS.idx hdY sl22, R1.intB hdY (Ext.pres eB), RdS.cells hdY, RdS.len hmY sl23, RdS.idx hmY sl23, RdS.cellB hmY (Ext.pres eB), RdS.cells hmY, RdS.len (OS.rd hO) sl23, RdS.idx (OS.rd hO) sl23, RdS.cellN (OS.rd hO), RdS.cells (OS.rd hO), RdS.len (OS.rd ho15_10) sl26, RdS.idx (OS.rd ho15_10) sl26, RdS.cellN (OS.rd ho15_10), RdS.cells (OS.rd ho15_10), BoxAt.cell hb0_0, BoxAt.cell hb0_1, wrap_id]
         refine hK _ _ ?_
         clear hK K
         refine den_stop ?_
         rw [show ((n : Int) - (i : Int)).toNat = n - i by omega, pRow_step hX hY hps.1 (by omega) (by omega)] at ho15_10
         exact ⟨(b + 1, v15_10, fp15_10), by simp [HasL, puts_at], ⟨by first | omega | (dsimp only; omega), ho15_10, hfho15_10, sb22, cL15⟩, by first | omega | (dsimp only; omega)⟩
        ·try simp only [decide_eq_true_eq, decide_eq_false_iff_not, beq_iff_eq, beq_eq_false_iff_ne, bne_iff_ne, ne_eq, Bool.not_eq_true', Bool.not_eq_false', Bool.and_eq_true, Bool.or_eq_true, bne_eq_false_iff_eq] at c3
         refine den_exit ?_
         refine denX_code ?_
         refine denX_stop ?_
         refine denX_hit ?_
         refine den_blk ?_
         have hlo : ((List.range n).map fun q : Nat => pRows X Y Fn q).length = n := by simp
         refine den_region TTok ?_
         intro K hK
         simp -implicitDefEqProofs (disch := first | decide | assumption | omega) only [go_sem, RdS.len hdX sl22, RdS.idx hdX sl22, R1.intB hdX (Ext.pres eB), RdS.cells hdX, RdS.len hmX sl23, RdS.idx hmX sl23, RdS.cellB hmX (Ext.pres eB), RdS.cells hmX, RdS.len hdY sl22, RdS.idx hdY sl22, R1.intB hdY (Ext.pres eB), RdS.cells hdY, RdS.len hmY sl23, RdS.idx hmY sl23, RdS.cellB hmY (Ext.pres eB), RdS.cells hmY, RdS.len (OS.rd hO) sl23, RdS.idx (OS.rd hO) sl23, RdS.cellN (OS.rd hO), RdS.cells (OS.rd hO), RdS.len (OS.rd hB) sl26, RdS.idx (OS.rd hB) sl26, RdS.cellN (OS.rd hB), RdS.cells (OS.rd hB), BoxAt.cell hb0_0, BoxAt.cell hb0_1, wrap_id]
         refine hK _ _ ?_
         clear hK K
         refine den_stop ?_
         rw [show placeP X Y i a ((n : Int) - i) b = placeP X Y i ((a + 1 : Nat) : Int) ((n : Int) - i) 0 by rw [show (b : Int) = dimP Y ((n : Int) - i) by omega]; exact (place_next X Y i a ((n : Int) - i) 0 (by omega)).1] at hB
         exact ⟨(a + 1, vhB, fphB), by simp [HasL, puts_at], ⟨by first | omega | (dsimp only; omega), hB, hfhB, sb19, cL10⟩, by first | omega | (dsimp only; omega)⟩
      ·try simp only [decide_eq_true_eq, decide_eq_false_iff_not, beq_iff_eq, beq_eq_false_iff_ne, bne_iff_ne, ne_eq, Bool.not_eq_true', Bool.not_eq_false', Bool.and_eq_true, Bool.or_eq_true, bne_eq_false_iff_eq] at c2
       refine den_exit ?_
       refine denX_code ?_
       refine denX_stop ?_
       refine denX_hit ?_
       refine den_blk ?_
       have hlo : ((List.range n).map fun q : Nat => pRows X Y Fn q).length = n := by simp
       refine den_region TTok ?_
       intro K hK
       simp -implicitDefEqProofs (disch := first | decide | assumption | omega) only [go_sem, RdS.len hdX sl22, RdS.idx hdX sl22, R1.intB hdX (Ext.pres eB), RdS.cells hdX, RdS.len hmX sl23, RdS.idx hmX sl23, RdS.cellB hmX (Ext.pres eB), RdS.cells hmX, RdS.len hdY sl22, RdS.idx hdY sl22, R1.intB hdY (Ext.pres eB), RdS.cells hdY, RdS.len hmY sl23, RdS.idx hmY sl23, RdS.cellB hmY (Ext.pres eB), RdS.cells hmY, RdS.len (OS.rd hO) sl23, RdS.idx (OS.rd hO) sl23, RdS.cellN (OS.rd hO), RdS.cells (OS.rd hO), RdS.len (OS.rd hA) sl26, RdS.idx (OS.rd hA) sl26, RdS.cellN (OS.rd hA), RdS.cells (OS.rd hA), BoxAt.cell hb0_0, BoxAt.cell hb0_1, wrap_id]
       refine hK _ _ ?_
       clear hK K
       refine den_stop ?_
       rw [show placeP X Y i a ((n : Int) - i) 0 = sumP X Y n (i + 1) by have h := (place_next X Y i 0 ((n : Int) - i) 0 (by omega)).2.2.2; rw [show (a : Int) = dimP X i by omega, h, show (i : Int) + ((n : Int) - i) = n by omega, Int.toNat_natCast]] at hA
       exact ⟨(i + 1, vhA, fphA), by simp [HasL, puts_at], ⟨by first | omega | (dsimp only; omega), hA, hfhA, sb13, cL6⟩, by first | omega | (dsimp only; omega)⟩
    ·try simp only [decide_eq_true_eq, decide_eq_false_iff_not, beq_iff_eq, beq_eq_false_iff_ne, bne_iff_ne, ne_eq, Bool.not_eq_true', Bool.not_eq_false', Bool.and_eq_true, Bool.or_eq_true, bne_eq_false_iff_eq] at c1
     refine den_exit ?_
     refine denX_code ?_
     refine denX_stop ?_
     refine denX_hit ?_
     have hlo : ((List.range n).map fun q : Nat => pRows X Y Fn q).length = n := by simp
     refine den_region TTok ?_
     intro K hK
     simp -implicitDefEqProofs (disch := first | decide | assumption | omega) only [go_sem, RdS.len hdX sl22, RdS.idx hdX sl22, R1.intB hdX (Ext.pres eB), RdS.cells hdX, RdS.len hmX sl23, RdS.idx hmX sl23, RdS.cellB hmX (Ext.pres eB), RdS.cells hmX, RdS.len hdY sl22, RdS.idx hdY sl22, R1.intB hdY (Ext.pres eB), RdS.cells hdY, RdS.len hmY sl23, RdS.idx hmY sl23, RdS.cellB hmY (Ext.pres eB), RdS.cells hmY, RdS.len (OS.rd hO) sl23, RdS.idx (OS.rd hO) sl23, RdS.cellN (OS.rd hO), RdS.cells (OS.rd hO), RdS.len (OS.rd hR) sl26, RdS.idx (OS.rd hR) sl26, RdS.cellN (OS.rd hR), RdS.cells (OS.rd hR), BoxAt.cell hb0_0, BoxAt.cell hb0_1, wrap_id]
     refine op_bs1 sz23 rfl (OS.one hR).2 ?_
     try simp -implicitDefEqProofs (disch := first | decide | assumption | omega) only [go_sem, RdS.len hdX sl22, RdS.idx hdX sl22, R1.intB hdX (Ext.pres eB), RdS.cells hdX, RdS.len hmX sl23, RdS.idx hmX sl23, RdS.cellB hmX (Ext.pres eB), RdS.cells hmX, RdS.len hdY sl22, RdS.idx hdY sl22, R1.intB hdY (Ext.pres eB), RdS.cells hdY, RdS.len hmY sl23, RdS.idx hmY sl23, RdS.cellB hmY (Ext.pres eB), RdS.cells hmY, RdS.len (OS.rd hO) sl23, RdS.idx (OS.rd hO) sl23, RdS.cellN (OS.rd hO), RdS.cells (OS.rd hO), RdS.len (OS.rd hR) sl26, RdS.idx (OS.rd hR) sl26, RdS.cellN (OS.rd hR), RdS.cells (OS.rd hR), BoxAt.cell hb0_0, BoxAt.cell hb0_1, wrap_id]
     refine op_append1 sz23 hO hfhO.nodup hR hfhR.nodup (apart_lt hlhO hfhR (by omega)) (by first | omega | (simp; omega)) rfl rfl ?_
     intro v19_3 h19_3 fp19_3 ho19_3 hn19_3 hs19_3 c19_3
     have hsz19_3 := c19_3.size
     have hfho19_3 : Fresh h0_1.size fp19_3 := Fresh.appd hfhO hfhR (by omega) (by omega) hn19_3 hs19_3
     have sb23 : Sub [h0_1.size] h2_3.size fp19_3 := Sub.grow sbhO (Sub.fresh hfhR (by omega)) (by omega) hs19_3
     replace hb0_0 := BoxAt.chgA hb0_0 c19_3 (apart_lt hlhb0_0 hfhO (by omega))
     replace hb0_1 := BoxAt.chgA hb0_1 c19_3 (apart_lt hlhb0_1 hfhO (by omega))
     have := c19_3.size
     replace eB := Ext.then eB c19_3 (ge_of hfhO (by omega))
     replace cL2 := Chg.step cL2 c19_3 sbhO
     have hlho19_3 := OS.lt ho19_3
     try simp -implicitDefEqProofs (disch := first | decide | assumption | omega) only [go_sem, RdS.len hdX sl22, RdS.idx hdX sl22, R1.intB hdX (Ext.pres eB), RdS.cells hdX, RdS.len hmX sl23, RdS.idx hmX sl23, RdS.cellB hmX (Ext.pres eB), RdS.cells hmX, RdS.len hdY sl22, RdS.idx hdY sl22, R1.intB hdY (Ext.pres eB), RdS.cells hdY, RdS.len hmY sl23, RdS.idx hmY sl23, RdS.cellB hmY (Ext.pres eB), RdS.cells hmY, RdS.len (OS.rd ho19_3) sl23, RdS.idx (OS.rd ho19_3) sl23, RdS.cellN (OS.rd ho19_3), RdS.cells (OS.rd ho19_3), BoxAt.cell hb0_0, BoxAt.cell hb0_1, wrap_id]
     refine hK _ _ ?_
     clear hK K
     refine den_blk ?_
     refine den_region TTok ?_
     intro K hK
     simp -implicitDefEqProofs (disch := first | decide | assumption | omega) only [go_sem, RdS.len hdX sl22, RdS.idx hdX sl22, R1.intB hdX (Ext.pres eB), RdS.cells hdX, RdS.len hmX sl23, RdS.idx hmX sl23, RdS.cellB hmX (Ext.pres eB), RdS.cells hmX, RdS.len hdY sl22, RdS.idx hdY sl22, R1.intB hdY (Ext.pres eB), RdS.cells hdY, RdS.len hmY sl23, RdS.idx hmY sl23, RdS.cellB hmY (Ext.pres eB), RdS.cells hmY, RdS.len (OS.rd ho19_3) sl23, RdS.idx (OS.rd ho19_3) sl23, RdS.cellN (OS.rd ho19_3), RdS.cells (OS.rd ho19_3), BoxAt.cell hb0_0, BoxAt.cell hb0_1, wrap_id]
     refine hK _ _ ?_
     clear hK K
     refine den_stop ?_
     rw [pRows_all (.inl (by omega)), range_step (fun q : Nat => pRows X Y Fn q)] at ho19_3
     exact ⟨(n + 1, v19_3, fp19_3), by simp [HasL, puts_at], ⟨by first | omega | (dsimp only; omega), ho19_3, hfho19_3, sb23, cL2⟩, by first | omega | (dsimp only; omega)⟩
  ·try simp only [decide_eq_true_eq, decide_eq_false_iff_not, beq_iff_eq, beq_eq_false_iff_ne, bne_iff_ne, ne_eq, Bool.not_eq_true', Bool.not_eq_false', Bool.and_eq_true, Bool.or_eq_true, bne_eq_false_iff_eq] at c0
   refine den_exit ?_
   refine denX_code ?_
   refine denX_stop ?_
   refine denX_hit ?_
   refine den_seq ?_
   refine den_region TTok ?_
   intro K hK
   simp -implicitDefEqProofs (disch := first | decide | assumption | omega) only [go_sem, RdS.len hdX sl22, RdS.idx hdX sl22, R1.intB hdX (Ext.pres eB), RdS.cells hdX, RdS.len hmX sl23, RdS.idx hmX sl23, RdS.cellB hmX (Ext.pres eB), RdS.cells hmX, RdS.len hdY sl22, RdS.idx hdY sl22, R1.intB hdY (Ext.pres eB), RdS.cells hdY, RdS.len hmY sl23, RdS.idx hmY sl23, RdS.cellB hmY (Ext.pres eB), RdS.cells hmY, RdS.len (OS.rd hO) sl23, RdS.idx (OS.rd hO) sl23, RdS.cellN (OS.rd hO), RdS.cells (OS.rd hO), wrap_id]
   refine hK _ _ ?_
   clear hK K
   refine den_ret ?_
   simp (disch := decide) only [resP_1, puts_same, puts_ne]
   rw [show n = X.dims.length + Y.dims.length - 1 by omega] at hO
   exact ⟨_, hO, hfhO.mono (by omega), eB⟩
end Go.Proofs.Ytjjjgllbocgkbaa

namespace Go.Proofs.Ytjjjgllbocgkbaa
open Go
set_option maxRecDepth 100000 in
theorem prC1_ok (X U Y V : Cx) (f g : M3) (vdU vmU vdV vmV vf vg : Value) (i a j b : Nat) (bU bV bF bG : Nat) (h0 h : Heap) (hdU : R1 h0 vdU U.dims) (hmU : R3 h0 vmU U.maps) (hdV : R1 h0 vdV V.dims) (hmV : R3 h0 vmV V.maps) (hf : R3 h0 vf f) (hg : R3 h0 vg g) (eB : Ext h0 h) (hbU : BoxAt h bU #[.int .i64 U.p, vdU, vmU] 31) (hbV : BoxAt h bV #[.int .i64 V.p, vdV, vmV] 31) (hbF : BoxAt h bF #[vf] 23) (hbG : BoxAt h bG #[vg] 23) (k : PrOk X U f Y V g) (ha : (a : Int) < dimP X (i : Int)) (hb : (b : Int) < dimP Y (j : Int)) : CallA Try.prog 132 #[.int .i64 (i : Int), .int .i64 (a : Int), .int .i64 (j : Int), .int .i64 (b : Int), .pointer (some ⟨bU, 0, none⟩), .pointer (some ⟨bV, 0, none⟩), .pointer (some ⟨bF, 0, none⟩), .pointer (some ⟨bG, 0, none⟩)] h fun v' h' => ∃ f0, O1 h' v' (prRow U V f g i a j b) f0 ∧ Fresh h.size f0 ∧ Ext h h' := by
 obtain ⟨hpv, hif, haf, hjg, hbg⟩ := pr_pv k ha hb
 have hr1 := RdS.rowN hf i hif
 have hr2 := RdS.rowN hr1 a haf
 have hs1 := RdS.rowN hg j hjg
 have hs2 := RdS.rowN hs1 b hbg
 refine callA_intro TTok (args := [_, _, _, _, _, _, _, _]) Try.func132 (by kernel_rfl) rfl 32 rfl (by simp) [.tmp 12] rfl ?_
 simp only [idxs, Nat.reduceAdd]
 refine den_seq ?_
 refine den_region TTok ?_
 intro K hK
 simp -implicitDefEqProofs (disch := first | decide | assumption | omega) only [go_sem]
 refine hK _ _ ?_
 clear hK K
 refine den_seq ?_
 refine den_draw TTok mixed [] [(0, true), (1, true), (2, true), (3, true), (4, true), (5, true), (6, true), (7, true), (8, true), (9, true), (10, true), (11, true), (12, true), (13, true), (14, true), (15, true), (16, true), (17, true), (18, false), (19, true)] (by kernel_rfl) ?_
 intro K hK
 have hr1 := RdS.rowN hf i (by omega)
 have hlhr1 := RdS.le hr1
 have hr2 := RdS.rowN hr1 a (by omega)
 have hlhr2 := RdS.le hr2
 have hr3 := RdS.rowN hg j (by omega)
 have hlhr3 := RdS.le hr3
 have hr4 := RdS.rowN hr3 b (by omega)
 have hlhr4 := RdS.le hr4
 simp -implicitDefEqProofs (disch := first | decide | assumption | omega) only [go_sem, ld23, ld26, ld22, ld31, RdS.len hdU sl22, RdS.idx hdU sl22, R1.intB hdU (Ext.pres eB), RdS.cells hdU, RdS.len hmU sl23, RdS.idx hmU sl23, RdS.cellB hmU (Ext.pres eB), RdS.cells hmU, RdS.len hdV sl22, RdS.idx hdV sl22, R1.intB hdV (Ext.pres eB), RdS.cells hdV, RdS.len hmV sl23, RdS.idx hmV sl23, RdS.cellB hmV (Ext.pres eB), RdS.cells hmV, RdS.len hf sl23, RdS.idx hf sl23, RdS.cellB hf (Ext.pres eB), RdS.cells hf, RdS.len hg sl23, RdS.idx hg sl23, RdS.cellB hg (Ext.pres eB), RdS.cells hg, RdS.len hr1 sl26, RdS.idx hr1 sl26, RdS.cellB hr1 (Ext.pres eB), RdS.cells hr1, RdS.len hr2 sl22, RdS.idx hr2 sl22, R1.intB hr2 (Ext.pres eB), RdS.cells hr2, RdS.len hr3 sl26, RdS.idx hr3 sl26, RdS.cellB hr3 (Ext.pres eB), RdS.cells hr3, RdS.len hr4 sl22, RdS.idx hr4 sl22, R1.intB hr4 (Ext.pres eB), RdS.cells hr4, BoxAt.cell hbU, BoxAt.cell hbV, BoxAt.cell hbF, BoxAt.cell hbG, RdS.idx hr1 sl26, RdS.cellB hr1 (Ext.pres eB), RdS.idx hs1 sl26, RdS.cellB hs1 (Ext.pres eB)]
 try simp -implicitDefEqProofs (disch := first | decide | assumption | omega) only [go_sem, RdS.idx hr1 sl26, RdS.cellB hr1 (Ext.pres eB), RdS.idx hs1 sl26, RdS.cellB hs1 (Ext.pres eB)]
 refine CallA.mono (iPairs_ok _ _ _ _ U V (i : Int) _ (j : Int) _ _ ⟨_, _, rfl, RdS.pres hdU (Ext.pres eB), RdS.pres hmU (Ext.pres eB)⟩ ⟨_, _, rfl, RdS.pres hdV (Ext.pres eB), RdS.pres hmV (Ext.pres eB)⟩ (RdS.pres hr2 (Ext.pres eB)) (RdS.pres hs2 (Ext.pres eB)) hpv) ?_
 intro vw h1_18
 rintro ⟨zw, fw, rfl, how, hfw, e1_18⟩
 replace hbU := BoxAt.ext hbU e1_18
 replace hbV := BoxAt.ext hbV e1_18
 replace hbF := BoxAt.ext hbF e1_18
 replace hbG := BoxAt.ext hbG e1_18
 have := Ext.size e1_18
 replace eB := Ext.trans eB e1_18
 try simp (disch := decide) only [outv_some, outv_none, put_puts]
 refine plK_pres (Ext.pres e1_18) ?_
 try simp -implicitDefEqProofs (disch := first | decide | assumption | omega) only [go_sem, RdS.idx hr1 sl26, RdS.cellB hr1 (Ext.pres eB), RdS.idx hs1 sl26, RdS.cellB hs1 (Ext.pres eB)]
 refine hK _ _ ?_
 clear hK K
 refine den_ret ?_
 simp (disch := decide) only [resP_1, puts_same, puts_ne]
 exact ⟨_, how, hfw, e1_18⟩
end Go.Proofs.Ytjjjgllbocgkbaa

namespace Go.Proofs.Ytjjjgllbocgkbaa
open Go
theorem pr_pvI {X U Y V : Cx} {f g : M3} (k : PrOk X U f Y V g) {n i a b : Nat} (hi : i ≤ n) (ha : (a : Int) < dimP X (i : Int)) (hb : (b : Int) < dimP Y ((n : Int) - (i : Int))) : PvOk U V (i : Int) ((f.getD i default).getD a default) ((n : Int) - (i : Int)) ((g.getD ((n : Int) - (i : Int)).toNat default).getD b default) ∧ i < f.length ∧ a < (f.getD i default).length ∧ ((n : Int) - (i : Int)).toNat < g.length ∧ b < (g.getD ((n : Int) - (i : Int)).toNat default).length := by
 have e : (n : Int) - (i : Int) = ((n - i : Nat) : Int) := by omega
 rw [e] at hb ⊢
 exact pr_pv k ha hb
theorem pr_row {U V : Cx} {f g : M3} {n i a b : Nat} (hi : i ≤ n) : pvO U V (i : Int) ((f.getD i default).getD a default) ((n : Int) - (i : Int)) ((g.getD ((n : Int) - (i : Int)).toNat default).getD b default) ((f.getD i default).getD a default).length = prRow U V f g i a (n - i) b := by
 rw [prRow, show (n : Int) - (i : Int) = ((n - i : Nat) : Int) by omega]; rfl
theorem pr_c1 {X U Y V : Cx} {f g : M3} (h : famC X U [f] = 1 ∨ famC Y V [g] = 1) : prC X U f Y V g = 1 := by rw [prC, if_pos h]
theorem pr_c2 {X U Y V : Cx} {f g : M3} (h : ¬ (famC X U [f] = 1 ∨ famC Y V [g] = 1)) (h2 : famC X U [f] ≠ 0 ∨ famC Y V [g] ≠ 0 ∨ twoP X Y ≠ 0) : prC X U f Y V g = 2 := by rw [prC, if_neg h, if_pos h2]
theorem pr_c5 {X U Y V : Cx} {f g : M3} (h1 : famC X U [f] = 0) (h2 : famC Y V [g] = 0) (h3 : twoP X Y = 0) : prC X U f Y V g = if chnP X U f = true ∧ chnP Y V g = true then 0 else 5 := by rw [prC, if_neg (by omega), if_neg (by omega)]

set_option maxRecDepth 100000 in
set_option maxHeartbeats 4000000 in
theorem sPr_ok (vX vU vf vY vV vg : Value) (X : Cx) (U : Cx) (f : List (List (List Int))) (Y : Cx) (V : Cx) (g : List (List (List Int))) (h : Heap) (rX : RC h vX X) (rU : RC h vU U) (rf : R3 h vf f) (rY : RC h vY Y) (rV : RC h vV V) (rg : R3 h vg g)  : CallA Try.prog 61 #[vX, vU, vf, vY, vV, vg] h fun v' h' => ∃ w0 f0, v' = .tuple #[w0, .int .i64 ((prP X U f Y V g).2)] ∧ O3 h' w0 ((prP X U f Y V g).1) f0 ∧ Fresh h.size f0 ∧ Ext h h' := by
 obtain ⟨vdX, vmX, rfl, hdX, hmX⟩ := rX
 have hledX := RdS.le hdX
 have hlemX := RdS.le hmX
 obtain ⟨vdU, vmU, rfl, hdU, hmU⟩ := rU
 have hledU := RdS.le hdU
 have hlemU := RdS.le hmU
 have hlef := RdS.le rf
 obtain ⟨vdY, vmY, rfl, hdY, hmY⟩ := rY
 have hledY := RdS.le hdY
 have hlemY := RdS.le hmY
 obtain ⟨vdV, vmV, rfl, hdV, hmV⟩ := rV
 have hledV := RdS.le hdV
 have hlemV := RdS.le hmV
 have hleg := RdS.le rg
 refine callA_intro TTok (args := [_, _, _, _, _, _]) Try.func61 (by kernel_rfl) rfl 192 rfl (by simp) [.tmp 12, .tmp 13] rfl ?_
 simp only [idxs, Nat.reduceAdd]
 refine den_seq ?_
 refine den_region TTok ?_
 intro K hK
 simp -implicitDefEqProofs (disch := first | decide | assumption | omega) only [go_sem, wrap_id]
 refine op_box (cs := #[.int .i64 (X.p), vdX, vmX]) rfl ?_
 intro h0_0 e0_0 hb0_0 z0_0
 have := Ext.size e0_0
 have eB := e0_0
 have hfhb0_0 : Fresh h.size [h.size] := Fresh.one _
 have hlhb0_0 := one_lt (show h.size < h0_0.size by omega)
 try simp -implicitDefEqProofs (disch := first | decide | assumption | omega) only [go_sem, wrap_id]
 refine op_box (cs := #[.int .i64 (U.p), vdU, vmU]) rfl ?_
 intro h0_1 e0_1 hb0_1 z0_1
 replace hb0_0 := BoxAt.ext hb0_0 e0_1
 have := Ext.size e0_1
 replace eB := Ext.trans eB e0_1
 have hfhb0_1 : Fresh h0_0.size [h0_0.size] := Fresh.one _
 have hlhb0_1 := one_lt (show h0_0.size < h0_1.size by omega)
 try simp -implicitDefEqProofs (disch := first | decide | assumption | omega) only [go_sem, wrap_id]
 refine op_box (cs := #[.int .i64 (Y.p), vdY, vmY]) rfl ?_
 intro h0_2 e0_2 hb0_2 z0_2
 replace hb0_0 := BoxAt.ext hb0_0 e0_2
 replace hb0_1 := BoxAt.ext hb0_1 e0_2
 have := Ext.size e0_2
 replace eB := Ext.trans eB e0_2
 have hfhb0_2 : Fresh h0_1.size [h0_1.size] := Fresh.one _
 have hlhb0_2 := one_lt (show h0_1.size < h0_2.size by omega)
 try simp -implicitDefEqProofs (disch := first | decide | assumption | omega) only [go_sem, wrap_id]
 refine op_box (cs := #[.int .i64 (V.p), vdV, vmV]) rfl ?_
 intro h0_3 e0_3 hb0_3 z0_3
 replace hb0_0 := BoxAt.ext hb0_0 e0_3
 replace hb0_1 := BoxAt.ext hb0_1 e0_3
 replace hb0_2 := BoxAt.ext hb0_2 e0_3
 have := Ext.size e0_3
 replace eB := Ext.trans eB e0_3
 have hfhb0_3 : Fresh h0_2.size [h0_2.size] := Fresh.one _
 have hlhb0_3 := one_lt (show h0_2.size < h0_3.size by omega)
 try simp -implicitDefEqProofs (disch := first | decide | assumption | omega) only [go_sem, wrap_id]
 refine hK _ _ ?_
 clear hK K
 refine den_seq ?_
 refine den_sel [2, 5, 6, 7, 9, 10] ?_
 intro env_1
 simp only [go_sem]
 refine den_drawTJ (σ := Unit) TTok (fun st_ => [(14, .int .i64 ((famC X U ([f])))), (15, .int .i64 ((famC Y V ([g])))), (16, .int .i64 ((twoP X Y)))]) (fun st_ H => (Ext h0_3 H)) mixed [] [(0, true), (1, true), (2, true), (5, true), (6, true), (7, true), (10, true), (11, true)] (.fork 3 [] (.fork 4 [(8, false), (9, false), (12, false), (13, true), (14, true), (15, true)] .fin 8 [(4, false), (9, false), (12, false), (13, true), (14, true), (15, true)] .fin) 8 [(3, false), (4, false), (9, false), (12, false), (13, true), (14, true), (15, true)] .fin) (by kernel_rfl) ?_ ?_
 ·intro K hK
  have cJ2 := Ext.refl h0_3
  simp -implicitDefEqProofs (disch := first | decide | assumption | omega) only [go_sem, ld31, RdS.len hdX sl22, RdS.idx hdX sl22, R1.intB hdX (Ext.pres eB), RdS.cells hdX, RdS.len hmX sl23, RdS.idx hmX sl23, RdS.cellB hmX (Ext.pres eB), RdS.cells hmX, RdS.len hdU sl22, RdS.idx hdU sl22, R1.intB hdU (Ext.pres eB), RdS.cells hdU, RdS.len hmU sl23, RdS.idx hmU sl23, RdS.cellB hmU (Ext.pres eB), RdS.cells hmU, RdS.len rf sl23, RdS.idx rf sl23, RdS.cellB rf (Ext.pres eB), RdS.cells rf, RdS.len hdY sl22, RdS.idx hdY sl22, R1.intB hdY (Ext.pres eB), RdS.cells hdY, RdS.len hmY sl23, RdS.idx hmY sl23, RdS.cellB hmY (Ext.pres eB), RdS.cells hmY, RdS.len hdV sl22, RdS.idx hdV sl22, R1.intB hdV (Ext.pres eB), RdS.cells hdV, RdS.len hmV sl23, RdS.idx hmV sl23, RdS.cellB hmV (Ext.pres eB), RdS.cells hmV, RdS.len rg sl23, RdS.idx rg sl23, RdS.cellB rg (Ext.pres eB), RdS.cells rg, BoxAt.cell hb0_0, BoxAt.cell hb0_1, BoxAt.cell hb0_2, BoxAt.cell hb0_3, wrap_id]
  refine And.intro ?_ ?_
  ·simp -implicitDefEqProofs (disch := first | decide | assumption | omega) only [go_sem, wrap_id]
   refine op_bs1F (RdS.pres rf (Ext.pres eB)) ?_
   intro v1_3 h1_3 ho1_3 e1_3
   replace hb0_0 := BoxAt.ext hb0_0 e1_3
   replace hb0_1 := BoxAt.ext hb0_1 e1_3
   replace hb0_2 := BoxAt.ext hb0_2 e1_3
   replace hb0_3 := BoxAt.ext hb0_3 e1_3
   have := Ext.size e1_3
   replace eB := Ext.trans eB e1_3
   replace cJ2 := Ext.trans cJ2 e1_3
   have xr3 := Ext.refl h1_3
   try simp (disch := decide) only [outv_some, outv_none, put_puts]
   refine plK_pres (Ext.pres e1_3) ?_
   try simp -implicitDefEqProofs (disch := first | decide | assumption | omega) only [go_sem, wrap_id]
   refine And.intro ?_ ?_
   ·simp -implicitDefEqProofs (disch := first | decide | assumption | omega) only [go_sem, wrap_id]
    try simp -implicitDefEqProofs (disch := first | decide | assumption | omega) only [go_sem, wrap_id]
    refine CallA.mono (sFamC_ok _ _ _ X U ([f]) _ ⟨_, _, rfl, (RdS.pres hdX (Ext.pres eB)), (RdS.pres hmX (Ext.pres eB))⟩ ⟨_, _, rfl, (RdS.pres hdU (Ext.pres eB)), (RdS.pres hmU (Ext.pres eB))⟩ (RdS.pres ho1_3 (Ext.pres xr3)) ) ?_
    intro v_ h1_4
    rintro ⟨rfl, e1_4⟩
    replace hb0_0 := BoxAt.ext hb0_0 e1_4
    replace hb0_1 := BoxAt.ext hb0_1 e1_4
    replace hb0_2 := BoxAt.ext hb0_2 e1_4
    replace hb0_3 := BoxAt.ext hb0_3 e1_4
    have := Ext.size e1_4
    replace eB := Ext.trans eB e1_4
    replace xr3 := Ext.trans xr3 e1_4
    replace cJ2 := Ext.trans cJ2 e1_4
    try simp (disch := decide) only [outv_some, outv_none, put_puts]
    refine plK_pres (Ext.pres e1_4) ?_
    try simp -implicitDefEqProofs (disch := first | decide | assumption | omega) only [go_sem, wrap_id]
    refine op_bs1F (RdS.pres rg (Ext.pres eB)) ?_
    intro v1_8 h1_8 ho1_8 e1_8
    replace hb0_0 := BoxAt.ext hb0_0 e1_8
    replace hb0_1 := BoxAt.ext hb0_1 e1_8
    replace hb0_2 := BoxAt.ext hb0_2 e1_8
    replace hb0_3 := BoxAt.ext hb0_3 e1_8
    have := Ext.size e1_8
    replace eB := Ext.trans eB e1_8
    replace xr3 := Ext.trans xr3 e1_8
    replace cJ2 := Ext.trans cJ2 e1_8
    have xr4 := Ext.refl h1_8
    try simp (disch := decide) only [outv_some, outv_none, put_puts]
    refine plK_pres (Ext.pres e1_8) ?_
    try simp -implicitDefEqProofs (disch := first | decide | assumption | omega) only [go_sem, wrap_id]
    try simp -implicitDefEqProofs (disch := first | decide | assumption | omega) only [go_sem, wrap_id]
    refine CallA.mono (sFamC_ok _ _ _ Y V ([g]) _ ⟨_, _, rfl, (RdS.pres hdY (Ext.pres eB)), (RdS.pres hmY (Ext.pres eB))⟩ ⟨_, _, rfl, (RdS.pres hdV (Ext.pres eB)), (RdS.pres hmV (Ext.pres eB))⟩ (RdS.pres ho1_8 (Ext.pres xr4)) ) ?_
    intro v_ h1_9
    rintro ⟨rfl, e1_9⟩
    replace hb0_0 := BoxAt.ext hb0_0 e1_9
    replace hb0_1 := BoxAt.ext hb0_1 e1_9
    replace hb0_2 := BoxAt.ext hb0_2 e1_9
    replace hb0_3 := BoxAt.ext hb0_3 e1_9
    have := Ext.size e1_9
    replace eB := Ext.trans eB e1_9
    replace xr3 := Ext.trans xr3 e1_9
    replace xr4 := Ext.trans xr4 e1_9
    replace cJ2 := Ext.trans cJ2 e1_9
    try simp (disch := decide) only [outv_some, outv_none, put_puts]
    refine plK_pres (Ext.pres e1_9) ?_
    try simp -implicitDefEqProofs (disch := first | decide | assumption | omega) only [go_sem, wrap_id]
    try simp -implicitDefEqProofs (disch := first | decide | assumption | omega) only [go_sem, wrap_id]
    refine CallA.mono (two_ok _ _ X Y _ ⟨_, _, rfl, (RdS.pres hdX (Ext.pres eB)), (RdS.pres hmX (Ext.pres eB))⟩ ⟨_, _, rfl, (RdS.pres hdY (Ext.pres eB)), (RdS.pres hmY (Ext.pres eB))⟩) ?_
    intro v_ h1_12
    rintro ⟨rfl, e1_12⟩
    replace hb0_0 := BoxAt.ext hb0_0 e1_12
    replace hb0_1 := BoxAt.ext hb0_1 e1_12
    replace hb0_2 := BoxAt.ext hb0_2 e1_12
    replace hb0_3 := BoxAt.ext hb0_3 e1_12
    have := Ext.size e1_12
    replace eB := Ext.trans eB e1_12
    replace xr3 := Ext.trans xr3 e1_12
    replace xr4 := Ext.trans xr4 e1_12
    replace cJ2 := Ext.trans cJ2 e1_12
    try simp (disch := decide) only [outv_some, outv_none, put_puts]
    refine plK_pres (Ext.pres e1_12) ?_
    try simp -implicitDefEqProofs (disch := first | decide | assumption | omega) only [go_sem, wrap_id]
    exact hK () _ _ (by simp [HasL, puts_at]) cJ2
   ·simp -implicitDefEqProofs (disch := first | decide | assumption | omega) only [go_sem, wrap_id]
    refine op_bs1F (RdS.pres rg (Ext.pres eB)) ?_
    intro v1_8 h1_8 ho1_8 e1_8
    replace hb0_0 := BoxAt.ext hb0_0 e1_8
    replace hb0_1 := BoxAt.ext hb0_1 e1_8
    replace hb0_2 := BoxAt.ext hb0_2 e1_8
    replace hb0_3 := BoxAt.ext hb0_3 e1_8
    have := Ext.size e1_8
    replace eB := Ext.trans eB e1_8
    replace xr3 := Ext.trans xr3 e1_8
    replace cJ2 := Ext.trans cJ2 e1_8
    have xr5 := Ext.refl h1_8
    try simp (disch := decide) only [outv_some, outv_none, put_puts]
    refine plK_pres (Ext.pres e1_8) ?_
    try simp -implicitDefEqProofs (disch := first | decide | assumption | omega) only [go_sem, wrap_id]
    try simp -implicitDefEqProofs (disch := first | decide | assumption | omega) only [go_sem, wrap_id]
    refine CallA.mono (sFamC_ok _ _ _ X U ([f]) _ ⟨_, _, rfl, (RdS.pres hdX (Ext.pres eB)), (RdS.pres hmX (Ext.pres eB))⟩ ⟨_, _, rfl, (RdS.pres hdU (Ext.pres eB)), (RdS.pres hmU (Ext.pres eB))⟩ (RdS.pres ho1_3 (Ext.pres xr3)) ) ?_
    intro v_ h1_4
    rintro ⟨rfl, e1_4⟩
    replace hb0_0 := BoxAt.ext hb0_0 e1_4
    replace hb0_1 := BoxAt.ext hb0_1 e1_4
    replace hb0_2 := BoxAt.ext hb0_2 e1_4
    replace hb0_3 := BoxAt.ext hb0_3 e1_4
    have := Ext.size e1_4
    replace eB := Ext.trans eB e1_4
    replace xr3 := Ext.trans xr3 e1_4
    replace xr5 := Ext.trans xr5 e1_4
    replace cJ2 := Ext.trans cJ2 e1_4
    try simp (disch := decide) only [outv_some, outv_none, put_puts]
    refine plK_pres (Ext.pres e1_4) ?_
    try simp -implicitDefEqProofs (disch := first | decide | assumption | omega) only [go_sem, wrap_id]
    try simp -implicitDefEqProofs (disch := first | decide | assumption | omega) only [go_sem, wrap_id]
    refine CallA.mono (sFamC_ok _ _ _ Y V ([g]) _ ⟨_, _, rfl, (RdS.pres hdY (Ext.pres eB)), (RdS.pres hmY (Ext.pres eB))⟩ ⟨_, _, rfl, (RdS.pres hdV (Ext.pres eB)), (RdS.pres hmV (Ext.pres eB))⟩ (RdS.pres ho1_8 (Ext.pres xr5)) ) ?_
    intro v_ h1_9
    rintro ⟨rfl, e1_9⟩
    replace hb0_0 := BoxAt.ext hb0_0 e1_9
    replace hb0_1 := BoxAt.ext hb0_1 e1_9
    replace hb0_2 := BoxAt.ext hb0_2 e1_9
    replace hb0_3 := BoxAt.ext hb0_3 e1_9
    have := Ext.size e1_9
    replace eB := Ext.trans eB e1_9
    replace xr3 := Ext.trans xr3 e1_9
    replace xr5 := Ext.trans xr5 e1_9
    replace cJ2 := Ext.trans cJ2 e1_9
    try simp (disch := decide) only [outv_some, outv_none, put_puts]
    refine plK_pres (Ext.pres e1_9) ?_
    try simp -implicitDefEqProofs (disch := first | decide | assumption | omega) only [go_sem, wrap_id]
    try simp -implicitDefEqProofs (disch := first | decide | assumption | omega) only [go_sem, wrap_id]
    refine CallA.mono (two_ok _ _ X Y _ ⟨_, _, rfl, (RdS.pres hdX (Ext.pres eB)), (RdS.pres hmX (Ext.pres eB))⟩ ⟨_, _, rfl, (RdS.pres hdY (Ext.pres eB)), (RdS.pres hmY (Ext.pres eB))⟩) ?_
    intro v_ h1_12
    rintro ⟨rfl, e1_12⟩
    replace hb0_0 := BoxAt.ext hb0_0 e1_12
    replace hb0_1 := BoxAt.ext hb0_1 e1_12
    replace hb0_2 := BoxAt.ext hb0_2 e1_12
    replace hb0_3 := BoxAt.ext hb0_3 e1_12
    have := Ext.size e1_12
    replace eB := Ext.trans eB e1_12
    replace xr3 := Ext.trans xr3 e1_12
    replace xr5 := Ext.trans xr5 e1_12
    replace cJ2 := Ext.trans cJ2 e1_12
    try simp (disch := decide) only [outv_some, outv_none, put_puts]
    refine plK_pres (Ext.pres e1_12) ?_
    try simp -implicitDefEqProofs (disch := first | decide | assumption | omega) only [go_sem, wrap_id]
    exact hK () _ _ (by simp [HasL, puts_at]) cJ2
  ·simp -implicitDefEqProofs (disch := first | decide | assumption | omega) only [go_sem, wrap_id]
   refine op_bs1F (RdS.pres rg (Ext.pres eB)) ?_
   intro v1_8 h1_8 ho1_8 e1_8
   replace hb0_0 := BoxAt.ext hb0_0 e1_8
   replace hb0_1 := BoxAt.ext hb0_1 e1_8
   replace hb0_2 := BoxAt.ext hb0_2 e1_8
   replace hb0_3 := BoxAt.ext hb0_3 e1_8
   have := Ext.size e1_8
   replace eB := Ext.trans eB e1_8
   replace cJ2 := Ext.trans cJ2 e1_8
   have xr6 := Ext.refl h1_8
   try simp (disch := decide) only [outv_some, outv_none, put_puts]
   refine plK_pres (Ext.pres e1_8) ?_
   try simp -implicitDefEqProofs (disch := first | decide | assumption | omega) only [go_sem, wrap_id]
   refine op_bs1F (RdS.pres rf (Ext.pres eB)) ?_
   intro v1_3 h1_3 ho1_3 e1_3
   replace hb0_0 := BoxAt.ext hb0_0 e1_3
   replace hb0_1 := BoxAt.ext hb0_1 e1_3
   replace hb0_2 := BoxAt.ext hb0_2 e1_3
   replace hb0_3 := BoxAt.ext hb0_3 e1_3
   have := Ext.size e1_3
   replace eB := Ext.trans eB e1_3
   replace xr6 := Ext.trans xr6 e1_3
   replace cJ2 := Ext.trans cJ2 e1_3
   have xr7 := Ext.refl h1_3
   try simp (disch := decide) only [outv_some, outv_none, put_puts]
   refine plK_pres (Ext.pres e1_3) ?_
   try simp -implicitDefEqProofs (disch := first | decide | assumption | omega) only [go_sem, wrap_id]
   try simp -implicitDefEqProofs (disch := first | decide | assumption | omega) only [go_sem, wrap_id]
   refine CallA.mono (sFamC_ok _ _ _ X U ([f]) _ ⟨_, _, rfl, (RdS.pres hdX (Ext.pres eB)), (RdS.pres hmX (Ext.pres eB))⟩ ⟨_, _, rfl, (RdS.pres hdU (Ext.pres eB)), (RdS.pres hmU (Ext.pres eB))⟩ (RdS.pres ho1_3 (Ext.pres xr7)) ) ?_
   intro v_ h1_4
   rintro ⟨rfl, e1_4⟩
   replace hb0_0 := BoxAt.ext hb0_0 e1_4
   replace hb0_1 := BoxAt.ext hb0_1 e1_4
   replace hb0_2 := BoxAt.ext hb0_2 e1_4
   replace hb0_3 := BoxAt.ext hb0_3 e1_4
   have := Ext.size e1_4
   replace eB := Ext.trans eB e1_4
   replace xr6 := Ext.trans xr6 e1_4
   replace xr7 := Ext.trans xr7 e1_4
   replace cJ2 := Ext.trans cJ2 e1_4
   try simp (disch := decide) only [outv_some, outv_none, put_puts]
   refine plK_pres (Ext.pres e1_4) ?_
   try simp -implicitDefEqProofs (disch := first | decide | assumption | omega) only [go_sem, wrap_id]
   try simp -implicitDefEqProofs (disch := first | decide | assumption | omega) only [go_sem, wrap_id]
   refine CallA.mono (sFamC_ok _ _ _ Y V ([g]) _ ⟨_, _, rfl, (RdS.pres hdY (Ext.pres eB)), (RdS.pres hmY (Ext.pres eB))⟩ ⟨_, _, rfl, (RdS.pres hdV (Ext.pres eB)), (RdS.pres hmV (Ext.pres eB))⟩ (RdS.pres ho1_8 (Ext.pres xr6)) ) ?_
   intro v_ h1_9
   rintro ⟨rfl, e1_9⟩
   replace hb0_0 := BoxAt.ext hb0_0 e1_9
   replace hb0_1 := BoxAt.ext hb0_1 e1_9
   replace hb0_2 := BoxAt.ext hb0_2 e1_9
   replace hb0_3 := BoxAt.ext hb0_3 e1_9
   have := Ext.size e1_9
   replace eB := Ext.trans eB e1_9
   replace xr6 := Ext.trans xr6 e1_9
   replace xr7 := Ext.trans xr7 e1_9
   replace cJ2 := Ext.trans cJ2 e1_9
   try simp (disch := decide) only [outv_some, outv_none, put_puts]
   refine plK_pres (Ext.pres e1_9) ?_
   try simp -implicitDefEqProofs (disch := first | decide | assumption | omega) only [go_sem, wrap_id]
   try simp -implicitDefEqProofs (disch := first | decide | assumption | omega) only [go_sem, wrap_id]
   refine CallA.mono (two_ok _ _ X Y _ ⟨_, _, rfl, (RdS.pres hdX (Ext.pres eB)), (RdS.pres hmX (Ext.pres eB))⟩ ⟨_, _, rfl, (RdS.pres hdY (Ext.pres eB)), (RdS.pres hmY (Ext.pres eB))⟩) ?_
   intro v_ h1_12
   rintro ⟨rfl, e1_12⟩
   replace hb0_0 := BoxAt.ext hb0_0 e1_12
   replace hb0_1 := BoxAt.ext hb0_1 e1_12
   replace hb0_2 := BoxAt.ext hb0_2 e1_12
   replace hb0_3 := BoxAt.ext hb0_3 e1_12
   have := Ext.size e1_12
   replace eB := Ext.trans eB e1_12
   replace xr6 := Ext.trans xr6 e1_12
   replace xr7 := Ext.trans xr7 e1_12
   replace cJ2 := Ext.trans cJ2 e1_12
   try simp (disch := decide) only [outv_some, outv_none, put_puts]
   refine plK_pres (Ext.pres e1_12) ?_
   try simp -implicitDefEqProofs (disch := first | decide | assumption | omega) only [go_sem, wrap_id]
   exact hK () _ _ (by simp [HasL, puts_at]) cJ2
 ·rintro uJ hj8 ee10 eJ9
  replace hb0_0 := BoxAt.ext hb0_0 eJ9
  replace hb0_1 := BoxAt.ext hb0_1 eJ9
  replace hb0_2 := BoxAt.ext hb0_2 eJ9
  replace hb0_3 := BoxAt.ext hb0_3 eJ9
  have := Ext.size eJ9
  replace eB := Ext.trans eB eJ9
  simp only [List.cons_append, List.nil_append]
  refine den_seq ?_
  refine den_block ?_
  refine den_seq ?_
  refine den_mergeH [(41, .bool ((((famC X U ([f])) == (1 : Int)) || ((famC Y V ([g])) == (1 : Int)))))] [2, 5, 6, 7, 9, 10, 14, 15, 16] ?_ ?_
   -- a way
  ·refine den_region TTok ?_
   intro K hK
   simp -implicitDefEqProofs (disch := first | decide | assumption | (simp (disch := decide) only [slotOf_zero, slotOf_succ, Option.map_some, puts_same, puts_ne, gv_bool, gv_undef, tt, tf, ft, ff, eq_self, if_true, if_false, Bool.false_eq_true, Bool.not_true, Bool.not_false]; done) | omega) only [go_sem, wrap_id]
   refine opsP_F (by simp (disch := decide) only [slotOf_zero, slotOf_succ, Option.map_some, puts_same, puts_ne, gv_bool, gv_undef, tt, tf, ft, ff, eq_self, if_true, if_false, Bool.false_eq_true, Bool.not_true, Bool.not_false]; rfl) (fun g11 => ?_) (fun g11 => ?_)
   ·try simp -implicitDefEqProofs (disch := first | decide | assumption | (simp (disch := decide) only [slotOf_zero, slotOf_succ, Option.map_some, puts_same, puts_ne, gv_bool, gv_undef, tt, tf, ft, ff, eq_self, if_true, if_false, Bool.false_eq_true, Bool.not_true, Bool.not_false, g11]; done) | omega) only [go_sem, wrap_id, g11, eq_self, if_true, if_false, Bool.false_eq_true]
    refine hK _ _ ?_
    clear hK K
    refine den_stop ?_
    refine ⟨?_, rfl⟩
    first | (simp (disch := decide) only [go_sem, g11, eq_self, Bool.true_and, Bool.and_true, Bool.false_and, Bool.and_false, Bool.true_or, Bool.or_true, Bool.false_or, Bool.or_false, if_true, if_false, Bool.false_eq_true]; done) | simp [HasL, sel, puts_at, g11]
   ·try simp -implicitDefEqProofs (disch := first | decide | assumption | (simp (disch := decide) only [slotOf_zero, slotOf_succ, Option.map_some, puts_same, puts_ne, gv_bool, gv_undef, tt, tf, ft, ff, eq_self, if_true, if_false, Bool.false_eq_true, Bool.not_true, Bool.not_false, g11]; done) | omega) only [go_sem, wrap_id, g11, eq_self, if_true, if_false, Bool.false_eq_true]
    refine hK _ _ ?_
    clear hK K
    refine den_stop ?_
    refine ⟨?_, rfl⟩
    first | (simp (disch := decide) only [go_sem, g11, eq_self, Bool.true_and, Bool.and_true, Bool.false_and, Bool.and_false, Bool.true_or, Bool.or_true, Bool.false_or, Bool.or_false, if_true, if_false, Bool.false_eq_true]; done) | simp [HasL, sel, puts_at, g11]
  intro en12
  simp (disch := decide) only [go_sem]
  refine den_cond rfl (fun c0 => ?_) (fun c0 => ?_)
  ·try simp only [decide_eq_true_eq, decide_eq_false_iff_not, beq_iff_eq, beq_eq_false_iff_ne, bne_iff_ne, ne_eq, Bool.not_eq_true', Bool.not_eq_false', Bool.and_eq_true, Bool.or_eq_true, bne_eq_false_iff_eq, Bool.or_eq_false_iff, Bool.and_eq_false_iff] at c0
   refine den_seq ?_
   refine den_region TTok ?_
   intro K hK
   simp -implicitDefEqProofs (disch := first | decide | assumption | omega) only [go_sem, wrap_id]
   refine hK _ _ ?_
   clear hK K
   refine den_ret ?_
   simp (disch := decide) only [resP_2, puts_same, puts_ne]
   have hz : prP X U f Y V g = ([], 1) := by rw [prP, pr_c1 c0, if_neg (by decide)]
   rw [hz]
   exact ⟨.slice none 0 0, [], rfl, OS.nil, Fresh.nil _, eB⟩
  ·try simp only [decide_eq_true_eq, decide_eq_false_iff_not, beq_iff_eq, beq_eq_false_iff_ne, bne_iff_ne, ne_eq, Bool.not_eq_true', Bool.not_eq_false', Bool.and_eq_true, Bool.or_eq_true, bne_eq_false_iff_eq, Bool.or_eq_false_iff, Bool.and_eq_false_iff] at c0
   refine den_seq ?_
   refine den_mergeH [(48, .bool (((((famC X U ([f])) != (0 : Int)) || ((famC Y V ([g])) != (0 : Int))) || ((twoP X Y) != (0 : Int)))))] [2, 5, 6, 7, 9, 10] ?_ ?_
    -- a way
   ·refine den_region TTok ?_
    intro K hK
    simp -implicitDefEqProofs (disch := first | decide | assumption | (simp (disch := decide) only [slotOf_zero, slotOf_succ, Option.map_some, puts_same, puts_ne, gv_bool, gv_undef, tt, tf, ft, ff, eq_self, if_true, if_false, Bool.false_eq_true, Bool.not_true, Bool.not_false]; done) | omega) only [go_sem, wrap_id]
    refine opsP_F (by simp (disch := decide) only [slotOf_zero, slotOf_succ, Option.map_some, puts_same, puts_ne, gv_bool, gv_undef, tt, tf, ft, ff, eq_self, if_true, if_false, Bool.false_eq_true, Bool.not_true, Bool.not_false]; rfl) (fun g15 => ?_) (fun g15 => ?_)
    ·try simp -implicitDefEqProofs (disch := first | decide | assumption | (simp (disch := decide) only [slotOf_zero, slotOf_succ, Option.map_some, puts_same, puts_ne, gv_bool, gv_undef, tt, tf, ft, ff, eq_self, if_true, if_false, Bool.false_eq_true, Bool.not_true, Bool.not_false, g15]; done) | omega) only [go_sem, wrap_id, g15, eq_self, if_true, if_false, Bool.false_eq_true]
     refine opsP_F (by simp (disch := decide) only [slotOf_zero, slotOf_succ, Option.map_some, puts_same, puts_ne, gv_bool, gv_undef, tt, tf, ft, ff, eq_self, if_true, if_false, Bool.false_eq_true, Bool.not_true, Bool.not_false, g15]; rfl) (fun g16 => ?_) (fun g16 => ?_)
     ·try simp -implicitDefEqProofs (disch := first | decide | assumption | (simp (disch := decide) only [slotOf_zero, slotOf_succ, Option.map_some, puts_same, puts_ne, gv_bool, gv_undef, tt, tf, ft, ff, eq_self, if_true, if_false, Bool.false_eq_true, Bool.not_true, Bool.not_false, g15, g16]; done) | omega) only [go_sem, wrap_id, g15, g16, eq_self, if_true, if_false, Bool.false_eq_true]
      refine hK _ _ ?_
      clear hK K
      refine den_stop ?_
      refine ⟨?_, rfl⟩
      first | (simp (disch := decide) only [go_sem, g15, g16, eq_self, Bool.true_and, Bool.and_true, Bool.false_and, Bool.and_false, Bool.true_or, Bool.or_true, Bool.false_or, Bool.or_false, if_true, if_false, Bool.false_eq_true]; done) | simp [HasL, sel, puts_at, g15, g16]
     ·try simp -implicitDefEqProofs (disch := first | decide | assumption | (simp (disch := decide) only [slotOf_zero, slotOf_succ, Option.map_some, puts_same, puts_ne, gv_bool, gv_undef, tt, tf, ft, ff, eq_self, if_true, if_false, Bool.false_eq_true, Bool.not_true, Bool.not_false, g15, g16]; done) | omega) only [go_sem, wrap_id, g15, g16, eq_self, if_true, if_false, Bool.false_eq_true]
      refine hK _ _ ?_
      clear hK K
      refine den_stop ?_
      refine ⟨?_, rfl⟩
      first | (simp (disch := decide) only [go_sem, g15, g16, eq_self, Bool.true_and, Bool.and_true, Bool.false_and, Bool.and_false, Bool.true_or, Bool.or_true, Bool.false_or, Bool.or_false, if_true, if_false, Bool.false_eq_true]; done) | simp [HasL, sel, puts_at, g15, g16]
    ·try simp -implicitDefEqProofs (disch := first | decide | assumption | (simp (disch := decide) only [slotOf_zero, slotOf_succ, Option.map_some, puts_same, puts_ne, gv_bool, gv_undef, tt, tf, ft, ff, eq_self, if_true, if_false, Bool.false_eq_true, Bool.not_true, Bool.not_false, g15]; done) | omega) only [go_sem, wrap_id, g15, eq_self, if_true, if_false, Bool.false_eq_true]
     try simp -implicitDefEqProofs (disch := first | decide | assumption | (simp (disch := decide) only [slotOf_zero, slotOf_succ, Option.map_some, puts_same, puts_ne, gv_bool, gv_undef, tt, tf, ft, ff, eq_self, if_true, if_false, Bool.false_eq_true, Bool.not_true, Bool.not_false, g15]; done) | omega) only [go_sem, wrap_id, g15, eq_self, if_true, if_false, Bool.false_eq_true]
     refine hK _ _ ?_
     clear hK K
     refine den_stop ?_
     refine ⟨?_, rfl⟩
     first | (simp (disch := decide) only [go_sem, g15, eq_self, Bool.true_and, Bool.and_true, Bool.false_and, Bool.and_false, Bool.true_or, Bool.or_true, Bool.false_or, Bool.or_false, if_true, if_false, Bool.false_eq_true]; done) | simp [HasL, sel, puts_at, g15]
   intro en17
   simp (disch := decide) only [go_sem]
   refine den_cond rfl (fun c1 => ?_) (fun c1 => ?_)
   ·try simp only [decide_eq_true_eq, decide_eq_false_iff_not, beq_iff_eq, beq_eq_false_iff_ne, bne_iff_ne, ne_eq, Bool.not_eq_true', Bool.not_eq_false', Bool.and_eq_true, Bool.or_eq_true, bne_eq_false_iff_eq, Bool.or_eq_false_iff, Bool.and_eq_false_iff] at c1
    refine den_seq ?_
    refine den_region TTok ?_
    intro K hK
    simp -implicitDefEqProofs (disch := first | decide | assumption | omega) only [go_sem, wrap_id]
    refine hK _ _ ?_
    clear hK K
    refine den_ret ?_
    simp (disch := decide) only [resP_2, puts_same, puts_ne]
    have hz : prP X U f Y V g = ([], 2) := by rw [prP, pr_c2 (by omega) (by omega), if_neg (by decide)]
    rw [hz]
    exact ⟨.slice none 0 0, [], rfl, OS.nil, Fresh.nil _, eB⟩
   ·try simp only [decide_eq_true_eq, decide_eq_false_iff_not, beq_iff_eq, beq_eq_false_iff_ne, bne_iff_ne, ne_eq, Bool.not_eq_true', Bool.not_eq_false', Bool.and_eq_true, Bool.or_eq_true, bne_eq_false_iff_eq, Bool.or_eq_false_iff, Bool.and_eq_false_iff] at c1
    have hk := pr_ok (f := f) (g := g) c1.1.1 c1.1.2 c1.2
    have hX := hk.cX
    have hY := hk.cY
    have hU := hk.cU
    have hV := hk.cV
    have hpx := hk.px
    have hlx := hk.lx
    have hly := hk.ly
    have hlX := hX.len
    have hlY := hY.len
    have hpb := isP_bnd hX.p
    have htl := tdP_len X Y
    have htl2 := tdP_len U V
    refine den_seq ?_
    refine den_merge [(59, .bool (((!((chnP X U f))) || (!((chnP Y V g))))))] [2, 5, 6, 7, 9, 10] (fun H => Ext hj8 H) ?_ ?_
     -- a way
    ·refine den_region TTok ?_
     intro K hK
     simp -implicitDefEqProofs (disch := first | decide | assumption | (simp (disch := decide) only [slotOf_zero, slotOf_succ, Option.map_some, puts_same, puts_ne, gv_bool, gv_undef, tt, tf, ft, ff, eq_self, if_true, if_false, Bool.false_eq_true, Bool.not_true, Bool.not_false]; done) | omega) only [go_sem, ld31, RdS.len hdX sl22, RdS.idx hdX sl22, R1.intB hdX (Ext.pres eB), RdS.cells hdX, RdS.len hmX sl23, RdS.idx hmX sl23, RdS.cellB hmX (Ext.pres eB), RdS.cells hmX, RdS.len hdU sl22, RdS.idx hdU sl22, R1.intB hdU (Ext.pres eB), RdS.cells hdU, RdS.len hmU sl23, RdS.idx hmU sl23, RdS.cellB hmU (Ext.pres eB), RdS.cells hmU, RdS.len rf sl23, RdS.idx rf sl23, RdS.cellB rf (Ext.pres eB), RdS.cells rf, BoxAt.cell hb0_0, BoxAt.cell hb0_1, wrap_id]
     try simp -implicitDefEqProofs (disch := first | decide | assumption | omega) only [go_sem, wrap_id]
     refine CallA.mono (sChn_ok _ _ _ X U f _ ⟨_, _, rfl, (RdS.pres hdX (Ext.pres eB)), (RdS.pres hmX (Ext.pres eB))⟩ ⟨_, _, rfl, (RdS.pres hdU (Ext.pres eB)), (RdS.pres hmU (Ext.pres eB))⟩ (RdS.pres rf (Ext.pres eB)) hk.cX hk.cU hk.fF hk.px hk.lx) ?_
     intro v_ h6_3
     rintro ⟨rfl, e6_3⟩
     replace hb0_0 := BoxAt.ext hb0_0 e6_3
     replace hb0_1 := BoxAt.ext hb0_1 e6_3
     replace hb0_2 := BoxAt.ext hb0_2 e6_3
     replace hb0_3 := BoxAt.ext hb0_3 e6_3
     have := Ext.size e6_3
     replace eB := Ext.trans eB e6_3
     try simp -implicitDefEqProofs (disch := first | decide | assumption | (simp (disch := decide) only [slotOf_zero, slotOf_succ, Option.map_some, puts_same, puts_ne, gv_bool, gv_undef, tt, tf, ft, ff, eq_self, if_true, if_false, Bool.false_eq_true, Bool.not_true, Bool.not_false]; done) | omega) only [go_sem, wrap_id]
     refine opsP_F (by simp (disch := decide) only [slotOf_zero, slotOf_succ, Option.map_some, puts_same, puts_ne, gv_bool, gv_undef, tt, tf, ft, ff, eq_self, if_true, if_false, Bool.false_eq_true, Bool.not_true, Bool.not_false]; rfl) (fun g20 => ?_) (fun g20 => ?_)
     ·try simp -implicitDefEqProofs (disch := first | decide | assumption | (simp (disch := decide) only [slotOf_zero, slotOf_succ, Option.map_some, puts_same, puts_ne, gv_bool, gv_undef, tt, tf, ft, ff, eq_self, if_true, if_false, Bool.false_eq_true, Bool.not_true, Bool.not_false, g20]; done) | omega) only [go_sem, ld31, RdS.len hdY sl22, RdS.idx hdY sl22, R1.intB hdY (Ext.pres eB), RdS.cells hdY, RdS.len hmY sl23, RdS.idx hmY sl23, RdS.cellB hmY (Ext.pres eB), RdS.cells hmY, RdS.len hdV sl22, RdS.idx hdV sl22, R1.intB hdV (Ext.pres eB), RdS.cells hdV, RdS.len hmV sl23, RdS.idx hmV sl23, RdS.cellB hmV (Ext.pres eB), RdS.cells hmV, RdS.len rg sl23, RdS.idx rg sl23, RdS.cellB rg (Ext.pres eB), RdS.cells rg, BoxAt.cell hb0_2, BoxAt.cell hb0_3, wrap_id, g20, eq_self, if_true, if_false, Bool.false_eq_true]
      try simp -implicitDefEqProofs (disch := first | decide | assumption | omega) only [go_sem, wrap_id]
      refine CallA.mono (sChn_ok _ _ _ Y V g _ ⟨_, _, rfl, (RdS.pres hdY (Ext.pres eB)), (RdS.pres hmY (Ext.pres eB))⟩ ⟨_, _, rfl, (RdS.pres hdV (Ext.pres eB)), (RdS.pres hmV (Ext.pres eB))⟩ (RdS.pres rg (Ext.pres eB)) hk.cY hk.cV hk.fG hk.py hk.ly) ?_
      intro v_ h6_9
      rintro ⟨rfl, e6_9⟩
      replace hb0_0 := BoxAt.ext hb0_0 e6_9
      replace hb0_1 := BoxAt.ext hb0_1 e6_9
      replace hb0_2 := BoxAt.ext hb0_2 e6_9
      replace hb0_3 := BoxAt.ext hb0_3 e6_9
      have := Ext.size e6_9
      replace eB := Ext.trans eB e6_9
      try simp -implicitDefEqProofs (disch := first | decide | assumption | (simp (disch := decide) only [slotOf_zero, slotOf_succ, Option.map_some, puts_same, puts_ne, gv_bool, gv_undef, tt, tf, ft, ff, eq_self, if_true, if_false, Bool.false_eq_true, Bool.not_true, Bool.not_false, g20]; done) | omega) only [go_sem, wrap_id, g20, eq_self, if_true, if_false, Bool.false_eq_true]
      refine hK _ _ ?_
      clear hK K
      refine den_stop ?_
      refine ⟨?_, (Ext.trans e6_3 e6_9)⟩
      first | (simp (disch := decide) only [go_sem, g20, eq_self, Bool.true_and, Bool.and_true, Bool.false_and, Bool.and_false, Bool.true_or, Bool.or_true, Bool.false_or, Bool.or_false, if_true, if_false, Bool.false_eq_true]; done) | simp [HasL, sel, puts_at, g20]
     ·try simp -implicitDefEqProofs (disch := first | decide | assumption | (simp (disch := decide) only [slotOf_zero, slotOf_succ, Option.map_some, puts_same, puts_ne, gv_bool, gv_undef, tt, tf, ft, ff, eq_self, if_true, if_false, Bool.false_eq_true, Bool.not_true, Bool.not_false, g20]; done) | omega) only [go_sem, wrap_id, g20, eq_self, if_true, if_false, Bool.false_eq_true]
      refine hK _ _ ?_
      clear hK K
      refine den_stop ?_
      refine ⟨?_, e6_3⟩
      first | (simp (disch := decide) only [go_sem, g20, eq_self, Bool.true_and, Bool.and_true, Bool.false_and, Bool.and_false, Bool.true_or, Bool.or_true, Bool.false_or, Bool.or_false, if_true, if_false, Bool.false_eq_true]; done) | simp [HasL, sel, puts_at, g20]
    intro en21 h22 e23
    replace hb0_0 := BoxAt.ext hb0_0 e23
    replace hb0_1 := BoxAt.ext hb0_1 e23
    replace hb0_2 := BoxAt.ext hb0_2 e23
    replace hb0_3 := BoxAt.ext hb0_3 e23
    have := Ext.size e23
    replace eB := Ext.trans eB e23
    simp (disch := decide) only [go_sem]
    refine den_cond rfl (fun c2 => ?_) (fun c2 => ?_)
    ·try simp only [decide_eq_true_eq, decide_eq_false_iff_not, beq_iff_eq, beq_eq_false_iff_ne, bne_iff_ne, ne_eq, Bool.not_eq_true', Bool.not_eq_false', Bool.and_eq_true, Bool.or_eq_true, bne_eq_false_iff_eq, Bool.or_eq_false_iff, Bool.and_eq_false_iff] at c2
     refine den_seq ?_
     refine den_region TTok ?_
     intro K hK
     simp -implicitDefEqProofs (disch := first | decide | assumption | omega) only [go_sem, wrap_id]
     refine hK _ _ ?_
     clear hK K
     refine den_ret ?_
     simp (disch := decide) only [resP_2, puts_same, puts_ne]
     have h5 : prC X U f Y V g = 5 := by rw [pr_c5 c1.1.1 c1.1.2 c1.2, if_neg (by rintro ⟨h1, h2⟩; rw [h1, h2] at c2; simp at c2)]
     have hz : prP X U f Y V g = ([], 5) := by rw [prP, h5, if_neg (by decide)]
     rw [hz]
     exact ⟨.slice none 0 0, [], rfl, OS.nil, Fresh.nil _, eB⟩
    ·try simp only [decide_eq_true_eq, decide_eq_false_iff_not, beq_iff_eq, beq_eq_false_iff_ne, bne_iff_ne, ne_eq, Bool.not_eq_true', Bool.not_eq_false', Bool.and_eq_true, Bool.or_eq_true, bne_eq_false_iff_eq, Bool.or_eq_false_iff, Bool.and_eq_false_iff] at c2
     refine den_skip ?_
     refine den_blk ?_
     refine den_seq ?_
     refine den_draw TTok mixed [] [(0, true), (1, true), (3, true), (4, true), (2, false), (5, false), (6, true), (7, true)] (by kernel_rfl) ?_
     intro K hK
     simp -implicitDefEqProofs (disch := first | decide | assumption | omega) only [go_sem, ld31, RdS.len hdX sl22, RdS.idx hdX sl22, R1.intB hdX (Ext.pres eB), RdS.cells hdX, RdS.len hmX sl23, RdS.idx hmX sl23, RdS.cellB hmX (Ext.pres eB), RdS.cells hmX, RdS.len hdU sl22, RdS.idx hdU sl22, R1.intB hdU (Ext.pres eB), RdS.cells hdU, RdS.len hmU sl23, RdS.idx hmU sl23, RdS.cellB hmU (Ext.pres eB), RdS.cells hmU, RdS.len hdY sl22, RdS.idx hdY sl22, R1.intB hdY (Ext.pres eB), RdS.cells hdY, RdS.len hmY sl23, RdS.idx hmY sl23, RdS.cellB hmY (Ext.pres eB), RdS.cells hmY, RdS.len hdV sl22, RdS.idx hdV sl22, R1.intB hdV (Ext.pres eB), RdS.cells hdV, RdS.len hmV sl23, RdS.idx hmV sl23, RdS.cellB hmV (Ext.pres eB), RdS.cells hmV, BoxAt.cell hb0_0, BoxAt.cell hb0_1, BoxAt.cell hb0_2, BoxAt.cell hb0_3, wrap_id]
     try simp -implicitDefEqProofs (disch := first | decide | assumption | omega) only [go_sem, wrap_id]
     refine CallA.mono (sDims_ok _ _ X Y _ ⟨_, _, rfl, (RdS.pres hdX (Ext.pres eB)), (RdS.pres hmX (Ext.pres eB))⟩ ⟨_, _, rfl, (RdS.pres hdY (Ext.pres eB)), (RdS.pres hmY (Ext.pres eB))⟩ hX hY) ?_
     intro vw8_2_0 h8_2
     rintro ⟨zvw8_2_0, fw8_2_0, rfl, how8_2_0, hfw8_2_0, e8_2⟩
     replace hb0_0 := BoxAt.ext hb0_0 e8_2
     replace hb0_1 := BoxAt.ext hb0_1 e8_2
     replace hb0_2 := BoxAt.ext hb0_2 e8_2
     replace hb0_3 := BoxAt.ext hb0_3 e8_2
     have := Ext.size e8_2
     replace eB := Ext.trans eB e8_2
     have hlhow8_2_0 := OS.lt how8_2_0
     try simp (disch := decide) only [outv_some, outv_none, put_puts]
     refine plK_pres (Ext.pres e8_2) ?_
     try simp -implicitDefEqProofs (disch := first | decide | assumption | omega) only [go_sem, wrap_id]
     try simp -implicitDefEqProofs (disch := first | decide | assumption | omega) only [go_sem, wrap_id]
     refine CallA.mono (sDims_ok _ _ U V _ ⟨_, _, rfl, (RdS.pres hdU (Ext.pres eB)), (RdS.pres hmU (Ext.pres eB))⟩ ⟨_, _, rfl, (RdS.pres hdV (Ext.pres eB)), (RdS.pres hmV (Ext.pres eB))⟩ hU hV) ?_
     intro vw8_5_0 h8_5
     rintro ⟨zvw8_5_0, fw8_5_0, rfl, how8_5_0, hfw8_5_0, e8_5⟩
     replace how8_2_0 := OS.ext how8_2_0 e8_5
     replace hb0_0 := BoxAt.ext hb0_0 e8_5
     replace hb0_1 := BoxAt.ext hb0_1 e8_5
     replace hb0_2 := BoxAt.ext hb0_2 e8_5
     replace hb0_3 := BoxAt.ext hb0_3 e8_5
     have := Ext.size e8_5
     replace eB := Ext.trans eB e8_5
     have hlhow8_5_0 := OS.lt how8_5_0
     try simp (disch := decide) only [outv_some, outv_none, put_puts]
     refine plK_pres (Ext.pres e8_5) ?_
     try simp -implicitDefEqProofs (disch := first | decide | assumption | omega) only [go_sem, RdS.len (OS.rd how8_2_0) sl22, RdS.idx (OS.rd how8_2_0) sl22, R1.intN (OS.rd how8_2_0), RdS.cells (OS.rd how8_2_0), RdS.len (OS.rd how8_5_0) sl22, RdS.idx (OS.rd how8_5_0) sl22, R1.intN (OS.rd how8_5_0), RdS.cells (OS.rd how8_5_0), wrap_id]
     refine hK _ _ ?_
     clear hK K
     refine den_seq ?_
     refine den_seq ?_
     refine den_merge [(85, .bool (((!((fitP (tdP X Y)))) || (!((fitP (tdP U V)))))))] [2, 5, 6, 7, 9, 10, 17, 18] (fun H => Ext h8_5 H) ?_ ?_
      -- a way
     ·refine den_region TTok ?_
      intro K hK
      simp -implicitDefEqProofs (disch := first | decide | assumption | (simp (disch := decide) only [slotOf_zero, slotOf_succ, Option.map_some, puts_same, puts_ne, gv_bool, gv_undef, tt, tf, ft, ff, eq_self, if_true, if_false, Bool.false_eq_true, Bool.not_true, Bool.not_false]; done) | omega) only [go_sem, RdS.len (OS.rd how8_2_0) sl22, RdS.idx (OS.rd how8_2_0) sl22, R1.intN (OS.rd how8_2_0), RdS.cells (OS.rd how8_2_0), wrap_id]
      try simp -implicitDefEqProofs (disch := first | decide | assumption | omega) only [go_sem, wrap_id]
      refine CallA.mono (sFits_ok _ (tdP X Y) _ (OS.rd how8_2_0) ) ?_
      intro v_ h9_1
      rintro ⟨rfl, e9_1⟩
      replace how8_2_0 := OS.ext how8_2_0 e9_1
      replace how8_5_0 := OS.ext how8_5_0 e9_1
      replace hb0_0 := BoxAt.ext hb0_0 e9_1
      replace hb0_1 := BoxAt.ext hb0_1 e9_1
      replace hb0_2 := BoxAt.ext hb0_2 e9_1
      replace hb0_3 := BoxAt.ext hb0_3 e9_1
      have := Ext.size e9_1
      replace eB := Ext.trans eB e9_1
      try simp -implicitDefEqProofs (disch := first | decide | assumption | (simp (disch := decide) only [slotOf_zero, slotOf_succ, Option.map_some, puts_same, puts_ne, gv_bool, gv_undef, tt, tf, ft, ff, eq_self, if_true, if_false, Bool.false_eq_true, Bool.not_true, Bool.not_false]; done) | omega) only [go_sem, wrap_id]
      refine opsP_F (by simp (disch := decide) only [slotOf_zero, slotOf_succ, Option.map_some, puts_same, puts_ne, gv_bool, gv_undef, tt, tf, ft, ff, eq_self, if_true, if_false, Bool.false_eq_true, Bool.not_true, Bool.not_false]; rfl) (fun g24 => ?_) (fun g24 => ?_)
      ·try simp -implicitDefEqProofs (disch := first | decide | assumption | (simp (disch := decide) only [slotOf_zero, slotOf_succ, Option.map_some, puts_same, puts_ne, gv_bool, gv_undef, tt, tf, ft, ff, eq_self, if_true, if_false, Bool.false_eq_true, Bool.not_true, Bool.not_false, g24]; done) | omega) only [go_sem, RdS.len (OS.rd how8_5_0) sl22, RdS.idx (OS.rd how8_5_0) sl22, R1.intN (OS.rd how8_5_0), RdS.cells (OS.rd how8_5_0), wrap_id, g24, eq_self, if_true, if_false, Bool.false_eq_true]
       try simp -implicitDefEqProofs (disch := first | decide | assumption | omega) only [go_sem, wrap_id]
       refine CallA.mono (sFits_ok _ (tdP U V) _ (OS.rd how8_5_0) ) ?_
       intro v_ h9_5
       rintro ⟨rfl, e9_5⟩
       replace how8_2_0 := OS.ext how8_2_0 e9_5
       replace how8_5_0 := OS.ext how8_5_0 e9_5
       replace hb0_0 := BoxAt.ext hb0_0 e9_5
       replace hb0_1 := BoxAt.ext hb0_1 e9_5
       replace hb0_2 := BoxAt.ext hb0_2 e9_5
       replace hb0_3 := BoxAt.ext hb0_3 e9_5
       have := Ext.size e9_5
       replace eB := Ext.trans eB e9_5
       try simp -implicitDefEqProofs (disch := first | decide | assumption | (simp (disch := decide) only [slotOf_zero, slotOf_succ, Option.map_some, puts_same, puts_ne, gv_bool, gv_undef, tt, tf, ft, ff, eq_self, if_true, if_false, Bool.false_eq_true, Bool.not_true, Bool.not_false, g24]; done) | omega) only [go_sem, wrap_id, g24, eq_self, if_true, if_false, Bool.false_eq_true]
       refine hK _ _ ?_
       clear hK K
       refine den_stop ?_
       refine ⟨?_, (Ext.trans e9_1 e9_5)⟩
       first | (simp (disch := decide) only [go_sem, g24, eq_self, Bool.true_and, Bool.and_true, Bool.false_and, Bool.and_false, Bool.true_or, Bool.or_true, Bool.false_or, Bool.or_false, if_true, if_false, Bool.false_eq_true]; done) | simp [HasL, sel, puts_at, g24]
      ·try simp -implicitDefEqProofs (disch := first | decide | assumption | (simp (disch := decide) only [slotOf_zero, slotOf_succ, Option.map_some, puts_same, puts_ne, gv_bool, gv_undef, tt, tf, ft, ff, eq_self, if_true, if_false, Bool.false_eq_true, Bool.not_true, Bool.not_false, g24]; done) | omega) only [go_sem, wrap_id, g24, eq_self, if_true, if_false, Bool.false_eq_true]
       refine hK _ _ ?_
       clear hK K
       refine den_stop ?_
       refine ⟨?_, e9_1⟩
       first | (simp (disch := decide) only [go_sem, g24, eq_self, Bool.true_and, Bool.and_true, Bool.false_and, Bool.and_false, Bool.true_or, Bool.or_true, Bool.false_or, Bool.or_false, if_true, if_false, Bool.false_eq_true]; done) | simp [HasL, sel, puts_at, g24]
     intro en25 h26 e27
     replace how8_2_0 := OS.ext how8_2_0 e27
     replace how8_5_0 := OS.ext how8_5_0 e27
     replace hb0_0 := BoxAt.ext hb0_0 e27
     replace hb0_1 := BoxAt.ext hb0_1 e27
     replace hb0_2 := BoxAt.ext hb0_2 e27
     replace hb0_3 := BoxAt.ext hb0_3 e27
     have := Ext.size e27
     replace eB := Ext.trans eB e27
     simp (disch := decide) only [go_sem]
     refine den_cond rfl (fun c3 => ?_) (fun c3 => ?_)
     ·try simp only [decide_eq_true_eq, decide_eq_false_iff_not, beq_iff_eq, beq_eq_false_iff_ne, bne_iff_ne, ne_eq, Bool.not_eq_true', Bool.not_eq_false', Bool.and_eq_true, Bool.or_eq_true, bne_eq_false_iff_eq, Bool.or_eq_false_iff, Bool.and_eq_false_iff] at c3
      refine den_seq ?_
      refine den_region TTok ?_
      intro K hK
      simp -implicitDefEqProofs (disch := first | decide | assumption | omega) only [go_sem, wrap_id]
      refine hK _ _ ?_
      clear hK K
      refine den_ret ?_
      simp (disch := decide) only [resP_2, puts_same, puts_ne]
      have h0 : prC X U f Y V g = 0 := by rw [pr_c5 c1.1.1 c1.1.2 c1.2, if_pos (by simpa using c2)]
      have hz : prP X U f Y V g = ([], 3) := by rw [prP, if_pos h0, if_neg (by rintro ⟨h1, h2⟩; rw [h1, h2] at c3; simp at c3)]
      rw [hz]
      exact ⟨.slice none 0 0, [], rfl, OS.nil, Fresh.nil _, eB⟩
     ·try simp only [decide_eq_true_eq, decide_eq_false_iff_not, beq_iff_eq, beq_eq_false_iff_ne, bne_iff_ne, ne_eq, Bool.not_eq_true', Bool.not_eq_false', Bool.and_eq_true, Bool.or_eq_true, bne_eq_false_iff_eq, Bool.or_eq_false_iff, Bool.and_eq_false_iff] at c3
      have hft : fitP (tdP X Y) = true ∧ fitP (tdP U V) = true := by simpa using c3
      refine den_skip ?_
      refine den_seq ?_
      refine den_region TTok ?_
      intro K hK
      simp -implicitDefEqProofs (disch := first | decide | assumption | omega) only [go_sem, wrap_id]
      refine op_bs0 sz23 O2 ?_
      intro v11_0 h11_0 ho11_0 e11_0
      replace how8_2_0 := OS.ext how8_2_0 e11_0
      replace how8_5_0 := OS.ext how8_5_0 e11_0
      replace hb0_0 := BoxAt.ext hb0_0 e11_0
      replace hb0_1 := BoxAt.ext hb0_1 e11_0
      replace hb0_2 := BoxAt.ext hb0_2 e11_0
      replace hb0_3 := BoxAt.ext hb0_3 e11_0
      have := Ext.size e11_0
      replace eB := Ext.trans eB e11_0
      have hfho11_0 : Fresh h26.size [h26.size] := Fresh.one _
      have hlho11_0 := OS.lt ho11_0
      try simp -implicitDefEqProofs (disch := first | decide | assumption | omega) only [go_sem, RdS.len (OS.rd ho11_0) sl23, RdS.idx (OS.rd ho11_0) sl23, RdS.cellN (OS.rd ho11_0), RdS.cells (OS.rd ho11_0), wrap_id]
      refine hK _ _ ?_
      clear hK K
      refine den_seq ?_
      refine den_seq ?_
      refine den_region TTok ?_
      intro K hK
      simp -implicitDefEqProofs (disch := first | decide | assumption | omega) only [go_sem, wrap_id]
      refine hK _ _ ?_
      clear hK K
      refine den_block ?_
      refine den_sel [19, 20, 2, 5, 6, 7, 9, 10, 17, 18] ?_
      intro env_28
      simp only [go_sem]
      refine den_loopS (σ := Nat × Value × List Nat) (fun st_ => [(19, st_.2.1), (20, .int .i64 (st_.1 : Int))]) (fun st_ H => (st_.1 ≤ (tdP X Y).length) ∧ (O3 H st_.2.1 ((List.range st_.1).map fun q : Nat => pRows X Y (prRow U V f g) q) st_.2.2) ∧ (Fresh (h26.size) st_.2.2) ∧ (Sub [h26.size] h11_0.size st_.2.2) ∧ (Chg [h26.size] h11_0 H)) (fun st_ => (tdP X Y).length - st_.1) (0, v11_0, [h26.size]) ?_ ?_
      ·exact ⟨by first | (simp; done) | (dsimp only; omega) | (simp; omega), by simpa using ho11_0, hfho11_0, Sub.refl, Chg.refl _ _⟩
      ·rintro ⟨n, vhO, fphO⟩ h31 ee30 ⟨hi0, hO, hfhO, sbhO, cL29⟩
       dsimp only at hi0 hO hfhO sbhO cL29
       replace how8_2_0 := OS.chg how8_2_0 cL29 (apart_lt hlhow8_2_0 hfho11_0 (by omega))
       replace how8_5_0 := OS.chg how8_5_0 cL29 (apart_lt hlhow8_5_0 hfho11_0 (by omega))
       replace hb0_0 := BoxAt.chgA hb0_0 cL29 (apart_lt hlhb0_0 hfho11_0 (by omega))
       replace hb0_1 := BoxAt.chgA hb0_1 cL29 (apart_lt hlhb0_1 hfho11_0 (by omega))
       replace hb0_2 := BoxAt.chgA hb0_2 cL29 (apart_lt hlhb0_2 hfho11_0 (by omega))
       replace hb0_3 := BoxAt.chgA hb0_3 cL29 (apart_lt hlhb0_3 hfho11_0 (by omega))
       have := cL29.size
       replace eB := Ext.then eB cL29 (ge_of hfho11_0 (by omega))
       have hlhO := OS.lt hO
       simp only [List.cons_append, List.nil_append]
       refine den_seq ?_
       refine den_seq ?_
       refine den_region TTok ?_
       intro K hK
       simp -implicitDefEqProofs (disch := first | decide | assumption | omega) only [go_sem, RdS.len (OS.rd how8_2_0) sl22, RdS.idx (OS.rd how8_2_0) sl22, R1.intN (OS.rd how8_2_0), RdS.cells (OS.rd how8_2_0), wrap_id]
       refine hK _ _ ?_
       clear hK K
       refine den_cond rfl (fun c4 => ?_) (fun c4 => ?_)
       ·try simp only [decide_eq_true_eq, decide_eq_false_iff_not, beq_iff_eq, beq_eq_false_iff_ne, bne_iff_ne, ne_eq, Bool.not_eq_true', Bool.not_eq_false', Bool.and_eq_true, Bool.or_eq_true, bne_eq_false_iff_eq, Bool.or_eq_false_iff, Bool.and_eq_false_iff] at c4
        refine den_skip ?_
        refine den_seq ?_
        refine den_block ?_
        refine den_seq ?_
        refine den_region TTok ?_
        intro K hK
        simp -implicitDefEqProofs (disch := first | decide | assumption | omega) only [go_sem, wrap_id]
        refine op_bs0 sz26 O1 ?_
        intro v15_0 h15_0 ho15_0 e15_0
        replace how8_2_0 := OS.ext how8_2_0 e15_0
        replace how8_5_0 := OS.ext how8_5_0 e15_0
        replace hO := OS.ext hO e15_0
        replace hb0_0 := BoxAt.ext hb0_0 e15_0
        replace hb0_1 := BoxAt.ext hb0_1 e15_0
        replace hb0_2 := BoxAt.ext hb0_2 e15_0
        replace hb0_3 := BoxAt.ext hb0_3 e15_0
        have := Ext.size e15_0
        replace eB := Ext.trans eB e15_0
        replace cL29 := Chg.stepE cL29 e15_0
        have hfho15_0 : Fresh h31.size [h31.size] := Fresh.one _
        have hlho15_0 := OS.lt ho15_0
        try simp -implicitDefEqProofs (disch := first | decide | assumption | omega) only [go_sem, RdS.len (OS.rd ho15_0) sl26, RdS.idx (OS.rd ho15_0) sl26, RdS.cellN (OS.rd ho15_0), RdS.cells (OS.rd ho15_0), wrap_id]
        refine hK _ _ ?_
        clear hK K
        refine den_seq ?_
        refine den_seq ?_
        refine den_region TTok ?_
        intro K hK
        simp -implicitDefEqProofs (disch := first | decide | assumption | omega) only [go_sem, wrap_id]
        refine hK _ _ ?_
        clear hK K
        refine den_block ?_
        refine den_sel [21, 22, 2, 5, 6, 7, 9, 10, 17, 18, 19, 20] ?_
        intro env_32
        simp only [go_sem]
        refine den_loopS (σ := Nat × Value × List Nat) (fun st_ => [(21, st_.2.1), (22, .int .i64 (st_.1 : Int))]) (fun st_ H => (st_.1 ≤ n + 1) ∧ (O2 H st_.2.1 ((List.range (sumP X Y n st_.1).toNat).map fun r : Nat => pRow X Y (prRow U V f g) n r) st_.2.2) ∧ (Fresh (h31.size) st_.2.2) ∧ (Sub [h31.size] h15_0.size st_.2.2) ∧ (Chg [h31.size] h15_0 H)) (fun st_ => n + 1 - st_.1) (0, v15_0, [h31.size]) ?_ ?_
        ·exact ⟨by first | (simp; done) | (dsimp only; omega) | (simp; omega), by rw [sumP]; exact ho15_0, hfho15_0, Sub.refl, Chg.refl _ _⟩
        ·rintro ⟨i, vhR, fphR⟩ h35 ee34 ⟨hi0, hR, hfhR, sbhR, cL33⟩
         dsimp only at hi0 hR hfhR sbhR cL33
         replace how8_2_0 := OS.chg how8_2_0 cL33 (apart_lt hlhow8_2_0 hfho15_0 (by omega))
         replace how8_5_0 := OS.chg how8_5_0 cL33 (apart_lt hlhow8_5_0 hfho15_0 (by omega))
         replace hO := OS.chg hO cL33 (apart_lt hlhO hfho15_0 (by omega))
         replace hb0_0 := BoxAt.chgA hb0_0 cL33 (apart_lt hlhb0_0 hfho15_0 (by omega))
         replace hb0_1 := BoxAt.chgA hb0_1 cL33 (apart_lt hlhb0_1 hfho15_0 (by omega))
         replace hb0_2 := BoxAt.chgA hb0_2 cL33 (apart_lt hlhb0_2 hfho15_0 (by omega))
         replace hb0_3 := BoxAt.chgA hb0_3 cL33 (apart_lt hlhb0_3 hfho15_0 (by omega))
         have := cL33.size
         replace eB := Ext.then eB cL33 (ge_of hfho15_0 (by omega))
         replace cL29 := Chg.step cL29 cL33 (Sub.fresh hfho15_0 (by omega))
         have hlhR := OS.lt hR
         simp only [List.cons_append, List.nil_append]
         refine den_seq ?_
         refine den_seq ?_
         refine den_region TTok ?_
         intro K hK
         simp -implicitDefEqProofs (disch := first | decide | assumption | omega) only [go_sem, wrap_id]
         refine hK _ _ ?_
         clear hK K
         refine den_cond rfl (fun c5 => ?_) (fun c5 => ?_)
         ·try simp only [decide_eq_true_eq, decide_eq_false_iff_not, beq_iff_eq, beq_eq_false_iff_ne, bne_iff_ne, ne_eq, Bool.not_eq_true', Bool.not_eq_false', Bool.and_eq_true, Bool.or_eq_true, bne_eq_false_iff_eq, Bool.or_eq_false_iff, Bool.and_eq_false_iff] at c5
          refine den_skip ?_
          refine den_seq ?_
          refine den_block ?_
          refine den_seq ?_
          refine den_region TTok ?_
          intro K hK
          simp -implicitDefEqProofs (disch := first | decide | assumption | omega) only [go_sem, wrap_id]
          refine hK _ _ ?_
          clear hK K
          refine den_block ?_
          refine den_sel [21, 23, 2, 5, 6, 7, 9, 10, 17, 18, 19, 20, 22] ?_
          intro env_36
          simp only [go_sem]
          refine den_loopS (σ := Nat × Value × List Nat) (fun st_ => [(21, st_.2.1), (23, .int .i64 (st_.1 : Int))]) (fun st_ H => ((st_.1 : Int) ≤ dimP X i) ∧ (O2 H st_.2.1 ((List.range (placeP X Y i st_.1 ((n : Int) - i) 0).toNat).map fun r : Nat => pRow X Y (prRow U V f g) n r) st_.2.2) ∧ (Fresh (h31.size) st_.2.2) ∧ (Sub fphR h35.size st_.2.2) ∧ (Chg fphR h35 H)) (fun st_ => (dimP X i).toNat - st_.1) (0, vhR, fphR) ?_ ?_
          ·exact ⟨by have := dimP_bnd hX (i : Int); omega, by rw [show placeP X Y i ((0 : Nat) : Int) ((n : Int) - i) 0 = sumP X Y n i by have h := (place_next X Y i 0 ((n : Int) - i) 0 (by omega)).2.2.1; rw [show (i : Int) + ((n : Int) - i) = n by omega, Int.toNat_natCast] at h; exact h]; exact hR, hfhR, Sub.refl, Chg.refl _ _⟩
          ·rintro ⟨a, vhA, fphA⟩ h39 ee38 ⟨hi0, hA, hfhA, sbhA, cL37⟩
           dsimp only at hi0 hA hfhA sbhA cL37
           replace how8_2_0 := OS.chg how8_2_0 cL37 (apart_lt hlhow8_2_0 hfhR (by omega))
           replace how8_5_0 := OS.chg how8_5_0 cL37 (apart_lt hlhow8_5_0 hfhR (by omega))
           replace hO := OS.chg hO cL37 (apart_lt hlhO hfhR (by omega))
           replace hb0_0 := BoxAt.chgA hb0_0 cL37 (apart_lt hlhb0_0 hfhR (by omega))
           replace hb0_1 := BoxAt.chgA hb0_1 cL37 (apart_lt hlhb0_1 hfhR (by omega))
           replace hb0_2 := BoxAt.chgA hb0_2 cL37 (apart_lt hlhb0_2 hfhR (by omega))
           replace hb0_3 := BoxAt.chgA hb0_3 cL37 (apart_lt hlhb0_3 hfhR (by omega))
           have := cL37.size
           replace eB := Ext.then eB cL37 (ge_of hfhR (by omega))
           replace cL29 := Chg.step cL29 cL37 (Sub.fresh hfhR (by omega))
           replace cL33 := Chg.step cL33 cL37 sbhR
           have sb40 : Sub [h31.size] h15_0.size fphA := Sub.trans sbhA sbhR (by omega)
           have hlhA := OS.lt hA
           simp only [List.cons_append, List.nil_append]
           refine den_seq ?_
           refine den_seq ?_
           have hbX := dimP_bnd hX (i : Int)
           refine den_region TTok ?_
           intro K hK
           simp -implicitDefEqProofs (disch := first | decide | assumption | omega) only [go_sem, ld31, RdS.len hdX sl22, RdS.idx hdX sl22, R1.intB hdX (Ext.pres eB), RdS.cells hdX, RdS.len hmX sl23, RdS.idx hmX sl23, RdS.cellB hmX (Ext.pres eB), RdS.cells hmX, BoxAt.cell hb0_0, wrap_id]
           try simp -implicitDefEqProofs (disch := first | decide | assumption | omega) only [go_sem, wrap_id]
           refine CallA.mono (sDim_ok _ X _ _ ⟨_, _, rfl, (RdS.pres hdX (Ext.pres eB)), (RdS.pres hmX (Ext.pres eB))⟩) ?_
           intro v_ h20_3
           rintro ⟨rfl, e20_3⟩
           replace how8_2_0 := OS.ext how8_2_0 e20_3
           replace how8_5_0 := OS.ext how8_5_0 e20_3
           replace hO := OS.ext hO e20_3
           replace hA := OS.ext hA e20_3
           replace hb0_0 := BoxAt.ext hb0_0 e20_3
           replace hb0_1 := BoxAt.ext hb0_1 e20_3
           replace hb0_2 := BoxAt.ext hb0_2 e20_3
           replace hb0_3 := BoxAt.ext hb0_3 e20_3
           have := Ext.size e20_3
           replace eB := Ext.trans eB e20_3
           replace cL29 := Chg.stepE cL29 e20_3
           replace cL33 := Chg.stepE cL33 e20_3
           replace cL37 := Chg.stepE cL37 e20_3
           try simp -implicitDefEqProofs (disch := first | decide | assumption | omega) only [go_sem, wrap_id]
           refine hK _ _ ?_
           clear hK K
           refine den_cond rfl (fun c6 => ?_) (fun c6 => ?_)
           ·try simp only [decide_eq_true_eq, decide_eq_false_iff_not, beq_iff_eq, beq_eq_false_iff_ne, bne_iff_ne, ne_eq, Bool.not_eq_true', Bool.not_eq_false', Bool.and_eq_true, Bool.or_eq_true, bne_eq_false_iff_eq, Bool.or_eq_false_iff, Bool.and_eq_false_iff] at c6
            refine den_skip ?_
            refine den_seq ?_
            refine den_block ?_
            refine den_seq ?_
            refine den_region TTok ?_
            intro K hK
            simp -implicitDefEqProofs (disch := first | decide | assumption | omega) only [go_sem, wrap_id]
            refine hK _ _ ?_
            clear hK K
            refine den_block ?_
            refine den_sel [21, 24, 2, 5, 6, 7, 9, 10, 17, 18, 19, 20, 22, 23] ?_
            intro env_41
            simp only [go_sem]
            refine den_loopS (σ := Nat × Value × List Nat) (fun st_ => [(21, st_.2.1), (24, .int .i64 (st_.1 : Int))]) (fun st_ H => ((st_.1 : Int) ≤ dimP Y ((n : Int) - i)) ∧ (O2 H st_.2.1 ((List.range (placeP X Y i a ((n : Int) - i) st_.1).toNat).map fun r : Nat => pRow X Y (prRow U V f g) n r) st_.2.2) ∧ (Fresh (h31.size) st_.2.2) ∧ (Sub fphA h20_3.size st_.2.2) ∧ (Chg fphA h20_3 H)) (fun st_ => (dimP Y ((n : Int) - i)).toNat - st_.1) (0, vhA, fphA) ?_ ?_
            ·exact ⟨by have := dimP_bnd hY ((n : Int) - i); omega, by exact hA, hfhA, Sub.refl, Chg.refl _ _⟩
            ·rintro ⟨b, vhB, fphB⟩ h44 ee43 ⟨hi0, hB, hfhB, sbhB, cL42⟩
             dsimp only at hi0 hB hfhB sbhB cL42
             replace how8_2_0 := OS.chg how8_2_0 cL42 (apart_lt hlhow8_2_0 hfhA (by omega))
             replace how8_5_0 := OS.chg how8_5_0 cL42 (apart_lt hlhow8_5_0 hfhA (by omega))
             replace hO := OS.chg hO cL42 (apart_lt hlhO hfhA (by omega))
             replace hb0_0 := BoxAt.chgA hb0_0 cL42 (apart_lt hlhb0_0 hfhA (by omega))
             replace hb0_1 := BoxAt.chgA hb0_1 cL42 (apart_lt hlhb0_1 hfhA (by omega))
             replace hb0_2 := BoxAt.chgA hb0_2 cL42 (apart_lt hlhb0_2 hfhA (by omega))
             replace hb0_3 := BoxAt.chgA hb0_3 cL42 (apart_lt hlhb0_3 hfhA (by omega))
             have := cL42.size
             replace eB := Ext.then eB cL42 (ge_of hfhA (by omega))
             replace cL29 := Chg.step cL29 cL42 (Sub.fresh hfhA (by omega))
             replace cL33 := Chg.step cL33 cL42 sb40
             replace cL37 := Chg.step cL37 cL42 sbhA
             have sb45 : Sub [h31.size] h15_0.size fphB := Sub.trans sbhB sb40 (by omega)
             have sb46 : Sub fphR h35.size fphB := Sub.trans sbhB sbhA (by omega)
             have hlhB := OS.lt hB
             simp only [List.cons_append, List.nil_append]
             refine den_seq ?_
             refine den_seq ?_
             have hbY := dimP_bnd hY ((n : Int) - i)
             refine den_region TTok ?_
             intro K hK
             simp -implicitDefEqProofs (disch := first | decide | assumption | omega) only [go_sem, ld31, RdS.len hdY sl22, RdS.idx hdY sl22, R1.intB hdY (Ext.pres eB), RdS.cells hdY, RdS.len hmY sl23, RdS.idx hmY sl23, RdS.cellB hmY (Ext.pres eB), RdS.cells hmY, BoxAt.cell hb0_2, wrap_id]
             try simp -implicitDefEqProofs (disch := first | decide | assumption | omega) only [go_sem, wrap_id]
             refine CallA.mono (sDim_ok _ Y _ _ ⟨_, _, rfl, (RdS.pres hdY (Ext.pres eB)), (RdS.pres hmY (Ext.pres eB))⟩) ?_
             intro v_ h23_5
             rintro ⟨rfl, e23_5⟩
             replace how8_2_0 := OS.ext how8_2_0 e23_5
             replace how8_5_0 := OS.ext how8_5_0 e23_5
             replace hO := OS.ext hO e23_5
             replace hB := OS.ext hB e23_5
             replace hb0_0 := BoxAt.ext hb0_0 e23_5
             replace hb0_1 := BoxAt.ext hb0_1 e23_5
             replace hb0_2 := BoxAt.ext hb0_2 e23_5
             replace hb0_3 := BoxAt.ext hb0_3 e23_5
             have := Ext.size e23_5
             replace eB := Ext.trans eB e23_5
             replace cL29 := Chg.stepE cL29 e23_5
             replace cL33 := Chg.stepE cL33 e23_5
             replace cL37 := Chg.stepE cL37 e23_5
             replace cL42 := Chg.stepE cL42 e23_5
             try simp -implicitDefEqProofs (disch := first | decide | assumption | omega) only [go_sem, wrap_id]
             refine hK _ _ ?_
             clear hK K
             refine den_cond rfl (fun c7 => ?_) (fun c7 => ?_)
             ·try simp only [decide_eq_true_eq, decide_eq_false_iff_not, beq_iff_eq, beq_eq_false_iff_ne, bne_iff_ne, ne_eq, Bool.not_eq_true', Bool.not_eq_false', Bool.and_eq_true, Bool.or_eq_true, bne_eq_false_iff_eq, Bool.or_eq_false_iff, Bool.and_eq_false_iff] at c7
              refine den_skip ?_
              refine den_seq ?_
              refine den_block ?_
              refine den_seq ?_
              have hps := pair_pos (X := X) (Y := Y) (n := n) (i := i) (a := a) (b := b) (by omega) (by omega)
              obtain ⟨hq, hif, haf, hjg, hbg⟩ := pr_pvI hk hps.1 (a := a) (b := b) (by omega) (by omega)
              have hqu := hq.cu.1
              have hqv := hq.cv.1
              have hdU_ := dimP_bnd hU (i : Int)
              have hdV_ := dimP_bnd hV ((n : Int) - (i : Int))
              have htb := tdP_bnd hU hV (n := n) (by omega)
              refine den_region TTok ?_
              intro K hK
              simp -implicitDefEqProofs (disch := first | decide | assumption | omega) only [go_sem, ld2, RdS.len (OS.rd how8_5_0) sl22, RdS.idx (OS.rd how8_5_0) sl22, R1.intN (OS.rd how8_5_0), RdS.cells (OS.rd how8_5_0), wrap_id]
              refine op_make sz22 rfl rfl (by omega) (by omega) OI 0 (fun _ => ⟨rfl, rfl⟩) ?_
              intro v25_4 h25_4 ho25_4 e25_4
              replace how8_2_0 := OS.ext how8_2_0 e25_4
              replace how8_5_0 := OS.ext how8_5_0 e25_4
              replace hO := OS.ext hO e25_4
              replace hB := OS.ext hB e25_4
              replace hb0_0 := BoxAt.ext hb0_0 e25_4
              replace hb0_1 := BoxAt.ext hb0_1 e25_4
              replace hb0_2 := BoxAt.ext hb0_2 e25_4
              replace hb0_3 := BoxAt.ext hb0_3 e25_4
              have := Ext.size e25_4
              replace eB := Ext.trans eB e25_4
              replace cL29 := Chg.stepE cL29 e25_4
              replace cL33 := Chg.stepE cL33 e25_4
              replace cL37 := Chg.stepE cL37 e25_4
              replace cL42 := Chg.stepE cL42 e25_4
              have hfho25_4 : Fresh h23_5.size [h23_5.size] := Fresh.one _
              have hlenho25_4 : (List.replicate (((tdP U V).getD n 0)).toNat (0 : Int)).length = (((tdP U V).getD n 0)).toNat := List.length_replicate
              have hlho25_4 := OS.lt ho25_4
              try simp -implicitDefEqProofs (disch := first | decide | assumption | omega) only [go_sem, RdS.len (OS.rd ho25_4) sl22, RdS.idx (OS.rd ho25_4) sl22, R1.intN (OS.rd ho25_4), RdS.cells (OS.rd ho25_4), wrap_id]
              refine hK _ _ ?_
              clear hK K
              refine den_seq ?_
              refine den_seq ?_
              refine den_region TTok ?_
              intro K hK
              simp -implicitDefEqProofs (disch := first | decide | assumption | omega) only [go_sem, wrap_id]
              refine hK _ _ ?_
              clear hK K
              refine den_block ?_
              refine den_sel [26, 2, 5, 6, 7, 9, 10, 17, 18, 19, 20, 21, 22, 23, 24, 25] ?_
              intro env_47
              simp only [go_sem]
              refine den_loopS (σ := Nat) (fun st_ => [(26, .int .i64 (st_ : Int))]) (fun st_ H => (st_ ≤ ((f.getD i default).getD a default).length) ∧ (O1 H v25_4 (pvO U V i ((f.getD i default).getD a default) ((n : Int) - (i : Int)) ((g.getD ((n : Int) - (i : Int)).toNat default).getD b default) st_) [h23_5.size]) ∧ (Chg [h23_5.size] h25_4 H)) (fun st_ => ((f.getD i default).getD a default).length - st_) 0 ?_ ?_
              ·exact ⟨by first | (simp; done) | (dsimp only; omega) | (simp; omega), by rw [pvO, show ((i : Int) + ((n : Int) - (i : Int))).toNat = n by omega]; exact ho25_4, Chg.refl _ _⟩
              ·rintro s h50 ee49 ⟨hi0, hC, cL48⟩
               replace how8_2_0 := OS.chg how8_2_0 cL48 (apart_lt hlhow8_2_0 hfho25_4 (by omega))
               replace how8_5_0 := OS.chg how8_5_0 cL48 (apart_lt hlhow8_5_0 hfho25_4 (by omega))
               replace hO := OS.chg hO cL48 (apart_lt hlhO hfho25_4 (by omega))
               replace hB := OS.chg hB cL48 (apart_lt hlhB hfho25_4 (by omega))
               replace hb0_0 := BoxAt.chgA hb0_0 cL48 (apart_lt hlhb0_0 hfho25_4 (by omega))
               replace hb0_1 := BoxAt.chgA hb0_1 cL48 (apart_lt hlhb0_1 hfho25_4 (by omega))
               replace hb0_2 := BoxAt.chgA hb0_2 cL48 (apart_lt hlhb0_2 hfho25_4 (by omega))
               replace hb0_3 := BoxAt.chgA hb0_3 cL48 (apart_lt hlhb0_3 hfho25_4 (by omega))
               have := cL48.size
               replace eB := Ext.then eB cL48 (ge_of hfho25_4 (by omega))
               replace cL29 := Chg.step cL29 cL48 (Sub.fresh hfho25_4 (by omega))
               replace cL33 := Chg.step cL33 cL48 (Sub.fresh hfho25_4 (by omega))
               replace cL37 := Chg.step cL37 cL48 (Sub.fresh hfho25_4 (by omega))
               replace cL42 := Chg.step cL42 cL48 (Sub.fresh hfho25_4 (by omega))
               have sbhC : Sub [h23_5.size] h25_4.size [h23_5.size] := Sub.refl
               have hfhC := hfho25_4
               have hlhC := hlho25_4
               simp only [List.cons_append, List.nil_append]
               refine den_seq ?_
               refine den_seq ?_
               refine den_region TTok ?_
               intro K hK
               have hr51 := RdS.rowN rf i (by omega)
               have hlhr51 := RdS.le hr51
               have hr52 := RdS.rowN hr51 a (by omega)
               have hlhr52 := RdS.le hr52
               simp -implicitDefEqProofs (disch := first | decide | assumption | omega) only [go_sem, ld26, ld22, RdS.len rf sl23, RdS.idx rf sl23, RdS.cellB rf (Ext.pres eB), RdS.cells rf, RdS.len hr51 sl26, RdS.idx hr51 sl26, RdS.cellB hr51 (Ext.pres eB), RdS.cells hr51, RdS.len hr52 sl22, RdS.idx hr52 sl22, R1.intB hr52 (Ext.pres eB), RdS.cells hr52, wrap_id]
               refine hK _ _ ?_
               clear hK K
               refine den_cond rfl (fun c8 => ?_) (fun c8 => ?_)
               ·try simp only [decide_eq_true_eq, decide_eq_false_iff_not, beq_iff_eq, beq_eq_false_iff_ne, bne_iff_ne, ne_eq, Bool.not_eq_true', Bool.not_eq_false', Bool.and_eq_true, Bool.or_eq_true, bne_eq_false_iff_eq, Bool.or_eq_false_iff, Bool.and_eq_false_iff] at c8
                refine den_skip ?_
                refine den_seq ?_
                refine den_block ?_
                refine den_seq ?_
                refine den_region TTok ?_
                intro K hK
                simp -implicitDefEqProofs (disch := first | decide | assumption | omega) only [go_sem, wrap_id]
                refine hK _ _ ?_
                clear hK K
                refine den_block ?_
                refine den_sel [27, 2, 5, 6, 7, 9, 10, 17, 18, 19, 20, 21, 22, 23, 24, 25, 26] ?_
                intro env_53
                simp only [go_sem]
                refine den_loopS (σ := Nat) (fun st_ => [(27, .int .i64 (st_ : Int))]) (fun st_ H => (st_ ≤ ((g.getD ((n : Int) - (i : Int)).toNat default).getD b default).length) ∧ (O1 H v25_4 (pvI U V i s ((n : Int) - (i : Int)) (((f.getD i default).getD a default).getD s 0) ((g.getD ((n : Int) - (i : Int)).toNat default).getD b default) st_ (pvO U V i ((f.getD i default).getD a default) ((n : Int) - (i : Int)) ((g.getD ((n : Int) - (i : Int)).toNat default).getD b default) s)) [h23_5.size]) ∧ (Chg [h23_5.size] h50 H)) (fun st_ => ((g.getD ((n : Int) - (i : Int)).toNat default).getD b default).length - st_) 0 ?_ ?_
                ·exact ⟨by first | (simp; done) | (dsimp only; omega) | (simp; omega), by rw [pvI]; exact hC, Chg.refl _ _⟩
                ·rintro t h56 ee55 ⟨hi0, hI, cL54⟩
                 replace how8_2_0 := OS.chg how8_2_0 cL54 (apart_lt hlhow8_2_0 hfhC (by omega))
                 replace how8_5_0 := OS.chg how8_5_0 cL54 (apart_lt hlhow8_5_0 hfhC (by omega))
                 replace hO := OS.chg hO cL54 (apart_lt hlhO hfhC (by omega))
                 replace hB := OS.chg hB cL54 (apart_lt hlhB hfhC (by omega))
                 replace hb0_0 := BoxAt.chgA hb0_0 cL54 (apart_lt hlhb0_0 hfhC (by omega))
                 replace hb0_1 := BoxAt.chgA hb0_1 cL54 (apart_lt hlhb0_1 hfhC (by omega))
                 replace hb0_2 := BoxAt.chgA hb0_2 cL54 (apart_lt hlhb0_2 hfhC (by omega))
                 replace hb0_3 := BoxAt.chgA hb0_3 cL54 (apart_lt hlhb0_3 hfhC (by omega))
                 have := cL54.size
                 replace eB := Ext.then eB cL54 (ge_of hfhC (by omega))
                 replace cL29 := Chg.step cL29 cL54 (Sub.fresh hfhC (by omega))
                 replace cL33 := Chg.step cL33 cL54 (Sub.fresh hfhC (by omega))
                 replace cL37 := Chg.step cL37 cL54 (Sub.fresh hfhC (by omega))
                 replace cL42 := Chg.step cL42 cL54 (Sub.fresh hfhC (by omega))
                 replace cL48 := Chg.step cL48 cL54 sbhC
                 have sbhI : Sub [h23_5.size] h50.size [h23_5.size] := Sub.refl
                 have hfhI := hfhC
                 have sb57 : Sub [h23_5.size] h25_4.size [h23_5.size] := Sub.trans sbhI sbhC (by omega)
                 have hlhI := hlhC
                 simp only [List.cons_append, List.nil_append]
                 refine den_seq ?_
                 refine den_seq ?_
                 refine den_region TTok ?_
                 intro K hK
                 have hr58 := RdS.rowN rg (((n : Int) - (i : Int))).toNat (by omega)
                 have hlhr58 := RdS.le hr58
                 have hr59 := RdS.rowN hr58 b (by omega)
                 have hlhr59 := RdS.le hr59
                 simp -implicitDefEqProofs (disch := first | decide | assumption | omega) only [go_sem, ld26, ld22, RdS.len rg sl23, RdS.idx rg sl23, RdS.cellB rg (Ext.pres eB), RdS.cells rg, RdS.len hr58 sl26, RdS.idx hr58 sl26, RdS.cellB hr58 (Ext.pres eB), RdS.cells hr58, RdS.len hr59 sl22, RdS.idx hr59 sl22, R1.intB hr59 (Ext.pres eB), RdS.cells hr59, wrap_id]
                 refine hK _ _ ?_
                 clear hK K
                 refine den_cond rfl (fun c9 => ?_) (fun c9 => ?_)
                 ·try simp only [decide_eq_true_eq, decide_eq_false_iff_not, beq_iff_eq, beq_eq_false_iff_ne, bne_iff_ne, ne_eq, Bool.not_eq_true', Bool.not_eq_false', Bool.and_eq_true, Bool.or_eq_true, bne_eq_false_iff_eq, Bool.or_eq_false_iff, Bool.and_eq_false_iff] at c9
                  refine den_skip ?_
                  refine den_seq ?_
                  refine den_block ?_
                  have hxu := hq.cu.2.at (k := s) (by omega)
                  have hyv := hq.cv.2.at (k := t) (by omega)
                  have hxy := mul36 hxu hyv hq.p.2
                  have hpl := place_lt hq.cX hq.cY hq.ci hq.cj (a := (s : Int)) (b := (t : Int)) (by omega) (by omega)
                  rw [show ((i : Int) + ((n : Int) - (i : Int))).toNat = n by omega] at hpl
                  have hle1 := pvI_len U V i s ((n : Int) - (i : Int)) (((f.getD i default).getD a default).getD s 0) ((g.getD ((n : Int) - (i : Int)).toNat default).getD b default) t (pvO U V i ((f.getD i default).getD a default) ((n : Int) - (i : Int)) ((g.getD ((n : Int) - (i : Int)).toNat default).getD b default) s)
                  have hle2 := pvO_len U V i ((f.getD i default).getD a default) ((n : Int) - (i : Int)) ((g.getD ((n : Int) - (i : Int)).toNat default).getD b default) s
                  rw [show ((i : Int) + ((n : Int) - (i : Int))).toNat = n by omega] at hle2
                  refine den_draw TTok mixed [37] [(0, true), (1, true), (2, true), (3, true), (4, true), (5, true), (6, true), (7, true), (8, true), (10, true), (11, true), (12, true), (13, true), (14, true), (15, true), (16, true), (17, true), (18, true), (19, true), (20, true), (21, true), (22, true), (23, true), (24, true), (25, true), (26, true), (27, true), (28, true), (29, true), (30, true), (31, true), (32, true), (33, true), (34, true), (35, true), (9, false), (36, true), (37, false)] (by kernel_rfl) ?_
                  intro K hK
                  have hr60 := RdS.rowN rf i (by omega)
                  have hlhr60 := RdS.le hr60
                  have hr61 := RdS.rowN hr60 a (by omega)
                  have hlhr61 := RdS.le hr61
                  have hr62 := RdS.rowN rg (((n : Int) - (i : Int))).toNat (by omega)
                  have hlhr62 := RdS.le hr62
                  have hr63 := RdS.rowN hr62 b (by omega)
                  have hlhr63 := RdS.le hr63
                  simp -implicitDefEqProofs (disch := first | decide | assumption | omega) only [go_sem, fa31_0, ld26, ld22, ld2, ld31, RdS.len hdX sl22, RdS.idx hdX sl22, R1.intB hdX (Ext.pres eB), RdS.cells hdX, RdS.len hmX sl23, RdS.idx hmX sl23, RdS.cellB hmX (Ext.pres eB), RdS.cells hmX, RdS.len hdU sl22, RdS.idx hdU sl22, R1.intB hdU (Ext.pres eB), RdS.cells hdU, RdS.len hmU sl23, RdS.idx hmU sl23, RdS.cellB hmU (Ext.pres eB), RdS.cells hmU, RdS.len rf sl23, RdS.idx rf sl23, RdS.cellB rf (Ext.pres eB), RdS.cells rf, RdS.len hdV sl22, RdS.idx hdV sl22, R1.intB hdV (Ext.pres eB), RdS.cells hdV, RdS.len hmV sl23, RdS.idx hmV sl23, RdS.cellB hmV (Ext.pres eB), RdS.cells hmV, RdS.len rg sl23, RdS.idx rg sl23, RdS.cellB rg (Ext.pres eB), RdS.cells rg, RdS.len hr60 sl26, RdS.idx hr60 sl26, RdS.cellB hr60 (Ext.pres eB), RdS.cells hr60, RdS.len hr61 sl22, RdS.idx hr61 sl22, R1.intB hr61 (Ext.pres eB), RdS.cells hr61, RdS.len hr62 sl26, RdS.idx hr62 sl26, RdS.cellB hr62 (Ext.pres eB), RdS.cells hr62, RdS.len hr63 sl22, RdS.idx hr63 sl22, R1.intB hr63 (Ext.pres eB), RdS.cells hr63, RdS.len (OS.rd hI) sl22, RdS.idx (OS.rd hI) sl22, R1.intN (OS.rd hI), RdS.cells (OS.rd hI), BoxAt.cell hb0_0, BoxAt.cell hb0_1, BoxAt.cell hb0_3, wrap_id]
                  try simp -implicitDefEqProofs (disch := first | decide | assumption | omega) only [go_sem, wrap_id]
                  refine CallA.mono (sPlace_ok _ _ U V _ _ _ _ _ ⟨_, _, rfl, (RdS.pres hdU (Ext.pres eB)), (RdS.pres hmU (Ext.pres eB))⟩ ⟨_, _, rfl, (RdS.pres hdV (Ext.pres eB)), (RdS.pres hmV (Ext.pres eB))⟩ hU hV (by omega) (by omega) (by omega) (by omega)) ?_
                  intro v_ h32_9
                  rintro ⟨rfl, e32_9⟩
                  replace how8_2_0 := OS.ext how8_2_0 e32_9
                  replace how8_5_0 := OS.ext how8_5_0 e32_9
                  replace hO := OS.ext hO e32_9
                  replace hB := OS.ext hB e32_9
                  replace hI := OS.ext hI e32_9
                  replace hb0_0 := BoxAt.ext hb0_0 e32_9
                  replace hb0_1 := BoxAt.ext hb0_1 e32_9
                  replace hb0_2 := BoxAt.ext hb0_2 e32_9
                  replace hb0_3 := BoxAt.ext hb0_3 e32_9
                  have := Ext.size e32_9
                  replace eB := Ext.trans eB e32_9
                  replace cL29 := Chg.stepE cL29 e32_9
                  replace cL33 := Chg.stepE cL33 e32_9
                  replace cL37 := Chg.stepE cL37 e32_9
                  replace cL42 := Chg.stepE cL42 e32_9
                  replace cL48 := Chg.stepE cL48 e32_9
                  replace cL54 := Chg.stepE cL54 e32_9
                  try simp (disch := decide) only [outv_some, outv_none, put_puts]
                  refine plK_pres (Ext.pres e32_9) ?_
                  try simp -implicitDefEqProofs (disch := first | decide | assumption | omega) only [go_sem, RdS.len (OS.rd hI) sl22, RdS.idx (OS.rd hI) sl22, R1.intN (OS.rd hI), RdS.cells (OS.rd hI), wrap_id]
                  refine op_store1 (j := ((placeP U V (i : Int) (s : Int) ((n : Int) - (i : Int)) (t : Int))).toNat) st2 hI hfhI.nodup (by first | omega | (simp; omega)) rfl rfl ?_
                  intro h32_37 ho32_37 c32_37
                  have hsz32_37 := c32_37.size
                  replace how8_2_0 := OS.chg how8_2_0 c32_37 (apart_lt hlhow8_2_0 hfhI (by omega))
                  replace how8_5_0 := OS.chg how8_5_0 c32_37 (apart_lt hlhow8_5_0 hfhI (by omega))
                  replace hO := OS.chg hO c32_37 (apart_lt hlhO hfhI (by omega))
                  replace hB := OS.chg hB c32_37 (apart_lt hlhB hfhI (by omega))
                  replace hb0_0 := BoxAt.chgA hb0_0 c32_37 (apart_lt hlhb0_0 hfhI (by omega))
                  replace hb0_1 := BoxAt.chgA hb0_1 c32_37 (apart_lt hlhb0_1 hfhI (by omega))
                  replace hb0_2 := BoxAt.chgA hb0_2 c32_37 (apart_lt hlhb0_2 hfhI (by omega))
                  replace hb0_3 := BoxAt.chgA hb0_3 c32_37 (apart_lt hlhb0_3 hfhI (by omega))
                  have := c32_37.size
                  replace eB := Ext.then eB c32_37 (ge_of hfhI (by omega))
                  replace cL29 := Chg.step cL29 c32_37 (Sub.fresh hfhI (by omega))
                  replace cL33 := Chg.step cL33 c32_37 (Sub.fresh hfhI (by omega))
                  replace cL37 := Chg.step cL37 c32_37 (Sub.fresh hfhI (by omega))
                  replace cL42 := Chg.step cL42 c32_37 (Sub.fresh hfhI (by omega))
                  replace cL48 := Chg.step cL48 c32_37 sb57
                  replace cL54 := Chg.step cL54 c32_37 sbhI
                  have hlho32_37 := hlhI
                  have hlenho32_37 : ((pvI U V i s ((n : Int) - (i : Int)) (((f.getD i default).getD a default).getD s 0) ((g.getD ((n : Int) - (i : Int)).toNat default).getD b default) t (pvO U V i ((f.getD i default).getD a default) ((n : Int) - (i : Int)) ((g.getD ((n : Int) - (i : Int)).toNat default).getD b default) s)).set (((placeP U V (i : Int) (s : Int) ((n : Int) - (i : Int)) (t : Int))).toNat) (Int.tmod (((((f).getD i default).getD a default).getD s 0) * ((((g).getD (((n : Int) - (i : Int))).toNat default).getD b default).getD t 0)) X.p) : List Int).length = (pvI U V i s ((n : Int) - (i : Int)) (((f.getD i default).getD a default).getD s 0) ((g.getD ((n : Int) - (i : Int)).toNat default).getD b default) t (pvO U V i ((f.getD i default).getD a default) ((n : Int) - (i : Int)) ((g.getD ((n : Int) - (i : Int)).toNat default).getD b default) s) : List Int).length := List.length_set
                  try simp (disch := decide) only [outv_some, outv_none, put_puts]
                  refine plK_last (by decide) ?_
                  try simp -implicitDefEqProofs (disch := first | decide | assumption | omega) only [go_sem, wrap_id]
                  refine hK _ _ ?_
                  clear hK K
                  refine den_blk ?_
                  refine den_region TTok ?_
                  intro K hK
                  simp -implicitDefEqProofs (disch := first | decide | assumption | omega) only [go_sem, wrap_id]
                  refine hK _ _ ?_
                  clear hK K
                  refine den_stop ?_
                  rw [hpx] at ho32_37
                  exact ⟨t + 1, by simp [HasL, puts_at], ⟨by first | omega | (dsimp only; omega), ho32_37, cL54⟩, by first | omega | (dsimp only; omega)⟩
                 ·try simp only [decide_eq_true_eq, decide_eq_false_iff_not, beq_iff_eq, beq_eq_false_iff_ne, bne_iff_ne, ne_eq, Bool.not_eq_true', Bool.not_eq_false', Bool.and_eq_true, Bool.or_eq_true, bne_eq_false_iff_eq, Bool.or_eq_false_iff, Bool.and_eq_false_iff] at c9
                  refine den_exit ?_
                  refine denX_code ?_
                  refine denX_stop ?_
                  refine denX_hit ?_
                  refine den_blk ?_
                  refine den_region TTok ?_
                  intro K hK
                  simp -implicitDefEqProofs (disch := first | decide | assumption | omega) only [go_sem, wrap_id]
                  refine hK _ _ ?_
                  clear hK K
                  refine den_stop ?_
                  rw [show pvI U V i s ((n : Int) - (i : Int)) (((f.getD i default).getD a default).getD s 0) ((g.getD ((n : Int) - (i : Int)).toNat default).getD b default) t (pvO U V i ((f.getD i default).getD a default) ((n : Int) - (i : Int)) ((g.getD ((n : Int) - (i : Int)).toNat default).getD b default) s) = pvO U V i ((f.getD i default).getD a default) ((n : Int) - (i : Int)) ((g.getD ((n : Int) - (i : Int)).toNat default).getD b default) (s + 1) by rw [pvO, show ((g.getD ((n : Int) - (i : Int)).toNat default).getD b default).length = t by omega]] at hI
                  exact ⟨s + 1, by simp [HasL, puts_at], ⟨by first | omega | (dsimp only; omega), hI, cL48⟩, by first | omega | (dsimp only; omega)⟩
               ·try simp only [decide_eq_true_eq, decide_eq_false_iff_not, beq_iff_eq, beq_eq_false_iff_ne, bne_iff_ne, ne_eq, Bool.not_eq_true', Bool.not_eq_false', Bool.and_eq_true, Bool.or_eq_true, bne_eq_false_iff_eq, Bool.or_eq_false_iff, Bool.and_eq_false_iff] at c8
                refine den_exit ?_
                refine denX_code ?_
                refine denX_stop ?_
                refine denX_hit ?_
                have hpl2 := place_lt hX hY (i := i) (j := (n : Int) - i) (a := a) (b := b) (by omega) (by omega) (by omega) (by omega)
                rw [show ((i : Int) + ((n : Int) - i)).toNat = n by omega] at hpl2
                have htb2 := tdP_bnd hX hY (n := n) (by omega)
                have hlt : ((List.range (placeP X Y i a ((n : Int) - i) b).toNat).map fun r : Nat => pRow X Y (prRow U V f g) n r).length ≤ 704 := by rw [List.length_map, List.length_range]; omega
                refine den_region TTok ?_
                intro K hK
                simp -implicitDefEqProofs (disch := first | decide | assumption | omega) only [go_sem, RdS.len (OS.rd hB) sl26, RdS.idx (OS.rd hB) sl26, RdS.cellN (OS.rd hB), RdS.cells (OS.rd hB), RdS.len (OS.rd hC) sl22, RdS.idx (OS.rd hC) sl22, R1.intN (OS.rd hC), RdS.cells (OS.rd hC), wrap_id]
                refine op_bs1 sz26 rfl (OS.one hC).2 ?_
                try simp -implicitDefEqProofs (disch := first | decide | assumption | omega) only [go_sem, wrap_id]
                refine op_append1 sz26 hB hfhB.nodup hC hfhC.nodup (apart_lt hlhB hfhC (by omega)) (by first | omega | (simp; omega)) rfl rfl ?_
                intro v33_3 h33_3 fp33_3 ho33_3 hn33_3 hs33_3 c33_3
                have hsz33_3 := c33_3.size
                have hfho33_3 : Fresh h31.size fp33_3 := Fresh.appd hfhB hfhC (by omega) (by omega) hn33_3 hs33_3
                have sb64 : Sub [h31.size] h15_0.size fp33_3 := Sub.grow sb45 (Sub.fresh hfhC (by omega)) (by omega) hs33_3
                have sb65 : Sub fphR h35.size fp33_3 := Sub.grow sb46 (Sub.fresh hfhC (by omega)) (by omega) hs33_3
                have sb66 : Sub fphA h20_3.size fp33_3 := Sub.grow sbhB (Sub.fresh hfhC (by omega)) (by omega) hs33_3
                replace how8_2_0 := OS.chg how8_2_0 c33_3 (apart_lt hlhow8_2_0 hfhB (by omega))
                replace how8_5_0 := OS.chg how8_5_0 c33_3 (apart_lt hlhow8_5_0 hfhB (by omega))
                replace hO := OS.chg hO c33_3 (apart_lt hlhO hfhB (by omega))
                replace hb0_0 := BoxAt.chgA hb0_0 c33_3 (apart_lt hlhb0_0 hfhB (by omega))
                replace hb0_1 := BoxAt.chgA hb0_1 c33_3 (apart_lt hlhb0_1 hfhB (by omega))
                replace hb0_2 := BoxAt.chgA hb0_2 c33_3 (apart_lt hlhb0_2 hfhB (by omega))
                replace hb0_3 := BoxAt.chgA hb0_3 c33_3 (apart_lt hlhb0_3 hfhB (by omega))
                have := c33_3.size
                replace eB := Ext.then eB c33_3 (ge_of hfhB (by omega))
                replace cL29 := Chg.step cL29 c33_3 (Sub.fresh hfhB (by omega))
                replace cL33 := Chg.step cL33 c33_3 sb45
                replace cL37 := Chg.step cL37 c33_3 sb46
                replace cL42 := Chg.step cL42 c33_3 sbhB
                have hlho33_3 := OS.lt ho33_3
                try simp -implicitDefEqProofs (disch := first | decide | assumption | omega) only [go_sem, RdS.len (OS.rd ho33_3) sl26, RdS.idx (OS.rd ho33_3) sl26, RdS.cellN (OS.rd ho33_3), RdS.cells (OS.rd ho33_3), wrap_id]
                refine hK _ _ ?_
                clear hK K
                refine den_blk ?_
                refine den_region TTok ?_
                intro K hK
                simp -implicitDefEqProofs (disch := first | decide | assumption | omega) only [go_sem, wrap_id]
                refine hK _ _ ?_
                clear hK K
                refine den_stop ?_
                rw [show s = ((f.getD i default).getD a default).length by omega, pr_row hps.1, pRow_step (F := prRow U V f g) hX hY hps.1 (by omega) (by omega)] at ho33_3
                exact ⟨(b + 1, v33_3, fp33_3), by simp [HasL, puts_at], ⟨by first | omega | (dsimp only; omega), ho33_3, hfho33_3, sb66, cL42⟩, by first | omega | (dsimp only; omega)⟩
             ·try simp only [decide_eq_true_eq, decide_eq_false_iff_not, beq_iff_eq, beq_eq_false_iff_ne, bne_iff_ne, ne_eq, Bool.not_eq_true', Bool.not_eq_false', Bool.and_eq_true, Bool.or_eq_true, bne_eq_false_iff_eq, Bool.or_eq_false_iff, Bool.and_eq_false_iff] at c7
              refine den_exit ?_
              refine denX_code ?_
              refine denX_stop ?_
              refine denX_hit ?_
              refine den_blk ?_
              refine den_region TTok ?_
              intro K hK
              simp -implicitDefEqProofs (disch := first | decide | assumption | omega) only [go_sem, wrap_id]
              refine hK _ _ ?_
              clear hK K
              refine den_stop ?_
              rw [show placeP X Y i a ((n : Int) - i) b = placeP X Y i ((a + 1 : Nat) : Int) ((n : Int) - i) 0 by rw [show (b : Int) = dimP Y ((n : Int) - i) by omega]; exact (place_next X Y i a ((n : Int) - i) 0 (by omega)).1] at hB
              exact ⟨(a + 1, vhB, fphB), by simp [HasL, puts_at], ⟨by first | omega | (dsimp only; omega), hB, hfhB, sb46, cL37⟩, by first | omega | (dsimp only; omega)⟩
           ·try simp only [decide_eq_true_eq, decide_eq_false_iff_not, beq_iff_eq, beq_eq_false_iff_ne, bne_iff_ne, ne_eq, Bool.not_eq_true', Bool.not_eq_false', Bool.and_eq_true, Bool.or_eq_true, bne_eq_false_iff_eq, Bool.or_eq_false_iff, Bool.and_eq_false_iff] at c6
            refine den_exit ?_
            refine denX_code ?_
            refine denX_stop ?_
            refine denX_hit ?_
            refine den_blk ?_
            refine den_region TTok ?_
            intro K hK
            simp -implicitDefEqProofs (disch := first | decide | assumption | omega) only [go_sem, wrap_id]
            refine hK _ _ ?_
            clear hK K
            refine den_stop ?_
            rw [show placeP X Y i a ((n : Int) - i) 0 = sumP X Y n (i + 1) by have h := (place_next X Y i 0 ((n : Int) - i) 0 (by omega)).2.2.2; rw [show (a : Int) = dimP X i by omega, h, show (i : Int) + ((n : Int) - i) = n by omega, Int.toNat_natCast]] at hA
            exact ⟨(i + 1, vhA, fphA), by simp [HasL, puts_at], ⟨by first | omega | (dsimp only; omega), hA, hfhA, sb40, cL33⟩, by first | omega | (dsimp only; omega)⟩
         ·try simp only [decide_eq_true_eq, decide_eq_false_iff_not, beq_iff_eq, beq_eq_false_iff_ne, bne_iff_ne, ne_eq, Bool.not_eq_true', Bool.not_eq_false', Bool.and_eq_true, Bool.or_eq_true, bne_eq_false_iff_eq, Bool.or_eq_false_iff, Bool.and_eq_false_iff] at c5
          refine den_exit ?_
          refine denX_code ?_
          refine denX_stop ?_
          refine denX_hit ?_
          have hlo : ((List.range n).map fun q : Nat => pRows X Y (prRow U V f g) q).length = n := by simp
          refine den_region TTok ?_
          intro K hK
          simp -implicitDefEqProofs (disch := first | decide | assumption | omega) only [go_sem, RdS.len (OS.rd hO) sl23, RdS.idx (OS.rd hO) sl23, RdS.cellN (OS.rd hO), RdS.cells (OS.rd hO), RdS.len (OS.rd hR) sl26, RdS.idx (OS.rd hR) sl26, RdS.cellN (OS.rd hR), RdS.cells (OS.rd hR), wrap_id]
          refine op_bs1 sz23 rfl (OS.one hR).2 ?_
          try simp -implicitDefEqProofs (disch := first | decide | assumption | omega) only [go_sem, wrap_id]
          refine op_append1 sz23 hO hfhO.nodup hR hfhR.nodup (apart_lt hlhO hfhR (by omega)) (by first | omega | (simp; omega)) rfl rfl ?_
          intro v34_3 h34_3 fp34_3 ho34_3 hn34_3 hs34_3 c34_3
          have hsz34_3 := c34_3.size
          have hfho34_3 : Fresh h26.size fp34_3 := Fresh.appd hfhO hfhR (by omega) (by omega) hn34_3 hs34_3
          have sb67 : Sub [h26.size] h11_0.size fp34_3 := Sub.grow sbhO (Sub.fresh hfhR (by omega)) (by omega) hs34_3
          replace how8_2_0 := OS.chg how8_2_0 c34_3 (apart_lt hlhow8_2_0 hfhO (by omega))
          replace how8_5_0 := OS.chg how8_5_0 c34_3 (apart_lt hlhow8_5_0 hfhO (by omega))
          replace hb0_0 := BoxAt.chgA hb0_0 c34_3 (apart_lt hlhb0_0 hfhO (by omega))
          replace hb0_1 := BoxAt.chgA hb0_1 c34_3 (apart_lt hlhb0_1 hfhO (by omega))
          replace hb0_2 := BoxAt.chgA hb0_2 c34_3 (apart_lt hlhb0_2 hfhO (by omega))
          replace hb0_3 := BoxAt.chgA hb0_3 c34_3 (apart_lt hlhb0_3 hfhO (by omega))
          have := c34_3.size
          replace eB := Ext.then eB c34_3 (ge_of hfhO (by omega))
          replace cL29 := Chg.step cL29 c34_3 sbhO
          have hlho34_3 := OS.lt ho34_3
          try simp -implicitDefEqProofs (disch := first | decide | assumption | omega) only [go_sem, RdS.len (OS.rd ho34_3) sl23, RdS.idx (OS.rd ho34_3) sl23, RdS.cellN (OS.rd ho34_3), RdS.cells (OS.rd ho34_3), wrap_id]
          refine hK _ _ ?_
          clear hK K
          refine den_blk ?_
          refine den_region TTok ?_
          intro K hK
          simp -implicitDefEqProofs (disch := first | decide | assumption | omega) only [go_sem, wrap_id]
          refine hK _ _ ?_
          clear hK K
          refine den_stop ?_
          rw [pRows_all (.inr (by omega)), range_step (fun q : Nat => pRows X Y (prRow U V f g) q)] at ho34_3
          exact ⟨(n + 1, v34_3, fp34_3), by simp [HasL, puts_at], ⟨by first | omega | (dsimp only; omega), ho34_3, hfho34_3, sb67, cL29⟩, by first | omega | (dsimp only; omega)⟩
       ·try simp only [decide_eq_true_eq, decide_eq_false_iff_not, beq_iff_eq, beq_eq_false_iff_ne, bne_iff_ne, ne_eq, Bool.not_eq_true', Bool.not_eq_false', Bool.and_eq_true, Bool.or_eq_true, bne_eq_false_iff_eq, Bool.or_eq_false_iff, Bool.and_eq_false_iff] at c4
        refine den_exit ?_
        refine denX_code ?_
        refine denX_stop ?_
        refine denX_hit ?_
        refine den_seq ?_
        refine den_region TTok ?_
        intro K hK
        simp -implicitDefEqProofs (disch := first | decide | assumption | omega) only [go_sem, RdS.len (OS.rd hO) sl23, RdS.idx (OS.rd hO) sl23, RdS.cellN (OS.rd hO), RdS.cells (OS.rd hO), wrap_id]
        refine hK _ _ ?_
        clear hK K
        refine den_ret ?_
        simp (disch := decide) only [resP_2, puts_same, puts_ne]
        have h0 : prC X U f Y V g = 0 := by rw [pr_c5 c1.1.1 c1.1.2 c1.2, if_pos (by simpa using c2)]
        have hz : prP X U f Y V g = (pfam X Y (prRow U V f g), 0) := by rw [prP, if_pos h0, if_pos hft]
        rw [hz]
        rw [show n = X.dims.length + Y.dims.length - 1 by omega] at hO
        exact ⟨_, _, rfl, hO, hfhO.mono (by omega), eB⟩
end Go.Proofs.Ytjjjgllbocgkbaa

namespace Go.Proofs.Ytjjjgllbocgkbaa
open Go
theorem bs4C (h : Heap) (a b c d e f i j k l m o : Value) : buildSliceV TT h 168 4 [(0, .agg #[a, b, c]), (1, .agg #[d, e, f]), (2, .agg #[i, j, k]), (3, .agg #[l, m, o])] = some (.slice (some ⟨h.size, 0, none⟩) 4 4, h.push (.cells #[a, b, c, d, e, f, i, j, k, l, m, o] 31)) := by kernel_rfl
section
variable {P : Program} {n : Nat} {K : Env → Heap → Prop} {env : Env} {h : Heap} {d : Option Tmp} {ty : TypeId} {p : String} {a : Array Edge} {g : Option (Nat × Bool)}
set_option maxRecDepth 100000 in
theorem op_bs4C {x y z w : Operand} {X Y Z W : Cx} (hx : RC h (ev env x) X) (hy : RC h (ev env y) Y) (hz : RC h (ev env z) Z) (hw : RC h (ev env w) W)
  (hk : ∀ v' h', RdA 3 RC h' v' [X, Y, Z, W] → Ext h h' → outv n ⟨d, .buildSlice 168 4 #[(0, x), (1, y), (2, z), (3, w)], ty, p, a, g⟩ K env h' v') : opP P TT n ⟨d, .buildSlice 168 4 #[(0, x), (1, y), (2, z), (3, w)], ty, p, a, g⟩ K env h := by
 obtain ⟨d1, m1, e1, h1, h2⟩ := hx
 obtain ⟨d2, m2, e2, h3, h4⟩ := hy
 obtain ⟨d3, m3, e3, h5, h6⟩ := hz
 obtain ⟨d4, m4, e4, h7, h8⟩ := hw
 rw [opP_buildSlice]
 have : (#[(0, x), (1, y), (2, z), (3, w)].map (fun (i, x) => (i, ev env x)) : Array (Nat × Value)).toList = [(0, .agg #[.int .i64 X.p, d1, m1]), (1, .agg #[.int .i64 Y.p, d2, m2]), (2, .agg #[.int .i64 Z.p, d3, m3]), (3, .agg #[.int .i64 W.p, d4, m4])] := by simp [e1, e2, e3, e4]
 rw [this, bs4C, Bd_some]
 have ex := Ext.push h (.cells #[.int .i64 X.p, d1, m1, .int .i64 Y.p, d2, m2, .int .i64 Z.p, d3, m3, .int .i64 W.p, d4, m4] 31)
 have hb := BoxAt.new h #[.int .i64 X.p, d1, m1, .int .i64 Y.p, d2, m2, .int .i64 Z.p, d3, m3, .int .i64 W.p, d4, m4] 31
 refine hk _ _ ⟨some ⟨h.size, 0, none⟩, 4, rfl, .inl rfl, by simp, by omega, fun j hj => ?_⟩ ex
 have hj' : j = 0 ∨ j = 1 ∨ j = 2 ∨ j = 3 := by simp at hj; omega
 rcases hj' with rfl | rfl | rfl | rfl
 ·refine ⟨[.int .i64 X.p, d1, m1], rfl, fun i hi => ?_, d1, m1, rfl, h1.pres ex.pres, h2.pres ex.pres⟩
  have hi' : i = 0 ∨ i = 1 ∨ i = 2 := by simp at hi; omega
  rcases hi' with rfl | rfl | rfl <;> simp only [sA, addr_add, hb.cell] <;> rfl
 ·refine ⟨[.int .i64 Y.p, d2, m2], rfl, fun i hi => ?_, d2, m2, rfl, h3.pres ex.pres, h4.pres ex.pres⟩
  have hi' : i = 0 ∨ i = 1 ∨ i = 2 := by simp at hi; omega
  rcases hi' with rfl | rfl | rfl <;> simp only [sA, addr_add, hb.cell] <;> rfl
 ·refine ⟨[.int .i64 Z.p, d3, m3], rfl, fun i hi => ?_, d3, m3, rfl, h5.pres ex.pres, h6.pres ex.pres⟩
  have hi' : i = 0 ∨ i = 1 ∨ i = 2 := by simp at hi; omega
  rcases hi' with rfl | rfl | rfl <;> simp only [sA, addr_add, hb.cell] <;> rfl
 ·refine ⟨[.int .i64 W.p, d4, m4], rfl, fun i hi => ?_, d4, m4, rfl, h7.pres ex.pres, h8.pres ex.pres⟩
  have hi' : i = 0 ∨ i = 1 ∨ i = 2 := by simp at hi; omega
  rcases hi' with rfl | rfl | rfl <;> simp only [sA, addr_add, hb.cell] <;> rfl
end

theorem same4 (X U Y V : Cx) : sameP [X, U, Y, V] = if isC X = true ∧ isC U = true ∧ isC Y = true ∧ isC V = true then (if U.p = X.p ∧ Y.p = X.p ∧ V.p = X.p then 0 else 2) else 1 := by
 unfold sameP
 by_cases h1 : isC X = true <;> by_cases h2 : isC U = true <;> by_cases h3 : isC Y = true <;> by_cases h4 : isC V = true <;> simp [h1, h2, h3, h4]
theorem same4_0 {X U Y V : Cx} (h : sameP [X, U, Y, V] = 0) : IsC X ∧ IsC U ∧ IsC Y ∧ IsC V ∧ U.p = X.p ∧ Y.p = X.p ∧ V.p = X.p := by
 rw [same4] at h
 split at h
 ·rename_i hc
  split at h
  ·rename_i hp
   exact ⟨isC_t.1 hc.1, isC_t.1 hc.2.1, isC_t.1 hc.2.2.1, isC_t.1 hc.2.2.2, hp⟩
  ·cases h
 ·cases h
def prB (X U : Cx) (f : M3) (Y V : Cx) (g : M3) (a b : Bool) : Bool := ((((X.dims.length : Int) != (U.dims.length : Int)) || ((Y.dims.length : Int) != (V.dims.length : Int))) || !a) || !b
theorem pri_fam (X U : Cx) (f : M3) : famC X U [f] = cadd (pairC X U) 2 (!famP X U f 0) := by simp [famC]
theorem pri_n {X U : Cx} {f : M3} (h : ¬ (isC X = true ∧ isC U = true)) : famC X U [f] = 1 := by
 have e : pairC X U = 1 := by rw [pairC, if_neg h]
 rw [pri_fam, e, cadd_n (by decide)]
theorem pri_y {X U : Cx} {f : M3} (h : isC X = true ∧ isC U = true) : famC X U [f] = if X.p = U.p ∧ X.dims.length = U.dims.length ∧ famP X U f 0 = true then 0 else 2 := by
 rw [pri_fam, pairC, if_pos h]
 by_cases h1 : X.p = U.p <;> by_cases h2 : X.dims.length = U.dims.length <;> cases h3 : famP X U f 0 <;> simp [h1, h2, cadd]
theorem pri_eq (X U : Cx) (f : M3) (Y V : Cx) (g : M3) : cadd (cadd (sameP [X, U, Y, V]) 2 (prB X U f Y V g (famP X U f 0) (famP Y V g 0))) 5 (!chnP X U f || !chnP Y V g) = prC X U f Y V g := by
 by_cases h1 : isC X = true ∧ isC U = true
 ·by_cases h2 : isC Y = true ∧ isC V = true
  ·have e1 := pri_y (f := f) h1
   have e2 := pri_y (f := g) h2
   have e3 : twoP X Y = if X.p = Y.p then 0 else 2 := by rw [twoP, if_pos ⟨h1.1, h2.1⟩]
   have e4 : sameP [X, U, Y, V] = if U.p = X.p ∧ Y.p = X.p ∧ V.p = X.p then 0 else 2 := by rw [same4, if_pos ⟨h1.1, h1.2, h2.1, h2.2⟩]
   unfold prC
   rw [e1, e2, e3, e4]
   by_cases hp : U.p = X.p ∧ Y.p = X.p ∧ V.p = X.p
   ·obtain ⟨p1, p2, p3⟩ := hp
    rw [if_pos ⟨p1, p2, p3⟩, p1, p2, p3]
    unfold prB
    by_cases l1 : X.dims.length = U.dims.length
    ·by_cases l2 : Y.dims.length = V.dims.length
     ·rw [l1, l2]
      cases famP X U f 0 <;> cases famP Y V g 0 <;> cases chnP X U f <;> cases chnP Y V g <;> simp [cadd]
     ·have l3 : ((Y.dims.length : Int) != (V.dims.length : Int)) = true := bne_iff_ne.2 (by omega)
      rw [l3]
      simp [cadd, l2]
      split <;> simp
    ·have l3 : ((X.dims.length : Int) != (U.dims.length : Int)) = true := bne_iff_ne.2 (by omega)
     rw [l3]
     simp [cadd, l1]
     split <;> simp
   ·rw [if_neg hp, cadd_n (c := 2) (e := 2) (by decide), cadd_n (c := 2) (e := 5) (by decide), if_neg (by split <;> split <;> simp), if_pos]
    by_cases q1 : X.p = U.p
    ·by_cases q2 : Y.p = V.p
     ·refine .inr (.inr ?_)
      rw [if_neg (fun q3 => hp ⟨q1.symm, q3.symm, by rw [← q2, ← q3]⟩)]; decide
     ·refine .inr (.inl ?_)
      rw [if_neg (fun q => q2 q.1)]; decide
    ·refine .inl ?_
     rw [if_neg (fun q => q1 q.1)]; decide
  ·have e : sameP [X, U, Y, V] = 1 := by rw [same4, if_neg (fun q => h2 ⟨q.2.2.1, q.2.2.2⟩)]
   rw [e, cadd_n (c := 1) (e := 2) (by decide), cadd_n (c := 1) (e := 5) (by decide), pr_c1 (.inr (pri_n h2))]
 ·have e : sameP [X, U, Y, V] = 1 := by rw [same4, if_neg (fun q => h1 ⟨q.1, q.2.1⟩)]
  rw [e, cadd_n (c := 1) (e := 2) (by decide), cadd_n (c := 1) (e := 5) (by decide), pr_c1 (.inl (pri_n h1))]
end Go.Proofs.Ytjjjgllbocgkbaa

namespace Go.Proofs.Ytjjjgllbocgkbaa
open Go
set_option maxRecDepth 100000 in
theorem iTns_ok (vX vY : Value) (X : Cx) (Y : Cx) (h : Heap) (rX : RC h vX X) (rY : RC h vY Y) (hX : IsC X) (hY : IsC Y) (hpp : X.p = Y.p) : CallA Try.prog 130 #[vX, vY] h fun v' h' => ∃ wd0 wm0 fd0 fm0, v' = .tuple #[.agg #[.int .i64 ((teP X Y).1).p, wd0, wm0], .int .i64 ((teP X Y).2)] ∧ O1 h' wd0 ((teP X Y).1).dims fd0 ∧ O3 h' wm0 ((teP X Y).1).maps fm0 ∧ Fresh h.size (fd0 ++ fm0) ∧ Ext h h' := by
 obtain ⟨vdX, vmX, rfl, hdX, hmX⟩ := rX
 have hledX := RdS.le hdX
 have hlemX := RdS.le hmX
 obtain ⟨vdY, vmY, rfl, hdY, hmY⟩ := rY
 have hledY := RdS.le hdY
 have hlemY := RdS.le hmY
 have hlX := hX.len
 have hlY := hY.len
 have hpb := isP_bnd hX.p
 have htl := tdP_len X Y
 have hTs := tT_sh hX hY
 have hTl := hTs.len
 have hzb := t_zb X Y hpb.1
 refine callA_intro TTok (args := [_, _]) Try.func130 (by kernel_rfl) rfl 31 rfl (by simp) [.cell 4 31, .tmp 5] rfl ?_
 simp only [idxs, Nat.reduceAdd]
 refine den_seq ?_
 refine den_region TTok ?_
 intro K hK
 simp -implicitDefEqProofs (disch := first | decide | assumption | omega) only [go_sem, RdS.len hdX sl22, RdS.idx hdX sl22, R1.intB hdX (HPres.refl _), RdS.cells hdX, RdS.len hmX sl23, RdS.idx hmX sl23, RdS.cellB hmX (HPres.refl _), RdS.cells hmX, RdS.len hdY sl22, RdS.idx hdY sl22, R1.intB hdY (HPres.refl _), RdS.cells hdY, RdS.len hmY sl23, RdS.idx hmY sl23, RdS.cellB hmY (HPres.refl _), RdS.cells hmY, wrap_id, bC0]
 refine op_box (cs := #[.int .i64 (X.p), vdX, vmX]) rfl ?_
 intro h0_0 e0_0 hb0_0 z0_0
 have := Ext.size e0_0
 have eB := e0_0
 have hfhb0_0 : Fresh h.size [h.size] := Fresh.one _
 have hlhb0_0 := one_lt (show h.size < h0_0.size by omega)
 try simp -implicitDefEqProofs (disch := first | decide | assumption | omega) only [go_sem, RdS.len hdX sl22, RdS.idx hdX sl22, R1.intB hdX (Ext.pres eB), RdS.cells hdX, RdS.len hmX sl23, RdS.idx hmX sl23, RdS.cellB hmX (Ext.pres eB), RdS.cells hmX, RdS.len hdY sl22, RdS.idx hdY sl22, R1.intB hdY (Ext.pres eB), RdS.cells hdY, RdS.len hmY sl23, RdS.idx hmY sl23, RdS.cellB hmY (Ext.pres eB), RdS.cells hmY, BoxAt.cell hb0_0, wrap_id, bC0]
 refine op_box (cs := #[.int .i64 (Y.p), vdY, vmY]) rfl ?_
 intro h0_1 e0_1 hb0_1 z0_1
 replace hb0_0 := BoxAt.ext hb0_0 e0_1
 have := Ext.size e0_1
 replace eB := Ext.trans eB e0_1
 have hfhb0_1 : Fresh h0_0.size [h0_0.size] := Fresh.one _
 have hlhb0_1 := one_lt (show h0_0.size < h0_1.size by omega)
 try simp -implicitDefEqProofs (disch := first | decide | assumption | omega) only [go_sem, RdS.len hdX sl22, RdS.idx hdX sl22, R1.intB hdX (Ext.pres eB), RdS.cells hdX, RdS.len hmX sl23, RdS.idx hmX sl23, RdS.cellB hmX (Ext.pres eB), RdS.cells hmX, RdS.len hdY sl22, RdS.idx hdY sl22, R1.intB hdY (Ext.pres eB), RdS.cells hdY, RdS.len hmY sl23, RdS.idx hmY sl23, RdS.cellB hmY (Ext.pres eB), RdS.cells hmY, BoxAt.cell hb0_0, BoxAt.cell hb0_1, wrap_id, bC0]
 refine op_alloc (cs := #[.int .i64 0, .slice none 0 0, .slice none 0 0]) (by kernel_rfl) ?_
 intro h0_2 e0_2 hb0_2 z0_2
 replace hb0_0 := BoxAt.ext hb0_0 e0_2
 replace hb0_1 := BoxAt.ext hb0_1 e0_2
 have := Ext.size e0_2
 replace eB := Ext.trans eB e0_2
 have hfhb0_2 : Fresh h0_1.size [h0_1.size] := Fresh.one _
 have hlhb0_2 := one_lt (show h0_1.size < h0_2.size by omega)
 try simp -implicitDefEqProofs (disch := first | decide | assumption | omega) only [go_sem, RdS.len hdX sl22, RdS.idx hdX sl22, R1.intB hdX (Ext.pres eB), RdS.cells hdX, RdS.len hmX sl23, RdS.idx hmX sl23, RdS.cellB hmX (Ext.pres eB), RdS.cells hmX, RdS.len hdY sl22, RdS.idx hdY sl22, R1.intB hdY (Ext.pres eB), RdS.cells hdY, RdS.len hmY sl23, RdS.idx hmY sl23, RdS.cellB hmY (Ext.pres eB), RdS.cells hmY, BoxAt.cell hb0_0, BoxAt.cell hb0_1, BoxAt.cell hb0_2, wrap_id, bC0]
 refine hK _ _ ?_
 clear hK K
 refine den_seq ?_
 refine den_region TTok ?_
 intro K hK
 simp -implicitDefEqProofs (disch := first | decide | assumption | omega) only [go_sem, ld31, RdS.len hdX sl22, RdS.idx hdX sl22, R1.intB hdX (Ext.pres eB), RdS.cells hdX, RdS.len hmX sl23, RdS.idx hmX sl23, RdS.cellB hmX (Ext.pres eB), RdS.cells hmX, RdS.len hdY sl22, RdS.idx hdY sl22, R1.intB hdY (Ext.pres eB), RdS.cells hdY, RdS.len hmY sl23, RdS.idx hmY sl23, RdS.cellB hmY (Ext.pres eB), RdS.cells hmY, BoxAt.cell hb0_0, BoxAt.cell hb0_1, BoxAt.cell hb0_2, wrap_id, bC0]
 try simp -implicitDefEqProofs (disch := first | decide | assumption | omega) only [go_sem, RdS.len hdX sl22, RdS.idx hdX sl22, R1.intB hdX (Ext.pres eB), RdS.cells hdX, RdS.len hmX sl23, RdS.idx hmX sl23, RdS.cellB hmX (Ext.pres eB), RdS.cells hmX, RdS.len hdY sl22, RdS.idx hdY sl22, R1.intB hdY (Ext.pres eB), RdS.cells hdY, RdS.len hmY sl23, RdS.idx hmY sl23, RdS.cellB hmY (Ext.pres eB), RdS.cells hmY, BoxAt.cell hb0_0, BoxAt.cell hb0_1, BoxAt.cell hb0_2, wrap_id, bC0]
 refine CallA.mono (iDims_ok _ _ X Y _ ⟨_, _, rfl, (RdS.pres hdX (Ext.pres eB)), (RdS.pres hmX (Ext.pres eB))⟩ ⟨_, _, rfl, (RdS.pres hdY (Ext.pres eB)), (RdS.pres hmY (Ext.pres eB))⟩ (hX) (hY)) ?_
 intro vw1_2_0 h1_2
 rintro ⟨zvw1_2_0, fw1_2_0, rfl, how1_2_0, hfw1_2_0, e1_2⟩
 replace hb0_0 := BoxAt.ext hb0_0 e1_2
 replace hb0_1 := BoxAt.ext hb0_1 e1_2
 replace hb0_2 := BoxAt.ext hb0_2 e1_2
 have := Ext.size e1_2
 replace eB := Ext.trans eB e1_2
 have hlhow1_2_0 := OS.lt how1_2_0
 try simp -implicitDefEqProofs (disch := first | decide | assumption | omega) only [go_sem, RdS.len hdX sl22, RdS.idx hdX sl22, R1.intB hdX (Ext.pres eB), RdS.cells hdX, RdS.len hmX sl23, RdS.idx hmX sl23, RdS.cellB hmX (Ext.pres eB), RdS.cells hmX, RdS.len hdY sl22, RdS.idx hdY sl22, R1.intB hdY (Ext.pres eB), RdS.cells hdY, RdS.len hmY sl23, RdS.idx hmY sl23, RdS.cellB hmY (Ext.pres eB), RdS.cells hmY, RdS.len (OS.rd how1_2_0) sl22, RdS.idx (OS.rd how1_2_0) sl22, R1.intN (OS.rd how1_2_0), RdS.cells (OS.rd how1_2_0), BoxAt.cell hb0_0, BoxAt.cell hb0_1, BoxAt.cell hb0_2, wrap_id, bC0]
 refine hK _ _ ?_
 clear hK K
 refine den_seq ?_
 refine den_seq ?_
 refine den_merge [(18, .bool (((decide ((6 : Int) < ((tdP X Y).length : Int))) || (!((!(tdP X Y).any (fun x => decide (8 < x))))))))] [2, 3, 4, 6] (fun H => Ext h1_2 H) ?_ ?_
  -- a way
 ·refine den_region TTok ?_
  intro K hK
  simp -implicitDefEqProofs (disch := first | decide | assumption | (simp (disch := decide) only [slotOf_zero, slotOf_succ, Option.map_some, puts_same, puts_ne, gv_bool, gv_undef, tt, tf, ft, ff, eq_self, if_true, if_false, Bool.false_eq_true, Bool.not_true, Bool.not_false]; done) | omega) only [go_sem, RdS.len hdX sl22, RdS.idx hdX sl22, R1.intB hdX (Ext.pres eB), RdS.cells hdX, RdS.len hmX sl23, RdS.idx hmX sl23, RdS.cellB hmX (Ext.pres eB), RdS.cells hmX, RdS.len hdY sl22, RdS.idx hdY sl22, R1.intB hdY (Ext.pres eB), RdS.cells hdY, RdS.len hmY sl23, RdS.idx hmY sl23, RdS.cellB hmY (Ext.pres eB), RdS.cells hmY, RdS.len (OS.rd how1_2_0) sl22, RdS.idx (OS.rd how1_2_0) sl22, R1.intN (OS.rd how1_2_0), RdS.cells (OS.rd how1_2_0), BoxAt.cell hb0_0, BoxAt.cell hb0_1, BoxAt.cell hb0_2, wrap_id, bC0]
  refine opsP_F (by simp (disch := decide) only [slotOf_zero, slotOf_succ, Option.map_some, puts_same, puts_ne, gv_bool, gv_undef, tt, tf, ft, ff, eq_self, if_true, if_false, Bool.false_eq_true, Bool.not_true, Bool.not_false]; rfl) (fun g1 => ?_) (fun g1 => ?_)
  ·try simp -implicitDefEqProofs (disch := first | decide | assumption | (simp (disch := decide) only [slotOf_zero, slotOf_succ, Option.map_some, puts_same, puts_ne, gv_bool, gv_undef, tt, tf, ft, ff, eq_self, if_true, if_false, Bool.false_eq_true, Bool.not_true, Bool.not_false, g1]; done) | omega) only [go_sem, RdS.len hdX sl22, RdS.idx hdX sl22, R1.intB hdX (Ext.pres eB), RdS.cells hdX, RdS.len hmX sl23, RdS.idx hmX sl23, RdS.cellB hmX (Ext.pres eB), RdS.cells hmX, RdS.len hdY sl22, RdS.idx hdY sl22, R1.intB hdY (Ext.pres eB), RdS.cells hdY, RdS.len hmY sl23, RdS.idx hmY sl23, RdS.cellB hmY (Ext.pres eB), RdS.cells hmY, RdS.len (OS.rd how1_2_0) sl22, RdS.idx (OS.rd how1_2_0) sl22, R1.intN (OS.rd how1_2_0), RdS.cells (OS.rd how1_2_0), BoxAt.cell hb0_0, BoxAt.cell hb0_1, BoxAt.cell hb0_2, wrap_id, bC0, g1, eq_self, if_true, if_false, Bool.false_eq_true]
   try simp -implicitDefEqProofs (disch := first | decide | assumption | omega) only [go_sem, RdS.len hdX sl22, RdS.idx hdX sl22, R1.intB hdX (Ext.pres eB), RdS.cells hdX, RdS.len hmX sl23, RdS.idx hmX sl23, RdS.cellB hmX (Ext.pres eB), RdS.cells hmX, RdS.len hdY sl22, RdS.idx hdY sl22, R1.intB hdY (Ext.pres eB), RdS.cells hdY, RdS.len hmY sl23, RdS.idx hmY sl23, RdS.cellB hmY (Ext.pres eB), RdS.cells hmY, RdS.len (OS.rd how1_2_0) sl22, RdS.idx (OS.rd how1_2_0) sl22, R1.intN (OS.rd how1_2_0), RdS.cells (OS.rd how1_2_0), BoxAt.cell hb0_0, BoxAt.cell hb0_1, BoxAt.cell hb0_2, wrap_id, bC0]
   refine CallA.mono (arS_ok _ _ _ (OS.rd how1_2_0)) ?_
   intro v_ h2_5
   rintro ⟨rfl, e2_5⟩
   replace how1_2_0 := OS.ext how1_2_0 e2_5
   replace hb0_0 := BoxAt.ext hb0_0 e2_5
   replace hb0_1 := BoxAt.ext hb0_1 e2_5
   replace hb0_2 := BoxAt.ext hb0_2 e2_5
   have := Ext.size e2_5
   replace eB := Ext.trans eB e2_5
   try simp -implicitDefEqProofs (disch := first | decide | assumption | (simp (disch := decide) only [slotOf_zero, slotOf_succ, Option.map_some, puts_same, puts_ne, gv_bool, gv_undef, tt, tf, ft, ff, eq_self, if_true, if_false, Bool.false_eq_true, Bool.not_true, Bool.not_false, g1]; done) | omega) only [go_sem, RdS.len hdX sl22, RdS.idx hdX sl22, R1.intB hdX (Ext.pres eB), RdS.cells hdX, RdS.len hmX sl23, RdS.idx hmX sl23, RdS.cellB hmX (Ext.pres eB), RdS.cells hmX, RdS.len hdY sl22, RdS.idx hdY sl22, R1.intB hdY (Ext.pres eB), RdS.cells hdY, RdS.len hmY sl23, RdS.idx hmY sl23, RdS.cellB hmY (Ext.pres eB), RdS.cells hmY, RdS.len (OS.rd how1_2_0) sl22, RdS.idx (OS.rd how1_2_0) sl22, R1.intN (OS.rd how1_2_0), RdS.cells (OS.rd how1_2_0), BoxAt.cell hb0_0, BoxAt.cell hb0_1, BoxAt.cell hb0_2, wrap_id, bC0, g1, eq_self, if_true, if_false, Bool.false_eq_true]
   refine hK _ _ ?_
   clear hK K
   refine den_stop ?_
   refine ⟨?_, e2_5⟩
   first | (simp (disch := decide) only [go_sem, g1, eq_self, Bool.true_and, Bool.and_true, Bool.false_and, Bool.and_false, Bool.true_or, Bool.or_true, Bool.false_or, Bool.or_false, if_true, if_false, Bool.false_eq_true]; done) | simp [HasL, sel, puts_at, g1]
  ·try simp -implicitDefEqProofs (disch := first | decide | assumption | (simp (disch := decide) only [slotOf_zero, slotOf_succ, Option.map_some, puts_same, puts_ne, gv_bool, gv_undef, tt, tf, ft, ff, eq_self, if_true, if_false, Bool.false_eq_true, Bool.not_true, Bool.not_false, g1]; done) | omega) only [go_sem, RdS.len hdX sl22, RdS.idx hdX sl22, R1.intB hdX (Ext.pres eB), RdS.cells hdX, RdS.len hmX sl23, RdS.idx hmX sl23, RdS.cellB hmX (Ext.pres eB), RdS.cells hmX, RdS.len hdY sl22, RdS.idx hdY sl22, R1.intB hdY (Ext.pres eB), RdS.cells hdY, RdS.len hmY sl23, RdS.idx hmY sl23, RdS.cellB hmY (Ext.pres eB), RdS.cells hmY, RdS.len (OS.rd how1_2_0) sl22, RdS.idx (OS.rd how1_2_0) sl22, R1.intN (OS.rd how1_2_0), RdS.cells (OS.rd how1_2_0), BoxAt.cell hb0_0, BoxAt.cell hb0_1, BoxAt.cell hb0_2, wrap_id, bC0, g1, eq_self, if_true, if_false, Bool.false_eq_true]
   refine hK _ _ ?_
   clear hK K
   refine den_stop ?_
   refine ⟨?_, Ext.refl _⟩
   first | (simp (disch := decide) only [go_sem, g1, eq_self, Bool.true_and, Bool.and_true, Bool.false_and, Bool.and_false, Bool.true_or, Bool.or_true, Bool.false_or, Bool.or_false, if_true, if_false, Bool.false_eq_true]; done) | simp [HasL, sel, puts_at, g1]
 intro en2 h3 e4
 replace how1_2_0 := OS.ext how1_2_0 e4
 replace hb0_0 := BoxAt.ext hb0_0 e4
 replace hb0_1 := BoxAt.ext hb0_1 e4
 replace hb0_2 := BoxAt.ext hb0_2 e4
 have := Ext.size e4
 replace eB := Ext.trans eB e4
 simp (disch := decide) only [go_sem]
 refine den_cond rfl (fun c0 => ?_) (fun c0 => ?_)
 ·try simp only [decide_eq_true_eq, decide_eq_false_iff_not, beq_iff_eq, beq_eq_false_iff_ne, bne_iff_ne, ne_eq, Bool.not_eq_true', Bool.not_eq_false', Bool.and_eq_true, Bool.or_eq_true, bne_eq_false_iff_eq, Bool.or_eq_false_iff, Bool.and_eq_false_iff] at c0
  have hnf : ¬ fitP (tdP X Y) = true := fit_no (by simpa using c0)
  refine den_seq ?_
  refine den_region TTok ?_
  intro K hK
  simp -implicitDefEqProofs (disch := first | decide | assumption | omega) only [go_sem, RdS.len hdX sl22, RdS.idx hdX sl22, R1.intB hdX (Ext.pres eB), RdS.cells hdX, RdS.len hmX sl23, RdS.idx hmX sl23, RdS.cellB hmX (Ext.pres eB), RdS.cells hmX, RdS.len hdY sl22, RdS.idx hdY sl22, R1.intB hdY (Ext.pres eB), RdS.cells hdY, RdS.len hmY sl23, RdS.idx hmY sl23, RdS.cellB hmY (Ext.pres eB), RdS.cells hmY, BoxAt.cell hb0_2, wrap_id, bC0]
  refine op_storeB (cs' := #[.int .i64 ((0 : Int)), .slice none 0 0, .slice none 0 0]) st31 hb0_2 rfl rfl rfl (by simp) (allOne_mem (l := [.int .i64 ((0 : Int)), .slice none 0 0, .slice none 0 0]) ⟨rfl, rfl, rfl, trivial⟩) rfl ?_
  intro h3_1 hb0_2 c3_1
  have := c3_1.size
  replace eB := Ext.then eB c3_1 (ge_of hfhb0_2 (by omega))
  try simp -implicitDefEqProofs (disch := first | decide | assumption | omega) only [go_sem, RdS.len hdX sl22, RdS.idx hdX sl22, R1.intB hdX (Ext.pres eB), RdS.cells hdX, RdS.len hmX sl23, RdS.idx hmX sl23, RdS.cellB hmX (Ext.pres eB), RdS.cells hmX, RdS.len hdY sl22, RdS.idx hdY sl22, R1.intB hdY (Ext.pres eB), RdS.cells hdY, RdS.len hmY sl23, RdS.idx hmY sl23, RdS.cellB hmY (Ext.pres eB), RdS.cells hmY, BoxAt.cell hb0_2, wrap_id, bC0]
  refine hK _ _ ?_
  clear hK K
  refine den_ret ?_
  simp -implicitDefEqProofs (disch := first | decide | assumption | omega) only [go_sem, RdS.len hdX sl22, RdS.idx hdX sl22, R1.intB hdX (Ext.pres eB), RdS.cells hdX, RdS.len hmX sl23, RdS.idx hmX sl23, RdS.cellB hmX (Ext.pres eB), RdS.cells hmX, RdS.len hdY sl22, RdS.idx hdY sl22, R1.intB hdY (Ext.pres eB), RdS.cells hdY, RdS.len hmY sl23, RdS.idx hmY sl23, RdS.cellB hmY (Ext.pres eB), RdS.cells hmY, BoxAt.cell hb0_2, wrap_id, bC0, resP_ct, ld31]
  have hz : teP X Y = (⟨0, [], []⟩, 3) := by rw [teP, if_neg hnf]
  rw [hz]
  exact ⟨.slice none 0 0, .slice none 0 0, [], [], rfl, OS.nil, OS.nil, Fresh.nil _, eB⟩
 ·try simp only [decide_eq_true_eq, decide_eq_false_iff_not, beq_iff_eq, beq_eq_false_iff_ne, bne_iff_ne, ne_eq, Bool.not_eq_true', Bool.not_eq_false', Bool.and_eq_true, Bool.or_eq_true, bne_eq_false_iff_eq, Bool.or_eq_false_iff, Bool.and_eq_false_iff] at c0
  have hnf : fitP (tdP X Y) = true := fit_yes (by have := c0; omega) (by simpa using c0.2)
  have hbD := fit_all hX hY hnf
  have hbL : (tdP X Y).length ≤ 16 := by have := fit_len hnf; omega
  refine den_skip ?_
  refine den_seq ?_
  refine den_region TTok ?_
  intro K hK
  simp -implicitDefEqProofs (disch := first | decide | assumption | omega) only [go_sem, fa31_0, ld2, RdS.len hdX sl22, RdS.idx hdX sl22, R1.intB hdX (Ext.pres eB), RdS.cells hdX, RdS.len hmX sl23, RdS.idx hmX sl23, RdS.cellB hmX (Ext.pres eB), RdS.cells hmX, RdS.len hdY sl22, RdS.idx hdY sl22, R1.intB hdY (Ext.pres eB), RdS.cells hdY, RdS.len hmY sl23, RdS.idx hmY sl23, RdS.cellB hmY (Ext.pres eB), RdS.cells hmY, RdS.len (OS.rd how1_2_0) sl22, RdS.idx (OS.rd how1_2_0) sl22, R1.intN (OS.rd how1_2_0), RdS.cells (OS.rd how1_2_0), BoxAt.cell hb0_0, BoxAt.cell hb0_1, BoxAt.cell hb0_2, wrap_id, bC0]
  try simp -implicitDefEqProofs (disch := first | decide | assumption | omega) only [go_sem, RdS.len hdX sl22, RdS.idx hdX sl22, R1.intB hdX (Ext.pres eB), RdS.cells hdX, RdS.len hmX sl23, RdS.idx hmX sl23, RdS.cellB hmX (Ext.pres eB), RdS.cells hmX, RdS.len hdY sl22, RdS.idx hdY sl22, R1.intB hdY (Ext.pres eB), RdS.cells hdY, RdS.len hmY sl23, RdS.idx hmY sl23, RdS.cellB hmY (Ext.pres eB), RdS.cells hmY, RdS.len (OS.rd how1_2_0) sl22, RdS.idx (OS.rd how1_2_0) sl22, R1.intN (OS.rd how1_2_0), RdS.cells (OS.rd how1_2_0), BoxAt.cell hb0_0, BoxAt.cell hb0_1, BoxAt.cell hb0_2, wrap_id, bC0]
  refine CallA.mono (blank_ok _ _ (tdP X Y) _ (OS.rd how1_2_0) hbD hbL) ?_
  intro v_ h4_3
  rintro ⟨vw4_3, fw4_3, rfl, how4_3, hfw4_3, e4_3⟩
  replace how1_2_0 := OS.ext how1_2_0 e4_3
  replace hb0_0 := BoxAt.ext hb0_0 e4_3
  replace hb0_1 := BoxAt.ext hb0_1 e4_3
  replace hb0_2 := BoxAt.ext hb0_2 e4_3
  have := Ext.size e4_3
  replace eB := Ext.trans eB e4_3
  have hlhow4_3 := OS.lt how4_3
  try simp -implicitDefEqProofs (disch := first | decide | assumption | omega) only [go_sem, RdS.len hdX sl22, RdS.idx hdX sl22, R1.intB hdX (Ext.pres eB), RdS.cells hdX, RdS.len hmX sl23, RdS.idx hmX sl23, RdS.cellB hmX (Ext.pres eB), RdS.cells hmX, RdS.len hdY sl22, RdS.idx hdY sl22, R1.intB hdY (Ext.pres eB), RdS.cells hdY, RdS.len hmY sl23, RdS.idx hmY sl23, RdS.cellB hmY (Ext.pres eB), RdS.cells hmY, RdS.len (OS.rd how1_2_0) sl22, RdS.idx (OS.rd how1_2_0) sl22, R1.intN (OS.rd how1_2_0), RdS.cells (OS.rd how1_2_0), RdS.len (OS.rd how4_3) sl23, RdS.idx (OS.rd how4_3) sl23, RdS.cellN (OS.rd how4_3), RdS.cells (OS.rd how4_3), BoxAt.cell hb0_0, BoxAt.cell hb0_1, BoxAt.cell hb0_2, wrap_id, bC0]
  refine op_alloc (cs := #[.int .i64 0, .slice none 0 0, .slice none 0 0]) (by kernel_rfl) ?_
  intro h4_4 e4_4 hb4_4 z4_4
  replace how1_2_0 := OS.ext how1_2_0 e4_4
  replace how4_3 := OS.ext how4_3 e4_4
  replace hb0_0 := BoxAt.ext hb0_0 e4_4
  replace hb0_1 := BoxAt.ext hb0_1 e4_4
  replace hb0_2 := BoxAt.ext hb0_2 e4_4
  have := Ext.size e4_4
  replace eB := Ext.trans eB e4_4
  have hfhb4_4 : Fresh h4_3.size [h4_3.size] := Fresh.one _
  have hlhb4_4 := one_lt (show h4_3.size < h4_4.size by omega)
  try simp -implicitDefEqProofs (disch := first | decide | assumption | omega) only [go_sem, RdS.len hdX sl22, RdS.idx hdX sl22, R1.intB hdX (Ext.pres eB), RdS.cells hdX, RdS.len hmX sl23, RdS.idx hmX sl23, RdS.cellB hmX (Ext.pres eB), RdS.cells hmX, RdS.len hdY sl22, RdS.idx hdY sl22, R1.intB hdY (Ext.pres eB), RdS.cells hdY, RdS.len hmY sl23, RdS.idx hmY sl23, RdS.cellB hmY (Ext.pres eB), RdS.cells hmY, RdS.len (OS.rd how1_2_0) sl22, RdS.idx (OS.rd how1_2_0) sl22, R1.intN (OS.rd how1_2_0), RdS.cells (OS.rd how1_2_0), RdS.len (OS.rd how4_3) sl23, RdS.idx (OS.rd how4_3) sl23, RdS.cellN (OS.rd how4_3), RdS.cells (OS.rd how4_3), BoxAt.cell hb0_0, BoxAt.cell hb0_1, BoxAt.cell hb0_2, BoxAt.cell hb4_4, wrap_id, bC0]
  refine op_storeB (cs' := #[.int .i64 (X.p), vw1_2_0, vw4_3]) st31 hb4_4 rfl rfl rfl (by simp) (allOne_mem (l := [.int .i64 (X.p), vw1_2_0, vw4_3]) ⟨rfl, (OS.one how1_2_0).1, (OS.one how4_3).1, trivial⟩) rfl ?_
  intro h4_5 hb4_4 c4_5
  replace how1_2_0 := OS.chg how1_2_0 c4_5 (apart_lt hlhow1_2_0 hfhb4_4 (by omega))
  replace how4_3 := OS.chg how4_3 c4_5 (apart_lt hlhow4_3 hfhb4_4 (by omega))
  replace hb0_0 := BoxAt.chgA hb0_0 c4_5 (apart_lt hlhb0_0 hfhb4_4 (by omega))
  replace hb0_1 := BoxAt.chgA hb0_1 c4_5 (apart_lt hlhb0_1 hfhb4_4 (by omega))
  replace hb0_2 := BoxAt.chgA hb0_2 c4_5 (apart_lt hlhb0_2 hfhb4_4 (by omega))
  have := c4_5.size
  replace eB := Ext.then eB c4_5 (ge_of hfhb4_4 (by omega))
  try simp -implicitDefEqProofs (disch := first | decide | assumption | omega) only [go_sem, RdS.len hdX sl22, RdS.idx hdX sl22, R1.intB hdX (Ext.pres eB), RdS.cells hdX, RdS.len hmX sl23, RdS.idx hmX sl23, RdS.cellB hmX (Ext.pres eB), RdS.cells hmX, RdS.len hdY sl22, RdS.idx hdY sl22, R1.intB hdY (Ext.pres eB), RdS.cells hdY, RdS.len hmY sl23, RdS.idx hmY sl23, RdS.cellB hmY (Ext.pres eB), RdS.cells hmY, RdS.len (OS.rd how1_2_0) sl22, RdS.idx (OS.rd how1_2_0) sl22, R1.intN (OS.rd how1_2_0), RdS.cells (OS.rd how1_2_0), RdS.len (OS.rd how4_3) sl23, RdS.idx (OS.rd how4_3) sl23, RdS.cellN (OS.rd how4_3), RdS.cells (OS.rd how4_3), BoxAt.cell hb0_0, BoxAt.cell hb0_1, BoxAt.cell hb0_2, BoxAt.cell hb4_4, wrap_id, bC0]
  refine hK _ _ ?_
  clear hK K
  refine den_seq ?_
  refine den_region TTok ?_
  intro K hK
  simp -implicitDefEqProofs (disch := first | decide | assumption | omega) only [go_sem, ld31, RdS.len hdX sl22, RdS.idx hdX sl22, R1.intB hdX (Ext.pres eB), RdS.cells hdX, RdS.len hmX sl23, RdS.idx hmX sl23, RdS.cellB hmX (Ext.pres eB), RdS.cells hmX, RdS.len hdY sl22, RdS.idx hdY sl22, R1.intB hdY (Ext.pres eB), RdS.cells hdY, RdS.len hmY sl23, RdS.idx hmY sl23, RdS.cellB hmY (Ext.pres eB), RdS.cells hmY, RdS.len (OS.rd how1_2_0) sl22, RdS.idx (OS.rd how1_2_0) sl22, R1.intN (OS.rd how1_2_0), RdS.cells (OS.rd how1_2_0), RdS.len (OS.rd how4_3) sl23, RdS.idx (OS.rd how4_3) sl23, RdS.cellN (OS.rd how4_3), RdS.cells (OS.rd how4_3), BoxAt.cell hb0_0, BoxAt.cell hb0_1, BoxAt.cell hb0_2, BoxAt.cell hb4_4, wrap_id, bC0]
  try simp -implicitDefEqProofs (disch := first | decide | assumption | omega) only [go_sem, RdS.len hdX sl22, RdS.idx hdX sl22, R1.intB hdX (Ext.pres eB), RdS.cells hdX, RdS.len hmX sl23, RdS.idx hmX sl23, RdS.cellB hmX (Ext.pres eB), RdS.cells hmX, RdS.len hdY sl22, RdS.idx hdY sl22, R1.intB hdY (Ext.pres eB), RdS.cells hdY, RdS.len hmY sl23, RdS.idx hmY sl23, RdS.cellB hmY (Ext.pres eB), RdS.cells hmY, RdS.len (OS.rd how1_2_0) sl22, RdS.idx (OS.rd how1_2_0) sl22, R1.intN (OS.rd how1_2_0), RdS.cells (OS.rd how1_2_0), RdS.len (OS.rd how4_3) sl23, RdS.idx (OS.rd how4_3) sl23, RdS.cellN (OS.rd how4_3), RdS.cells (OS.rd how4_3), BoxAt.cell hb0_0, BoxAt.cell hb0_1, BoxAt.cell hb0_2, BoxAt.cell hb4_4, wrap_id, bC0]
  refine CallA.mono (each_upd (X := X) (s0 := (zblk (tdP X Y) ((tdP X Y).length - 1))) (p := X.p) (L := (tdP X Y).length - 1) (A := tA X Y) (B := tB X Y) (U := tU1 X Y) (Ot := (fun H => BoxAt H (h4_3.size) #[.int .i64 X.p, vw1_2_0, vw4_3] 31 ∧ BoxAt H (h0_0.size) #[.int .i64 Y.p, vdY, vmY] 31 ∧ BoxAt H (h.size) #[.int .i64 X.p, vdX, vmX] 31 ∧ O1 H vw1_2_0 (tdP X Y) fw1_2_0)) hpb.1 hdX hmX ⟨how4_3, hzb.1, hzb.2, eB, hb4_4, hb0_1, hb0_0, how1_2_0⟩ (fun H H' c o => ⟨BoxAt.chgA o.1 c (apart_gt hfhb4_4 hlhow4_3 (by omega)), BoxAt.chgA o.2.1 c (apart_lt hlhb0_1 hfw4_3 (by omega)), BoxAt.chgA o.2.2.1 c (apart_lt hlhb0_0 hfw4_3 (by omega)), OS.chg o.2.2.2 c (apart_lt hlhow1_2_0 hfw4_3 (by omega))⟩) (ge_of hfw4_3 (by omega)) (t_u1 hX hY) (fun s H k i j hk hi hj r => by
  simp only [List.append_toArray, List.cons_append, List.nil_append]
  have hnm := hX.num hk hi hj
  exact (ten1_ok X Y vdX vmX vdY vmY _ _ s _ k i j _ _ _ _ (fun H => BoxAt H (h4_3.size) #[.int .i64 X.p, vw1_2_0, vw4_3] 31 ∧ BoxAt H (h0_0.size) #[.int .i64 Y.p, vdY, vmY] 31 ∧ BoxAt H (h.size) #[.int .i64 X.p, vdX, vmX] 31 ∧ O1 H vw1_2_0 (tdP X Y) fw1_2_0) h H hdX hmX hdY hmY hX hY hi hj (by omega) r.o r.sh r.i3 hfw4_3.nodup r.e (ge_of hfw4_3 (by omega)) r.ot (fun H H' c o => ⟨BoxAt.chgA o.1 c (apart_gt hfhb4_4 hlhow4_3 (by omega)), BoxAt.chgA o.2.1 c (apart_lt hlhb0_1 hfw4_3 (by omega)), BoxAt.chgA o.2.2.1 c (apart_lt hlhb0_0 hfw4_3 (by omega)), OS.chg o.2.2.2 c (apart_lt hlhow1_2_0 hfw4_3 (by omega))⟩) (fun H o => ⟨o.1, o.2.1, o.2.2.1, OS.rd o.2.2.2⟩)).mono (fun u H' q => q.2))) ?_
  intro v_ h5_2
  rintro ⟨rfl, hog5_2, cg5_2⟩
  replace how1_2_0 := OS.chg how1_2_0 cg5_2 (apart_lt hlhow1_2_0 hfw4_3 (by omega))
  replace hb0_0 := BoxAt.chgA hb0_0 cg5_2 (apart_lt hlhb0_0 hfw4_3 (by omega))
  replace hb0_1 := BoxAt.chgA hb0_1 cg5_2 (apart_lt hlhb0_1 hfw4_3 (by omega))
  replace hb0_2 := BoxAt.chgA hb0_2 cg5_2 (apart_lt hlhb0_2 hfw4_3 (by omega))
  replace hb4_4 := BoxAt.chgA hb4_4 cg5_2 (apart_gt hfhb4_4 hlhow4_3 (by omega))
  have := cg5_2.size
  replace eB := Ext.then eB cg5_2 (ge_of hfw4_3 (by omega))
  have hlhog5_2 := hlhow4_3
  try simp -implicitDefEqProofs (disch := first | decide | assumption | omega) only [go_sem, RdS.len hdX sl22, RdS.idx hdX sl22, R1.intB hdX (Ext.pres eB), RdS.cells hdX, RdS.len hmX sl23, RdS.idx hmX sl23, RdS.cellB hmX (Ext.pres eB), RdS.cells hmX, RdS.len hdY sl22, RdS.idx hdY sl22, R1.intB hdY (Ext.pres eB), RdS.cells hdY, RdS.len hmY sl23, RdS.idx hmY sl23, RdS.cellB hmY (Ext.pres eB), RdS.cells hmY, RdS.len (OS.rd how1_2_0) sl22, RdS.idx (OS.rd how1_2_0) sl22, R1.intN (OS.rd how1_2_0), RdS.cells (OS.rd how1_2_0), RdS.len (OS.rd hog5_2) sl23, RdS.idx (OS.rd hog5_2) sl23, RdS.cellN (OS.rd hog5_2), RdS.cells (OS.rd hog5_2), BoxAt.cell hb0_0, BoxAt.cell hb0_1, BoxAt.cell hb0_2, BoxAt.cell hb4_4, wrap_id, bC0]
  refine hK _ _ ?_
  clear hK K
  refine den_seq ?_
  refine den_region TTok ?_
  intro K hK
  simp -implicitDefEqProofs (disch := first | decide | assumption | omega) only [go_sem, ld31, RdS.len hdX sl22, RdS.idx hdX sl22, R1.intB hdX (Ext.pres eB), RdS.cells hdX, RdS.len hmX sl23, RdS.idx hmX sl23, RdS.cellB hmX (Ext.pres eB), RdS.cells hmX, RdS.len hdY sl22, RdS.idx hdY sl22, R1.intB hdY (Ext.pres eB), RdS.cells hdY, RdS.len hmY sl23, RdS.idx hmY sl23, RdS.cellB hmY (Ext.pres eB), RdS.cells hmY, RdS.len (OS.rd how1_2_0) sl22, RdS.idx (OS.rd how1_2_0) sl22, R1.intN (OS.rd how1_2_0), RdS.cells (OS.rd how1_2_0), RdS.len (OS.rd hog5_2) sl23, RdS.idx (OS.rd hog5_2) sl23, RdS.cellN (OS.rd hog5_2), RdS.cells (OS.rd hog5_2), BoxAt.cell hb0_0, BoxAt.cell hb0_1, BoxAt.cell hb0_2, BoxAt.cell hb4_4, wrap_id, bC0]
  try simp -implicitDefEqProofs (disch := first | decide | assumption | omega) only [go_sem, RdS.len hdX sl22, RdS.idx hdX sl22, R1.intB hdX (Ext.pres eB), RdS.cells hdX, RdS.len hmX sl23, RdS.idx hmX sl23, RdS.cellB hmX (Ext.pres eB), RdS.cells hmX, RdS.len hdY sl22, RdS.idx hdY sl22, R1.intB hdY (Ext.pres eB), RdS.cells hdY, RdS.len hmY sl23, RdS.idx hmY sl23, RdS.cellB hmY (Ext.pres eB), RdS.cells hmY, RdS.len (OS.rd how1_2_0) sl22, RdS.idx (OS.rd how1_2_0) sl22, R1.intN (OS.rd how1_2_0), RdS.cells (OS.rd how1_2_0), RdS.len (OS.rd hog5_2) sl23, RdS.idx (OS.rd hog5_2) sl23, RdS.cellN (OS.rd hog5_2), RdS.cells (OS.rd hog5_2), BoxAt.cell hb0_0, BoxAt.cell hb0_1, BoxAt.cell hb0_2, BoxAt.cell hb4_4, wrap_id, bC0]
  refine CallA.mono (each_upd (X := Y) (s0 := (tT1 X Y)) (p := X.p) (L := (tdP X Y).length - 1) (A := tA X Y) (B := tB X Y) (U := tU2 X Y) (Ot := (fun H => BoxAt H (h4_3.size) #[.int .i64 X.p, vw1_2_0, vw4_3] 31 ∧ BoxAt H (h0_0.size) #[.int .i64 Y.p, vdY, vmY] 31 ∧ BoxAt H (h.size) #[.int .i64 X.p, vdX, vmX] 31 ∧ O1 H vw1_2_0 (tdP X Y) fw1_2_0)) hpb.1 hdY hmY ⟨hog5_2, (tT1_sh hX hY).1, (tT1_sh hX hY).2, eB, hb4_4, hb0_1, hb0_0, how1_2_0⟩ (fun H H' c o => ⟨BoxAt.chgA o.1 c (apart_gt hfhb4_4 hlhog5_2 (by omega)), BoxAt.chgA o.2.1 c (apart_lt hlhb0_1 hfw4_3 (by omega)), BoxAt.chgA o.2.2.1 c (apart_lt hlhb0_0 hfw4_3 (by omega)), OS.chg o.2.2.2 c (apart_lt hlhow1_2_0 hfw4_3 (by omega))⟩) (ge_of hfw4_3 (by omega)) (t_u2 hX hY) (fun s H k i j hk hi hj r => by
  simp only [List.append_toArray, List.cons_append, List.nil_append]
  have hnm := hY.num hk hi hj
  exact (ten2_ok X Y vdX vmX vdY vmY _ _ s _ k i j _ _ _ _ (fun H => BoxAt H (h4_3.size) #[.int .i64 X.p, vw1_2_0, vw4_3] 31 ∧ BoxAt H (h0_0.size) #[.int .i64 Y.p, vdY, vmY] 31 ∧ BoxAt H (h.size) #[.int .i64 X.p, vdX, vmX] 31 ∧ O1 H vw1_2_0 (tdP X Y) fw1_2_0) h H hdX hmX hdY hmY hX hY hi hj (by omega) r.o r.sh r.i3 hfw4_3.nodup r.e (ge_of hfw4_3 (by omega)) r.ot (fun H H' c o => ⟨BoxAt.chgA o.1 c (apart_gt hfhb4_4 hlhog5_2 (by omega)), BoxAt.chgA o.2.1 c (apart_lt hlhb0_1 hfw4_3 (by omega)), BoxAt.chgA o.2.2.1 c (apart_lt hlhb0_0 hfw4_3 (by omega)), OS.chg o.2.2.2 c (apart_lt hlhow1_2_0 hfw4_3 (by omega))⟩) (fun H o => ⟨o.1, o.2.1, o.2.2.1, OS.rd o.2.2.2⟩)).mono (fun u H' q => q.2))) ?_
  intro v_ h6_2
  rintro ⟨rfl, hog6_2, cg6_2⟩
  replace how1_2_0 := OS.chg how1_2_0 cg6_2 (apart_lt hlhow1_2_0 hfw4_3 (by omega))
  replace hb0_0 := BoxAt.chgA hb0_0 cg6_2 (apart_lt hlhb0_0 hfw4_3 (by omega))
  replace hb0_1 := BoxAt.chgA hb0_1 cg6_2 (apart_lt hlhb0_1 hfw4_3 (by omega))
  replace hb0_2 := BoxAt.chgA hb0_2 cg6_2 (apart_lt hlhb0_2 hfw4_3 (by omega))
  replace hb4_4 := BoxAt.chgA hb4_4 cg6_2 (apart_gt hfhb4_4 hlhog5_2 (by omega))
  have := cg6_2.size
  replace eB := Ext.then eB cg6_2 (ge_of hfw4_3 (by omega))
  have hlhog6_2 := hlhog5_2
  try simp -implicitDefEqProofs (disch := first | decide | assumption | omega) only [go_sem, RdS.len hdX sl22, RdS.idx hdX sl22, R1.intB hdX (Ext.pres eB), RdS.cells hdX, RdS.len hmX sl23, RdS.idx hmX sl23, RdS.cellB hmX (Ext.pres eB), RdS.cells hmX, RdS.len hdY sl22, RdS.idx hdY sl22, R1.intB hdY (Ext.pres eB), RdS.cells hdY, RdS.len hmY sl23, RdS.idx hmY sl23, RdS.cellB hmY (Ext.pres eB), RdS.cells hmY, RdS.len (OS.rd how1_2_0) sl22, RdS.idx (OS.rd how1_2_0) sl22, R1.intN (OS.rd how1_2_0), RdS.cells (OS.rd how1_2_0), RdS.len (OS.rd hog6_2) sl23, RdS.idx (OS.rd hog6_2) sl23, RdS.cellN (OS.rd hog6_2), RdS.cells (OS.rd hog6_2), BoxAt.cell hb0_0, BoxAt.cell hb0_1, BoxAt.cell hb0_2, BoxAt.cell hb4_4, wrap_id, bC0]
  refine hK _ _ ?_
  clear hK K
  refine den_seq ?_
  refine den_region TTok ?_
  intro K hK
  simp -implicitDefEqProofs (disch := first | decide | assumption | omega) only [go_sem, ld31, RdS.len hdX sl22, RdS.idx hdX sl22, R1.intB hdX (Ext.pres eB), RdS.cells hdX, RdS.len hmX sl23, RdS.idx hmX sl23, RdS.cellB hmX (Ext.pres eB), RdS.cells hmX, RdS.len hdY sl22, RdS.idx hdY sl22, R1.intB hdY (Ext.pres eB), RdS.cells hdY, RdS.len hmY sl23, RdS.idx hmY sl23, RdS.cellB hmY (Ext.pres eB), RdS.cells hmY, RdS.len (OS.rd how1_2_0) sl22, RdS.idx (OS.rd how1_2_0) sl22, R1.intN (OS.rd how1_2_0), RdS.cells (OS.rd how1_2_0), RdS.len (OS.rd hog6_2) sl23, RdS.idx (OS.rd hog6_2) sl23, RdS.cellN (OS.rd hog6_2), RdS.cells (OS.rd hog6_2), BoxAt.cell hb0_2, BoxAt.cell hb4_4, wrap_id, bC0]
  refine op_storeB (cs' := #[.int .i64 (X.p), vw1_2_0, vw4_3]) st31 hb0_2 rfl rfl rfl (by simp) (allOne_mem (l := [.int .i64 (X.p), vw1_2_0, vw4_3]) ⟨rfl, (OS.one how1_2_0).1, (OS.one hog6_2).1, trivial⟩) rfl ?_
  intro h7_1 hb0_2 c7_1
  replace how1_2_0 := OS.chg how1_2_0 c7_1 (apart_gt hfw1_2_0 hlhb0_2 (by omega))
  replace hog6_2 := OS.chg hog6_2 c7_1 (apart_gt hfw4_3 hlhb0_2 (by omega))
  replace hb4_4 := BoxAt.chgA hb4_4 c7_1 (apart_gt hfhb4_4 hlhb0_2 (by omega))
  have := c7_1.size
  replace eB := Ext.then eB c7_1 (ge_of hfhb0_2 (by omega))
  try simp -implicitDefEqProofs (disch := first | decide | assumption | omega) only [go_sem, RdS.len hdX sl22, RdS.idx hdX sl22, R1.intB hdX (Ext.pres eB), RdS.cells hdX, RdS.len hmX sl23, RdS.idx hmX sl23, RdS.cellB hmX (Ext.pres eB), RdS.cells hmX, RdS.len hdY sl22, RdS.idx hdY sl22, R1.intB hdY (Ext.pres eB), RdS.cells hdY, RdS.len hmY sl23, RdS.idx hmY sl23, RdS.cellB hmY (Ext.pres eB), RdS.cells hmY, RdS.len (OS.rd how1_2_0) sl22, RdS.idx (OS.rd how1_2_0) sl22, R1.intN (OS.rd how1_2_0), RdS.cells (OS.rd how1_2_0), RdS.len (OS.rd hog6_2) sl23, RdS.idx (OS.rd hog6_2) sl23, RdS.cellN (OS.rd hog6_2), RdS.cells (OS.rd hog6_2), BoxAt.cell hb0_2, BoxAt.cell hb4_4, wrap_id, bC0]
  refine hK _ _ ?_
  clear hK K
  refine den_ret ?_
  simp -implicitDefEqProofs (disch := first | decide | assumption | omega) only [go_sem, RdS.len hdX sl22, RdS.idx hdX sl22, R1.intB hdX (Ext.pres eB), RdS.cells hdX, RdS.len hmX sl23, RdS.idx hmX sl23, RdS.cellB hmX (Ext.pres eB), RdS.cells hmX, RdS.len hdY sl22, RdS.idx hdY sl22, R1.intB hdY (Ext.pres eB), RdS.cells hdY, RdS.len hmY sl23, RdS.idx hmY sl23, RdS.cellB hmY (Ext.pres eB), RdS.cells hmY, RdS.len (OS.rd how1_2_0) sl22, RdS.idx (OS.rd how1_2_0) sl22, R1.intN (OS.rd how1_2_0), RdS.cells (OS.rd how1_2_0), RdS.len (OS.rd hog6_2) sl23, RdS.idx (OS.rd hog6_2) sl23, RdS.cellN (OS.rd hog6_2), RdS.cells (OS.rd hog6_2), BoxAt.cell hb0_2, BoxAt.cell hb4_4, wrap_id, bC0, resP_ct, ld31]
  have hz : teP X Y = (⟨X.p, tdP X Y, tT X Y⟩, 0) := by rw [teP, if_pos hnf]
  rw [hz]
  exact ⟨_, _, _, _, rfl, how1_2_0, hog6_2, Fresh.two hfw1_2_0 hfw4_3 (apart_lt hlhow1_2_0 hfw4_3 (by omega)) (by omega) (by omega), eB⟩
end Go.Proofs.Ytjjjgllbocgkbaa

namespace Go.Proofs.Ytjjjgllbocgkbaa
open Go
theorem te_0 {X Y : Cx} (h : (teP X Y).2 = 0) : fitP (tdP X Y) = true := by
 unfold teP at h
 split at h
 ·assumption
 ·cases h
end Go.Proofs.Ytjjjgllbocgkbaa
