/-
  Walks: blank complexes.
  Conditions: each theorem's own.
-/
import Derived.Test.YtjjjgllbocgkbaaC1
set_option linter.unusedVariables false
set_option linter.unusedSimpArgs false
namespace Go.Proofs.Ytjjjgllbocgkbaa
open Go
theorem bCx {v : Value} {xs : List Int} {h : Heap} (hv : R1 h v xs) (p : Int) : buildV TT 31 [(0, .int .i64 p), (1, v)] = some (.agg #[.int .i64 p, v, .slice none 0 0]) := by
  obtain ⟨A, c, rfl, _⟩ := hv
  kernel_rfl
theorem bC0 : buildV TT 31 [] = some (.agg #[.int .i64 0, .slice none 0 0, .slice none 0 0]) := by kernel_rfl
theorem OS.isSl {α : Type} {e : TypeId} {E : Heap → Value → α → List Nat → Prop} {h : Heap} {v : Value} {xs : List α} {fp : List Nat} (ho : OS e E h v xs fp) : ∃ A n c, v = .slice A n c := by
  rcases ho with ⟨rfl, _⟩ | ⟨b, c, cur, fps, rfl, r⟩
  · exact ⟨_, _, _, rfl⟩
  · exact ⟨_, _, _, r.val⟩
theorem bC3 {v w : Value} (hv : ∃ A n c, v = .slice A n c) (hw : ∃ A n c, w = .slice A n c) (p : Int) : buildV TT 31 [(0, .int .i64 p), (1, v), (2, w)] = some (.agg #[.int .i64 p, v, w]) := by
  obtain ⟨A, n, c, rfl⟩ := hv
  obtain ⟨A', n', c', rfl⟩ := hw
  kernel_rfl
def zblk (D : List Int) (k : Nat) : M3 := (List.range k).map fun j => List.replicate (D.getD (j + 1) 0).toNat (List.replicate (D.getD j 0).toNat 0)
theorem zblk_step (D : List Int) (k : Nat) : zblk D k ++ [List.replicate (D.getD (k + 1) 0).toNat (List.replicate (D.getD k 0).toNat 0)] = zblk D (k + 1) := by simp [zblk, List.range_succ]
theorem zblk_len (D : List Int) (k : Nat) : (zblk D k).length = k := by simp [zblk]
theorem getD_map_range {α : Type} [Inhabited α] (f : Nat → α) {n k : Nat} (h : k < n) : ((List.range n).map f).getD k default = f k := by
  rw [List.getD_eq_getElem?_getD, List.getElem?_eq_getElem (by simpa using h)]; simp
theorem getD_repl {α : Type} {x d : α} {n k : Nat} (h : k < n) : (List.replicate n x).getD k d = x := by
  rw [List.getD_eq_getElem?_getD, List.getElem?_eq_getElem (by simpa using h)]; simp
theorem zblk_sh (D : List Int) (n : Nat) : Sh n (fun k => (D.getD (k + 1) 0).toNat) (fun k => (D.getD k 0).toNat) (zblk D n) := by
  refine ⟨zblk_len D n, fun k hk => ?_, fun k r hk hr => ?_⟩
  · rw [zblk, getD_map_range _ hk, List.length_replicate]
  · rw [zblk, getD_map_range _ hk, getD_repl hr, List.length_replicate]
theorem zblk_get (D : List Int) (n : Nat) {k r c : Nat} (hk : k < n) (hr : r < (D.getD (k + 1) 0).toNat) (hc : c < (D.getD k 0).toNat) : get3 (zblk D n) k r c = 0 := by
  rw [get3, zblk, getD_map_range _ hk, getD_repl hr, getD_repl hc]
theorem D_at {D : List Int} (h : D.all (fun x => in3 x 0 8) = true) {k : Nat} (hk : k < D.length) : 0 ≤ D.getD k 0 ∧ D.getD k 0 ≤ 8 := in3_iff.1 (all_at (d := 0) h hk)

set_option maxRecDepth 100000 in
theorem blank_ok (p : Int) (v : Value) (D : List Int) (h : Heap) (rD : R1 h v D) (hD : D.all (fun x => in3 x 0 8) = true) (hl : D.length ≤ 16) : CallA Try.prog 83 #[.int .i64 p, v] h fun v' h' => ∃ w fp, v' = .agg #[.int .i64 p, v, w] ∧ O3 h' w (zblk D (D.length - 1)) fp ∧ Fresh h.size fp ∧ Ext h h' := by
  have hle := RdS.le rD
  refine callA_intro TTok (args := [_, _]) Try.func83 (by kernel_rfl) rfl 41 rfl (by simp) [.cell 4 31] rfl ?_
  simp only [idxs, Nat.reduceAdd]
  refine den_seq ?_
  refine den_region TTok ?_
  intro K hK
  simp -implicitDefEqProofs (disch := first | decide | assumption | omega) only [go_sem, RdS.len rD sl22, RdS.idx rD sl22, R1.intB rD (HPres.refl _), RdS.cells rD, wrap_id, Int.add_sub_cancel, bCx rD]
  refine op_alloc (cs := #[.int .i64 0, .slice none 0 0, .slice none 0 0]) (by kernel_rfl) ?_
  intro h0_0 e0_0 hb0_0 z0_0
  have := Ext.size e0_0
  have eB := e0_0
  have hfhb0_0 : Fresh h.size [h.size] := Fresh.one _
  have hlhb0_0 := one_lt (show h.size < h0_0.size by omega)
  try simp -implicitDefEqProofs (disch := first | decide | assumption | omega) only [go_sem, RdS.len rD sl22, RdS.idx rD sl22, R1.intB rD (Ext.pres eB), RdS.cells rD, BoxAt.cell hb0_0, wrap_id, Int.add_sub_cancel, bCx rD]
  refine hK _ _ ?_
  clear hK K
  refine den_seq ?_
  refine den_region TTok ?_
  intro K hK
  simp -implicitDefEqProofs (disch := first | decide | assumption | omega) only [go_sem, RdS.len rD sl22, RdS.idx rD sl22, R1.intB rD (Ext.pres eB), RdS.cells rD, BoxAt.cell hb0_0, wrap_id, Int.add_sub_cancel, bCx rD]
  refine op_alloc (cs := #[.int .i64 0, .slice none 0 0, .slice none 0 0]) (by kernel_rfl) ?_
  intro h1_3 e1_3 hb1_3 z1_3
  replace hb0_0 := BoxAt.ext hb0_0 e1_3
  have := Ext.size e1_3
  replace eB := Ext.trans eB e1_3
  have hfhb1_3 : Fresh h0_0.size [h0_0.size] := Fresh.one _
  have hlhb1_3 := one_lt (show h0_0.size < h1_3.size by omega)
  try simp -implicitDefEqProofs (disch := first | decide | assumption | omega) only [go_sem, RdS.len rD sl22, RdS.idx rD sl22, R1.intB rD (Ext.pres eB), RdS.cells rD, BoxAt.cell hb0_0, BoxAt.cell hb1_3, wrap_id, Int.add_sub_cancel, bCx rD]
  refine op_storeB (cs' := #[.int .i64 (p), v, .slice none 0 0]) st31 hb1_3 rfl rfl rfl (by simp) (allOne_mem (l := [.int .i64 (p), v, .slice none 0 0]) ⟨rfl, (RdS.one rD), rfl, trivial⟩) rfl ?_
  intro h1_4 hb1_3 c1_4
  replace hb0_0 := BoxAt.chgA hb0_0 c1_4 (apart_lt hlhb0_0 hfhb1_3 (by omega))
  have := c1_4.size
  replace eB := Ext.then eB c1_4 (ge_of hfhb1_3 (by omega))
  try simp -implicitDefEqProofs (disch := first | decide | assumption | omega) only [go_sem, RdS.len rD sl22, RdS.idx rD sl22, R1.intB rD (Ext.pres eB), RdS.cells rD, BoxAt.cell hb0_0, BoxAt.cell hb1_3, wrap_id, Int.add_sub_cancel, bCx rD]
  refine hK _ _ ?_
  clear hK K
  refine den_seq ?_
  refine den_seq ?_
  refine den_region TTok ?_
  intro K hK
  simp -implicitDefEqProofs (disch := first | decide | assumption | omega) only [go_sem, RdS.len rD sl22, RdS.idx rD sl22, R1.intB rD (Ext.pres eB), RdS.cells rD, BoxAt.cell hb0_0, BoxAt.cell hb1_3, wrap_id, Int.add_sub_cancel, bCx rD]
  refine hK _ _ ?_
  clear hK K
  refine den_block ?_
  have hnil1 : O3 h1_4 (.slice none 0 0) [] [] := OS.nil
  have hfhnil1 : Fresh h1_4.size [] := Fresh.nil _
  have hlhnil1 := OS.lt hnil1
  refine den_sel [6, 1, 4, 5] ?_
  intro env_2
  simp only [go_sem]
  refine den_loopS (σ := Nat × Value × List Nat) (fun st_ => [(6, .int .i64 ((st_.1 : Int) + 1))]) (fun st_ H => (st_.1 = 0 ∨ st_.1 + 1 ≤ D.length) ∧ (O3 H st_.2.1 (zblk D st_.1) st_.2.2) ∧ (Fresh (h1_4.size) st_.2.2) ∧ (Sub (([] : List Nat) ++ ([h0_0.size])) h1_4.size st_.2.2) ∧ (BoxAt H (h0_0.size) #[.int .i64 (p), v, st_.2.1] 31) ∧ (Apart st_.2.2 [h0_0.size]) ∧ (Chg (([] : List Nat) ++ ([h0_0.size])) h1_4 H)) (fun st_ => D.length - st_.1) (0, .slice none 0 0, ([] : List Nat)) ?_ ?_
  · exact ⟨Or.inl rfl, by exact hnil1, hfhnil1, (Sub.left Sub.refl), by simpa using hb1_3, (apart_gt hfhnil1 hlhb1_3 (by omega)), Chg.refl _ _⟩
  · rintro ⟨k, vhO, fphO⟩ h5 ee4 ⟨hi0, hO, hfhO, sbhO, hbx5, ap_hO_hbx5, cL3⟩
    dsimp only at hi0 hO hfhO sbhO hbx5 ap_hO_hbx5 cL3
    replace hb0_0 := BoxAt.chgA hb0_0 cL3 (Apart.app (apart_lt hlhb0_0 hfhnil1 (by omega)) (apart_lt hlhb0_0 hfhb1_3 (by omega)))
    have := cL3.size
    replace eB := Ext.then eB cL3 (ge_app (ge_of hfhnil1 (by omega)) (ge_of hfhb1_3 (by omega)))
    have hlhO := OS.lt hO
    have hfhbx5 := hfhb1_3
    have hlhbx5 := hlhb1_3
    simp only [List.cons_append, List.nil_append]
    have hzl := zblk_len D k
    refine den_seq ?_
    refine den_seq ?_
    refine den_region TTok ?_
    intro K hK
    simp -implicitDefEqProofs (disch := first | decide | assumption | omega) only [go_sem, RdS.len rD sl22, RdS.idx rD sl22, R1.intB rD (Ext.pres eB), RdS.cells rD, RdS.len (OS.rd hO) sl23, RdS.idx (OS.rd hO) sl23, RdS.cellN (OS.rd hO), RdS.cells (OS.rd hO), BoxAt.cell hb0_0, BoxAt.cell hbx5, wrap_id, Int.add_sub_cancel, bCx rD]
    try simp -implicitDefEqProofs (disch := first | decide | assumption | omega) only [go_sem, RdS.len rD sl22, RdS.idx rD sl22, R1.intB rD (Ext.pres eB), RdS.cells rD, RdS.len (OS.rd hO) sl23, RdS.idx (OS.rd hO) sl23, RdS.cellN (OS.rd hO), RdS.cells (OS.rd hO), BoxAt.cell hb0_0, BoxAt.cell hbx5, wrap_id, Int.add_sub_cancel, bCx rD]
    refine CallA.pure (size1_ok _ _ _ (RdS.pres rD (Ext.pres eB))) ?_
    try simp -implicitDefEqProofs (disch := first | decide | assumption | omega) only [go_sem, RdS.len rD sl22, RdS.idx rD sl22, R1.intB rD (Ext.pres eB), RdS.cells rD, RdS.len (OS.rd hO) sl23, RdS.idx (OS.rd hO) sl23, RdS.cellN (OS.rd hO), RdS.cells (OS.rd hO), BoxAt.cell hb0_0, BoxAt.cell hbx5, wrap_id, Int.add_sub_cancel, bCx rD]
    refine hK _ _ ?_
    clear hK K
    refine den_cond rfl (fun c0 => ?_) (fun c0 => ?_)
    · try simp only [decide_eq_true_eq, decide_eq_false_iff_not, beq_iff_eq, beq_eq_false_iff_ne, bne_iff_ne, ne_eq, Bool.not_eq_true', Bool.not_eq_false', Bool.and_eq_true, Bool.or_eq_true, bne_eq_false_iff_eq] at c0
      refine den_skip ?_
      refine den_seq ?_
      refine den_block ?_
      refine den_seq ?_
      have ek : ((k : Int) + 1).toNat = k + 1 := by omega
      refine den_region TTok ?_
      intro K hK
      simp -implicitDefEqProofs (disch := first | decide | assumption | omega) only [go_sem, RdS.len rD sl22, RdS.idx rD sl22, R1.intB rD (Ext.pres eB), RdS.cells rD, RdS.len (OS.rd hO) sl23, RdS.idx (OS.rd hO) sl23, RdS.cellN (OS.rd hO), RdS.cells (OS.rd hO), BoxAt.cell hb0_0, BoxAt.cell hbx5, wrap_id, Int.add_sub_cancel, bCx rD]
      refine op_bs0 sz26 O1 ?_
      intro v5_0 h5_0 ho5_0 e5_0
      replace hO := OS.ext hO e5_0
      replace hb0_0 := BoxAt.ext hb0_0 e5_0
      replace hbx5 := BoxAt.ext hbx5 e5_0
      have := Ext.size e5_0
      replace eB := Ext.trans eB e5_0
      replace cL3 := Chg.stepE cL3 e5_0
      have hfho5_0 : Fresh h5.size [h5.size] := Fresh.one _
      have hlho5_0 := OS.lt ho5_0
      try simp -implicitDefEqProofs (disch := first | decide | assumption | omega) only [go_sem, RdS.len rD sl22, RdS.idx rD sl22, R1.intB rD (Ext.pres eB), RdS.cells rD, RdS.len (OS.rd hO) sl23, RdS.idx (OS.rd hO) sl23, RdS.cellN (OS.rd hO), RdS.cells (OS.rd hO), RdS.len (OS.rd ho5_0) sl26, RdS.idx (OS.rd ho5_0) sl26, RdS.cellN (OS.rd ho5_0), RdS.cells (OS.rd ho5_0), BoxAt.cell hb0_0, BoxAt.cell hbx5, wrap_id, Int.add_sub_cancel, bCx rD]
      refine hK _ _ ?_
      clear hK K
      refine den_seq ?_
      refine den_seq ?_
      have hd2 := D_at hD (k := ((k : Int) + 1).toNat) (by omega)
      refine den_region TTok ?_
      intro K hK
      simp -implicitDefEqProofs (disch := first | decide | assumption | omega) only [go_sem, ld2, RdS.len rD sl22, RdS.idx rD sl22, R1.intB rD (Ext.pres eB), RdS.cells rD, RdS.len (OS.rd hO) sl23, RdS.idx (OS.rd hO) sl23, RdS.cellN (OS.rd hO), RdS.cells (OS.rd hO), RdS.len (OS.rd ho5_0) sl26, RdS.idx (OS.rd ho5_0) sl26, RdS.cellN (OS.rd ho5_0), RdS.cells (OS.rd ho5_0), BoxAt.cell hb0_0, BoxAt.cell hbx5, wrap_id, Int.add_sub_cancel, bCx rD]
      refine hK _ _ ?_
      clear hK K
      refine den_block ?_
      refine den_sel [7, 22, 1, 4, 5, 6, 21] ?_
      intro env_6
      simp only [go_sem]
      refine den_loopS (σ := Nat × Value × List Nat) (fun st_ => [(7, st_.2.1), (22, .int .i64 (st_.1 : Int))]) (fun st_ H => ((st_.1 : Int) ≤ D.getD ((k : Int) + 1).toNat 0) ∧ (O2 H st_.2.1 (List.replicate st_.1 (List.replicate (D.getD k 0).toNat 0)) st_.2.2) ∧ (Fresh (h5.size) st_.2.2) ∧ (Sub [h5.size] h5_0.size st_.2.2) ∧ (Chg [h5.size] h5_0 H)) (fun st_ => (D.getD ((k : Int) + 1).toNat 0).toNat - st_.1) (0, v5_0, [h5.size]) ?_ ?_
      · exact ⟨by first | (simp; done) | (dsimp only; omega) | (simp; omega), by simpa using ho5_0, hfho5_0, Sub.refl, Chg.refl _ _⟩
      · rintro ⟨m, vhR, fphR⟩ h9 ee8 ⟨hi0, hR, hfhR, sbhR, cL7⟩
        dsimp only at hi0 hR hfhR sbhR cL7
        replace hO := OS.chg hO cL7 (apart_lt hlhO hfho5_0 (by omega))
        replace hb0_0 := BoxAt.chgA hb0_0 cL7 (apart_lt hlhb0_0 hfho5_0 (by omega))
        replace hbx5 := BoxAt.chgA hbx5 cL7 (apart_lt hlhbx5 hfho5_0 (by omega))
        have := cL7.size
        replace eB := Ext.then eB cL7 (ge_of hfho5_0 (by omega))
        replace cL3 := Chg.step cL3 cL7 (Sub.fresh hfho5_0 (by omega))
        have hlhR := OS.lt hR
        simp only [List.cons_append, List.nil_append]
        have hlr : (List.replicate m (List.replicate (D.getD k (0 : Int)).toNat (0 : Int))).length = m := List.length_replicate
        refine den_seq ?_
        refine den_region TTok ?_
        intro K hK
        simp -implicitDefEqProofs (disch := first | decide | assumption | omega) only [go_sem, RdS.len rD sl22, RdS.idx rD sl22, R1.intB rD (Ext.pres eB), RdS.cells rD, RdS.len (OS.rd hO) sl23, RdS.idx (OS.rd hO) sl23, RdS.cellN (OS.rd hO), RdS.cells (OS.rd hO), RdS.len (OS.rd hR) sl26, RdS.idx (OS.rd hR) sl26, RdS.cellN (OS.rd hR), RdS.cells (OS.rd hR), BoxAt.cell hb0_0, BoxAt.cell hbx5, wrap_id, Int.add_sub_cancel, bCx rD]
        refine hK _ _ ?_
        clear hK K
        refine den_seq ?_
        refine den_cond rfl (fun c1 => ?_) (fun c1 => ?_)
        · try simp only [decide_eq_true_eq, decide_eq_false_iff_not, beq_iff_eq, beq_eq_false_iff_ne, bne_iff_ne, ne_eq, Bool.not_eq_true', Bool.not_eq_false', Bool.and_eq_true, Bool.or_eq_true, bne_eq_false_iff_eq] at c1
          refine den_skip ?_
          refine den_seq ?_
          refine den_block ?_
          have hd1 := D_at hD (k := k) (by omega)
          refine den_region TTok ?_
          intro K hK
          simp -implicitDefEqProofs (disch := first | decide | assumption | omega) only [go_sem, ld2, RdS.len rD sl22, RdS.idx rD sl22, R1.intB rD (Ext.pres eB), RdS.cells rD, RdS.len (OS.rd hO) sl23, RdS.idx (OS.rd hO) sl23, RdS.cellN (OS.rd hO), RdS.cells (OS.rd hO), RdS.len (OS.rd hR) sl26, RdS.idx (OS.rd hR) sl26, RdS.cellN (OS.rd hR), RdS.cells (OS.rd hR), BoxAt.cell hb0_0, BoxAt.cell hbx5, wrap_id, Int.add_sub_cancel, bCx rD]
          refine op_make sz22 rfl rfl (by omega) (by omega) OI 0 (fun _ => ⟨rfl, rfl⟩) ?_
          intro v8_6 h8_6 ho8_6 e8_6
          replace hO := OS.ext hO e8_6
          replace hR := OS.ext hR e8_6
          replace hb0_0 := BoxAt.ext hb0_0 e8_6
          replace hbx5 := BoxAt.ext hbx5 e8_6
          have := Ext.size e8_6
          replace eB := Ext.trans eB e8_6
          replace cL3 := Chg.stepE cL3 e8_6
          replace cL7 := Chg.stepE cL7 e8_6
          have hfho8_6 : Fresh h9.size [h9.size] := Fresh.one _
          have hlenho8_6 : (List.replicate (((D).getD k 0)).toNat (0 : Int)).length = (((D).getD k 0)).toNat := List.length_replicate
          have hlho8_6 := OS.lt ho8_6
          try simp -implicitDefEqProofs (disch := first | decide | assumption | omega) only [go_sem, RdS.len rD sl22, RdS.idx rD sl22, R1.intB rD (Ext.pres eB), RdS.cells rD, RdS.len (OS.rd hO) sl23, RdS.idx (OS.rd hO) sl23, RdS.cellN (OS.rd hO), RdS.cells (OS.rd hO), RdS.len (OS.rd hR) sl26, RdS.idx (OS.rd hR) sl26, RdS.cellN (OS.rd hR), RdS.cells (OS.rd hR), RdS.len (OS.rd ho8_6) sl22, RdS.idx (OS.rd ho8_6) sl22, R1.intN (OS.rd ho8_6), RdS.cells (OS.rd ho8_6), BoxAt.cell hb0_0, BoxAt.cell hbx5, wrap_id, Int.add_sub_cancel, bCx rD]
          refine op_bs1 sz26 rfl (OS.one ho8_6).2 ?_
          try simp -implicitDefEqProofs (disch := first | decide | assumption | omega) only [go_sem, RdS.len rD sl22, RdS.idx rD sl22, R1.intB rD (Ext.pres eB), RdS.cells rD, RdS.len (OS.rd hO) sl23, RdS.idx (OS.rd hO) sl23, RdS.cellN (OS.rd hO), RdS.cells (OS.rd hO), RdS.len (OS.rd hR) sl26, RdS.idx (OS.rd hR) sl26, RdS.cellN (OS.rd hR), RdS.cells (OS.rd hR), RdS.len (OS.rd ho8_6) sl22, RdS.idx (OS.rd ho8_6) sl22, R1.intN (OS.rd ho8_6), RdS.cells (OS.rd ho8_6), BoxAt.cell hb0_0, BoxAt.cell hbx5, wrap_id, Int.add_sub_cancel, bCx rD]
          refine op_append1 sz26 hR hfhR.nodup ho8_6 hfho8_6.nodup (apart_lt hlhR hfho8_6 (by omega)) (by first | omega | (simp; omega)) rfl rfl ?_
          intro v8_8 h8_8 fp8_8 ho8_8 hn8_8 hs8_8 c8_8
          have hsz8_8 := c8_8.size
          have hfho8_8 : Fresh h5.size fp8_8 := Fresh.appd hfhR hfho8_6 (by omega) (by omega) hn8_8 hs8_8
          have sb10 : Sub [h5.size] h5_0.size fp8_8 := Sub.grow sbhR (Sub.fresh hfho8_6 (by omega)) (by omega) hs8_8
          replace hO := OS.chg hO c8_8 (apart_lt hlhO hfhR (by omega))
          replace hb0_0 := BoxAt.chgA hb0_0 c8_8 (apart_lt hlhb0_0 hfhR (by omega))
          replace hbx5 := BoxAt.chgA hbx5 c8_8 (apart_lt hlhbx5 hfhR (by omega))
          have := c8_8.size
          replace eB := Ext.then eB c8_8 (ge_of hfhR (by omega))
          replace cL3 := Chg.step cL3 c8_8 (Sub.fresh hfhR (by omega))
          replace cL7 := Chg.step cL7 c8_8 sbhR
          have hlho8_8 := OS.lt ho8_8
          try simp -implicitDefEqProofs (disch := first | decide | assumption | omega) only [go_sem, RdS.len rD sl22, RdS.idx rD sl22, R1.intB rD (Ext.pres eB), RdS.cells rD, RdS.len (OS.rd hO) sl23, RdS.idx (OS.rd hO) sl23, RdS.cellN (OS.rd hO), RdS.cells (OS.rd hO), RdS.len (OS.rd ho8_8) sl26, RdS.idx (OS.rd ho8_8) sl26, RdS.cellN (OS.rd ho8_8), RdS.cells (OS.rd ho8_8), BoxAt.cell hb0_0, BoxAt.cell hbx5, wrap_id, Int.add_sub_cancel, bCx rD]
          refine hK _ _ ?_
          clear hK K
          refine den_blk ?_
          refine den_region TTok ?_
          intro K hK
          simp -implicitDefEqProofs (disch := first | decide | assumption | omega) only [go_sem, RdS.len rD sl22, RdS.idx rD sl22, R1.intB rD (Ext.pres eB), RdS.cells rD, RdS.len (OS.rd hO) sl23, RdS.idx (OS.rd hO) sl23, RdS.cellN (OS.rd hO), RdS.cells (OS.rd hO), RdS.len (OS.rd ho8_8) sl26, RdS.idx (OS.rd ho8_8) sl26, RdS.cellN (OS.rd ho8_8), RdS.cells (OS.rd ho8_8), BoxAt.cell hb0_0, BoxAt.cell hbx5, wrap_id, Int.add_sub_cancel, bCx rD]
          refine hK _ _ ?_
          clear hK K
          refine den_stop ?_
          rw [← List.replicate_succ'] at ho8_8
          exact ⟨(m + 1, v8_8, fp8_8), by simp [HasL, puts_at], ⟨by first | omega | (dsimp only; omega), ho8_8, hfho8_8, sb10, cL7⟩, by first | omega | (dsimp only; omega)⟩
        · try simp only [decide_eq_true_eq, decide_eq_false_iff_not, beq_iff_eq, beq_eq_false_iff_ne, bne_iff_ne, ne_eq, Bool.not_eq_true', Bool.not_eq_false', Bool.and_eq_true, Bool.or_eq_true, bne_eq_false_iff_eq] at c1
          refine den_exit ?_
          refine denX_code ?_
          refine denX_stop ?_
          refine denX_hit ?_
          refine den_region TTok ?_
          intro K hK
          simp -implicitDefEqProofs (disch := first | decide | assumption | omega) only [go_sem, fa31_2, ld23, RdS.len rD sl22, RdS.idx rD sl22, R1.intB rD (Ext.pres eB), RdS.cells rD, RdS.len (OS.rd hO) sl23, RdS.idx (OS.rd hO) sl23, RdS.cellN (OS.rd hO), RdS.cells (OS.rd hO), RdS.len (OS.rd hR) sl26, RdS.idx (OS.rd hR) sl26, RdS.cellN (OS.rd hR), RdS.cells (OS.rd hR), BoxAt.cell hb0_0, BoxAt.cell hbx5, wrap_id, Int.add_sub_cancel, bCx rD]
          refine op_bs1 sz23 rfl (OS.one hR).2 ?_
          try simp -implicitDefEqProofs (disch := first | decide | assumption | omega) only [go_sem, RdS.len rD sl22, RdS.idx rD sl22, R1.intB rD (Ext.pres eB), RdS.cells rD, RdS.len (OS.rd hO) sl23, RdS.idx (OS.rd hO) sl23, RdS.cellN (OS.rd hO), RdS.cells (OS.rd hO), RdS.len (OS.rd hR) sl26, RdS.idx (OS.rd hR) sl26, RdS.cellN (OS.rd hR), RdS.cells (OS.rd hR), BoxAt.cell hb0_0, BoxAt.cell hbx5, wrap_id, Int.add_sub_cancel, bCx rD]
          refine op_append1 sz23 hO hfhO.nodup hR hfhR.nodup (apart_lt hlhO hfhR (by omega)) (by first | omega | (simp; omega)) rfl rfl ?_
          intro v10_4 h10_4 fp10_4 ho10_4 hn10_4 hs10_4 c10_4
          have hsz10_4 := c10_4.size
          have hfho10_4 : Fresh h1_4.size fp10_4 := Fresh.appd hfhO hfhR (by omega) (by omega) hn10_4 hs10_4
          have sb11 : Sub (([] : List Nat) ++ ([h0_0.size])) h1_4.size fp10_4 := Sub.grow sbhO (Sub.fresh hfhR (by omega)) (by omega) hs10_4
          replace hb0_0 := BoxAt.chgA hb0_0 c10_4 (apart_lt hlhb0_0 hfhO (by omega))
          replace hbx5 := BoxAt.chgA hbx5 c10_4 (Apart.symm ap_hO_hbx5)
          have := c10_4.size
          replace eB := Ext.then eB c10_4 (ge_of hfhO (by omega))
          replace cL3 := Chg.step cL3 c10_4 sbhO
          have ap12 : Apart [h0_0.size] fp10_4 := Apart.grow hlhbx5 (by omega) (Apart.symm ap_hO_hbx5) (apart_lt hlhbx5 hfhR (by omega)) hs10_4
          have hlho10_4 := OS.lt ho10_4
          try simp -implicitDefEqProofs (disch := first | decide | assumption | omega) only [go_sem, fa31_2, RdS.len rD sl22, RdS.idx rD sl22, R1.intB rD (Ext.pres eB), RdS.cells rD, RdS.len (OS.rd ho10_4) sl23, RdS.idx (OS.rd ho10_4) sl23, RdS.cellN (OS.rd ho10_4), RdS.cells (OS.rd ho10_4), BoxAt.cell hb0_0, BoxAt.cell hbx5, wrap_id, Int.add_sub_cancel, bCx rD]
          refine op_storeB (cs' := #[.int .i64 (p), v, v10_4]) st23 hbx5 rfl (OS.one ho10_4).2 rfl (by simp) (allOne_mem (l := [v10_4]) ⟨(OS.one ho10_4).1, trivial⟩) rfl ?_
          intro h10_6 hbx5 c10_6
          replace ho10_4 := OS.chg ho10_4 c10_6 (Apart.symm ap12)
          replace hb0_0 := BoxAt.chgA hb0_0 c10_6 (apart_lt hlhb0_0 hfhbx5 (by omega))
          have := c10_6.size
          replace eB := Ext.then eB c10_6 (ge_of hfhbx5 (by omega))
          replace cL3 := Chg.step cL3 c10_6 (Sub.right Sub.refl)
          try simp -implicitDefEqProofs (disch := first | decide | assumption | omega) only [go_sem, RdS.len rD sl22, RdS.idx rD sl22, R1.intB rD (Ext.pres eB), RdS.cells rD, RdS.len (OS.rd ho10_4) sl23, RdS.idx (OS.rd ho10_4) sl23, RdS.cellN (OS.rd ho10_4), RdS.cells (OS.rd ho10_4), BoxAt.cell hb0_0, BoxAt.cell hbx5, wrap_id, Int.add_sub_cancel, bCx rD]
          refine hK _ _ ?_
          clear hK K
          refine den_blk ?_
          refine den_region TTok ?_
          intro K hK
          simp -implicitDefEqProofs (disch := first | decide | assumption | omega) only [go_sem, RdS.len rD sl22, RdS.idx rD sl22, R1.intB rD (Ext.pres eB), RdS.cells rD, RdS.len (OS.rd ho10_4) sl23, RdS.idx (OS.rd ho10_4) sl23, RdS.cellN (OS.rd ho10_4), RdS.cells (OS.rd ho10_4), BoxAt.cell hb0_0, BoxAt.cell hbx5, wrap_id, Int.add_sub_cancel, bCx rD]
          refine hK _ _ ?_
          clear hK K
          refine den_stop ?_
          have em : m = (D.getD (k + 1) 0).toNat := by rw [ek] at hd2 hi0 c1; omega
          rw [em, zblk_step] at ho10_4
          exact ⟨(k + 1, v10_4, fp10_4), by simp [HasL, puts_at], ⟨by first | omega | (dsimp only; omega), ho10_4, hfho10_4, sb11, hbx5, (Apart.symm ap12), cL3⟩, by first | omega | (dsimp only; omega)⟩
    · try simp only [decide_eq_true_eq, decide_eq_false_iff_not, beq_iff_eq, beq_eq_false_iff_ne, bne_iff_ne, ne_eq, Bool.not_eq_true', Bool.not_eq_false', Bool.and_eq_true, Bool.or_eq_true, bne_eq_false_iff_eq] at c0
      refine den_exit ?_
      refine denX_code ?_
      refine denX_stop ?_
      refine denX_hit ?_
      refine den_seq ?_
      refine den_region TTok ?_
      intro K hK
      simp -implicitDefEqProofs (disch := first | decide | assumption | omega) only [go_sem, ld31, RdS.len rD sl22, RdS.idx rD sl22, R1.intB rD (Ext.pres eB), RdS.cells rD, RdS.len (OS.rd hO) sl23, RdS.idx (OS.rd hO) sl23, RdS.cellN (OS.rd hO), RdS.cells (OS.rd hO), BoxAt.cell hb0_0, BoxAt.cell hbx5, wrap_id, Int.add_sub_cancel, bCx rD]
      refine op_storeB (cs' := #[.int .i64 (p), v, vhO]) st31 hb0_0 rfl rfl rfl (by simp) (allOne_mem (l := [.int .i64 (p), v, vhO]) ⟨rfl, (RdS.one rD), (OS.one hO).1, trivial⟩) rfl ?_
      intro h11_1 hb0_0 c11_1
      replace hO := OS.chg hO c11_1 (apart_gt hfhO hlhb0_0 (by omega))
      replace hbx5 := BoxAt.chgA hbx5 c11_1 (apart_gt hfhbx5 hlhb0_0 (by omega))
      have := c11_1.size
      replace eB := Ext.then eB c11_1 (ge_of hfhb0_0 (by omega))
      try simp -implicitDefEqProofs (disch := first | decide | assumption | omega) only [go_sem, RdS.len rD sl22, RdS.idx rD sl22, R1.intB rD (Ext.pres eB), RdS.cells rD, RdS.len (OS.rd hO) sl23, RdS.idx (OS.rd hO) sl23, RdS.cellN (OS.rd hO), RdS.cells (OS.rd hO), BoxAt.cell hb0_0, BoxAt.cell hbx5, wrap_id, Int.add_sub_cancel, bCx rD]
      refine hK _ _ ?_
      clear hK K
      refine den_ret ?_
      simp -implicitDefEqProofs (disch := first | decide | assumption | omega) only [go_sem, RdS.len rD sl22, RdS.idx rD sl22, R1.intB rD (Ext.pres eB), RdS.cells rD, RdS.len (OS.rd hO) sl23, RdS.idx (OS.rd hO) sl23, RdS.cellN (OS.rd hO), RdS.cells (OS.rd hO), BoxAt.cell hb0_0, BoxAt.cell hbx5, wrap_id, Int.add_sub_cancel, bCx rD, resP_c1, ld31]
      have e : D.length - 1 = k := by omega
      rw [e]
      exact ⟨_, _, rfl, hO, hfhO.mono (by omega), eB⟩

def revAt (xs : List Int) (i q : Nat) : Int := if q < i ∨ xs.length - i ≤ q then xs.getD (xs.length - 1 - q) 0 else xs.getD q 0
def revP (xs : List Int) (i : Nat) : List Int := (List.range xs.length).map (revAt xs i)
theorem revP_len (xs : List Int) (i : Nat) : (revP xs i).length = xs.length := by simp [revP]
theorem revP_get (xs : List Int) (i : Nat) {q : Nat} (h : q < xs.length) : (revP xs i).getD q 0 = revAt xs i q := by
  rw [revP, List.getD_eq_getElem?_getD, List.getElem?_eq_getElem (by simpa using h)]; simp
theorem revP_zero (xs : List Int) : revP xs 0 = xs := by
  refine getD_extA (by rw [revP_len]) (fun q hq => ?_)
  rw [revP_len] at hq
  rw [revP_get xs 0 hq, revAt, if_neg (by omega)]
theorem getD_rev (xs : List Int) {q : Nat} (h : q < xs.length) : xs.reverse.getD q 0 = xs.getD (xs.length - 1 - q) 0 := by
  rw [List.getD_eq_getElem?_getD, List.getD_eq_getElem?_getD, List.getElem?_reverse h]
theorem revP_end {xs : List Int} {i : Nat} (h : xs.length ≤ 2 * i + 1) : revP xs i = xs.reverse := by
  refine getD_extA (by rw [revP_len, List.length_reverse]) (fun q hq => ?_)
  rw [revP_len] at hq
  rw [revP_get xs i hq, getD_rev xs hq, revAt]
  split
  · rfl
  · rename_i hn
    congr 1; omega
theorem revP_step {xs : List Int} {i : Nat} (h : 2 * i + 1 < xs.length) : ((revP xs i).set i ((revP xs i).getD (xs.length - 1 - i) 0)).set (xs.length - 1 - i) ((revP xs i).getD i 0) = revP xs (i + 1) := by
  have hl := revP_len xs i
  refine getD_extA (by rw [List.length_set, List.length_set, revP_len, revP_len]) (fun q hq => ?_)
  rw [List.length_set, List.length_set, hl] at hq
  rw [getD_set (by rw [List.length_set, hl]; omega), getD_set (by rw [hl]; omega), revP_get xs (i + 1) hq, revP_get xs i hq, revP_get xs i (q := i) (by omega), revP_get xs i (q := xs.length - 1 - i) (by omega)]
  simp only [revAt]
  by_cases h1 : xs.length - 1 - i = q
  · subst h1
    rw [if_pos rfl, if_neg (by omega), if_pos (by omega)]
    congr 1; omega
  · rw [if_neg h1]
    by_cases h2 : i = q
    · subst h2
      rw [if_pos rfl, if_neg (by omega), if_pos (by omega)]
    · rw [if_neg h2]
      by_cases h3 : q < i ∨ xs.length - i ≤ q
      · rw [if_pos h3, if_pos (by omega)]
      · rw [if_neg h3, if_neg (by omega)]

end Go.Proofs.Ytjjjgllbocgkbaa
