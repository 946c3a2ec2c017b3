/-
  Walks: DualComplex.
  Conditions: each theorem's own.
-/
import Derived.Test.YtkkjhomhndpphaaC4
import Derived.Test.YtkkjhomhndpphaaC3
set_option linter.unusedVariables false
set_option linter.unusedSimpArgs false
namespace Go.Proofs.Ytkkjhomhndpphaa
open Go
set_option maxRecDepth 100000 in
theorem dual1_ok (p : Int) (X : Cx) (vdX vmX vD vw : Value) (D : List Int) (M : M3) (f : List Nat) (n r c x : Int) (b5 b1 : Nat) (h0 h : Heap) (hdX : R1 h0 vdX X.dims) (hmX : R3 h0 vmX X.maps) (rD : R1 h vD D) (hom : O3 h vw M f) (eB : Ext h0 h) (hb5 : BoxAt h b5 #[.int .i64 p, vD, vw] 44) (hb1 : BoxAt h b1 #[.int .i64 X.p, vdX, vmX] 44) (hn : f.Nodup) (hp : 0 < p ∧ p ≤ 7) (hl : X.dims.length ≤ 6) (hn0 : 1 ≤ n ∧ n ≤ 6) (h1 : 1 ≤ (X.dims.length : Int) - 1 - n + 1 ∧ (X.dims.length : Int) - 1 - n + 1 ≤ M.length) (h2 : 0 ≤ c ∧ c < (M.getD ((X.dims.length : Int) - 1 - n + 1 - 1).toNat default).length) (h3 : 0 ≤ r ∧ r < ((M.getD ((X.dims.length : Int) - 1 - n + 1 - 1).toNat default).getD c.toNat default).length) (hc : 0 ≤ get3 M ((X.dims.length : Int) - 1 - n + 1 - 1).toNat c.toNat r.toNat ∧ get3 M ((X.dims.length : Int) - 1 - n + 1 - 1).toNat c.toNat r.toNat < p) (hx : -7 ≤ x ∧ x ≤ 7) : CallA Try.prog 128 #[.int .i64 n, .int .i64 r, .int .i64 c, .int .i64 x, .pointer (some ⟨b5, 0, none⟩), .pointer (some ⟨b1, 0, none⟩)] h fun v' h' => v' = .tuple #[] ∧ O3 h' vw (upd3 p M ((X.dims.length : Int) - 1 - n + 1 - 1).toNat c.toNat r.toNat x) f ∧ Chg f h h' := by
  have hlM := OS.lt hom
  refine callA_intro TTok (args := [_, _, _, _, _, _]) Try.func128 (by kernel_rfl) rfl 20 rfl (by simp) [] rfl ?_
  simp only [idxs, Nat.reduceAdd]
  refine den_draw TTok mixed [9] [(0, true), (1, true), (3, true), (6, true), (7, true), (8, true), (2, false), (4, true), (5, true), (9, false)] (by kernel_rfl) ?_
  intro K hK
  simp -implicitDefEqProofs (disch := first | decide | assumption | omega) only [go_sem, ld44, RdS.len hdX sl37, RdS.idx hdX sl37, R1.intB hdX (Ext.pres eB), RdS.cells hdX, RdS.len hmX sl38, RdS.idx hmX sl38, RdS.cellB hmX (Ext.pres eB), RdS.cells hmX, RdS.len (OS.rd hom) sl38, RdS.idx (OS.rd hom) sl38, RdS.cellN (OS.rd hom), RdS.cells (OS.rd hom), BoxAt.cell hb5, BoxAt.cell hb1, wrap_id]
  try simp -implicitDefEqProofs (disch := first | decide | assumption | omega) only [go_sem, RdS.len hdX sl37, RdS.idx hdX sl37, R1.intB hdX (Ext.pres eB), RdS.cells hdX, RdS.len hmX sl38, RdS.idx hmX sl38, RdS.cellB hmX (Ext.pres eB), RdS.cells hmX, RdS.len (OS.rd hom) sl38, RdS.idx (OS.rd hom) sl38, RdS.cellN (OS.rd hom), RdS.cells (OS.rd hom), BoxAt.cell hb5, BoxAt.cell hb1, wrap_id]
  refine CallA.mono (top_ok _ X _ ⟨_, _, rfl, (RdS.pres hdX (Ext.pres eB)), (RdS.pres hmX (Ext.pres eB))⟩) ?_
  intro v_ h0_2
  rintro ⟨rfl, e0_2⟩
  replace hom := OS.ext hom e0_2
  replace hb5 := BoxAt.ext hb5 e0_2
  replace hb1 := BoxAt.ext hb1 e0_2
  replace rD := RdS.pres rD (Ext.pres e0_2)
  have := Ext.size e0_2
  replace eB := Ext.trans eB e0_2
  try simp (disch := decide) only [outv_some, outv_none, put_puts]
  refine plK_pres (Ext.pres e0_2) ?_
  try simp -implicitDefEqProofs (disch := first | decide | assumption | omega) only [go_sem, RdS.len hdX sl37, RdS.idx hdX sl37, R1.intB hdX (Ext.pres eB), RdS.cells hdX, RdS.len hmX sl38, RdS.idx hmX sl38, RdS.cellB hmX (Ext.pres eB), RdS.cells hmX, RdS.len (OS.rd hom) sl38, RdS.idx (OS.rd hom) sl38, RdS.cellN (OS.rd hom), RdS.cells (OS.rd hom), BoxAt.cell hb5, BoxAt.cell hb1, wrap_id]
  try simp -implicitDefEqProofs (disch := first | decide | assumption | omega) only [go_sem, RdS.len hdX sl37, RdS.idx hdX sl37, R1.intB hdX (Ext.pres eB), RdS.cells hdX, RdS.len hmX sl38, RdS.idx hmX sl38, RdS.cellB hmX (Ext.pres eB), RdS.cells hmX, RdS.len (OS.rd hom) sl38, RdS.idx (OS.rd hom) sl38, RdS.cellN (OS.rd hom), RdS.cells (OS.rd hom), BoxAt.cell hb5, BoxAt.cell hb1, wrap_id]
  refine CallA.mono (addAt_ok p _ _ D M f _ c r x _ rD hom hn hp (by omega) h2 h3 hc hx) ?_
  intro v_ h0_9
  rintro ⟨rfl, hom2, c9⟩
  try simp (disch := decide) only [outv_some, outv_none, put_puts]
  refine plK_last (by decide) ?_
  try simp -implicitDefEqProofs (disch := first | decide | assumption | omega) only [go_sem, RdS.len hdX sl37, RdS.idx hdX sl37, R1.intB hdX (Ext.pres eB), RdS.cells hdX, RdS.len hmX sl38, RdS.idx hmX sl38, RdS.cellB hmX (Ext.pres eB), RdS.cells hmX, RdS.len (OS.rd hom) sl38, RdS.idx (OS.rd hom) sl38, RdS.cellN (OS.rd hom), RdS.cells (OS.rd hom), BoxAt.cell hb5, BoxAt.cell hb1, wrap_id]
  refine hK _ _ ?_
  clear hK K
  refine den_nil ?_
  simp (disch := decide) only [resP_0, puts_same, puts_ne]
  exact ⟨by first | rfl | trivial, hom2, (Ext.chg e0_2 _).trans c9⟩

def dualU (X : Cx) : UF := fun k i j v => [((X.dims.length - 1 - (k + 1), j, i), v)]
def flipRow (R : List (List Int)) (j : Nat) : List Int := (List.range R.length).map fun q : Nat => (R.getD q default).getD j 0
def flipP (R : List (List Int)) (w : Nat) : List (List Int) := (List.range w).map fun q : Nat => flipRow R q
def dualAt (X : Cx) (q : Nat) : List (List Int) := flipP (X.maps.getD ((X.dims.length : Int) - 1 - 1 - (q : Int)).toNat default) (X.dims.getD ((X.dims.length : Int) - 1 - 1 - (q : Int)).toNat 0).toNat
def dualM (X : Cx) : M3 := (List.range X.maps.length).map fun q : Nat => dualAt X q
def dualD (X : Cx) (n : Nat) : List Int := (List.range n).map fun q : Nat => X.dims.getD ((X.dims.length : Int) - 1 - (q : Int)).toNat 0
theorem dualD_all (X : Cx) : dualD X X.dims.length = X.dims.reverse := by
  refine getD_extA (by simp [dualD]) (fun q hq => ?_)
  have hq' : q < X.dims.length := by simpa [dualD] using hq
  rw [getD_rev _ hq', dualD, List.getD_eq_getElem?_getD, List.getElem?_eq_getElem (by simpa using hq')]
  simp only [List.getElem_map, List.getElem_range, Option.getD_some]
  congr 1; omega
noncomputable def dualP (X : Cx) : Cx × Int := if isC X = true then (⟨X.p, X.dims.reverse, dualM X⟩, 0) else (⟨0, [], []⟩, 1)
abbrev dA (X : Cx) : Nat → Nat := fun k => (X.dims.reverse.getD (k + 1) 0).toNat
abbrev dB (X : Cx) : Nat → Nat := fun k => (X.dims.reverse.getD k 0).toNat
/-- Where number j of row i of map k goes. -/
theorem dual_in {X : Cx} (hC : IsC X) {k i j : Nat} (hk : k < X.maps.length) (hi : i < (X.maps.getD k default).length) (hj : j < ((X.maps.getD k default).getD i default).length) : X.dims.length - 1 - (k + 1) < X.maps.length ∧ j < dA X (X.dims.length - 1 - (k + 1)) ∧ i < dB X (X.dims.length - 1 - (k + 1)) := by
  have hm := hC.ml
  have l := hC.lens hk
  have lj := l.2 i hi
  refine ⟨by omega, ?_, ?_⟩
  · show j < (X.dims.reverse.getD (X.dims.length - 1 - (k + 1) + 1) 0).toNat
    rw [getD_rev _ (by omega), show X.dims.length - 1 - (X.dims.length - 1 - (k + 1) + 1) = k by omega]; omega
  · show i < (X.dims.reverse.getD (X.dims.length - 1 - (k + 1)) 0).toNat
    rw [getD_rev _ (by omega), show X.dims.length - 1 - (X.dims.length - 1 - (k + 1)) = k + 1 by omega]; omega
theorem dual_inU {X : Cx} (hC : IsC X) : ∀ k i j, k < X.maps.length → i < (X.maps.getD k default).length → j < ((X.maps.getD k default).getD i default).length → ∀ u ∈ dualU X k i j (((X.maps.getD k default).getD i default).getD j 0), InU X.maps.length (dA X) (dB X) u := fun k i j hk hi hj u hu => by
  rw [dualU, List.mem_singleton] at hu
  subst hu
  exact dual_in hC hk hi hj
theorem dualM_sh {X : Cx} (hC : IsC X) : Sh X.maps.length (dA X) (dB X) (dualM X) := by
  have hm := hC.ml
  refine ⟨by simp [dualM], fun q hq => ?_, fun q r hq hr => ?_⟩
  · rw [dualM, getD_map_range _ hq, dualAt, flipP, List.length_map, List.length_range]
    show _ = (X.dims.reverse.getD (q + 1) 0).toNat
    rw [getD_rev _ (by omega)]
    congr 2; omega
  · have hr' : r < (X.dims.getD ((X.dims.length : Int) - 1 - 1 - (q : Int)).toNat 0).toNat := by
      have : dA X q = (X.dims.getD ((X.dims.length : Int) - 1 - 1 - (q : Int)).toNat 0).toNat := by
        show (X.dims.reverse.getD (q + 1) 0).toNat = _
        rw [getD_rev _ (by omega)]
        congr 2; omega
      omega
    rw [dualM, getD_map_range _ hq, dualAt, flipP, getD_map_range _ hr', flipRow, List.length_map, List.length_range]
    have l := (hC.lens (k := ((X.dims.length : Int) - 1 - 1 - (q : Int)).toNat) (by omega)).1
    show _ = (X.dims.reverse.getD q 0).toNat
    rw [getD_rev _ (by omega), show X.dims.length - 1 - q = ((X.dims.length : Int) - 1 - 1 - (q : Int)).toNat + 1 by omega]
    omega
theorem dual_eq {X : Cx} (hC : IsC X) : applyU X.p (zblk X.dims.reverse (X.dims.reverse.length - 1)) (uK (dualU X) X.maps X.maps.length) = dualM X := by
  have hm := hC.ml
  have hp := isP_bnd hC.p
  have hl : X.dims.reverse.length - 1 = X.maps.length := by rw [List.length_reverse]; omega
  rw [hl]
  have hz : Sh X.maps.length (dA X) (dB X) (zblk X.dims.reverse X.maps.length) := zblk_sh _ _
  have hi : In3 X.p X.maps.length (dA X) (dB X) (zblk X.dims.reverse X.maps.length) := fun k r c h1 h2 h3 => by rw [zblk_get _ _ h1 h2 h3]; omega
  have hu : ∀ u ∈ uK (dualU X) X.maps X.maps.length, InU X.maps.length (dA X) (dB X) u := uK_all (dual_inU hC)
  refine Sh.ext (applyU_sh hz hu) (dualM_sh hC) (fun q r c h1 h2 h3 => ?_)
  rw [applyU_get hp.1 h1 h2 h3 hz hi hu, zblk_get _ _ h1 h2 h3, Int.zero_add]
  have ek : ((X.dims.length : Int) - 1 - 1 - (q : Int)).toNat = X.dims.length - 1 - (q + 1) := by omega
  have hk : X.dims.length - 1 - (q + 1) < X.maps.length := by omega
  have l := hC.lens hk
  have hA : dA X q = (X.dims.getD (X.dims.length - 1 - (q + 1)) 0).toNat := by
    show (X.dims.reverse.getD (q + 1) 0).toNat = _
    rw [getD_rev _ (by omega)]
  have hB : dB X q = (X.dims.getD (X.dims.length - 1 - (q + 1) + 1) 0).toNat := by
    show (X.dims.reverse.getD q 0).toNat = _
    rw [getD_rev _ (by omega)]
    congr 2; omega
  have hc : c < (X.maps.getD (X.dims.length - 1 - (q + 1)) default).length := by omega
  have hr : r < ((X.maps.getD (X.dims.length - 1 - (q + 1)) default).getD c default).length := by have := l.2 c hc; omega
  rw [sumT_uK (U := dualU X) (τ := fun k i j => (X.dims.length - 1 - (k + 1), j, i)) (ω := fun _ _ _ v => v) (fun _ _ _ _ => rfl) (k0 := X.dims.length - 1 - (q + 1)) (i0 := c) (j0 := r) (by show (_, _, _) = _; congr 1; omega) X.maps.length (fun k hk' i _ j _ e => by
    injection e with e1 e2
    injection e2 with e2 e3
    exact ⟨by omega, e3, e2⟩) hc hr, if_pos hk]
  have hb := hC.num hk hc hr
  rw [Int.emod_eq_of_lt hb.1 hb.2, get3, dualM, getD_map_range _ h1, dualAt, ek, flipP, getD_map_range _ (by omega), flipRow]
  exact (getD_map_range (α := Int) (fun w : Nat => ((X.maps.getD (X.dims.length - 1 - (q + 1)) default).getD w default).getD r 0) hc).symm
theorem cnt_dual (X : Cx) : 0 ≤ cnt1 (dualP X).1.dims ∧ cnt1 (dualP X).1.dims ≤ 6 ∧ 0 ≤ cntL cnt2 (dualP X).1.maps ∧ cntL cnt2 (dualP X).1.maps ≤ 320 := by
  unfold dualP
  split
  · rename_i hc
    have hC := isC_t.1 hc
    have hm := hC.ml
    have hl := hC.len
    have hs := dualM_sh hC
    have hb : ∀ k, k < X.dims.length → (X.dims.reverse.getD k 0).toNat ≤ 8 := fun k hk => by
      rw [getD_rev _ hk]
      have := dm_at hC.dm (k := X.dims.length - 1 - k) (by omega)
      omega
    have := cnt_sh (m := 5) (a := 8) (b := 8) hs (by omega) (fun k hk => hb _ (by omega)) (fun k hk => hb _ (by omega))
    refine ⟨cnt1_nn _, ?_, this.1, this.2⟩
    show cnt1 X.dims.reverse ≤ 6
    rw [cnt1, List.length_reverse]; omega
  · exact ⟨cnt1_nn _, by show cnt1 [] ≤ 6; decide, Int.le_refl _, by show (0 : Int) ≤ _; decide⟩

set_option maxRecDepth 100000 in
theorem sFlip_ok (vR : Value) (R : List (List Int)) (w : Int) (h : Heap) (rR : R2 h vR R) (hw : 0 ≤ w ∧ w ≤ 8) (hR : R.length ≤ 8) (hr : ∀ i, i < R.length → w ≤ (R.getD i default).length) : CallA Try.prog 125 #[vR, .int .i64 w] h fun v' h' => ∃ w0 f0, v' = w0 ∧ O2 h' w0 (flipP R w.toNat) f0 ∧ Fresh h.size f0 ∧ Ext h h' := by
  have hleR := RdS.le rR
  refine callA_intro TTok (args := [_, _]) Try.func125 (by kernel_rfl) rfl 37 rfl (by simp) [.tmp 4] rfl ?_
  simp only [idxs, Nat.reduceAdd]
  refine den_seq ?_
  refine den_region TTok ?_
  intro K hK
  simp -implicitDefEqProofs (disch := first | decide | assumption | omega) only [go_sem, RdS.len rR sl65, RdS.idx rR sl65, RdS.cellB rR (HPres.refl _), RdS.cells rR, wrap_id]
  refine hK _ _ ?_
  clear hK K
  refine den_seq ?_
  refine den_region TTok ?_
  intro K hK
  simp -implicitDefEqProofs (disch := first | decide | assumption | omega) only [go_sem, RdS.len rR sl65, RdS.idx rR sl65, RdS.cellB rR (HPres.refl _), RdS.cells rR, wrap_id]
  refine op_bs0 sz65 O1 ?_
  intro v1_0 h1_0 ho1_0 e1_0
  have := Ext.size e1_0
  have eB := e1_0
  have hfho1_0 : Fresh h.size [h.size] := Fresh.one _
  have hlho1_0 := OS.lt ho1_0
  try simp -implicitDefEqProofs (disch := first | decide | assumption | omega) only [go_sem, RdS.len rR sl65, RdS.idx rR sl65, RdS.cellB rR (Ext.pres eB), RdS.cells rR, RdS.len (OS.rd ho1_0) sl65, RdS.idx (OS.rd ho1_0) sl65, RdS.cellN (OS.rd ho1_0), RdS.cells (OS.rd ho1_0), wrap_id]
  refine hK _ _ ?_
  clear hK K
  refine den_seq ?_
  refine den_seq ?_
  refine den_region TTok ?_
  intro K hK
  simp -implicitDefEqProofs (disch := first | decide | assumption | omega) only [go_sem, RdS.len rR sl65, RdS.idx rR sl65, RdS.cellB rR (Ext.pres eB), RdS.cells rR, RdS.len (OS.rd ho1_0) sl65, RdS.idx (OS.rd ho1_0) sl65, RdS.cellN (OS.rd ho1_0), RdS.cells (OS.rd ho1_0), wrap_id]
  refine hK _ _ ?_
  clear hK K
  refine den_block ?_
  refine den_sel [5, 6, 0, 1] ?_
  intro env_1
  simp only [go_sem]
  refine den_loopS (σ := Nat × Value × List Nat) (fun st_ => [(5, st_.2.1), (6, .int .i64 (st_.1 : Int))]) (fun st_ H => ((st_.1 : Int) ≤ w) ∧ (O2 H st_.2.1 ((List.range st_.1).map fun q : Nat => flipRow R q) st_.2.2) ∧ (Fresh (h.size) st_.2.2) ∧ (Sub [h.size] h1_0.size st_.2.2) ∧ (Chg [h.size] h1_0 H)) (fun st_ => w.toNat - st_.1) (0, v1_0, [h.size]) ?_ ?_
  · exact ⟨by first | (simp; done) | (dsimp only; omega) | (simp; omega), by simpa using ho1_0, hfho1_0, Sub.refl, Chg.refl _ _⟩
  · rintro ⟨k, vhO, fphO⟩ h4 ee3 ⟨hi0, hO, hfhO, sbhO, cL2⟩
    dsimp only at hi0 hO hfhO sbhO cL2
    have := cL2.size
    replace eB := Ext.then eB cL2 (ge_of hfho1_0 (by omega))
    have hlhO := OS.lt hO
    simp only [List.cons_append, List.nil_append]
    have hlo : ((List.range k).map fun q : Nat => flipRow R q).length = k := by simp
    refine den_seq ?_
    refine den_seq ?_
    refine den_region TTok ?_
    intro K hK
    simp -implicitDefEqProofs (disch := first | decide | assumption | omega) only [go_sem, RdS.len rR sl65, RdS.idx rR sl65, RdS.cellB rR (Ext.pres eB), RdS.cells rR, RdS.len (OS.rd hO) sl65, RdS.idx (OS.rd hO) sl65, RdS.cellN (OS.rd hO), RdS.cells (OS.rd hO), wrap_id]
    refine hK _ _ ?_
    clear hK K
    refine den_cond rfl (fun c0 => ?_) (fun c0 => ?_)
    · try simp only [decide_eq_true_eq, decide_eq_false_iff_not, beq_iff_eq, beq_eq_false_iff_ne, bne_iff_ne, ne_eq, Bool.not_eq_true', Bool.not_eq_false', Bool.and_eq_true, Bool.or_eq_true, bne_eq_false_iff_eq] at c0
      refine den_skip ?_
      refine den_seq ?_
      refine den_block ?_
      refine den_seq ?_
      refine den_region TTok ?_
      intro K hK
      simp -implicitDefEqProofs (disch := first | decide | assumption | omega) only [go_sem, RdS.len rR sl65, RdS.idx rR sl65, RdS.cellB rR (Ext.pres eB), RdS.cells rR, RdS.len (OS.rd hO) sl65, RdS.idx (OS.rd hO) sl65, RdS.cellN (OS.rd hO), RdS.cells (OS.rd hO), wrap_id]
      refine op_bs0 sz37 OI ?_
      intro v5_0 h5_0 ho5_0 e5_0
      replace hO := OS.ext hO e5_0
      have := Ext.size e5_0
      replace eB := Ext.trans eB e5_0
      replace cL2 := Chg.stepE cL2 e5_0
      have hfho5_0 : Fresh h4.size [h4.size] := Fresh.one _
      have hlho5_0 := OS.lt ho5_0
      try simp -implicitDefEqProofs (disch := first | decide | assumption | omega) only [go_sem, RdS.len rR sl65, RdS.idx rR sl65, RdS.cellB rR (Ext.pres eB), RdS.cells rR, RdS.len (OS.rd hO) sl65, RdS.idx (OS.rd hO) sl65, RdS.cellN (OS.rd hO), RdS.cells (OS.rd hO), RdS.len (OS.rd ho5_0) sl37, RdS.idx (OS.rd ho5_0) sl37, R1.intN (OS.rd ho5_0), RdS.cells (OS.rd ho5_0), wrap_id]
      refine hK _ _ ?_
      clear hK K
      refine den_seq ?_
      refine den_seq ?_
      refine den_region TTok ?_
      intro K hK
      simp -implicitDefEqProofs (disch := first | decide | assumption | omega) only [go_sem, RdS.len rR sl65, RdS.idx rR sl65, RdS.cellB rR (Ext.pres eB), RdS.cells rR, RdS.len (OS.rd hO) sl65, RdS.idx (OS.rd hO) sl65, RdS.cellN (OS.rd hO), RdS.cells (OS.rd hO), RdS.len (OS.rd ho5_0) sl37, RdS.idx (OS.rd ho5_0) sl37, R1.intN (OS.rd ho5_0), RdS.cells (OS.rd ho5_0), wrap_id]
      refine hK _ _ ?_
      clear hK K
      refine den_block ?_
      refine den_sel [7, 8, 0, 1, 5, 6] ?_
      intro env_5
      simp only [go_sem]
      refine den_loopS (σ := Nat × Value × List Nat) (fun st_ => [(7, st_.2.1), (8, .int .i64 (st_.1 : Int))]) (fun st_ H => (st_.1 ≤ R.length) ∧ (O1 H st_.2.1 ((List.range st_.1).map fun q : Nat => (R.getD q default).getD k 0) st_.2.2) ∧ (Fresh (h4.size) st_.2.2) ∧ (Sub [h4.size] h5_0.size st_.2.2) ∧ (Chg [h4.size] h5_0 H)) (fun st_ => R.length - st_.1) (0, v5_0, [h4.size]) ?_ ?_
      · exact ⟨by first | (simp; done) | (dsimp only; omega) | (simp; omega), by simpa using ho5_0, hfho5_0, Sub.refl, Chg.refl _ _⟩
      · rintro ⟨i, vhE, fphE⟩ h8 ee7 ⟨hi0, hE, hfhE, sbhE, cL6⟩
        dsimp only at hi0 hE hfhE sbhE cL6
        replace hO := OS.chg hO cL6 (apart_lt hlhO hfho5_0 (by omega))
        have := cL6.size
        replace eB := Ext.then eB cL6 (ge_of hfho5_0 (by omega))
        replace cL2 := Chg.step cL2 cL6 (Sub.fresh hfho5_0 (by omega))
        have hlhE := OS.lt hE
        simp only [List.cons_append, List.nil_append]
        have hle_ : ((List.range i).map fun q : Nat => (R.getD q default).getD k 0).length = i := by simp
        refine den_seq ?_
        refine den_seq ?_
        refine den_region TTok ?_
        intro K hK
        simp -implicitDefEqProofs (disch := first | decide | assumption | omega) only [go_sem, RdS.len rR sl65, RdS.idx rR sl65, RdS.cellB rR (Ext.pres eB), RdS.cells rR, RdS.len (OS.rd hO) sl65, RdS.idx (OS.rd hO) sl65, RdS.cellN (OS.rd hO), RdS.cells (OS.rd hO), RdS.len (OS.rd hE) sl37, RdS.idx (OS.rd hE) sl37, R1.intN (OS.rd hE), RdS.cells (OS.rd hE), wrap_id]
        refine hK _ _ ?_
        clear hK K
        refine den_cond rfl (fun c1 => ?_) (fun c1 => ?_)
        · try simp only [decide_eq_true_eq, decide_eq_false_iff_not, beq_iff_eq, beq_eq_false_iff_ne, bne_iff_ne, ne_eq, Bool.not_eq_true', Bool.not_eq_false', Bool.and_eq_true, Bool.or_eq_true, bne_eq_false_iff_eq] at c1
          refine den_skip ?_
          refine den_seq ?_
          refine den_block ?_
          have hri := hr i (by omega)
          refine den_region TTok ?_
          intro K hK
          have hr9 := RdS.rowN rR i (by omega)
          have hlhr9 := RdS.le hr9
          simp -implicitDefEqProofs (disch := first | decide | assumption | omega) only [go_sem, ld37, ld2, RdS.len rR sl65, RdS.idx rR sl65, RdS.cellB rR (Ext.pres eB), RdS.cells rR, RdS.len hr9 sl37, RdS.idx hr9 sl37, R1.intB hr9 (Ext.pres eB), RdS.cells hr9, RdS.len (OS.rd hO) sl65, RdS.idx (OS.rd hO) sl65, RdS.cellN (OS.rd hO), RdS.cells (OS.rd hO), RdS.len (OS.rd hE) sl37, RdS.idx (OS.rd hE) sl37, R1.intN (OS.rd hE), RdS.cells (OS.rd hE), wrap_id]
          refine op_bs1 sz37 rfl rfl ?_
          try simp -implicitDefEqProofs (disch := first | decide | assumption | omega) only [go_sem, RdS.len rR sl65, RdS.idx rR sl65, RdS.cellB rR (Ext.pres eB), RdS.cells rR, RdS.len hr9 sl37, RdS.idx hr9 sl37, R1.intB hr9 (Ext.pres eB), RdS.cells hr9, RdS.len (OS.rd hO) sl65, RdS.idx (OS.rd hO) sl65, RdS.cellN (OS.rd hO), RdS.cells (OS.rd hO), RdS.len (OS.rd hE) sl37, RdS.idx (OS.rd hE) sl37, R1.intN (OS.rd hE), RdS.cells (OS.rd hE), wrap_id]
          refine op_append1 sz37 hE hfhE.nodup ⟨rfl, rfl⟩ List.nodup_nil (Apart.nil _) (by first | omega | (simp; omega)) rfl rfl ?_
          intro v9_9 h9_9 fp9_9 ho9_9 hn9_9 hs9_9 c9_9
          have hsz9_9 := c9_9.size
          have hfho9_9 : Fresh h4.size fp9_9 := Fresh.appd hfhE (Fresh.nil h8.size) (by omega) (by omega) hn9_9 hs9_9
          have sb10 : Sub [h4.size] h5_0.size fp9_9 := Sub.grow sbhE Sub.nil (by omega) hs9_9
          replace hO := OS.chg hO c9_9 (apart_lt hlhO hfhE (by omega))
          have := c9_9.size
          replace eB := Ext.then eB c9_9 (ge_of hfhE (by omega))
          replace cL2 := Chg.step cL2 c9_9 (Sub.fresh hfhE (by omega))
          replace cL6 := Chg.step cL6 c9_9 sbhE
          have hlho9_9 := OS.lt ho9_9
          try simp -implicitDefEqProofs (disch := first | decide | assumption | omega) only [go_sem, RdS.len rR sl65, RdS.idx rR sl65, RdS.cellB rR (Ext.pres eB), RdS.cells rR, RdS.len hr9 sl37, RdS.idx hr9 sl37, R1.intB hr9 (Ext.pres eB), RdS.cells hr9, RdS.len (OS.rd hO) sl65, RdS.idx (OS.rd hO) sl65, RdS.cellN (OS.rd hO), RdS.cells (OS.rd hO), RdS.len (OS.rd ho9_9) sl37, RdS.idx (OS.rd ho9_9) sl37, R1.intN (OS.rd ho9_9), RdS.cells (OS.rd ho9_9), wrap_id]
          refine hK _ _ ?_
          clear hK K
          refine den_blk ?_
          refine den_region TTok ?_
          intro K hK
          simp -implicitDefEqProofs (disch := first | decide | assumption | omega) only [go_sem, RdS.len rR sl65, RdS.idx rR sl65, RdS.cellB rR (Ext.pres eB), RdS.cells rR, RdS.len hr9 sl37, RdS.idx hr9 sl37, R1.intB hr9 (Ext.pres eB), RdS.cells hr9, RdS.len (OS.rd hO) sl65, RdS.idx (OS.rd hO) sl65, RdS.cellN (OS.rd hO), RdS.cells (OS.rd hO), RdS.len (OS.rd ho9_9) sl37, RdS.idx (OS.rd ho9_9) sl37, R1.intN (OS.rd ho9_9), RdS.cells (OS.rd ho9_9), wrap_id]
          refine hK _ _ ?_
          clear hK K
          refine den_stop ?_
          rw [range_step (fun q : Nat => (R.getD q default).getD k 0)] at ho9_9
          exact ⟨(i + 1, v9_9, fp9_9), by simp [HasL, puts_at], ⟨by first | omega | (dsimp only; omega), ho9_9, hfho9_9, sb10, cL6⟩, by first | omega | (dsimp only; omega)⟩
        · try simp only [decide_eq_true_eq, decide_eq_false_iff_not, beq_iff_eq, beq_eq_false_iff_ne, bne_iff_ne, ne_eq, Bool.not_eq_true', Bool.not_eq_false', Bool.and_eq_true, Bool.or_eq_true, bne_eq_false_iff_eq] at c1
          refine den_exit ?_
          refine denX_code ?_
          refine denX_stop ?_
          refine denX_hit ?_
          refine den_region TTok ?_
          intro K hK
          simp -implicitDefEqProofs (disch := first | decide | assumption | omega) only [go_sem, RdS.len rR sl65, RdS.idx rR sl65, RdS.cellB rR (Ext.pres eB), RdS.cells rR, RdS.len (OS.rd hO) sl65, RdS.idx (OS.rd hO) sl65, RdS.cellN (OS.rd hO), RdS.cells (OS.rd hO), RdS.len (OS.rd hE) sl37, RdS.idx (OS.rd hE) sl37, R1.intN (OS.rd hE), RdS.cells (OS.rd hE), wrap_id]
          refine op_bs1 sz65 rfl (OS.one hE).2 ?_
          try simp -implicitDefEqProofs (disch := first | decide | assumption | omega) only [go_sem, RdS.len rR sl65, RdS.idx rR sl65, RdS.cellB rR (Ext.pres eB), RdS.cells rR, RdS.len (OS.rd hO) sl65, RdS.idx (OS.rd hO) sl65, RdS.cellN (OS.rd hO), RdS.cells (OS.rd hO), RdS.len (OS.rd hE) sl37, RdS.idx (OS.rd hE) sl37, R1.intN (OS.rd hE), RdS.cells (OS.rd hE), wrap_id]
          refine op_append1 sz65 hO hfhO.nodup hE hfhE.nodup (apart_lt hlhO hfhE (by omega)) (by first | omega | (simp; omega)) rfl rfl ?_
          intro v10_3 h10_3 fp10_3 ho10_3 hn10_3 hs10_3 c10_3
          have hsz10_3 := c10_3.size
          have hfho10_3 : Fresh h.size fp10_3 := Fresh.appd hfhO hfhE (by omega) (by omega) hn10_3 hs10_3
          have sb11 : Sub [h.size] h1_0.size fp10_3 := Sub.grow sbhO (Sub.fresh hfhE (by omega)) (by omega) hs10_3
          have := c10_3.size
          replace eB := Ext.then eB c10_3 (ge_of hfhO (by omega))
          replace cL2 := Chg.step cL2 c10_3 sbhO
          have hlho10_3 := OS.lt ho10_3
          try simp -implicitDefEqProofs (disch := first | decide | assumption | omega) only [go_sem, RdS.len rR sl65, RdS.idx rR sl65, RdS.cellB rR (Ext.pres eB), RdS.cells rR, RdS.len (OS.rd ho10_3) sl65, RdS.idx (OS.rd ho10_3) sl65, RdS.cellN (OS.rd ho10_3), RdS.cells (OS.rd ho10_3), wrap_id]
          refine hK _ _ ?_
          clear hK K
          refine den_blk ?_
          refine den_region TTok ?_
          intro K hK
          simp -implicitDefEqProofs (disch := first | decide | assumption | omega) only [go_sem, RdS.len rR sl65, RdS.idx rR sl65, RdS.cellB rR (Ext.pres eB), RdS.cells rR, RdS.len (OS.rd ho10_3) sl65, RdS.idx (OS.rd ho10_3) sl65, RdS.cellN (OS.rd ho10_3), RdS.cells (OS.rd ho10_3), wrap_id]
          refine hK _ _ ?_
          clear hK K
          refine den_stop ?_
          rw [show (List.range i).map (fun q : Nat => (R.getD q default).getD k 0) = flipRow R k by rw [flipRow, show R.length = i by omega], range_step (fun q : Nat => flipRow R q)] at ho10_3
          exact ⟨(k + 1, v10_3, fp10_3), by simp [HasL, puts_at], ⟨by first | omega | (dsimp only; omega), ho10_3, hfho10_3, sb11, cL2⟩, by first | omega | (dsimp only; omega)⟩
    · try simp only [decide_eq_true_eq, decide_eq_false_iff_not, beq_iff_eq, beq_eq_false_iff_ne, bne_iff_ne, ne_eq, Bool.not_eq_true', Bool.not_eq_false', Bool.and_eq_true, Bool.or_eq_true, bne_eq_false_iff_eq] at c0
      refine den_exit ?_
      refine denX_code ?_
      refine denX_stop ?_
      refine denX_hit ?_
      refine den_seq ?_
      refine den_region TTok ?_
      intro K hK
      simp -implicitDefEqProofs (disch := first | decide | assumption | omega) only [go_sem, RdS.len rR sl65, RdS.idx rR sl65, RdS.cellB rR (Ext.pres eB), RdS.cells rR, RdS.len (OS.rd hO) sl65, RdS.idx (OS.rd hO) sl65, RdS.cellN (OS.rd hO), RdS.cells (OS.rd hO), wrap_id]
      refine hK _ _ ?_
      clear hK K
      refine den_ret ?_
      simp (disch := decide) only [resP_1, puts_same, puts_ne]
      have e : w.toNat = k := by omega
      rw [e]
      exact ⟨_, _, rfl, hO, hfhO.mono (by omega), eB⟩

set_option maxRecDepth 100000 in
theorem sDual_ok (vX : Value) (X : Cx) (h : Heap) (rX : RC h vX X)  : CallA Try.prog 50 #[vX] h fun v' h' => ∃ wd0 wm0 fd0 fm0, v' = .tuple #[.agg #[.int .i64 ((dualP X).1).p, wd0, wm0], .int .i64 ((dualP X).2)] ∧ O1 h' wd0 ((dualP X).1).dims fd0 ∧ O3 h' wm0 ((dualP X).1).maps fm0 ∧ Fresh h.size (fd0 ++ fm0) ∧ Ext h h' := by
  obtain ⟨vdX, vmX, rfl, hdX, hmX⟩ := rX
  have hledX := RdS.le hdX
  have hlemX := RdS.le hmX
  refine callA_intro TTok (args := [_]) Try.func50 (by kernel_rfl) rfl 65 rfl (by simp) [.cell 2 44, .tmp 3] rfl ?_
  simp only [idxs, Nat.reduceAdd]
  refine den_seq ?_
  refine den_region TTok ?_
  intro K hK
  simp -implicitDefEqProofs (disch := first | decide | assumption | omega) only [go_sem, RdS.len hdX sl37, RdS.idx hdX sl37, R1.intB hdX (HPres.refl _), RdS.cells hdX, RdS.len hmX sl38, RdS.idx hmX sl38, RdS.cellB hmX (HPres.refl _), RdS.cells hmX, wrap_id, bC0]
  refine op_box (cs := #[.int .i64 (X.p), vdX, vmX]) rfl ?_
  intro h0_0 e0_0 hb0_0 z0_0
  have := Ext.size e0_0
  have eB := e0_0
  have hfhb0_0 : Fresh h.size [h.size] := Fresh.one _
  have hlhb0_0 := one_lt (show h.size < h0_0.size by omega)
  try simp -implicitDefEqProofs (disch := first | decide | assumption | omega) only [go_sem, RdS.len hdX sl37, RdS.idx hdX sl37, R1.intB hdX (Ext.pres eB), RdS.cells hdX, RdS.len hmX sl38, RdS.idx hmX sl38, RdS.cellB hmX (Ext.pres eB), RdS.cells hmX, BoxAt.cell hb0_0, wrap_id, bC0]
  refine op_alloc (cs := #[.int .i64 0, .slice none 0 0, .slice none 0 0]) (by kernel_rfl) ?_
  intro h0_1 e0_1 hb0_1 z0_1
  replace hb0_0 := BoxAt.ext hb0_0 e0_1
  have := Ext.size e0_1
  replace eB := Ext.trans eB e0_1
  have hfhb0_1 : Fresh h0_0.size [h0_0.size] := Fresh.one _
  have hlhb0_1 := one_lt (show h0_0.size < h0_1.size by omega)
  try simp -implicitDefEqProofs (disch := first | decide | assumption | omega) only [go_sem, RdS.len hdX sl37, RdS.idx hdX sl37, R1.intB hdX (Ext.pres eB), RdS.cells hdX, RdS.len hmX sl38, RdS.idx hmX sl38, RdS.cellB hmX (Ext.pres eB), RdS.cells hmX, BoxAt.cell hb0_0, BoxAt.cell hb0_1, wrap_id, bC0]
  refine hK _ _ ?_
  clear hK K
  refine den_seq ?_
  refine den_seq ?_
  refine den_region TTok ?_
  intro K hK
  simp -implicitDefEqProofs (disch := first | decide | assumption | omega) only [go_sem, ld44, RdS.len hdX sl37, RdS.idx hdX sl37, R1.intB hdX (Ext.pres eB), RdS.cells hdX, RdS.len hmX sl38, RdS.idx hmX sl38, RdS.cellB hmX (Ext.pres eB), RdS.cells hmX, BoxAt.cell hb0_0, BoxAt.cell hb0_1, wrap_id, bC0]
  try simp -implicitDefEqProofs (disch := first | decide | assumption | omega) only [go_sem, RdS.len hdX sl37, RdS.idx hdX sl37, R1.intB hdX (Ext.pres eB), RdS.cells hdX, RdS.len hmX sl38, RdS.idx hmX sl38, RdS.cellB hmX (Ext.pres eB), RdS.cells hmX, BoxAt.cell hb0_0, BoxAt.cell hb0_1, wrap_id, bC0]
  refine CallA.mono (sIs_ok _ X _ ⟨_, _, rfl, (RdS.pres hdX (Ext.pres eB)), (RdS.pres hmX (Ext.pres eB))⟩) ?_
  intro v_ h1_1
  rintro ⟨rfl, e1_1⟩
  replace hb0_0 := BoxAt.ext hb0_0 e1_1
  replace hb0_1 := BoxAt.ext hb0_1 e1_1
  have := Ext.size e1_1
  replace eB := Ext.trans eB e1_1
  try simp -implicitDefEqProofs (disch := first | decide | assumption | omega) only [go_sem, RdS.len hdX sl37, RdS.idx hdX sl37, R1.intB hdX (Ext.pres eB), RdS.cells hdX, RdS.len hmX sl38, RdS.idx hmX sl38, RdS.cellB hmX (Ext.pres eB), RdS.cells hmX, BoxAt.cell hb0_0, BoxAt.cell hb0_1, wrap_id, bC0]
  refine hK _ _ ?_
  clear hK K
  refine den_cond rfl (fun c0 => ?_) (fun c0 => ?_)
  · try simp only [decide_eq_true_eq, decide_eq_false_iff_not, beq_iff_eq, beq_eq_false_iff_ne, bne_iff_ne, ne_eq, Bool.not_eq_true', Bool.not_eq_false', Bool.and_eq_true, Bool.or_eq_true, bne_eq_false_iff_eq, Bool.not_eq_true] at c0
    refine den_seq ?_
    refine den_region TTok ?_
    intro K hK
    simp -implicitDefEqProofs (disch := first | decide | assumption | omega) only [go_sem, RdS.len hdX sl37, RdS.idx hdX sl37, R1.intB hdX (Ext.pres eB), RdS.cells hdX, RdS.len hmX sl38, RdS.idx hmX sl38, RdS.cellB hmX (Ext.pres eB), RdS.cells hmX, BoxAt.cell hb0_1, wrap_id, bC0]
    refine op_storeB (cs' := #[.int .i64 ((0 : Int)), .slice none 0 0, .slice none 0 0]) st44 hb0_1 rfl rfl rfl (by simp) (allOne_mem (l := [.int .i64 ((0 : Int)), .slice none 0 0, .slice none 0 0]) ⟨rfl, rfl, rfl, trivial⟩) rfl ?_
    intro h2_1 hb0_1 c2_1
    have := c2_1.size
    replace eB := Ext.then eB c2_1 (ge_of hfhb0_1 (by omega))
    try simp -implicitDefEqProofs (disch := first | decide | assumption | omega) only [go_sem, RdS.len hdX sl37, RdS.idx hdX sl37, R1.intB hdX (Ext.pres eB), RdS.cells hdX, RdS.len hmX sl38, RdS.idx hmX sl38, RdS.cellB hmX (Ext.pres eB), RdS.cells hmX, BoxAt.cell hb0_1, wrap_id, bC0]
    refine hK _ _ ?_
    clear hK K
    refine den_ret ?_
    simp -implicitDefEqProofs (disch := first | decide | assumption | omega) only [go_sem, RdS.len hdX sl37, RdS.idx hdX sl37, R1.intB hdX (Ext.pres eB), RdS.cells hdX, RdS.len hmX sl38, RdS.idx hmX sl38, RdS.cellB hmX (Ext.pres eB), RdS.cells hmX, BoxAt.cell hb0_1, wrap_id, bC0, resP_ct, ld44]
    have hz : dualP X = (⟨0, [], []⟩, 1) := by rw [dualP, if_neg (by rw [c0]; decide)]
    rw [hz]
    exact ⟨.slice none 0 0, .slice none 0 0, [], [], rfl, OS.nil, OS.nil, Fresh.nil _, eB⟩
  · try simp only [decide_eq_true_eq, decide_eq_false_iff_not, beq_iff_eq, beq_eq_false_iff_ne, bne_iff_ne, ne_eq, Bool.not_eq_true', Bool.not_eq_false', Bool.and_eq_true, Bool.or_eq_true, bne_eq_false_iff_eq, Bool.not_eq_true] at c0
    have hC := isC_t.1 c0
    have hml := hC.ml
    have hlX := hC.len
    refine den_skip ?_
    refine den_seq ?_
    refine den_region TTok ?_
    intro K hK
    simp -implicitDefEqProofs (disch := first | decide | assumption | omega) only [go_sem, fa44_1, ld37, RdS.len hdX sl37, RdS.idx hdX sl37, R1.intB hdX (Ext.pres eB), RdS.cells hdX, RdS.len hmX sl38, RdS.idx hmX sl38, RdS.cellB hmX (Ext.pres eB), RdS.cells hmX, BoxAt.cell hb0_0, BoxAt.cell hb0_1, wrap_id, bC0]
    refine hK _ _ ?_
    clear hK K
    refine den_seq ?_
    refine den_region TTok ?_
    intro K hK
    simp -implicitDefEqProofs (disch := first | decide | assumption | omega) only [go_sem, fa44_0, ld2, RdS.len hdX sl37, RdS.idx hdX sl37, R1.intB hdX (Ext.pres eB), RdS.cells hdX, RdS.len hmX sl38, RdS.idx hmX sl38, RdS.cellB hmX (Ext.pres eB), RdS.cells hmX, BoxAt.cell hb0_0, BoxAt.cell hb0_1, wrap_id, bC0]
    refine op_bs0 sz37 OI ?_
    intro v4_2 h4_2 ho4_2 e4_2
    replace hb0_0 := BoxAt.ext hb0_0 e4_2
    replace hb0_1 := BoxAt.ext hb0_1 e4_2
    have := Ext.size e4_2
    replace eB := Ext.trans eB e4_2
    have hfho4_2 : Fresh h1_1.size [h1_1.size] := Fresh.one _
    have hlho4_2 := OS.lt ho4_2
    try simp -implicitDefEqProofs (disch := first | decide | assumption | omega) only [go_sem, RdS.len hdX sl37, RdS.idx hdX sl37, R1.intB hdX (Ext.pres eB), RdS.cells hdX, RdS.len hmX sl38, RdS.idx hmX sl38, RdS.cellB hmX (Ext.pres eB), RdS.cells hmX, RdS.len (OS.rd ho4_2) sl37, RdS.idx (OS.rd ho4_2) sl37, R1.intN (OS.rd ho4_2), RdS.cells (OS.rd ho4_2), BoxAt.cell hb0_0, BoxAt.cell hb0_1, wrap_id, bC0]
    refine op_bs0 sz38 O2 ?_
    intro v4_3 h4_3 ho4_3 e4_3
    replace ho4_2 := OS.ext ho4_2 e4_3
    replace hb0_0 := BoxAt.ext hb0_0 e4_3
    replace hb0_1 := BoxAt.ext hb0_1 e4_3
    have := Ext.size e4_3
    replace eB := Ext.trans eB e4_3
    have hfho4_3 : Fresh h4_2.size [h4_2.size] := Fresh.one _
    have hlho4_3 := OS.lt ho4_3
    try simp -implicitDefEqProofs (disch := first | decide | assumption | omega) only [go_sem, RdS.len hdX sl37, RdS.idx hdX sl37, R1.intB hdX (Ext.pres eB), RdS.cells hdX, RdS.len hmX sl38, RdS.idx hmX sl38, RdS.cellB hmX (Ext.pres eB), RdS.cells hmX, RdS.len (OS.rd ho4_2) sl37, RdS.idx (OS.rd ho4_2) sl37, R1.intN (OS.rd ho4_2), RdS.cells (OS.rd ho4_2), RdS.len (OS.rd ho4_3) sl38, RdS.idx (OS.rd ho4_3) sl38, RdS.cellN (OS.rd ho4_3), RdS.cells (OS.rd ho4_3), BoxAt.cell hb0_0, BoxAt.cell hb0_1, wrap_id, bC0, bC3 (OS.isSl ho4_2) (OS.isSl ho4_3)]
    refine op_alloc (cs := #[.int .i64 0, .slice none 0 0, .slice none 0 0]) (by kernel_rfl) ?_
    intro h4_5 e4_5 hb4_5 z4_5
    replace ho4_2 := OS.ext ho4_2 e4_5
    replace ho4_3 := OS.ext ho4_3 e4_5
    replace hb0_0 := BoxAt.ext hb0_0 e4_5
    replace hb0_1 := BoxAt.ext hb0_1 e4_5
    have := Ext.size e4_5
    replace eB := Ext.trans eB e4_5
    have hfhb4_5 : Fresh h4_3.size [h4_3.size] := Fresh.one _
    have hlhb4_5 := one_lt (show h4_3.size < h4_5.size by omega)
    try simp -implicitDefEqProofs (disch := first | decide | assumption | omega) only [go_sem, RdS.len hdX sl37, RdS.idx hdX sl37, R1.intB hdX (Ext.pres eB), RdS.cells hdX, RdS.len hmX sl38, RdS.idx hmX sl38, RdS.cellB hmX (Ext.pres eB), RdS.cells hmX, RdS.len (OS.rd ho4_2) sl37, RdS.idx (OS.rd ho4_2) sl37, R1.intN (OS.rd ho4_2), RdS.cells (OS.rd ho4_2), RdS.len (OS.rd ho4_3) sl38, RdS.idx (OS.rd ho4_3) sl38, RdS.cellN (OS.rd ho4_3), RdS.cells (OS.rd ho4_3), BoxAt.cell hb0_0, BoxAt.cell hb0_1, BoxAt.cell hb4_5, wrap_id, bC0, bC3 (OS.isSl ho4_2) (OS.isSl ho4_3)]
    refine op_storeB (cs' := #[.int .i64 (X.p), v4_2, v4_3]) st44 hb4_5 rfl rfl rfl (by simp) (allOne_mem (l := [.int .i64 (X.p), v4_2, v4_3]) ⟨rfl, (OS.one ho4_2).1, (OS.one ho4_3).1, trivial⟩) rfl ?_
    intro h4_6 hb4_5 c4_6
    replace ho4_2 := OS.chg ho4_2 c4_6 (apart_lt hlho4_2 hfhb4_5 (by omega))
    replace ho4_3 := OS.chg ho4_3 c4_6 (apart_lt hlho4_3 hfhb4_5 (by omega))
    replace hb0_0 := BoxAt.chgA hb0_0 c4_6 (apart_lt hlhb0_0 hfhb4_5 (by omega))
    replace hb0_1 := BoxAt.chgA hb0_1 c4_6 (apart_lt hlhb0_1 hfhb4_5 (by omega))
    have := c4_6.size
    replace eB := Ext.then eB c4_6 (ge_of hfhb4_5 (by omega))
    try simp -implicitDefEqProofs (disch := first | decide | assumption | omega) only [go_sem, RdS.len hdX sl37, RdS.idx hdX sl37, R1.intB hdX (Ext.pres eB), RdS.cells hdX, RdS.len hmX sl38, RdS.idx hmX sl38, RdS.cellB hmX (Ext.pres eB), RdS.cells hmX, RdS.len (OS.rd ho4_2) sl37, RdS.idx (OS.rd ho4_2) sl37, R1.intN (OS.rd ho4_2), RdS.cells (OS.rd ho4_2), RdS.len (OS.rd ho4_3) sl38, RdS.idx (OS.rd ho4_3) sl38, RdS.cellN (OS.rd ho4_3), RdS.cells (OS.rd ho4_3), BoxAt.cell hb0_0, BoxAt.cell hb0_1, BoxAt.cell hb4_5, wrap_id, bC0, bC3 (OS.isSl ho4_2) (OS.isSl ho4_3)]
    refine hK _ _ ?_
    clear hK K
    refine den_seq ?_
    refine den_seq ?_
    refine den_region TTok ?_
    intro K hK
    simp -implicitDefEqProofs (disch := first | decide | assumption | omega) only [go_sem, RdS.len hdX sl37, RdS.idx hdX sl37, R1.intB hdX (Ext.pres eB), RdS.cells hdX, RdS.len hmX sl38, RdS.idx hmX sl38, RdS.cellB hmX (Ext.pres eB), RdS.cells hmX, RdS.len (OS.rd ho4_2) sl37, RdS.idx (OS.rd ho4_2) sl37, R1.intN (OS.rd ho4_2), RdS.cells (OS.rd ho4_2), RdS.len (OS.rd ho4_3) sl38, RdS.idx (OS.rd ho4_3) sl38, RdS.cellN (OS.rd ho4_3), RdS.cells (OS.rd ho4_3), BoxAt.cell hb0_0, BoxAt.cell hb0_1, BoxAt.cell hb4_5, wrap_id, bC0]
    refine hK _ _ ?_
    clear hK K
    refine den_block ?_
    refine den_sel [6, 1, 2, 4, 5] ?_
    intro env_1
    simp only [go_sem]
    refine den_loopS (σ := Nat × Value × List Nat) (fun st_ => [(6, .int .i64 (st_.1 : Int))]) (fun st_ H => (st_.1 ≤ X.dims.length) ∧ (O1 H st_.2.1 ((List.range st_.1).map fun q : Nat => X.dims.getD ((X.dims.length : Int) - 1 - (q : Int)).toNat 0) st_.2.2) ∧ (Fresh (h1_1.size) st_.2.2) ∧ (Sub ([h1_1.size] ++ ([h4_3.size])) h4_6.size st_.2.2) ∧ (BoxAt H (h4_3.size) #[.int .i64 (X.p), st_.2.1, v4_3] 44) ∧ (Apart st_.2.2 [h4_3.size]) ∧ (Chg ([h1_1.size] ++ ([h4_3.size])) h4_6 H)) (fun st_ => X.dims.length - st_.1) (0, v4_2, [h1_1.size]) ?_ ?_
    · exact ⟨by first | (simp; done) | (dsimp only; omega) | (simp; omega), by simpa using ho4_2, hfho4_2, (Sub.left Sub.refl), by simpa using hb4_5, (apart_lt hlho4_2 hfhb4_5 (by omega)), Chg.refl _ _⟩
    · rintro ⟨n, vhD, fphD⟩ h4 ee3 ⟨hi0, hD, hfhD, sbhD, hbx5, ap_hD_hbx5, cL2⟩
      dsimp only at hi0 hD hfhD sbhD hbx5 ap_hD_hbx5 cL2
      replace ho4_3 := OS.chg ho4_3 cL2 (Apart.app (apart_gt hfho4_3 hlho4_2 (by omega)) (apart_lt hlho4_3 hfhb4_5 (by omega)))
      replace hb0_0 := BoxAt.chgA hb0_0 cL2 (Apart.app (apart_lt hlhb0_0 hfho4_2 (by omega)) (apart_lt hlhb0_0 hfhb4_5 (by omega)))
      replace hb0_1 := BoxAt.chgA hb0_1 cL2 (Apart.app (apart_lt hlhb0_1 hfho4_2 (by omega)) (apart_lt hlhb0_1 hfhb4_5 (by omega)))
      have := cL2.size
      replace eB := Ext.then eB cL2 (ge_app (ge_of hfho4_2 (by omega)) (ge_of hfhb4_5 (by omega)))
      have ap5 : Apart [h4_2.size] fphD := Apart.sub_ hlho4_3 (by omega) (Apart.app (apart_gt hfho4_3 hlho4_2 (by omega)) (apart_lt hlho4_3 hfhb4_5 (by omega))) sbhD
      have hlhD := OS.lt hD
      have hfhbx5 := hfhb4_5
      have hlhbx5 := hlhb4_5
      simp only [List.cons_append, List.nil_append]
      refine den_seq ?_
      refine den_seq ?_
      refine den_region TTok ?_
      intro K hK
      simp -implicitDefEqProofs (disch := first | decide | assumption | omega) only [go_sem, RdS.len hdX sl37, RdS.idx hdX sl37, R1.intB hdX (Ext.pres eB), RdS.cells hdX, RdS.len hmX sl38, RdS.idx hmX sl38, RdS.cellB hmX (Ext.pres eB), RdS.cells hmX, RdS.len (OS.rd ho4_3) sl38, RdS.idx (OS.rd ho4_3) sl38, RdS.cellN (OS.rd ho4_3), RdS.cells (OS.rd ho4_3), RdS.len (OS.rd hD) sl37, RdS.idx (OS.rd hD) sl37, R1.intN (OS.rd hD), RdS.cells (OS.rd hD), BoxAt.cell hb0_0, BoxAt.cell hb0_1, BoxAt.cell hbx5, wrap_id, bC0]
      refine hK _ _ ?_
      clear hK K
      refine den_cond rfl (fun c1 => ?_) (fun c1 => ?_)
      · try simp only [decide_eq_true_eq, decide_eq_false_iff_not, beq_iff_eq, beq_eq_false_iff_ne, bne_iff_ne, ne_eq, Bool.not_eq_true', Bool.not_eq_false', Bool.and_eq_true, Bool.or_eq_true, bne_eq_false_iff_eq, Bool.not_eq_true] at c1
        refine den_skip ?_
        refine den_seq ?_
        refine den_block ?_
        have hdl : (dualD X n).length = n := by simp [dualD]
        unfold dualD at hdl
        refine den_draw TTok mixed [10, 12] [(0, true), (1, true), (2, true), (3, true), (4, true), (5, true), (6, true), (7, true), (8, true), (9, false), (10, false), (11, true), (12, false)] (by kernel_rfl) ?_
        intro K hK
        simp -implicitDefEqProofs (disch := first | decide | assumption | omega) only [go_sem, fa44_1, ld37, ld2, RdS.len hdX sl37, RdS.idx hdX sl37, R1.intB hdX (Ext.pres eB), RdS.cells hdX, RdS.len hmX sl38, RdS.idx hmX sl38, RdS.cellB hmX (Ext.pres eB), RdS.cells hmX, RdS.len (OS.rd ho4_3) sl38, RdS.idx (OS.rd ho4_3) sl38, RdS.cellN (OS.rd ho4_3), RdS.cells (OS.rd ho4_3), RdS.len (OS.rd hD) sl37, RdS.idx (OS.rd hD) sl37, R1.intN (OS.rd hD), RdS.cells (OS.rd hD), BoxAt.cell hb0_0, BoxAt.cell hb0_1, BoxAt.cell hbx5, wrap_id, bC0]
        refine op_bs1 sz37 rfl rfl ?_
        try simp (disch := decide) only [outv_some, outv_none, put_puts]
        refine plK_pres (Ext.pres (Ext.push _ _)) ?_
        try simp -implicitDefEqProofs (disch := first | decide | assumption | omega) only [go_sem, RdS.len hdX sl37, RdS.idx hdX sl37, R1.intB hdX (Ext.pres eB), RdS.cells hdX, RdS.len hmX sl38, RdS.idx hmX sl38, RdS.cellB hmX (Ext.pres eB), RdS.cells hmX, RdS.len (OS.rd ho4_3) sl38, RdS.idx (OS.rd ho4_3) sl38, RdS.cellN (OS.rd ho4_3), RdS.cells (OS.rd ho4_3), RdS.len (OS.rd hD) sl37, RdS.idx (OS.rd hD) sl37, R1.intN (OS.rd hD), RdS.cells (OS.rd hD), BoxAt.cell hb0_0, BoxAt.cell hb0_1, BoxAt.cell hbx5, wrap_id, bC0]
        refine op_append1 sz37 hD hfhD.nodup ⟨rfl, rfl⟩ List.nodup_nil (Apart.nil _) (by first | omega | (simp; omega)) rfl rfl ?_
        intro v8_10 h8_10 fp8_10 ho8_10 hn8_10 hs8_10 c8_10
        have hsz8_10 := c8_10.size
        have hfho8_10 : Fresh h1_1.size fp8_10 := Fresh.appd hfhD (Fresh.nil h4.size) (by omega) (by omega) hn8_10 hs8_10
        have sb6 : Sub ([h1_1.size] ++ ([h4_3.size])) h4_6.size fp8_10 := Sub.grow sbhD Sub.nil (by omega) hs8_10
        replace ho4_3 := OS.chg ho4_3 c8_10 ap5
        replace hb0_0 := BoxAt.chgA hb0_0 c8_10 (apart_lt hlhb0_0 hfhD (by omega))
        replace hb0_1 := BoxAt.chgA hb0_1 c8_10 (apart_lt hlhb0_1 hfhD (by omega))
        replace hbx5 := BoxAt.chgA hbx5 c8_10 (Apart.symm ap_hD_hbx5)
        have := c8_10.size
        replace eB := Ext.then eB c8_10 (ge_of hfhD (by omega))
        replace cL2 := Chg.step cL2 c8_10 sbhD
        have ap7 : Apart [h4_2.size] fp8_10 := Apart.grow hlho4_3 (by omega) ap5 (Apart.nil _) hs8_10
        have ap8 : Apart [h4_3.size] fp8_10 := Apart.grow hlhbx5 (by omega) (Apart.symm ap_hD_hbx5) (Apart.nil _) hs8_10
        have hlho8_10 := OS.lt ho8_10
        try simp (disch := decide) only [outv_some, outv_none, put_puts]
        refine plK_last (by decide) ?_
        try simp -implicitDefEqProofs (disch := first | decide | assumption | omega) only [go_sem, fa44_1, RdS.len hdX sl37, RdS.idx hdX sl37, R1.intB hdX (Ext.pres eB), RdS.cells hdX, RdS.len hmX sl38, RdS.idx hmX sl38, RdS.cellB hmX (Ext.pres eB), RdS.cells hmX, RdS.len (OS.rd ho4_3) sl38, RdS.idx (OS.rd ho4_3) sl38, RdS.cellN (OS.rd ho4_3), RdS.cells (OS.rd ho4_3), RdS.len (OS.rd ho8_10) sl37, RdS.idx (OS.rd ho8_10) sl37, R1.intN (OS.rd ho8_10), RdS.cells (OS.rd ho8_10), BoxAt.cell hb0_0, BoxAt.cell hb0_1, BoxAt.cell hbx5, wrap_id, bC0]
        refine op_storeB (cs' := #[.int .i64 (X.p), v8_10, v4_3]) st37 hbx5 rfl (OS.one ho8_10).2 rfl (by simp) (allOne_mem (l := [v8_10]) ⟨(OS.one ho8_10).1, trivial⟩) rfl ?_
        intro h8_12 hbx5 c8_12
        replace ho4_3 := OS.chg ho4_3 c8_12 (apart_lt hlho4_3 hfhbx5 (by omega))
        replace ho8_10 := OS.chg ho8_10 c8_12 (Apart.symm ap8)
        replace hb0_0 := BoxAt.chgA hb0_0 c8_12 (apart_lt hlhb0_0 hfhbx5 (by omega))
        replace hb0_1 := BoxAt.chgA hb0_1 c8_12 (apart_lt hlhb0_1 hfhbx5 (by omega))
        have := c8_12.size
        replace eB := Ext.then eB c8_12 (ge_of hfhbx5 (by omega))
        replace cL2 := Chg.step cL2 c8_12 (Sub.right Sub.refl)
        try simp (disch := decide) only [outv_some, outv_none, put_puts]
        refine plK_last (by decide) ?_
        try simp -implicitDefEqProofs (disch := first | decide | assumption | omega) only [go_sem, RdS.len hdX sl37, RdS.idx hdX sl37, R1.intB hdX (Ext.pres eB), RdS.cells hdX, RdS.len hmX sl38, RdS.idx hmX sl38, RdS.cellB hmX (Ext.pres eB), RdS.cells hmX, RdS.len (OS.rd ho4_3) sl38, RdS.idx (OS.rd ho4_3) sl38, RdS.cellN (OS.rd ho4_3), RdS.cells (OS.rd ho4_3), RdS.len (OS.rd ho8_10) sl37, RdS.idx (OS.rd ho8_10) sl37, R1.intN (OS.rd ho8_10), RdS.cells (OS.rd ho8_10), BoxAt.cell hb0_0, BoxAt.cell hb0_1, BoxAt.cell hbx5, wrap_id, bC0]
        refine hK _ _ ?_
        clear hK K
        refine den_blk ?_
        refine den_region TTok ?_
        intro K hK
        simp -implicitDefEqProofs (disch := first | decide | assumption | omega) only [go_sem, RdS.len hdX sl37, RdS.idx hdX sl37, R1.intB hdX (Ext.pres eB), RdS.cells hdX, RdS.len hmX sl38, RdS.idx hmX sl38, RdS.cellB hmX (Ext.pres eB), RdS.cells hmX, RdS.len (OS.rd ho4_3) sl38, RdS.idx (OS.rd ho4_3) sl38, RdS.cellN (OS.rd ho4_3), RdS.cells (OS.rd ho4_3), RdS.len (OS.rd ho8_10) sl37, RdS.idx (OS.rd ho8_10) sl37, R1.intN (OS.rd ho8_10), RdS.cells (OS.rd ho8_10), BoxAt.cell hb0_0, BoxAt.cell hb0_1, BoxAt.cell hbx5, wrap_id, bC0]
        refine hK _ _ ?_
        clear hK K
        refine den_stop ?_
        rw [range_step (fun q : Nat => X.dims.getD ((X.dims.length : Int) - 1 - (q : Int)).toNat 0)] at ho8_10
        exact ⟨(n + 1, v8_10, fp8_10), by simp [HasL, puts_at], ⟨by first | omega | (dsimp only; omega), ho8_10, hfho8_10, sb6, hbx5, (Apart.symm ap8), cL2⟩, by first | omega | (dsimp only; omega)⟩
      · try simp only [decide_eq_true_eq, decide_eq_false_iff_not, beq_iff_eq, beq_eq_false_iff_ne, bne_iff_ne, ne_eq, Bool.not_eq_true', Bool.not_eq_false', Bool.and_eq_true, Bool.or_eq_true, bne_eq_false_iff_eq, Bool.not_eq_true] at c1
        refine den_exit ?_
        refine denX_code ?_
        refine denX_stop ?_
        refine denX_hit ?_
        refine den_seq ?_
        refine den_seq ?_
        refine den_region TTok ?_
        intro K hK
        simp -implicitDefEqProofs (disch := first | decide | assumption | omega) only [go_sem, RdS.len hdX sl37, RdS.idx hdX sl37, R1.intB hdX (Ext.pres eB), RdS.cells hdX, RdS.len hmX sl38, RdS.idx hmX sl38, RdS.cellB hmX (Ext.pres eB), RdS.cells hmX, RdS.len (OS.rd ho4_3) sl38, RdS.idx (OS.rd ho4_3) sl38, RdS.cellN (OS.rd ho4_3), RdS.cells (OS.rd ho4_3), RdS.len (OS.rd hD) sl37, RdS.idx (OS.rd hD) sl37, R1.intN (OS.rd hD), RdS.cells (OS.rd hD), BoxAt.cell hb0_0, BoxAt.cell hb0_1, BoxAt.cell hbx5, wrap_id, bC0]
        refine hK _ _ ?_
        clear hK K
        refine den_block ?_
        refine den_sel [7, 1, 2, 4, 5] ?_
        intro env_9
        simp only [go_sem]
        refine den_loopS (σ := Nat × Value × List Nat) (fun st_ => [(7, .int .i64 (st_.1 : Int))]) (fun st_ H => (st_.1 ≤ X.maps.length) ∧ (O3 H st_.2.1 ((List.range st_.1).map fun q : Nat => dualAt X q) st_.2.2) ∧ (Fresh (h4_2.size) st_.2.2) ∧ (Sub ([h4_2.size] ++ ([h4_3.size])) h4.size st_.2.2) ∧ (BoxAt H (h4_3.size) #[.int .i64 (X.p), vhD, st_.2.1] 44) ∧ (Apart st_.2.2 [h4_3.size]) ∧ (Chg ([h4_2.size] ++ ([h4_3.size])) h4 H)) (fun st_ => X.dims.length - st_.1) (0, v4_3, [h4_2.size]) ?_ ?_
        · exact ⟨by first | (simp; done) | (dsimp only; omega) | (simp; omega), by simpa using ho4_3, hfho4_3, (Sub.left Sub.refl), by simpa using hbx5, (apart_lt hlho4_3 hfhbx5 (by omega)), Chg.refl _ _⟩
        · rintro ⟨m, vhM, fphM⟩ h12 ee11 ⟨hi0, hM, hfhM, sbhM, hbx5, ap_hM_hbx5, cL10⟩
          dsimp only at hi0 hM hfhM sbhM hbx5 ap_hM_hbx5 cL10
          replace hD := OS.chg hD cL10 (Apart.app (Apart.symm ap5) ap_hD_hbx5)
          replace hb0_0 := BoxAt.chgA hb0_0 cL10 (Apart.app (apart_lt hlhb0_0 hfho4_3 (by omega)) (apart_lt hlhb0_0 hfhbx5 (by omega)))
          replace hb0_1 := BoxAt.chgA hb0_1 cL10 (Apart.app (apart_lt hlhb0_1 hfho4_3 (by omega)) (apart_lt hlhb0_1 hfhbx5 (by omega)))
          have := cL10.size
          replace eB := Ext.then eB cL10 (ge_app (ge_of hfho4_3 (by omega)) (ge_of hfhbx5 (by omega)))
          have ap13 : Apart fphD fphM := Apart.sub_ hlhD (by omega) (Apart.app (Apart.symm ap5) ap_hD_hbx5) sbhM
          have hlhM := OS.lt hM
          have hfhbx5 := hfhbx5
          have hlhbx5 := hlhbx5
          simp only [List.cons_append, List.nil_append]
          refine den_seq ?_
          refine den_seq ?_
          refine den_region TTok ?_
          intro K hK
          simp -implicitDefEqProofs (disch := first | decide | assumption | omega) only [go_sem, RdS.len hdX sl37, RdS.idx hdX sl37, R1.intB hdX (Ext.pres eB), RdS.cells hdX, RdS.len hmX sl38, RdS.idx hmX sl38, RdS.cellB hmX (Ext.pres eB), RdS.cells hmX, RdS.len (OS.rd hD) sl37, RdS.idx (OS.rd hD) sl37, R1.intN (OS.rd hD), RdS.cells (OS.rd hD), RdS.len (OS.rd hM) sl38, RdS.idx (OS.rd hM) sl38, RdS.cellN (OS.rd hM), RdS.cells (OS.rd hM), BoxAt.cell hb0_0, BoxAt.cell hb0_1, BoxAt.cell hbx5, wrap_id, bC0]
          refine hK _ _ ?_
          clear hK K
          refine den_cond rfl (fun c2 => ?_) (fun c2 => ?_)
          · try simp only [decide_eq_true_eq, decide_eq_false_iff_not, beq_iff_eq, beq_eq_false_iff_ne, bne_iff_ne, ne_eq, Bool.not_eq_true', Bool.not_eq_false', Bool.and_eq_true, Bool.or_eq_true, bne_eq_false_iff_eq, Bool.not_eq_true] at c2
            refine den_skip ?_
            refine den_seq ?_
            refine den_block ?_
            refine den_seq ?_
            refine den_region TTok ?_
            intro K hK
            simp -implicitDefEqProofs (disch := first | decide | assumption | omega) only [go_sem, RdS.len hdX sl37, RdS.idx hdX sl37, R1.intB hdX (Ext.pres eB), RdS.cells hdX, RdS.len hmX sl38, RdS.idx hmX sl38, RdS.cellB hmX (Ext.pres eB), RdS.cells hmX, RdS.len (OS.rd hD) sl37, RdS.idx (OS.rd hD) sl37, R1.intN (OS.rd hD), RdS.cells (OS.rd hD), RdS.len (OS.rd hM) sl38, RdS.idx (OS.rd hM) sl38, RdS.cellN (OS.rd hM), RdS.cells (OS.rd hM), BoxAt.cell hb0_0, BoxAt.cell hb0_1, BoxAt.cell hbx5, wrap_id, bC0]
            refine hK _ _ ?_
            clear hK K
            have hkl := (hC.lens (k := ((X.dims.length : Int) - 1 - 1 - (m : Int)).toNat) (by omega))
            have hdd := dm_at hC.dm (k := ((X.dims.length : Int) - 1 - 1 - (m : Int)).toNat) (by omega)
            have hdd2 := dm_at hC.dm (k := ((X.dims.length : Int) - 1 - 1 - (m : Int)).toNat + 1) (by omega)
            have hfw := hdd
            have hfR : (X.maps.getD ((X.dims.length : Int) - 1 - 1 - (m : Int)).toNat default).length ≤ 8 := by omega
            have hfr : ∀ i, i < (X.maps.getD ((X.dims.length : Int) - 1 - 1 - (m : Int)).toNat default).length → X.dims.getD ((X.dims.length : Int) - 1 - 1 - (m : Int)).toNat 0 ≤ ((X.maps.getD ((X.dims.length : Int) - 1 - 1 - (m : Int)).toNat default).getD i default).length := fun i hi => by have := hkl.2 i hi; omega
            have hml2 : ((List.range m).map fun q : Nat => dualAt X q).length = m := by simp
            refine den_draw TTok mixed [14, 16] [(0, true), (1, true), (2, true), (3, true), (4, true), (5, true), (6, true), (7, true), (8, true), (9, true), (10, true), (11, true), (12, false), (13, false), (14, false), (15, true), (16, false)] (by kernel_rfl) ?_
            intro K hK
            have hr14 := RdS.rowN hmX ((((((X.dims).length : Int) - (1 : Int)) - (1 : Int)) - (m : Int))).toNat (by omega)
            have hlhr14 := RdS.le hr14
            simp -implicitDefEqProofs (disch := first | decide | assumption | omega) only [go_sem, fa44_1, fa44_2, ld38, ld65, ld37, ld2, RdS.len hdX sl37, RdS.idx hdX sl37, R1.intB hdX (Ext.pres eB), RdS.cells hdX, RdS.len hmX sl38, RdS.idx hmX sl38, RdS.cellB hmX (Ext.pres eB), RdS.cells hmX, RdS.len hr14 sl65, RdS.idx hr14 sl65, RdS.cellB hr14 (Ext.pres eB), RdS.cells hr14, RdS.len (OS.rd hD) sl37, RdS.idx (OS.rd hD) sl37, R1.intN (OS.rd hD), RdS.cells (OS.rd hD), RdS.len (OS.rd hM) sl38, RdS.idx (OS.rd hM) sl38, RdS.cellN (OS.rd hM), RdS.cells (OS.rd hM), BoxAt.cell hb0_0, BoxAt.cell hb0_1, BoxAt.cell hbx5, wrap_id, bC0]
            try simp -implicitDefEqProofs (disch := first | decide | assumption | omega) only [go_sem, RdS.len hdX sl37, RdS.idx hdX sl37, R1.intB hdX (Ext.pres eB), RdS.cells hdX, RdS.len hmX sl38, RdS.idx hmX sl38, RdS.cellB hmX (Ext.pres eB), RdS.cells hmX, RdS.len hr14 sl65, RdS.idx hr14 sl65, RdS.cellB hr14 (Ext.pres eB), RdS.cells hr14, RdS.len (OS.rd hD) sl37, RdS.idx (OS.rd hD) sl37, R1.intN (OS.rd hD), RdS.cells (OS.rd hD), RdS.len (OS.rd hM) sl38, RdS.idx (OS.rd hM) sl38, RdS.cellN (OS.rd hM), RdS.cells (OS.rd hM), BoxAt.cell hb0_0, BoxAt.cell hb0_1, BoxAt.cell hbx5, wrap_id, bC0]
            refine CallA.mono (sFlip_ok _ ((X.maps).getD ((((((X.dims).length : Int) - (1 : Int)) - (1 : Int)) - (m : Int))).toNat default) ((X.dims).getD ((((((X.dims).length : Int) - (1 : Int)) - (1 : Int)) - (m : Int))).toNat 0) _ (RdS.pres hr14 (Ext.pres eB)) hfw hfR hfr) ?_
            intro vw13_12_0 h13_12
            rintro ⟨zvw13_12_0, fw13_12_0, rfl, how13_12_0, hfw13_12_0, e13_12⟩
            replace hD := OS.ext hD e13_12
            replace hM := OS.ext hM e13_12
            replace hb0_0 := BoxAt.ext hb0_0 e13_12
            replace hb0_1 := BoxAt.ext hb0_1 e13_12
            replace hbx5 := BoxAt.ext hbx5 e13_12
            have := Ext.size e13_12
            replace eB := Ext.trans eB e13_12
            replace cL10 := Chg.stepE cL10 e13_12
            have hlhow13_12_0 := OS.lt how13_12_0
            try simp (disch := decide) only [outv_some, outv_none, put_puts]
            refine plK_pres (Ext.pres e13_12) ?_
            try simp -implicitDefEqProofs (disch := first | decide | assumption | omega) only [go_sem, RdS.len hdX sl37, RdS.idx hdX sl37, R1.intB hdX (Ext.pres eB), RdS.cells hdX, RdS.len hmX sl38, RdS.idx hmX sl38, RdS.cellB hmX (Ext.pres eB), RdS.cells hmX, RdS.len hr14 sl65, RdS.idx hr14 sl65, RdS.cellB hr14 (Ext.pres eB), RdS.cells hr14, RdS.len (OS.rd hD) sl37, RdS.idx (OS.rd hD) sl37, R1.intN (OS.rd hD), RdS.cells (OS.rd hD), RdS.len (OS.rd hM) sl38, RdS.idx (OS.rd hM) sl38, RdS.cellN (OS.rd hM), RdS.cells (OS.rd hM), RdS.len (OS.rd how13_12_0) sl65, RdS.idx (OS.rd how13_12_0) sl65, RdS.cellN (OS.rd how13_12_0), RdS.cells (OS.rd how13_12_0), BoxAt.cell hb0_0, BoxAt.cell hb0_1, BoxAt.cell hbx5, wrap_id, bC0]
            refine op_bs1 sz38 rfl (OS.one how13_12_0).2 ?_
            try simp (disch := decide) only [outv_some, outv_none, put_puts]
            refine plK_pres (Ext.pres (Ext.push _ _)) ?_
            try simp -implicitDefEqProofs (disch := first | decide | assumption | omega) only [go_sem, RdS.len hdX sl37, RdS.idx hdX sl37, R1.intB hdX (Ext.pres eB), RdS.cells hdX, RdS.len hmX sl38, RdS.idx hmX sl38, RdS.cellB hmX (Ext.pres eB), RdS.cells hmX, RdS.len hr14 sl65, RdS.idx hr14 sl65, RdS.cellB hr14 (Ext.pres eB), RdS.cells hr14, RdS.len (OS.rd hD) sl37, RdS.idx (OS.rd hD) sl37, R1.intN (OS.rd hD), RdS.cells (OS.rd hD), RdS.len (OS.rd hM) sl38, RdS.idx (OS.rd hM) sl38, RdS.cellN (OS.rd hM), RdS.cells (OS.rd hM), RdS.len (OS.rd how13_12_0) sl65, RdS.idx (OS.rd how13_12_0) sl65, RdS.cellN (OS.rd how13_12_0), RdS.cells (OS.rd how13_12_0), BoxAt.cell hb0_0, BoxAt.cell hb0_1, BoxAt.cell hbx5, wrap_id, bC0]
            refine op_append1 sz38 hM hfhM.nodup how13_12_0 hfw13_12_0.nodup (apart_lt hlhM hfw13_12_0 (by omega)) (by first | omega | (simp; omega)) rfl rfl ?_
            intro v13_14 h13_14 fp13_14 ho13_14 hn13_14 hs13_14 c13_14
            have hsz13_14 := c13_14.size
            have hfho13_14 : Fresh h4_2.size fp13_14 := Fresh.appd hfhM hfw13_12_0 (by omega) (by omega) hn13_14 hs13_14
            have sb15 : Sub ([h4_2.size] ++ ([h4_3.size])) h4.size fp13_14 := Sub.grow sbhM (Sub.fresh hfw13_12_0 (by omega)) (by omega) hs13_14
            replace hD := OS.chg hD c13_14 ap13
            replace hb0_0 := BoxAt.chgA hb0_0 c13_14 (apart_lt hlhb0_0 hfhM (by omega))
            replace hb0_1 := BoxAt.chgA hb0_1 c13_14 (apart_lt hlhb0_1 hfhM (by omega))
            replace hbx5 := BoxAt.chgA hbx5 c13_14 (Apart.symm ap_hM_hbx5)
            have := c13_14.size
            replace eB := Ext.then eB c13_14 (ge_of hfhM (by omega))
            replace cL10 := Chg.step cL10 c13_14 sbhM
            have ap16 : Apart fphD fp13_14 := Apart.grow hlhD (by omega) ap13 (apart_lt hlhD hfw13_12_0 (by omega)) hs13_14
            have ap17 : Apart [h4_3.size] fp13_14 := Apart.grow hlhbx5 (by omega) (Apart.symm ap_hM_hbx5) (apart_lt hlhbx5 hfw13_12_0 (by omega)) hs13_14
            have hlho13_14 := OS.lt ho13_14
            try simp (disch := decide) only [outv_some, outv_none, put_puts]
            refine plK_last (by decide) ?_
            try simp -implicitDefEqProofs (disch := first | decide | assumption | omega) only [go_sem, fa44_2, RdS.len hdX sl37, RdS.idx hdX sl37, R1.intB hdX (Ext.pres eB), RdS.cells hdX, RdS.len hmX sl38, RdS.idx hmX sl38, RdS.cellB hmX (Ext.pres eB), RdS.cells hmX, RdS.len hr14 sl65, RdS.idx hr14 sl65, RdS.cellB hr14 (Ext.pres eB), RdS.cells hr14, RdS.len (OS.rd hD) sl37, RdS.idx (OS.rd hD) sl37, R1.intN (OS.rd hD), RdS.cells (OS.rd hD), RdS.len (OS.rd ho13_14) sl38, RdS.idx (OS.rd ho13_14) sl38, RdS.cellN (OS.rd ho13_14), RdS.cells (OS.rd ho13_14), BoxAt.cell hb0_0, BoxAt.cell hb0_1, BoxAt.cell hbx5, wrap_id, bC0]
            refine op_storeB (cs' := #[.int .i64 (X.p), vhD, v13_14]) st38 hbx5 rfl (OS.one ho13_14).2 rfl (by simp) (allOne_mem (l := [v13_14]) ⟨(OS.one ho13_14).1, trivial⟩) rfl ?_
            intro h13_16 hbx5 c13_16
            replace hD := OS.chg hD c13_16 ap_hD_hbx5
            replace ho13_14 := OS.chg ho13_14 c13_16 (Apart.symm ap17)
            replace hb0_0 := BoxAt.chgA hb0_0 c13_16 (apart_lt hlhb0_0 hfhbx5 (by omega))
            replace hb0_1 := BoxAt.chgA hb0_1 c13_16 (apart_lt hlhb0_1 hfhbx5 (by omega))
            have := c13_16.size
            replace eB := Ext.then eB c13_16 (ge_of hfhbx5 (by omega))
            replace cL10 := Chg.step cL10 c13_16 (Sub.right Sub.refl)
            try simp (disch := decide) only [outv_some, outv_none, put_puts]
            refine plK_last (by decide) ?_
            try simp -implicitDefEqProofs (disch := first | decide | assumption | omega) only [go_sem, RdS.len hdX sl37, RdS.idx hdX sl37, R1.intB hdX (Ext.pres eB), RdS.cells hdX, RdS.len hmX sl38, RdS.idx hmX sl38, RdS.cellB hmX (Ext.pres eB), RdS.cells hmX, RdS.len hr14 sl65, RdS.idx hr14 sl65, RdS.cellB hr14 (Ext.pres eB), RdS.cells hr14, RdS.len (OS.rd hD) sl37, RdS.idx (OS.rd hD) sl37, R1.intN (OS.rd hD), RdS.cells (OS.rd hD), RdS.len (OS.rd ho13_14) sl38, RdS.idx (OS.rd ho13_14) sl38, RdS.cellN (OS.rd ho13_14), RdS.cells (OS.rd ho13_14), BoxAt.cell hb0_0, BoxAt.cell hb0_1, BoxAt.cell hbx5, wrap_id, bC0]
            refine hK _ _ ?_
            clear hK K
            refine den_blk ?_
            refine den_region TTok ?_
            intro K hK
            simp -implicitDefEqProofs (disch := first | decide | assumption | omega) only [go_sem, RdS.len hdX sl37, RdS.idx hdX sl37, R1.intB hdX (Ext.pres eB), RdS.cells hdX, RdS.len hmX sl38, RdS.idx hmX sl38, RdS.cellB hmX (Ext.pres eB), RdS.cells hmX, RdS.len hr14 sl65, RdS.idx hr14 sl65, RdS.cellB hr14 (Ext.pres eB), RdS.cells hr14, RdS.len (OS.rd hD) sl37, RdS.idx (OS.rd hD) sl37, R1.intN (OS.rd hD), RdS.cells (OS.rd hD), RdS.len (OS.rd ho13_14) sl38, RdS.idx (OS.rd ho13_14) sl38, RdS.cellN (OS.rd ho13_14), RdS.cells (OS.rd ho13_14), BoxAt.cell hb0_0, BoxAt.cell hb0_1, BoxAt.cell hbx5, wrap_id, bC0]
            refine hK _ _ ?_
            clear hK K
            refine den_stop ?_
            rw [show flipP (X.maps.getD ((X.dims.length : Int) - 1 - 1 - (m : Int)).toNat default) (X.dims.getD ((X.dims.length : Int) - 1 - 1 - (m : Int)).toNat 0).toNat = dualAt X m from rfl, range_step (fun q : Nat => dualAt X q)] at ho13_14
            exact ⟨(m + 1, v13_14, fp13_14), by simp [HasL, puts_at], ⟨by first | omega | (dsimp only; omega), ho13_14, hfho13_14, sb15, hbx5, (Apart.symm ap17), cL10⟩, by first | omega | (dsimp only; omega)⟩
          · try simp only [decide_eq_true_eq, decide_eq_false_iff_not, beq_iff_eq, beq_eq_false_iff_ne, bne_iff_ne, ne_eq, Bool.not_eq_true', Bool.not_eq_false', Bool.and_eq_true, Bool.or_eq_true, bne_eq_false_iff_eq, Bool.not_eq_true] at c2
            refine den_exit ?_
            refine denX_code ?_
            refine denX_stop ?_
            refine denX_hit ?_
            refine den_seq ?_
            refine den_region TTok ?_
            intro K hK
            simp -implicitDefEqProofs (disch := first | decide | assumption | omega) only [go_sem, ld44, RdS.len hdX sl37, RdS.idx hdX sl37, R1.intB hdX (Ext.pres eB), RdS.cells hdX, RdS.len hmX sl38, RdS.idx hmX sl38, RdS.cellB hmX (Ext.pres eB), RdS.cells hmX, RdS.len (OS.rd hD) sl37, RdS.idx (OS.rd hD) sl37, R1.intN (OS.rd hD), RdS.cells (OS.rd hD), RdS.len (OS.rd hM) sl38, RdS.idx (OS.rd hM) sl38, RdS.cellN (OS.rd hM), RdS.cells (OS.rd hM), BoxAt.cell hb0_1, BoxAt.cell hbx5, wrap_id, bC0]
            refine op_storeB (cs' := #[.int .i64 (X.p), vhD, vhM]) st44 hb0_1 rfl rfl rfl (by simp) (allOne_mem (l := [.int .i64 (X.p), vhD, vhM]) ⟨rfl, (OS.one hD).1, (OS.one hM).1, trivial⟩) rfl ?_
            intro h14_1 hb0_1 c14_1
            replace hD := OS.chg hD c14_1 (apart_gt hfhD hlhb0_1 (by omega))
            replace hM := OS.chg hM c14_1 (apart_gt hfhM hlhb0_1 (by omega))
            replace hbx5 := BoxAt.chgA hbx5 c14_1 (apart_gt hfhbx5 hlhb0_1 (by omega))
            have := c14_1.size
            replace eB := Ext.then eB c14_1 (ge_of hfhb0_1 (by omega))
            try simp -implicitDefEqProofs (disch := first | decide | assumption | omega) only [go_sem, RdS.len hdX sl37, RdS.idx hdX sl37, R1.intB hdX (Ext.pres eB), RdS.cells hdX, RdS.len hmX sl38, RdS.idx hmX sl38, RdS.cellB hmX (Ext.pres eB), RdS.cells hmX, RdS.len (OS.rd hD) sl37, RdS.idx (OS.rd hD) sl37, R1.intN (OS.rd hD), RdS.cells (OS.rd hD), RdS.len (OS.rd hM) sl38, RdS.idx (OS.rd hM) sl38, RdS.cellN (OS.rd hM), RdS.cells (OS.rd hM), BoxAt.cell hb0_1, BoxAt.cell hbx5, wrap_id, bC0]
            refine hK _ _ ?_
            clear hK K
            refine den_ret ?_
            simp -implicitDefEqProofs (disch := first | decide | assumption | omega) only [go_sem, RdS.len hdX sl37, RdS.idx hdX sl37, R1.intB hdX (Ext.pres eB), RdS.cells hdX, RdS.len hmX sl38, RdS.idx hmX sl38, RdS.cellB hmX (Ext.pres eB), RdS.cells hmX, RdS.len (OS.rd hD) sl37, RdS.idx (OS.rd hD) sl37, R1.intN (OS.rd hD), RdS.cells (OS.rd hD), RdS.len (OS.rd hM) sl38, RdS.idx (OS.rd hM) sl38, RdS.cellN (OS.rd hM), RdS.cells (OS.rd hM), BoxAt.cell hb0_1, BoxAt.cell hbx5, wrap_id, bC0, resP_ct, ld44]
            have hz : dualP X = (⟨X.p, X.dims.reverse, dualM X⟩, 0) := by rw [dualP, if_pos c0]
            rw [hz]
            have hD2 := hD
            have hM2 := hM
            rw [show (List.range n).map (fun q : Nat => X.dims.getD ((X.dims.length : Int) - 1 - (q : Int)).toNat 0) = X.dims.reverse by rw [← dualD_all, dualD]; congr 2; omega] at hD2
            rw [show (List.range m).map (fun q : Nat => dualAt X q) = dualM X by rw [dualM, show X.maps.length = m by omega]] at hM2
            exact ⟨_, _, _, _, rfl, hD2, hM2, Fresh.two hfhD hfhM ap13 (by omega) (by omega), eB⟩

set_option maxRecDepth 100000 in
theorem iDual_ok (vX : Value) (X : Cx) (h : Heap) (rX : RC h vX X)  : CallA Try.prog 51 #[vX] h fun v' h' => ∃ wd0 wm0 fd0 fm0, v' = .tuple #[.agg #[.int .i64 ((dualP X).1).p, wd0, wm0], .int .i64 ((dualP X).2)] ∧ O1 h' wd0 ((dualP X).1).dims fd0 ∧ O3 h' wm0 ((dualP X).1).maps fm0 ∧ Fresh h.size (fd0 ++ fm0) ∧ Ext h h' := by
  obtain ⟨vdX, vmX, rfl, hdX, hmX⟩ := rX
  have hledX := RdS.le hdX
  have hlemX := RdS.le hmX
  refine callA_intro TTok (args := [_]) Try.func51 (by kernel_rfl) rfl 23 rfl (by simp) [.cell 2 44, .tmp 3] rfl ?_
  simp only [idxs, Nat.reduceAdd]
  refine den_seq ?_
  refine den_region TTok ?_
  intro K hK
  simp -implicitDefEqProofs (disch := first | decide | assumption | omega) only [go_sem, RdS.len hdX sl37, RdS.idx hdX sl37, R1.intB hdX (HPres.refl _), RdS.cells hdX, RdS.len hmX sl38, RdS.idx hmX sl38, RdS.cellB hmX (HPres.refl _), RdS.cells hmX, wrap_id, bC0]
  refine op_box (cs := #[.int .i64 (X.p), vdX, vmX]) rfl ?_
  intro h0_0 e0_0 hb0_0 z0_0
  have := Ext.size e0_0
  have eB := e0_0
  have hfhb0_0 : Fresh h.size [h.size] := Fresh.one _
  have hlhb0_0 := one_lt (show h.size < h0_0.size by omega)
  try simp -implicitDefEqProofs (disch := first | decide | assumption | omega) only [go_sem, RdS.len hdX sl37, RdS.idx hdX sl37, R1.intB hdX (Ext.pres eB), RdS.cells hdX, RdS.len hmX sl38, RdS.idx hmX sl38, RdS.cellB hmX (Ext.pres eB), RdS.cells hmX, BoxAt.cell hb0_0, wrap_id, bC0]
  refine op_alloc (cs := #[.int .i64 0, .slice none 0 0, .slice none 0 0]) (by kernel_rfl) ?_
  intro h0_1 e0_1 hb0_1 z0_1
  replace hb0_0 := BoxAt.ext hb0_0 e0_1
  have := Ext.size e0_1
  replace eB := Ext.trans eB e0_1
  have hfhb0_1 : Fresh h0_0.size [h0_0.size] := Fresh.one _
  have hlhb0_1 := one_lt (show h0_0.size < h0_1.size by omega)
  try simp -implicitDefEqProofs (disch := first | decide | assumption | omega) only [go_sem, RdS.len hdX sl37, RdS.idx hdX sl37, R1.intB hdX (Ext.pres eB), RdS.cells hdX, RdS.len hmX sl38, RdS.idx hmX sl38, RdS.cellB hmX (Ext.pres eB), RdS.cells hmX, BoxAt.cell hb0_0, BoxAt.cell hb0_1, wrap_id, bC0]
  refine hK _ _ ?_
  clear hK K
  refine den_seq ?_
  refine den_seq ?_
  refine den_region TTok ?_
  intro K hK
  simp -implicitDefEqProofs (disch := first | decide | assumption | omega) only [go_sem, ld44, RdS.len hdX sl37, RdS.idx hdX sl37, R1.intB hdX (Ext.pres eB), RdS.cells hdX, RdS.len hmX sl38, RdS.idx hmX sl38, RdS.cellB hmX (Ext.pres eB), RdS.cells hmX, BoxAt.cell hb0_0, BoxAt.cell hb0_1, wrap_id, bC0]
  try simp -implicitDefEqProofs (disch := first | decide | assumption | omega) only [go_sem, RdS.len hdX sl37, RdS.idx hdX sl37, R1.intB hdX (Ext.pres eB), RdS.cells hdX, RdS.len hmX sl38, RdS.idx hmX sl38, RdS.cellB hmX (Ext.pres eB), RdS.cells hmX, BoxAt.cell hb0_0, BoxAt.cell hb0_1, wrap_id, bC0]
  refine CallA.mono (iIs_ok _ X _ ⟨_, _, rfl, (RdS.pres hdX (Ext.pres eB)), (RdS.pres hmX (Ext.pres eB))⟩) ?_
  intro v_ h1_1
  rintro ⟨rfl, e1_1⟩
  replace hb0_0 := BoxAt.ext hb0_0 e1_1
  replace hb0_1 := BoxAt.ext hb0_1 e1_1
  have := Ext.size e1_1
  replace eB := Ext.trans eB e1_1
  try simp -implicitDefEqProofs (disch := first | decide | assumption | omega) only [go_sem, RdS.len hdX sl37, RdS.idx hdX sl37, R1.intB hdX (Ext.pres eB), RdS.cells hdX, RdS.len hmX sl38, RdS.idx hmX sl38, RdS.cellB hmX (Ext.pres eB), RdS.cells hmX, BoxAt.cell hb0_0, BoxAt.cell hb0_1, wrap_id, bC0]
  refine hK _ _ ?_
  clear hK K
  refine den_cond rfl (fun c0 => ?_) (fun c0 => ?_)
  · try simp only [decide_eq_true_eq, decide_eq_false_iff_not, beq_iff_eq, beq_eq_false_iff_ne, bne_iff_ne, ne_eq, Bool.not_eq_true', Bool.not_eq_false', Bool.and_eq_true, Bool.or_eq_true, bne_eq_false_iff_eq, Bool.not_eq_true] at c0
    refine den_seq ?_
    refine den_region TTok ?_
    intro K hK
    simp -implicitDefEqProofs (disch := first | decide | assumption | omega) only [go_sem, RdS.len hdX sl37, RdS.idx hdX sl37, R1.intB hdX (Ext.pres eB), RdS.cells hdX, RdS.len hmX sl38, RdS.idx hmX sl38, RdS.cellB hmX (Ext.pres eB), RdS.cells hmX, BoxAt.cell hb0_1, wrap_id, bC0]
    refine op_storeB (cs' := #[.int .i64 ((0 : Int)), .slice none 0 0, .slice none 0 0]) st44 hb0_1 rfl rfl rfl (by simp) (allOne_mem (l := [.int .i64 ((0 : Int)), .slice none 0 0, .slice none 0 0]) ⟨rfl, rfl, rfl, trivial⟩) rfl ?_
    intro h2_1 hb0_1 c2_1
    have := c2_1.size
    replace eB := Ext.then eB c2_1 (ge_of hfhb0_1 (by omega))
    try simp -implicitDefEqProofs (disch := first | decide | assumption | omega) only [go_sem, RdS.len hdX sl37, RdS.idx hdX sl37, R1.intB hdX (Ext.pres eB), RdS.cells hdX, RdS.len hmX sl38, RdS.idx hmX sl38, RdS.cellB hmX (Ext.pres eB), RdS.cells hmX, BoxAt.cell hb0_1, wrap_id, bC0]
    refine hK _ _ ?_
    clear hK K
    refine den_ret ?_
    simp -implicitDefEqProofs (disch := first | decide | assumption | omega) only [go_sem, RdS.len hdX sl37, RdS.idx hdX sl37, R1.intB hdX (Ext.pres eB), RdS.cells hdX, RdS.len hmX sl38, RdS.idx hmX sl38, RdS.cellB hmX (Ext.pres eB), RdS.cells hmX, BoxAt.cell hb0_1, wrap_id, bC0, resP_ct, ld44]
    have hz : dualP X = (⟨0, [], []⟩, 1) := by rw [dualP, if_neg (by rw [c0]; decide)]
    rw [hz]
    exact ⟨.slice none 0 0, .slice none 0 0, [], [], rfl, OS.nil, OS.nil, Fresh.nil _, eB⟩
  · try simp only [decide_eq_true_eq, decide_eq_false_iff_not, beq_iff_eq, beq_eq_false_iff_ne, bne_iff_ne, ne_eq, Bool.not_eq_true', Bool.not_eq_false', Bool.and_eq_true, Bool.or_eq_true, bne_eq_false_iff_eq, Bool.not_eq_true] at c0
    have hC := isC_t.1 c0
    have hml := hC.ml
    have hlX := hC.len
    have hpb := isP_bnd hC.p
    refine den_skip ?_
    refine den_seq ?_
    refine den_region TTok ?_
    intro K hK
    simp -implicitDefEqProofs (disch := first | decide | assumption | omega) only [go_sem, fa44_1, ld37, RdS.len hdX sl37, RdS.idx hdX sl37, R1.intB hdX (Ext.pres eB), RdS.cells hdX, RdS.len hmX sl38, RdS.idx hmX sl38, RdS.cellB hmX (Ext.pres eB), RdS.cells hmX, BoxAt.cell hb0_0, BoxAt.cell hb0_1, wrap_id, bC0]
    try simp -implicitDefEqProofs (disch := first | decide | assumption | omega) only [go_sem, RdS.len hdX sl37, RdS.idx hdX sl37, R1.intB hdX (Ext.pres eB), RdS.cells hdX, RdS.len hmX sl38, RdS.idx hmX sl38, RdS.cellB hmX (Ext.pres eB), RdS.cells hmX, BoxAt.cell hb0_0, BoxAt.cell hb0_1, wrap_id, bC0]
    refine CallA.mono (clone1_ok _ X.dims _ (RdS.pres hdX (Ext.pres eB)) (by omega)) ?_
    intro vw3_2_0 h3_2
    rintro ⟨zvw3_2_0, fw3_2_0, rfl, how3_2_0, hfw3_2_0, e3_2⟩
    replace hb0_0 := BoxAt.ext hb0_0 e3_2
    replace hb0_1 := BoxAt.ext hb0_1 e3_2
    have := Ext.size e3_2
    replace eB := Ext.trans eB e3_2
    have hlhow3_2_0 := OS.lt how3_2_0
    try simp -implicitDefEqProofs (disch := first | decide | assumption | omega) only [go_sem, RdS.len hdX sl37, RdS.idx hdX sl37, R1.intB hdX (Ext.pres eB), RdS.cells hdX, RdS.len hmX sl38, RdS.idx hmX sl38, RdS.cellB hmX (Ext.pres eB), RdS.cells hmX, RdS.len (OS.rd how3_2_0) sl37, RdS.idx (OS.rd how3_2_0) sl37, R1.intN (OS.rd how3_2_0), RdS.cells (OS.rd how3_2_0), BoxAt.cell hb0_0, BoxAt.cell hb0_1, wrap_id, bC0]
    refine hK _ _ ?_
    clear hK K
    refine den_seq ?_
    refine den_region TTok ?_
    intro K hK
    simp -implicitDefEqProofs (disch := first | decide | assumption | omega) only [go_sem, RdS.len hdX sl37, RdS.idx hdX sl37, R1.intB hdX (Ext.pres eB), RdS.cells hdX, RdS.len hmX sl38, RdS.idx hmX sl38, RdS.cellB hmX (Ext.pres eB), RdS.cells hmX, RdS.len (OS.rd how3_2_0) sl37, RdS.idx (OS.rd how3_2_0) sl37, R1.intN (OS.rd how3_2_0), RdS.cells (OS.rd how3_2_0), BoxAt.cell hb0_0, BoxAt.cell hb0_1, wrap_id, bC0]
    try simp -implicitDefEqProofs (disch := first | decide | assumption | omega) only [go_sem, RdS.len hdX sl37, RdS.idx hdX sl37, R1.intB hdX (Ext.pres eB), RdS.cells hdX, RdS.len hmX sl38, RdS.idx hmX sl38, RdS.cellB hmX (Ext.pres eB), RdS.cells hmX, RdS.len (OS.rd how3_2_0) sl37, RdS.idx (OS.rd how3_2_0) sl37, R1.intN (OS.rd how3_2_0), RdS.cells (OS.rd how3_2_0), BoxAt.cell hb0_0, BoxAt.cell hb0_1, wrap_id, bC0]
    refine CallA.mono (rev1_ok _ X.dims _ _ how3_2_0 hfw3_2_0.nodup) ?_
    intro v_ h4_1
    rintro ⟨rfl, hog4_1, cg4_1⟩
    replace hb0_0 := BoxAt.chgA hb0_0 cg4_1 (apart_lt hlhb0_0 hfw3_2_0 (by omega))
    replace hb0_1 := BoxAt.chgA hb0_1 cg4_1 (apart_lt hlhb0_1 hfw3_2_0 (by omega))
    have := cg4_1.size
    replace eB := Ext.then eB cg4_1 (ge_of hfw3_2_0 (by omega))
    have hlhog4_1 := OS.lt hog4_1
    try simp -implicitDefEqProofs (disch := first | decide | assumption | omega) only [go_sem, RdS.len hdX sl37, RdS.idx hdX sl37, R1.intB hdX (Ext.pres eB), RdS.cells hdX, RdS.len hmX sl38, RdS.idx hmX sl38, RdS.cellB hmX (Ext.pres eB), RdS.cells hmX, RdS.len (OS.rd hog4_1) sl37, RdS.idx (OS.rd hog4_1) sl37, R1.intN (OS.rd hog4_1), RdS.cells (OS.rd hog4_1), BoxAt.cell hb0_0, BoxAt.cell hb0_1, wrap_id, bC0]
    refine hK _ _ ?_
    clear hK K
    refine den_seq ?_
    have hbD : X.dims.reverse.all (fun x => in3 x 0 8) = true := by rw [List.all_reverse]; exact hC.dm
    have hbL : X.dims.reverse.length ≤ 16 := by rw [List.length_reverse]; omega
    refine den_region TTok ?_
    intro K hK
    simp -implicitDefEqProofs (disch := first | decide | assumption | omega) only [go_sem, fa44_0, ld2, RdS.len hdX sl37, RdS.idx hdX sl37, R1.intB hdX (Ext.pres eB), RdS.cells hdX, RdS.len hmX sl38, RdS.idx hmX sl38, RdS.cellB hmX (Ext.pres eB), RdS.cells hmX, RdS.len (OS.rd hog4_1) sl37, RdS.idx (OS.rd hog4_1) sl37, R1.intN (OS.rd hog4_1), RdS.cells (OS.rd hog4_1), BoxAt.cell hb0_0, BoxAt.cell hb0_1, wrap_id, bC0]
    try simp -implicitDefEqProofs (disch := first | decide | assumption | omega) only [go_sem, RdS.len hdX sl37, RdS.idx hdX sl37, R1.intB hdX (Ext.pres eB), RdS.cells hdX, RdS.len hmX sl38, RdS.idx hmX sl38, RdS.cellB hmX (Ext.pres eB), RdS.cells hmX, RdS.len (OS.rd hog4_1) sl37, RdS.idx (OS.rd hog4_1) sl37, R1.intN (OS.rd hog4_1), RdS.cells (OS.rd hog4_1), BoxAt.cell hb0_0, BoxAt.cell hb0_1, wrap_id, bC0]
    refine CallA.mono (blank_ok _ _ X.dims.reverse _ (OS.rd hog4_1) hbD hbL) ?_
    intro v_ h5_3
    rintro ⟨vw5_3, fw5_3, rfl, how5_3, hfw5_3, e5_3⟩
    replace hog4_1 := OS.ext hog4_1 e5_3
    replace hb0_0 := BoxAt.ext hb0_0 e5_3
    replace hb0_1 := BoxAt.ext hb0_1 e5_3
    have := Ext.size e5_3
    replace eB := Ext.trans eB e5_3
    have hlhow5_3 := OS.lt how5_3
    try simp -implicitDefEqProofs (disch := first | decide | assumption | omega) only [go_sem, RdS.len hdX sl37, RdS.idx hdX sl37, R1.intB hdX (Ext.pres eB), RdS.cells hdX, RdS.len hmX sl38, RdS.idx hmX sl38, RdS.cellB hmX (Ext.pres eB), RdS.cells hmX, RdS.len (OS.rd hog4_1) sl37, RdS.idx (OS.rd hog4_1) sl37, R1.intN (OS.rd hog4_1), RdS.cells (OS.rd hog4_1), RdS.len (OS.rd how5_3) sl38, RdS.idx (OS.rd how5_3) sl38, RdS.cellN (OS.rd how5_3), RdS.cells (OS.rd how5_3), BoxAt.cell hb0_0, BoxAt.cell hb0_1, wrap_id, bC0]
    refine op_alloc (cs := #[.int .i64 0, .slice none 0 0, .slice none 0 0]) (by kernel_rfl) ?_
    intro h5_4 e5_4 hb5_4 z5_4
    replace hog4_1 := OS.ext hog4_1 e5_4
    replace how5_3 := OS.ext how5_3 e5_4
    replace hb0_0 := BoxAt.ext hb0_0 e5_4
    replace hb0_1 := BoxAt.ext hb0_1 e5_4
    have := Ext.size e5_4
    replace eB := Ext.trans eB e5_4
    have hfhb5_4 : Fresh h5_3.size [h5_3.size] := Fresh.one _
    have hlhb5_4 := one_lt (show h5_3.size < h5_4.size by omega)
    try simp -implicitDefEqProofs (disch := first | decide | assumption | omega) only [go_sem, RdS.len hdX sl37, RdS.idx hdX sl37, R1.intB hdX (Ext.pres eB), RdS.cells hdX, RdS.len hmX sl38, RdS.idx hmX sl38, RdS.cellB hmX (Ext.pres eB), RdS.cells hmX, RdS.len (OS.rd hog4_1) sl37, RdS.idx (OS.rd hog4_1) sl37, R1.intN (OS.rd hog4_1), RdS.cells (OS.rd hog4_1), RdS.len (OS.rd how5_3) sl38, RdS.idx (OS.rd how5_3) sl38, RdS.cellN (OS.rd how5_3), RdS.cells (OS.rd how5_3), BoxAt.cell hb0_0, BoxAt.cell hb0_1, BoxAt.cell hb5_4, wrap_id, bC0]
    refine op_storeB (cs' := #[.int .i64 (X.p), vw3_2_0, vw5_3]) st44 hb5_4 rfl rfl rfl (by simp) (allOne_mem (l := [.int .i64 (X.p), vw3_2_0, vw5_3]) ⟨rfl, (OS.one hog4_1).1, (OS.one how5_3).1, trivial⟩) rfl ?_
    intro h5_5 hb5_4 c5_5
    replace hog4_1 := OS.chg hog4_1 c5_5 (apart_lt hlhog4_1 hfhb5_4 (by omega))
    replace how5_3 := OS.chg how5_3 c5_5 (apart_lt hlhow5_3 hfhb5_4 (by omega))
    replace hb0_0 := BoxAt.chgA hb0_0 c5_5 (apart_lt hlhb0_0 hfhb5_4 (by omega))
    replace hb0_1 := BoxAt.chgA hb0_1 c5_5 (apart_lt hlhb0_1 hfhb5_4 (by omega))
    have := c5_5.size
    replace eB := Ext.then eB c5_5 (ge_of hfhb5_4 (by omega))
    try simp -implicitDefEqProofs (disch := first | decide | assumption | omega) only [go_sem, RdS.len hdX sl37, RdS.idx hdX sl37, R1.intB hdX (Ext.pres eB), RdS.cells hdX, RdS.len hmX sl38, RdS.idx hmX sl38, RdS.cellB hmX (Ext.pres eB), RdS.cells hmX, RdS.len (OS.rd hog4_1) sl37, RdS.idx (OS.rd hog4_1) sl37, R1.intN (OS.rd hog4_1), RdS.cells (OS.rd hog4_1), RdS.len (OS.rd how5_3) sl38, RdS.idx (OS.rd how5_3) sl38, RdS.cellN (OS.rd how5_3), RdS.cells (OS.rd how5_3), BoxAt.cell hb0_0, BoxAt.cell hb0_1, BoxAt.cell hb5_4, wrap_id, bC0]
    refine hK _ _ ?_
    clear hK K
    refine den_seq ?_
    have hl_ : X.dims.reverse.length - 1 = X.maps.length := by rw [List.length_reverse]; omega
    have hzs : Sh X.maps.length (dA X) (dB X) (zblk X.dims.reverse (X.dims.reverse.length - 1)) := by rw [hl_]; exact zblk_sh _ _
    have hzi : In3 X.p X.maps.length (dA X) (dB X) (zblk X.dims.reverse (X.dims.reverse.length - 1)) := fun k r c h1 h2 h3 => by rw [hl_, zblk_get _ _ h1 h2 h3]; omega
    refine den_region TTok ?_
    intro K hK
    simp -implicitDefEqProofs (disch := first | decide | assumption | omega) only [go_sem, ld44, RdS.len hdX sl37, RdS.idx hdX sl37, R1.intB hdX (Ext.pres eB), RdS.cells hdX, RdS.len hmX sl38, RdS.idx hmX sl38, RdS.cellB hmX (Ext.pres eB), RdS.cells hmX, RdS.len (OS.rd hog4_1) sl37, RdS.idx (OS.rd hog4_1) sl37, R1.intN (OS.rd hog4_1), RdS.cells (OS.rd hog4_1), RdS.len (OS.rd how5_3) sl38, RdS.idx (OS.rd how5_3) sl38, RdS.cellN (OS.rd how5_3), RdS.cells (OS.rd how5_3), BoxAt.cell hb0_0, BoxAt.cell hb0_1, BoxAt.cell hb5_4, wrap_id, bC0]
    try simp -implicitDefEqProofs (disch := first | decide | assumption | omega) only [go_sem, RdS.len hdX sl37, RdS.idx hdX sl37, R1.intB hdX (Ext.pres eB), RdS.cells hdX, RdS.len hmX sl38, RdS.idx hmX sl38, RdS.cellB hmX (Ext.pres eB), RdS.cells hmX, RdS.len (OS.rd hog4_1) sl37, RdS.idx (OS.rd hog4_1) sl37, R1.intN (OS.rd hog4_1), RdS.cells (OS.rd hog4_1), RdS.len (OS.rd how5_3) sl38, RdS.idx (OS.rd how5_3) sl38, RdS.cellN (OS.rd how5_3), RdS.cells (OS.rd how5_3), BoxAt.cell hb0_0, BoxAt.cell hb0_1, BoxAt.cell hb5_4, wrap_id, bC0]
    refine CallA.mono (each_upd (p := X.p) (L := X.maps.length) (A := dA X) (B := dB X) (U := dualU X) (Ot := (fun H => BoxAt H (h5_3.size) #[.int .i64 X.p, vw3_2_0, vw5_3] 44 ∧ BoxAt H (h.size) #[.int .i64 X.p, vdX, vmX] 44 ∧ O1 H vw3_2_0 X.dims.reverse fw3_2_0)) hpb.1 hdX hmX ⟨how5_3, hzs, hzi, eB, hb5_4, hb0_0, hog4_1⟩ (fun H H' c o => ⟨BoxAt.chgA o.1 c (apart_gt hfhb5_4 hlhow5_3 (by omega)), BoxAt.chgA o.2.1 c (apart_lt hlhb0_0 hfw5_3 (by omega)), OS.chg o.2.2 c (apart_lt hlhog4_1 hfw5_3 (by omega))⟩) (ge_of hfw5_3 (by omega)) (dual_inU hC) (fun s H k i j hk hi hj r => by
    simp only [List.append_toArray, List.cons_append, List.nil_append]
    have hin := dual_in hC hk hi hj
    have hnm := hC.num hk hi hj
    have ek : ((X.dims.length : Int) - 1 - ((k : Int) + 1) + 1 - 1).toNat = X.dims.length - 1 - (k + 1) := by omega
    have hi3 := r.i3 _ _ _ hin.1 hin.2.1 hin.2.2
    have hr1 := r.sh.rows _ hin.1
    have hr2 := r.sh.cols _ _ hin.1 hin.2.1
    have hsl := r.sh.len
    refine (dual1_ok X.p X vdX vmX _ _ X.dims.reverse s _ _ _ _ _ _ _ _ H hdX hmX (OS.rd r.ot.2.2) r.o r.e r.ot.1 r.ot.2.1 hfw5_3.nodup hpb (by omega) (by omega) (by omega) (by rw [ek, hr1]; omega) (by rw [ek]; simp only [Int.toNat_natCast]; rw [hr2]; omega) (by rw [ek]; exact hi3) (by omega)).mono (fun u H' q => ⟨?_, q.2.2⟩)
    have q2 := q.2.1
    rw [ek] at q2
    exact q2)) ?_
    intro v_ h6_2
    rintro ⟨rfl, hog6_2, cg6_2⟩
    replace hog4_1 := OS.chg hog4_1 cg6_2 (apart_lt hlhog4_1 hfw5_3 (by omega))
    replace hb0_0 := BoxAt.chgA hb0_0 cg6_2 (apart_lt hlhb0_0 hfw5_3 (by omega))
    replace hb0_1 := BoxAt.chgA hb0_1 cg6_2 (apart_lt hlhb0_1 hfw5_3 (by omega))
    replace hb5_4 := BoxAt.chgA hb5_4 cg6_2 (apart_gt hfhb5_4 hlhow5_3 (by omega))
    have := cg6_2.size
    replace eB := Ext.then eB cg6_2 (ge_of hfw5_3 (by omega))
    have hlhog6_2 := OS.lt hog6_2
    try simp -implicitDefEqProofs (disch := first | decide | assumption | omega) only [go_sem, RdS.len hdX sl37, RdS.idx hdX sl37, R1.intB hdX (Ext.pres eB), RdS.cells hdX, RdS.len hmX sl38, RdS.idx hmX sl38, RdS.cellB hmX (Ext.pres eB), RdS.cells hmX, RdS.len (OS.rd hog4_1) sl37, RdS.idx (OS.rd hog4_1) sl37, R1.intN (OS.rd hog4_1), RdS.cells (OS.rd hog4_1), RdS.len (OS.rd hog6_2) sl38, RdS.idx (OS.rd hog6_2) sl38, RdS.cellN (OS.rd hog6_2), RdS.cells (OS.rd hog6_2), BoxAt.cell hb0_0, BoxAt.cell hb0_1, BoxAt.cell hb5_4, wrap_id, bC0]
    refine hK _ _ ?_
    clear hK K
    refine den_seq ?_
    refine den_region TTok ?_
    intro K hK
    simp -implicitDefEqProofs (disch := first | decide | assumption | omega) only [go_sem, ld44, RdS.len hdX sl37, RdS.idx hdX sl37, R1.intB hdX (Ext.pres eB), RdS.cells hdX, RdS.len hmX sl38, RdS.idx hmX sl38, RdS.cellB hmX (Ext.pres eB), RdS.cells hmX, RdS.len (OS.rd hog4_1) sl37, RdS.idx (OS.rd hog4_1) sl37, R1.intN (OS.rd hog4_1), RdS.cells (OS.rd hog4_1), RdS.len (OS.rd hog6_2) sl38, RdS.idx (OS.rd hog6_2) sl38, RdS.cellN (OS.rd hog6_2), RdS.cells (OS.rd hog6_2), BoxAt.cell hb0_1, BoxAt.cell hb5_4, wrap_id, bC0]
    refine op_storeB (cs' := #[.int .i64 (X.p), vw3_2_0, vw5_3]) st44 hb0_1 rfl rfl rfl (by simp) (allOne_mem (l := [.int .i64 (X.p), vw3_2_0, vw5_3]) ⟨rfl, (OS.one hog4_1).1, (OS.one hog6_2).1, trivial⟩) rfl ?_
    intro h7_1 hb0_1 c7_1
    replace hog4_1 := OS.chg hog4_1 c7_1 (apart_gt hfw3_2_0 hlhb0_1 (by omega))
    replace hog6_2 := OS.chg hog6_2 c7_1 (apart_gt hfw5_3 hlhb0_1 (by omega))
    replace hb5_4 := BoxAt.chgA hb5_4 c7_1 (apart_gt hfhb5_4 hlhb0_1 (by omega))
    have := c7_1.size
    replace eB := Ext.then eB c7_1 (ge_of hfhb0_1 (by omega))
    try simp -implicitDefEqProofs (disch := first | decide | assumption | omega) only [go_sem, RdS.len hdX sl37, RdS.idx hdX sl37, R1.intB hdX (Ext.pres eB), RdS.cells hdX, RdS.len hmX sl38, RdS.idx hmX sl38, RdS.cellB hmX (Ext.pres eB), RdS.cells hmX, RdS.len (OS.rd hog4_1) sl37, RdS.idx (OS.rd hog4_1) sl37, R1.intN (OS.rd hog4_1), RdS.cells (OS.rd hog4_1), RdS.len (OS.rd hog6_2) sl38, RdS.idx (OS.rd hog6_2) sl38, RdS.cellN (OS.rd hog6_2), RdS.cells (OS.rd hog6_2), BoxAt.cell hb0_1, BoxAt.cell hb5_4, wrap_id, bC0]
    refine hK _ _ ?_
    clear hK K
    refine den_ret ?_
    simp -implicitDefEqProofs (disch := first | decide | assumption | omega) only [go_sem, RdS.len hdX sl37, RdS.idx hdX sl37, R1.intB hdX (Ext.pres eB), RdS.cells hdX, RdS.len hmX sl38, RdS.idx hmX sl38, RdS.cellB hmX (Ext.pres eB), RdS.cells hmX, RdS.len (OS.rd hog4_1) sl37, RdS.idx (OS.rd hog4_1) sl37, R1.intN (OS.rd hog4_1), RdS.cells (OS.rd hog4_1), RdS.len (OS.rd hog6_2) sl38, RdS.idx (OS.rd hog6_2) sl38, RdS.cellN (OS.rd hog6_2), RdS.cells (OS.rd hog6_2), BoxAt.cell hb0_1, BoxAt.cell hb5_4, wrap_id, bC0, resP_ct, ld44]
    have hz : dualP X = (⟨X.p, X.dims.reverse, dualM X⟩, 0) := by rw [dualP, if_pos c0]
    rw [hz]
    have hM2 := hog6_2
    rw [dual_eq hC] at hM2
    exact ⟨_, _, _, _, rfl, hog4_1, hM2, Fresh.two hfw3_2_0 hfw5_3 (apart_lt hlhog4_1 hfw5_3 (by omega)) (by omega) (by omega), eB⟩

end Go.Proofs.Ytkkjhomhndpphaa
