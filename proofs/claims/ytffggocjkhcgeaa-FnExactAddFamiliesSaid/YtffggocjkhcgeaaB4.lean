/-
  Walks: chain maps.
  Conditions: each theorem's own.
-/
import Derived.Test.YtffggocjkhcgeaaB3
set_option linter.unusedVariables false
set_option linter.unusedSimpArgs false
namespace Go.Proofs.Ytffggocjkhcgeaa
open Go
theorem unit_bnd {p : Int} (hp : isP p = true) (n i : Nat) : Bnd p (unitP n i) := fun x hx => by
  have h2 : 2 ≤ p := by simp only [isP, Bool.or_eq_true, beq_iff_eq] at hp; omega
  unfold unitP at hx
  rcases List.mem_or_eq_of_mem_set hx with h1 | h1
  · rw [List.eq_of_mem_replicate h1]; omega
  · omega

set_option maxRecDepth 100000 in
theorem sD_ok (vX vv : Value) (X : Cx) (n : Int) (v : List Int) (h : Heap) (rX : RC h vX X) (rv : R1 h vv v) (hC : IsC X) (hn : 0 ≤ n ∧ n ≤ (X.dims.length : Int) - 1) (hv : (v.length : Int) = X.dims.getD n.toNat 0) (hb : Bnd X.p v) : CallA Try.prog 121 #[vX, .int .i64 n, vv] h fun v' h' => ∃ w0 f0, v' = w0 ∧ O1 h' w0 (diffP X n v) f0 ∧ Fresh h.size f0 ∧ Ext h h' := by
  obtain ⟨vdX, vmX, rfl, hdX, hmX⟩ := rX
  have hledX := RdS.le hdX
  have hlemX := RdS.le hmX
  have hlev := RdS.le rv
  refine callA_intro TTok (args := [_, _, _]) Try.func121 (by kernel_rfl) rfl 21 rfl (by simp) [.tmp 6] rfl ?_
  simp only [idxs, Nat.reduceAdd]
  refine den_seq ?_
  refine den_region TTok ?_
  intro K hK
  simp -implicitDefEqProofs (disch := first | decide | assumption | omega) only [go_sem, RdS.len hdX sl22, RdS.idx hdX sl22, R1.intB hdX (HPres.refl _), RdS.cells hdX, RdS.len hmX sl23, RdS.idx hmX sl23, RdS.cellB hmX (HPres.refl _), RdS.cells hmX, RdS.len rv sl22, RdS.idx rv sl22, R1.intB rv (HPres.refl _), RdS.cells rv, wrap_id]
  refine op_box (cs := #[.int .i64 (X.p), vdX, vmX]) rfl ?_
  intro h0_0 e0_0 hb0_0 z0_0
  have := Ext.size e0_0
  have eB := e0_0
  have hfhb0_0 : Fresh h.size [h.size] := Fresh.one _
  have hlhb0_0 := one_lt (show h.size < h0_0.size by omega)
  try simp -implicitDefEqProofs (disch := first | decide | assumption | omega) only [go_sem, RdS.len hdX sl22, RdS.idx hdX sl22, R1.intB hdX (Ext.pres eB), RdS.cells hdX, RdS.len hmX sl23, RdS.idx hmX sl23, RdS.cellB hmX (Ext.pres eB), RdS.cells hmX, RdS.len rv sl22, RdS.idx rv sl22, R1.intB rv (Ext.pres eB), RdS.cells rv, BoxAt.cell hb0_0, wrap_id]
  refine hK _ _ ?_
  clear hK K
  refine den_seq ?_
  refine den_seq ?_
  refine den_region TTok ?_
  intro K hK
  simp -implicitDefEqProofs (disch := first | decide | assumption | omega) only [go_sem, RdS.len hdX sl22, RdS.idx hdX sl22, R1.intB hdX (Ext.pres eB), RdS.cells hdX, RdS.len hmX sl23, RdS.idx hmX sl23, RdS.cellB hmX (Ext.pres eB), RdS.cells hmX, RdS.len rv sl22, RdS.idx rv sl22, R1.intB rv (Ext.pres eB), RdS.cells rv, BoxAt.cell hb0_0, wrap_id]
  refine hK _ _ ?_
  clear hK K
  refine den_cond rfl (fun c0 => ?_) (fun c0 => ?_)
  · try simp only [decide_eq_true_eq, decide_eq_false_iff_not, beq_iff_eq, beq_eq_false_iff_ne, bne_iff_ne, ne_eq, Bool.not_eq_true', Bool.not_eq_false', Bool.and_eq_true, Bool.or_eq_true, bne_eq_false_iff_eq] at c0
    refine den_seq ?_
    refine den_region TTok ?_
    intro K hK
    simp -implicitDefEqProofs (disch := first | decide | assumption | omega) only [go_sem, RdS.len hdX sl22, RdS.idx hdX sl22, R1.intB hdX (Ext.pres eB), RdS.cells hdX, RdS.len hmX sl23, RdS.idx hmX sl23, RdS.cellB hmX (Ext.pres eB), RdS.cells hmX, RdS.len rv sl22, RdS.idx rv sl22, R1.intB rv (Ext.pres eB), RdS.cells rv, wrap_id]
    refine op_bs0 sz22 OI ?_
    intro v2_0 h2_0 ho2_0 e2_0
    have := Ext.size e2_0
    replace eB := Ext.trans eB e2_0
    have hfho2_0 : Fresh h0_0.size [h0_0.size] := Fresh.one _
    have hlho2_0 := OS.lt ho2_0
    try simp -implicitDefEqProofs (disch := first | decide | assumption | omega) only [go_sem, RdS.len hdX sl22, RdS.idx hdX sl22, R1.intB hdX (Ext.pres eB), RdS.cells hdX, RdS.len hmX sl23, RdS.idx hmX sl23, RdS.cellB hmX (Ext.pres eB), RdS.cells hmX, RdS.len rv sl22, RdS.idx rv sl22, R1.intB rv (Ext.pres eB), RdS.cells rv, RdS.len (OS.rd ho2_0) sl22, RdS.idx (OS.rd ho2_0) sl22, R1.intN (OS.rd ho2_0), RdS.cells (OS.rd ho2_0), wrap_id]
    refine hK _ _ ?_
    clear hK K
    refine den_ret ?_
    simp (disch := decide) only [resP_1, puts_same, puts_ne]
    have e : diffP X n v = [] := by rw [diffP, if_pos (by omega)]
    rw [e]
    exact ⟨_, _, rfl, ho2_0, hfho2_0.mono (by omega), eB⟩
  · try simp only [decide_eq_true_eq, decide_eq_false_iff_not, beq_iff_eq, beq_eq_false_iff_ne, bne_iff_ne, ne_eq, Bool.not_eq_true', Bool.not_eq_false', Bool.and_eq_true, Bool.or_eq_true, bne_eq_false_iff_eq] at c0
    refine den_skip ?_
    refine den_seq ?_
    have hbv := hb
    have hbt := (mapP_ok hC hn.1 hn.2).2
    have hml := (mapP_ok hC hn.1 hn.2).1
    have hdb := dimP_bnd hC (n - 1)
    have hpb := isP_bnd hC.p
    have hlX := hC.len
    refine den_draw TTok mixed [] [(0, true), (1, true), (2, true), (3, true), (5, true), (6, true), (7, true), (8, true), (4, false), (9, false), (10, false), (11, true)] (by kernel_rfl) ?_
    intro K hK
    simp -implicitDefEqProofs (disch := first | decide | assumption | omega) only [go_sem, fa30_0, ld2, ld30, RdS.len hdX sl22, RdS.idx hdX sl22, R1.intB hdX (Ext.pres eB), RdS.cells hdX, RdS.len hmX sl23, RdS.idx hmX sl23, RdS.cellB hmX (Ext.pres eB), RdS.cells hmX, RdS.len rv sl22, RdS.idx rv sl22, R1.intB rv (Ext.pres eB), RdS.cells rv, BoxAt.cell hb0_0, wrap_id]
    try simp -implicitDefEqProofs (disch := first | decide | assumption | omega) only [go_sem, RdS.len hdX sl22, RdS.idx hdX sl22, R1.intB hdX (Ext.pres eB), RdS.cells hdX, RdS.len hmX sl23, RdS.idx hmX sl23, RdS.cellB hmX (Ext.pres eB), RdS.cells hmX, RdS.len rv sl22, RdS.idx rv sl22, R1.intB rv (Ext.pres eB), RdS.cells rv, BoxAt.cell hb0_0, wrap_id]
    refine CallA.mono (sMap_ok _ X n _ ⟨_, _, rfl, (RdS.pres hdX (Ext.pres eB)), (RdS.pres hmX (Ext.pres eB))⟩ hC) ?_
    intro v_ h3_4
    rintro ⟨vw3_4_0, rfl, hrw3_4_0, e3_4⟩
    replace hb0_0 := BoxAt.ext hb0_0 e3_4
    have := Ext.size e3_4
    replace eB := Ext.trans eB e3_4
    have xrw3_4_0 := Ext.refl h3_4
    have hlrw3_4_0 := RdS.le hrw3_4_0
    try simp (disch := decide) only [outv_some, outv_none, put_puts]
    refine plK_pres (Ext.pres e3_4) ?_
    try simp -implicitDefEqProofs (disch := first | decide | assumption | omega) only [go_sem, RdS.len hdX sl22, RdS.idx hdX sl22, R1.intB hdX (Ext.pres eB), RdS.cells hdX, RdS.len hmX sl23, RdS.idx hmX sl23, RdS.cellB hmX (Ext.pres eB), RdS.cells hmX, RdS.len rv sl22, RdS.idx rv sl22, R1.intB rv (Ext.pres eB), RdS.cells rv, BoxAt.cell hb0_0, RdS.len hrw3_4_0 sl56, RdS.idx hrw3_4_0 sl56, RdS.cellB hrw3_4_0 (Ext.pres xrw3_4_0), RdS.cells hrw3_4_0, wrap_id]
    try simp -implicitDefEqProofs (disch := first | decide | assumption | omega) only [go_sem, RdS.len hdX sl22, RdS.idx hdX sl22, R1.intB hdX (Ext.pres eB), RdS.cells hdX, RdS.len hmX sl23, RdS.idx hmX sl23, RdS.cellB hmX (Ext.pres eB), RdS.cells hmX, RdS.len rv sl22, RdS.idx rv sl22, R1.intB rv (Ext.pres eB), RdS.cells rv, BoxAt.cell hb0_0, RdS.len hrw3_4_0 sl56, RdS.idx hrw3_4_0 sl56, RdS.cellB hrw3_4_0 (Ext.pres xrw3_4_0), RdS.cells hrw3_4_0, wrap_id]
    refine CallA.mono (sDim_ok _ X _ _ ⟨_, _, rfl, (RdS.pres hdX (Ext.pres eB)), (RdS.pres hmX (Ext.pres eB))⟩) ?_
    intro v_ h3_9
    rintro ⟨rfl, e3_9⟩
    replace hb0_0 := BoxAt.ext hb0_0 e3_9
    have := Ext.size e3_9
    replace eB := Ext.trans eB e3_9
    replace xrw3_4_0 := Ext.trans xrw3_4_0 e3_9
    try simp (disch := decide) only [outv_some, outv_none, put_puts]
    refine plK_pres (Ext.pres e3_9) ?_
    try simp -implicitDefEqProofs (disch := first | decide | assumption | omega) only [go_sem, RdS.len hdX sl22, RdS.idx hdX sl22, R1.intB hdX (Ext.pres eB), RdS.cells hdX, RdS.len hmX sl23, RdS.idx hmX sl23, RdS.cellB hmX (Ext.pres eB), RdS.cells hmX, RdS.len rv sl22, RdS.idx rv sl22, R1.intB rv (Ext.pres eB), RdS.cells rv, BoxAt.cell hb0_0, RdS.len hrw3_4_0 sl56, RdS.idx hrw3_4_0 sl56, RdS.cellB hrw3_4_0 (Ext.pres xrw3_4_0), RdS.cells hrw3_4_0, wrap_id]
    try simp -implicitDefEqProofs (disch := first | decide | assumption | omega) only [go_sem, RdS.len hdX sl22, RdS.idx hdX sl22, R1.intB hdX (Ext.pres eB), RdS.cells hdX, RdS.len hmX sl23, RdS.idx hmX sl23, RdS.cellB hmX (Ext.pres eB), RdS.cells hmX, RdS.len rv sl22, RdS.idx rv sl22, R1.intB rv (Ext.pres eB), RdS.cells rv, BoxAt.cell hb0_0, RdS.len hrw3_4_0 sl56, RdS.idx hrw3_4_0 sl56, RdS.cellB hrw3_4_0 (Ext.pres xrw3_4_0), RdS.cells hrw3_4_0, wrap_id]
    refine CallA.mono (sApply_ok _ _ _ _ _ _ _ (RdS.pres rv (Ext.pres eB)) (RdS.pres hrw3_4_0 (Ext.pres xrw3_4_0)) (by omega) (by omega) (by omega) hbv hbt) ?_
    intro v3_10 h3_10
    rintro ⟨f3_10, ho3_10, hf3_10, e3_10⟩
    replace hb0_0 := BoxAt.ext hb0_0 e3_10
    have := Ext.size e3_10
    replace eB := Ext.trans eB e3_10
    replace xrw3_4_0 := Ext.trans xrw3_4_0 e3_10
    have hlho3_10 := OS.lt ho3_10
    try simp (disch := decide) only [outv_some, outv_none, put_puts]
    refine plK_pres (Ext.pres e3_10) ?_
    try simp -implicitDefEqProofs (disch := first | decide | assumption | omega) only [go_sem, RdS.len hdX sl22, RdS.idx hdX sl22, R1.intB hdX (Ext.pres eB), RdS.cells hdX, RdS.len hmX sl23, RdS.idx hmX sl23, RdS.cellB hmX (Ext.pres eB), RdS.cells hmX, RdS.len rv sl22, RdS.idx rv sl22, R1.intB rv (Ext.pres eB), RdS.cells rv, RdS.len (OS.rd ho3_10) sl22, RdS.idx (OS.rd ho3_10) sl22, R1.intN (OS.rd ho3_10), RdS.cells (OS.rd ho3_10), BoxAt.cell hb0_0, RdS.len hrw3_4_0 sl56, RdS.idx hrw3_4_0 sl56, RdS.cellB hrw3_4_0 (Ext.pres xrw3_4_0), RdS.cells hrw3_4_0, wrap_id]
    refine hK _ _ ?_
    clear hK K
    refine den_ret ?_
    simp (disch := decide) only [resP_1, puts_same, puts_ne]
    rw [diff_spec hC hn.1 hn.2] at ho3_10
    exact ⟨_, _, rfl, ho3_10, hf3_10.mono (by omega), eB⟩

def chnAt (X Y : Cx) (f : List (List (List Int))) (k i : Nat) : Prop := imgP X Y f 0 (k : Int) ((X.maps.getD k default).getD i default) = diffP Y ((k : Int) + 1) ((f.getD ((k : Int) + 1).toNat default).getD i default)
def IsChn (X Y : Cx) (f : List (List (List Int))) : Prop := ∀ k : Nat, (k : Int) + 1 ≤ (X.dims.length : Int) - 1 → ∀ i, i < (f.getD ((k : Int) + 1).toNat default).length → chnAt X Y f k i
noncomputable def chnP (X Y : Cx) (f : List (List (List Int))) : Bool := pdec (IsChn X Y f)
/-- What a round of the test of chain maps knows. -/
structure ChnR (X Y : Cx) (f : List (List (List Int))) (k i : Nat) : Prop where
  hi : i < (X.maps.getD k default).length
  ml : k < X.maps.length
  row : (((X.maps.getD k default).getD i default).length : Int) = X.dims.getD k 0 ∧ Bnd X.p ((X.maps.getD k default).getD i default)
  img : (((f.getD ((k : Int) + 1).toNat default).getD i default).length : Int) = Y.dims.getD ((k : Int) + 1).toNat 0 ∧ Bnd Y.p ((f.getD ((k : Int) + 1).toNat default).getD i default)
theorem chnR {X Y : Cx} {f : List (List (List Int))} (hX : IsC X) (hY : IsC Y) (hp : X.p = Y.p) (hl : X.dims.length = Y.dims.length) (hF : IsFam X Y f 0) {k i : Nat} (hk : (k : Int) + 1 ≤ (X.dims.length : Int) - 1) (hi : i < (f.getD ((k : Int) + 1).toNat default).length) : ChnR X Y f k i := by
  have hm := hX.ml
  have t := tableP_iff.1 (hX.tb k (by omega))
  have e : (((k : Int) + 1).toNat : Int) = (k : Int) + 1 := by omega
  have hf := hF.at (n := ((k : Int) + 1).toNat) (by have := hF.len; omega)
  have r := hf.2.at hi
  have hi2 : i < (X.maps.getD k default).length := by omega
  refine ⟨hi2, by omega, t.2.at hi2, ?_, hp ▸ r.2⟩
  rw [r.1, Int.add_zero, dimP, if_pos (in3_iff.2 ⟨by omega, by omega⟩), e]

set_option maxRecDepth 100000 in
theorem iChn_ok (vX vY vf : Value) (X : Cx) (Y : Cx) (f : List (List (List Int))) (h : Heap) (rX : RC h vX X) (rY : RC h vY Y) (rf : R3 h vf f) (hX : IsC X) (hY : IsC Y) (hF : IsFam X Y f 0) (hp : X.p = Y.p) (hl : X.dims.length = Y.dims.length) : CallA Try.prog 95 #[vX, vY, vf] h fun v' h' => v' = .bool (chnP X Y f) ∧ Ext h h' := by
  obtain ⟨vdX, vmX, rfl, hdX, hmX⟩ := rX
  have hledX := RdS.le hdX
  have hlemX := RdS.le hmX
  obtain ⟨vdY, vmY, rfl, hdY, hmY⟩ := rY
  have hledY := RdS.le hdY
  have hlemY := RdS.le hmY
  have hlef := RdS.le rf
  have hlX := hX.len
  have hlF := hF.len
  refine callA_intro TTok (args := [_, _, _]) Try.func95 (by kernel_rfl) rfl 48 rfl (by simp) [.tmp 6] rfl ?_
  simp only [idxs, Nat.reduceAdd]
  refine den_seq ?_
  refine den_region TTok ?_
  intro K hK
  simp -implicitDefEqProofs (disch := first | decide | assumption | omega) only [go_sem, RdS.len hdX sl22, RdS.idx hdX sl22, R1.intB hdX (HPres.refl _), RdS.cells hdX, RdS.len hmX sl23, RdS.idx hmX sl23, RdS.cellB hmX (HPres.refl _), RdS.cells hmX, RdS.len hdY sl22, RdS.idx hdY sl22, R1.intB hdY (HPres.refl _), RdS.cells hdY, RdS.len hmY sl23, RdS.idx hmY sl23, RdS.cellB hmY (HPres.refl _), RdS.cells hmY, RdS.len rf sl23, RdS.idx rf sl23, RdS.cellB rf (HPres.refl _), RdS.cells rf, wrap_id, Int.add_sub_cancel]
  refine op_box (cs := #[.int .i64 (X.p), vdX, vmX]) rfl ?_
  intro h0_0 e0_0 hb0_0 z0_0
  have := Ext.size e0_0
  have eB := e0_0
  have hfhb0_0 : Fresh h.size [h.size] := Fresh.one _
  have hlhb0_0 := one_lt (show h.size < h0_0.size by omega)
  try simp -implicitDefEqProofs (disch := first | decide | assumption | omega) only [go_sem, RdS.len hdX sl22, RdS.idx hdX sl22, R1.intB hdX (Ext.pres eB), RdS.cells hdX, RdS.len hmX sl23, RdS.idx hmX sl23, RdS.cellB hmX (Ext.pres eB), RdS.cells hmX, RdS.len hdY sl22, RdS.idx hdY sl22, R1.intB hdY (Ext.pres eB), RdS.cells hdY, RdS.len hmY sl23, RdS.idx hmY sl23, RdS.cellB hmY (Ext.pres eB), RdS.cells hmY, RdS.len rf sl23, RdS.idx rf sl23, RdS.cellB rf (Ext.pres eB), RdS.cells rf, BoxAt.cell hb0_0, wrap_id, Int.add_sub_cancel]
  refine op_box (cs := #[.int .i64 (Y.p), vdY, vmY]) rfl ?_
  intro h0_1 e0_1 hb0_1 z0_1
  replace hb0_0 := BoxAt.ext hb0_0 e0_1
  have := Ext.size e0_1
  replace eB := Ext.trans eB e0_1
  have hfhb0_1 : Fresh h0_0.size [h0_0.size] := Fresh.one _
  have hlhb0_1 := one_lt (show h0_0.size < h0_1.size by omega)
  try simp -implicitDefEqProofs (disch := first | decide | assumption | omega) only [go_sem, RdS.len hdX sl22, RdS.idx hdX sl22, R1.intB hdX (Ext.pres eB), RdS.cells hdX, RdS.len hmX sl23, RdS.idx hmX sl23, RdS.cellB hmX (Ext.pres eB), RdS.cells hmX, RdS.len hdY sl22, RdS.idx hdY sl22, R1.intB hdY (Ext.pres eB), RdS.cells hdY, RdS.len hmY sl23, RdS.idx hmY sl23, RdS.cellB hmY (Ext.pres eB), RdS.cells hmY, RdS.len rf sl23, RdS.idx rf sl23, RdS.cellB rf (Ext.pres eB), RdS.cells rf, BoxAt.cell hb0_0, BoxAt.cell hb0_1, wrap_id, Int.add_sub_cancel]
  refine hK _ _ ?_
  clear hK K
  refine den_seq ?_
  refine den_seq ?_
  refine den_region TTok ?_
  intro K hK
  simp -implicitDefEqProofs (disch := first | decide | assumption | omega) only [go_sem, RdS.len hdX sl22, RdS.idx hdX sl22, R1.intB hdX (Ext.pres eB), RdS.cells hdX, RdS.len hmX sl23, RdS.idx hmX sl23, RdS.cellB hmX (Ext.pres eB), RdS.cells hmX, RdS.len hdY sl22, RdS.idx hdY sl22, R1.intB hdY (Ext.pres eB), RdS.cells hdY, RdS.len hmY sl23, RdS.idx hmY sl23, RdS.cellB hmY (Ext.pres eB), RdS.cells hmY, RdS.len rf sl23, RdS.idx rf sl23, RdS.cellB rf (Ext.pres eB), RdS.cells rf, BoxAt.cell hb0_0, BoxAt.cell hb0_1, wrap_id, Int.add_sub_cancel]
  refine hK _ _ ?_
  clear hK K
  refine den_block ?_
  refine den_sel [7, 2, 3, 4] ?_
  intro env_1
  simp only [go_sem]
  refine den_loopS (σ := Nat) (fun st_ => [(7, .int .i64 ((st_ : Int) + 1))]) (fun st_ H => ((st_ : Int) ≤ (X.dims.length : Int) - 1) ∧ (∀ j : Nat, j < st_ → ∀ i, i < (f.getD ((j : Int) + 1).toNat default).length → chnAt X Y f j i) ∧ (Ext h0_1 H)) (fun st_ => X.dims.length - st_) 0 ?_ ?_
  · exact ⟨by show ((0 : Nat) : Int) ≤ _; omega, fun j hj => by omega, Ext.refl _⟩
  · rintro k h4 ee3 ⟨hk, hz, cL2⟩
    replace hb0_0 := BoxAt.ext hb0_0 cL2
    replace hb0_1 := BoxAt.ext hb0_1 cL2
    have := Ext.size cL2
    replace eB := Ext.trans eB cL2
    simp only [List.cons_append, List.nil_append]
    refine den_seq ?_
    refine den_seq ?_
    refine den_region TTok ?_
    intro K hK
    simp -implicitDefEqProofs (disch := first | decide | assumption | omega) only [go_sem, ld30, RdS.len hdX sl22, RdS.idx hdX sl22, R1.intB hdX (Ext.pres eB), RdS.cells hdX, RdS.len hmX sl23, RdS.idx hmX sl23, RdS.cellB hmX (Ext.pres eB), RdS.cells hmX, RdS.len hdY sl22, RdS.idx hdY sl22, R1.intB hdY (Ext.pres eB), RdS.cells hdY, RdS.len hmY sl23, RdS.idx hmY sl23, RdS.cellB hmY (Ext.pres eB), RdS.cells hmY, RdS.len rf sl23, RdS.idx rf sl23, RdS.cellB rf (Ext.pres eB), RdS.cells rf, BoxAt.cell hb0_0, BoxAt.cell hb0_1, wrap_id, Int.add_sub_cancel]
    try simp -implicitDefEqProofs (disch := first | decide | assumption | omega) only [go_sem, RdS.len hdX sl22, RdS.idx hdX sl22, R1.intB hdX (Ext.pres eB), RdS.cells hdX, RdS.len hmX sl23, RdS.idx hmX sl23, RdS.cellB hmX (Ext.pres eB), RdS.cells hmX, RdS.len hdY sl22, RdS.idx hdY sl22, R1.intB hdY (Ext.pres eB), RdS.cells hdY, RdS.len hmY sl23, RdS.idx hmY sl23, RdS.cellB hmY (Ext.pres eB), RdS.cells hmY, RdS.len rf sl23, RdS.idx rf sl23, RdS.cellB rf (Ext.pres eB), RdS.cells rf, BoxAt.cell hb0_0, BoxAt.cell hb0_1, wrap_id, Int.add_sub_cancel]
    refine CallA.mono (top_ok _ X _ ⟨_, _, rfl, (RdS.pres hdX (Ext.pres eB)), (RdS.pres hmX (Ext.pres eB))⟩) ?_
    intro v_ h2_2
    rintro ⟨rfl, e2_2⟩
    replace hb0_0 := BoxAt.ext hb0_0 e2_2
    replace hb0_1 := BoxAt.ext hb0_1 e2_2
    have := Ext.size e2_2
    replace eB := Ext.trans eB e2_2
    replace cL2 := Ext.trans cL2 e2_2
    try simp -implicitDefEqProofs (disch := first | decide | assumption | omega) only [go_sem, RdS.len hdX sl22, RdS.idx hdX sl22, R1.intB hdX (Ext.pres eB), RdS.cells hdX, RdS.len hmX sl23, RdS.idx hmX sl23, RdS.cellB hmX (Ext.pres eB), RdS.cells hmX, RdS.len hdY sl22, RdS.idx hdY sl22, R1.intB hdY (Ext.pres eB), RdS.cells hdY, RdS.len hmY sl23, RdS.idx hmY sl23, RdS.cellB hmY (Ext.pres eB), RdS.cells hmY, RdS.len rf sl23, RdS.idx rf sl23, RdS.cellB rf (Ext.pres eB), RdS.cells rf, BoxAt.cell hb0_0, BoxAt.cell hb0_1, wrap_id, Int.add_sub_cancel]
    refine hK _ _ ?_
    clear hK K
    refine den_cond rfl (fun c0 => ?_) (fun c0 => ?_)
    · try simp only [decide_eq_true_eq, decide_eq_false_iff_not, beq_iff_eq, beq_eq_false_iff_ne, bne_iff_ne, ne_eq, Bool.not_eq_true', Bool.not_eq_false', Bool.and_eq_true, Bool.or_eq_true, bne_eq_false_iff_eq] at c0
      refine den_skip ?_
      refine den_seq ?_
      refine den_block ?_
      refine den_seq ?_
      refine den_region TTok ?_
      intro K hK
      have hr5 := RdS.rowN rf (((k : Int) + (1 : Int))).toNat (by omega)
      have hlhr5 := RdS.le hr5
      simp -implicitDefEqProofs (disch := first | decide | assumption | omega) only [go_sem, ld56, RdS.len hdX sl22, RdS.idx hdX sl22, R1.intB hdX (Ext.pres eB), RdS.cells hdX, RdS.len hmX sl23, RdS.idx hmX sl23, RdS.cellB hmX (Ext.pres eB), RdS.cells hmX, RdS.len hdY sl22, RdS.idx hdY sl22, R1.intB hdY (Ext.pres eB), RdS.cells hdY, RdS.len hmY sl23, RdS.idx hmY sl23, RdS.cellB hmY (Ext.pres eB), RdS.cells hmY, RdS.len rf sl23, RdS.idx rf sl23, RdS.cellB rf (Ext.pres eB), RdS.cells rf, RdS.len hr5 sl56, RdS.idx hr5 sl56, RdS.cellB hr5 (Ext.pres eB), RdS.cells hr5, BoxAt.cell hb0_0, BoxAt.cell hb0_1, wrap_id, Int.add_sub_cancel]
      refine hK _ _ ?_
      clear hK K
      refine den_block ?_
      refine den_sel [21, 2, 3, 4, 7, 19, 20] ?_
      intro env_6
      simp only [go_sem]
      refine den_loopS (σ := Nat) (fun st_ => [(21, .int .i64 (st_ : Int))]) (fun st_ H => (st_ ≤ (f.getD ((k : Int) + 1).toNat default).length) ∧ (∀ j, j < st_ → chnAt X Y f k j) ∧ (Ext h2_2 H)) (fun st_ => (f.getD ((k : Int) + 1).toNat default).length - st_) 0 ?_ ?_
      · exact ⟨by simp, fun j hj => by omega, Ext.refl _⟩
      · rintro i h9 ee8 ⟨hi, hy, cL7⟩
        replace hb0_0 := BoxAt.ext hb0_0 cL7
        replace hb0_1 := BoxAt.ext hb0_1 cL7
        have := Ext.size cL7
        replace eB := Ext.trans eB cL7
        replace cL2 := Ext.trans cL2 cL7
        simp only [List.cons_append, List.nil_append]
        refine den_seq ?_
        refine den_region TTok ?_
        intro K hK
        simp -implicitDefEqProofs (disch := first | decide | assumption | omega) only [go_sem, RdS.len hdX sl22, RdS.idx hdX sl22, R1.intB hdX (Ext.pres eB), RdS.cells hdX, RdS.len hmX sl23, RdS.idx hmX sl23, RdS.cellB hmX (Ext.pres eB), RdS.cells hmX, RdS.len hdY sl22, RdS.idx hdY sl22, R1.intB hdY (Ext.pres eB), RdS.cells hdY, RdS.len hmY sl23, RdS.idx hmY sl23, RdS.cellB hmY (Ext.pres eB), RdS.cells hmY, RdS.len rf sl23, RdS.idx rf sl23, RdS.cellB rf (Ext.pres eB), RdS.cells rf, RdS.len hr5 sl56, RdS.idx hr5 sl56, RdS.cellB hr5 (Ext.pres eB), RdS.cells hr5, BoxAt.cell hb0_0, BoxAt.cell hb0_1, wrap_id, Int.add_sub_cancel]
        refine hK _ _ ?_
        clear hK K
        refine den_seq ?_
        refine den_cond rfl (fun c1 => ?_) (fun c1 => ?_)
        · try simp only [decide_eq_true_eq, decide_eq_false_iff_not, beq_iff_eq, beq_eq_false_iff_ne, bne_iff_ne, ne_eq, Bool.not_eq_true', Bool.not_eq_false', Bool.and_eq_true, Bool.or_eq_true, bne_eq_false_iff_eq] at c1
          refine den_skip ?_
          refine den_seq ?_
          refine den_block ?_
          refine den_seq ?_
          refine den_region TTok ?_
          intro K hK
          have hr10 := RdS.rowN hr5 i (by omega)
          have hlhr10 := RdS.le hr10
          simp -implicitDefEqProofs (disch := first | decide | assumption | omega) only [go_sem, ld22, RdS.len hdX sl22, RdS.idx hdX sl22, R1.intB hdX (Ext.pres eB), RdS.cells hdX, RdS.len hmX sl23, RdS.idx hmX sl23, RdS.cellB hmX (Ext.pres eB), RdS.cells hmX, RdS.len hdY sl22, RdS.idx hdY sl22, R1.intB hdY (Ext.pres eB), RdS.cells hdY, RdS.len hmY sl23, RdS.idx hmY sl23, RdS.cellB hmY (Ext.pres eB), RdS.cells hmY, RdS.len rf sl23, RdS.idx rf sl23, RdS.cellB rf (Ext.pres eB), RdS.cells rf, RdS.len hr5 sl56, RdS.idx hr5 sl56, RdS.cellB hr5 (Ext.pres eB), RdS.cells hr5, RdS.len hr10 sl22, RdS.idx hr10 sl22, R1.intB hr10 (Ext.pres eB), RdS.cells hr10, BoxAt.cell hb0_0, BoxAt.cell hb0_1, wrap_id, Int.add_sub_cancel]
          refine hK _ _ ?_
          clear hK K
          refine den_seq ?_
          have hR := chnR hX hY hp hl hF (k := k) (i := i) (by omega) (by omega)
          have hRi := hR.hi
          have hRm := hR.ml
          have hRl := hR.row.1
          have hRy := hR.img.1
          have hvv : 0 ≤ (k : Int) ∧ (k : Int) ≤ (X.dims.length : Int) - 1 → (((X.maps.getD k default).getD i default).length : Int) = X.dims.getD (k : Int).toNat 0 ∧ Bnd X.p ((X.maps.getD k default).getD i default) := fun _ => hR.row
          have hdb := hR.img.2
          have hdl : 0 < (k : Int) + 1 → (k : Int) + 1 ≤ (Y.dims.length : Int) - 1 → (((f.getD ((k : Int) + 1).toNat default).getD i default).length : Int) = Y.dims.getD ((k : Int) + 1).toNat 0 := fun _ _ => hR.img.1
          have happ : ∀ v, appP X Y f 0 (k : Int) v = imgP X Y f 0 (k : Int) v := fun v => by rw [appP, if_pos (in3_iff.2 ⟨by omega, by omega⟩)]
          refine den_draw TTok mixed [] [(0, true), (1, true), (2, true), (3, true), (4, true), (5, true), (6, true), (7, true), (8, true), (9, true), (10, true), (11, true), (12, true), (13, true), (15, true), (16, true), (17, true), (14, false), (18, false), (19, false), (20, true)] (by kernel_rfl) ?_
          intro K hK
          have hr11 := RdS.rowN hmX k (by omega)
          have hlhr11 := RdS.le hr11
          have hr12 := RdS.rowN hr11 i (by omega)
          have hlhr12 := RdS.le hr12
          simp -implicitDefEqProofs (disch := first | decide | assumption | omega) only [go_sem, fa30_2, ld23, ld56, ld22, ld30, RdS.len hdX sl22, RdS.idx hdX sl22, R1.intB hdX (Ext.pres eB), RdS.cells hdX, RdS.len hmX sl23, RdS.idx hmX sl23, RdS.cellB hmX (Ext.pres eB), RdS.cells hmX, RdS.len hdY sl22, RdS.idx hdY sl22, R1.intB hdY (Ext.pres eB), RdS.cells hdY, RdS.len hmY sl23, RdS.idx hmY sl23, RdS.cellB hmY (Ext.pres eB), RdS.cells hmY, RdS.len rf sl23, RdS.idx rf sl23, RdS.cellB rf (Ext.pres eB), RdS.cells rf, RdS.len hr5 sl56, RdS.idx hr5 sl56, RdS.cellB hr5 (Ext.pres eB), RdS.cells hr5, RdS.len hr10 sl22, RdS.idx hr10 sl22, R1.intB hr10 (Ext.pres eB), RdS.cells hr10, RdS.len hr11 sl56, RdS.idx hr11 sl56, RdS.cellB hr11 (Ext.pres eB), RdS.cells hr11, RdS.len hr12 sl22, RdS.idx hr12 sl22, R1.intB hr12 (Ext.pres eB), RdS.cells hr12, BoxAt.cell hb0_0, BoxAt.cell hb0_1, wrap_id, Int.add_sub_cancel]
          try simp -implicitDefEqProofs (disch := first | decide | assumption | omega) only [go_sem, RdS.len hdX sl22, RdS.idx hdX sl22, R1.intB hdX (Ext.pres eB), RdS.cells hdX, RdS.len hmX sl23, RdS.idx hmX sl23, RdS.cellB hmX (Ext.pres eB), RdS.cells hmX, RdS.len hdY sl22, RdS.idx hdY sl22, R1.intB hdY (Ext.pres eB), RdS.cells hdY, RdS.len hmY sl23, RdS.idx hmY sl23, RdS.cellB hmY (Ext.pres eB), RdS.cells hmY, RdS.len rf sl23, RdS.idx rf sl23, RdS.cellB rf (Ext.pres eB), RdS.cells rf, RdS.len hr5 sl56, RdS.idx hr5 sl56, RdS.cellB hr5 (Ext.pres eB), RdS.cells hr5, RdS.len hr10 sl22, RdS.idx hr10 sl22, R1.intB hr10 (Ext.pres eB), RdS.cells hr10, RdS.len hr11 sl56, RdS.idx hr11 sl56, RdS.cellB hr11 (Ext.pres eB), RdS.cells hr11, RdS.len hr12 sl22, RdS.idx hr12 sl22, R1.intB hr12 (Ext.pres eB), RdS.cells hr12, BoxAt.cell hb0_0, BoxAt.cell hb0_1, wrap_id, Int.add_sub_cancel]
          refine CallA.mono (iApp_ok _ _ _ _ X Y f (0 : Int) (k : Int) (((X.maps).getD k default).getD i default) _ ⟨_, _, rfl, (RdS.pres hdX (Ext.pres eB)), (RdS.pres hmX (Ext.pres eB))⟩ ⟨_, _, rfl, (RdS.pres hdY (Ext.pres eB)), (RdS.pres hmY (Ext.pres eB))⟩ (RdS.pres rf (Ext.pres eB)) (RdS.pres hr12 (Ext.pres eB)) (hX) (hY) hF (by omega) (by omega) hvv) ?_
          intro v_ h7_14
          rintro ⟨vw7_14_0, fw7_14_0, rfl, how7_14_0, hfw7_14_0, e7_14⟩
          replace hb0_0 := BoxAt.ext hb0_0 e7_14
          replace hb0_1 := BoxAt.ext hb0_1 e7_14
          have := Ext.size e7_14
          replace eB := Ext.trans eB e7_14
          replace cL2 := Ext.trans cL2 e7_14
          replace cL7 := Ext.trans cL7 e7_14
          have hlhow7_14_0 := OS.lt how7_14_0
          try simp (disch := decide) only [outv_some, outv_none, put_puts]
          refine plK_pres (Ext.pres e7_14) ?_
          try simp -implicitDefEqProofs (disch := first | decide | assumption | omega) only [go_sem, RdS.len hdX sl22, RdS.idx hdX sl22, R1.intB hdX (Ext.pres eB), RdS.cells hdX, RdS.len hmX sl23, RdS.idx hmX sl23, RdS.cellB hmX (Ext.pres eB), RdS.cells hmX, RdS.len hdY sl22, RdS.idx hdY sl22, R1.intB hdY (Ext.pres eB), RdS.cells hdY, RdS.len hmY sl23, RdS.idx hmY sl23, RdS.cellB hmY (Ext.pres eB), RdS.cells hmY, RdS.len rf sl23, RdS.idx rf sl23, RdS.cellB rf (Ext.pres eB), RdS.cells rf, RdS.len hr5 sl56, RdS.idx hr5 sl56, RdS.cellB hr5 (Ext.pres eB), RdS.cells hr5, RdS.len hr10 sl22, RdS.idx hr10 sl22, R1.intB hr10 (Ext.pres eB), RdS.cells hr10, RdS.len hr11 sl56, RdS.idx hr11 sl56, RdS.cellB hr11 (Ext.pres eB), RdS.cells hr11, RdS.len hr12 sl22, RdS.idx hr12 sl22, R1.intB hr12 (Ext.pres eB), RdS.cells hr12, RdS.len (OS.rd how7_14_0) sl22, RdS.idx (OS.rd how7_14_0) sl22, R1.intN (OS.rd how7_14_0), RdS.cells (OS.rd how7_14_0), BoxAt.cell hb0_0, BoxAt.cell hb0_1, wrap_id, Int.add_sub_cancel]
          try simp -implicitDefEqProofs (disch := first | decide | assumption | omega) only [go_sem, RdS.len hdX sl22, RdS.idx hdX sl22, R1.intB hdX (Ext.pres eB), RdS.cells hdX, RdS.len hmX sl23, RdS.idx hmX sl23, RdS.cellB hmX (Ext.pres eB), RdS.cells hmX, RdS.len hdY sl22, RdS.idx hdY sl22, R1.intB hdY (Ext.pres eB), RdS.cells hdY, RdS.len hmY sl23, RdS.idx hmY sl23, RdS.cellB hmY (Ext.pres eB), RdS.cells hmY, RdS.len rf sl23, RdS.idx rf sl23, RdS.cellB rf (Ext.pres eB), RdS.cells rf, RdS.len hr5 sl56, RdS.idx hr5 sl56, RdS.cellB hr5 (Ext.pres eB), RdS.cells hr5, RdS.len hr10 sl22, RdS.idx hr10 sl22, R1.intB hr10 (Ext.pres eB), RdS.cells hr10, RdS.len hr11 sl56, RdS.idx hr11 sl56, RdS.cellB hr11 (Ext.pres eB), RdS.cells hr11, RdS.len hr12 sl22, RdS.idx hr12 sl22, R1.intB hr12 (Ext.pres eB), RdS.cells hr12, RdS.len (OS.rd how7_14_0) sl22, RdS.idx (OS.rd how7_14_0) sl22, R1.intN (OS.rd how7_14_0), RdS.cells (OS.rd how7_14_0), BoxAt.cell hb0_0, BoxAt.cell hb0_1, wrap_id, Int.add_sub_cancel]
          refine CallA.mono (diff_ok _ Y _ _ _ _ ⟨_, _, rfl, (RdS.pres hdY (Ext.pres eB)), (RdS.pres hmY (Ext.pres eB))⟩ (RdS.pres hr10 (Ext.pres eB)) hY.pre hdb hdl) ?_
          intro v7_18 h7_18
          rintro ⟨f7_18, ho7_18, hf7_18, e7_18⟩
          replace how7_14_0 := OS.ext how7_14_0 e7_18
          replace hb0_0 := BoxAt.ext hb0_0 e7_18
          replace hb0_1 := BoxAt.ext hb0_1 e7_18
          have := Ext.size e7_18
          replace eB := Ext.trans eB e7_18
          replace cL2 := Ext.trans cL2 e7_18
          replace cL7 := Ext.trans cL7 e7_18
          have hlho7_18 := OS.lt ho7_18
          try simp (disch := decide) only [outv_some, outv_none, put_puts]
          refine plK_pres (Ext.pres e7_18) ?_
          try simp -implicitDefEqProofs (disch := first | decide | assumption | omega) only [go_sem, RdS.len hdX sl22, RdS.idx hdX sl22, R1.intB hdX (Ext.pres eB), RdS.cells hdX, RdS.len hmX sl23, RdS.idx hmX sl23, RdS.cellB hmX (Ext.pres eB), RdS.cells hmX, RdS.len hdY sl22, RdS.idx hdY sl22, R1.intB hdY (Ext.pres eB), RdS.cells hdY, RdS.len hmY sl23, RdS.idx hmY sl23, RdS.cellB hmY (Ext.pres eB), RdS.cells hmY, RdS.len rf sl23, RdS.idx rf sl23, RdS.cellB rf (Ext.pres eB), RdS.cells rf, RdS.len hr5 sl56, RdS.idx hr5 sl56, RdS.cellB hr5 (Ext.pres eB), RdS.cells hr5, RdS.len hr10 sl22, RdS.idx hr10 sl22, R1.intB hr10 (Ext.pres eB), RdS.cells hr10, RdS.len hr11 sl56, RdS.idx hr11 sl56, RdS.cellB hr11 (Ext.pres eB), RdS.cells hr11, RdS.len hr12 sl22, RdS.idx hr12 sl22, R1.intB hr12 (Ext.pres eB), RdS.cells hr12, RdS.len (OS.rd how7_14_0) sl22, RdS.idx (OS.rd how7_14_0) sl22, R1.intN (OS.rd how7_14_0), RdS.cells (OS.rd how7_14_0), RdS.len (OS.rd ho7_18) sl22, RdS.idx (OS.rd ho7_18) sl22, R1.intN (OS.rd ho7_18), RdS.cells (OS.rd ho7_18), BoxAt.cell hb0_0, BoxAt.cell hb0_1, wrap_id, Int.add_sub_cancel]
          try simp -implicitDefEqProofs (disch := first | decide | assumption | omega) only [go_sem, RdS.len hdX sl22, RdS.idx hdX sl22, R1.intB hdX (Ext.pres eB), RdS.cells hdX, RdS.len hmX sl23, RdS.idx hmX sl23, RdS.cellB hmX (Ext.pres eB), RdS.cells hmX, RdS.len hdY sl22, RdS.idx hdY sl22, R1.intB hdY (Ext.pres eB), RdS.cells hdY, RdS.len hmY sl23, RdS.idx hmY sl23, RdS.cellB hmY (Ext.pres eB), RdS.cells hmY, RdS.len rf sl23, RdS.idx rf sl23, RdS.cellB rf (Ext.pres eB), RdS.cells rf, RdS.len hr5 sl56, RdS.idx hr5 sl56, RdS.cellB hr5 (Ext.pres eB), RdS.cells hr5, RdS.len hr10 sl22, RdS.idx hr10 sl22, R1.intB hr10 (Ext.pres eB), RdS.cells hr10, RdS.len hr11 sl56, RdS.idx hr11 sl56, RdS.cellB hr11 (Ext.pres eB), RdS.cells hr11, RdS.len hr12 sl22, RdS.idx hr12 sl22, R1.intB hr12 (Ext.pres eB), RdS.cells hr12, RdS.len (OS.rd how7_14_0) sl22, RdS.idx (OS.rd how7_14_0) sl22, R1.intN (OS.rd how7_14_0), RdS.cells (OS.rd how7_14_0), RdS.len (OS.rd ho7_18) sl22, RdS.idx (OS.rd ho7_18) sl22, R1.intN (OS.rd ho7_18), RdS.cells (OS.rd ho7_18), BoxAt.cell hb0_0, BoxAt.cell hb0_1, wrap_id, Int.add_sub_cancel]
          refine CallA.mono (equal1_ok _ _ (appP X Y f (0 : Int) (k : Int) (((X.maps).getD k default).getD i default)) (diffP Y ((k : Int) + (1 : Int)) (((f).getD (((k : Int) + (1 : Int))).toNat default).getD i default)) _ (OS.rd how7_14_0) (OS.rd ho7_18) ) ?_
          intro v_ h7_19
          rintro ⟨rfl, e7_19⟩
          replace how7_14_0 := OS.ext how7_14_0 e7_19
          replace ho7_18 := OS.ext ho7_18 e7_19
          replace hb0_0 := BoxAt.ext hb0_0 e7_19
          replace hb0_1 := BoxAt.ext hb0_1 e7_19
          have := Ext.size e7_19
          replace eB := Ext.trans eB e7_19
          replace cL2 := Ext.trans cL2 e7_19
          replace cL7 := Ext.trans cL7 e7_19
          try simp (disch := decide) only [outv_some, outv_none, put_puts]
          refine plK_pres (Ext.pres e7_19) ?_
          try simp -implicitDefEqProofs (disch := first | decide | assumption | omega) only [go_sem, RdS.len hdX sl22, RdS.idx hdX sl22, R1.intB hdX (Ext.pres eB), RdS.cells hdX, RdS.len hmX sl23, RdS.idx hmX sl23, RdS.cellB hmX (Ext.pres eB), RdS.cells hmX, RdS.len hdY sl22, RdS.idx hdY sl22, R1.intB hdY (Ext.pres eB), RdS.cells hdY, RdS.len hmY sl23, RdS.idx hmY sl23, RdS.cellB hmY (Ext.pres eB), RdS.cells hmY, RdS.len rf sl23, RdS.idx rf sl23, RdS.cellB rf (Ext.pres eB), RdS.cells rf, RdS.len hr5 sl56, RdS.idx hr5 sl56, RdS.cellB hr5 (Ext.pres eB), RdS.cells hr5, RdS.len hr10 sl22, RdS.idx hr10 sl22, R1.intB hr10 (Ext.pres eB), RdS.cells hr10, RdS.len hr11 sl56, RdS.idx hr11 sl56, RdS.cellB hr11 (Ext.pres eB), RdS.cells hr11, RdS.len hr12 sl22, RdS.idx hr12 sl22, R1.intB hr12 (Ext.pres eB), RdS.cells hr12, RdS.len (OS.rd how7_14_0) sl22, RdS.idx (OS.rd how7_14_0) sl22, R1.intN (OS.rd how7_14_0), RdS.cells (OS.rd how7_14_0), RdS.len (OS.rd ho7_18) sl22, RdS.idx (OS.rd ho7_18) sl22, R1.intN (OS.rd ho7_18), RdS.cells (OS.rd ho7_18), BoxAt.cell hb0_0, BoxAt.cell hb0_1, wrap_id, Int.add_sub_cancel]
          refine hK _ _ ?_
          clear hK K
          refine den_cond rfl (fun c2 => ?_) (fun c2 => ?_)
          · try simp only [decide_eq_true_eq, decide_eq_false_iff_not, beq_iff_eq, beq_eq_false_iff_ne, bne_iff_ne, ne_eq, Bool.not_eq_true', Bool.not_eq_false', Bool.and_eq_true, Bool.or_eq_true, bne_eq_false_iff_eq] at c2
            refine den_seq ?_
            refine den_region TTok ?_
            intro K hK
            simp -implicitDefEqProofs (disch := first | decide | assumption | omega) only [go_sem, RdS.len hdX sl22, RdS.idx hdX sl22, R1.intB hdX (Ext.pres eB), RdS.cells hdX, RdS.len hmX sl23, RdS.idx hmX sl23, RdS.cellB hmX (Ext.pres eB), RdS.cells hmX, RdS.len hdY sl22, RdS.idx hdY sl22, R1.intB hdY (Ext.pres eB), RdS.cells hdY, RdS.len hmY sl23, RdS.idx hmY sl23, RdS.cellB hmY (Ext.pres eB), RdS.cells hmY, RdS.len rf sl23, RdS.idx rf sl23, RdS.cellB rf (Ext.pres eB), RdS.cells rf, RdS.len hr5 sl56, RdS.idx hr5 sl56, RdS.cellB hr5 (Ext.pres eB), RdS.cells hr5, RdS.len hr10 sl22, RdS.idx hr10 sl22, R1.intB hr10 (Ext.pres eB), RdS.cells hr10, RdS.len hr11 sl56, RdS.idx hr11 sl56, RdS.cellB hr11 (Ext.pres eB), RdS.cells hr11, RdS.len hr12 sl22, RdS.idx hr12 sl22, R1.intB hr12 (Ext.pres eB), RdS.cells hr12, wrap_id, Int.add_sub_cancel]
            refine hK _ _ ?_
            clear hK K
            refine den_ret ?_
            simp (disch := decide) only [resP_1, puts_same, puts_ne]
            exact ⟨vbool (pdec_no fun hC => by have h := hC k (by omega) i (by omega); rw [happ] at c2; exact c2 h), eB⟩
          · try simp only [decide_eq_true_eq, decide_eq_false_iff_not, beq_iff_eq, beq_eq_false_iff_ne, bne_iff_ne, ne_eq, Bool.not_eq_true', Bool.not_eq_false', Bool.and_eq_true, Bool.or_eq_true, bne_eq_false_iff_eq] at c2
            refine den_skip ?_
            refine den_blk ?_
            refine den_region TTok ?_
            intro K hK
            simp -implicitDefEqProofs (disch := first | decide | assumption | omega) only [go_sem, RdS.len hdX sl22, RdS.idx hdX sl22, R1.intB hdX (Ext.pres eB), RdS.cells hdX, RdS.len hmX sl23, RdS.idx hmX sl23, RdS.cellB hmX (Ext.pres eB), RdS.cells hmX, RdS.len hdY sl22, RdS.idx hdY sl22, R1.intB hdY (Ext.pres eB), RdS.cells hdY, RdS.len hmY sl23, RdS.idx hmY sl23, RdS.cellB hmY (Ext.pres eB), RdS.cells hmY, RdS.len rf sl23, RdS.idx rf sl23, RdS.cellB rf (Ext.pres eB), RdS.cells rf, RdS.len hr5 sl56, RdS.idx hr5 sl56, RdS.cellB hr5 (Ext.pres eB), RdS.cells hr5, RdS.len hr10 sl22, RdS.idx hr10 sl22, R1.intB hr10 (Ext.pres eB), RdS.cells hr10, RdS.len hr11 sl56, RdS.idx hr11 sl56, RdS.cellB hr11 (Ext.pres eB), RdS.cells hr11, RdS.len hr12 sl22, RdS.idx hr12 sl22, R1.intB hr12 (Ext.pres eB), RdS.cells hr12, BoxAt.cell hb0_0, BoxAt.cell hb0_1, wrap_id, Int.add_sub_cancel]
            refine hK _ _ ?_
            clear hK K
            refine den_stop ?_
            exact ⟨i + 1, by simp [HasL, puts_at], ⟨by omega, fun j hj => (Nat.lt_succ_iff_lt_or_eq.1 hj).elim (hy j) (fun e => by subst e; rw [happ] at c2; exact c2), cL7⟩, by first | omega | (dsimp only; omega)⟩
        · try simp only [decide_eq_true_eq, decide_eq_false_iff_not, beq_iff_eq, beq_eq_false_iff_ne, bne_iff_ne, ne_eq, Bool.not_eq_true', Bool.not_eq_false', Bool.and_eq_true, Bool.or_eq_true, bne_eq_false_iff_eq] at c1
          refine den_exit ?_
          refine denX_code ?_
          refine denX_stop ?_
          refine denX_hit ?_
          refine den_blk ?_
          refine den_region TTok ?_
          intro K hK
          simp -implicitDefEqProofs (disch := first | decide | assumption | omega) only [go_sem, RdS.len hdX sl22, RdS.idx hdX sl22, R1.intB hdX (Ext.pres eB), RdS.cells hdX, RdS.len hmX sl23, RdS.idx hmX sl23, RdS.cellB hmX (Ext.pres eB), RdS.cells hmX, RdS.len hdY sl22, RdS.idx hdY sl22, R1.intB hdY (Ext.pres eB), RdS.cells hdY, RdS.len hmY sl23, RdS.idx hmY sl23, RdS.cellB hmY (Ext.pres eB), RdS.cells hmY, RdS.len rf sl23, RdS.idx rf sl23, RdS.cellB rf (Ext.pres eB), RdS.cells rf, RdS.len hr5 sl56, RdS.idx hr5 sl56, RdS.cellB hr5 (Ext.pres eB), RdS.cells hr5, BoxAt.cell hb0_0, BoxAt.cell hb0_1, wrap_id, Int.add_sub_cancel]
          refine hK _ _ ?_
          clear hK K
          refine den_stop ?_
          exact ⟨k + 1, by simp [HasL, puts_at], ⟨by omega, fun j hj => (Nat.lt_succ_iff_lt_or_eq.1 hj).elim (hz j) (fun e => by subst e; exact fun q hq => hy q (by omega)), cL2⟩, by first | omega | (dsimp only; omega)⟩
    · try simp only [decide_eq_true_eq, decide_eq_false_iff_not, beq_iff_eq, beq_eq_false_iff_ne, bne_iff_ne, ne_eq, Bool.not_eq_true', Bool.not_eq_false', Bool.and_eq_true, Bool.or_eq_true, bne_eq_false_iff_eq] at c0
      refine den_exit ?_
      refine denX_code ?_
      refine denX_stop ?_
      refine denX_hit ?_
      refine den_seq ?_
      refine den_region TTok ?_
      intro K hK
      simp -implicitDefEqProofs (disch := first | decide | assumption | omega) only [go_sem, RdS.len hdX sl22, RdS.idx hdX sl22, R1.intB hdX (Ext.pres eB), RdS.cells hdX, RdS.len hmX sl23, RdS.idx hmX sl23, RdS.cellB hmX (Ext.pres eB), RdS.cells hmX, RdS.len hdY sl22, RdS.idx hdY sl22, R1.intB hdY (Ext.pres eB), RdS.cells hdY, RdS.len hmY sl23, RdS.idx hmY sl23, RdS.cellB hmY (Ext.pres eB), RdS.cells hmY, RdS.len rf sl23, RdS.idx rf sl23, RdS.cellB rf (Ext.pres eB), RdS.cells rf, wrap_id, Int.add_sub_cancel]
      refine hK _ _ ?_
      clear hK K
      refine den_ret ?_
      simp (disch := decide) only [resP_1, puts_same, puts_ne]
      exact ⟨vbool (pdec_yes fun j hj => hz j (by omega)), eB⟩

set_option maxRecDepth 100000 in
theorem sChn_ok (vX vY vf : Value) (X : Cx) (Y : Cx) (f : List (List (List Int))) (h : Heap) (rX : RC h vX X) (rY : RC h vY Y) (rf : R3 h vf f) (hX : IsC X) (hY : IsC Y) (hF : IsFam X Y f 0) (hp : X.p = Y.p) (hl : X.dims.length = Y.dims.length) : CallA Try.prog 94 #[vX, vY, vf] h fun v' h' => v' = .bool (chnP X Y f) ∧ Ext h h' := by
  obtain ⟨vdX, vmX, rfl, hdX, hmX⟩ := rX
  have hledX := RdS.le hdX
  have hlemX := RdS.le hmX
  obtain ⟨vdY, vmY, rfl, hdY, hmY⟩ := rY
  have hledY := RdS.le hdY
  have hlemY := RdS.le hmY
  have hlef := RdS.le rf
  have hlX := hX.len
  have hlF := hF.len
  have hCX := hX
  have hCY := hY
  refine callA_intro TTok (args := [_, _, _]) Try.func94 (by kernel_rfl) rfl 55 rfl (by simp) [.tmp 6] rfl ?_
  simp only [idxs, Nat.reduceAdd]
  refine den_seq ?_
  refine den_region TTok ?_
  intro K hK
  simp -implicitDefEqProofs (disch := first | decide | assumption | omega) only [go_sem, RdS.len hdX sl22, RdS.idx hdX sl22, R1.intB hdX (HPres.refl _), RdS.cells hdX, RdS.len hmX sl23, RdS.idx hmX sl23, RdS.cellB hmX (HPres.refl _), RdS.cells hmX, RdS.len hdY sl22, RdS.idx hdY sl22, R1.intB hdY (HPres.refl _), RdS.cells hdY, RdS.len hmY sl23, RdS.idx hmY sl23, RdS.cellB hmY (HPres.refl _), RdS.cells hmY, RdS.len rf sl23, RdS.idx rf sl23, RdS.cellB rf (HPres.refl _), RdS.cells rf, wrap_id, Int.add_sub_cancel]
  refine op_box (cs := #[.int .i64 (X.p), vdX, vmX]) rfl ?_
  intro h0_0 e0_0 hb0_0 z0_0
  have := Ext.size e0_0
  have eB := e0_0
  have hfhb0_0 : Fresh h.size [h.size] := Fresh.one _
  have hlhb0_0 := one_lt (show h.size < h0_0.size by omega)
  try simp -implicitDefEqProofs (disch := first | decide | assumption | omega) only [go_sem, RdS.len hdX sl22, RdS.idx hdX sl22, R1.intB hdX (Ext.pres eB), RdS.cells hdX, RdS.len hmX sl23, RdS.idx hmX sl23, RdS.cellB hmX (Ext.pres eB), RdS.cells hmX, RdS.len hdY sl22, RdS.idx hdY sl22, R1.intB hdY (Ext.pres eB), RdS.cells hdY, RdS.len hmY sl23, RdS.idx hmY sl23, RdS.cellB hmY (Ext.pres eB), RdS.cells hmY, RdS.len rf sl23, RdS.idx rf sl23, RdS.cellB rf (Ext.pres eB), RdS.cells rf, BoxAt.cell hb0_0, wrap_id, Int.add_sub_cancel]
  refine op_box (cs := #[.int .i64 (Y.p), vdY, vmY]) rfl ?_
  intro h0_1 e0_1 hb0_1 z0_1
  replace hb0_0 := BoxAt.ext hb0_0 e0_1
  have := Ext.size e0_1
  replace eB := Ext.trans eB e0_1
  have hfhb0_1 : Fresh h0_0.size [h0_0.size] := Fresh.one _
  have hlhb0_1 := one_lt (show h0_0.size < h0_1.size by omega)
  try simp -implicitDefEqProofs (disch := first | decide | assumption | omega) only [go_sem, RdS.len hdX sl22, RdS.idx hdX sl22, R1.intB hdX (Ext.pres eB), RdS.cells hdX, RdS.len hmX sl23, RdS.idx hmX sl23, RdS.cellB hmX (Ext.pres eB), RdS.cells hmX, RdS.len hdY sl22, RdS.idx hdY sl22, R1.intB hdY (Ext.pres eB), RdS.cells hdY, RdS.len hmY sl23, RdS.idx hmY sl23, RdS.cellB hmY (Ext.pres eB), RdS.cells hmY, RdS.len rf sl23, RdS.idx rf sl23, RdS.cellB rf (Ext.pres eB), RdS.cells rf, BoxAt.cell hb0_0, BoxAt.cell hb0_1, wrap_id, Int.add_sub_cancel]
  refine hK _ _ ?_
  clear hK K
  refine den_seq ?_
  refine den_seq ?_
  refine den_region TTok ?_
  intro K hK
  simp -implicitDefEqProofs (disch := first | decide | assumption | omega) only [go_sem, RdS.len hdX sl22, RdS.idx hdX sl22, R1.intB hdX (Ext.pres eB), RdS.cells hdX, RdS.len hmX sl23, RdS.idx hmX sl23, RdS.cellB hmX (Ext.pres eB), RdS.cells hmX, RdS.len hdY sl22, RdS.idx hdY sl22, R1.intB hdY (Ext.pres eB), RdS.cells hdY, RdS.len hmY sl23, RdS.idx hmY sl23, RdS.cellB hmY (Ext.pres eB), RdS.cells hmY, RdS.len rf sl23, RdS.idx rf sl23, RdS.cellB rf (Ext.pres eB), RdS.cells rf, BoxAt.cell hb0_0, BoxAt.cell hb0_1, wrap_id, Int.add_sub_cancel]
  refine hK _ _ ?_
  clear hK K
  refine den_block ?_
  refine den_sel [7, 2, 3, 4] ?_
  intro env_1
  simp only [go_sem]
  refine den_loopS (σ := Nat) (fun st_ => [(7, .int .i64 ((st_ : Int) + 1))]) (fun st_ H => ((st_ : Int) ≤ (X.dims.length : Int) - 1) ∧ (∀ j : Nat, j < st_ → ∀ i, i < (f.getD ((j : Int) + 1).toNat default).length → chnAt X Y f j i) ∧ (Ext h0_1 H)) (fun st_ => X.dims.length - st_) 0 ?_ ?_
  · exact ⟨by show ((0 : Nat) : Int) ≤ _; omega, fun j hj => by omega, Ext.refl _⟩
  · rintro k h4 ee3 ⟨hk, hz, cL2⟩
    replace hb0_0 := BoxAt.ext hb0_0 cL2
    replace hb0_1 := BoxAt.ext hb0_1 cL2
    have := Ext.size cL2
    replace eB := Ext.trans eB cL2
    simp only [List.cons_append, List.nil_append]
    refine den_seq ?_
    refine den_seq ?_
    refine den_region TTok ?_
    intro K hK
    simp -implicitDefEqProofs (disch := first | decide | assumption | omega) only [go_sem, fa30_1, ld22, RdS.len hdX sl22, RdS.idx hdX sl22, R1.intB hdX (Ext.pres eB), RdS.cells hdX, RdS.len hmX sl23, RdS.idx hmX sl23, RdS.cellB hmX (Ext.pres eB), RdS.cells hmX, RdS.len hdY sl22, RdS.idx hdY sl22, R1.intB hdY (Ext.pres eB), RdS.cells hdY, RdS.len hmY sl23, RdS.idx hmY sl23, RdS.cellB hmY (Ext.pres eB), RdS.cells hmY, RdS.len rf sl23, RdS.idx rf sl23, RdS.cellB rf (Ext.pres eB), RdS.cells rf, BoxAt.cell hb0_0, BoxAt.cell hb0_1, wrap_id, Int.add_sub_cancel]
    refine hK _ _ ?_
    clear hK K
    refine den_cond rfl (fun c0 => ?_) (fun c0 => ?_)
    · try simp only [decide_eq_true_eq, decide_eq_false_iff_not, beq_iff_eq, beq_eq_false_iff_ne, bne_iff_ne, ne_eq, Bool.not_eq_true', Bool.not_eq_false', Bool.and_eq_true, Bool.or_eq_true, bne_eq_false_iff_eq] at c0
      refine den_skip ?_
      refine den_seq ?_
      refine den_block ?_
      refine den_seq ?_
      refine den_region TTok ?_
      intro K hK
      simp -implicitDefEqProofs (disch := first | decide | assumption | omega) only [go_sem, RdS.len hdX sl22, RdS.idx hdX sl22, R1.intB hdX (Ext.pres eB), RdS.cells hdX, RdS.len hmX sl23, RdS.idx hmX sl23, RdS.cellB hmX (Ext.pres eB), RdS.cells hmX, RdS.len hdY sl22, RdS.idx hdY sl22, R1.intB hdY (Ext.pres eB), RdS.cells hdY, RdS.len hmY sl23, RdS.idx hmY sl23, RdS.cellB hmY (Ext.pres eB), RdS.cells hmY, RdS.len rf sl23, RdS.idx rf sl23, RdS.cellB rf (Ext.pres eB), RdS.cells rf, BoxAt.cell hb0_0, BoxAt.cell hb0_1, wrap_id, Int.add_sub_cancel]
      refine hK _ _ ?_
      clear hK K
      refine den_block ?_
      refine den_sel [8, 2, 3, 4, 7] ?_
      intro env_5
      simp only [go_sem]
      refine den_loopS (σ := Nat) (fun st_ => [(8, .int .i64 (st_ : Int))]) (fun st_ H => (st_ ≤ (f.getD ((k : Int) + 1).toNat default).length) ∧ (∀ j, j < st_ → chnAt X Y f k j) ∧ (Ext h4 H)) (fun st_ => (f.getD ((k : Int) + 1).toNat default).length - st_) 0 ?_ ?_
      · exact ⟨by simp, fun j hj => by omega, Ext.refl _⟩
      · rintro i h8 ee7 ⟨hi, hy, cL6⟩
        replace hb0_0 := BoxAt.ext hb0_0 cL6
        replace hb0_1 := BoxAt.ext hb0_1 cL6
        have := Ext.size cL6
        replace eB := Ext.trans eB cL6
        replace cL2 := Ext.trans cL2 cL6
        simp only [List.cons_append, List.nil_append]
        refine den_seq ?_
        refine den_seq ?_
        have hfa := (hF.at (n := ((k : Int) + 1).toNat) (by omega)).1
        refine den_region TTok ?_
        intro K hK
        simp -implicitDefEqProofs (disch := first | decide | assumption | omega) only [go_sem, fa30_1, ld22, ld2, RdS.len hdX sl22, RdS.idx hdX sl22, R1.intB hdX (Ext.pres eB), RdS.cells hdX, RdS.len hmX sl23, RdS.idx hmX sl23, RdS.cellB hmX (Ext.pres eB), RdS.cells hmX, RdS.len hdY sl22, RdS.idx hdY sl22, R1.intB hdY (Ext.pres eB), RdS.cells hdY, RdS.len hmY sl23, RdS.idx hmY sl23, RdS.cellB hmY (Ext.pres eB), RdS.cells hmY, RdS.len rf sl23, RdS.idx rf sl23, RdS.cellB rf (Ext.pres eB), RdS.cells rf, BoxAt.cell hb0_0, BoxAt.cell hb0_1, wrap_id, Int.add_sub_cancel]
        refine hK _ _ ?_
        clear hK K
        refine den_cond rfl (fun c1 => ?_) (fun c1 => ?_)
        · try simp only [decide_eq_true_eq, decide_eq_false_iff_not, beq_iff_eq, beq_eq_false_iff_ne, bne_iff_ne, ne_eq, Bool.not_eq_true', Bool.not_eq_false', Bool.and_eq_true, Bool.or_eq_true, bne_eq_false_iff_eq] at c1
          refine den_skip ?_
          refine den_seq ?_
          refine den_block ?_
          refine den_seq ?_
          have hR := chnR hX hY hp hl hF (k := k) (i := i) (by omega) (by omega)
          have hRi := hR.hi
          have hRm := hR.ml
          have hRl := hR.row.1
          have hRy := hR.img.1
          have hdm := dm_at hX.dm (k := ((k : Int) + 1).toNat) (by omega)
          have hdu := diff_unit hX (k := k) (i := i) (by omega) (by omega)
          have hul : ((unitP (X.dims.getD ((k : Int) + 1).toNat 0).toNat i).length : Int) = X.dims.getD ((k : Int) + 1).toNat 0 := by rw [unitP, List.length_set, List.length_replicate]; omega
          have hub : Bnd X.p (unitP (X.dims.getD ((k : Int) + 1).toNat 0).toNat i) := unit_bnd hX.p _ _
          have hyb := hR.img.2
          have hvv : 0 ≤ (k : Int) ∧ (k : Int) ≤ (X.dims.length : Int) - 1 → ((diffP X ((k : Int) + 1) (unitP (X.dims.getD ((k : Int) + 1).toNat 0).toNat i)).length : Int) = X.dims.getD (k : Int).toNat 0 ∧ Bnd X.p (diffP X ((k : Int) + 1) (unitP (X.dims.getD ((k : Int) + 1).toNat 0).toNat i)) := fun _ => by rw [hdu]; exact hR.row
          refine den_region TTok ?_
          intro K hK
          simp -implicitDefEqProofs (disch := first | decide | assumption | omega) only [go_sem, fa30_1, ld22, ld2, RdS.len hdX sl22, RdS.idx hdX sl22, R1.intB hdX (Ext.pres eB), RdS.cells hdX, RdS.len hmX sl23, RdS.idx hmX sl23, RdS.cellB hmX (Ext.pres eB), RdS.cells hmX, RdS.len hdY sl22, RdS.idx hdY sl22, R1.intB hdY (Ext.pres eB), RdS.cells hdY, RdS.len hmY sl23, RdS.idx hmY sl23, RdS.cellB hmY (Ext.pres eB), RdS.cells hmY, RdS.len rf sl23, RdS.idx rf sl23, RdS.cellB rf (Ext.pres eB), RdS.cells rf, BoxAt.cell hb0_0, BoxAt.cell hb0_1, wrap_id, Int.add_sub_cancel]
          try simp -implicitDefEqProofs (disch := first | decide | assumption | omega) only [go_sem, RdS.len hdX sl22, RdS.idx hdX sl22, R1.intB hdX (Ext.pres eB), RdS.cells hdX, RdS.len hmX sl23, RdS.idx hmX sl23, RdS.cellB hmX (Ext.pres eB), RdS.cells hmX, RdS.len hdY sl22, RdS.idx hdY sl22, R1.intB hdY (Ext.pres eB), RdS.cells hdY, RdS.len hmY sl23, RdS.idx hmY sl23, RdS.cellB hmY (Ext.pres eB), RdS.cells hmY, RdS.len rf sl23, RdS.idx rf sl23, RdS.cellB rf (Ext.pres eB), RdS.cells rf, BoxAt.cell hb0_0, BoxAt.cell hb0_1, wrap_id, Int.add_sub_cancel]
          refine CallA.mono (sUnit_ok  ((X.dims).getD (((k : Int) + (1 : Int))).toNat 0) (i : Int) _  (by omega)) ?_
          intro v_ h7_6
          rintro ⟨vw7_6_0, fw7_6_0, rfl, how7_6_0, hfw7_6_0, e7_6⟩
          replace hb0_0 := BoxAt.ext hb0_0 e7_6
          replace hb0_1 := BoxAt.ext hb0_1 e7_6
          have := Ext.size e7_6
          replace eB := Ext.trans eB e7_6
          replace cL2 := Ext.trans cL2 e7_6
          replace cL6 := Ext.trans cL6 e7_6
          have hlhow7_6_0 := OS.lt how7_6_0
          try simp -implicitDefEqProofs (disch := first | decide | assumption | omega) only [go_sem, RdS.len hdX sl22, RdS.idx hdX sl22, R1.intB hdX (Ext.pres eB), RdS.cells hdX, RdS.len hmX sl23, RdS.idx hmX sl23, RdS.cellB hmX (Ext.pres eB), RdS.cells hmX, RdS.len hdY sl22, RdS.idx hdY sl22, R1.intB hdY (Ext.pres eB), RdS.cells hdY, RdS.len hmY sl23, RdS.idx hmY sl23, RdS.cellB hmY (Ext.pres eB), RdS.cells hmY, RdS.len rf sl23, RdS.idx rf sl23, RdS.cellB rf (Ext.pres eB), RdS.cells rf, RdS.len (OS.rd how7_6_0) sl22, RdS.idx (OS.rd how7_6_0) sl22, R1.intN (OS.rd how7_6_0), RdS.cells (OS.rd how7_6_0), BoxAt.cell hb0_0, BoxAt.cell hb0_1, wrap_id, Int.add_sub_cancel]
          refine hK _ _ ?_
          clear hK K
          refine den_seq ?_
          refine den_draw TTok mixed [] [(0, true), (1, true), (2, true), (3, true), (4, true), (5, true), (6, true), (7, true), (10, true), (11, true), (12, true), (13, true), (14, true), (15, true), (16, true), (17, true), (18, true), (8, false), (9, false), (19, false), (20, false), (21, true)] (by kernel_rfl) ?_
          intro K hK
          have hr9 := RdS.rowN rf (((k : Int) + (1 : Int))).toNat (by omega)
          have hlhr9 := RdS.le hr9
          have hr10 := RdS.rowN hr9 i (by omega)
          have hlhr10 := RdS.le hr10
          simp -implicitDefEqProofs (disch := first | decide | assumption | omega) only [go_sem, ld56, ld22, ld30, RdS.len hdX sl22, RdS.idx hdX sl22, R1.intB hdX (Ext.pres eB), RdS.cells hdX, RdS.len hmX sl23, RdS.idx hmX sl23, RdS.cellB hmX (Ext.pres eB), RdS.cells hmX, RdS.len hdY sl22, RdS.idx hdY sl22, R1.intB hdY (Ext.pres eB), RdS.cells hdY, RdS.len hmY sl23, RdS.idx hmY sl23, RdS.cellB hmY (Ext.pres eB), RdS.cells hmY, RdS.len rf sl23, RdS.idx rf sl23, RdS.cellB rf (Ext.pres eB), RdS.cells rf, RdS.len hr9 sl56, RdS.idx hr9 sl56, RdS.cellB hr9 (Ext.pres eB), RdS.cells hr9, RdS.len hr10 sl22, RdS.idx hr10 sl22, R1.intB hr10 (Ext.pres eB), RdS.cells hr10, RdS.len (OS.rd how7_6_0) sl22, RdS.idx (OS.rd how7_6_0) sl22, R1.intN (OS.rd how7_6_0), RdS.cells (OS.rd how7_6_0), BoxAt.cell hb0_0, BoxAt.cell hb0_1, wrap_id, Int.add_sub_cancel]
          try simp -implicitDefEqProofs (disch := first | decide | assumption | omega) only [go_sem, RdS.len hdX sl22, RdS.idx hdX sl22, R1.intB hdX (Ext.pres eB), RdS.cells hdX, RdS.len hmX sl23, RdS.idx hmX sl23, RdS.cellB hmX (Ext.pres eB), RdS.cells hmX, RdS.len hdY sl22, RdS.idx hdY sl22, R1.intB hdY (Ext.pres eB), RdS.cells hdY, RdS.len hmY sl23, RdS.idx hmY sl23, RdS.cellB hmY (Ext.pres eB), RdS.cells hmY, RdS.len rf sl23, RdS.idx rf sl23, RdS.cellB rf (Ext.pres eB), RdS.cells rf, RdS.len hr9 sl56, RdS.idx hr9 sl56, RdS.cellB hr9 (Ext.pres eB), RdS.cells hr9, RdS.len hr10 sl22, RdS.idx hr10 sl22, R1.intB hr10 (Ext.pres eB), RdS.cells hr10, RdS.len (OS.rd how7_6_0) sl22, RdS.idx (OS.rd how7_6_0) sl22, R1.intN (OS.rd how7_6_0), RdS.cells (OS.rd how7_6_0), BoxAt.cell hb0_0, BoxAt.cell hb0_1, wrap_id, Int.add_sub_cancel]
          refine CallA.mono (sD_ok _ _ X ((k : Int) + (1 : Int)) (unitP ((X.dims).getD (((k : Int) + (1 : Int))).toNat 0).toNat (i : Int).toNat) _ ⟨_, _, rfl, (RdS.pres hdX (Ext.pres eB)), (RdS.pres hmX (Ext.pres eB))⟩ (OS.rd how7_6_0) hCX (by omega) (by first | assumption | omega) (by assumption)) ?_
          intro v_ h8_8
          rintro ⟨vw8_8_0, fw8_8_0, rfl, how8_8_0, hfw8_8_0, e8_8⟩
          replace how7_6_0 := OS.ext how7_6_0 e8_8
          replace hb0_0 := BoxAt.ext hb0_0 e8_8
          replace hb0_1 := BoxAt.ext hb0_1 e8_8
          have := Ext.size e8_8
          replace eB := Ext.trans eB e8_8
          replace cL2 := Ext.trans cL2 e8_8
          replace cL6 := Ext.trans cL6 e8_8
          have hlhow8_8_0 := OS.lt how8_8_0
          try simp (disch := decide) only [outv_some, outv_none, put_puts]
          refine plK_pres (Ext.pres e8_8) ?_
          try simp -implicitDefEqProofs (disch := first | decide | assumption | omega) only [go_sem, RdS.len hdX sl22, RdS.idx hdX sl22, R1.intB hdX (Ext.pres eB), RdS.cells hdX, RdS.len hmX sl23, RdS.idx hmX sl23, RdS.cellB hmX (Ext.pres eB), RdS.cells hmX, RdS.len hdY sl22, RdS.idx hdY sl22, R1.intB hdY (Ext.pres eB), RdS.cells hdY, RdS.len hmY sl23, RdS.idx hmY sl23, RdS.cellB hmY (Ext.pres eB), RdS.cells hmY, RdS.len rf sl23, RdS.idx rf sl23, RdS.cellB rf (Ext.pres eB), RdS.cells rf, RdS.len hr9 sl56, RdS.idx hr9 sl56, RdS.cellB hr9 (Ext.pres eB), RdS.cells hr9, RdS.len hr10 sl22, RdS.idx hr10 sl22, R1.intB hr10 (Ext.pres eB), RdS.cells hr10, RdS.len (OS.rd how7_6_0) sl22, RdS.idx (OS.rd how7_6_0) sl22, R1.intN (OS.rd how7_6_0), RdS.cells (OS.rd how7_6_0), RdS.len (OS.rd how8_8_0) sl22, RdS.idx (OS.rd how8_8_0) sl22, R1.intN (OS.rd how8_8_0), RdS.cells (OS.rd how8_8_0), BoxAt.cell hb0_0, BoxAt.cell hb0_1, wrap_id, Int.add_sub_cancel]
          try simp -implicitDefEqProofs (disch := first | decide | assumption | omega) only [go_sem, RdS.len hdX sl22, RdS.idx hdX sl22, R1.intB hdX (Ext.pres eB), RdS.cells hdX, RdS.len hmX sl23, RdS.idx hmX sl23, RdS.cellB hmX (Ext.pres eB), RdS.cells hmX, RdS.len hdY sl22, RdS.idx hdY sl22, R1.intB hdY (Ext.pres eB), RdS.cells hdY, RdS.len hmY sl23, RdS.idx hmY sl23, RdS.cellB hmY (Ext.pres eB), RdS.cells hmY, RdS.len rf sl23, RdS.idx rf sl23, RdS.cellB rf (Ext.pres eB), RdS.cells rf, RdS.len hr9 sl56, RdS.idx hr9 sl56, RdS.cellB hr9 (Ext.pres eB), RdS.cells hr9, RdS.len hr10 sl22, RdS.idx hr10 sl22, R1.intB hr10 (Ext.pres eB), RdS.cells hr10, RdS.len (OS.rd how7_6_0) sl22, RdS.idx (OS.rd how7_6_0) sl22, R1.intN (OS.rd how7_6_0), RdS.cells (OS.rd how7_6_0), RdS.len (OS.rd how8_8_0) sl22, RdS.idx (OS.rd how8_8_0) sl22, R1.intN (OS.rd how8_8_0), RdS.cells (OS.rd how8_8_0), BoxAt.cell hb0_0, BoxAt.cell hb0_1, wrap_id, Int.add_sub_cancel]
          refine CallA.mono (sImg_ok _ _ _ _ X Y f (k : Int) (0 : Int) (diffP X ((k : Int) + (1 : Int)) (unitP ((X.dims).getD (((k : Int) + (1 : Int))).toNat 0).toNat (i : Int).toNat)) _ ⟨_, _, rfl, (RdS.pres hdX (Ext.pres eB)), (RdS.pres hmX (Ext.pres eB))⟩ ⟨_, _, rfl, (RdS.pres hdY (Ext.pres eB)), (RdS.pres hmY (Ext.pres eB))⟩ (RdS.pres rf (Ext.pres eB)) (OS.rd how8_8_0) (hX) (hY) hF (by omega) (by omega) hvv) ?_
          intro v_ h8_9
          rintro ⟨vw8_9_0, fw8_9_0, rfl, how8_9_0, hfw8_9_0, e8_9⟩
          replace how7_6_0 := OS.ext how7_6_0 e8_9
          replace how8_8_0 := OS.ext how8_8_0 e8_9
          replace hb0_0 := BoxAt.ext hb0_0 e8_9
          replace hb0_1 := BoxAt.ext hb0_1 e8_9
          have := Ext.size e8_9
          replace eB := Ext.trans eB e8_9
          replace cL2 := Ext.trans cL2 e8_9
          replace cL6 := Ext.trans cL6 e8_9
          have hlhow8_9_0 := OS.lt how8_9_0
          try simp (disch := decide) only [outv_some, outv_none, put_puts]
          refine plK_pres (Ext.pres e8_9) ?_
          try simp -implicitDefEqProofs (disch := first | decide | assumption | omega) only [go_sem, RdS.len hdX sl22, RdS.idx hdX sl22, R1.intB hdX (Ext.pres eB), RdS.cells hdX, RdS.len hmX sl23, RdS.idx hmX sl23, RdS.cellB hmX (Ext.pres eB), RdS.cells hmX, RdS.len hdY sl22, RdS.idx hdY sl22, R1.intB hdY (Ext.pres eB), RdS.cells hdY, RdS.len hmY sl23, RdS.idx hmY sl23, RdS.cellB hmY (Ext.pres eB), RdS.cells hmY, RdS.len rf sl23, RdS.idx rf sl23, RdS.cellB rf (Ext.pres eB), RdS.cells rf, RdS.len hr9 sl56, RdS.idx hr9 sl56, RdS.cellB hr9 (Ext.pres eB), RdS.cells hr9, RdS.len hr10 sl22, RdS.idx hr10 sl22, R1.intB hr10 (Ext.pres eB), RdS.cells hr10, RdS.len (OS.rd how7_6_0) sl22, RdS.idx (OS.rd how7_6_0) sl22, R1.intN (OS.rd how7_6_0), RdS.cells (OS.rd how7_6_0), RdS.len (OS.rd how8_8_0) sl22, RdS.idx (OS.rd how8_8_0) sl22, R1.intN (OS.rd how8_8_0), RdS.cells (OS.rd how8_8_0), RdS.len (OS.rd how8_9_0) sl22, RdS.idx (OS.rd how8_9_0) sl22, R1.intN (OS.rd how8_9_0), RdS.cells (OS.rd how8_9_0), BoxAt.cell hb0_0, BoxAt.cell hb0_1, wrap_id, Int.add_sub_cancel]
          try simp -implicitDefEqProofs (disch := first | decide | assumption | omega) only [go_sem, RdS.len hdX sl22, RdS.idx hdX sl22, R1.intB hdX (Ext.pres eB), RdS.cells hdX, RdS.len hmX sl23, RdS.idx hmX sl23, RdS.cellB hmX (Ext.pres eB), RdS.cells hmX, RdS.len hdY sl22, RdS.idx hdY sl22, R1.intB hdY (Ext.pres eB), RdS.cells hdY, RdS.len hmY sl23, RdS.idx hmY sl23, RdS.cellB hmY (Ext.pres eB), RdS.cells hmY, RdS.len rf sl23, RdS.idx rf sl23, RdS.cellB rf (Ext.pres eB), RdS.cells rf, RdS.len hr9 sl56, RdS.idx hr9 sl56, RdS.cellB hr9 (Ext.pres eB), RdS.cells hr9, RdS.len hr10 sl22, RdS.idx hr10 sl22, R1.intB hr10 (Ext.pres eB), RdS.cells hr10, RdS.len (OS.rd how7_6_0) sl22, RdS.idx (OS.rd how7_6_0) sl22, R1.intN (OS.rd how7_6_0), RdS.cells (OS.rd how7_6_0), RdS.len (OS.rd how8_8_0) sl22, RdS.idx (OS.rd how8_8_0) sl22, R1.intN (OS.rd how8_8_0), RdS.cells (OS.rd how8_8_0), RdS.len (OS.rd how8_9_0) sl22, RdS.idx (OS.rd how8_9_0) sl22, R1.intN (OS.rd how8_9_0), RdS.cells (OS.rd how8_9_0), BoxAt.cell hb0_0, BoxAt.cell hb0_1, wrap_id, Int.add_sub_cancel]
          refine CallA.mono (sD_ok _ _ Y ((k : Int) + (1 : Int)) (((f).getD (((k : Int) + (1 : Int))).toNat default).getD i default) _ ⟨_, _, rfl, (RdS.pres hdY (Ext.pres eB)), (RdS.pres hmY (Ext.pres eB))⟩ (RdS.pres hr10 (Ext.pres eB)) hCY (by omega) (by first | assumption | omega) (by assumption)) ?_
          intro v_ h8_19
          rintro ⟨vw8_19_0, fw8_19_0, rfl, how8_19_0, hfw8_19_0, e8_19⟩
          replace how7_6_0 := OS.ext how7_6_0 e8_19
          replace how8_8_0 := OS.ext how8_8_0 e8_19
          replace how8_9_0 := OS.ext how8_9_0 e8_19
          replace hb0_0 := BoxAt.ext hb0_0 e8_19
          replace hb0_1 := BoxAt.ext hb0_1 e8_19
          have := Ext.size e8_19
          replace eB := Ext.trans eB e8_19
          replace cL2 := Ext.trans cL2 e8_19
          replace cL6 := Ext.trans cL6 e8_19
          have hlhow8_19_0 := OS.lt how8_19_0
          try simp (disch := decide) only [outv_some, outv_none, put_puts]
          refine plK_pres (Ext.pres e8_19) ?_
          try simp -implicitDefEqProofs (disch := first | decide | assumption | omega) only [go_sem, RdS.len hdX sl22, RdS.idx hdX sl22, R1.intB hdX (Ext.pres eB), RdS.cells hdX, RdS.len hmX sl23, RdS.idx hmX sl23, RdS.cellB hmX (Ext.pres eB), RdS.cells hmX, RdS.len hdY sl22, RdS.idx hdY sl22, R1.intB hdY (Ext.pres eB), RdS.cells hdY, RdS.len hmY sl23, RdS.idx hmY sl23, RdS.cellB hmY (Ext.pres eB), RdS.cells hmY, RdS.len rf sl23, RdS.idx rf sl23, RdS.cellB rf (Ext.pres eB), RdS.cells rf, RdS.len hr9 sl56, RdS.idx hr9 sl56, RdS.cellB hr9 (Ext.pres eB), RdS.cells hr9, RdS.len hr10 sl22, RdS.idx hr10 sl22, R1.intB hr10 (Ext.pres eB), RdS.cells hr10, RdS.len (OS.rd how7_6_0) sl22, RdS.idx (OS.rd how7_6_0) sl22, R1.intN (OS.rd how7_6_0), RdS.cells (OS.rd how7_6_0), RdS.len (OS.rd how8_8_0) sl22, RdS.idx (OS.rd how8_8_0) sl22, R1.intN (OS.rd how8_8_0), RdS.cells (OS.rd how8_8_0), RdS.len (OS.rd how8_9_0) sl22, RdS.idx (OS.rd how8_9_0) sl22, R1.intN (OS.rd how8_9_0), RdS.cells (OS.rd how8_9_0), RdS.len (OS.rd how8_19_0) sl22, RdS.idx (OS.rd how8_19_0) sl22, R1.intN (OS.rd how8_19_0), RdS.cells (OS.rd how8_19_0), BoxAt.cell hb0_0, BoxAt.cell hb0_1, wrap_id, Int.add_sub_cancel]
          try simp -implicitDefEqProofs (disch := first | decide | assumption | omega) only [go_sem, RdS.len hdX sl22, RdS.idx hdX sl22, R1.intB hdX (Ext.pres eB), RdS.cells hdX, RdS.len hmX sl23, RdS.idx hmX sl23, RdS.cellB hmX (Ext.pres eB), RdS.cells hmX, RdS.len hdY sl22, RdS.idx hdY sl22, R1.intB hdY (Ext.pres eB), RdS.cells hdY, RdS.len hmY sl23, RdS.idx hmY sl23, RdS.cellB hmY (Ext.pres eB), RdS.cells hmY, RdS.len rf sl23, RdS.idx rf sl23, RdS.cellB rf (Ext.pres eB), RdS.cells rf, RdS.len hr9 sl56, RdS.idx hr9 sl56, RdS.cellB hr9 (Ext.pres eB), RdS.cells hr9, RdS.len hr10 sl22, RdS.idx hr10 sl22, R1.intB hr10 (Ext.pres eB), RdS.cells hr10, RdS.len (OS.rd how7_6_0) sl22, RdS.idx (OS.rd how7_6_0) sl22, R1.intN (OS.rd how7_6_0), RdS.cells (OS.rd how7_6_0), RdS.len (OS.rd how8_8_0) sl22, RdS.idx (OS.rd how8_8_0) sl22, R1.intN (OS.rd how8_8_0), RdS.cells (OS.rd how8_8_0), RdS.len (OS.rd how8_9_0) sl22, RdS.idx (OS.rd how8_9_0) sl22, R1.intN (OS.rd how8_9_0), RdS.cells (OS.rd how8_9_0), RdS.len (OS.rd how8_19_0) sl22, RdS.idx (OS.rd how8_19_0) sl22, R1.intN (OS.rd how8_19_0), RdS.cells (OS.rd how8_19_0), BoxAt.cell hb0_0, BoxAt.cell hb0_1, wrap_id, Int.add_sub_cancel]
          refine CallA.mono (same1_ok _ _ (imgP X Y f (0 : Int) (k : Int) (diffP X ((k : Int) + (1 : Int)) (unitP ((X.dims).getD (((k : Int) + (1 : Int))).toNat 0).toNat (i : Int).toNat))) (diffP Y ((k : Int) + (1 : Int)) (((f).getD (((k : Int) + (1 : Int))).toNat default).getD i default)) _ (OS.rd how8_9_0) (OS.rd how8_19_0) ) ?_
          intro v_ h8_20
          rintro ⟨rfl, e8_20⟩
          replace how7_6_0 := OS.ext how7_6_0 e8_20
          replace how8_8_0 := OS.ext how8_8_0 e8_20
          replace how8_9_0 := OS.ext how8_9_0 e8_20
          replace how8_19_0 := OS.ext how8_19_0 e8_20
          replace hb0_0 := BoxAt.ext hb0_0 e8_20
          replace hb0_1 := BoxAt.ext hb0_1 e8_20
          have := Ext.size e8_20
          replace eB := Ext.trans eB e8_20
          replace cL2 := Ext.trans cL2 e8_20
          replace cL6 := Ext.trans cL6 e8_20
          try simp (disch := decide) only [outv_some, outv_none, put_puts]
          refine plK_pres (Ext.pres e8_20) ?_
          try simp -implicitDefEqProofs (disch := first | decide | assumption | omega) only [go_sem, RdS.len hdX sl22, RdS.idx hdX sl22, R1.intB hdX (Ext.pres eB), RdS.cells hdX, RdS.len hmX sl23, RdS.idx hmX sl23, RdS.cellB hmX (Ext.pres eB), RdS.cells hmX, RdS.len hdY sl22, RdS.idx hdY sl22, R1.intB hdY (Ext.pres eB), RdS.cells hdY, RdS.len hmY sl23, RdS.idx hmY sl23, RdS.cellB hmY (Ext.pres eB), RdS.cells hmY, RdS.len rf sl23, RdS.idx rf sl23, RdS.cellB rf (Ext.pres eB), RdS.cells rf, RdS.len hr9 sl56, RdS.idx hr9 sl56, RdS.cellB hr9 (Ext.pres eB), RdS.cells hr9, RdS.len hr10 sl22, RdS.idx hr10 sl22, R1.intB hr10 (Ext.pres eB), RdS.cells hr10, RdS.len (OS.rd how7_6_0) sl22, RdS.idx (OS.rd how7_6_0) sl22, R1.intN (OS.rd how7_6_0), RdS.cells (OS.rd how7_6_0), RdS.len (OS.rd how8_8_0) sl22, RdS.idx (OS.rd how8_8_0) sl22, R1.intN (OS.rd how8_8_0), RdS.cells (OS.rd how8_8_0), RdS.len (OS.rd how8_9_0) sl22, RdS.idx (OS.rd how8_9_0) sl22, R1.intN (OS.rd how8_9_0), RdS.cells (OS.rd how8_9_0), RdS.len (OS.rd how8_19_0) sl22, RdS.idx (OS.rd how8_19_0) sl22, R1.intN (OS.rd how8_19_0), RdS.cells (OS.rd how8_19_0), BoxAt.cell hb0_0, BoxAt.cell hb0_1, wrap_id, Int.add_sub_cancel]
          refine hK _ _ ?_
          clear hK K
          refine den_cond rfl (fun c2 => ?_) (fun c2 => ?_)
          · try simp only [decide_eq_true_eq, decide_eq_false_iff_not, beq_iff_eq, beq_eq_false_iff_ne, bne_iff_ne, ne_eq, Bool.not_eq_true', Bool.not_eq_false', Bool.and_eq_true, Bool.or_eq_true, bne_eq_false_iff_eq] at c2
            refine den_seq ?_
            refine den_region TTok ?_
            intro K hK
            simp -implicitDefEqProofs (disch := first | decide | assumption | omega) only [go_sem, RdS.len hdX sl22, RdS.idx hdX sl22, R1.intB hdX (Ext.pres eB), RdS.cells hdX, RdS.len hmX sl23, RdS.idx hmX sl23, RdS.cellB hmX (Ext.pres eB), RdS.cells hmX, RdS.len hdY sl22, RdS.idx hdY sl22, R1.intB hdY (Ext.pres eB), RdS.cells hdY, RdS.len hmY sl23, RdS.idx hmY sl23, RdS.cellB hmY (Ext.pres eB), RdS.cells hmY, RdS.len rf sl23, RdS.idx rf sl23, RdS.cellB rf (Ext.pres eB), RdS.cells rf, RdS.len hr9 sl56, RdS.idx hr9 sl56, RdS.cellB hr9 (Ext.pres eB), RdS.cells hr9, RdS.len hr10 sl22, RdS.idx hr10 sl22, R1.intB hr10 (Ext.pres eB), RdS.cells hr10, wrap_id, Int.add_sub_cancel]
            refine hK _ _ ?_
            clear hK K
            refine den_ret ?_
            simp (disch := decide) only [resP_1, puts_same, puts_ne]
            exact ⟨vbool (pdec_no fun hC => by have h := hC k (by omega) i (by omega); unfold chnAt at h; rw [hdu] at c2; exact c2 h), eB⟩
          · try simp only [decide_eq_true_eq, decide_eq_false_iff_not, beq_iff_eq, beq_eq_false_iff_ne, bne_iff_ne, ne_eq, Bool.not_eq_true', Bool.not_eq_false', Bool.and_eq_true, Bool.or_eq_true, bne_eq_false_iff_eq] at c2
            refine den_skip ?_
            refine den_blk ?_
            refine den_region TTok ?_
            intro K hK
            simp -implicitDefEqProofs (disch := first | decide | assumption | omega) only [go_sem, RdS.len hdX sl22, RdS.idx hdX sl22, R1.intB hdX (Ext.pres eB), RdS.cells hdX, RdS.len hmX sl23, RdS.idx hmX sl23, RdS.cellB hmX (Ext.pres eB), RdS.cells hmX, RdS.len hdY sl22, RdS.idx hdY sl22, R1.intB hdY (Ext.pres eB), RdS.cells hdY, RdS.len hmY sl23, RdS.idx hmY sl23, RdS.cellB hmY (Ext.pres eB), RdS.cells hmY, RdS.len rf sl23, RdS.idx rf sl23, RdS.cellB rf (Ext.pres eB), RdS.cells rf, RdS.len hr9 sl56, RdS.idx hr9 sl56, RdS.cellB hr9 (Ext.pres eB), RdS.cells hr9, RdS.len hr10 sl22, RdS.idx hr10 sl22, R1.intB hr10 (Ext.pres eB), RdS.cells hr10, BoxAt.cell hb0_0, BoxAt.cell hb0_1, wrap_id, Int.add_sub_cancel]
            refine hK _ _ ?_
            clear hK K
            refine den_stop ?_
            exact ⟨i + 1, by simp [HasL, puts_at], ⟨by omega, fun j hj => (Nat.lt_succ_iff_lt_or_eq.1 hj).elim (hy j) (fun e => by subst e; have h := c2; rw [hdu] at h; exact h), cL6⟩, by first | omega | (dsimp only; omega)⟩
        · try simp only [decide_eq_true_eq, decide_eq_false_iff_not, beq_iff_eq, beq_eq_false_iff_ne, bne_iff_ne, ne_eq, Bool.not_eq_true', Bool.not_eq_false', Bool.and_eq_true, Bool.or_eq_true, bne_eq_false_iff_eq] at c1
          refine den_exit ?_
          refine denX_code ?_
          refine denX_stop ?_
          refine denX_hit ?_
          refine den_blk ?_
          refine den_region TTok ?_
          intro K hK
          simp -implicitDefEqProofs (disch := first | decide | assumption | omega) only [go_sem, RdS.len hdX sl22, RdS.idx hdX sl22, R1.intB hdX (Ext.pres eB), RdS.cells hdX, RdS.len hmX sl23, RdS.idx hmX sl23, RdS.cellB hmX (Ext.pres eB), RdS.cells hmX, RdS.len hdY sl22, RdS.idx hdY sl22, R1.intB hdY (Ext.pres eB), RdS.cells hdY, RdS.len hmY sl23, RdS.idx hmY sl23, RdS.cellB hmY (Ext.pres eB), RdS.cells hmY, RdS.len rf sl23, RdS.idx rf sl23, RdS.cellB rf (Ext.pres eB), RdS.cells rf, BoxAt.cell hb0_0, BoxAt.cell hb0_1, wrap_id, Int.add_sub_cancel]
          refine hK _ _ ?_
          clear hK K
          refine den_stop ?_
          exact ⟨k + 1, by simp [HasL, puts_at], ⟨by omega, fun j hj => (Nat.lt_succ_iff_lt_or_eq.1 hj).elim (hz j) (fun e => by subst e; exact fun q hq => hy q (by omega)), cL2⟩, by first | omega | (dsimp only; omega)⟩
    · try simp only [decide_eq_true_eq, decide_eq_false_iff_not, beq_iff_eq, beq_eq_false_iff_ne, bne_iff_ne, ne_eq, Bool.not_eq_true', Bool.not_eq_false', Bool.and_eq_true, Bool.or_eq_true, bne_eq_false_iff_eq] at c0
      refine den_exit ?_
      refine denX_code ?_
      refine denX_stop ?_
      refine denX_hit ?_
      refine den_seq ?_
      refine den_region TTok ?_
      intro K hK
      simp -implicitDefEqProofs (disch := first | decide | assumption | omega) only [go_sem, RdS.len hdX sl22, RdS.idx hdX sl22, R1.intB hdX (Ext.pres eB), RdS.cells hdX, RdS.len hmX sl23, RdS.idx hmX sl23, RdS.cellB hmX (Ext.pres eB), RdS.cells hmX, RdS.len hdY sl22, RdS.idx hdY sl22, R1.intB hdY (Ext.pres eB), RdS.cells hdY, RdS.len hmY sl23, RdS.idx hmY sl23, RdS.cellB hmY (Ext.pres eB), RdS.cells hmY, RdS.len rf sl23, RdS.idx rf sl23, RdS.cellB rf (Ext.pres eB), RdS.cells rf, wrap_id, Int.add_sub_cancel]
      refine hK _ _ ?_
      clear hK K
      refine den_ret ?_
      simp (disch := decide) only [resP_1, puts_same, puts_ne]
      exact ⟨vbool (pdec_yes fun j hj => hz j (by omega)), eB⟩

end Go.Proofs.Ytffggocjkhcgeaa
