/-
  Walks: filtered complexes as arguments.
  Conditions: each theorem's own.
-/
import Derived.Test.YtjjjgllbocgkbaaA1
set_option linter.unusedVariables false
set_option linter.unusedSimpArgs false
namespace Go.Proofs.Ytjjjgllbocgkbaa
open Go
/-- A filtered complex, as data. -/
structure Fl where
  c : Cx
  lv : List (List Int)
def RF (h : Heap) (v : Value) (X : Fl) : Prop := ∃ vd vm vl, v = .agg #[.int .i64 X.c.p, vd, vm, vl] ∧ R1 h vd X.c.dims ∧ R3 h vm X.c.maps ∧ R2 h vl X.lv
instance : Mono RF := ⟨fun hp ⟨vd, vm, vl, e, h1, h2, h3⟩ => ⟨vd, vm, vl, e, h1.pres hp, h2.pres hp, h3.pres hp⟩⟩
theorem RF.pres {h h' : Heap} {v : Value} {X : Fl} (hv : RF h v X) (hp : HPres h h') : RF h' v X := Mono.mono hp hv
theorem Apart.lft {fp f1 f2 : List Nat} (h : Apart fp (f1 ++ f2)) : Apart fp f1 := fun b hb hq => h b hb (List.mem_append_left _ hq)
theorem Apart.rgt {fp f1 f2 : List Nat} (h : Apart fp (f1 ++ f2)) : Apart fp f2 := fun b hb hq => h b hb (List.mem_append_right _ hq)
theorem szC_cntB {X : Cx} {l : Int} (h0 : 0 ≤ l) (h : ¬ szC X l < 0) : cnt1 X.dims + cntL cnt2 X.maps ≤ l - szC X l := by
  unfold szC at h ⊢
  split at h
  · omega
  rename_i h1
  split at h
  · omega
  have a := szI_cntA h1
  have b := szL_cntA (f := sz2) (ct := cnt2) (fun x l hx => szL_cntA (f := szI) (ct := cnt1) (fun x l hx => szI_cntA hx) x l hx) X.maps _ (show ¬ szL sz2 X.maps (szI X.dims l) < 0 from by assumption)
  have e : szL sz2 X.maps (szI X.dims l) = sz3 X.maps (szI X.dims l) := rfl
  rw [if_neg h1, if_neg (by assumption)]
  omega

def szF (X : Fl) (l : Int) : Int := if szC X.c l < 0 then -1 else if sz2 X.lv (szC X.c l) < 0 then -1 else sz2 X.lv (szC X.c l)
theorem szF_le (X : Fl) (l : Int) (h : 0 ≤ l) : -1 ≤ szF X l ∧ szF X l ≤ l := by
  unfold szF
  have h0 := szC_le X.c l h
  split
  · omega
  have h1 := sz2_le X.lv (szC X.c l) (by omega)
  split
  · omega
  omega
structure HMF (X : Fl) : Prop where
  c : HMC X.c
  lv : HM2 X.lv
theorem szF_ok' {X : Fl} {l : Int} (h0 : 0 ≤ l) (h1 : l ≤ 1048576) (h : ¬ szF X l < 0) : HMF X := by
  unfold szF at h
  have g0 := szC_le X.c l (by omega)
  split at h
  · omega
  rename_i c0
  have g1 := sz2_le X.lv (szC X.c l) (by omega)
  split at h
  · omega
  rename_i c1
  exact ⟨szC_ok' (by omega) (by omega) c0, sz2_ok (by omega) (by omega) c1⟩
theorem szF_cntA {X : Fl} {l : Int} (h0 : 0 ≤ l) (h1 : l ≤ 1048576) (h : ¬ szF X l < 0) : 0 ≤ cnt1 X.c.dims ∧ 0 ≤ cntL cnt2 X.c.maps ∧ 0 ≤ cntL cnt1 X.lv ∧ cnt1 X.c.dims + cntL cnt2 X.c.maps + cntL cnt1 X.lv ≤ 1048576 := by
  unfold szF at h
  have g0 := szC_le X.c l (by omega)
  split at h
  · omega
  rename_i c0
  have a0 := szC_cntB h0 c0
  have g1 := sz2_le X.lv (szC X.c l) (by omega)
  split at h
  · omega
  rename_i c1
  have a1 := szL_cntA (f := szI) (ct := cnt1) (fun x l hx => szI_cntA hx) X.lv (szC X.c l) c1
  have e1 : szL szI X.lv (szC X.c l) = sz2 X.lv (szC X.c l) := rfl
  exact ⟨cnt1_nn _, cntL_nonneg cnt2_nn _, cntL_nonneg cnt1_nn _, by omega⟩
set_option maxRecDepth 100000 in
theorem szF_ok (vX : Value) (X : Fl) (left : Int) (h : Heap) (rX : RF h vX X) (h0 : 0 ≤ left) (h1 : left ≤ 1048576) : CallA Try.prog 15 #[vX, .int .i64 left] h fun v' h' => v' = .int .i64 (szF X left) ∧ Ext h h' := by
  obtain ⟨vdX, vmX, vvX, rfl, hdX, hmX, hvX⟩ := rX
  have hledX := RdS.le hdX
  have hlemX := RdS.le hmX
  have hlevX := RdS.le hvX
  refine callA_intro TTok (args := [_, _]) Try.func15 (by kernel_rfl) rfl 18 rfl (by simp) [.tmp 4] rfl ?_
  simp only [idxs, Nat.reduceAdd]
  refine den_seq ?_
  refine den_region TTok ?_
  intro K hK
  simp -implicitDefEqProofs (disch := first | decide | assumption | omega) only [go_sem, RdS.len hdX sl22, RdS.idx hdX sl22, R1.intB hdX (HPres.refl _), RdS.cells hdX, RdS.len hmX sl23, RdS.idx hmX sl23, RdS.cellB hmX (HPres.refl _), RdS.cells hmX, RdS.len hvX sl26, RdS.idx hvX sl26, RdS.cellB hvX (HPres.refl _), RdS.cells hvX, wrap_id]
  refine op_box (cs := #[.int .i64 (X.c.p), vdX, vmX, vvX]) rfl ?_
  intro h0_0 e0_0 hb0_0 z0_0
  have := Ext.size e0_0
  have eB := e0_0
  have hfhb0_0 : Fresh h.size [h.size] := Fresh.one _
  have hlhb0_0 := one_lt (show h.size < h0_0.size by omega)
  try simp -implicitDefEqProofs (disch := first | decide | assumption | omega) only [go_sem, RdS.len hdX sl22, RdS.idx hdX sl22, R1.intB hdX (Ext.pres eB), RdS.cells hdX, RdS.len hmX sl23, RdS.idx hmX sl23, RdS.cellB hmX (Ext.pres eB), RdS.cells hmX, RdS.len hvX sl26, RdS.idx hvX sl26, RdS.cellB hvX (Ext.pres eB), RdS.cells hvX, BoxAt.cell hb0_0, wrap_id]
  refine hK _ _ ?_
  clear hK K
  refine den_seq ?_
  refine den_region TTok ?_
  intro K hK
  simp -implicitDefEqProofs (disch := first | decide | assumption | omega) only [go_sem, fa28_0, ld25, RdS.len hdX sl22, RdS.idx hdX sl22, R1.intB hdX (Ext.pres eB), RdS.cells hdX, RdS.len hmX sl23, RdS.idx hmX sl23, RdS.cellB hmX (Ext.pres eB), RdS.cells hmX, RdS.len hvX sl26, RdS.idx hvX sl26, RdS.cellB hvX (Ext.pres eB), RdS.cells hvX, BoxAt.cell hb0_0, wrap_id]
  try simp -implicitDefEqProofs (disch := first | decide | assumption | omega) only [go_sem, RdS.len hdX sl22, RdS.idx hdX sl22, R1.intB hdX (Ext.pres eB), RdS.cells hdX, RdS.len hmX sl23, RdS.idx hmX sl23, RdS.cellB hmX (Ext.pres eB), RdS.cells hmX, RdS.len hvX sl26, RdS.idx hvX sl26, RdS.cellB hvX (Ext.pres eB), RdS.cells hvX, BoxAt.cell hb0_0, wrap_id]
  refine CallA.mono (szC_ok _ X.c _ _ ⟨_, _, rfl, (RdS.pres hdX (Ext.pres eB)), (RdS.pres hmX (Ext.pres eB))⟩ (by omega) (by omega)) ?_
  intro v_ h1_3
  rintro ⟨rfl, e1_3⟩
  replace hb0_0 := BoxAt.ext hb0_0 e1_3
  have := Ext.size e1_3
  replace eB := Ext.trans eB e1_3
  have := szC_le X.c left (by omega)
  try simp -implicitDefEqProofs (disch := first | decide | assumption | omega) only [go_sem, RdS.len hdX sl22, RdS.idx hdX sl22, R1.intB hdX (Ext.pres eB), RdS.cells hdX, RdS.len hmX sl23, RdS.idx hmX sl23, RdS.cellB hmX (Ext.pres eB), RdS.cells hmX, RdS.len hvX sl26, RdS.idx hvX sl26, RdS.cellB hvX (Ext.pres eB), RdS.cells hvX, BoxAt.cell hb0_0, wrap_id]
  refine hK _ _ ?_
  clear hK K
  refine den_seq ?_
  refine den_seq ?_
  refine den_region TTok ?_
  intro K hK
  simp -implicitDefEqProofs (disch := first | decide | assumption | omega) only [go_sem, RdS.len hdX sl22, RdS.idx hdX sl22, R1.intB hdX (Ext.pres eB), RdS.cells hdX, RdS.len hmX sl23, RdS.idx hmX sl23, RdS.cellB hmX (Ext.pres eB), RdS.cells hmX, RdS.len hvX sl26, RdS.idx hvX sl26, RdS.cellB hvX (Ext.pres eB), RdS.cells hvX, BoxAt.cell hb0_0, wrap_id]
  refine hK _ _ ?_
  clear hK K
  refine den_cond rfl (fun c0 => ?_) (fun c0 => ?_)
  · try simp only [decide_eq_true_eq, decide_eq_false_iff_not, beq_iff_eq, beq_eq_false_iff_ne, bne_iff_ne, ne_eq, Bool.not_eq_true', Bool.not_eq_false', Bool.and_eq_true, Bool.or_eq_true, bne_eq_false_iff_eq] at c0
    refine den_seq ?_
    refine den_region TTok ?_
    intro K hK
    simp -implicitDefEqProofs (disch := first | decide | assumption | omega) only [go_sem, RdS.len hdX sl22, RdS.idx hdX sl22, R1.intB hdX (Ext.pres eB), RdS.cells hdX, RdS.len hmX sl23, RdS.idx hmX sl23, RdS.cellB hmX (Ext.pres eB), RdS.cells hmX, RdS.len hvX sl26, RdS.idx hvX sl26, RdS.cellB hvX (Ext.pres eB), RdS.cells hvX, wrap_id]
    refine hK _ _ ?_
    clear hK K
    refine den_ret ?_
    simp (disch := decide) only [resP_1, puts_same, puts_ne]
    exact ⟨vint (by rw [szF, if_pos c0]), eB⟩
  · try simp only [decide_eq_true_eq, decide_eq_false_iff_not, beq_iff_eq, beq_eq_false_iff_ne, bne_iff_ne, ne_eq, Bool.not_eq_true', Bool.not_eq_false', Bool.and_eq_true, Bool.or_eq_true, bne_eq_false_iff_eq] at c0
    refine den_skip ?_
    refine den_seq ?_
    refine den_region TTok ?_
    intro K hK
    simp -implicitDefEqProofs (disch := first | decide | assumption | omega) only [go_sem, fa28_1, ld26, RdS.len hdX sl22, RdS.idx hdX sl22, R1.intB hdX (Ext.pres eB), RdS.cells hdX, RdS.len hmX sl23, RdS.idx hmX sl23, RdS.cellB hmX (Ext.pres eB), RdS.cells hmX, RdS.len hvX sl26, RdS.idx hvX sl26, RdS.cellB hvX (Ext.pres eB), RdS.cells hvX, BoxAt.cell hb0_0, wrap_id]
    try simp -implicitDefEqProofs (disch := first | decide | assumption | omega) only [go_sem, RdS.len hdX sl22, RdS.idx hdX sl22, R1.intB hdX (Ext.pres eB), RdS.cells hdX, RdS.len hmX sl23, RdS.idx hmX sl23, RdS.cellB hmX (Ext.pres eB), RdS.cells hmX, RdS.len hvX sl26, RdS.idx hvX sl26, RdS.cellB hvX (Ext.pres eB), RdS.cells hvX, BoxAt.cell hb0_0, wrap_id]
    refine CallA.pure (szSS_ok _ X.lv _ _ (RdS.pres hvX (Ext.pres eB)) (by omega) (by omega)) ?_
    have := sz2_le X.lv (szC X.c left) (by omega)
    try simp -implicitDefEqProofs (disch := first | decide | assumption | omega) only [go_sem, RdS.len hdX sl22, RdS.idx hdX sl22, R1.intB hdX (Ext.pres eB), RdS.cells hdX, RdS.len hmX sl23, RdS.idx hmX sl23, RdS.cellB hmX (Ext.pres eB), RdS.cells hmX, RdS.len hvX sl26, RdS.idx hvX sl26, RdS.cellB hvX (Ext.pres eB), RdS.cells hvX, BoxAt.cell hb0_0, wrap_id]
    refine hK _ _ ?_
    clear hK K
    refine den_seq ?_
    refine den_seq ?_
    refine den_region TTok ?_
    intro K hK
    simp -implicitDefEqProofs (disch := first | decide | assumption | omega) only [go_sem, RdS.len hdX sl22, RdS.idx hdX sl22, R1.intB hdX (Ext.pres eB), RdS.cells hdX, RdS.len hmX sl23, RdS.idx hmX sl23, RdS.cellB hmX (Ext.pres eB), RdS.cells hmX, RdS.len hvX sl26, RdS.idx hvX sl26, RdS.cellB hvX (Ext.pres eB), RdS.cells hvX, wrap_id]
    refine hK _ _ ?_
    clear hK K
    refine den_cond rfl (fun c1 => ?_) (fun c1 => ?_)
    · try simp only [decide_eq_true_eq, decide_eq_false_iff_not, beq_iff_eq, beq_eq_false_iff_ne, bne_iff_ne, ne_eq, Bool.not_eq_true', Bool.not_eq_false', Bool.and_eq_true, Bool.or_eq_true, bne_eq_false_iff_eq] at c1
      refine den_seq ?_
      refine den_region TTok ?_
      intro K hK
      simp -implicitDefEqProofs (disch := first | decide | assumption | omega) only [go_sem, RdS.len hdX sl22, RdS.idx hdX sl22, R1.intB hdX (Ext.pres eB), RdS.cells hdX, RdS.len hmX sl23, RdS.idx hmX sl23, RdS.cellB hmX (Ext.pres eB), RdS.cells hmX, RdS.len hvX sl26, RdS.idx hvX sl26, RdS.cellB hvX (Ext.pres eB), RdS.cells hvX, wrap_id]
      refine hK _ _ ?_
      clear hK K
      refine den_ret ?_
      simp (disch := decide) only [resP_1, puts_same, puts_ne]
      exact ⟨vint (by rw [szF, if_neg c0, if_pos c1]), eB⟩
    · try simp only [decide_eq_true_eq, decide_eq_false_iff_not, beq_iff_eq, beq_eq_false_iff_ne, bne_iff_ne, ne_eq, Bool.not_eq_true', Bool.not_eq_false', Bool.and_eq_true, Bool.or_eq_true, bne_eq_false_iff_eq] at c1
      refine den_skip ?_
      refine den_seq ?_
      refine den_region TTok ?_
      intro K hK
      simp -implicitDefEqProofs (disch := first | decide | assumption | omega) only [go_sem, RdS.len hdX sl22, RdS.idx hdX sl22, R1.intB hdX (Ext.pres eB), RdS.cells hdX, RdS.len hmX sl23, RdS.idx hmX sl23, RdS.cellB hmX (Ext.pres eB), RdS.cells hmX, RdS.len hvX sl26, RdS.idx hvX sl26, RdS.cellB hvX (Ext.pres eB), RdS.cells hvX, wrap_id]
      refine hK _ _ ?_
      clear hK K
      refine den_ret ?_
      simp (disch := decide) only [resP_1, puts_same, puts_ne]
      exact ⟨vint (by rw [szF, if_neg c0, if_neg c1]), eB⟩

set_option maxRecDepth 100000 in
theorem toF_ok (vX : Value) (X : Fl) (h : Heap) (rX : RF h vX X) (hMX : HMF X) : CallA Try.prog 17 #[vX] h fun v' h' => ∃ wd0 wm0 wv0 fd0 fm0 fv0, v' = .agg #[.int .i64 (X).c.p, wd0, wm0, wv0] ∧ O1 h' wd0 (X).c.dims fd0 ∧ O3 h' wm0 (X).c.maps fm0 ∧ O2 h' wv0 (X).lv fv0 ∧ Fresh h.size (fd0 ++ (fm0 ++ fv0)) ∧ Ext h h' := by
  obtain ⟨vdX, vmX, vvX, rfl, hdX, hmX, hvX⟩ := rX
  have hledX := RdS.le hdX
  have hlemX := RdS.le hmX
  have hlevX := RdS.le hvX
  refine callA_intro TTok (args := [_]) Try.func17 (by kernel_rfl) rfl 13 rfl (by simp) [.cell 2 33] rfl ?_
  simp only [idxs, Nat.reduceAdd]
  refine den_seq ?_
  refine den_region TTok ?_
  intro K hK
  simp -implicitDefEqProofs (disch := first | decide | assumption | omega) only [go_sem, RdS.len hdX sl22, RdS.idx hdX sl22, R1.intB hdX (HPres.refl _), RdS.cells hdX, RdS.len hmX sl23, RdS.idx hmX sl23, RdS.cellB hmX (HPres.refl _), RdS.cells hmX, RdS.len hvX sl26, RdS.idx hvX sl26, RdS.cellB hvX (HPres.refl _), RdS.cells hvX, wrap_id]
  refine op_box (cs := #[.int .i64 (X.c.p), vdX, vmX, vvX]) rfl ?_
  intro h0_0 e0_0 hb0_0 z0_0
  have := Ext.size e0_0
  have eB := e0_0
  have hfhb0_0 : Fresh h.size [h.size] := Fresh.one _
  have hlhb0_0 := one_lt (show h.size < h0_0.size by omega)
  try simp -implicitDefEqProofs (disch := first | decide | assumption | omega) only [go_sem, RdS.len hdX sl22, RdS.idx hdX sl22, R1.intB hdX (Ext.pres eB), RdS.cells hdX, RdS.len hmX sl23, RdS.idx hmX sl23, RdS.cellB hmX (Ext.pres eB), RdS.cells hmX, RdS.len hvX sl26, RdS.idx hvX sl26, RdS.cellB hvX (Ext.pres eB), RdS.cells hvX, BoxAt.cell hb0_0, wrap_id]
  refine op_alloc (cs := #[.int .i64 0, .slice none 0 0, .slice none 0 0, .slice none 0 0]) (by kernel_rfl) ?_
  intro h0_1 e0_1 hb0_1 z0_1
  replace hb0_0 := BoxAt.ext hb0_0 e0_1
  have := Ext.size e0_1
  replace eB := Ext.trans eB e0_1
  have hfhb0_1 : Fresh h0_0.size [h0_0.size] := Fresh.one _
  have hlhb0_1 := one_lt (show h0_0.size < h0_1.size by omega)
  try simp -implicitDefEqProofs (disch := first | decide | assumption | omega) only [go_sem, RdS.len hdX sl22, RdS.idx hdX sl22, R1.intB hdX (Ext.pres eB), RdS.cells hdX, RdS.len hmX sl23, RdS.idx hmX sl23, RdS.cellB hmX (Ext.pres eB), RdS.cells hmX, RdS.len hvX sl26, RdS.idx hvX sl26, RdS.cellB hvX (Ext.pres eB), RdS.cells hvX, BoxAt.cell hb0_0, BoxAt.cell hb0_1, wrap_id]
  refine hK _ _ ?_
  clear hK K
  refine den_seq ?_
  refine den_region TTok ?_
  intro K hK
  simp -implicitDefEqProofs (disch := first | decide | assumption | omega) only [go_sem, RdS.len hdX sl22, RdS.idx hdX sl22, R1.intB hdX (Ext.pres eB), RdS.cells hdX, RdS.len hmX sl23, RdS.idx hmX sl23, RdS.cellB hmX (Ext.pres eB), RdS.cells hmX, RdS.len hvX sl26, RdS.idx hvX sl26, RdS.cellB hvX (Ext.pres eB), RdS.cells hvX, BoxAt.cell hb0_0, BoxAt.cell hb0_1, wrap_id]
  refine op_alloc (cs := #[.int .i64 0, .slice none 0 0, .slice none 0 0, .slice none 0 0]) (by kernel_rfl) ?_
  intro h1_0 e1_0 hb1_0 z1_0
  replace hb0_0 := BoxAt.ext hb0_0 e1_0
  replace hb0_1 := BoxAt.ext hb0_1 e1_0
  have := Ext.size e1_0
  replace eB := Ext.trans eB e1_0
  have hfhb1_0 : Fresh h0_1.size [h0_1.size] := Fresh.one _
  have hlhb1_0 := one_lt (show h0_1.size < h1_0.size by omega)
  try simp -implicitDefEqProofs (disch := first | decide | assumption | omega) only [go_sem, RdS.len hdX sl22, RdS.idx hdX sl22, R1.intB hdX (Ext.pres eB), RdS.cells hdX, RdS.len hmX sl23, RdS.idx hmX sl23, RdS.cellB hmX (Ext.pres eB), RdS.cells hmX, RdS.len hvX sl26, RdS.idx hvX sl26, RdS.cellB hvX (Ext.pres eB), RdS.cells hvX, BoxAt.cell hb0_0, BoxAt.cell hb0_1, BoxAt.cell hb1_0, wrap_id]
  refine hK _ _ ?_
  clear hK K
  refine den_seq ?_
  refine den_region TTok ?_
  intro K hK
  simp -implicitDefEqProofs (disch := first | decide | assumption | omega) only [go_sem, fa28_0, ld25, RdS.len hdX sl22, RdS.idx hdX sl22, R1.intB hdX (Ext.pres eB), RdS.cells hdX, RdS.len hmX sl23, RdS.idx hmX sl23, RdS.cellB hmX (Ext.pres eB), RdS.cells hmX, RdS.len hvX sl26, RdS.idx hvX sl26, RdS.cellB hvX (Ext.pres eB), RdS.cells hvX, BoxAt.cell hb0_0, BoxAt.cell hb0_1, BoxAt.cell hb1_0, wrap_id]
  try simp -implicitDefEqProofs (disch := first | decide | assumption | omega) only [go_sem, RdS.len hdX sl22, RdS.idx hdX sl22, R1.intB hdX (Ext.pres eB), RdS.cells hdX, RdS.len hmX sl23, RdS.idx hmX sl23, RdS.cellB hmX (Ext.pres eB), RdS.cells hmX, RdS.len hvX sl26, RdS.idx hvX sl26, RdS.cellB hvX (Ext.pres eB), RdS.cells hvX, BoxAt.cell hb0_0, BoxAt.cell hb0_1, BoxAt.cell hb1_0, wrap_id]
  refine CallA.mono (toC_ok _ X.c _ ⟨_, _, rfl, (RdS.pres hdX (Ext.pres eB)), (RdS.pres hmX (Ext.pres eB))⟩ hMX.c) ?_
  intro v_ h2_2
  rintro ⟨vd2_2, vm2_2, fd2_2, fm2_2, rfl, hod2_2, hom2_2, hf2_2, e2_2⟩
  replace hb0_0 := BoxAt.ext hb0_0 e2_2
  replace hb0_1 := BoxAt.ext hb0_1 e2_2
  replace hb1_0 := BoxAt.ext hb1_0 e2_2
  have := Ext.size e2_2
  replace eB := Ext.trans eB e2_2
  have hfd2_2 := hf2_2.left
  have hfm2_2 := hf2_2.right
  have hlhod2_2 := OS.lt hod2_2
  have hlhom2_2 := OS.lt hom2_2
  have ap1 : Apart fd2_2 fm2_2 := apart_nodup hf2_2
  try simp -implicitDefEqProofs (disch := first | decide | assumption | omega) only [go_sem, fa33_0, RdS.len hdX sl22, RdS.idx hdX sl22, R1.intB hdX (Ext.pres eB), RdS.cells hdX, RdS.len hmX sl23, RdS.idx hmX sl23, RdS.cellB hmX (Ext.pres eB), RdS.cells hmX, RdS.len hvX sl26, RdS.idx hvX sl26, RdS.cellB hvX (Ext.pres eB), RdS.cells hvX, RdS.len (OS.rd hod2_2) sl22, RdS.idx (OS.rd hod2_2) sl22, R1.intN (OS.rd hod2_2), RdS.cells (OS.rd hod2_2), RdS.len (OS.rd hom2_2) sl23, RdS.idx (OS.rd hom2_2) sl23, RdS.cellN (OS.rd hom2_2), RdS.cells (OS.rd hom2_2), BoxAt.cell hb0_0, BoxAt.cell hb0_1, BoxAt.cell hb1_0, wrap_id]
  refine op_storeB (cs' := #[.int .i64 (X.c.p), vd2_2, vm2_2, .slice none 0 0]) st31 hb1_0 rfl rfl rfl (by simp) (allOne_mem (l := [.int .i64 (X.c.p), vd2_2, vm2_2]) ⟨rfl, (OS.one hod2_2).1, (OS.one hom2_2).1, trivial⟩) rfl ?_
  intro h2_4 hb1_0 c2_4
  replace hod2_2 := OS.chg hod2_2 c2_4 (apart_gt hfd2_2 hlhb1_0 (by omega))
  replace hom2_2 := OS.chg hom2_2 c2_4 (apart_gt hfm2_2 hlhb1_0 (by omega))
  replace hb0_0 := BoxAt.chgA hb0_0 c2_4 (apart_lt hlhb0_0 hfhb1_0 (by omega))
  replace hb0_1 := BoxAt.chgA hb0_1 c2_4 (apart_lt hlhb0_1 hfhb1_0 (by omega))
  have := c2_4.size
  replace eB := Ext.then eB c2_4 (ge_of hfhb1_0 (by omega))
  try simp -implicitDefEqProofs (disch := first | decide | assumption | omega) only [go_sem, RdS.len hdX sl22, RdS.idx hdX sl22, R1.intB hdX (Ext.pres eB), RdS.cells hdX, RdS.len hmX sl23, RdS.idx hmX sl23, RdS.cellB hmX (Ext.pres eB), RdS.cells hmX, RdS.len hvX sl26, RdS.idx hvX sl26, RdS.cellB hvX (Ext.pres eB), RdS.cells hvX, RdS.len (OS.rd hod2_2) sl22, RdS.idx (OS.rd hod2_2) sl22, R1.intN (OS.rd hod2_2), RdS.cells (OS.rd hod2_2), RdS.len (OS.rd hom2_2) sl23, RdS.idx (OS.rd hom2_2) sl23, RdS.cellN (OS.rd hom2_2), RdS.cells (OS.rd hom2_2), BoxAt.cell hb0_0, BoxAt.cell hb0_1, BoxAt.cell hb1_0, wrap_id]
  refine hK _ _ ?_
  clear hK K
  refine den_seq ?_
  refine den_region TTok ?_
  intro K hK
  simp -implicitDefEqProofs (disch := first | decide | assumption | omega) only [go_sem, fa28_1, ld26, RdS.len hdX sl22, RdS.idx hdX sl22, R1.intB hdX (Ext.pres eB), RdS.cells hdX, RdS.len hmX sl23, RdS.idx hmX sl23, RdS.cellB hmX (Ext.pres eB), RdS.cells hmX, RdS.len hvX sl26, RdS.idx hvX sl26, RdS.cellB hvX (Ext.pres eB), RdS.cells hvX, RdS.len (OS.rd hod2_2) sl22, RdS.idx (OS.rd hod2_2) sl22, R1.intN (OS.rd hod2_2), RdS.cells (OS.rd hod2_2), RdS.len (OS.rd hom2_2) sl23, RdS.idx (OS.rd hom2_2) sl23, RdS.cellN (OS.rd hom2_2), RdS.cells (OS.rd hom2_2), BoxAt.cell hb0_0, BoxAt.cell hb0_1, BoxAt.cell hb1_0, wrap_id]
  try simp -implicitDefEqProofs (disch := first | decide | assumption | omega) only [go_sem, RdS.len hdX sl22, RdS.idx hdX sl22, R1.intB hdX (Ext.pres eB), RdS.cells hdX, RdS.len hmX sl23, RdS.idx hmX sl23, RdS.cellB hmX (Ext.pres eB), RdS.cells hmX, RdS.len hvX sl26, RdS.idx hvX sl26, RdS.cellB hvX (Ext.pres eB), RdS.cells hvX, RdS.len (OS.rd hod2_2) sl22, RdS.idx (OS.rd hod2_2) sl22, R1.intN (OS.rd hod2_2), RdS.cells (OS.rd hod2_2), RdS.len (OS.rd hom2_2) sl23, RdS.idx (OS.rd hom2_2) sl23, RdS.cellN (OS.rd hom2_2), RdS.cells (OS.rd hom2_2), BoxAt.cell hb0_0, BoxAt.cell hb0_1, BoxAt.cell hb1_0, wrap_id]
  refine CallA.mono (toSS_ok _ X.lv _ (RdS.pres hvX (Ext.pres eB)) hMX.lv) ?_
  intro v3_2 h3_2
  rintro ⟨f3_2, ho3_2, hf3_2, e3_2⟩
  replace hod2_2 := OS.ext hod2_2 e3_2
  replace hom2_2 := OS.ext hom2_2 e3_2
  replace hb0_0 := BoxAt.ext hb0_0 e3_2
  replace hb0_1 := BoxAt.ext hb0_1 e3_2
  replace hb1_0 := BoxAt.ext hb1_0 e3_2
  have := Ext.size e3_2
  replace eB := Ext.trans eB e3_2
  have hlho3_2 := OS.lt ho3_2
  try simp -implicitDefEqProofs (disch := first | decide | assumption | omega) only [go_sem, fa33_1, RdS.len hdX sl22, RdS.idx hdX sl22, R1.intB hdX (Ext.pres eB), RdS.cells hdX, RdS.len hmX sl23, RdS.idx hmX sl23, RdS.cellB hmX (Ext.pres eB), RdS.cells hmX, RdS.len hvX sl26, RdS.idx hvX sl26, RdS.cellB hvX (Ext.pres eB), RdS.cells hvX, RdS.len (OS.rd hod2_2) sl22, RdS.idx (OS.rd hod2_2) sl22, R1.intN (OS.rd hod2_2), RdS.cells (OS.rd hod2_2), RdS.len (OS.rd hom2_2) sl23, RdS.idx (OS.rd hom2_2) sl23, RdS.cellN (OS.rd hom2_2), RdS.cells (OS.rd hom2_2), RdS.len (OS.rd ho3_2) sl26, RdS.idx (OS.rd ho3_2) sl26, RdS.cellN (OS.rd ho3_2), RdS.cells (OS.rd ho3_2), BoxAt.cell hb0_0, BoxAt.cell hb0_1, BoxAt.cell hb1_0, wrap_id]
  refine op_storeB (cs' := #[.int .i64 (X.c.p), vd2_2, vm2_2, v3_2]) st26 hb1_0 rfl (OS.one ho3_2).2 rfl (by simp) (allOne_mem (l := [v3_2]) ⟨(OS.one ho3_2).1, trivial⟩) rfl ?_
  intro h3_4 hb1_0 c3_4
  replace hod2_2 := OS.chg hod2_2 c3_4 (apart_gt hfd2_2 hlhb1_0 (by omega))
  replace hom2_2 := OS.chg hom2_2 c3_4 (apart_gt hfm2_2 hlhb1_0 (by omega))
  replace ho3_2 := OS.chg ho3_2 c3_4 (apart_gt hf3_2 hlhb1_0 (by omega))
  replace hb0_0 := BoxAt.chgA hb0_0 c3_4 (apart_lt hlhb0_0 hfhb1_0 (by omega))
  replace hb0_1 := BoxAt.chgA hb0_1 c3_4 (apart_lt hlhb0_1 hfhb1_0 (by omega))
  have := c3_4.size
  replace eB := Ext.then eB c3_4 (ge_of hfhb1_0 (by omega))
  try simp -implicitDefEqProofs (disch := first | decide | assumption | omega) only [go_sem, RdS.len hdX sl22, RdS.idx hdX sl22, R1.intB hdX (Ext.pres eB), RdS.cells hdX, RdS.len hmX sl23, RdS.idx hmX sl23, RdS.cellB hmX (Ext.pres eB), RdS.cells hmX, RdS.len hvX sl26, RdS.idx hvX sl26, RdS.cellB hvX (Ext.pres eB), RdS.cells hvX, RdS.len (OS.rd hod2_2) sl22, RdS.idx (OS.rd hod2_2) sl22, R1.intN (OS.rd hod2_2), RdS.cells (OS.rd hod2_2), RdS.len (OS.rd hom2_2) sl23, RdS.idx (OS.rd hom2_2) sl23, RdS.cellN (OS.rd hom2_2), RdS.cells (OS.rd hom2_2), RdS.len (OS.rd ho3_2) sl26, RdS.idx (OS.rd ho3_2) sl26, RdS.cellN (OS.rd ho3_2), RdS.cells (OS.rd ho3_2), BoxAt.cell hb0_0, BoxAt.cell hb0_1, BoxAt.cell hb1_0, wrap_id]
  refine hK _ _ ?_
  clear hK K
  refine den_seq ?_
  refine den_region TTok ?_
  intro K hK
  simp -implicitDefEqProofs (disch := first | decide | assumption | omega) only [go_sem, ld33, RdS.len hdX sl22, RdS.idx hdX sl22, R1.intB hdX (Ext.pres eB), RdS.cells hdX, RdS.len hmX sl23, RdS.idx hmX sl23, RdS.cellB hmX (Ext.pres eB), RdS.cells hmX, RdS.len hvX sl26, RdS.idx hvX sl26, RdS.cellB hvX (Ext.pres eB), RdS.cells hvX, RdS.len (OS.rd hod2_2) sl22, RdS.idx (OS.rd hod2_2) sl22, R1.intN (OS.rd hod2_2), RdS.cells (OS.rd hod2_2), RdS.len (OS.rd hom2_2) sl23, RdS.idx (OS.rd hom2_2) sl23, RdS.cellN (OS.rd hom2_2), RdS.cells (OS.rd hom2_2), RdS.len (OS.rd ho3_2) sl26, RdS.idx (OS.rd ho3_2) sl26, RdS.cellN (OS.rd ho3_2), RdS.cells (OS.rd ho3_2), BoxAt.cell hb0_1, BoxAt.cell hb1_0, wrap_id]
  refine op_storeB (cs' := #[.int .i64 (X.c.p), vd2_2, vm2_2, v3_2]) st33 hb0_1 rfl rfl rfl (by simp) (allOne_mem (l := [.int .i64 (X.c.p), vd2_2, vm2_2, v3_2]) ⟨rfl, (OS.one hod2_2).1, (OS.one hom2_2).1, (OS.one ho3_2).1, trivial⟩) rfl ?_
  intro h4_1 hb0_1 c4_1
  replace hod2_2 := OS.chg hod2_2 c4_1 (apart_gt hfd2_2 hlhb0_1 (by omega))
  replace hom2_2 := OS.chg hom2_2 c4_1 (apart_gt hfm2_2 hlhb0_1 (by omega))
  replace ho3_2 := OS.chg ho3_2 c4_1 (apart_gt hf3_2 hlhb0_1 (by omega))
  replace hb1_0 := BoxAt.chgA hb1_0 c4_1 (apart_gt hfhb1_0 hlhb0_1 (by omega))
  have := c4_1.size
  replace eB := Ext.then eB c4_1 (ge_of hfhb0_1 (by omega))
  try simp -implicitDefEqProofs (disch := first | decide | assumption | omega) only [go_sem, RdS.len hdX sl22, RdS.idx hdX sl22, R1.intB hdX (Ext.pres eB), RdS.cells hdX, RdS.len hmX sl23, RdS.idx hmX sl23, RdS.cellB hmX (Ext.pres eB), RdS.cells hmX, RdS.len hvX sl26, RdS.idx hvX sl26, RdS.cellB hvX (Ext.pres eB), RdS.cells hvX, RdS.len (OS.rd hod2_2) sl22, RdS.idx (OS.rd hod2_2) sl22, R1.intN (OS.rd hod2_2), RdS.cells (OS.rd hod2_2), RdS.len (OS.rd hom2_2) sl23, RdS.idx (OS.rd hom2_2) sl23, RdS.cellN (OS.rd hom2_2), RdS.cells (OS.rd hom2_2), RdS.len (OS.rd ho3_2) sl26, RdS.idx (OS.rd ho3_2) sl26, RdS.cellN (OS.rd ho3_2), RdS.cells (OS.rd ho3_2), BoxAt.cell hb0_1, BoxAt.cell hb1_0, wrap_id]
  refine hK _ _ ?_
  clear hK K
  refine den_ret ?_
  simp -implicitDefEqProofs (disch := first | decide | assumption | omega) only [go_sem, RdS.len hdX sl22, RdS.idx hdX sl22, R1.intB hdX (Ext.pres eB), RdS.cells hdX, RdS.len hmX sl23, RdS.idx hmX sl23, RdS.cellB hmX (Ext.pres eB), RdS.cells hmX, RdS.len hvX sl26, RdS.idx hvX sl26, RdS.cellB hvX (Ext.pres eB), RdS.cells hvX, RdS.len (OS.rd hod2_2) sl22, RdS.idx (OS.rd hod2_2) sl22, R1.intN (OS.rd hod2_2), RdS.cells (OS.rd hod2_2), RdS.len (OS.rd hom2_2) sl23, RdS.idx (OS.rd hom2_2) sl23, RdS.cellN (OS.rd hom2_2), RdS.cells (OS.rd hom2_2), RdS.len (OS.rd ho3_2) sl26, RdS.idx (OS.rd ho3_2) sl26, RdS.cellN (OS.rd ho3_2), RdS.cells (OS.rd ho3_2), BoxAt.cell hb0_1, BoxAt.cell hb1_0, wrap_id, resP_c1, ld33]
  exact ⟨_, _, _, _, _, _, rfl, hod2_2, hom2_2, ho3_2, (Fresh.two (lo := h.size) hfd2_2 (Fresh.two (lo := h.size) hfm2_2 hf3_2 (apart_lt hlhom2_2 hf3_2 (by omega)) (by omega) (by omega)) (Apart.app ap1 (apart_lt hlhod2_2 hf3_2 (by omega))) (by omega) (by omega)), eB⟩

set_option maxRecDepth 100000 in
theorem eqF_same (v w : Value) (X : Fl) (h : Heap) (rX : RF h v X) (rY : RF h w X) : CallA Try.prog 19 #[v, w] h fun u h' => u = .bool true ∧ Ext h h' := by
  obtain ⟨vdX, vmX, vvX, rfl, hdX, hmX, hvX⟩ := rX
  obtain ⟨vdY, vmY, vvY, rfl, hdY, hmY, hvY⟩ := rY
  refine callA_intro TTok (args := [_, _]) Try.func19 (by kernel_rfl) rfl 17 rfl (by simp) [.tmp 4] rfl ?_
  simp only [idxs, Nat.reduceAdd]
  refine den_seq ?_
  refine den_region TTok ?_
  intro K hK
  simp -implicitDefEqProofs (disch := first | decide | assumption | omega) only [go_sem, RdS.len hdX sl22, RdS.idx hdX sl22, R1.intB hdX (HPres.refl _), RdS.cells hdX, RdS.len hmX sl23, RdS.idx hmX sl23, RdS.cellB hmX (HPres.refl _), RdS.cells hmX, RdS.len hvX sl26, RdS.idx hvX sl26, RdS.cellB hvX (HPres.refl _), RdS.cells hvX, RdS.len hdY sl22, RdS.idx hdY sl22, R1.intB hdY (HPres.refl _), RdS.cells hdY, RdS.len hmY sl23, RdS.idx hmY sl23, RdS.cellB hmY (HPres.refl _), RdS.cells hmY, RdS.len hvY sl26, RdS.idx hvY sl26, RdS.cellB hvY (HPres.refl _), RdS.cells hvY, wrap_id]
  refine op_box (cs := #[.int .i64 (X.c.p), vdX, vmX, vvX]) rfl ?_
  intro h0_0 e0_0 hb0_0 z0_0
  have := Ext.size e0_0
  have eB := e0_0
  have hfhb0_0 : Fresh h.size [h.size] := Fresh.one _
  have hlhb0_0 := one_lt (show h.size < h0_0.size by omega)
  try simp -implicitDefEqProofs (disch := first | decide | assumption | omega) only [go_sem, RdS.len hdX sl22, RdS.idx hdX sl22, R1.intB hdX (Ext.pres eB), RdS.cells hdX, RdS.len hmX sl23, RdS.idx hmX sl23, RdS.cellB hmX (Ext.pres eB), RdS.cells hmX, RdS.len hvX sl26, RdS.idx hvX sl26, RdS.cellB hvX (Ext.pres eB), RdS.cells hvX, RdS.len hdY sl22, RdS.idx hdY sl22, R1.intB hdY (Ext.pres eB), RdS.cells hdY, RdS.len hmY sl23, RdS.idx hmY sl23, RdS.cellB hmY (Ext.pres eB), RdS.cells hmY, RdS.len hvY sl26, RdS.idx hvY sl26, RdS.cellB hvY (Ext.pres eB), RdS.cells hvY, BoxAt.cell hb0_0, wrap_id]
  refine op_box (cs := #[.int .i64 (X.c.p), vdY, vmY, vvY]) rfl ?_
  intro h0_1 e0_1 hb0_1 z0_1
  replace hb0_0 := BoxAt.ext hb0_0 e0_1
  have := Ext.size e0_1
  replace eB := Ext.trans eB e0_1
  have hfhb0_1 : Fresh h0_0.size [h0_0.size] := Fresh.one _
  have hlhb0_1 := one_lt (show h0_0.size < h0_1.size by omega)
  try simp -implicitDefEqProofs (disch := first | decide | assumption | omega) only [go_sem, RdS.len hdX sl22, RdS.idx hdX sl22, R1.intB hdX (Ext.pres eB), RdS.cells hdX, RdS.len hmX sl23, RdS.idx hmX sl23, RdS.cellB hmX (Ext.pres eB), RdS.cells hmX, RdS.len hvX sl26, RdS.idx hvX sl26, RdS.cellB hvX (Ext.pres eB), RdS.cells hvX, RdS.len hdY sl22, RdS.idx hdY sl22, R1.intB hdY (Ext.pres eB), RdS.cells hdY, RdS.len hmY sl23, RdS.idx hmY sl23, RdS.cellB hmY (Ext.pres eB), RdS.cells hmY, RdS.len hvY sl26, RdS.idx hvY sl26, RdS.cellB hvY (Ext.pres eB), RdS.cells hvY, BoxAt.cell hb0_0, BoxAt.cell hb0_1, wrap_id]
  refine hK _ _ ?_
  clear hK K
  refine den_seq ?_
  refine den_seq ?_
  refine den_region TTok ?_
  intro K hK
  simp -implicitDefEqProofs (disch := first | decide | assumption | omega) only [go_sem, fa33_0, ld31, RdS.len hdX sl22, RdS.idx hdX sl22, R1.intB hdX (Ext.pres eB), RdS.cells hdX, RdS.len hmX sl23, RdS.idx hmX sl23, RdS.cellB hmX (Ext.pres eB), RdS.cells hmX, RdS.len hvX sl26, RdS.idx hvX sl26, RdS.cellB hvX (Ext.pres eB), RdS.cells hvX, RdS.len hdY sl22, RdS.idx hdY sl22, R1.intB hdY (Ext.pres eB), RdS.cells hdY, RdS.len hmY sl23, RdS.idx hmY sl23, RdS.cellB hmY (Ext.pres eB), RdS.cells hmY, RdS.len hvY sl26, RdS.idx hvY sl26, RdS.cellB hvY (Ext.pres eB), RdS.cells hvY, BoxAt.cell hb0_0, BoxAt.cell hb0_1, wrap_id]
  try simp -implicitDefEqProofs (disch := first | decide | assumption | omega) only [go_sem, RdS.len hdX sl22, RdS.idx hdX sl22, R1.intB hdX (Ext.pres eB), RdS.cells hdX, RdS.len hmX sl23, RdS.idx hmX sl23, RdS.cellB hmX (Ext.pres eB), RdS.cells hmX, RdS.len hvX sl26, RdS.idx hvX sl26, RdS.cellB hvX (Ext.pres eB), RdS.cells hvX, RdS.len hdY sl22, RdS.idx hdY sl22, R1.intB hdY (Ext.pres eB), RdS.cells hdY, RdS.len hmY sl23, RdS.idx hmY sl23, RdS.cellB hmY (Ext.pres eB), RdS.cells hmY, RdS.len hvY sl26, RdS.idx hvY sl26, RdS.cellB hvY (Ext.pres eB), RdS.cells hvY, BoxAt.cell hb0_0, BoxAt.cell hb0_1, wrap_id]
  refine CallA.mono (eqC_same _ _ X.c _ ⟨_, _, rfl, (RdS.pres hdX (Ext.pres eB)), (RdS.pres hmX (Ext.pres eB))⟩ ⟨_, _, rfl, (RdS.pres hdY (Ext.pres eB)), (RdS.pres hmY (Ext.pres eB))⟩) ?_
  intro v_ h1_4
  rintro ⟨rfl, e1_4⟩
  replace hb0_0 := BoxAt.ext hb0_0 e1_4
  replace hb0_1 := BoxAt.ext hb0_1 e1_4
  have := Ext.size e1_4
  replace eB := Ext.trans eB e1_4
  try simp -implicitDefEqProofs (disch := first | decide | assumption | omega) only [go_sem, RdS.len hdX sl22, RdS.idx hdX sl22, R1.intB hdX (Ext.pres eB), RdS.cells hdX, RdS.len hmX sl23, RdS.idx hmX sl23, RdS.cellB hmX (Ext.pres eB), RdS.cells hmX, RdS.len hvX sl26, RdS.idx hvX sl26, RdS.cellB hvX (Ext.pres eB), RdS.cells hvX, RdS.len hdY sl22, RdS.idx hdY sl22, R1.intB hdY (Ext.pres eB), RdS.cells hdY, RdS.len hmY sl23, RdS.idx hmY sl23, RdS.cellB hmY (Ext.pres eB), RdS.cells hmY, RdS.len hvY sl26, RdS.idx hvY sl26, RdS.cellB hvY (Ext.pres eB), RdS.cells hvY, BoxAt.cell hb0_0, BoxAt.cell hb0_1, wrap_id]
  refine hK _ _ ?_
  clear hK K
  refine den_cond rfl (fun c0 => ?_) (fun c0 => ?_)
  · try simp only [decide_eq_true_eq, decide_eq_false_iff_not, beq_iff_eq, beq_eq_false_iff_ne, bne_iff_ne, ne_eq, Bool.not_eq_true', Bool.not_eq_false', Bool.and_eq_true, Bool.or_eq_true, bne_eq_false_iff_eq] at c0
    refine den_seq ?_
    refine den_region TTok ?_
    intro K hK
    simp -implicitDefEqProofs (disch := first | decide | assumption | omega) only [go_sem, RdS.len hdX sl22, RdS.idx hdX sl22, R1.intB hdX (Ext.pres eB), RdS.cells hdX, RdS.len hmX sl23, RdS.idx hmX sl23, RdS.cellB hmX (Ext.pres eB), RdS.cells hmX, RdS.len hvX sl26, RdS.idx hvX sl26, RdS.cellB hvX (Ext.pres eB), RdS.cells hvX, RdS.len hdY sl22, RdS.idx hdY sl22, R1.intB hdY (Ext.pres eB), RdS.cells hdY, RdS.len hmY sl23, RdS.idx hmY sl23, RdS.cellB hmY (Ext.pres eB), RdS.cells hmY, RdS.len hvY sl26, RdS.idx hvY sl26, RdS.cellB hvY (Ext.pres eB), RdS.cells hvY, wrap_id]
    refine hK _ _ ?_
    clear hK K
    refine den_ret ?_
    simp (disch := decide) only [resP_1, puts_same, puts_ne]
    exact absurd c0 (by simp)
  · try simp only [decide_eq_true_eq, decide_eq_false_iff_not, beq_iff_eq, beq_eq_false_iff_ne, bne_iff_ne, ne_eq, Bool.not_eq_true', Bool.not_eq_false', Bool.and_eq_true, Bool.or_eq_true, bne_eq_false_iff_eq] at c0
    refine den_skip ?_
    refine den_seq ?_
    refine den_seq ?_
    refine den_region TTok ?_
    intro K hK
    simp -implicitDefEqProofs (disch := first | decide | assumption | omega) only [go_sem, fa33_1, ld26, RdS.len hdX sl22, RdS.idx hdX sl22, R1.intB hdX (Ext.pres eB), RdS.cells hdX, RdS.len hmX sl23, RdS.idx hmX sl23, RdS.cellB hmX (Ext.pres eB), RdS.cells hmX, RdS.len hvX sl26, RdS.idx hvX sl26, RdS.cellB hvX (Ext.pres eB), RdS.cells hvX, RdS.len hdY sl22, RdS.idx hdY sl22, R1.intB hdY (Ext.pres eB), RdS.cells hdY, RdS.len hmY sl23, RdS.idx hmY sl23, RdS.cellB hmY (Ext.pres eB), RdS.cells hmY, RdS.len hvY sl26, RdS.idx hvY sl26, RdS.cellB hvY (Ext.pres eB), RdS.cells hvY, BoxAt.cell hb0_0, BoxAt.cell hb0_1, wrap_id]
    try simp -implicitDefEqProofs (disch := first | decide | assumption | omega) only [go_sem, RdS.len hdX sl22, RdS.idx hdX sl22, R1.intB hdX (Ext.pres eB), RdS.cells hdX, RdS.len hmX sl23, RdS.idx hmX sl23, RdS.cellB hmX (Ext.pres eB), RdS.cells hmX, RdS.len hvX sl26, RdS.idx hvX sl26, RdS.cellB hvX (Ext.pres eB), RdS.cells hvX, RdS.len hdY sl22, RdS.idx hdY sl22, R1.intB hdY (Ext.pres eB), RdS.cells hdY, RdS.len hmY sl23, RdS.idx hmY sl23, RdS.cellB hmY (Ext.pres eB), RdS.cells hmY, RdS.len hvY sl26, RdS.idx hvY sl26, RdS.cellB hvY (Ext.pres eB), RdS.cells hvY, BoxAt.cell hb0_0, BoxAt.cell hb0_1, wrap_id]
    refine CallA.pure (eqSS_same _ _ _ _ (RdS.pres hvX (Ext.pres eB)) (RdS.pres hvY (Ext.pres eB))) ?_
    try simp -implicitDefEqProofs (disch := first | decide | assumption | omega) only [go_sem, RdS.len hdX sl22, RdS.idx hdX sl22, R1.intB hdX (Ext.pres eB), RdS.cells hdX, RdS.len hmX sl23, RdS.idx hmX sl23, RdS.cellB hmX (Ext.pres eB), RdS.cells hmX, RdS.len hvX sl26, RdS.idx hvX sl26, RdS.cellB hvX (Ext.pres eB), RdS.cells hvX, RdS.len hdY sl22, RdS.idx hdY sl22, R1.intB hdY (Ext.pres eB), RdS.cells hdY, RdS.len hmY sl23, RdS.idx hmY sl23, RdS.cellB hmY (Ext.pres eB), RdS.cells hmY, RdS.len hvY sl26, RdS.idx hvY sl26, RdS.cellB hvY (Ext.pres eB), RdS.cells hvY, BoxAt.cell hb0_0, BoxAt.cell hb0_1, wrap_id]
    refine hK _ _ ?_
    clear hK K
    refine den_cond rfl (fun c1 => ?_) (fun c1 => ?_)
    · try simp only [decide_eq_true_eq, decide_eq_false_iff_not, beq_iff_eq, beq_eq_false_iff_ne, bne_iff_ne, ne_eq, Bool.not_eq_true', Bool.not_eq_false', Bool.and_eq_true, Bool.or_eq_true, bne_eq_false_iff_eq] at c1
      refine den_seq ?_
      refine den_region TTok ?_
      intro K hK
      simp -implicitDefEqProofs (disch := first | decide | assumption | omega) only [go_sem, RdS.len hdX sl22, RdS.idx hdX sl22, R1.intB hdX (Ext.pres eB), RdS.cells hdX, RdS.len hmX sl23, RdS.idx hmX sl23, RdS.cellB hmX (Ext.pres eB), RdS.cells hmX, RdS.len hvX sl26, RdS.idx hvX sl26, RdS.cellB hvX (Ext.pres eB), RdS.cells hvX, RdS.len hdY sl22, RdS.idx hdY sl22, R1.intB hdY (Ext.pres eB), RdS.cells hdY, RdS.len hmY sl23, RdS.idx hmY sl23, RdS.cellB hmY (Ext.pres eB), RdS.cells hmY, RdS.len hvY sl26, RdS.idx hvY sl26, RdS.cellB hvY (Ext.pres eB), RdS.cells hvY, wrap_id]
      refine hK _ _ ?_
      clear hK K
      refine den_ret ?_
      simp (disch := decide) only [resP_1, puts_same, puts_ne]
      exact absurd c1 (by simp)
    · try simp only [decide_eq_true_eq, decide_eq_false_iff_not, beq_iff_eq, beq_eq_false_iff_ne, bne_iff_ne, ne_eq, Bool.not_eq_true', Bool.not_eq_false', Bool.and_eq_true, Bool.or_eq_true, bne_eq_false_iff_eq] at c1
      refine den_skip ?_
      refine den_seq ?_
      refine den_region TTok ?_
      intro K hK
      simp -implicitDefEqProofs (disch := first | decide | assumption | omega) only [go_sem, RdS.len hdX sl22, RdS.idx hdX sl22, R1.intB hdX (Ext.pres eB), RdS.cells hdX, RdS.len hmX sl23, RdS.idx hmX sl23, RdS.cellB hmX (Ext.pres eB), RdS.cells hmX, RdS.len hvX sl26, RdS.idx hvX sl26, RdS.cellB hvX (Ext.pres eB), RdS.cells hvX, RdS.len hdY sl22, RdS.idx hdY sl22, R1.intB hdY (Ext.pres eB), RdS.cells hdY, RdS.len hmY sl23, RdS.idx hmY sl23, RdS.cellB hmY (Ext.pres eB), RdS.cells hmY, RdS.len hvY sl26, RdS.idx hvY sl26, RdS.cellB hvY (Ext.pres eB), RdS.cells hvY, wrap_id]
      refine hK _ _ ?_
      clear hK K
      refine den_ret ?_
      simp (disch := decide) only [resP_1, puts_same, puts_ne]
      exact ⟨by first | rfl | trivial, eB⟩

set_option maxRecDepth 100000 in
theorem markF_ok (vd vm vv : Value) (X : Fl) (k : Int) (fd fm fv : List Nat) (h : Heap) (hod : O1 h vd X.c.dims fd) (hom : O3 h vm X.c.maps fm) (hov : O2 h vv X.lv fv) (hf : (fd ++ (fm ++ fv)).Nodup) (hk : 0 ≤ k ∧ 0 ≤ cnt1 X.c.dims ∧ 0 ≤ cntL cnt2 X.c.maps ∧ 0 ≤ cntL cnt1 X.lv ∧ k + cnt1 X.c.dims + cntL cnt2 X.c.maps + cntL cnt1 X.lv ≤ 4611686018427387904) : CallA Try.prog 22 #[.agg #[.int .i64 X.c.p, vd, vm, vv], .int .i64 k] h fun u h' => u = .int .i64 (k + cnt1 X.c.dims + cntL cnt2 X.c.maps + cntL cnt1 X.lv) ∧ O1 h' vd (markI X.c.dims (k)) fd ∧ O3 h' vm (mark3 X.c.maps (k + cnt1 X.c.dims)) fm ∧ O2 h' vv (mark2 X.lv (k + cnt1 X.c.dims + cntL cnt2 X.c.maps)) fv ∧ Chg (fd ++ (fm ++ fv)) h h' := by
  have hF : Fresh 0 (fd ++ (fm ++ fv)) := ⟨hf, fun _ _ => Nat.zero_le _⟩
  have hfd := hF.left
  have hFr0 := hF.right
  have hfm := hFr0.left
  have hfv := hFr0.right
  have ap_d_m := Apart.lft (apart_nodup hF)
  have ap_d_v := Apart.rgt (apart_nodup hF)
  have ap_m_v := apart_nodup hFr0
  have hld := OS.lt hod
  have hlm := OS.lt hom
  have hlv := OS.lt hov
  refine callA_intro TTok (args := [_, _]) Try.func22 (by kernel_rfl) rfl 14 rfl (by simp) [.tmp 4] rfl ?_
  simp only [idxs, Nat.reduceAdd]
  refine den_seq ?_
  refine den_region TTok ?_
  intro K hK
  simp -implicitDefEqProofs (disch := first | decide | assumption | omega) only [go_sem, RdS.len (OS.rd hod) sl22, RdS.idx (OS.rd hod) sl22, R1.intN (OS.rd hod), RdS.cells (OS.rd hod), RdS.len (OS.rd hom) sl23, RdS.idx (OS.rd hom) sl23, RdS.cellN (OS.rd hom), RdS.cells (OS.rd hom), RdS.len (OS.rd hov) sl26, RdS.idx (OS.rd hov) sl26, RdS.cellN (OS.rd hov), RdS.cells (OS.rd hov), wrap_id]
  refine op_box (cs := #[.int .i64 (X.c.p), vd, vm, vv]) rfl ?_
  intro h0_0 e0_0 hb0_0 z0_0
  replace hod := OS.ext hod e0_0
  replace hom := OS.ext hom e0_0
  replace hov := OS.ext hov e0_0
  have := Ext.size e0_0
  have eB := e0_0
  try simp -implicitDefEqProofs (disch := first | decide | assumption | omega) only [go_sem, RdS.len (OS.rd hod) sl22, RdS.idx (OS.rd hod) sl22, R1.intN (OS.rd hod), RdS.cells (OS.rd hod), RdS.len (OS.rd hom) sl23, RdS.idx (OS.rd hom) sl23, RdS.cellN (OS.rd hom), RdS.cells (OS.rd hom), RdS.len (OS.rd hov) sl26, RdS.idx (OS.rd hov) sl26, RdS.cellN (OS.rd hov), RdS.cells (OS.rd hov), BoxAt.cell hb0_0, wrap_id]
  refine hK _ _ ?_
  clear hK K
  refine den_seq ?_
  refine den_region TTok ?_
  intro K hK
  simp -implicitDefEqProofs (disch := first | decide | assumption | omega) only [go_sem, fa33_0, ld31, RdS.len (OS.rd hod) sl22, RdS.idx (OS.rd hod) sl22, R1.intN (OS.rd hod), RdS.cells (OS.rd hod), RdS.len (OS.rd hom) sl23, RdS.idx (OS.rd hom) sl23, RdS.cellN (OS.rd hom), RdS.cells (OS.rd hom), RdS.len (OS.rd hov) sl26, RdS.idx (OS.rd hov) sl26, RdS.cellN (OS.rd hov), RdS.cells (OS.rd hov), BoxAt.cell hb0_0, wrap_id]
  try simp -implicitDefEqProofs (disch := first | decide | assumption | omega) only [go_sem, RdS.len (OS.rd hod) sl22, RdS.idx (OS.rd hod) sl22, R1.intN (OS.rd hod), RdS.cells (OS.rd hod), RdS.len (OS.rd hom) sl23, RdS.idx (OS.rd hom) sl23, RdS.cellN (OS.rd hom), RdS.cells (OS.rd hom), RdS.len (OS.rd hov) sl26, RdS.idx (OS.rd hov) sl26, RdS.cellN (OS.rd hov), RdS.cells (OS.rd hov), BoxAt.cell hb0_0, wrap_id]
  refine CallA.mono (markCx_ok _ _ X.c k _ _ _ hod hom (Fresh.two (lo := 0) hfd hfm ap_d_m (Nat.zero_le _) (Nat.zero_le _)).nodup (by omega)) ?_
  intro v_ h1_3
  rintro ⟨rfl, hnd, hnm, cg0⟩
  replace hod := hnd
  replace hom := hnm
  replace hov := OS.chg hov cg0 (Apart.app (Apart.symm ap_d_v) (Apart.symm ap_m_v))
  replace hb0_0 := BoxAt.chg hb0_0 cg0 (fun hm => by rcases List.mem_append.1 hm with hm | hm <;> first | (have := hld _ hm; omega) | (have := hlm _ hm; omega))
  have hsz0 := cg0.size
  try simp -implicitDefEqProofs (disch := first | decide | assumption | omega) only [go_sem, RdS.len (OS.rd hod) sl22, RdS.idx (OS.rd hod) sl22, R1.intN (OS.rd hod), RdS.cells (OS.rd hod), RdS.len (OS.rd hom) sl23, RdS.idx (OS.rd hom) sl23, RdS.cellN (OS.rd hom), RdS.cells (OS.rd hom), RdS.len (OS.rd hov) sl26, RdS.idx (OS.rd hov) sl26, RdS.cellN (OS.rd hov), RdS.cells (OS.rd hov), BoxAt.cell hb0_0, wrap_id]
  refine hK _ _ ?_
  clear hK K
  refine den_seq ?_
  refine den_region TTok ?_
  intro K hK
  simp -implicitDefEqProofs (disch := first | decide | assumption | omega) only [go_sem, fa33_1, ld26, RdS.len (OS.rd hod) sl22, RdS.idx (OS.rd hod) sl22, R1.intN (OS.rd hod), RdS.cells (OS.rd hod), RdS.len (OS.rd hom) sl23, RdS.idx (OS.rd hom) sl23, RdS.cellN (OS.rd hom), RdS.cells (OS.rd hom), RdS.len (OS.rd hov) sl26, RdS.idx (OS.rd hov) sl26, RdS.cellN (OS.rd hov), RdS.cells (OS.rd hov), BoxAt.cell hb0_0, wrap_id]
  try simp -implicitDefEqProofs (disch := first | decide | assumption | omega) only [go_sem, RdS.len (OS.rd hod) sl22, RdS.idx (OS.rd hod) sl22, R1.intN (OS.rd hod), RdS.cells (OS.rd hod), RdS.len (OS.rd hom) sl23, RdS.idx (OS.rd hom) sl23, RdS.cellN (OS.rd hom), RdS.cells (OS.rd hom), RdS.len (OS.rd hov) sl26, RdS.idx (OS.rd hov) sl26, RdS.cellN (OS.rd hov), RdS.cells (OS.rd hov), BoxAt.cell hb0_0, wrap_id]
  refine CallA.mono (markSS_ok _ X.lv (k + cnt1 X.c.dims + cntL cnt2 X.c.maps) _ _ hov hfv.nodup (by omega)) ?_
  intro v_ h2_3
  rintro ⟨rfl, hnv, cg1⟩
  replace hov := hnv
  replace hod := OS.chg hod cg1 ap_d_v
  replace hom := OS.chg hom cg1 ap_m_v
  replace hb0_0 := BoxAt.chg hb0_0 cg1 (fun hm => by have := hlv _ hm; omega)
  have hsz1 := cg1.size
  try simp -implicitDefEqProofs (disch := first | decide | assumption | omega) only [go_sem, RdS.len (OS.rd hod) sl22, RdS.idx (OS.rd hod) sl22, R1.intN (OS.rd hod), RdS.cells (OS.rd hod), RdS.len (OS.rd hom) sl23, RdS.idx (OS.rd hom) sl23, RdS.cellN (OS.rd hom), RdS.cells (OS.rd hom), RdS.len (OS.rd hov) sl26, RdS.idx (OS.rd hov) sl26, RdS.cellN (OS.rd hov), RdS.cells (OS.rd hov), BoxAt.cell hb0_0, wrap_id]
  refine hK _ _ ?_
  clear hK K
  refine den_seq ?_
  refine den_region TTok ?_
  intro K hK
  simp -implicitDefEqProofs (disch := first | decide | assumption | omega) only [go_sem, RdS.len (OS.rd hod) sl22, RdS.idx (OS.rd hod) sl22, R1.intN (OS.rd hod), RdS.cells (OS.rd hod), RdS.len (OS.rd hom) sl23, RdS.idx (OS.rd hom) sl23, RdS.cellN (OS.rd hom), RdS.cells (OS.rd hom), RdS.len (OS.rd hov) sl26, RdS.idx (OS.rd hov) sl26, RdS.cellN (OS.rd hov), RdS.cells (OS.rd hov), BoxAt.cell hb0_0, wrap_id]
  refine hK _ _ ?_
  clear hK K
  refine den_ret ?_
  simp (disch := decide) only [resP_1, puts_same, puts_ne]
  exact ⟨by first | rfl | trivial, hod, hom, hov, (((eB.chg _).trans (cg0.mono (fun b hb => by grind))).trans (cg1.mono (fun b hb => by grind)))⟩

set_option maxRecDepth 100000 in
theorem heldF_ok (vd vm vv : Value) (X : Fl) (k : Int) (h : Heap) (rd : R1 h vd (markI X.c.dims (k))) (rm : R3 h vm (mark3 X.c.maps (k + cnt1 X.c.dims))) (rv : R2 h vv (mark2 X.lv (k + cnt1 X.c.dims + cntL cnt2 X.c.maps))) (hk : 0 ≤ k ∧ 0 ≤ cnt1 X.c.dims ∧ 0 ≤ cntL cnt2 X.c.maps ∧ 0 ≤ cntL cnt1 X.lv ∧ k + cnt1 X.c.dims + cntL cnt2 X.c.maps + cntL cnt1 X.lv ≤ 4611686018427387904) : CallA Try.prog 23 #[.agg #[.int .i64 X.c.p, vd, vm, vv], .int .i64 k] h fun u h' => u = .int .i64 (k + cnt1 X.c.dims + cntL cnt2 X.c.maps + cntL cnt1 X.lv) ∧ Ext h h' := by
  refine callA_intro TTok (args := [_, _]) Try.func23 (by kernel_rfl) rfl 18 rfl (by simp) [.tmp 4] rfl ?_
  simp only [idxs, Nat.reduceAdd]
  refine den_seq ?_
  refine den_region TTok ?_
  intro K hK
  simp -implicitDefEqProofs (disch := first | decide | assumption | omega) only [go_sem, RdS.len rd sl22, RdS.idx rd sl22, R1.intB rd (HPres.refl _), RdS.cells rd, RdS.len rm sl23, RdS.idx rm sl23, RdS.cellB rm (HPres.refl _), RdS.cells rm, RdS.len rv sl26, RdS.idx rv sl26, RdS.cellB rv (HPres.refl _), RdS.cells rv, wrap_id]
  refine op_box (cs := #[.int .i64 (X.c.p), vd, vm, vv]) rfl ?_
  intro h0_0 e0_0 hb0_0 z0_0
  replace rd := RdS.pres rd (Ext.pres e0_0)
  replace rm := RdS.pres rm (Ext.pres e0_0)
  replace rv := RdS.pres rv (Ext.pres e0_0)
  try simp -implicitDefEqProofs (disch := first | decide | assumption | omega) only [go_sem, RdS.len rd sl22, RdS.idx rd sl22, R1.intB rd (HPres.refl _), RdS.cells rd, RdS.len rm sl23, RdS.idx rm sl23, RdS.cellB rm (HPres.refl _), RdS.cells rm, RdS.len rv sl26, RdS.idx rv sl26, RdS.cellB rv (HPres.refl _), RdS.cells rv, BoxAt.cell hb0_0, wrap_id]
  refine hK _ _ ?_
  clear hK K
  refine den_seq ?_
  refine den_region TTok ?_
  intro K hK
  simp -implicitDefEqProofs (disch := first | decide | assumption | omega) only [go_sem, fa33_0, ld31, RdS.len rd sl22, RdS.idx rd sl22, R1.intB rd (HPres.refl _), RdS.cells rd, RdS.len rm sl23, RdS.idx rm sl23, RdS.cellB rm (HPres.refl _), RdS.cells rm, RdS.len rv sl26, RdS.idx rv sl26, RdS.cellB rv (HPres.refl _), RdS.cells rv, BoxAt.cell hb0_0, wrap_id]
  try simp -implicitDefEqProofs (disch := first | decide | assumption | omega) only [go_sem, RdS.len rd sl22, RdS.idx rd sl22, R1.intB rd (HPres.refl _), RdS.cells rd, RdS.len rm sl23, RdS.idx rm sl23, RdS.cellB rm (HPres.refl _), RdS.cells rm, RdS.len rv sl26, RdS.idx rv sl26, RdS.cellB rv (HPres.refl _), RdS.cells rv, BoxAt.cell hb0_0, wrap_id]
  refine CallA.mono (heldCx_ok _ _ X.c k _ rd rm (by omega)) ?_
  intro v_ h1_3
  rintro ⟨rfl, e1_3⟩
  have := Ext.size e1_3
  have eB := e1_3
  try simp -implicitDefEqProofs (disch := first | decide | assumption | omega) only [go_sem, RdS.len rd sl22, RdS.idx rd sl22, R1.intB rd (Ext.pres eB), RdS.cells rd, RdS.len rm sl23, RdS.idx rm sl23, RdS.cellB rm (Ext.pres eB), RdS.cells rm, RdS.len rv sl26, RdS.idx rv sl26, RdS.cellB rv (Ext.pres eB), RdS.cells rv, BoxAt.cellB hb0_0 eB, wrap_id]
  refine hK _ _ ?_
  clear hK K
  refine den_seq ?_
  refine den_seq ?_
  refine den_region TTok ?_
  intro K hK
  simp -implicitDefEqProofs (disch := first | decide | assumption | omega) only [go_sem, RdS.len rd sl22, RdS.idx rd sl22, R1.intB rd (Ext.pres eB), RdS.cells rd, RdS.len rm sl23, RdS.idx rm sl23, RdS.cellB rm (Ext.pres eB), RdS.cells rm, RdS.len rv sl26, RdS.idx rv sl26, RdS.cellB rv (Ext.pres eB), RdS.cells rv, BoxAt.cellB hb0_0 eB, wrap_id]
  refine hK _ _ ?_
  clear hK K
  refine den_cond rfl (fun c0 => ?_) (fun c0 => ?_)
  · try simp only [decide_eq_true_eq, decide_eq_false_iff_not, beq_iff_eq, beq_eq_false_iff_ne, bne_iff_ne, ne_eq, Bool.not_eq_true', Bool.not_eq_false', Bool.and_eq_true, Bool.or_eq_true, bne_eq_false_iff_eq] at c0
    refine den_seq ?_
    refine den_region TTok ?_
    intro K hK
    simp -implicitDefEqProofs (disch := first | decide | assumption | omega) only [go_sem, RdS.len rd sl22, RdS.idx rd sl22, R1.intB rd (Ext.pres eB), RdS.cells rd, RdS.len rm sl23, RdS.idx rm sl23, RdS.cellB rm (Ext.pres eB), RdS.cells rm, RdS.len rv sl26, RdS.idx rv sl26, RdS.cellB rv (Ext.pres eB), RdS.cells rv, BoxAt.cellB hb0_0 eB, wrap_id]
    refine hK _ _ ?_
    clear hK K
    refine den_ret ?_
    simp (disch := decide) only [resP_1, puts_same, puts_ne]
    exact absurd c0 (by omega)
  · try simp only [decide_eq_true_eq, decide_eq_false_iff_not, beq_iff_eq, beq_eq_false_iff_ne, bne_iff_ne, ne_eq, Bool.not_eq_true', Bool.not_eq_false', Bool.and_eq_true, Bool.or_eq_true, bne_eq_false_iff_eq] at c0
    refine den_skip ?_
    refine den_seq ?_
    refine den_region TTok ?_
    intro K hK
    simp -implicitDefEqProofs (disch := first | decide | assumption | omega) only [go_sem, fa33_1, ld26, RdS.len rd sl22, RdS.idx rd sl22, R1.intB rd (Ext.pres eB), RdS.cells rd, RdS.len rm sl23, RdS.idx rm sl23, RdS.cellB rm (Ext.pres eB), RdS.cells rm, RdS.len rv sl26, RdS.idx rv sl26, RdS.cellB rv (Ext.pres eB), RdS.cells rv, BoxAt.cellB hb0_0 eB, wrap_id]
    try simp -implicitDefEqProofs (disch := first | decide | assumption | omega) only [go_sem, RdS.len rd sl22, RdS.idx rd sl22, R1.intB rd (Ext.pres eB), RdS.cells rd, RdS.len rm sl23, RdS.idx rm sl23, RdS.cellB rm (Ext.pres eB), RdS.cells rm, RdS.len rv sl26, RdS.idx rv sl26, RdS.cellB rv (Ext.pres eB), RdS.cells rv, BoxAt.cellB hb0_0 eB, wrap_id]
    refine CallA.pure (heldSS_ok _ X.lv (k + cnt1 X.c.dims + cntL cnt2 X.c.maps) _ (RdS.pres rv (Ext.pres eB)) (by omega)) ?_
    try simp -implicitDefEqProofs (disch := first | decide | assumption | omega) only [go_sem, RdS.len rd sl22, RdS.idx rd sl22, R1.intB rd (Ext.pres eB), RdS.cells rd, RdS.len rm sl23, RdS.idx rm sl23, RdS.cellB rm (Ext.pres eB), RdS.cells rm, RdS.len rv sl26, RdS.idx rv sl26, RdS.cellB rv (Ext.pres eB), RdS.cells rv, BoxAt.cellB hb0_0 eB, wrap_id]
    refine hK _ _ ?_
    clear hK K
    refine den_seq ?_
    refine den_seq ?_
    refine den_region TTok ?_
    intro K hK
    simp -implicitDefEqProofs (disch := first | decide | assumption | omega) only [go_sem, RdS.len rd sl22, RdS.idx rd sl22, R1.intB rd (Ext.pres eB), RdS.cells rd, RdS.len rm sl23, RdS.idx rm sl23, RdS.cellB rm (Ext.pres eB), RdS.cells rm, RdS.len rv sl26, RdS.idx rv sl26, RdS.cellB rv (Ext.pres eB), RdS.cells rv, BoxAt.cellB hb0_0 eB, wrap_id]
    refine hK _ _ ?_
    clear hK K
    refine den_cond rfl (fun c1 => ?_) (fun c1 => ?_)
    · try simp only [decide_eq_true_eq, decide_eq_false_iff_not, beq_iff_eq, beq_eq_false_iff_ne, bne_iff_ne, ne_eq, Bool.not_eq_true', Bool.not_eq_false', Bool.and_eq_true, Bool.or_eq_true, bne_eq_false_iff_eq] at c1
      refine den_seq ?_
      refine den_region TTok ?_
      intro K hK
      simp -implicitDefEqProofs (disch := first | decide | assumption | omega) only [go_sem, RdS.len rd sl22, RdS.idx rd sl22, R1.intB rd (Ext.pres eB), RdS.cells rd, RdS.len rm sl23, RdS.idx rm sl23, RdS.cellB rm (Ext.pres eB), RdS.cells rm, RdS.len rv sl26, RdS.idx rv sl26, RdS.cellB rv (Ext.pres eB), RdS.cells rv, BoxAt.cellB hb0_0 eB, wrap_id]
      refine hK _ _ ?_
      clear hK K
      refine den_ret ?_
      simp (disch := decide) only [resP_1, puts_same, puts_ne]
      exact absurd c1 (by omega)
    · try simp only [decide_eq_true_eq, decide_eq_false_iff_not, beq_iff_eq, beq_eq_false_iff_ne, bne_iff_ne, ne_eq, Bool.not_eq_true', Bool.not_eq_false', Bool.and_eq_true, Bool.or_eq_true, bne_eq_false_iff_eq] at c1
      refine den_skip ?_
      refine den_seq ?_
      refine den_region TTok ?_
      intro K hK
      simp -implicitDefEqProofs (disch := first | decide | assumption | omega) only [go_sem, RdS.len rd sl22, RdS.idx rd sl22, R1.intB rd (Ext.pres eB), RdS.cells rd, RdS.len rm sl23, RdS.idx rm sl23, RdS.cellB rm (Ext.pres eB), RdS.cells rm, RdS.len rv sl26, RdS.idx rv sl26, RdS.cellB rv (Ext.pres eB), RdS.cells rv, BoxAt.cellB hb0_0 eB, wrap_id]
      refine hK _ _ ?_
      clear hK K
      refine den_ret ?_
      simp (disch := decide) only [resP_1, puts_same, puts_ne]
      exact ⟨by first | rfl | trivial, (Ext.trans e0_0 eB)⟩

open Go.ChangeShapes Go.WideShapes Go.ChangeAt Go.RowKit Go.Joins
set_option maxRecDepth 100000 in
theorem open_fl {H : Type} {enc : TypeId × Value → H} {w : World} {base : Nat} {spare : Nat → Bool} {held : Bool} {r : Reach} {b0 : Nat} {v : Value} {d : DataW H} {p : List MemPlace}
    (hv : Value.okWide Try.prog w r b0 28 v) (h : DataW.Trod enc Try.prog w base spare held 28 v d p) : ∃ X, RF w.heap v X := by
  obtain ⟨cs, rfl, hsz⟩ := okWide_struct Try.underlying28 hv
  have hc : Try.prog.cellsOf 28 = 4 := by kernel_rfl
  obtain ⟨c0, c1, c2, c3, rfl⟩ := array4 (hsz.trans hc)
  obtain ⟨fuel, hf⟩ := h
  obtain ⟨y0, y1, n, _, _, h0, h1⟩ := trod_struct2 Try.underlying28 hf
  have kc : Try.prog.cellsOf 25 = 3 := by kernel_rfl
  have ki : Try.prog.cellsOf 2 = 1 := by kernel_rfl
  have k1 : Try.prog.cellsOf 22 = 1 := by kernel_rfl
  have k2 : Try.prog.cellsOf 26 = 1 := by kernel_rfl
  have k3 : Try.prog.cellsOf 23 = 1 := by kernel_rfl
  simp only [kc, k2, Value.cells, List.drop_zero, List.drop_succ_cons, List.take_succ_cons, List.take_zero] at h0 h1
  obtain ⟨z0, z1, z2, m, _, _, g0, g1, g2⟩ := Go.Deep.trod_struct3 Try.underlying25 h0
  simp only [ki, k1, k3, List.drop_zero, List.drop_succ_cons, List.take_succ_cons, List.take_zero] at g0 g1 g2
  obtain ⟨u0, a0, e0, q0⟩ := opens_int Try.underlying2 _ _ _ _ _ _ _ _ _ g0
  obtain ⟨u1, a1, e1, q1⟩ := opens1 _ _ _ _ _ _ _ _ _ g1
  obtain ⟨u2, a2, e2, q2⟩ := opens3 _ _ _ _ _ _ _ _ _ g2
  obtain ⟨u3, a3, e3, q3⟩ := opens2 _ _ _ _ _ _ _ _ _ h1
  injection e0 with e0
  injection e1 with e1
  injection e2 with e2
  injection e3 with e3
  subst e0; subst e1; subst e2; subst e3
  exact ⟨⟨⟨a0, a1, a2⟩, a3⟩, _, _, _, by rw [show c0 = .int .i64 a0 from q0], q1, q2, q3⟩

end Go.Proofs.Ytjjjgllbocgkbaa
