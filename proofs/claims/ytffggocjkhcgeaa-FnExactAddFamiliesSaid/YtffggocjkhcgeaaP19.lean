/-
  Walks: the statement's function.
  Conditions: each theorem's own.
-/
import Derived.Test.YtffggocjkhcgeaaB6
set_option linter.unusedVariables false
set_option linter.unusedSimpArgs false
namespace Go.Proofs.Ytffggocjkhcgeaa
open Go
noncomputable def adC (X Y : Cx) (f g : List (List (List Int))) (k : Int) : Int := cadd (famC X Y [f, g]) 2 (!(in3 k 0 (X.p - 1)))
noncomputable def adP (X Y : Cx) (f g : List (List (List Int))) (k : Int) : List (List (List Int)) × Int := if adC X Y f g k = 0 then (addFam X.p k f g, 0) else ([], adC X Y f g k)
theorem adC_0 {X Y : Cx} {f g : List (List (List Int))} {k : Int} (h : adC X Y f g k = 0) : IsC X ∧ SumOk X.p f g ∧ 0 ≤ k ∧ k ≤ X.p - 1 := by
  obtain ⟨h1, h2⟩ := (cadd_0 (by decide)).1 h
  obtain ⟨h3, h4⟩ := famC_0 h1
  obtain ⟨hX, hY, _, _⟩ := pairC_0 h3
  simp only [Bool.not_eq_false', in3_iff] at h2
  exact ⟨hX, sumOk hX hY (h4 f (by simp)) (h4 g (by simp)), h2.1, h2.2⟩
theorem cnt_ad (X Y : Cx) (f g : List (List (List Int))) (k : Int) : 0 ≤ cntL cnt2 (adP X Y f g k).1 ∧ cntL cnt2 (adP X Y f g k).1 ≤ 384 := by
  unfold adP
  split
  · rename_i hc
    obtain ⟨hX, hS, _⟩ := adC_0 hc
    have hl := hS.len
    have := cntL_bnd (ct := cnt2) (c := 64) (by omega) (xs := addFam X.p k f g) (m := 6) (fun x hx => by
      obtain ⟨n, hn, rfl⟩ := List.mem_map.1 hx
      rw [List.mem_range] at hn
      have hr := hS.rows n hn
      have := cntL_bnd (ct := cnt1) (c := 8) (by omega) (xs := addRows X.p k (f.getD n default) (g.getD n default)) (m := 8) (fun y hy => by
        obtain ⟨i, hi, rfl⟩ := List.mem_map.1 hy
        rw [List.mem_range] at hi
        have := hS.row n i hn hi
        simp only [cnt1, addRow_len]; omega) (by rw [addRows, List.length_map, List.length_range]; omega)
      have e : cntL cnt1 (addRows X.p k (f.getD n default) (g.getD n default)) = cnt2 (addRows X.p k (f.getD n default) (g.getD n default)) := rfl
      exact ⟨by omega, by omega⟩) (by simp [addFam]; omega)
    exact ⟨this.1, this.2⟩
  · exact ⟨Int.le_refl _, by show (0 : Int) ≤ _; decide⟩

set_option maxRecDepth 100000 in
theorem sAd_ok (vX vY vf vg : Value) (X : Cx) (Y : Cx) (f : List (List (List Int))) (g : List (List (List Int))) (k : Int) (h : Heap) (rX : RC h vX X) (rY : RC h vY Y) (rf : R3 h vf f) (rg : R3 h vg g)  : CallA Try.prog 39 #[vX, vY, vf, vg, .int .i64 k] h fun v' h' => ∃ w0 f0, v' = .tuple #[w0, .int .i64 ((adP X Y f g k).2)] ∧ O3 h' w0 ((adP X Y f g k).1) f0 ∧ Fresh h.size f0 ∧ Ext h h' := by
  obtain ⟨vdX, vmX, rfl, hdX, hmX⟩ := rX
  have hledX := RdS.le hdX
  have hlemX := RdS.le hmX
  obtain ⟨vdY, vmY, rfl, hdY, hmY⟩ := rY
  have hledY := RdS.le hdY
  have hlemY := RdS.le hmY
  have hlef := RdS.le rf
  have hleg := RdS.le rg
  refine callA_intro TTok (args := [_, _, _, _, _]) Try.func39 (by kernel_rfl) rfl 38 rfl (by simp) [.tmp 10, .tmp 11] rfl ?_
  simp only [idxs, Nat.reduceAdd]
  refine den_seq ?_
  refine den_region TTok ?_
  intro K hK
  simp -implicitDefEqProofs (disch := first | decide | assumption | omega) only [go_sem, RdS.len hdX sl22, RdS.idx hdX sl22, R1.intB hdX (HPres.refl _), RdS.cells hdX, RdS.len hmX sl23, RdS.idx hmX sl23, RdS.cellB hmX (HPres.refl _), RdS.cells hmX, RdS.len hdY sl22, RdS.idx hdY sl22, R1.intB hdY (HPres.refl _), RdS.cells hdY, RdS.len hmY sl23, RdS.idx hmY sl23, RdS.cellB hmY (HPres.refl _), RdS.cells hmY, RdS.len rf sl23, RdS.idx rf sl23, RdS.cellB rf (HPres.refl _), RdS.cells rf, RdS.len rg sl23, RdS.idx rg sl23, RdS.cellB rg (HPres.refl _), RdS.cells rg, wrap_id]
  refine op_box (cs := #[.int .i64 (X.p), vdX, vmX]) rfl ?_
  intro h0_0 e0_0 hb0_0 z0_0
  have := Ext.size e0_0
  have eB := e0_0
  have hfhb0_0 : Fresh h.size [h.size] := Fresh.one _
  have hlhb0_0 := one_lt (show h.size < h0_0.size by omega)
  try simp -implicitDefEqProofs (disch := first | decide | assumption | omega) only [go_sem, RdS.len hdX sl22, RdS.idx hdX sl22, R1.intB hdX (Ext.pres eB), RdS.cells hdX, RdS.len hmX sl23, RdS.idx hmX sl23, RdS.cellB hmX (Ext.pres eB), RdS.cells hmX, RdS.len hdY sl22, RdS.idx hdY sl22, R1.intB hdY (Ext.pres eB), RdS.cells hdY, RdS.len hmY sl23, RdS.idx hmY sl23, RdS.cellB hmY (Ext.pres eB), RdS.cells hmY, RdS.len rf sl23, RdS.idx rf sl23, RdS.cellB rf (Ext.pres eB), RdS.cells rf, RdS.len rg sl23, RdS.idx rg sl23, RdS.cellB rg (Ext.pres eB), RdS.cells rg, BoxAt.cell hb0_0, wrap_id]
  refine op_box (cs := #[.int .i64 (Y.p), vdY, vmY]) rfl ?_
  intro h0_1 e0_1 hb0_1 z0_1
  replace hb0_0 := BoxAt.ext hb0_0 e0_1
  have := Ext.size e0_1
  replace eB := Ext.trans eB e0_1
  have hfhb0_1 : Fresh h0_0.size [h0_0.size] := Fresh.one _
  have hlhb0_1 := one_lt (show h0_0.size < h0_1.size by omega)
  try simp -implicitDefEqProofs (disch := first | decide | assumption | omega) only [go_sem, RdS.len hdX sl22, RdS.idx hdX sl22, R1.intB hdX (Ext.pres eB), RdS.cells hdX, RdS.len hmX sl23, RdS.idx hmX sl23, RdS.cellB hmX (Ext.pres eB), RdS.cells hmX, RdS.len hdY sl22, RdS.idx hdY sl22, R1.intB hdY (Ext.pres eB), RdS.cells hdY, RdS.len hmY sl23, RdS.idx hmY sl23, RdS.cellB hmY (Ext.pres eB), RdS.cells hmY, RdS.len rf sl23, RdS.idx rf sl23, RdS.cellB rf (Ext.pres eB), RdS.cells rf, RdS.len rg sl23, RdS.idx rg sl23, RdS.cellB rg (Ext.pres eB), RdS.cells rg, BoxAt.cell hb0_0, BoxAt.cell hb0_1, wrap_id]
  refine hK _ _ ?_
  clear hK K
  refine den_seq ?_
  refine den_region TTok ?_
  intro K hK
  simp -implicitDefEqProofs (disch := first | decide | assumption | omega) only [go_sem, ld30, RdS.len hdX sl22, RdS.idx hdX sl22, R1.intB hdX (Ext.pres eB), RdS.cells hdX, RdS.len hmX sl23, RdS.idx hmX sl23, RdS.cellB hmX (Ext.pres eB), RdS.cells hmX, RdS.len hdY sl22, RdS.idx hdY sl22, R1.intB hdY (Ext.pres eB), RdS.cells hdY, RdS.len hmY sl23, RdS.idx hmY sl23, RdS.cellB hmY (Ext.pres eB), RdS.cells hmY, RdS.len rf sl23, RdS.idx rf sl23, RdS.cellB rf (Ext.pres eB), RdS.cells rf, RdS.len rg sl23, RdS.idx rg sl23, RdS.cellB rg (Ext.pres eB), RdS.cells rg, BoxAt.cell hb0_0, BoxAt.cell hb0_1, wrap_id]
  refine op_bs2F (RdS.pres rf (Ext.pres eB)) (RdS.pres rg (Ext.pres eB)) ?_
  intro v1_4 h1_4 ho1_4 e1_4
  replace hb0_0 := BoxAt.ext hb0_0 e1_4
  replace hb0_1 := BoxAt.ext hb0_1 e1_4
  have := Ext.size e1_4
  replace eB := Ext.trans eB e1_4
  have xr1 := Ext.refl h1_4
  try simp -implicitDefEqProofs (disch := first | decide | assumption | omega) only [go_sem, RdS.len hdX sl22, RdS.idx hdX sl22, R1.intB hdX (Ext.pres eB), RdS.cells hdX, RdS.len hmX sl23, RdS.idx hmX sl23, RdS.cellB hmX (Ext.pres eB), RdS.cells hmX, RdS.len hdY sl22, RdS.idx hdY sl22, R1.intB hdY (Ext.pres eB), RdS.cells hdY, RdS.len hmY sl23, RdS.idx hmY sl23, RdS.cellB hmY (Ext.pres eB), RdS.cells hmY, RdS.len rf sl23, RdS.idx rf sl23, RdS.cellB rf (Ext.pres eB), RdS.cells rf, RdS.len rg sl23, RdS.idx rg sl23, RdS.cellB rg (Ext.pres eB), RdS.cells rg, BoxAt.cell hb0_0, BoxAt.cell hb0_1, RdS.len ho1_4 sl114, RdS.idx ho1_4 sl114, RdS.cellB ho1_4 (Ext.pres xr1), RdS.cells ho1_4, wrap_id]
  try simp -implicitDefEqProofs (disch := first | decide | assumption | omega) only [go_sem, RdS.len hdX sl22, RdS.idx hdX sl22, R1.intB hdX (Ext.pres eB), RdS.cells hdX, RdS.len hmX sl23, RdS.idx hmX sl23, RdS.cellB hmX (Ext.pres eB), RdS.cells hmX, RdS.len hdY sl22, RdS.idx hdY sl22, R1.intB hdY (Ext.pres eB), RdS.cells hdY, RdS.len hmY sl23, RdS.idx hmY sl23, RdS.cellB hmY (Ext.pres eB), RdS.cells hmY, RdS.len rf sl23, RdS.idx rf sl23, RdS.cellB rf (Ext.pres eB), RdS.cells rf, RdS.len rg sl23, RdS.idx rg sl23, RdS.cellB rg (Ext.pres eB), RdS.cells rg, BoxAt.cell hb0_0, BoxAt.cell hb0_1, RdS.len ho1_4 sl114, RdS.idx ho1_4 sl114, RdS.cellB ho1_4 (Ext.pres xr1), RdS.cells ho1_4, wrap_id]
  refine CallA.mono (sFamC_ok _ _ _ X Y ([f, g]) _ ⟨_, _, rfl, (RdS.pres hdX (Ext.pres eB)), (RdS.pres hmX (Ext.pres eB))⟩ ⟨_, _, rfl, (RdS.pres hdY (Ext.pres eB)), (RdS.pres hmY (Ext.pres eB))⟩ (RdS.pres ho1_4 (Ext.pres xr1)) ) ?_
  intro v_ h1_5
  rintro ⟨rfl, e1_5⟩
  replace hb0_0 := BoxAt.ext hb0_0 e1_5
  replace hb0_1 := BoxAt.ext hb0_1 e1_5
  have := Ext.size e1_5
  replace eB := Ext.trans eB e1_5
  replace xr1 := Ext.trans xr1 e1_5
  try simp -implicitDefEqProofs (disch := first | decide | assumption | omega) only [go_sem, RdS.len hdX sl22, RdS.idx hdX sl22, R1.intB hdX (Ext.pres eB), RdS.cells hdX, RdS.len hmX sl23, RdS.idx hmX sl23, RdS.cellB hmX (Ext.pres eB), RdS.cells hmX, RdS.len hdY sl22, RdS.idx hdY sl22, R1.intB hdY (Ext.pres eB), RdS.cells hdY, RdS.len hmY sl23, RdS.idx hmY sl23, RdS.cellB hmY (Ext.pres eB), RdS.cells hmY, RdS.len rf sl23, RdS.idx rf sl23, RdS.cellB rf (Ext.pres eB), RdS.cells rf, RdS.len rg sl23, RdS.idx rg sl23, RdS.cellB rg (Ext.pres eB), RdS.cells rg, BoxAt.cell hb0_0, BoxAt.cell hb0_1, RdS.len ho1_4 sl114, RdS.idx ho1_4 sl114, RdS.cellB ho1_4 (Ext.pres xr1), RdS.cells ho1_4, wrap_id]
  refine hK _ _ ?_
  clear hK K
  refine den_seq ?_
  refine den_seq ?_
  refine den_mergeH [(28, .bool ((((famC X Y ([f, g])) == (0 : Int)) && (!((in3 k (0 : Int) (X.p - (1 : Int))))))))] [2, 3, 4, 5, 12] ?_ ?_
    -- a way
  · refine den_region TTok ?_
    intro K hK
    simp -implicitDefEqProofs (disch := first | decide | assumption | (simp (disch := decide) only [slotOf_zero, slotOf_succ, Option.map_some, puts_same, puts_ne, gv_bool, gv_undef, tt, tf, ft, ff, eq_self, if_true, if_false, Bool.false_eq_true, Bool.not_true, Bool.not_false]; done) | omega) only [go_sem, RdS.len hdX sl22, RdS.idx hdX sl22, R1.intB hdX (Ext.pres eB), RdS.cells hdX, RdS.len hmX sl23, RdS.idx hmX sl23, RdS.cellB hmX (Ext.pres eB), RdS.cells hmX, RdS.len hdY sl22, RdS.idx hdY sl22, R1.intB hdY (Ext.pres eB), RdS.cells hdY, RdS.len hmY sl23, RdS.idx hmY sl23, RdS.cellB hmY (Ext.pres eB), RdS.cells hmY, RdS.len rf sl23, RdS.idx rf sl23, RdS.cellB rf (Ext.pres eB), RdS.cells rf, RdS.len rg sl23, RdS.idx rg sl23, RdS.cellB rg (Ext.pres eB), RdS.cells rg, BoxAt.cell hb0_0, RdS.len ho1_4 sl114, RdS.idx ho1_4 sl114, RdS.cellB ho1_4 (Ext.pres xr1), RdS.cells ho1_4, wrap_id]
    refine opsP_T (by simp (disch := decide) only [slotOf_zero, slotOf_succ, Option.map_some, puts_same, puts_ne, gv_bool, gv_undef, tt, tf, ft, ff, eq_self, if_true, if_false, Bool.false_eq_true, Bool.not_true, Bool.not_false]; rfl) (fun g2 => ?_) (fun g2 => ?_)
    · obtain ⟨h1_, _⟩ := famC_0 (b0 g2)
      obtain ⟨hX, hY, hpp, hll⟩ := pairC_0 h1_
      have hpb := isP_bnd hX.p
      try simp -implicitDefEqProofs (disch := first | decide | assumption | (simp (disch := decide) only [slotOf_zero, slotOf_succ, Option.map_some, puts_same, puts_ne, gv_bool, gv_undef, tt, tf, ft, ff, eq_self, if_true, if_false, Bool.false_eq_true, Bool.not_true, Bool.not_false, g2]; done) | omega) only [go_sem, fa30_0, ld2, RdS.len hdX sl22, RdS.idx hdX sl22, R1.intB hdX (Ext.pres eB), RdS.cells hdX, RdS.len hmX sl23, RdS.idx hmX sl23, RdS.cellB hmX (Ext.pres eB), RdS.cells hmX, RdS.len hdY sl22, RdS.idx hdY sl22, R1.intB hdY (Ext.pres eB), RdS.cells hdY, RdS.len hmY sl23, RdS.idx hmY sl23, RdS.cellB hmY (Ext.pres eB), RdS.cells hmY, RdS.len rf sl23, RdS.idx rf sl23, RdS.cellB rf (Ext.pres eB), RdS.cells rf, RdS.len rg sl23, RdS.idx rg sl23, RdS.cellB rg (Ext.pres eB), RdS.cells rg, BoxAt.cell hb0_0, RdS.len ho1_4 sl114, RdS.idx ho1_4 sl114, RdS.cellB ho1_4 (Ext.pres xr1), RdS.cells ho1_4, wrap_id, g2, eq_self, if_true, if_false, Bool.false_eq_true]
      try simp -implicitDefEqProofs (disch := first | decide | assumption | omega) only [go_sem, RdS.len hdX sl22, RdS.idx hdX sl22, R1.intB hdX (Ext.pres eB), RdS.cells hdX, RdS.len hmX sl23, RdS.idx hmX sl23, RdS.cellB hmX (Ext.pres eB), RdS.cells hmX, RdS.len hdY sl22, RdS.idx hdY sl22, R1.intB hdY (Ext.pres eB), RdS.cells hdY, RdS.len hmY sl23, RdS.idx hmY sl23, RdS.cellB hmY (Ext.pres eB), RdS.cells hmY, RdS.len rf sl23, RdS.idx rf sl23, RdS.cellB rf (Ext.pres eB), RdS.cells rf, RdS.len rg sl23, RdS.idx rg sl23, RdS.cellB rg (Ext.pres eB), RdS.cells rg, BoxAt.cell hb0_0, RdS.len ho1_4 sl114, RdS.idx ho1_4 sl114, RdS.cellB ho1_4 (Ext.pres xr1), RdS.cells ho1_4, wrap_id]
      refine CallA.pure (sIn_ok _ _ _ _) ?_
      try simp -implicitDefEqProofs (disch := first | decide | assumption | (simp (disch := decide) only [slotOf_zero, slotOf_succ, Option.map_some, puts_same, puts_ne, gv_bool, gv_undef, tt, tf, ft, ff, eq_self, if_true, if_false, Bool.false_eq_true, Bool.not_true, Bool.not_false, g2]; done) | omega) only [go_sem, RdS.len hdX sl22, RdS.idx hdX sl22, R1.intB hdX (Ext.pres eB), RdS.cells hdX, RdS.len hmX sl23, RdS.idx hmX sl23, RdS.cellB hmX (Ext.pres eB), RdS.cells hmX, RdS.len hdY sl22, RdS.idx hdY sl22, R1.intB hdY (Ext.pres eB), RdS.cells hdY, RdS.len hmY sl23, RdS.idx hmY sl23, RdS.cellB hmY (Ext.pres eB), RdS.cells hmY, RdS.len rf sl23, RdS.idx rf sl23, RdS.cellB rf (Ext.pres eB), RdS.cells rf, RdS.len rg sl23, RdS.idx rg sl23, RdS.cellB rg (Ext.pres eB), RdS.cells rg, BoxAt.cell hb0_0, RdS.len ho1_4 sl114, RdS.idx ho1_4 sl114, RdS.cellB ho1_4 (Ext.pres xr1), RdS.cells ho1_4, wrap_id, g2, eq_self, if_true, if_false, Bool.false_eq_true]
      refine hK _ _ ?_
      clear hK K
      refine den_stop ?_
      refine ⟨?_, rfl⟩
      first | (simp (disch := decide) only [go_sem, g2, eq_self, Bool.true_and, Bool.and_true, Bool.false_and, Bool.and_false, Bool.true_or, Bool.or_true, Bool.false_or, Bool.or_false, if_true, if_false, Bool.false_eq_true]; done) | simp [HasL, sel, puts_at, g2]
    · try simp -implicitDefEqProofs (disch := first | decide | assumption | (simp (disch := decide) only [slotOf_zero, slotOf_succ, Option.map_some, puts_same, puts_ne, gv_bool, gv_undef, tt, tf, ft, ff, eq_self, if_true, if_false, Bool.false_eq_true, Bool.not_true, Bool.not_false, g2]; done) | omega) only [go_sem, RdS.len hdX sl22, RdS.idx hdX sl22, R1.intB hdX (Ext.pres eB), RdS.cells hdX, RdS.len hmX sl23, RdS.idx hmX sl23, RdS.cellB hmX (Ext.pres eB), RdS.cells hmX, RdS.len hdY sl22, RdS.idx hdY sl22, R1.intB hdY (Ext.pres eB), RdS.cells hdY, RdS.len hmY sl23, RdS.idx hmY sl23, RdS.cellB hmY (Ext.pres eB), RdS.cells hmY, RdS.len rf sl23, RdS.idx rf sl23, RdS.cellB rf (Ext.pres eB), RdS.cells rf, RdS.len rg sl23, RdS.idx rg sl23, RdS.cellB rg (Ext.pres eB), RdS.cells rg, BoxAt.cell hb0_0, RdS.len ho1_4 sl114, RdS.idx ho1_4 sl114, RdS.cellB ho1_4 (Ext.pres xr1), RdS.cells ho1_4, wrap_id, g2, eq_self, if_true, if_false, Bool.false_eq_true]
      refine hK _ _ ?_
      clear hK K
      refine den_stop ?_
      refine ⟨?_, rfl⟩
      first | (simp (disch := decide) only [go_sem, g2, eq_self, Bool.true_and, Bool.and_true, Bool.false_and, Bool.and_false, Bool.true_or, Bool.or_true, Bool.false_or, Bool.or_false, if_true, if_false, Bool.false_eq_true]; done) | simp [HasL, sel, puts_at, g2]
  intro en3
  simp (disch := decide) only [go_sem]
  refine den_mergeH [(12, .int .i64 ((cadd (famC X Y ([f, g])) (2 : Int) (!((in3 k (0 : Int) (X.p - (1 : Int))))))))] [2, 3, 4, 5] ?_ ?_
  · refine den_cond rfl (fun c0 => ?_) (fun c0 => ?_)
    · refine den_region TTok ?_
      intro K hK
      simp -implicitDefEqProofs (disch := first | decide | assumption | omega) only [go_sem, RdS.len hdX sl22, RdS.idx hdX sl22, R1.intB hdX (Ext.pres eB), RdS.cells hdX, RdS.len hmX sl23, RdS.idx hmX sl23, RdS.cellB hmX (Ext.pres eB), RdS.cells hmX, RdS.len hdY sl22, RdS.idx hdY sl22, R1.intB hdY (Ext.pres eB), RdS.cells hdY, RdS.len hmY sl23, RdS.idx hmY sl23, RdS.cellB hmY (Ext.pres eB), RdS.cells hmY, RdS.len rf sl23, RdS.idx rf sl23, RdS.cellB rf (Ext.pres eB), RdS.cells rf, RdS.len rg sl23, RdS.idx rg sl23, RdS.cellB rg (Ext.pres eB), RdS.cells rg, BoxAt.cell hb0_0, RdS.len ho1_4 sl114, RdS.idx ho1_4 sl114, RdS.cellB ho1_4 (Ext.pres xr1), RdS.cells ho1_4, wrap_id]
      refine hK _ _ ?_
      clear hK K
      refine den_stop ?_
      refine ⟨?_, rfl⟩; simp (disch := decide) only [go_sem, c0, caddT c0, eq_self, if_true, if_false, Bool.false_eq_true, reduceCtorEq]
    · refine den_skip ?_
      refine den_stop ?_
      refine ⟨?_, rfl⟩; simp (disch := decide) only [go_sem, c0, caddF c0, eq_self, if_true, if_false, Bool.false_eq_true, reduceCtorEq]
  intro en6
  simp (disch := decide) only [go_sem]
  refine den_seq ?_
  refine den_seq ?_
  refine den_region TTok ?_
  intro K hK
  simp -implicitDefEqProofs (disch := first | decide | assumption | omega) only [go_sem, RdS.len hdX sl22, RdS.idx hdX sl22, R1.intB hdX (Ext.pres eB), RdS.cells hdX, RdS.len hmX sl23, RdS.idx hmX sl23, RdS.cellB hmX (Ext.pres eB), RdS.cells hmX, RdS.len hdY sl22, RdS.idx hdY sl22, R1.intB hdY (Ext.pres eB), RdS.cells hdY, RdS.len hmY sl23, RdS.idx hmY sl23, RdS.cellB hmY (Ext.pres eB), RdS.cells hmY, RdS.len rf sl23, RdS.idx rf sl23, RdS.cellB rf (Ext.pres eB), RdS.cells rf, RdS.len rg sl23, RdS.idx rg sl23, RdS.cellB rg (Ext.pres eB), RdS.cells rg, BoxAt.cell hb0_0, RdS.len ho1_4 sl114, RdS.idx ho1_4 sl114, RdS.cellB ho1_4 (Ext.pres xr1), RdS.cells ho1_4, wrap_id]
  refine hK _ _ ?_
  clear hK K
  refine den_cond rfl (fun c1 => ?_) (fun c1 => ?_)
  · try simp only [decide_eq_true_eq, decide_eq_false_iff_not, beq_iff_eq, beq_eq_false_iff_ne, bne_iff_ne, ne_eq, Bool.not_eq_true', Bool.not_eq_false', Bool.and_eq_true, Bool.or_eq_true, bne_eq_false_iff_eq] at c1
    refine den_seq ?_
    refine den_region TTok ?_
    intro K hK
    simp -implicitDefEqProofs (disch := first | decide | assumption | omega) only [go_sem, RdS.len hdX sl22, RdS.idx hdX sl22, R1.intB hdX (Ext.pres eB), RdS.cells hdX, RdS.len hmX sl23, RdS.idx hmX sl23, RdS.cellB hmX (Ext.pres eB), RdS.cells hmX, RdS.len hdY sl22, RdS.idx hdY sl22, R1.intB hdY (Ext.pres eB), RdS.cells hdY, RdS.len hmY sl23, RdS.idx hmY sl23, RdS.cellB hmY (Ext.pres eB), RdS.cells hmY, RdS.len rf sl23, RdS.idx rf sl23, RdS.cellB rf (Ext.pres eB), RdS.cells rf, RdS.len rg sl23, RdS.idx rg sl23, RdS.cellB rg (Ext.pres eB), RdS.cells rg, RdS.len ho1_4 sl114, RdS.idx ho1_4 sl114, RdS.cellB ho1_4 (Ext.pres xr1), RdS.cells ho1_4, wrap_id]
    refine hK _ _ ?_
    clear hK K
    refine den_ret ?_
    simp (disch := decide) only [resP_2, puts_same, puts_ne]
    have hz : adP X Y f g k = ([], adC X Y f g k) := by rw [adP, if_neg (show ¬ adC X Y f g k = 0 from c1)]
    rw [hz]
    exact ⟨.slice none 0 0, [], rfl, OS.nil, Fresh.nil _, eB⟩
  · try simp only [decide_eq_true_eq, decide_eq_false_iff_not, beq_iff_eq, beq_eq_false_iff_ne, bne_iff_ne, ne_eq, Bool.not_eq_true', Bool.not_eq_false', Bool.and_eq_true, Bool.or_eq_true, bne_eq_false_iff_eq] at c1
    obtain ⟨hX, hS, hk0, hk1⟩ := adC_0 (show adC X Y f g k = 0 from c1)
    have hpb := isP_bnd hX.p
    have hlen := hS.len
    refine den_skip ?_
    refine den_seq ?_
    refine den_region TTok ?_
    intro K hK
    simp -implicitDefEqProofs (disch := first | decide | assumption | omega) only [go_sem, fa30_0, ld2, RdS.len hdX sl22, RdS.idx hdX sl22, R1.intB hdX (Ext.pres eB), RdS.cells hdX, RdS.len hmX sl23, RdS.idx hmX sl23, RdS.cellB hmX (Ext.pres eB), RdS.cells hmX, RdS.len hdY sl22, RdS.idx hdY sl22, R1.intB hdY (Ext.pres eB), RdS.cells hdY, RdS.len hmY sl23, RdS.idx hmY sl23, RdS.cellB hmY (Ext.pres eB), RdS.cells hmY, RdS.len rf sl23, RdS.idx rf sl23, RdS.cellB rf (Ext.pres eB), RdS.cells rf, RdS.len rg sl23, RdS.idx rg sl23, RdS.cellB rg (Ext.pres eB), RdS.cells rg, BoxAt.cell hb0_0, RdS.len ho1_4 sl114, RdS.idx ho1_4 sl114, RdS.cellB ho1_4 (Ext.pres xr1), RdS.cells ho1_4, wrap_id]
    try simp -implicitDefEqProofs (disch := first | decide | assumption | omega) only [go_sem, RdS.len hdX sl22, RdS.idx hdX sl22, R1.intB hdX (Ext.pres eB), RdS.cells hdX, RdS.len hmX sl23, RdS.idx hmX sl23, RdS.cellB hmX (Ext.pres eB), RdS.cells hmX, RdS.len hdY sl22, RdS.idx hdY sl22, R1.intB hdY (Ext.pres eB), RdS.cells hdY, RdS.len hmY sl23, RdS.idx hmY sl23, RdS.cellB hmY (Ext.pres eB), RdS.cells hmY, RdS.len rf sl23, RdS.idx rf sl23, RdS.cellB rf (Ext.pres eB), RdS.cells rf, RdS.len rg sl23, RdS.idx rg sl23, RdS.cellB rg (Ext.pres eB), RdS.cells rg, BoxAt.cell hb0_0, RdS.len ho1_4 sl114, RdS.idx ho1_4 sl114, RdS.cellB ho1_4 (Ext.pres xr1), RdS.cells ho1_4, wrap_id]
    refine CallA.mono (sSum_ok _ _ X.p f g k _ (RdS.pres rf (Ext.pres eB)) (RdS.pres rg (Ext.pres eB)) hS (by omega) (by omega)) ?_
    intro vw6_5_0 h6_5
    rintro ⟨zvw6_5_0, fw6_5_0, rfl, how6_5_0, hfw6_5_0, e6_5⟩
    replace hb0_0 := BoxAt.ext hb0_0 e6_5
    have := Ext.size e6_5
    replace eB := Ext.trans eB e6_5
    replace xr1 := Ext.trans xr1 e6_5
    have hlhow6_5_0 := OS.lt how6_5_0
    try simp -implicitDefEqProofs (disch := first | decide | assumption | omega) only [go_sem, RdS.len hdX sl22, RdS.idx hdX sl22, R1.intB hdX (Ext.pres eB), RdS.cells hdX, RdS.len hmX sl23, RdS.idx hmX sl23, RdS.cellB hmX (Ext.pres eB), RdS.cells hmX, RdS.len hdY sl22, RdS.idx hdY sl22, R1.intB hdY (Ext.pres eB), RdS.cells hdY, RdS.len hmY sl23, RdS.idx hmY sl23, RdS.cellB hmY (Ext.pres eB), RdS.cells hmY, RdS.len rf sl23, RdS.idx rf sl23, RdS.cellB rf (Ext.pres eB), RdS.cells rf, RdS.len rg sl23, RdS.idx rg sl23, RdS.cellB rg (Ext.pres eB), RdS.cells rg, RdS.len (OS.rd how6_5_0) sl23, RdS.idx (OS.rd how6_5_0) sl23, RdS.cellN (OS.rd how6_5_0), RdS.cells (OS.rd how6_5_0), BoxAt.cell hb0_0, RdS.len ho1_4 sl114, RdS.idx ho1_4 sl114, RdS.cellB ho1_4 (Ext.pres xr1), RdS.cells ho1_4, wrap_id]
    refine hK _ _ ?_
    clear hK K
    refine den_ret ?_
    simp (disch := decide) only [resP_2, puts_same, puts_ne]
    have hz : adP X Y f g k = (addFam X.p k f g, 0) := by rw [adP, if_pos (show adC X Y f g k = 0 from c1)]
    rw [hz]
    exact ⟨_, _, rfl, how6_5_0, hfw6_5_0.mono (by omega), eB⟩

set_option maxRecDepth 100000 in
theorem iAd_ok (vX vY vf vg : Value) (X : Cx) (Y : Cx) (f : List (List (List Int))) (g : List (List (List Int))) (k : Int) (h : Heap) (rX : RC h vX X) (rY : RC h vY Y) (rf : R3 h vf f) (rg : R3 h vg g)  : CallA Try.prog 40 #[vX, vY, vf, vg, .int .i64 k] h fun v' h' => ∃ w0 f0, v' = .tuple #[w0, .int .i64 ((adP X Y f g k).2)] ∧ O3 h' w0 ((adP X Y f g k).1) f0 ∧ Fresh h.size f0 ∧ Ext h h' := by
  obtain ⟨vdX, vmX, rfl, hdX, hmX⟩ := rX
  have hledX := RdS.le hdX
  have hlemX := RdS.le hmX
  obtain ⟨vdY, vmY, rfl, hdY, hmY⟩ := rY
  have hledY := RdS.le hdY
  have hlemY := RdS.le hmY
  have hlef := RdS.le rf
  have hleg := RdS.le rg
  refine callA_intro TTok (args := [_, _, _, _, _]) Try.func40 (by kernel_rfl) rfl 76 rfl (by simp) [.tmp 10, .tmp 11] rfl ?_
  simp only [idxs, Nat.reduceAdd]
  refine den_seq ?_
  refine den_region TTok ?_
  intro K hK
  simp -implicitDefEqProofs (disch := first | decide | assumption | omega) only [go_sem, RdS.len hdX sl22, RdS.idx hdX sl22, R1.intB hdX (HPres.refl _), RdS.cells hdX, RdS.len hmX sl23, RdS.idx hmX sl23, RdS.cellB hmX (HPres.refl _), RdS.cells hmX, RdS.len hdY sl22, RdS.idx hdY sl22, R1.intB hdY (HPres.refl _), RdS.cells hdY, RdS.len hmY sl23, RdS.idx hmY sl23, RdS.cellB hmY (HPres.refl _), RdS.cells hmY, RdS.len rf sl23, RdS.idx rf sl23, RdS.cellB rf (HPres.refl _), RdS.cells rf, RdS.len rg sl23, RdS.idx rg sl23, RdS.cellB rg (HPres.refl _), RdS.cells rg, wrap_id]
  refine op_box (cs := #[.int .i64 (X.p), vdX, vmX]) rfl ?_
  intro h0_0 e0_0 hb0_0 z0_0
  have := Ext.size e0_0
  have eB := e0_0
  have hfhb0_0 : Fresh h.size [h.size] := Fresh.one _
  have hlhb0_0 := one_lt (show h.size < h0_0.size by omega)
  try simp -implicitDefEqProofs (disch := first | decide | assumption | omega) only [go_sem, RdS.len hdX sl22, RdS.idx hdX sl22, R1.intB hdX (Ext.pres eB), RdS.cells hdX, RdS.len hmX sl23, RdS.idx hmX sl23, RdS.cellB hmX (Ext.pres eB), RdS.cells hmX, RdS.len hdY sl22, RdS.idx hdY sl22, R1.intB hdY (Ext.pres eB), RdS.cells hdY, RdS.len hmY sl23, RdS.idx hmY sl23, RdS.cellB hmY (Ext.pres eB), RdS.cells hmY, RdS.len rf sl23, RdS.idx rf sl23, RdS.cellB rf (Ext.pres eB), RdS.cells rf, RdS.len rg sl23, RdS.idx rg sl23, RdS.cellB rg (Ext.pres eB), RdS.cells rg, BoxAt.cell hb0_0, wrap_id]
  refine op_box (cs := #[.int .i64 (Y.p), vdY, vmY]) rfl ?_
  intro h0_1 e0_1 hb0_1 z0_1
  replace hb0_0 := BoxAt.ext hb0_0 e0_1
  have := Ext.size e0_1
  replace eB := Ext.trans eB e0_1
  have hfhb0_1 : Fresh h0_0.size [h0_0.size] := Fresh.one _
  have hlhb0_1 := one_lt (show h0_0.size < h0_1.size by omega)
  try simp -implicitDefEqProofs (disch := first | decide | assumption | omega) only [go_sem, RdS.len hdX sl22, RdS.idx hdX sl22, R1.intB hdX (Ext.pres eB), RdS.cells hdX, RdS.len hmX sl23, RdS.idx hmX sl23, RdS.cellB hmX (Ext.pres eB), RdS.cells hmX, RdS.len hdY sl22, RdS.idx hdY sl22, R1.intB hdY (Ext.pres eB), RdS.cells hdY, RdS.len hmY sl23, RdS.idx hmY sl23, RdS.cellB hmY (Ext.pres eB), RdS.cells hmY, RdS.len rf sl23, RdS.idx rf sl23, RdS.cellB rf (Ext.pres eB), RdS.cells rf, RdS.len rg sl23, RdS.idx rg sl23, RdS.cellB rg (Ext.pres eB), RdS.cells rg, BoxAt.cell hb0_0, BoxAt.cell hb0_1, wrap_id]
  refine hK _ _ ?_
  clear hK K
  refine den_seq ?_
  refine den_region TTok ?_
  intro K hK
  simp -implicitDefEqProofs (disch := first | decide | assumption | omega) only [go_sem, ld30, RdS.len hdX sl22, RdS.idx hdX sl22, R1.intB hdX (Ext.pres eB), RdS.cells hdX, RdS.len hmX sl23, RdS.idx hmX sl23, RdS.cellB hmX (Ext.pres eB), RdS.cells hmX, RdS.len hdY sl22, RdS.idx hdY sl22, R1.intB hdY (Ext.pres eB), RdS.cells hdY, RdS.len hmY sl23, RdS.idx hmY sl23, RdS.cellB hmY (Ext.pres eB), RdS.cells hmY, RdS.len rf sl23, RdS.idx rf sl23, RdS.cellB rf (Ext.pres eB), RdS.cells rf, RdS.len rg sl23, RdS.idx rg sl23, RdS.cellB rg (Ext.pres eB), RdS.cells rg, BoxAt.cell hb0_0, BoxAt.cell hb0_1, wrap_id]
  refine op_bs2F (RdS.pres rf (Ext.pres eB)) (RdS.pres rg (Ext.pres eB)) ?_
  intro v1_4 h1_4 ho1_4 e1_4
  replace hb0_0 := BoxAt.ext hb0_0 e1_4
  replace hb0_1 := BoxAt.ext hb0_1 e1_4
  have := Ext.size e1_4
  replace eB := Ext.trans eB e1_4
  have xr1 := Ext.refl h1_4
  try simp -implicitDefEqProofs (disch := first | decide | assumption | omega) only [go_sem, RdS.len hdX sl22, RdS.idx hdX sl22, R1.intB hdX (Ext.pres eB), RdS.cells hdX, RdS.len hmX sl23, RdS.idx hmX sl23, RdS.cellB hmX (Ext.pres eB), RdS.cells hmX, RdS.len hdY sl22, RdS.idx hdY sl22, R1.intB hdY (Ext.pres eB), RdS.cells hdY, RdS.len hmY sl23, RdS.idx hmY sl23, RdS.cellB hmY (Ext.pres eB), RdS.cells hmY, RdS.len rf sl23, RdS.idx rf sl23, RdS.cellB rf (Ext.pres eB), RdS.cells rf, RdS.len rg sl23, RdS.idx rg sl23, RdS.cellB rg (Ext.pres eB), RdS.cells rg, BoxAt.cell hb0_0, BoxAt.cell hb0_1, RdS.len ho1_4 sl114, RdS.idx ho1_4 sl114, RdS.cellB ho1_4 (Ext.pres xr1), RdS.cells ho1_4, wrap_id]
  try simp -implicitDefEqProofs (disch := first | decide | assumption | omega) only [go_sem, RdS.len hdX sl22, RdS.idx hdX sl22, R1.intB hdX (Ext.pres eB), RdS.cells hdX, RdS.len hmX sl23, RdS.idx hmX sl23, RdS.cellB hmX (Ext.pres eB), RdS.cells hmX, RdS.len hdY sl22, RdS.idx hdY sl22, R1.intB hdY (Ext.pres eB), RdS.cells hdY, RdS.len hmY sl23, RdS.idx hmY sl23, RdS.cellB hmY (Ext.pres eB), RdS.cells hmY, RdS.len rf sl23, RdS.idx rf sl23, RdS.cellB rf (Ext.pres eB), RdS.cells rf, RdS.len rg sl23, RdS.idx rg sl23, RdS.cellB rg (Ext.pres eB), RdS.cells rg, BoxAt.cell hb0_0, BoxAt.cell hb0_1, RdS.len ho1_4 sl114, RdS.idx ho1_4 sl114, RdS.cellB ho1_4 (Ext.pres xr1), RdS.cells ho1_4, wrap_id]
  refine CallA.mono (iFamC_ok _ _ _ X Y ([f, g]) _ ⟨_, _, rfl, (RdS.pres hdX (Ext.pres eB)), (RdS.pres hmX (Ext.pres eB))⟩ ⟨_, _, rfl, (RdS.pres hdY (Ext.pres eB)), (RdS.pres hmY (Ext.pres eB))⟩ (RdS.pres ho1_4 (Ext.pres xr1)) ) ?_
  intro v_ h1_5
  rintro ⟨rfl, e1_5⟩
  replace hb0_0 := BoxAt.ext hb0_0 e1_5
  replace hb0_1 := BoxAt.ext hb0_1 e1_5
  have := Ext.size e1_5
  replace eB := Ext.trans eB e1_5
  replace xr1 := Ext.trans xr1 e1_5
  try simp -implicitDefEqProofs (disch := first | decide | assumption | omega) only [go_sem, RdS.len hdX sl22, RdS.idx hdX sl22, R1.intB hdX (Ext.pres eB), RdS.cells hdX, RdS.len hmX sl23, RdS.idx hmX sl23, RdS.cellB hmX (Ext.pres eB), RdS.cells hmX, RdS.len hdY sl22, RdS.idx hdY sl22, R1.intB hdY (Ext.pres eB), RdS.cells hdY, RdS.len hmY sl23, RdS.idx hmY sl23, RdS.cellB hmY (Ext.pres eB), RdS.cells hmY, RdS.len rf sl23, RdS.idx rf sl23, RdS.cellB rf (Ext.pres eB), RdS.cells rf, RdS.len rg sl23, RdS.idx rg sl23, RdS.cellB rg (Ext.pres eB), RdS.cells rg, BoxAt.cell hb0_0, BoxAt.cell hb0_1, RdS.len ho1_4 sl114, RdS.idx ho1_4 sl114, RdS.cellB ho1_4 (Ext.pres xr1), RdS.cells ho1_4, wrap_id]
  refine hK _ _ ?_
  clear hK K
  refine den_seq ?_
  refine den_seq ?_
  refine den_mergeH [(34, .bool ((((famC X Y ([f, g])) == (0 : Int)) && (!((in3 k (0 : Int) (X.p - (1 : Int))))))))] [2, 3, 4, 5, 12] ?_ ?_
    -- a way
  · refine den_region TTok ?_
    intro K hK
    simp -implicitDefEqProofs (disch := first | decide | assumption | (simp (disch := decide) only [slotOf_zero, slotOf_succ, Option.map_some, puts_same, puts_ne, gv_bool, gv_undef, tt, tf, ft, ff, eq_self, if_true, if_false, Bool.false_eq_true, Bool.not_true, Bool.not_false]; done) | omega) only [go_sem, RdS.len hdX sl22, RdS.idx hdX sl22, R1.intB hdX (Ext.pres eB), RdS.cells hdX, RdS.len hmX sl23, RdS.idx hmX sl23, RdS.cellB hmX (Ext.pres eB), RdS.cells hmX, RdS.len hdY sl22, RdS.idx hdY sl22, R1.intB hdY (Ext.pres eB), RdS.cells hdY, RdS.len hmY sl23, RdS.idx hmY sl23, RdS.cellB hmY (Ext.pres eB), RdS.cells hmY, RdS.len rf sl23, RdS.idx rf sl23, RdS.cellB rf (Ext.pres eB), RdS.cells rf, RdS.len rg sl23, RdS.idx rg sl23, RdS.cellB rg (Ext.pres eB), RdS.cells rg, BoxAt.cell hb0_0, RdS.len ho1_4 sl114, RdS.idx ho1_4 sl114, RdS.cellB ho1_4 (Ext.pres xr1), RdS.cells ho1_4, wrap_id]
    refine opsP_T (by simp (disch := decide) only [slotOf_zero, slotOf_succ, Option.map_some, puts_same, puts_ne, gv_bool, gv_undef, tt, tf, ft, ff, eq_self, if_true, if_false, Bool.false_eq_true, Bool.not_true, Bool.not_false]; rfl) (fun g2 => ?_) (fun g2 => ?_)
    · obtain ⟨h1_, _⟩ := famC_0 (b0 g2)
      obtain ⟨hX, hY, hpp, hll⟩ := pairC_0 h1_
      have hpb := isP_bnd hX.p
      try simp -implicitDefEqProofs (disch := first | decide | assumption | (simp (disch := decide) only [slotOf_zero, slotOf_succ, Option.map_some, puts_same, puts_ne, gv_bool, gv_undef, tt, tf, ft, ff, eq_self, if_true, if_false, Bool.false_eq_true, Bool.not_true, Bool.not_false, g2]; done) | omega) only [go_sem, fa30_0, ld2, RdS.len hdX sl22, RdS.idx hdX sl22, R1.intB hdX (Ext.pres eB), RdS.cells hdX, RdS.len hmX sl23, RdS.idx hmX sl23, RdS.cellB hmX (Ext.pres eB), RdS.cells hmX, RdS.len hdY sl22, RdS.idx hdY sl22, R1.intB hdY (Ext.pres eB), RdS.cells hdY, RdS.len hmY sl23, RdS.idx hmY sl23, RdS.cellB hmY (Ext.pres eB), RdS.cells hmY, RdS.len rf sl23, RdS.idx rf sl23, RdS.cellB rf (Ext.pres eB), RdS.cells rf, RdS.len rg sl23, RdS.idx rg sl23, RdS.cellB rg (Ext.pres eB), RdS.cells rg, BoxAt.cell hb0_0, RdS.len ho1_4 sl114, RdS.idx ho1_4 sl114, RdS.cellB ho1_4 (Ext.pres xr1), RdS.cells ho1_4, wrap_id, g2, eq_self, if_true, if_false, Bool.false_eq_true]
      try simp -implicitDefEqProofs (disch := first | decide | assumption | omega) only [go_sem, RdS.len hdX sl22, RdS.idx hdX sl22, R1.intB hdX (Ext.pres eB), RdS.cells hdX, RdS.len hmX sl23, RdS.idx hmX sl23, RdS.cellB hmX (Ext.pres eB), RdS.cells hmX, RdS.len hdY sl22, RdS.idx hdY sl22, R1.intB hdY (Ext.pres eB), RdS.cells hdY, RdS.len hmY sl23, RdS.idx hmY sl23, RdS.cellB hmY (Ext.pres eB), RdS.cells hmY, RdS.len rf sl23, RdS.idx rf sl23, RdS.cellB rf (Ext.pres eB), RdS.cells rf, RdS.len rg sl23, RdS.idx rg sl23, RdS.cellB rg (Ext.pres eB), RdS.cells rg, BoxAt.cell hb0_0, RdS.len ho1_4 sl114, RdS.idx ho1_4 sl114, RdS.cellB ho1_4 (Ext.pres xr1), RdS.cells ho1_4, wrap_id]
      refine CallA.pure (iIn_ok _ _ _ _) ?_
      try simp -implicitDefEqProofs (disch := first | decide | assumption | (simp (disch := decide) only [slotOf_zero, slotOf_succ, Option.map_some, puts_same, puts_ne, gv_bool, gv_undef, tt, tf, ft, ff, eq_self, if_true, if_false, Bool.false_eq_true, Bool.not_true, Bool.not_false, g2]; done) | omega) only [go_sem, RdS.len hdX sl22, RdS.idx hdX sl22, R1.intB hdX (Ext.pres eB), RdS.cells hdX, RdS.len hmX sl23, RdS.idx hmX sl23, RdS.cellB hmX (Ext.pres eB), RdS.cells hmX, RdS.len hdY sl22, RdS.idx hdY sl22, R1.intB hdY (Ext.pres eB), RdS.cells hdY, RdS.len hmY sl23, RdS.idx hmY sl23, RdS.cellB hmY (Ext.pres eB), RdS.cells hmY, RdS.len rf sl23, RdS.idx rf sl23, RdS.cellB rf (Ext.pres eB), RdS.cells rf, RdS.len rg sl23, RdS.idx rg sl23, RdS.cellB rg (Ext.pres eB), RdS.cells rg, BoxAt.cell hb0_0, RdS.len ho1_4 sl114, RdS.idx ho1_4 sl114, RdS.cellB ho1_4 (Ext.pres xr1), RdS.cells ho1_4, wrap_id, g2, eq_self, if_true, if_false, Bool.false_eq_true]
      refine hK _ _ ?_
      clear hK K
      refine den_stop ?_
      refine ⟨?_, rfl⟩
      first | (simp (disch := decide) only [go_sem, g2, eq_self, Bool.true_and, Bool.and_true, Bool.false_and, Bool.and_false, Bool.true_or, Bool.or_true, Bool.false_or, Bool.or_false, if_true, if_false, Bool.false_eq_true]; done) | simp [HasL, sel, puts_at, g2]
    · try simp -implicitDefEqProofs (disch := first | decide | assumption | (simp (disch := decide) only [slotOf_zero, slotOf_succ, Option.map_some, puts_same, puts_ne, gv_bool, gv_undef, tt, tf, ft, ff, eq_self, if_true, if_false, Bool.false_eq_true, Bool.not_true, Bool.not_false, g2]; done) | omega) only [go_sem, RdS.len hdX sl22, RdS.idx hdX sl22, R1.intB hdX (Ext.pres eB), RdS.cells hdX, RdS.len hmX sl23, RdS.idx hmX sl23, RdS.cellB hmX (Ext.pres eB), RdS.cells hmX, RdS.len hdY sl22, RdS.idx hdY sl22, R1.intB hdY (Ext.pres eB), RdS.cells hdY, RdS.len hmY sl23, RdS.idx hmY sl23, RdS.cellB hmY (Ext.pres eB), RdS.cells hmY, RdS.len rf sl23, RdS.idx rf sl23, RdS.cellB rf (Ext.pres eB), RdS.cells rf, RdS.len rg sl23, RdS.idx rg sl23, RdS.cellB rg (Ext.pres eB), RdS.cells rg, BoxAt.cell hb0_0, RdS.len ho1_4 sl114, RdS.idx ho1_4 sl114, RdS.cellB ho1_4 (Ext.pres xr1), RdS.cells ho1_4, wrap_id, g2, eq_self, if_true, if_false, Bool.false_eq_true]
      refine hK _ _ ?_
      clear hK K
      refine den_stop ?_
      refine ⟨?_, rfl⟩
      first | (simp (disch := decide) only [go_sem, g2, eq_self, Bool.true_and, Bool.and_true, Bool.false_and, Bool.and_false, Bool.true_or, Bool.or_true, Bool.false_or, Bool.or_false, if_true, if_false, Bool.false_eq_true]; done) | simp [HasL, sel, puts_at, g2]
  intro en3
  simp (disch := decide) only [go_sem]
  refine den_mergeH [(12, .int .i64 ((cadd (famC X Y ([f, g])) (2 : Int) (!((in3 k (0 : Int) (X.p - (1 : Int))))))))] [2, 3, 4, 5] ?_ ?_
  · refine den_cond rfl (fun c0 => ?_) (fun c0 => ?_)
    · refine den_region TTok ?_
      intro K hK
      simp -implicitDefEqProofs (disch := first | decide | assumption | omega) only [go_sem, RdS.len hdX sl22, RdS.idx hdX sl22, R1.intB hdX (Ext.pres eB), RdS.cells hdX, RdS.len hmX sl23, RdS.idx hmX sl23, RdS.cellB hmX (Ext.pres eB), RdS.cells hmX, RdS.len hdY sl22, RdS.idx hdY sl22, R1.intB hdY (Ext.pres eB), RdS.cells hdY, RdS.len hmY sl23, RdS.idx hmY sl23, RdS.cellB hmY (Ext.pres eB), RdS.cells hmY, RdS.len rf sl23, RdS.idx rf sl23, RdS.cellB rf (Ext.pres eB), RdS.cells rf, RdS.len rg sl23, RdS.idx rg sl23, RdS.cellB rg (Ext.pres eB), RdS.cells rg, BoxAt.cell hb0_0, RdS.len ho1_4 sl114, RdS.idx ho1_4 sl114, RdS.cellB ho1_4 (Ext.pres xr1), RdS.cells ho1_4, wrap_id]
      refine hK _ _ ?_
      clear hK K
      refine den_stop ?_
      refine ⟨?_, rfl⟩; simp (disch := decide) only [go_sem, c0, caddT c0, eq_self, if_true, if_false, Bool.false_eq_true, reduceCtorEq]
    · refine den_skip ?_
      refine den_stop ?_
      refine ⟨?_, rfl⟩; simp (disch := decide) only [go_sem, c0, caddF c0, eq_self, if_true, if_false, Bool.false_eq_true, reduceCtorEq]
  intro en6
  simp (disch := decide) only [go_sem]
  refine den_seq ?_
  refine den_seq ?_
  refine den_region TTok ?_
  intro K hK
  simp -implicitDefEqProofs (disch := first | decide | assumption | omega) only [go_sem, RdS.len hdX sl22, RdS.idx hdX sl22, R1.intB hdX (Ext.pres eB), RdS.cells hdX, RdS.len hmX sl23, RdS.idx hmX sl23, RdS.cellB hmX (Ext.pres eB), RdS.cells hmX, RdS.len hdY sl22, RdS.idx hdY sl22, R1.intB hdY (Ext.pres eB), RdS.cells hdY, RdS.len hmY sl23, RdS.idx hmY sl23, RdS.cellB hmY (Ext.pres eB), RdS.cells hmY, RdS.len rf sl23, RdS.idx rf sl23, RdS.cellB rf (Ext.pres eB), RdS.cells rf, RdS.len rg sl23, RdS.idx rg sl23, RdS.cellB rg (Ext.pres eB), RdS.cells rg, BoxAt.cell hb0_0, RdS.len ho1_4 sl114, RdS.idx ho1_4 sl114, RdS.cellB ho1_4 (Ext.pres xr1), RdS.cells ho1_4, wrap_id]
  refine hK _ _ ?_
  clear hK K
  refine den_cond rfl (fun c1 => ?_) (fun c1 => ?_)
  · try simp only [decide_eq_true_eq, decide_eq_false_iff_not, beq_iff_eq, beq_eq_false_iff_ne, bne_iff_ne, ne_eq, Bool.not_eq_true', Bool.not_eq_false', Bool.and_eq_true, Bool.or_eq_true, bne_eq_false_iff_eq] at c1
    refine den_seq ?_
    refine den_region TTok ?_
    intro K hK
    simp -implicitDefEqProofs (disch := first | decide | assumption | omega) only [go_sem, RdS.len hdX sl22, RdS.idx hdX sl22, R1.intB hdX (Ext.pres eB), RdS.cells hdX, RdS.len hmX sl23, RdS.idx hmX sl23, RdS.cellB hmX (Ext.pres eB), RdS.cells hmX, RdS.len hdY sl22, RdS.idx hdY sl22, R1.intB hdY (Ext.pres eB), RdS.cells hdY, RdS.len hmY sl23, RdS.idx hmY sl23, RdS.cellB hmY (Ext.pres eB), RdS.cells hmY, RdS.len rf sl23, RdS.idx rf sl23, RdS.cellB rf (Ext.pres eB), RdS.cells rf, RdS.len rg sl23, RdS.idx rg sl23, RdS.cellB rg (Ext.pres eB), RdS.cells rg, RdS.len ho1_4 sl114, RdS.idx ho1_4 sl114, RdS.cellB ho1_4 (Ext.pres xr1), RdS.cells ho1_4, wrap_id]
    refine hK _ _ ?_
    clear hK K
    refine den_ret ?_
    simp (disch := decide) only [resP_2, puts_same, puts_ne]
    have hz : adP X Y f g k = ([], adC X Y f g k) := by rw [adP, if_neg (show ¬ adC X Y f g k = 0 from c1)]
    rw [hz]
    exact ⟨.slice none 0 0, [], rfl, OS.nil, Fresh.nil _, eB⟩
  · try simp only [decide_eq_true_eq, decide_eq_false_iff_not, beq_iff_eq, beq_eq_false_iff_ne, bne_iff_ne, ne_eq, Bool.not_eq_true', Bool.not_eq_false', Bool.and_eq_true, Bool.or_eq_true, bne_eq_false_iff_eq] at c1
    obtain ⟨hX, hS, hk0, hk1⟩ := adC_0 (show adC X Y f g k = 0 from c1)
    have hpb := isP_bnd hX.p
    have hlen := hS.len
    refine den_skip ?_
    refine den_seq ?_
    refine den_region TTok ?_
    intro K hK
    simp -implicitDefEqProofs (disch := first | decide | assumption | omega) only [go_sem, RdS.len hdX sl22, RdS.idx hdX sl22, R1.intB hdX (Ext.pres eB), RdS.cells hdX, RdS.len hmX sl23, RdS.idx hmX sl23, RdS.cellB hmX (Ext.pres eB), RdS.cells hmX, RdS.len hdY sl22, RdS.idx hdY sl22, R1.intB hdY (Ext.pres eB), RdS.cells hdY, RdS.len hmY sl23, RdS.idx hmY sl23, RdS.cellB hmY (Ext.pres eB), RdS.cells hmY, RdS.len rf sl23, RdS.idx rf sl23, RdS.cellB rf (Ext.pres eB), RdS.cells rf, RdS.len rg sl23, RdS.idx rg sl23, RdS.cellB rg (Ext.pres eB), RdS.cells rg, BoxAt.cell hb0_0, RdS.len ho1_4 sl114, RdS.idx ho1_4 sl114, RdS.cellB ho1_4 (Ext.pres xr1), RdS.cells ho1_4, wrap_id]
    refine op_bs0 sz23 O2 ?_
    intro v6_0 h6_0 ho6_0 e6_0
    replace hb0_0 := BoxAt.ext hb0_0 e6_0
    have := Ext.size e6_0
    replace eB := Ext.trans eB e6_0
    replace xr1 := Ext.trans xr1 e6_0
    have hfho6_0 : Fresh h1_5.size [h1_5.size] := Fresh.one _
    have hlho6_0 := OS.lt ho6_0
    try simp -implicitDefEqProofs (disch := first | decide | assumption | omega) only [go_sem, RdS.len hdX sl22, RdS.idx hdX sl22, R1.intB hdX (Ext.pres eB), RdS.cells hdX, RdS.len hmX sl23, RdS.idx hmX sl23, RdS.cellB hmX (Ext.pres eB), RdS.cells hmX, RdS.len hdY sl22, RdS.idx hdY sl22, R1.intB hdY (Ext.pres eB), RdS.cells hdY, RdS.len hmY sl23, RdS.idx hmY sl23, RdS.cellB hmY (Ext.pres eB), RdS.cells hmY, RdS.len rf sl23, RdS.idx rf sl23, RdS.cellB rf (Ext.pres eB), RdS.cells rf, RdS.len rg sl23, RdS.idx rg sl23, RdS.cellB rg (Ext.pres eB), RdS.cells rg, RdS.len (OS.rd ho6_0) sl23, RdS.idx (OS.rd ho6_0) sl23, RdS.cellN (OS.rd ho6_0), RdS.cells (OS.rd ho6_0), BoxAt.cell hb0_0, RdS.len ho1_4 sl114, RdS.idx ho1_4 sl114, RdS.cellB ho1_4 (Ext.pres xr1), RdS.cells ho1_4, wrap_id]
    refine hK _ _ ?_
    clear hK K
    refine den_seq ?_
    refine den_seq ?_
    refine den_region TTok ?_
    intro K hK
    simp -implicitDefEqProofs (disch := first | decide | assumption | omega) only [go_sem, RdS.len hdX sl22, RdS.idx hdX sl22, R1.intB hdX (Ext.pres eB), RdS.cells hdX, RdS.len hmX sl23, RdS.idx hmX sl23, RdS.cellB hmX (Ext.pres eB), RdS.cells hmX, RdS.len hdY sl22, RdS.idx hdY sl22, R1.intB hdY (Ext.pres eB), RdS.cells hdY, RdS.len hmY sl23, RdS.idx hmY sl23, RdS.cellB hmY (Ext.pres eB), RdS.cells hmY, RdS.len rf sl23, RdS.idx rf sl23, RdS.cellB rf (Ext.pres eB), RdS.cells rf, RdS.len rg sl23, RdS.idx rg sl23, RdS.cellB rg (Ext.pres eB), RdS.cells rg, RdS.len (OS.rd ho6_0) sl23, RdS.idx (OS.rd ho6_0) sl23, RdS.cellN (OS.rd ho6_0), RdS.cells (OS.rd ho6_0), BoxAt.cell hb0_0, RdS.len ho1_4 sl114, RdS.idx ho1_4 sl114, RdS.cellB ho1_4 (Ext.pres xr1), RdS.cells ho1_4, wrap_id]
    refine hK _ _ ?_
    clear hK K
    refine den_block ?_
    refine den_sel [13, 41, 3, 4, 5, 39, 40] ?_
    intro env_7
    simp only [go_sem]
    refine den_loopS (σ := Nat × Value × List Nat) (fun st_ => [(13, st_.2.1), (41, .int .i64 (st_.1 : Int))]) (fun st_ H => (st_.1 ≤ f.length) ∧ (O3 H st_.2.1 ((List.range st_.1).map fun q : Nat => addRows X.p k (f.getD q default) (g.getD q default)) st_.2.2) ∧ (Fresh (h1_5.size) st_.2.2) ∧ (Sub [h1_5.size] h6_0.size st_.2.2) ∧ (Chg [h1_5.size] h6_0 H)) (fun st_ => f.length - st_.1) (0, v6_0, [h1_5.size]) ?_ ?_
    · exact ⟨by first | (simp; done) | (dsimp only; omega) | (simp; omega), by simpa using ho6_0, hfho6_0, Sub.refl, Chg.refl _ _⟩
    · rintro ⟨n, vhO, fphO⟩ h10 ee9 ⟨hi0, hO, hfhO, sbhO, cL8⟩
      dsimp only at hi0 hO hfhO sbhO cL8
      replace hb0_0 := BoxAt.chgA hb0_0 cL8 (apart_lt hlhb0_0 hfho6_0 (by omega))
      have := cL8.size
      replace eB := Ext.then eB cL8 (ge_of hfho6_0 (by omega))
      replace xr1 := Ext.then xr1 cL8 (ge_of hfho6_0 (by omega))
      have hlhO := OS.lt hO
      simp only [List.cons_append, List.nil_append]
      have hlo : ((List.range n).map fun n : Nat => addRows X.p k (f.getD n default) (g.getD n default)).length = n := by simp
      refine den_seq ?_
      refine den_region TTok ?_
      intro K hK
      simp -implicitDefEqProofs (disch := first | decide | assumption | omega) only [go_sem, RdS.len hdX sl22, RdS.idx hdX sl22, R1.intB hdX (Ext.pres eB), RdS.cells hdX, RdS.len hmX sl23, RdS.idx hmX sl23, RdS.cellB hmX (Ext.pres eB), RdS.cells hmX, RdS.len hdY sl22, RdS.idx hdY sl22, R1.intB hdY (Ext.pres eB), RdS.cells hdY, RdS.len hmY sl23, RdS.idx hmY sl23, RdS.cellB hmY (Ext.pres eB), RdS.cells hmY, RdS.len rf sl23, RdS.idx rf sl23, RdS.cellB rf (Ext.pres eB), RdS.cells rf, RdS.len rg sl23, RdS.idx rg sl23, RdS.cellB rg (Ext.pres eB), RdS.cells rg, RdS.len (OS.rd hO) sl23, RdS.idx (OS.rd hO) sl23, RdS.cellN (OS.rd hO), RdS.cells (OS.rd hO), BoxAt.cell hb0_0, RdS.len ho1_4 sl114, RdS.idx ho1_4 sl114, RdS.cellB ho1_4 (Ext.pres xr1), RdS.cells ho1_4, wrap_id]
      refine hK _ _ ?_
      clear hK K
      refine den_seq ?_
      refine den_cond rfl (fun c2 => ?_) (fun c2 => ?_)
      · try simp only [decide_eq_true_eq, decide_eq_false_iff_not, beq_iff_eq, beq_eq_false_iff_ne, bne_iff_ne, ne_eq, Bool.not_eq_true', Bool.not_eq_false', Bool.and_eq_true, Bool.or_eq_true, bne_eq_false_iff_eq] at c2
        refine den_skip ?_
        refine den_seq ?_
        refine den_block ?_
        refine den_seq ?_
        have hro := hS.rows n (by omega)
        refine den_region TTok ?_
        intro K hK
        have hr11 := RdS.rowN rf n (by omega)
        have hlhr11 := RdS.le hr11
        simp -implicitDefEqProofs (disch := first | decide | assumption | omega) only [go_sem, ld56, RdS.len hdX sl22, RdS.idx hdX sl22, R1.intB hdX (Ext.pres eB), RdS.cells hdX, RdS.len hmX sl23, RdS.idx hmX sl23, RdS.cellB hmX (Ext.pres eB), RdS.cells hmX, RdS.len hdY sl22, RdS.idx hdY sl22, R1.intB hdY (Ext.pres eB), RdS.cells hdY, RdS.len hmY sl23, RdS.idx hmY sl23, RdS.cellB hmY (Ext.pres eB), RdS.cells hmY, RdS.len rf sl23, RdS.idx rf sl23, RdS.cellB rf (Ext.pres eB), RdS.cells rf, RdS.len rg sl23, RdS.idx rg sl23, RdS.cellB rg (Ext.pres eB), RdS.cells rg, RdS.len hr11 sl56, RdS.idx hr11 sl56, RdS.cellB hr11 (Ext.pres eB), RdS.cells hr11, RdS.len (OS.rd hO) sl23, RdS.idx (OS.rd hO) sl23, RdS.cellN (OS.rd hO), RdS.cells (OS.rd hO), BoxAt.cell hb0_0, RdS.len ho1_4 sl114, RdS.idx ho1_4 sl114, RdS.cellB ho1_4 (Ext.pres xr1), RdS.cells ho1_4, wrap_id]
        refine hK _ _ ?_
        clear hK K
        refine den_seq ?_
        refine den_region TTok ?_
        intro K hK
        simp -implicitDefEqProofs (disch := first | decide | assumption | omega) only [go_sem, RdS.len hdX sl22, RdS.idx hdX sl22, R1.intB hdX (Ext.pres eB), RdS.cells hdX, RdS.len hmX sl23, RdS.idx hmX sl23, RdS.cellB hmX (Ext.pres eB), RdS.cells hmX, RdS.len hdY sl22, RdS.idx hdY sl22, R1.intB hdY (Ext.pres eB), RdS.cells hdY, RdS.len hmY sl23, RdS.idx hmY sl23, RdS.cellB hmY (Ext.pres eB), RdS.cells hmY, RdS.len rf sl23, RdS.idx rf sl23, RdS.cellB rf (Ext.pres eB), RdS.cells rf, RdS.len rg sl23, RdS.idx rg sl23, RdS.cellB rg (Ext.pres eB), RdS.cells rg, RdS.len hr11 sl56, RdS.idx hr11 sl56, RdS.cellB hr11 (Ext.pres eB), RdS.cells hr11, RdS.len (OS.rd hO) sl23, RdS.idx (OS.rd hO) sl23, RdS.cellN (OS.rd hO), RdS.cells (OS.rd hO), BoxAt.cell hb0_0, RdS.len ho1_4 sl114, RdS.idx ho1_4 sl114, RdS.cellB ho1_4 (Ext.pres xr1), RdS.cells ho1_4, wrap_id]
        refine op_bs0 sz56 O1 ?_
        intro v10_0 h10_0 ho10_0 e10_0
        replace hO := OS.ext hO e10_0
        replace hb0_0 := BoxAt.ext hb0_0 e10_0
        have := Ext.size e10_0
        replace eB := Ext.trans eB e10_0
        replace xr1 := Ext.trans xr1 e10_0
        replace cL8 := Chg.stepE cL8 e10_0
        have hfho10_0 : Fresh h10.size [h10.size] := Fresh.one _
        have hlho10_0 := OS.lt ho10_0
        try simp -implicitDefEqProofs (disch := first | decide | assumption | omega) only [go_sem, RdS.len hdX sl22, RdS.idx hdX sl22, R1.intB hdX (Ext.pres eB), RdS.cells hdX, RdS.len hmX sl23, RdS.idx hmX sl23, RdS.cellB hmX (Ext.pres eB), RdS.cells hmX, RdS.len hdY sl22, RdS.idx hdY sl22, R1.intB hdY (Ext.pres eB), RdS.cells hdY, RdS.len hmY sl23, RdS.idx hmY sl23, RdS.cellB hmY (Ext.pres eB), RdS.cells hmY, RdS.len rf sl23, RdS.idx rf sl23, RdS.cellB rf (Ext.pres eB), RdS.cells rf, RdS.len rg sl23, RdS.idx rg sl23, RdS.cellB rg (Ext.pres eB), RdS.cells rg, RdS.len hr11 sl56, RdS.idx hr11 sl56, RdS.cellB hr11 (Ext.pres eB), RdS.cells hr11, RdS.len (OS.rd hO) sl23, RdS.idx (OS.rd hO) sl23, RdS.cellN (OS.rd hO), RdS.cells (OS.rd hO), RdS.len (OS.rd ho10_0) sl56, RdS.idx (OS.rd ho10_0) sl56, RdS.cellN (OS.rd ho10_0), RdS.cells (OS.rd ho10_0), BoxAt.cell hb0_0, RdS.len ho1_4 sl114, RdS.idx ho1_4 sl114, RdS.cellB ho1_4 (Ext.pres xr1), RdS.cells ho1_4, wrap_id]
        refine hK _ _ ?_
        clear hK K
        refine den_seq ?_
        refine den_seq ?_
        refine den_region TTok ?_
        intro K hK
        simp -implicitDefEqProofs (disch := first | decide | assumption | omega) only [go_sem, RdS.len hdX sl22, RdS.idx hdX sl22, R1.intB hdX (Ext.pres eB), RdS.cells hdX, RdS.len hmX sl23, RdS.idx hmX sl23, RdS.cellB hmX (Ext.pres eB), RdS.cells hmX, RdS.len hdY sl22, RdS.idx hdY sl22, R1.intB hdY (Ext.pres eB), RdS.cells hdY, RdS.len hmY sl23, RdS.idx hmY sl23, RdS.cellB hmY (Ext.pres eB), RdS.cells hmY, RdS.len rf sl23, RdS.idx rf sl23, RdS.cellB rf (Ext.pres eB), RdS.cells rf, RdS.len rg sl23, RdS.idx rg sl23, RdS.cellB rg (Ext.pres eB), RdS.cells rg, RdS.len hr11 sl56, RdS.idx hr11 sl56, RdS.cellB hr11 (Ext.pres eB), RdS.cells hr11, RdS.len (OS.rd hO) sl23, RdS.idx (OS.rd hO) sl23, RdS.cellN (OS.rd hO), RdS.cells (OS.rd hO), RdS.len (OS.rd ho10_0) sl56, RdS.idx (OS.rd ho10_0) sl56, RdS.cellN (OS.rd ho10_0), RdS.cells (OS.rd ho10_0), BoxAt.cell hb0_0, RdS.len ho1_4 sl114, RdS.idx ho1_4 sl114, RdS.cellB ho1_4 (Ext.pres xr1), RdS.cells ho1_4, wrap_id]
        refine hK _ _ ?_
        clear hK K
        refine den_block ?_
        refine den_sel [16, 49, 3, 4, 5, 13, 14, 39, 40, 41, 47, 48] ?_
        intro env_12
        simp only [go_sem]
        refine den_loopS (σ := Nat × Value × List Nat) (fun st_ => [(16, st_.2.1), (49, .int .i64 (st_.1 : Int))]) (fun st_ H => (st_.1 ≤ (f.getD n default).length) ∧ (O2 H st_.2.1 ((List.range st_.1).map fun q : Nat => addRow X.p k ((f.getD n default).getD q default) ((g.getD n default).getD q default)) st_.2.2) ∧ (Fresh (h10.size) st_.2.2) ∧ (Sub [h10.size] h10_0.size st_.2.2) ∧ (Chg [h10.size] h10_0 H)) (fun st_ => (f.getD n default).length - st_.1) (0, v10_0, [h10.size]) ?_ ?_
        · exact ⟨by first | (simp; done) | (dsimp only; omega) | (simp; omega), by simpa using ho10_0, hfho10_0, Sub.refl, Chg.refl _ _⟩
        · rintro ⟨i, vhR, fphR⟩ h15 ee14 ⟨hi0, hR, hfhR, sbhR, cL13⟩
          dsimp only at hi0 hR hfhR sbhR cL13
          replace hO := OS.chg hO cL13 (apart_lt hlhO hfho10_0 (by omega))
          replace hb0_0 := BoxAt.chgA hb0_0 cL13 (apart_lt hlhb0_0 hfho10_0 (by omega))
          have := cL13.size
          replace eB := Ext.then eB cL13 (ge_of hfho10_0 (by omega))
          replace xr1 := Ext.then xr1 cL13 (ge_of hfho10_0 (by omega))
          replace cL8 := Chg.step cL8 cL13 (Sub.fresh hfho10_0 (by omega))
          have hlhR := OS.lt hR
          simp only [List.cons_append, List.nil_append]
          have hlr : ((List.range i).map fun i : Nat => addRow X.p k ((f.getD n default).getD i default) ((g.getD n default).getD i default)).length = i := by simp
          refine den_seq ?_
          refine den_region TTok ?_
          intro K hK
          simp -implicitDefEqProofs (disch := first | decide | assumption | omega) only [go_sem, RdS.len hdX sl22, RdS.idx hdX sl22, R1.intB hdX (Ext.pres eB), RdS.cells hdX, RdS.len hmX sl23, RdS.idx hmX sl23, RdS.cellB hmX (Ext.pres eB), RdS.cells hmX, RdS.len hdY sl22, RdS.idx hdY sl22, R1.intB hdY (Ext.pres eB), RdS.cells hdY, RdS.len hmY sl23, RdS.idx hmY sl23, RdS.cellB hmY (Ext.pres eB), RdS.cells hmY, RdS.len rf sl23, RdS.idx rf sl23, RdS.cellB rf (Ext.pres eB), RdS.cells rf, RdS.len rg sl23, RdS.idx rg sl23, RdS.cellB rg (Ext.pres eB), RdS.cells rg, RdS.len hr11 sl56, RdS.idx hr11 sl56, RdS.cellB hr11 (Ext.pres eB), RdS.cells hr11, RdS.len (OS.rd hO) sl23, RdS.idx (OS.rd hO) sl23, RdS.cellN (OS.rd hO), RdS.cells (OS.rd hO), RdS.len (OS.rd hR) sl56, RdS.idx (OS.rd hR) sl56, RdS.cellN (OS.rd hR), RdS.cells (OS.rd hR), BoxAt.cell hb0_0, RdS.len ho1_4 sl114, RdS.idx ho1_4 sl114, RdS.cellB ho1_4 (Ext.pres xr1), RdS.cells ho1_4, wrap_id]
          refine hK _ _ ?_
          clear hK K
          refine den_seq ?_
          refine den_cond rfl (fun c3 => ?_) (fun c3 => ?_)
          · try simp only [decide_eq_true_eq, decide_eq_false_iff_not, beq_iff_eq, beq_eq_false_iff_ne, bne_iff_ne, ne_eq, Bool.not_eq_true', Bool.not_eq_false', Bool.and_eq_true, Bool.or_eq_true, bne_eq_false_iff_eq] at c3
            refine den_skip ?_
            refine den_seq ?_
            refine den_block ?_
            refine den_seq ?_
            refine den_region TTok ?_
            intro K hK
            have hr16 := RdS.rowN hr11 i (by omega)
            have hlhr16 := RdS.le hr16
            simp -implicitDefEqProofs (disch := first | decide | assumption | omega) only [go_sem, ld22, RdS.len hdX sl22, RdS.idx hdX sl22, R1.intB hdX (Ext.pres eB), RdS.cells hdX, RdS.len hmX sl23, RdS.idx hmX sl23, RdS.cellB hmX (Ext.pres eB), RdS.cells hmX, RdS.len hdY sl22, RdS.idx hdY sl22, R1.intB hdY (Ext.pres eB), RdS.cells hdY, RdS.len hmY sl23, RdS.idx hmY sl23, RdS.cellB hmY (Ext.pres eB), RdS.cells hmY, RdS.len rf sl23, RdS.idx rf sl23, RdS.cellB rf (Ext.pres eB), RdS.cells rf, RdS.len rg sl23, RdS.idx rg sl23, RdS.cellB rg (Ext.pres eB), RdS.cells rg, RdS.len hr11 sl56, RdS.idx hr11 sl56, RdS.cellB hr11 (Ext.pres eB), RdS.cells hr11, RdS.len hr16 sl22, RdS.idx hr16 sl22, R1.intB hr16 (Ext.pres eB), RdS.cells hr16, RdS.len (OS.rd hO) sl23, RdS.idx (OS.rd hO) sl23, RdS.cellN (OS.rd hO), RdS.cells (OS.rd hO), RdS.len (OS.rd hR) sl56, RdS.idx (OS.rd hR) sl56, RdS.cellN (OS.rd hR), RdS.cells (OS.rd hR), BoxAt.cell hb0_0, RdS.len ho1_4 sl114, RdS.idx ho1_4 sl114, RdS.cellB ho1_4 (Ext.pres xr1), RdS.cells ho1_4, wrap_id]
            refine hK _ _ ?_
            clear hK K
            have hri := hS.row n i (by omega) (by omega)
            have hto := And.intro (show ((f.getD n default).getD i default).length = ((g.getD n default).getD i default).length ∧ ((f.getD n default).getD i default).length ≤ 8 from ⟨hri.1, hri.2.1⟩) hri.2.2
            refine den_draw TTok mixed [14] [(0, true), (1, true), (2, true), (3, true), (4, true), (5, true), (6, true), (7, true), (8, true), (9, true), (10, true), (11, true), (12, false), (13, false), (14, false), (15, true)] (by kernel_rfl) ?_
            intro K hK
            have hr17 := RdS.rowN rg n (by omega)
            have hlhr17 := RdS.le hr17
            have hr18 := RdS.rowN hr17 i (by omega)
            have hlhr18 := RdS.le hr18
            simp -implicitDefEqProofs (disch := first | decide | assumption | omega) only [go_sem, fa30_0, ld56, ld22, ld2, RdS.len hdX sl22, RdS.idx hdX sl22, R1.intB hdX (Ext.pres eB), RdS.cells hdX, RdS.len hmX sl23, RdS.idx hmX sl23, RdS.cellB hmX (Ext.pres eB), RdS.cells hmX, RdS.len hdY sl22, RdS.idx hdY sl22, R1.intB hdY (Ext.pres eB), RdS.cells hdY, RdS.len hmY sl23, RdS.idx hmY sl23, RdS.cellB hmY (Ext.pres eB), RdS.cells hmY, RdS.len rf sl23, RdS.idx rf sl23, RdS.cellB rf (Ext.pres eB), RdS.cells rf, RdS.len rg sl23, RdS.idx rg sl23, RdS.cellB rg (Ext.pres eB), RdS.cells rg, RdS.len hr11 sl56, RdS.idx hr11 sl56, RdS.cellB hr11 (Ext.pres eB), RdS.cells hr11, RdS.len hr16 sl22, RdS.idx hr16 sl22, R1.intB hr16 (Ext.pres eB), RdS.cells hr16, RdS.len hr17 sl56, RdS.idx hr17 sl56, RdS.cellB hr17 (Ext.pres eB), RdS.cells hr17, RdS.len hr18 sl22, RdS.idx hr18 sl22, R1.intB hr18 (Ext.pres eB), RdS.cells hr18, RdS.len (OS.rd hO) sl23, RdS.idx (OS.rd hO) sl23, RdS.cellN (OS.rd hO), RdS.cells (OS.rd hO), RdS.len (OS.rd hR) sl56, RdS.idx (OS.rd hR) sl56, RdS.cellN (OS.rd hR), RdS.cells (OS.rd hR), BoxAt.cell hb0_0, RdS.len ho1_4 sl114, RdS.idx ho1_4 sl114, RdS.cellB ho1_4 (Ext.pres xr1), RdS.cells ho1_4, wrap_id]
            try simp -implicitDefEqProofs (disch := first | decide | assumption | omega) only [go_sem, RdS.len hdX sl22, RdS.idx hdX sl22, R1.intB hdX (Ext.pres eB), RdS.cells hdX, RdS.len hmX sl23, RdS.idx hmX sl23, RdS.cellB hmX (Ext.pres eB), RdS.cells hmX, RdS.len hdY sl22, RdS.idx hdY sl22, R1.intB hdY (Ext.pres eB), RdS.cells hdY, RdS.len hmY sl23, RdS.idx hmY sl23, RdS.cellB hmY (Ext.pres eB), RdS.cells hmY, RdS.len rf sl23, RdS.idx rf sl23, RdS.cellB rf (Ext.pres eB), RdS.cells rf, RdS.len rg sl23, RdS.idx rg sl23, RdS.cellB rg (Ext.pres eB), RdS.cells rg, RdS.len hr11 sl56, RdS.idx hr11 sl56, RdS.cellB hr11 (Ext.pres eB), RdS.cells hr11, RdS.len hr16 sl22, RdS.idx hr16 sl22, R1.intB hr16 (Ext.pres eB), RdS.cells hr16, RdS.len hr17 sl56, RdS.idx hr17 sl56, RdS.cellB hr17 (Ext.pres eB), RdS.cells hr17, RdS.len hr18 sl22, RdS.idx hr18 sl22, R1.intB hr18 (Ext.pres eB), RdS.cells hr18, RdS.len (OS.rd hO) sl23, RdS.idx (OS.rd hO) sl23, RdS.cellN (OS.rd hO), RdS.cells (OS.rd hO), RdS.len (OS.rd hR) sl56, RdS.idx (OS.rd hR) sl56, RdS.cellN (OS.rd hR), RdS.cells (OS.rd hR), BoxAt.cell hb0_0, RdS.len ho1_4 sl114, RdS.idx ho1_4 sl114, RdS.cellB ho1_4 (Ext.pres xr1), RdS.cells ho1_4, wrap_id]
            refine CallA.mono (iTog_ok _ _ X.p (((f).getD n default).getD i default) (((g).getD n default).getD i default) k _ (RdS.pres hr16 (Ext.pres eB)) (RdS.pres hr18 (Ext.pres eB)) (by omega) hto.1 hto.2.1 hto.2.2 (by omega)) ?_
            intro vw14_12_0 h14_12
            rintro ⟨zvw14_12_0, fw14_12_0, rfl, how14_12_0, hfw14_12_0, e14_12⟩
            replace hO := OS.ext hO e14_12
            replace hR := OS.ext hR e14_12
            replace hb0_0 := BoxAt.ext hb0_0 e14_12
            have := Ext.size e14_12
            replace eB := Ext.trans eB e14_12
            replace xr1 := Ext.trans xr1 e14_12
            replace cL8 := Chg.stepE cL8 e14_12
            replace cL13 := Chg.stepE cL13 e14_12
            have hlhow14_12_0 := OS.lt how14_12_0
            try simp (disch := decide) only [outv_some, outv_none, put_puts]
            refine plK_pres (Ext.pres e14_12) ?_
            try simp -implicitDefEqProofs (disch := first | decide | assumption | omega) only [go_sem, RdS.len hdX sl22, RdS.idx hdX sl22, R1.intB hdX (Ext.pres eB), RdS.cells hdX, RdS.len hmX sl23, RdS.idx hmX sl23, RdS.cellB hmX (Ext.pres eB), RdS.cells hmX, RdS.len hdY sl22, RdS.idx hdY sl22, R1.intB hdY (Ext.pres eB), RdS.cells hdY, RdS.len hmY sl23, RdS.idx hmY sl23, RdS.cellB hmY (Ext.pres eB), RdS.cells hmY, RdS.len rf sl23, RdS.idx rf sl23, RdS.cellB rf (Ext.pres eB), RdS.cells rf, RdS.len rg sl23, RdS.idx rg sl23, RdS.cellB rg (Ext.pres eB), RdS.cells rg, RdS.len hr11 sl56, RdS.idx hr11 sl56, RdS.cellB hr11 (Ext.pres eB), RdS.cells hr11, RdS.len hr16 sl22, RdS.idx hr16 sl22, R1.intB hr16 (Ext.pres eB), RdS.cells hr16, RdS.len hr17 sl56, RdS.idx hr17 sl56, RdS.cellB hr17 (Ext.pres eB), RdS.cells hr17, RdS.len hr18 sl22, RdS.idx hr18 sl22, R1.intB hr18 (Ext.pres eB), RdS.cells hr18, RdS.len (OS.rd hO) sl23, RdS.idx (OS.rd hO) sl23, RdS.cellN (OS.rd hO), RdS.cells (OS.rd hO), RdS.len (OS.rd hR) sl56, RdS.idx (OS.rd hR) sl56, RdS.cellN (OS.rd hR), RdS.cells (OS.rd hR), RdS.len (OS.rd how14_12_0) sl22, RdS.idx (OS.rd how14_12_0) sl22, R1.intN (OS.rd how14_12_0), RdS.cells (OS.rd how14_12_0), BoxAt.cell hb0_0, RdS.len ho1_4 sl114, RdS.idx ho1_4 sl114, RdS.cellB ho1_4 (Ext.pres xr1), RdS.cells ho1_4, wrap_id]
            refine op_bs1 sz56 rfl (OS.one how14_12_0).2 ?_
            try simp (disch := decide) only [outv_some, outv_none, put_puts]
            refine plK_pres (Ext.pres (Ext.push _ _)) ?_
            try simp -implicitDefEqProofs (disch := first | decide | assumption | omega) only [go_sem, RdS.len hdX sl22, RdS.idx hdX sl22, R1.intB hdX (Ext.pres eB), RdS.cells hdX, RdS.len hmX sl23, RdS.idx hmX sl23, RdS.cellB hmX (Ext.pres eB), RdS.cells hmX, RdS.len hdY sl22, RdS.idx hdY sl22, R1.intB hdY (Ext.pres eB), RdS.cells hdY, RdS.len hmY sl23, RdS.idx hmY sl23, RdS.cellB hmY (Ext.pres eB), RdS.cells hmY, RdS.len rf sl23, RdS.idx rf sl23, RdS.cellB rf (Ext.pres eB), RdS.cells rf, RdS.len rg sl23, RdS.idx rg sl23, RdS.cellB rg (Ext.pres eB), RdS.cells rg, RdS.len hr11 sl56, RdS.idx hr11 sl56, RdS.cellB hr11 (Ext.pres eB), RdS.cells hr11, RdS.len hr16 sl22, RdS.idx hr16 sl22, R1.intB hr16 (Ext.pres eB), RdS.cells hr16, RdS.len hr17 sl56, RdS.idx hr17 sl56, RdS.cellB hr17 (Ext.pres eB), RdS.cells hr17, RdS.len hr18 sl22, RdS.idx hr18 sl22, R1.intB hr18 (Ext.pres eB), RdS.cells hr18, RdS.len (OS.rd hO) sl23, RdS.idx (OS.rd hO) sl23, RdS.cellN (OS.rd hO), RdS.cells (OS.rd hO), RdS.len (OS.rd hR) sl56, RdS.idx (OS.rd hR) sl56, RdS.cellN (OS.rd hR), RdS.cells (OS.rd hR), RdS.len (OS.rd how14_12_0) sl22, RdS.idx (OS.rd how14_12_0) sl22, R1.intN (OS.rd how14_12_0), RdS.cells (OS.rd how14_12_0), BoxAt.cell hb0_0, RdS.len ho1_4 sl114, RdS.idx ho1_4 sl114, RdS.cellB ho1_4 (Ext.pres xr1), RdS.cells ho1_4, wrap_id]
            refine op_append1 sz56 hR hfhR.nodup how14_12_0 hfw14_12_0.nodup (apart_lt hlhR hfw14_12_0 (by omega)) (by first | omega | (simp; omega)) rfl rfl ?_
            intro v14_14 h14_14 fp14_14 ho14_14 hn14_14 hs14_14 c14_14
            have hsz14_14 := c14_14.size
            have hfho14_14 : Fresh h10.size fp14_14 := Fresh.appd hfhR hfw14_12_0 (by omega) (by omega) hn14_14 hs14_14
            have sb19 : Sub [h10.size] h10_0.size fp14_14 := Sub.grow sbhR (Sub.fresh hfw14_12_0 (by omega)) (by omega) hs14_14
            replace hO := OS.chg hO c14_14 (apart_lt hlhO hfhR (by omega))
            replace hb0_0 := BoxAt.chgA hb0_0 c14_14 (apart_lt hlhb0_0 hfhR (by omega))
            have := c14_14.size
            replace eB := Ext.then eB c14_14 (ge_of hfhR (by omega))
            replace xr1 := Ext.then xr1 c14_14 (ge_of hfhR (by omega))
            replace cL8 := Chg.step cL8 c14_14 (Sub.fresh hfhR (by omega))
            replace cL13 := Chg.step cL13 c14_14 sbhR
            have hlho14_14 := OS.lt ho14_14
            try simp (disch := decide) only [outv_some, outv_none, put_puts]
            refine plK_last (by decide) ?_
            try simp -implicitDefEqProofs (disch := first | decide | assumption | omega) only [go_sem, RdS.len hdX sl22, RdS.idx hdX sl22, R1.intB hdX (Ext.pres eB), RdS.cells hdX, RdS.len hmX sl23, RdS.idx hmX sl23, RdS.cellB hmX (Ext.pres eB), RdS.cells hmX, RdS.len hdY sl22, RdS.idx hdY sl22, R1.intB hdY (Ext.pres eB), RdS.cells hdY, RdS.len hmY sl23, RdS.idx hmY sl23, RdS.cellB hmY (Ext.pres eB), RdS.cells hmY, RdS.len rf sl23, RdS.idx rf sl23, RdS.cellB rf (Ext.pres eB), RdS.cells rf, RdS.len rg sl23, RdS.idx rg sl23, RdS.cellB rg (Ext.pres eB), RdS.cells rg, RdS.len hr11 sl56, RdS.idx hr11 sl56, RdS.cellB hr11 (Ext.pres eB), RdS.cells hr11, RdS.len hr16 sl22, RdS.idx hr16 sl22, R1.intB hr16 (Ext.pres eB), RdS.cells hr16, RdS.len hr17 sl56, RdS.idx hr17 sl56, RdS.cellB hr17 (Ext.pres eB), RdS.cells hr17, RdS.len hr18 sl22, RdS.idx hr18 sl22, R1.intB hr18 (Ext.pres eB), RdS.cells hr18, RdS.len (OS.rd hO) sl23, RdS.idx (OS.rd hO) sl23, RdS.cellN (OS.rd hO), RdS.cells (OS.rd hO), RdS.len (OS.rd ho14_14) sl56, RdS.idx (OS.rd ho14_14) sl56, RdS.cellN (OS.rd ho14_14), RdS.cells (OS.rd ho14_14), BoxAt.cell hb0_0, RdS.len ho1_4 sl114, RdS.idx ho1_4 sl114, RdS.cellB ho1_4 (Ext.pres xr1), RdS.cells ho1_4, wrap_id]
            refine hK _ _ ?_
            clear hK K
            refine den_blk ?_
            refine den_region TTok ?_
            intro K hK
            simp -implicitDefEqProofs (disch := first | decide | assumption | omega) only [go_sem, RdS.len hdX sl22, RdS.idx hdX sl22, R1.intB hdX (Ext.pres eB), RdS.cells hdX, RdS.len hmX sl23, RdS.idx hmX sl23, RdS.cellB hmX (Ext.pres eB), RdS.cells hmX, RdS.len hdY sl22, RdS.idx hdY sl22, R1.intB hdY (Ext.pres eB), RdS.cells hdY, RdS.len hmY sl23, RdS.idx hmY sl23, RdS.cellB hmY (Ext.pres eB), RdS.cells hmY, RdS.len rf sl23, RdS.idx rf sl23, RdS.cellB rf (Ext.pres eB), RdS.cells rf, RdS.len rg sl23, RdS.idx rg sl23, RdS.cellB rg (Ext.pres eB), RdS.cells rg, RdS.len hr11 sl56, RdS.idx hr11 sl56, RdS.cellB hr11 (Ext.pres eB), RdS.cells hr11, RdS.len hr16 sl22, RdS.idx hr16 sl22, R1.intB hr16 (Ext.pres eB), RdS.cells hr16, RdS.len hr17 sl56, RdS.idx hr17 sl56, RdS.cellB hr17 (Ext.pres eB), RdS.cells hr17, RdS.len hr18 sl22, RdS.idx hr18 sl22, R1.intB hr18 (Ext.pres eB), RdS.cells hr18, RdS.len (OS.rd hO) sl23, RdS.idx (OS.rd hO) sl23, RdS.cellN (OS.rd hO), RdS.cells (OS.rd hO), RdS.len (OS.rd ho14_14) sl56, RdS.idx (OS.rd ho14_14) sl56, RdS.cellN (OS.rd ho14_14), RdS.cells (OS.rd ho14_14), BoxAt.cell hb0_0, RdS.len ho1_4 sl114, RdS.idx ho1_4 sl114, RdS.cellB ho1_4 (Ext.pres xr1), RdS.cells ho1_4, wrap_id]
            refine hK _ _ ?_
            clear hK K
            refine den_stop ?_
            rw [range_step (fun i : Nat => addRow X.p k ((f.getD n default).getD i default) ((g.getD n default).getD i default))] at ho14_14
            exact ⟨(i + 1, v14_14, fp14_14), by simp [HasL, puts_at], ⟨by first | omega | (dsimp only; omega), ho14_14, hfho14_14, sb19, cL13⟩, by first | omega | (dsimp only; omega)⟩
          · try simp only [decide_eq_true_eq, decide_eq_false_iff_not, beq_iff_eq, beq_eq_false_iff_ne, bne_iff_ne, ne_eq, Bool.not_eq_true', Bool.not_eq_false', Bool.and_eq_true, Bool.or_eq_true, bne_eq_false_iff_eq] at c3
            refine den_exit ?_
            refine denX_code ?_
            refine denX_stop ?_
            refine denX_hit ?_
            refine den_region TTok ?_
            intro K hK
            simp -implicitDefEqProofs (disch := first | decide | assumption | omega) only [go_sem, RdS.len hdX sl22, RdS.idx hdX sl22, R1.intB hdX (Ext.pres eB), RdS.cells hdX, RdS.len hmX sl23, RdS.idx hmX sl23, RdS.cellB hmX (Ext.pres eB), RdS.cells hmX, RdS.len hdY sl22, RdS.idx hdY sl22, R1.intB hdY (Ext.pres eB), RdS.cells hdY, RdS.len hmY sl23, RdS.idx hmY sl23, RdS.cellB hmY (Ext.pres eB), RdS.cells hmY, RdS.len rf sl23, RdS.idx rf sl23, RdS.cellB rf (Ext.pres eB), RdS.cells rf, RdS.len rg sl23, RdS.idx rg sl23, RdS.cellB rg (Ext.pres eB), RdS.cells rg, RdS.len hr11 sl56, RdS.idx hr11 sl56, RdS.cellB hr11 (Ext.pres eB), RdS.cells hr11, RdS.len (OS.rd hO) sl23, RdS.idx (OS.rd hO) sl23, RdS.cellN (OS.rd hO), RdS.cells (OS.rd hO), RdS.len (OS.rd hR) sl56, RdS.idx (OS.rd hR) sl56, RdS.cellN (OS.rd hR), RdS.cells (OS.rd hR), BoxAt.cell hb0_0, RdS.len ho1_4 sl114, RdS.idx ho1_4 sl114, RdS.cellB ho1_4 (Ext.pres xr1), RdS.cells ho1_4, wrap_id]
            refine op_bs1 sz23 rfl (OS.one hR).2 ?_
            try simp -implicitDefEqProofs (disch := first | decide | assumption | omega) only [go_sem, RdS.len hdX sl22, RdS.idx hdX sl22, R1.intB hdX (Ext.pres eB), RdS.cells hdX, RdS.len hmX sl23, RdS.idx hmX sl23, RdS.cellB hmX (Ext.pres eB), RdS.cells hmX, RdS.len hdY sl22, RdS.idx hdY sl22, R1.intB hdY (Ext.pres eB), RdS.cells hdY, RdS.len hmY sl23, RdS.idx hmY sl23, RdS.cellB hmY (Ext.pres eB), RdS.cells hmY, RdS.len rf sl23, RdS.idx rf sl23, RdS.cellB rf (Ext.pres eB), RdS.cells rf, RdS.len rg sl23, RdS.idx rg sl23, RdS.cellB rg (Ext.pres eB), RdS.cells rg, RdS.len hr11 sl56, RdS.idx hr11 sl56, RdS.cellB hr11 (Ext.pres eB), RdS.cells hr11, RdS.len (OS.rd hO) sl23, RdS.idx (OS.rd hO) sl23, RdS.cellN (OS.rd hO), RdS.cells (OS.rd hO), RdS.len (OS.rd hR) sl56, RdS.idx (OS.rd hR) sl56, RdS.cellN (OS.rd hR), RdS.cells (OS.rd hR), BoxAt.cell hb0_0, RdS.len ho1_4 sl114, RdS.idx ho1_4 sl114, RdS.cellB ho1_4 (Ext.pres xr1), RdS.cells ho1_4, wrap_id]
            refine op_append1 sz23 hO hfhO.nodup hR hfhR.nodup (apart_lt hlhO hfhR (by omega)) (by first | omega | (simp; omega)) rfl rfl ?_
            intro v16_3 h16_3 fp16_3 ho16_3 hn16_3 hs16_3 c16_3
            have hsz16_3 := c16_3.size
            have hfho16_3 : Fresh h1_5.size fp16_3 := Fresh.appd hfhO hfhR (by omega) (by omega) hn16_3 hs16_3
            have sb20 : Sub [h1_5.size] h6_0.size fp16_3 := Sub.grow sbhO (Sub.fresh hfhR (by omega)) (by omega) hs16_3
            replace hb0_0 := BoxAt.chgA hb0_0 c16_3 (apart_lt hlhb0_0 hfhO (by omega))
            have := c16_3.size
            replace eB := Ext.then eB c16_3 (ge_of hfhO (by omega))
            replace xr1 := Ext.then xr1 c16_3 (ge_of hfhO (by omega))
            replace cL8 := Chg.step cL8 c16_3 sbhO
            have hlho16_3 := OS.lt ho16_3
            try simp -implicitDefEqProofs (disch := first | decide | assumption | omega) only [go_sem, RdS.len hdX sl22, RdS.idx hdX sl22, R1.intB hdX (Ext.pres eB), RdS.cells hdX, RdS.len hmX sl23, RdS.idx hmX sl23, RdS.cellB hmX (Ext.pres eB), RdS.cells hmX, RdS.len hdY sl22, RdS.idx hdY sl22, R1.intB hdY (Ext.pres eB), RdS.cells hdY, RdS.len hmY sl23, RdS.idx hmY sl23, RdS.cellB hmY (Ext.pres eB), RdS.cells hmY, RdS.len rf sl23, RdS.idx rf sl23, RdS.cellB rf (Ext.pres eB), RdS.cells rf, RdS.len rg sl23, RdS.idx rg sl23, RdS.cellB rg (Ext.pres eB), RdS.cells rg, RdS.len hr11 sl56, RdS.idx hr11 sl56, RdS.cellB hr11 (Ext.pres eB), RdS.cells hr11, RdS.len (OS.rd ho16_3) sl23, RdS.idx (OS.rd ho16_3) sl23, RdS.cellN (OS.rd ho16_3), RdS.cells (OS.rd ho16_3), BoxAt.cell hb0_0, RdS.len ho1_4 sl114, RdS.idx ho1_4 sl114, RdS.cellB ho1_4 (Ext.pres xr1), RdS.cells ho1_4, wrap_id]
            refine hK _ _ ?_
            clear hK K
            refine den_blk ?_
            refine den_region TTok ?_
            intro K hK
            simp -implicitDefEqProofs (disch := first | decide | assumption | omega) only [go_sem, RdS.len hdX sl22, RdS.idx hdX sl22, R1.intB hdX (Ext.pres eB), RdS.cells hdX, RdS.len hmX sl23, RdS.idx hmX sl23, RdS.cellB hmX (Ext.pres eB), RdS.cells hmX, RdS.len hdY sl22, RdS.idx hdY sl22, R1.intB hdY (Ext.pres eB), RdS.cells hdY, RdS.len hmY sl23, RdS.idx hmY sl23, RdS.cellB hmY (Ext.pres eB), RdS.cells hmY, RdS.len rf sl23, RdS.idx rf sl23, RdS.cellB rf (Ext.pres eB), RdS.cells rf, RdS.len rg sl23, RdS.idx rg sl23, RdS.cellB rg (Ext.pres eB), RdS.cells rg, RdS.len hr11 sl56, RdS.idx hr11 sl56, RdS.cellB hr11 (Ext.pres eB), RdS.cells hr11, RdS.len (OS.rd ho16_3) sl23, RdS.idx (OS.rd ho16_3) sl23, RdS.cellN (OS.rd ho16_3), RdS.cells (OS.rd ho16_3), BoxAt.cell hb0_0, RdS.len ho1_4 sl114, RdS.idx ho1_4 sl114, RdS.cellB ho1_4 (Ext.pres xr1), RdS.cells ho1_4, wrap_id]
            refine hK _ _ ?_
            clear hK K
            refine den_stop ?_
            rw [show ((List.range i).map fun i : Nat => addRow X.p k ((f.getD n default).getD i default) ((g.getD n default).getD i default)) = addRows X.p k (f.getD n default) (g.getD n default) by rw [addRows, show (f.getD n default).length = i by omega], range_step (fun n : Nat => addRows X.p k (f.getD n default) (g.getD n default))] at ho16_3
            exact ⟨(n + 1, v16_3, fp16_3), by simp [HasL, puts_at], ⟨by first | omega | (dsimp only; omega), ho16_3, hfho16_3, sb20, cL8⟩, by first | omega | (dsimp only; omega)⟩
      · try simp only [decide_eq_true_eq, decide_eq_false_iff_not, beq_iff_eq, beq_eq_false_iff_ne, bne_iff_ne, ne_eq, Bool.not_eq_true', Bool.not_eq_false', Bool.and_eq_true, Bool.or_eq_true, bne_eq_false_iff_eq] at c2
        refine den_exit ?_
        refine denX_code ?_
        refine denX_stop ?_
        refine denX_hit ?_
        refine den_seq ?_
        refine den_region TTok ?_
        intro K hK
        simp -implicitDefEqProofs (disch := first | decide | assumption | omega) only [go_sem, RdS.len hdX sl22, RdS.idx hdX sl22, R1.intB hdX (Ext.pres eB), RdS.cells hdX, RdS.len hmX sl23, RdS.idx hmX sl23, RdS.cellB hmX (Ext.pres eB), RdS.cells hmX, RdS.len hdY sl22, RdS.idx hdY sl22, R1.intB hdY (Ext.pres eB), RdS.cells hdY, RdS.len hmY sl23, RdS.idx hmY sl23, RdS.cellB hmY (Ext.pres eB), RdS.cells hmY, RdS.len rf sl23, RdS.idx rf sl23, RdS.cellB rf (Ext.pres eB), RdS.cells rf, RdS.len rg sl23, RdS.idx rg sl23, RdS.cellB rg (Ext.pres eB), RdS.cells rg, RdS.len (OS.rd hO) sl23, RdS.idx (OS.rd hO) sl23, RdS.cellN (OS.rd hO), RdS.cells (OS.rd hO), RdS.len ho1_4 sl114, RdS.idx ho1_4 sl114, RdS.cellB ho1_4 (Ext.pres xr1), RdS.cells ho1_4, wrap_id]
        refine hK _ _ ?_
        clear hK K
        refine den_ret ?_
        simp (disch := decide) only [resP_2, puts_same, puts_ne]
        have hz : adP X Y f g k = (addFam X.p k f g, 0) := by rw [adP, if_pos (show adC X Y f g k = 0 from c1)]
        rw [hz]
        rw [show n = f.length by omega] at hO
        exact ⟨_, _, rfl, hO, hfhO.mono (by omega), eB⟩

set_option maxRecDepth 100000 in
set_option maxHeartbeats 4000000 in
theorem exactAddFamilies_law (vX vY vf vg : Value) (X : Cx) (Y : Cx) (f : List (List (List Int))) (g : List (List (List Int))) (k : Int) (h : Heap) (rX : RC h vX X) (rY : RC h vY Y) (rf : R3 h vf f) (rg : R3 h vg g)  : CallA Try.prog 8 #[vX, vY, vf, vg, .int .i64 k] h fun v' h' => v' = .bool (true) ∧ Ext h h' := by
  obtain ⟨vdX, vmX, rfl, hdX, hmX⟩ := rX
  have hledX := RdS.le hdX
  have hlemX := RdS.le hmX
  obtain ⟨vdY, vmY, rfl, hdY, hmY⟩ := rY
  have hledY := RdS.le hdY
  have hlemY := RdS.le hmY
  have hlef := RdS.le rf
  have hleg := RdS.le rg
  refine callA_intro TTok (args := [_, _, _, _, _]) Try.func8 (by kernel_rfl) rfl 170 rfl (by simp) [.tmp 10] rfl ?_
  simp only [idxs, Nat.reduceAdd]
  refine den_seq ?_
  refine den_region TTok ?_
  intro K hK
  simp -implicitDefEqProofs (disch := first | decide | assumption | omega) only [go_sem, wrap_id]
  refine op_box (cs := #[.int .i64 (X.p), vdX, vmX]) rfl ?_
  intro h0_0 e0_0 hb0_0 z0_0
  have := Ext.size e0_0
  have eB := e0_0
  have hfhb0_0 : Fresh h.size [h.size] := Fresh.one _
  have hlhb0_0 := one_lt (show h.size < h0_0.size by omega)
  try simp -implicitDefEqProofs (disch := first | decide | assumption | omega) only [go_sem, BoxAt.cell hb0_0, wrap_id]
  refine op_box (cs := #[.int .i64 (Y.p), vdY, vmY]) rfl ?_
  intro h0_1 e0_1 hb0_1 z0_1
  replace hb0_0 := BoxAt.ext hb0_0 e0_1
  have := Ext.size e0_1
  replace eB := Ext.trans eB e0_1
  have hfhb0_1 : Fresh h0_0.size [h0_0.size] := Fresh.one _
  have hlhb0_1 := one_lt (show h0_0.size < h0_1.size by omega)
  try simp -implicitDefEqProofs (disch := first | decide | assumption | omega) only [go_sem, BoxAt.cell hb0_0, BoxAt.cell hb0_1, wrap_id]
  refine hK _ _ ?_
  clear hK K
  refine den_seq ?_
  refine den_region TTok ?_
  intro K hK
  simp -implicitDefEqProofs (disch := first | decide | assumption | omega) only [go_sem, BoxAt.cell hb0_0, BoxAt.cell hb0_1, wrap_id]
  refine hK _ _ ?_
  clear hK K
  refine den_seq ?_
  refine den_region TTok ?_
  intro K hK
  simp -implicitDefEqProofs (disch := first | decide | assumption | omega) only [go_sem, ld25, BoxAt.cell hb0_0, BoxAt.cell hb0_1, wrap_id]
  try simp -implicitDefEqProofs (disch := first | decide | assumption | omega) only [go_sem, BoxAt.cell hb0_0, BoxAt.cell hb0_1, wrap_id]
  refine CallA.mono (szC_ok _ X _ _ ⟨_, _, rfl, (RdS.pres hdX (Ext.pres eB)), (RdS.pres hmX (Ext.pres eB))⟩ (by omega) (by omega)) ?_
  intro v_ h2_2
  rintro ⟨rfl, e2_2⟩
  replace hb0_0 := BoxAt.ext hb0_0 e2_2
  replace hb0_1 := BoxAt.ext hb0_1 e2_2
  have := Ext.size e2_2
  replace eB := Ext.trans eB e2_2
  have := szC_le X (1048576 : Int) (by omega)
  try simp -implicitDefEqProofs (disch := first | decide | assumption | omega) only [go_sem, BoxAt.cell hb0_0, BoxAt.cell hb0_1, wrap_id]
  refine hK _ _ ?_
  clear hK K
  refine den_seq ?_
  refine den_seq ?_
  refine den_region TTok ?_
  intro K hK
  simp -implicitDefEqProofs (disch := first | decide | assumption | omega) only [go_sem, BoxAt.cell hb0_0, BoxAt.cell hb0_1, wrap_id]
  refine hK _ _ ?_
  clear hK K
  refine den_cond rfl (fun c0 => ?_) (fun c0 => ?_)
  · try simp only [decide_eq_true_eq, decide_eq_false_iff_not, beq_iff_eq, beq_eq_false_iff_ne, bne_iff_ne, ne_eq, Bool.not_eq_true', Bool.not_eq_false', Bool.and_eq_true, Bool.or_eq_true, bne_eq_false_iff_eq] at c0
    refine den_seq ?_
    refine den_region TTok ?_
    intro K hK
    simp -implicitDefEqProofs (disch := first | decide | assumption | omega) only [go_sem, wrap_id]
    refine hK _ _ ?_
    clear hK K
    refine den_ret ?_
    simp (disch := decide) only [resP_1, puts_same, puts_ne]
    exact ⟨by first | rfl | trivial, eB⟩
  · try simp only [decide_eq_true_eq, decide_eq_false_iff_not, beq_iff_eq, beq_eq_false_iff_ne, bne_iff_ne, ne_eq, Bool.not_eq_true', Bool.not_eq_false', Bool.and_eq_true, Bool.or_eq_true, bne_eq_false_iff_eq] at c0
    have hMX := szC_ok' (by omega) (by omega) c0
    have hcnX := szC_cntA (by omega) (by omega) c0
    refine den_skip ?_
    refine den_seq ?_
    refine den_region TTok ?_
    intro K hK
    simp -implicitDefEqProofs (disch := first | decide | assumption | omega) only [go_sem, ld25, BoxAt.cell hb0_0, BoxAt.cell hb0_1, wrap_id]
    try simp -implicitDefEqProofs (disch := first | decide | assumption | omega) only [go_sem, BoxAt.cell hb0_0, BoxAt.cell hb0_1, wrap_id]
    refine CallA.mono (szC_ok _ Y _ _ ⟨_, _, rfl, (RdS.pres hdY (Ext.pres eB)), (RdS.pres hmY (Ext.pres eB))⟩ (by omega) (by omega)) ?_
    intro v_ h5_2
    rintro ⟨rfl, e5_2⟩
    replace hb0_0 := BoxAt.ext hb0_0 e5_2
    replace hb0_1 := BoxAt.ext hb0_1 e5_2
    have := Ext.size e5_2
    replace eB := Ext.trans eB e5_2
    have := szC_le Y (szC X (1048576 : Int)) (by omega)
    try simp -implicitDefEqProofs (disch := first | decide | assumption | omega) only [go_sem, BoxAt.cell hb0_0, BoxAt.cell hb0_1, wrap_id]
    refine hK _ _ ?_
    clear hK K
    refine den_seq ?_
    refine den_seq ?_
    refine den_region TTok ?_
    intro K hK
    simp -implicitDefEqProofs (disch := first | decide | assumption | omega) only [go_sem, BoxAt.cell hb0_0, BoxAt.cell hb0_1, wrap_id]
    refine hK _ _ ?_
    clear hK K
    refine den_cond rfl (fun c1 => ?_) (fun c1 => ?_)
    · try simp only [decide_eq_true_eq, decide_eq_false_iff_not, beq_iff_eq, beq_eq_false_iff_ne, bne_iff_ne, ne_eq, Bool.not_eq_true', Bool.not_eq_false', Bool.and_eq_true, Bool.or_eq_true, bne_eq_false_iff_eq] at c1
      refine den_seq ?_
      refine den_region TTok ?_
      intro K hK
      simp -implicitDefEqProofs (disch := first | decide | assumption | omega) only [go_sem, wrap_id]
      refine hK _ _ ?_
      clear hK K
      refine den_ret ?_
      simp (disch := decide) only [resP_1, puts_same, puts_ne]
      exact ⟨by first | rfl | trivial, eB⟩
    · try simp only [decide_eq_true_eq, decide_eq_false_iff_not, beq_iff_eq, beq_eq_false_iff_ne, bne_iff_ne, ne_eq, Bool.not_eq_true', Bool.not_eq_false', Bool.and_eq_true, Bool.or_eq_true, bne_eq_false_iff_eq] at c1
      have hMY := szC_ok' (by omega) (by omega) c1
      have hcnY := szC_cntA (by omega) (by omega) c1
      refine den_skip ?_
      refine den_seq ?_
      refine den_region TTok ?_
      intro K hK
      simp -implicitDefEqProofs (disch := first | decide | assumption | omega) only [go_sem, BoxAt.cell hb0_0, BoxAt.cell hb0_1, wrap_id]
      try simp -implicitDefEqProofs (disch := first | decide | assumption | omega) only [go_sem, BoxAt.cell hb0_0, BoxAt.cell hb0_1, wrap_id]
      refine CallA.pure (szSSS_ok _ f _ _ (RdS.pres rf (Ext.pres eB)) (by omega) (by omega)) ?_
      have := sz3_le f (szC Y (szC X (1048576 : Int))) (by omega)
      try simp -implicitDefEqProofs (disch := first | decide | assumption | omega) only [go_sem, BoxAt.cell hb0_0, BoxAt.cell hb0_1, wrap_id]
      refine hK _ _ ?_
      clear hK K
      refine den_seq ?_
      refine den_seq ?_
      refine den_region TTok ?_
      intro K hK
      simp -implicitDefEqProofs (disch := first | decide | assumption | omega) only [go_sem, BoxAt.cell hb0_0, BoxAt.cell hb0_1, wrap_id]
      refine hK _ _ ?_
      clear hK K
      refine den_cond rfl (fun c2 => ?_) (fun c2 => ?_)
      · try simp only [decide_eq_true_eq, decide_eq_false_iff_not, beq_iff_eq, beq_eq_false_iff_ne, bne_iff_ne, ne_eq, Bool.not_eq_true', Bool.not_eq_false', Bool.and_eq_true, Bool.or_eq_true, bne_eq_false_iff_eq] at c2
        refine den_seq ?_
        refine den_region TTok ?_
        intro K hK
        simp -implicitDefEqProofs (disch := first | decide | assumption | omega) only [go_sem, wrap_id]
        refine hK _ _ ?_
        clear hK K
        refine den_ret ?_
        simp (disch := decide) only [resP_1, puts_same, puts_ne]
        exact ⟨by first | rfl | trivial, eB⟩
      · try simp only [decide_eq_true_eq, decide_eq_false_iff_not, beq_iff_eq, beq_eq_false_iff_ne, bne_iff_ne, ne_eq, Bool.not_eq_true', Bool.not_eq_false', Bool.and_eq_true, Bool.or_eq_true, bne_eq_false_iff_eq] at c2
        have hMf := sz3_ok (by omega) (by omega) c2
        have hcnf := sz3_cntA (by omega) (by omega) c2
        refine den_skip ?_
        refine den_seq ?_
        refine den_region TTok ?_
        intro K hK
        simp -implicitDefEqProofs (disch := first | decide | assumption | omega) only [go_sem, BoxAt.cell hb0_0, BoxAt.cell hb0_1, wrap_id]
        try simp -implicitDefEqProofs (disch := first | decide | assumption | omega) only [go_sem, BoxAt.cell hb0_0, BoxAt.cell hb0_1, wrap_id]
        refine CallA.pure (szSSS_ok _ g _ _ (RdS.pres rg (Ext.pres eB)) (by omega) (by omega)) ?_
        have := sz3_le g (sz3 f (szC Y (szC X (1048576 : Int)))) (by omega)
        try simp -implicitDefEqProofs (disch := first | decide | assumption | omega) only [go_sem, BoxAt.cell hb0_0, BoxAt.cell hb0_1, wrap_id]
        refine hK _ _ ?_
        clear hK K
        refine den_seq ?_
        refine den_seq ?_
        refine den_region TTok ?_
        intro K hK
        simp -implicitDefEqProofs (disch := first | decide | assumption | omega) only [go_sem, BoxAt.cell hb0_0, BoxAt.cell hb0_1, wrap_id]
        refine hK _ _ ?_
        clear hK K
        refine den_cond rfl (fun c3 => ?_) (fun c3 => ?_)
        · try simp only [decide_eq_true_eq, decide_eq_false_iff_not, beq_iff_eq, beq_eq_false_iff_ne, bne_iff_ne, ne_eq, Bool.not_eq_true', Bool.not_eq_false', Bool.and_eq_true, Bool.or_eq_true, bne_eq_false_iff_eq] at c3
          refine den_seq ?_
          refine den_region TTok ?_
          intro K hK
          simp -implicitDefEqProofs (disch := first | decide | assumption | omega) only [go_sem, wrap_id]
          refine hK _ _ ?_
          clear hK K
          refine den_ret ?_
          simp (disch := decide) only [resP_1, puts_same, puts_ne]
          exact ⟨by first | rfl | trivial, eB⟩
        · try simp only [decide_eq_true_eq, decide_eq_false_iff_not, beq_iff_eq, beq_eq_false_iff_ne, bne_iff_ne, ne_eq, Bool.not_eq_true', Bool.not_eq_false', Bool.and_eq_true, Bool.or_eq_true, bne_eq_false_iff_eq] at c3
          have hMg := sz3_ok (by omega) (by omega) c3
          have hcng := sz3_cntA (by omega) (by omega) c3
          have hci := cnt_ad X Y f g k
          refine den_skip ?_
          refine den_seq ?_
          refine den_draw TTok mixed [] [(0, true), (2, true), (4, true), (6, true), (8, true), (1, false), (3, false), (5, false), (7, false), (9, false), (10, true), (11, true), (12, true), (13, true), (14, true)] (by kernel_rfl) ?_
          intro K hK
          simp -implicitDefEqProofs (disch := first | decide | assumption | omega) only [go_sem, ld25, BoxAt.cell hb0_0, BoxAt.cell hb0_1, wrap_id]
          try simp -implicitDefEqProofs (disch := first | decide | assumption | omega) only [go_sem, BoxAt.cell hb0_0, BoxAt.cell hb0_1, wrap_id]
          refine CallA.mono (toC_ok _ X _ ⟨_, _, rfl, (RdS.pres hdX (Ext.pres eB)), (RdS.pres hmX (Ext.pres eB))⟩ hMX) ?_
          intro v_ h14_1
          rintro ⟨vd14_1, vm14_1, fd14_1, fm14_1, rfl, hod14_1, hom14_1, hf14_1, e14_1⟩
          replace hb0_0 := BoxAt.ext hb0_0 e14_1
          replace hb0_1 := BoxAt.ext hb0_1 e14_1
          have := Ext.size e14_1
          replace eB := Ext.trans eB e14_1
          have hfd14_1 := hf14_1.left
          have hfm14_1 := hf14_1.right
          have hlhod14_1 := OS.lt hod14_1
          have hlhom14_1 := OS.lt hom14_1
          have ap1 : Apart fd14_1 fm14_1 := apart_nodup hf14_1
          try simp (disch := decide) only [outv_some, outv_none, put_puts]
          refine plK_pres (Ext.pres e14_1) ?_
          try simp -implicitDefEqProofs (disch := first | decide | assumption | omega) only [go_sem, BoxAt.cell hb0_0, BoxAt.cell hb0_1, wrap_id]
          try simp -implicitDefEqProofs (disch := first | decide | assumption | omega) only [go_sem, BoxAt.cell hb0_0, BoxAt.cell hb0_1, wrap_id]
          refine CallA.mono (toC_ok _ Y _ ⟨_, _, rfl, (RdS.pres hdY (Ext.pres eB)), (RdS.pres hmY (Ext.pres eB))⟩ hMY) ?_
          intro v_ h14_3
          rintro ⟨vd14_3, vm14_3, fd14_3, fm14_3, rfl, hod14_3, hom14_3, hf14_3, e14_3⟩
          replace hod14_1 := OS.ext hod14_1 e14_3
          replace hom14_1 := OS.ext hom14_1 e14_3
          replace hb0_0 := BoxAt.ext hb0_0 e14_3
          replace hb0_1 := BoxAt.ext hb0_1 e14_3
          have := Ext.size e14_3
          replace eB := Ext.trans eB e14_3
          have hfd14_3 := hf14_3.left
          have hfm14_3 := hf14_3.right
          have hlhod14_3 := OS.lt hod14_3
          have hlhom14_3 := OS.lt hom14_3
          have ap2 : Apart fd14_3 fm14_3 := apart_nodup hf14_3
          try simp (disch := decide) only [outv_some, outv_none, put_puts]
          refine plK_pres (Ext.pres e14_3) ?_
          try simp -implicitDefEqProofs (disch := first | decide | assumption | omega) only [go_sem, BoxAt.cell hb0_0, BoxAt.cell hb0_1, wrap_id]
          try simp -implicitDefEqProofs (disch := first | decide | assumption | omega) only [go_sem, BoxAt.cell hb0_0, BoxAt.cell hb0_1, wrap_id]
          refine CallA.mono (toSSS_ok _ f _ (RdS.pres rf (Ext.pres eB)) hMf) ?_
          intro v14_5 h14_5
          rintro ⟨f14_5, ho14_5, hf14_5, e14_5⟩
          replace hod14_1 := OS.ext hod14_1 e14_5
          replace hom14_1 := OS.ext hom14_1 e14_5
          replace hod14_3 := OS.ext hod14_3 e14_5
          replace hom14_3 := OS.ext hom14_3 e14_5
          replace hb0_0 := BoxAt.ext hb0_0 e14_5
          replace hb0_1 := BoxAt.ext hb0_1 e14_5
          have := Ext.size e14_5
          replace eB := Ext.trans eB e14_5
          have hlho14_5 := OS.lt ho14_5
          try simp (disch := decide) only [outv_some, outv_none, put_puts]
          refine plK_pres (Ext.pres e14_5) ?_
          try simp -implicitDefEqProofs (disch := first | decide | assumption | omega) only [go_sem, BoxAt.cell hb0_0, BoxAt.cell hb0_1, wrap_id]
          try simp -implicitDefEqProofs (disch := first | decide | assumption | omega) only [go_sem, BoxAt.cell hb0_0, BoxAt.cell hb0_1, wrap_id]
          refine CallA.mono (toSSS_ok _ g _ (RdS.pres rg (Ext.pres eB)) hMg) ?_
          intro v14_7 h14_7
          rintro ⟨f14_7, ho14_7, hf14_7, e14_7⟩
          replace hod14_1 := OS.ext hod14_1 e14_7
          replace hom14_1 := OS.ext hom14_1 e14_7
          replace hod14_3 := OS.ext hod14_3 e14_7
          replace hom14_3 := OS.ext hom14_3 e14_7
          replace ho14_5 := OS.ext ho14_5 e14_7
          replace hb0_0 := BoxAt.ext hb0_0 e14_7
          replace hb0_1 := BoxAt.ext hb0_1 e14_7
          have := Ext.size e14_7
          replace eB := Ext.trans eB e14_7
          have hlho14_7 := OS.lt ho14_7
          try simp (disch := decide) only [outv_some, outv_none, put_puts]
          refine plK_pres (Ext.pres e14_7) ?_
          try simp -implicitDefEqProofs (disch := first | decide | assumption | omega) only [go_sem, BoxAt.cell hb0_0, BoxAt.cell hb0_1, wrap_id]
          try simp -implicitDefEqProofs (disch := first | decide | assumption | omega) only [go_sem, BoxAt.cell hb0_0, BoxAt.cell hb0_1, wrap_id]
          refine CallA.mono (sAd_ok _ _ _ _ X Y f g k _ ⟨_, _, rfl, (OS.rd hod14_1), (OS.rd hom14_1)⟩ ⟨_, _, rfl, (OS.rd hod14_3), (OS.rd hom14_3)⟩ (OS.rd ho14_5) (OS.rd ho14_7) ) ?_
          intro v_ h14_9
          rintro ⟨vw14_9_0, fw14_9_0, rfl, how14_9_0, hfw14_9_0, e14_9⟩
          replace hod14_1 := OS.ext hod14_1 e14_9
          replace hom14_1 := OS.ext hom14_1 e14_9
          replace hod14_3 := OS.ext hod14_3 e14_9
          replace hom14_3 := OS.ext hom14_3 e14_9
          replace ho14_5 := OS.ext ho14_5 e14_9
          replace ho14_7 := OS.ext ho14_7 e14_9
          replace hb0_0 := BoxAt.ext hb0_0 e14_9
          replace hb0_1 := BoxAt.ext hb0_1 e14_9
          have := Ext.size e14_9
          replace eB := Ext.trans eB e14_9
          have hlhow14_9_0 := OS.lt how14_9_0
          try simp (disch := decide) only [outv_some, outv_none, put_puts]
          refine plK_pres (Ext.pres e14_9) ?_
          try simp -implicitDefEqProofs (disch := first | decide | assumption | omega) only [go_sem, BoxAt.cell hb0_0, BoxAt.cell hb0_1, wrap_id]
          refine hK _ _ ?_
          clear hK K
          refine den_seq ?_
          refine den_region TTok ?_
          intro K hK
          simp -implicitDefEqProofs (disch := first | decide | assumption | omega) only [go_sem, ld25, BoxAt.cell hb0_0, BoxAt.cell hb0_1, wrap_id]
          try simp -implicitDefEqProofs (disch := first | decide | assumption | omega) only [go_sem, BoxAt.cell hb0_0, BoxAt.cell hb0_1, wrap_id]
          refine CallA.mono (toC_ok _ X _ ⟨_, _, rfl, (RdS.pres hdX (Ext.pres eB)), (RdS.pres hmX (Ext.pres eB))⟩ hMX) ?_
          intro v_ h15_1
          rintro ⟨vd15_1, vm15_1, fd15_1, fm15_1, rfl, hod15_1, hom15_1, hf15_1, e15_1⟩
          replace how14_9_0 := OS.ext how14_9_0 e15_1
          replace hb0_0 := BoxAt.ext hb0_0 e15_1
          replace hb0_1 := BoxAt.ext hb0_1 e15_1
          have := Ext.size e15_1
          replace eB := Ext.trans eB e15_1
          have hfd15_1 := hf15_1.left
          have hfm15_1 := hf15_1.right
          have hlhod15_1 := OS.lt hod15_1
          have hlhom15_1 := OS.lt hom15_1
          have ap3 : Apart fd15_1 fm15_1 := apart_nodup hf15_1
          try simp -implicitDefEqProofs (disch := first | decide | assumption | omega) only [go_sem, BoxAt.cell hb0_0, BoxAt.cell hb0_1, wrap_id]
          refine op_alloc (cs := #[.int .i64 0, .slice none 0 0, .slice none 0 0]) (by kernel_rfl) ?_
          intro h15_2 e15_2 hb15_2 z15_2
          replace how14_9_0 := OS.ext how14_9_0 e15_2
          replace hod15_1 := OS.ext hod15_1 e15_2
          replace hom15_1 := OS.ext hom15_1 e15_2
          replace hb0_0 := BoxAt.ext hb0_0 e15_2
          replace hb0_1 := BoxAt.ext hb0_1 e15_2
          have := Ext.size e15_2
          replace eB := Ext.trans eB e15_2
          have hfhb15_2 : Fresh h15_1.size [h15_1.size] := Fresh.one _
          have hlhb15_2 := one_lt (show h15_1.size < h15_2.size by omega)
          try simp -implicitDefEqProofs (disch := first | decide | assumption | omega) only [go_sem, BoxAt.cell hb0_0, BoxAt.cell hb0_1, BoxAt.cell hb15_2, wrap_id]
          refine op_storeB (cs' := #[.int .i64 (X.p), vd15_1, vm15_1]) st30 hb15_2 rfl rfl rfl (by simp) (allOne_mem (l := [.int .i64 (X.p), vd15_1, vm15_1]) ⟨rfl, (OS.one hod15_1).1, (OS.one hom15_1).1, trivial⟩) rfl ?_
          intro h15_3 hb15_2 c15_3
          replace how14_9_0 := OS.chg how14_9_0 c15_3 (apart_lt hlhow14_9_0 hfhb15_2 (by omega))
          replace hod15_1 := OS.chg hod15_1 c15_3 (apart_lt hlhod15_1 hfhb15_2 (by omega))
          replace hom15_1 := OS.chg hom15_1 c15_3 (apart_lt hlhom15_1 hfhb15_2 (by omega))
          replace hb0_0 := BoxAt.chgA hb0_0 c15_3 (apart_lt hlhb0_0 hfhb15_2 (by omega))
          replace hb0_1 := BoxAt.chgA hb0_1 c15_3 (apart_lt hlhb0_1 hfhb15_2 (by omega))
          have := c15_3.size
          replace eB := Ext.then eB c15_3 (ge_of hfhb15_2 (by omega))
          try simp -implicitDefEqProofs (disch := first | decide | assumption | omega) only [go_sem, BoxAt.cell hb0_0, BoxAt.cell hb0_1, BoxAt.cell hb15_2, wrap_id]
          refine hK _ _ ?_
          clear hK K
          refine den_seq ?_
          refine den_region TTok ?_
          intro K hK
          simp -implicitDefEqProofs (disch := first | decide | assumption | omega) only [go_sem, ld25, BoxAt.cell hb0_0, BoxAt.cell hb0_1, BoxAt.cell hb15_2, wrap_id]
          try simp -implicitDefEqProofs (disch := first | decide | assumption | omega) only [go_sem, BoxAt.cell hb0_0, BoxAt.cell hb0_1, BoxAt.cell hb15_2, wrap_id]
          refine CallA.mono (toC_ok _ Y _ ⟨_, _, rfl, (RdS.pres hdY (Ext.pres eB)), (RdS.pres hmY (Ext.pres eB))⟩ hMY) ?_
          intro v_ h16_1
          rintro ⟨vd16_1, vm16_1, fd16_1, fm16_1, rfl, hod16_1, hom16_1, hf16_1, e16_1⟩
          replace how14_9_0 := OS.ext how14_9_0 e16_1
          replace hod15_1 := OS.ext hod15_1 e16_1
          replace hom15_1 := OS.ext hom15_1 e16_1
          replace hb0_0 := BoxAt.ext hb0_0 e16_1
          replace hb0_1 := BoxAt.ext hb0_1 e16_1
          replace hb15_2 := BoxAt.ext hb15_2 e16_1
          have := Ext.size e16_1
          replace eB := Ext.trans eB e16_1
          have hfd16_1 := hf16_1.left
          have hfm16_1 := hf16_1.right
          have hlhod16_1 := OS.lt hod16_1
          have hlhom16_1 := OS.lt hom16_1
          have ap4 : Apart fd16_1 fm16_1 := apart_nodup hf16_1
          try simp -implicitDefEqProofs (disch := first | decide | assumption | omega) only [go_sem, BoxAt.cell hb0_0, BoxAt.cell hb0_1, BoxAt.cell hb15_2, wrap_id]
          refine op_alloc (cs := #[.int .i64 0, .slice none 0 0, .slice none 0 0]) (by kernel_rfl) ?_
          intro h16_2 e16_2 hb16_2 z16_2
          replace how14_9_0 := OS.ext how14_9_0 e16_2
          replace hod15_1 := OS.ext hod15_1 e16_2
          replace hom15_1 := OS.ext hom15_1 e16_2
          replace hod16_1 := OS.ext hod16_1 e16_2
          replace hom16_1 := OS.ext hom16_1 e16_2
          replace hb0_0 := BoxAt.ext hb0_0 e16_2
          replace hb0_1 := BoxAt.ext hb0_1 e16_2
          replace hb15_2 := BoxAt.ext hb15_2 e16_2
          have := Ext.size e16_2
          replace eB := Ext.trans eB e16_2
          have hfhb16_2 : Fresh h16_1.size [h16_1.size] := Fresh.one _
          have hlhb16_2 := one_lt (show h16_1.size < h16_2.size by omega)
          try simp -implicitDefEqProofs (disch := first | decide | assumption | omega) only [go_sem, BoxAt.cell hb0_0, BoxAt.cell hb0_1, BoxAt.cell hb15_2, BoxAt.cell hb16_2, wrap_id]
          refine op_storeB (cs' := #[.int .i64 (Y.p), vd16_1, vm16_1]) st30 hb16_2 rfl rfl rfl (by simp) (allOne_mem (l := [.int .i64 (Y.p), vd16_1, vm16_1]) ⟨rfl, (OS.one hod16_1).1, (OS.one hom16_1).1, trivial⟩) rfl ?_
          intro h16_3 hb16_2 c16_3
          replace how14_9_0 := OS.chg how14_9_0 c16_3 (apart_lt hlhow14_9_0 hfhb16_2 (by omega))
          replace hod15_1 := OS.chg hod15_1 c16_3 (apart_lt hlhod15_1 hfhb16_2 (by omega))
          replace hom15_1 := OS.chg hom15_1 c16_3 (apart_lt hlhom15_1 hfhb16_2 (by omega))
          replace hod16_1 := OS.chg hod16_1 c16_3 (apart_lt hlhod16_1 hfhb16_2 (by omega))
          replace hom16_1 := OS.chg hom16_1 c16_3 (apart_lt hlhom16_1 hfhb16_2 (by omega))
          replace hb0_0 := BoxAt.chgA hb0_0 c16_3 (apart_lt hlhb0_0 hfhb16_2 (by omega))
          replace hb0_1 := BoxAt.chgA hb0_1 c16_3 (apart_lt hlhb0_1 hfhb16_2 (by omega))
          replace hb15_2 := BoxAt.chgA hb15_2 c16_3 (apart_lt hlhb15_2 hfhb16_2 (by omega))
          have := c16_3.size
          replace eB := Ext.then eB c16_3 (ge_of hfhb16_2 (by omega))
          try simp -implicitDefEqProofs (disch := first | decide | assumption | omega) only [go_sem, BoxAt.cell hb0_0, BoxAt.cell hb0_1, BoxAt.cell hb15_2, BoxAt.cell hb16_2, wrap_id]
          refine hK _ _ ?_
          clear hK K
          refine den_seq ?_
          refine den_region TTok ?_
          intro K hK
          simp -implicitDefEqProofs (disch := first | decide | assumption | omega) only [go_sem, BoxAt.cell hb0_0, BoxAt.cell hb0_1, BoxAt.cell hb15_2, BoxAt.cell hb16_2, wrap_id]
          try simp -implicitDefEqProofs (disch := first | decide | assumption | omega) only [go_sem, BoxAt.cell hb0_0, BoxAt.cell hb0_1, BoxAt.cell hb15_2, BoxAt.cell hb16_2, wrap_id]
          refine CallA.mono (toSSS_ok _ f _ (RdS.pres rf (Ext.pres eB)) hMf) ?_
          intro v17_1 h17_1
          rintro ⟨f17_1, ho17_1, hf17_1, e17_1⟩
          replace how14_9_0 := OS.ext how14_9_0 e17_1
          replace hod15_1 := OS.ext hod15_1 e17_1
          replace hom15_1 := OS.ext hom15_1 e17_1
          replace hod16_1 := OS.ext hod16_1 e17_1
          replace hom16_1 := OS.ext hom16_1 e17_1
          replace hb0_0 := BoxAt.ext hb0_0 e17_1
          replace hb0_1 := BoxAt.ext hb0_1 e17_1
          replace hb15_2 := BoxAt.ext hb15_2 e17_1
          replace hb16_2 := BoxAt.ext hb16_2 e17_1
          have := Ext.size e17_1
          replace eB := Ext.trans eB e17_1
          have hlho17_1 := OS.lt ho17_1
          try simp -implicitDefEqProofs (disch := first | decide | assumption | omega) only [go_sem, BoxAt.cell hb0_0, BoxAt.cell hb0_1, BoxAt.cell hb15_2, BoxAt.cell hb16_2, wrap_id]
          refine hK _ _ ?_
          clear hK K
          refine den_seq ?_
          refine den_region TTok ?_
          intro K hK
          simp -implicitDefEqProofs (disch := first | decide | assumption | omega) only [go_sem, BoxAt.cell hb0_0, BoxAt.cell hb0_1, BoxAt.cell hb15_2, BoxAt.cell hb16_2, wrap_id]
          try simp -implicitDefEqProofs (disch := first | decide | assumption | omega) only [go_sem, BoxAt.cell hb0_0, BoxAt.cell hb0_1, BoxAt.cell hb15_2, BoxAt.cell hb16_2, wrap_id]
          refine CallA.mono (toSSS_ok _ g _ (RdS.pres rg (Ext.pres eB)) hMg) ?_
          intro v18_1 h18_1
          rintro ⟨f18_1, ho18_1, hf18_1, e18_1⟩
          replace how14_9_0 := OS.ext how14_9_0 e18_1
          replace hod15_1 := OS.ext hod15_1 e18_1
          replace hom15_1 := OS.ext hom15_1 e18_1
          replace hod16_1 := OS.ext hod16_1 e18_1
          replace hom16_1 := OS.ext hom16_1 e18_1
          replace ho17_1 := OS.ext ho17_1 e18_1
          replace hb0_0 := BoxAt.ext hb0_0 e18_1
          replace hb0_1 := BoxAt.ext hb0_1 e18_1
          replace hb15_2 := BoxAt.ext hb15_2 e18_1
          replace hb16_2 := BoxAt.ext hb16_2 e18_1
          have := Ext.size e18_1
          replace eB := Ext.trans eB e18_1
          have hlho18_1 := OS.lt ho18_1
          try simp -implicitDefEqProofs (disch := first | decide | assumption | omega) only [go_sem, BoxAt.cell hb0_0, BoxAt.cell hb0_1, BoxAt.cell hb15_2, BoxAt.cell hb16_2, wrap_id]
          refine hK _ _ ?_
          clear hK K
          refine den_seq ?_
          refine den_region TTok ?_
          intro K hK
          simp -implicitDefEqProofs (disch := first | decide | assumption | omega) only [go_sem, ld30, BoxAt.cell hb0_0, BoxAt.cell hb0_1, BoxAt.cell hb15_2, BoxAt.cell hb16_2, wrap_id]
          try simp -implicitDefEqProofs (disch := first | decide | assumption | omega) only [go_sem, BoxAt.cell hb0_0, BoxAt.cell hb0_1, BoxAt.cell hb15_2, BoxAt.cell hb16_2, wrap_id]
          refine CallA.mono (iAd_ok _ _ _ _ X Y f g k _ ⟨_, _, rfl, (OS.rd hod15_1), (OS.rd hom15_1)⟩ ⟨_, _, rfl, (OS.rd hod16_1), (OS.rd hom16_1)⟩ (OS.rd ho17_1) (OS.rd ho18_1) ) ?_
          intro v_ h19_5
          rintro ⟨vw19_5_0, fw19_5_0, rfl, how19_5_0, hfw19_5_0, e19_5⟩
          replace how14_9_0 := OS.ext how14_9_0 e19_5
          replace hod15_1 := OS.ext hod15_1 e19_5
          replace hom15_1 := OS.ext hom15_1 e19_5
          replace hod16_1 := OS.ext hod16_1 e19_5
          replace hom16_1 := OS.ext hom16_1 e19_5
          replace ho17_1 := OS.ext ho17_1 e19_5
          replace ho18_1 := OS.ext ho18_1 e19_5
          replace hb0_0 := BoxAt.ext hb0_0 e19_5
          replace hb0_1 := BoxAt.ext hb0_1 e19_5
          replace hb15_2 := BoxAt.ext hb15_2 e19_5
          replace hb16_2 := BoxAt.ext hb16_2 e19_5
          have := Ext.size e19_5
          replace eB := Ext.trans eB e19_5
          have hlhow19_5_0 := OS.lt how19_5_0
          try simp -implicitDefEqProofs (disch := first | decide | assumption | omega) only [go_sem, BoxAt.cell hb0_0, BoxAt.cell hb0_1, BoxAt.cell hb15_2, BoxAt.cell hb16_2, wrap_id]
          refine hK _ _ ?_
          clear hK K
          refine den_seq ?_
          refine den_seq ?_
          refine den_mergeH [(83, .bool (((!(true)) || (((adP X Y f g k).2) != ((adP X Y f g k).2)))))] [2, 3, 4, 5, 6, 12, 13, 14, 15, 16, 17, 18, 19] ?_ ?_
            -- a way
          · refine den_region TTok ?_
            intro K hK
            simp -implicitDefEqProofs (disch := first | decide | assumption | (simp (disch := decide) only [slotOf_zero, slotOf_succ, Option.map_some, puts_same, puts_ne, gv_bool, gv_undef, tt, tf, ft, ff, eq_self, if_true, if_false, Bool.false_eq_true, Bool.not_true, Bool.not_false]; done) | omega) only [go_sem, BoxAt.cell hb0_0, BoxAt.cell hb0_1, BoxAt.cell hb15_2, BoxAt.cell hb16_2, wrap_id]
            try simp -implicitDefEqProofs (disch := first | decide | assumption | omega) only [go_sem, BoxAt.cell hb0_0, BoxAt.cell hb0_1, BoxAt.cell hb15_2, BoxAt.cell hb16_2, wrap_id]
            refine CallA.pure (eqSSS_same _ _ _ _ (OS.rd how19_5_0) (OS.rd how14_9_0)) ?_
            try simp -implicitDefEqProofs (disch := first | decide | assumption | (simp (disch := decide) only [slotOf_zero, slotOf_succ, Option.map_some, puts_same, puts_ne, gv_bool, gv_undef, tt, tf, ft, ff, eq_self, if_true, if_false, Bool.false_eq_true, Bool.not_true, Bool.not_false]; done) | omega) only [go_sem, BoxAt.cell hb0_0, BoxAt.cell hb0_1, BoxAt.cell hb15_2, BoxAt.cell hb16_2, wrap_id]
            try simp -implicitDefEqProofs (disch := first | decide | assumption | (simp (disch := decide) only [slotOf_zero, slotOf_succ, Option.map_some, puts_same, puts_ne, gv_bool, gv_undef, tt, tf, ft, ff, eq_self, if_true, if_false, Bool.false_eq_true, Bool.not_true, Bool.not_false]; done) | omega) only [go_sem, BoxAt.cell hb0_0, BoxAt.cell hb0_1, BoxAt.cell hb15_2, BoxAt.cell hb16_2, wrap_id]
            refine hK _ _ ?_
            clear hK K
            refine den_stop ?_
            refine ⟨?_, rfl⟩
            first | (simp (disch := decide) only [go_sem, eq_self, Bool.true_and, Bool.and_true, Bool.false_and, Bool.and_false, Bool.true_or, Bool.or_true, Bool.false_or, Bool.or_false, if_true, if_false, Bool.false_eq_true]; done) | simp [HasL, sel, puts_at]
          intro en5
          simp (disch := decide) only [go_sem]
          refine den_cond rfl (fun c4 => ?_) (fun c4 => ?_)
          · try simp only [decide_eq_true_eq, decide_eq_false_iff_not, beq_iff_eq, beq_eq_false_iff_ne, bne_iff_ne, ne_eq, Bool.not_eq_true', Bool.not_eq_false', Bool.and_eq_true, Bool.or_eq_true, bne_eq_false_iff_eq] at c4
            refine den_seq ?_
            refine den_region TTok ?_
            intro K hK
            simp -implicitDefEqProofs (disch := first | decide | assumption | omega) only [go_sem, wrap_id]
            refine hK _ _ ?_
            clear hK K
            refine den_ret ?_
            simp (disch := decide) only [resP_1, puts_same, puts_ne]
            exact absurd c4 (by first | (simp; done) | (simp; omega) | omega | (simp [eqC_self]; done))
          · try simp only [decide_eq_true_eq, decide_eq_false_iff_not, beq_iff_eq, beq_eq_false_iff_ne, bne_iff_ne, ne_eq, Bool.not_eq_true', Bool.not_eq_false', Bool.and_eq_true, Bool.or_eq_true, bne_eq_false_iff_eq] at c4
            refine den_skip ?_
            refine den_seq ?_
            refine den_seq ?_
            refine den_draw TTok mixed [] [(0, true), (1, true), (2, false), (3, false), (4, true)] (by kernel_rfl) ?_
            intro K hK
            simp -implicitDefEqProofs (disch := first | decide | assumption | omega) only [go_sem, ld30, ld25, BoxAt.cell hb0_0, BoxAt.cell hb0_1, BoxAt.cell hb15_2, BoxAt.cell hb16_2, wrap_id]
            try simp -implicitDefEqProofs (disch := first | decide | assumption | omega) only [go_sem, BoxAt.cell hb0_0, BoxAt.cell hb0_1, BoxAt.cell hb15_2, BoxAt.cell hb16_2, wrap_id]
            refine CallA.mono (toC_ok _ X _ ⟨_, _, rfl, (RdS.pres hdX (Ext.pres eB)), (RdS.pres hmX (Ext.pres eB))⟩ hMX) ?_
            intro v_ h22_2
            rintro ⟨vd22_2, vm22_2, fd22_2, fm22_2, rfl, hod22_2, hom22_2, hf22_2, e22_2⟩
            replace how14_9_0 := OS.ext how14_9_0 e22_2
            replace hod15_1 := OS.ext hod15_1 e22_2
            replace hom15_1 := OS.ext hom15_1 e22_2
            replace hod16_1 := OS.ext hod16_1 e22_2
            replace hom16_1 := OS.ext hom16_1 e22_2
            replace ho17_1 := OS.ext ho17_1 e22_2
            replace ho18_1 := OS.ext ho18_1 e22_2
            replace how19_5_0 := OS.ext how19_5_0 e22_2
            replace hb0_0 := BoxAt.ext hb0_0 e22_2
            replace hb0_1 := BoxAt.ext hb0_1 e22_2
            replace hb15_2 := BoxAt.ext hb15_2 e22_2
            replace hb16_2 := BoxAt.ext hb16_2 e22_2
            have := Ext.size e22_2
            replace eB := Ext.trans eB e22_2
            have hfd22_2 := hf22_2.left
            have hfm22_2 := hf22_2.right
            have hlhod22_2 := OS.lt hod22_2
            have hlhom22_2 := OS.lt hom22_2
            have ap8 : Apart fd22_2 fm22_2 := apart_nodup hf22_2
            try simp (disch := decide) only [outv_some, outv_none, put_puts]
            refine plK_pres (Ext.pres e22_2) ?_
            try simp -implicitDefEqProofs (disch := first | decide | assumption | omega) only [go_sem, BoxAt.cell hb0_0, BoxAt.cell hb0_1, BoxAt.cell hb15_2, BoxAt.cell hb16_2, wrap_id]
            try simp -implicitDefEqProofs (disch := first | decide | assumption | omega) only [go_sem, BoxAt.cell hb0_0, BoxAt.cell hb0_1, BoxAt.cell hb15_2, BoxAt.cell hb16_2, wrap_id]
            refine CallA.mono (eqC_same _ _ X _ ⟨_, _, rfl, (OS.rd hod15_1), (OS.rd hom15_1)⟩ ⟨_, _, rfl, (OS.rd hod22_2), (OS.rd hom22_2)⟩) ?_
            intro v_ h22_3
            rintro ⟨rfl, e22_3⟩
            replace how14_9_0 := OS.ext how14_9_0 e22_3
            replace hod15_1 := OS.ext hod15_1 e22_3
            replace hom15_1 := OS.ext hom15_1 e22_3
            replace hod16_1 := OS.ext hod16_1 e22_3
            replace hom16_1 := OS.ext hom16_1 e22_3
            replace ho17_1 := OS.ext ho17_1 e22_3
            replace ho18_1 := OS.ext ho18_1 e22_3
            replace how19_5_0 := OS.ext how19_5_0 e22_3
            replace hod22_2 := OS.ext hod22_2 e22_3
            replace hom22_2 := OS.ext hom22_2 e22_3
            replace hb0_0 := BoxAt.ext hb0_0 e22_3
            replace hb0_1 := BoxAt.ext hb0_1 e22_3
            replace hb15_2 := BoxAt.ext hb15_2 e22_3
            replace hb16_2 := BoxAt.ext hb16_2 e22_3
            have := Ext.size e22_3
            replace eB := Ext.trans eB e22_3
            try simp (disch := decide) only [outv_some, outv_none, put_puts]
            refine plK_pres (Ext.pres e22_3) ?_
            try simp -implicitDefEqProofs (disch := first | decide | assumption | omega) only [go_sem, BoxAt.cell hb0_0, BoxAt.cell hb0_1, BoxAt.cell hb15_2, BoxAt.cell hb16_2, wrap_id]
            refine hK _ _ ?_
            clear hK K
            refine den_cond rfl (fun c5 => ?_) (fun c5 => ?_)
            · try simp only [decide_eq_true_eq, decide_eq_false_iff_not, beq_iff_eq, beq_eq_false_iff_ne, bne_iff_ne, ne_eq, Bool.not_eq_true', Bool.not_eq_false', Bool.and_eq_true, Bool.or_eq_true, bne_eq_false_iff_eq] at c5
              refine den_seq ?_
              refine den_region TTok ?_
              intro K hK
              simp -implicitDefEqProofs (disch := first | decide | assumption | omega) only [go_sem, wrap_id]
              refine hK _ _ ?_
              clear hK K
              refine den_ret ?_
              simp (disch := decide) only [resP_1, puts_same, puts_ne]
              exact absurd c5 (by first | (simp; done) | (simp; omega) | omega | (simp [eqC_self]; done))
            · try simp only [decide_eq_true_eq, decide_eq_false_iff_not, beq_iff_eq, beq_eq_false_iff_ne, bne_iff_ne, ne_eq, Bool.not_eq_true', Bool.not_eq_false', Bool.and_eq_true, Bool.or_eq_true, bne_eq_false_iff_eq] at c5
              refine den_skip ?_
              refine den_seq ?_
              refine den_seq ?_
              refine den_draw TTok mixed [] [(0, true), (1, true), (2, false), (3, false), (4, true)] (by kernel_rfl) ?_
              intro K hK
              simp -implicitDefEqProofs (disch := first | decide | assumption | omega) only [go_sem, ld30, ld25, BoxAt.cell hb0_0, BoxAt.cell hb0_1, BoxAt.cell hb15_2, BoxAt.cell hb16_2, wrap_id]
              try simp -implicitDefEqProofs (disch := first | decide | assumption | omega) only [go_sem, BoxAt.cell hb0_0, BoxAt.cell hb0_1, BoxAt.cell hb15_2, BoxAt.cell hb16_2, wrap_id]
              refine CallA.mono (toC_ok _ Y _ ⟨_, _, rfl, (RdS.pres hdY (Ext.pres eB)), (RdS.pres hmY (Ext.pres eB))⟩ hMY) ?_
              intro v_ h24_2
              rintro ⟨vd24_2, vm24_2, fd24_2, fm24_2, rfl, hod24_2, hom24_2, hf24_2, e24_2⟩
              replace how14_9_0 := OS.ext how14_9_0 e24_2
              replace hod15_1 := OS.ext hod15_1 e24_2
              replace hom15_1 := OS.ext hom15_1 e24_2
              replace hod16_1 := OS.ext hod16_1 e24_2
              replace hom16_1 := OS.ext hom16_1 e24_2
              replace ho17_1 := OS.ext ho17_1 e24_2
              replace ho18_1 := OS.ext ho18_1 e24_2
              replace how19_5_0 := OS.ext how19_5_0 e24_2
              replace hb0_0 := BoxAt.ext hb0_0 e24_2
              replace hb0_1 := BoxAt.ext hb0_1 e24_2
              replace hb15_2 := BoxAt.ext hb15_2 e24_2
              replace hb16_2 := BoxAt.ext hb16_2 e24_2
              have := Ext.size e24_2
              replace eB := Ext.trans eB e24_2
              have hfd24_2 := hf24_2.left
              have hfm24_2 := hf24_2.right
              have hlhod24_2 := OS.lt hod24_2
              have hlhom24_2 := OS.lt hom24_2
              have ap9 : Apart fd24_2 fm24_2 := apart_nodup hf24_2
              try simp (disch := decide) only [outv_some, outv_none, put_puts]
              refine plK_pres (Ext.pres e24_2) ?_
              try simp -implicitDefEqProofs (disch := first | decide | assumption | omega) only [go_sem, BoxAt.cell hb0_0, BoxAt.cell hb0_1, BoxAt.cell hb15_2, BoxAt.cell hb16_2, wrap_id]
              try simp -implicitDefEqProofs (disch := first | decide | assumption | omega) only [go_sem, BoxAt.cell hb0_0, BoxAt.cell hb0_1, BoxAt.cell hb15_2, BoxAt.cell hb16_2, wrap_id]
              refine CallA.mono (eqC_same _ _ Y _ ⟨_, _, rfl, (OS.rd hod16_1), (OS.rd hom16_1)⟩ ⟨_, _, rfl, (OS.rd hod24_2), (OS.rd hom24_2)⟩) ?_
              intro v_ h24_3
              rintro ⟨rfl, e24_3⟩
              replace how14_9_0 := OS.ext how14_9_0 e24_3
              replace hod15_1 := OS.ext hod15_1 e24_3
              replace hom15_1 := OS.ext hom15_1 e24_3
              replace hod16_1 := OS.ext hod16_1 e24_3
              replace hom16_1 := OS.ext hom16_1 e24_3
              replace ho17_1 := OS.ext ho17_1 e24_3
              replace ho18_1 := OS.ext ho18_1 e24_3
              replace how19_5_0 := OS.ext how19_5_0 e24_3
              replace hod24_2 := OS.ext hod24_2 e24_3
              replace hom24_2 := OS.ext hom24_2 e24_3
              replace hb0_0 := BoxAt.ext hb0_0 e24_3
              replace hb0_1 := BoxAt.ext hb0_1 e24_3
              replace hb15_2 := BoxAt.ext hb15_2 e24_3
              replace hb16_2 := BoxAt.ext hb16_2 e24_3
              have := Ext.size e24_3
              replace eB := Ext.trans eB e24_3
              try simp (disch := decide) only [outv_some, outv_none, put_puts]
              refine plK_pres (Ext.pres e24_3) ?_
              try simp -implicitDefEqProofs (disch := first | decide | assumption | omega) only [go_sem, BoxAt.cell hb0_0, BoxAt.cell hb0_1, BoxAt.cell hb15_2, BoxAt.cell hb16_2, wrap_id]
              refine hK _ _ ?_
              clear hK K
              refine den_cond rfl (fun c6 => ?_) (fun c6 => ?_)
              · try simp only [decide_eq_true_eq, decide_eq_false_iff_not, beq_iff_eq, beq_eq_false_iff_ne, bne_iff_ne, ne_eq, Bool.not_eq_true', Bool.not_eq_false', Bool.and_eq_true, Bool.or_eq_true, bne_eq_false_iff_eq] at c6
                refine den_seq ?_
                refine den_region TTok ?_
                intro K hK
                simp -implicitDefEqProofs (disch := first | decide | assumption | omega) only [go_sem, wrap_id]
                refine hK _ _ ?_
                clear hK K
                refine den_ret ?_
                simp (disch := decide) only [resP_1, puts_same, puts_ne]
                exact absurd c6 (by first | (simp; done) | (simp; omega) | omega | (simp [eqC_self]; done))
              · try simp only [decide_eq_true_eq, decide_eq_false_iff_not, beq_iff_eq, beq_eq_false_iff_ne, bne_iff_ne, ne_eq, Bool.not_eq_true', Bool.not_eq_false', Bool.and_eq_true, Bool.or_eq_true, bne_eq_false_iff_eq] at c6
                refine den_skip ?_
                refine den_seq ?_
                refine den_seq ?_
                refine den_region TTok ?_
                intro K hK
                simp -implicitDefEqProofs (disch := first | decide | assumption | omega) only [go_sem, BoxAt.cell hb0_0, BoxAt.cell hb0_1, BoxAt.cell hb15_2, BoxAt.cell hb16_2, wrap_id]
                try simp -implicitDefEqProofs (disch := first | decide | assumption | omega) only [go_sem, BoxAt.cell hb0_0, BoxAt.cell hb0_1, BoxAt.cell hb15_2, BoxAt.cell hb16_2, wrap_id]
                refine CallA.mono (toSSS_ok _ f _ (RdS.pres rf (Ext.pres eB)) hMf) ?_
                intro v26_2 h26_2
                rintro ⟨f26_2, ho26_2, hf26_2, e26_2⟩
                replace how14_9_0 := OS.ext how14_9_0 e26_2
                replace hod15_1 := OS.ext hod15_1 e26_2
                replace hom15_1 := OS.ext hom15_1 e26_2
                replace hod16_1 := OS.ext hod16_1 e26_2
                replace hom16_1 := OS.ext hom16_1 e26_2
                replace ho17_1 := OS.ext ho17_1 e26_2
                replace ho18_1 := OS.ext ho18_1 e26_2
                replace how19_5_0 := OS.ext how19_5_0 e26_2
                replace hb0_0 := BoxAt.ext hb0_0 e26_2
                replace hb0_1 := BoxAt.ext hb0_1 e26_2
                replace hb15_2 := BoxAt.ext hb15_2 e26_2
                replace hb16_2 := BoxAt.ext hb16_2 e26_2
                have := Ext.size e26_2
                replace eB := Ext.trans eB e26_2
                have hlho26_2 := OS.lt ho26_2
                try simp -implicitDefEqProofs (disch := first | decide | assumption | omega) only [go_sem, BoxAt.cell hb0_0, BoxAt.cell hb0_1, BoxAt.cell hb15_2, BoxAt.cell hb16_2, wrap_id]
                try simp -implicitDefEqProofs (disch := first | decide | assumption | omega) only [go_sem, BoxAt.cell hb0_0, BoxAt.cell hb0_1, BoxAt.cell hb15_2, BoxAt.cell hb16_2, wrap_id]
                refine CallA.pure (eqSSS_same _ _ _ _ (OS.rd ho17_1) (OS.rd ho26_2)) ?_
                try simp -implicitDefEqProofs (disch := first | decide | assumption | omega) only [go_sem, BoxAt.cell hb0_0, BoxAt.cell hb0_1, BoxAt.cell hb15_2, BoxAt.cell hb16_2, wrap_id]
                refine hK _ _ ?_
                clear hK K
                refine den_cond rfl (fun c7 => ?_) (fun c7 => ?_)
                · try simp only [decide_eq_true_eq, decide_eq_false_iff_not, beq_iff_eq, beq_eq_false_iff_ne, bne_iff_ne, ne_eq, Bool.not_eq_true', Bool.not_eq_false', Bool.and_eq_true, Bool.or_eq_true, bne_eq_false_iff_eq] at c7
                  refine den_seq ?_
                  refine den_region TTok ?_
                  intro K hK
                  simp -implicitDefEqProofs (disch := first | decide | assumption | omega) only [go_sem, wrap_id]
                  refine hK _ _ ?_
                  clear hK K
                  refine den_ret ?_
                  simp (disch := decide) only [resP_1, puts_same, puts_ne]
                  exact absurd c7 (by first | (simp; done) | (simp; omega) | omega | (simp [eqC_self]; done))
                · try simp only [decide_eq_true_eq, decide_eq_false_iff_not, beq_iff_eq, beq_eq_false_iff_ne, bne_iff_ne, ne_eq, Bool.not_eq_true', Bool.not_eq_false', Bool.and_eq_true, Bool.or_eq_true, bne_eq_false_iff_eq] at c7
                  refine den_skip ?_
                  refine den_seq ?_
                  refine den_seq ?_
                  refine den_region TTok ?_
                  intro K hK
                  simp -implicitDefEqProofs (disch := first | decide | assumption | omega) only [go_sem, BoxAt.cell hb0_0, BoxAt.cell hb0_1, BoxAt.cell hb15_2, BoxAt.cell hb16_2, wrap_id]
                  try simp -implicitDefEqProofs (disch := first | decide | assumption | omega) only [go_sem, BoxAt.cell hb0_0, BoxAt.cell hb0_1, BoxAt.cell hb15_2, BoxAt.cell hb16_2, wrap_id]
                  refine CallA.mono (toSSS_ok _ g _ (RdS.pres rg (Ext.pres eB)) hMg) ?_
                  intro v28_2 h28_2
                  rintro ⟨f28_2, ho28_2, hf28_2, e28_2⟩
                  replace how14_9_0 := OS.ext how14_9_0 e28_2
                  replace hod15_1 := OS.ext hod15_1 e28_2
                  replace hom15_1 := OS.ext hom15_1 e28_2
                  replace hod16_1 := OS.ext hod16_1 e28_2
                  replace hom16_1 := OS.ext hom16_1 e28_2
                  replace ho17_1 := OS.ext ho17_1 e28_2
                  replace ho18_1 := OS.ext ho18_1 e28_2
                  replace how19_5_0 := OS.ext how19_5_0 e28_2
                  replace hb0_0 := BoxAt.ext hb0_0 e28_2
                  replace hb0_1 := BoxAt.ext hb0_1 e28_2
                  replace hb15_2 := BoxAt.ext hb15_2 e28_2
                  replace hb16_2 := BoxAt.ext hb16_2 e28_2
                  have := Ext.size e28_2
                  replace eB := Ext.trans eB e28_2
                  have hlho28_2 := OS.lt ho28_2
                  try simp -implicitDefEqProofs (disch := first | decide | assumption | omega) only [go_sem, BoxAt.cell hb0_0, BoxAt.cell hb0_1, BoxAt.cell hb15_2, BoxAt.cell hb16_2, wrap_id]
                  try simp -implicitDefEqProofs (disch := first | decide | assumption | omega) only [go_sem, BoxAt.cell hb0_0, BoxAt.cell hb0_1, BoxAt.cell hb15_2, BoxAt.cell hb16_2, wrap_id]
                  refine CallA.pure (eqSSS_same _ _ _ _ (OS.rd ho18_1) (OS.rd ho28_2)) ?_
                  try simp -implicitDefEqProofs (disch := first | decide | assumption | omega) only [go_sem, BoxAt.cell hb0_0, BoxAt.cell hb0_1, BoxAt.cell hb15_2, BoxAt.cell hb16_2, wrap_id]
                  refine hK _ _ ?_
                  clear hK K
                  refine den_cond rfl (fun c8 => ?_) (fun c8 => ?_)
                  · try simp only [decide_eq_true_eq, decide_eq_false_iff_not, beq_iff_eq, beq_eq_false_iff_ne, bne_iff_ne, ne_eq, Bool.not_eq_true', Bool.not_eq_false', Bool.and_eq_true, Bool.or_eq_true, bne_eq_false_iff_eq] at c8
                    refine den_seq ?_
                    refine den_region TTok ?_
                    intro K hK
                    simp -implicitDefEqProofs (disch := first | decide | assumption | omega) only [go_sem, wrap_id]
                    refine hK _ _ ?_
                    clear hK K
                    refine den_ret ?_
                    simp (disch := decide) only [resP_1, puts_same, puts_ne]
                    exact absurd c8 (by first | (simp; done) | (simp; omega) | omega | (simp [eqC_self]; done))
                  · try simp only [decide_eq_true_eq, decide_eq_false_iff_not, beq_iff_eq, beq_eq_false_iff_ne, bne_iff_ne, ne_eq, Bool.not_eq_true', Bool.not_eq_false', Bool.and_eq_true, Bool.or_eq_true, bne_eq_false_iff_eq] at c8
                    refine den_skip ?_
                    refine den_seq ?_
                    refine den_region TTok ?_
                    intro K hK
                    simp -implicitDefEqProofs (disch := first | decide | assumption | omega) only [go_sem, BoxAt.cell hb0_0, BoxAt.cell hb0_1, BoxAt.cell hb15_2, BoxAt.cell hb16_2, wrap_id]
                    refine hK _ _ ?_
                    clear hK K
                    refine den_seq ?_
                    refine den_region TTok ?_
                    intro K hK
                    simp -implicitDefEqProofs (disch := first | decide | assumption | omega) only [go_sem, ld30, BoxAt.cell hb0_0, BoxAt.cell hb0_1, BoxAt.cell hb15_2, BoxAt.cell hb16_2, wrap_id]
                    try simp -implicitDefEqProofs (disch := first | decide | assumption | omega) only [go_sem, BoxAt.cell hb0_0, BoxAt.cell hb0_1, BoxAt.cell hb15_2, BoxAt.cell hb16_2, wrap_id]
                    refine CallA.mono (markCx_ok _ _ X (1 : Int) _ _ _ hod15_1 hom15_1 (List.nodup_append.2 ⟨hfd15_1.nodup, hfm15_1.nodup, fun b hb c hc e => ap3 b hb (e ▸ hc)⟩) (by omega)) ?_
                    intro v_ h31_2
                    rintro ⟨rfl, hogd31_2, hogm31_2, cg31_2⟩
                    replace how14_9_0 := OS.chg how14_9_0 cg31_2 (Apart.app (apart_lt hlhow14_9_0 hfd15_1 (by omega)) (apart_lt hlhow14_9_0 hfm15_1 (by omega)))
                    replace hod16_1 := OS.chg hod16_1 cg31_2 (Apart.app (apart_gt hfd16_1 hlhod15_1 (by omega)) (apart_gt hfd16_1 hlhom15_1 (by omega)))
                    replace hom16_1 := OS.chg hom16_1 cg31_2 (Apart.app (apart_gt hfm16_1 hlhod15_1 (by omega)) (apart_gt hfm16_1 hlhom15_1 (by omega)))
                    replace ho17_1 := OS.chg ho17_1 cg31_2 (Apart.app (apart_gt hf17_1 hlhod15_1 (by omega)) (apart_gt hf17_1 hlhom15_1 (by omega)))
                    replace ho18_1 := OS.chg ho18_1 cg31_2 (Apart.app (apart_gt hf18_1 hlhod15_1 (by omega)) (apart_gt hf18_1 hlhom15_1 (by omega)))
                    replace how19_5_0 := OS.chg how19_5_0 cg31_2 (Apart.app (apart_gt hfw19_5_0 hlhod15_1 (by omega)) (apart_gt hfw19_5_0 hlhom15_1 (by omega)))
                    replace hb0_0 := BoxAt.chgA hb0_0 cg31_2 (Apart.app (apart_lt hlhb0_0 hfd15_1 (by omega)) (apart_lt hlhb0_0 hfm15_1 (by omega)))
                    replace hb0_1 := BoxAt.chgA hb0_1 cg31_2 (Apart.app (apart_lt hlhb0_1 hfd15_1 (by omega)) (apart_lt hlhb0_1 hfm15_1 (by omega)))
                    replace hb15_2 := BoxAt.chgA hb15_2 cg31_2 (Apart.app (apart_gt hfhb15_2 hlhod15_1 (by omega)) (apart_gt hfhb15_2 hlhom15_1 (by omega)))
                    replace hb16_2 := BoxAt.chgA hb16_2 cg31_2 (Apart.app (apart_gt hfhb16_2 hlhod15_1 (by omega)) (apart_gt hfhb16_2 hlhom15_1 (by omega)))
                    have := cg31_2.size
                    replace eB := Ext.then eB cg31_2 (ge_app (ge_of hfd15_1 (by omega)) (ge_of hfm15_1 (by omega)))
                    have ap10 : Apart fm15_1 fd15_1 := (Apart.symm ap3)
                    have hlhogd31_2 := OS.lt hogd31_2
                    have ap11 : Apart fd15_1 fm15_1 := (Apart.symm ap10)
                    have hlhogm31_2 := OS.lt hogm31_2
                    try simp -implicitDefEqProofs (disch := first | decide | assumption | omega) only [go_sem, BoxAt.cell hb0_0, BoxAt.cell hb0_1, BoxAt.cell hb15_2, BoxAt.cell hb16_2, wrap_id]
                    refine hK _ _ ?_
                    clear hK K
                    refine den_seq ?_
                    refine den_region TTok ?_
                    intro K hK
                    simp -implicitDefEqProofs (disch := first | decide | assumption | omega) only [go_sem, ld30, BoxAt.cell hb0_0, BoxAt.cell hb0_1, BoxAt.cell hb16_2, wrap_id]
                    try simp -implicitDefEqProofs (disch := first | decide | assumption | omega) only [go_sem, BoxAt.cell hb0_0, BoxAt.cell hb0_1, BoxAt.cell hb16_2, wrap_id]
                    refine CallA.mono (markCx_ok _ _ Y ((1 : Int) + cnt1 X.dims + cntL cnt2 X.maps) _ _ _ hod16_1 hom16_1 (List.nodup_append.2 ⟨hfd16_1.nodup, hfm16_1.nodup, fun b hb c hc e => ap4 b hb (e ▸ hc)⟩) (by omega)) ?_
                    intro v_ h32_2
                    rintro ⟨rfl, hogd32_2, hogm32_2, cg32_2⟩
                    replace how14_9_0 := OS.chg how14_9_0 cg32_2 (Apart.app (apart_lt hlhow14_9_0 hfd16_1 (by omega)) (apart_lt hlhow14_9_0 hfm16_1 (by omega)))
                    replace ho17_1 := OS.chg ho17_1 cg32_2 (Apart.app (apart_gt hf17_1 hlhod16_1 (by omega)) (apart_gt hf17_1 hlhom16_1 (by omega)))
                    replace ho18_1 := OS.chg ho18_1 cg32_2 (Apart.app (apart_gt hf18_1 hlhod16_1 (by omega)) (apart_gt hf18_1 hlhom16_1 (by omega)))
                    replace how19_5_0 := OS.chg how19_5_0 cg32_2 (Apart.app (apart_gt hfw19_5_0 hlhod16_1 (by omega)) (apart_gt hfw19_5_0 hlhom16_1 (by omega)))
                    replace hb0_0 := BoxAt.chgA hb0_0 cg32_2 (Apart.app (apart_lt hlhb0_0 hfd16_1 (by omega)) (apart_lt hlhb0_0 hfm16_1 (by omega)))
                    replace hb0_1 := BoxAt.chgA hb0_1 cg32_2 (Apart.app (apart_lt hlhb0_1 hfd16_1 (by omega)) (apart_lt hlhb0_1 hfm16_1 (by omega)))
                    replace hb16_2 := BoxAt.chgA hb16_2 cg32_2 (Apart.app (apart_gt hfhb16_2 hlhod16_1 (by omega)) (apart_gt hfhb16_2 hlhom16_1 (by omega)))
                    have := cg32_2.size
                    replace eB := Ext.then eB cg32_2 (ge_app (ge_of hfd16_1 (by omega)) (ge_of hfm16_1 (by omega)))
                    have ap12 : Apart fm16_1 fd16_1 := (Apart.symm ap4)
                    have hlhogd32_2 := OS.lt hogd32_2
                    have ap13 : Apart fd16_1 fm16_1 := (Apart.symm ap12)
                    have hlhogm32_2 := OS.lt hogm32_2
                    try simp -implicitDefEqProofs (disch := first | decide | assumption | omega) only [go_sem, BoxAt.cell hb0_0, BoxAt.cell hb0_1, BoxAt.cell hb16_2, wrap_id]
                    refine hK _ _ ?_
                    clear hK K
                    refine den_seq ?_
                    refine den_region TTok ?_
                    intro K hK
                    simp -implicitDefEqProofs (disch := first | decide | assumption | omega) only [go_sem, BoxAt.cell hb0_0, BoxAt.cell hb0_1, wrap_id]
                    try simp -implicitDefEqProofs (disch := first | decide | assumption | omega) only [go_sem, BoxAt.cell hb0_0, BoxAt.cell hb0_1, wrap_id]
                    refine CallA.mono (markSSS_ok _ f (((1 : Int) + cnt1 X.dims + cntL cnt2 X.maps) + cnt1 Y.dims + cntL cnt2 Y.maps) _ _ ho17_1 hf17_1.nodup (by omega)) ?_
                    intro v_ h33_2
                    rintro ⟨rfl, hog33_2, cg33_2⟩
                    replace how14_9_0 := OS.chg how14_9_0 cg33_2 (apart_lt hlhow14_9_0 hf17_1 (by omega))
                    replace ho18_1 := OS.chg ho18_1 cg33_2 (apart_gt hf18_1 hlho17_1 (by omega))
                    replace how19_5_0 := OS.chg how19_5_0 cg33_2 (apart_gt hfw19_5_0 hlho17_1 (by omega))
                    replace hb0_0 := BoxAt.chgA hb0_0 cg33_2 (apart_lt hlhb0_0 hf17_1 (by omega))
                    replace hb0_1 := BoxAt.chgA hb0_1 cg33_2 (apart_lt hlhb0_1 hf17_1 (by omega))
                    have := cg33_2.size
                    replace eB := Ext.then eB cg33_2 (ge_of hf17_1 (by omega))
                    have hlhog33_2 := OS.lt hog33_2
                    try simp -implicitDefEqProofs (disch := first | decide | assumption | omega) only [go_sem, BoxAt.cell hb0_0, BoxAt.cell hb0_1, wrap_id]
                    refine hK _ _ ?_
                    clear hK K
                    refine den_seq ?_
                    refine den_region TTok ?_
                    intro K hK
                    simp -implicitDefEqProofs (disch := first | decide | assumption | omega) only [go_sem, BoxAt.cell hb0_0, BoxAt.cell hb0_1, wrap_id]
                    try simp -implicitDefEqProofs (disch := first | decide | assumption | omega) only [go_sem, BoxAt.cell hb0_0, BoxAt.cell hb0_1, wrap_id]
                    refine CallA.mono (markSSS_ok _ g ((((1 : Int) + cnt1 X.dims + cntL cnt2 X.maps) + cnt1 Y.dims + cntL cnt2 Y.maps) + cntL cnt2 f) _ _ ho18_1 hf18_1.nodup (by omega)) ?_
                    intro v_ h34_2
                    rintro ⟨rfl, hog34_2, cg34_2⟩
                    replace how14_9_0 := OS.chg how14_9_0 cg34_2 (apart_lt hlhow14_9_0 hf18_1 (by omega))
                    replace how19_5_0 := OS.chg how19_5_0 cg34_2 (apart_gt hfw19_5_0 hlho18_1 (by omega))
                    replace hb0_0 := BoxAt.chgA hb0_0 cg34_2 (apart_lt hlhb0_0 hf18_1 (by omega))
                    replace hb0_1 := BoxAt.chgA hb0_1 cg34_2 (apart_lt hlhb0_1 hf18_1 (by omega))
                    have := cg34_2.size
                    replace eB := Ext.then eB cg34_2 (ge_of hf18_1 (by omega))
                    have hlhog34_2 := OS.lt hog34_2
                    try simp -implicitDefEqProofs (disch := first | decide | assumption | omega) only [go_sem, BoxAt.cell hb0_0, BoxAt.cell hb0_1, wrap_id]
                    refine hK _ _ ?_
                    clear hK K
                    refine den_seq ?_
                    refine den_seq ?_
                    refine den_mergeH [(128, .bool ((((decide ((((((1 : Int) + cnt1 X.dims + cntL cnt2 X.maps) + cnt1 Y.dims + cntL cnt2 Y.maps) + cntL cnt2 f) + cntL cnt2 g) < (0 : Int))) || (!(true))) || (((adP X Y f g k).2) != ((adP X Y f g k).2)))))] [2, 3, 4, 5, 6, 12, 13, 18] ?_ ?_
                      -- a way
                    · refine den_region TTok ?_
                      intro K hK
                      simp -implicitDefEqProofs (disch := first | decide | assumption | (simp (disch := decide) only [slotOf_zero, slotOf_succ, Option.map_some, puts_same, puts_ne, gv_bool, gv_undef, tt, tf, ft, ff, eq_self, if_true, if_false, Bool.false_eq_true, Bool.not_true, Bool.not_false]; done) | omega) only [go_sem, BoxAt.cell hb0_0, BoxAt.cell hb0_1, wrap_id]
                      refine opsP_F (by simp (disch := decide) only [slotOf_zero, slotOf_succ, Option.map_some, puts_same, puts_ne, gv_bool, gv_undef, tt, tf, ft, ff, eq_self, if_true, if_false, Bool.false_eq_true, Bool.not_true, Bool.not_false]; rfl) (fun g14 => ?_) (fun g14 => ?_)
                      · try simp -implicitDefEqProofs (disch := first | decide | assumption | (simp (disch := decide) only [slotOf_zero, slotOf_succ, Option.map_some, puts_same, puts_ne, gv_bool, gv_undef, tt, tf, ft, ff, eq_self, if_true, if_false, Bool.false_eq_true, Bool.not_true, Bool.not_false, g14]; done) | omega) only [go_sem, BoxAt.cell hb0_0, BoxAt.cell hb0_1, wrap_id, g14, eq_self, if_true, if_false, Bool.false_eq_true]
                        try simp -implicitDefEqProofs (disch := first | decide | assumption | omega) only [go_sem, BoxAt.cell hb0_0, BoxAt.cell hb0_1, wrap_id]
                        refine CallA.pure (eqSSS_same _ _ _ _ (OS.rd how19_5_0) (OS.rd how14_9_0)) ?_
                        try simp -implicitDefEqProofs (disch := first | decide | assumption | (simp (disch := decide) only [slotOf_zero, slotOf_succ, Option.map_some, puts_same, puts_ne, gv_bool, gv_undef, tt, tf, ft, ff, eq_self, if_true, if_false, Bool.false_eq_true, Bool.not_true, Bool.not_false, g14]; done) | omega) only [go_sem, BoxAt.cell hb0_0, BoxAt.cell hb0_1, wrap_id, g14, eq_self, if_true, if_false, Bool.false_eq_true]
                        try simp -implicitDefEqProofs (disch := first | decide | assumption | (simp (disch := decide) only [slotOf_zero, slotOf_succ, Option.map_some, puts_same, puts_ne, gv_bool, gv_undef, tt, tf, ft, ff, eq_self, if_true, if_false, Bool.false_eq_true, Bool.not_true, Bool.not_false, g14]; done) | omega) only [go_sem, BoxAt.cell hb0_0, BoxAt.cell hb0_1, wrap_id, g14, eq_self, if_true, if_false, Bool.false_eq_true]
                        refine hK _ _ ?_
                        clear hK K
                        refine den_stop ?_
                        refine ⟨?_, rfl⟩
                        first | (simp (disch := decide) only [go_sem, g14, eq_self, Bool.true_and, Bool.and_true, Bool.false_and, Bool.and_false, Bool.true_or, Bool.or_true, Bool.false_or, Bool.or_false, if_true, if_false, Bool.false_eq_true]; done) | simp [HasL, sel, puts_at, g14]
                      · try simp -implicitDefEqProofs (disch := first | decide | assumption | (simp (disch := decide) only [slotOf_zero, slotOf_succ, Option.map_some, puts_same, puts_ne, gv_bool, gv_undef, tt, tf, ft, ff, eq_self, if_true, if_false, Bool.false_eq_true, Bool.not_true, Bool.not_false, g14]; done) | omega) only [go_sem, BoxAt.cell hb0_0, BoxAt.cell hb0_1, wrap_id, g14, eq_self, if_true, if_false, Bool.false_eq_true]
                        try simp -implicitDefEqProofs (disch := first | decide | assumption | (simp (disch := decide) only [slotOf_zero, slotOf_succ, Option.map_some, puts_same, puts_ne, gv_bool, gv_undef, tt, tf, ft, ff, eq_self, if_true, if_false, Bool.false_eq_true, Bool.not_true, Bool.not_false, g14]; done) | omega) only [go_sem, BoxAt.cell hb0_0, BoxAt.cell hb0_1, wrap_id, g14, eq_self, if_true, if_false, Bool.false_eq_true]
                        refine hK _ _ ?_
                        clear hK K
                        refine den_stop ?_
                        refine ⟨?_, rfl⟩
                        first | (simp (disch := decide) only [go_sem, g14, eq_self, Bool.true_and, Bool.and_true, Bool.false_and, Bool.and_false, Bool.true_or, Bool.or_true, Bool.false_or, Bool.or_false, if_true, if_false, Bool.false_eq_true]; done) | simp [HasL, sel, puts_at, g14]
                    intro en15
                    simp (disch := decide) only [go_sem]
                    refine den_cond rfl (fun c9 => ?_) (fun c9 => ?_)
                    · try simp only [decide_eq_true_eq, decide_eq_false_iff_not, beq_iff_eq, beq_eq_false_iff_ne, bne_iff_ne, ne_eq, Bool.not_eq_true', Bool.not_eq_false', Bool.and_eq_true, Bool.or_eq_true, bne_eq_false_iff_eq] at c9
                      refine den_seq ?_
                      refine den_region TTok ?_
                      intro K hK
                      simp -implicitDefEqProofs (disch := first | decide | assumption | omega) only [go_sem, wrap_id]
                      refine hK _ _ ?_
                      clear hK K
                      refine den_ret ?_
                      simp (disch := decide) only [resP_1, puts_same, puts_ne]
                      exact absurd c9 (by first | (simp; done) | (simp; omega) | omega | (simp [eqC_self]; done))
                    · try simp only [decide_eq_true_eq, decide_eq_false_iff_not, beq_iff_eq, beq_eq_false_iff_ne, bne_iff_ne, ne_eq, Bool.not_eq_true', Bool.not_eq_false', Bool.and_eq_true, Bool.or_eq_true, bne_eq_false_iff_eq] at c9
                      refine den_skip ?_
                      refine den_seq ?_
                      refine den_region TTok ?_
                      intro K hK
                      simp -implicitDefEqProofs (disch := first | decide | assumption | omega) only [go_sem, BoxAt.cell hb0_0, BoxAt.cell hb0_1, wrap_id]
                      refine hK _ _ ?_
                      clear hK K
                      refine den_seq ?_
                      refine den_region TTok ?_
                      intro K hK
                      simp -implicitDefEqProofs (disch := first | decide | assumption | omega) only [go_sem, BoxAt.cell hb0_0, BoxAt.cell hb0_1, wrap_id]
                      try simp -implicitDefEqProofs (disch := first | decide | assumption | omega) only [go_sem, BoxAt.cell hb0_0, BoxAt.cell hb0_1, wrap_id]
                      refine CallA.mono (markSSS_ok _ ((adP X Y f g k).1) (1 : Int) _ _ how19_5_0 hfw19_5_0.nodup (by omega)) ?_
                      intro v_ h38_2
                      rintro ⟨rfl, hog38_2, cg38_2⟩
                      replace how14_9_0 := OS.chg how14_9_0 cg38_2 (apart_lt hlhow14_9_0 hfw19_5_0 (by omega))
                      replace hb0_0 := BoxAt.chgA hb0_0 cg38_2 (apart_lt hlhb0_0 hfw19_5_0 (by omega))
                      replace hb0_1 := BoxAt.chgA hb0_1 cg38_2 (apart_lt hlhb0_1 hfw19_5_0 (by omega))
                      have := cg38_2.size
                      replace eB := Ext.then eB cg38_2 (ge_of hfw19_5_0 (by omega))
                      have hlhog38_2 := OS.lt hog38_2
                      try simp -implicitDefEqProofs (disch := first | decide | assumption | omega) only [go_sem, BoxAt.cell hb0_0, BoxAt.cell hb0_1, wrap_id]
                      refine hK _ _ ?_
                      clear hK K
                      refine den_seq ?_
                      refine den_region TTok ?_
                      intro K hK
                      simp -implicitDefEqProofs (disch := first | decide | assumption | omega) only [go_sem, BoxAt.cell hb0_0, BoxAt.cell hb0_1, wrap_id]
                      refine hK _ _ ?_
                      clear hK K
                      refine den_seq ?_
                      refine den_region TTok ?_
                      intro K hK
                      simp -implicitDefEqProofs (disch := first | decide | assumption | omega) only [go_sem, BoxAt.cell hb0_0, BoxAt.cell hb0_1, wrap_id]
                      try simp -implicitDefEqProofs (disch := first | decide | assumption | omega) only [go_sem, BoxAt.cell hb0_0, BoxAt.cell hb0_1, wrap_id]
                      refine CallA.pure (heldSSS_ok _ ((adP X Y f g k).1) (1 : Int) _ (OS.rd hog38_2) (by omega)) ?_
                      try simp -implicitDefEqProofs (disch := first | decide | assumption | omega) only [go_sem, BoxAt.cell hb0_0, BoxAt.cell hb0_1, wrap_id]
                      refine hK _ _ ?_
                      clear hK K
                      refine den_seq ?_
                      refine den_seq ?_
                      refine den_region TTok ?_
                      intro K hK
                      simp -implicitDefEqProofs (disch := first | decide | assumption | omega) only [go_sem, BoxAt.cell hb0_0, BoxAt.cell hb0_1, wrap_id]
                      refine hK _ _ ?_
                      clear hK K
                      refine den_cond rfl (fun c10 => ?_) (fun c10 => ?_)
                      · try simp only [decide_eq_true_eq, decide_eq_false_iff_not, beq_iff_eq, beq_eq_false_iff_ne, bne_iff_ne, ne_eq, Bool.not_eq_true', Bool.not_eq_false', Bool.and_eq_true, Bool.or_eq_true, bne_eq_false_iff_eq] at c10
                        refine den_seq ?_
                        refine den_region TTok ?_
                        intro K hK
                        simp -implicitDefEqProofs (disch := first | decide | assumption | omega) only [go_sem, wrap_id]
                        refine hK _ _ ?_
                        clear hK K
                        refine den_ret ?_
                        simp (disch := decide) only [resP_1, puts_same, puts_ne]
                        exact absurd c10 (by first | (simp; done) | (simp; omega) | omega | (simp [eqC_self]; done))
                      · try simp only [decide_eq_true_eq, decide_eq_false_iff_not, beq_iff_eq, beq_eq_false_iff_ne, bne_iff_ne, ne_eq, Bool.not_eq_true', Bool.not_eq_false', Bool.and_eq_true, Bool.or_eq_true, bne_eq_false_iff_eq] at c10
                        refine den_skip ?_
                        refine den_seq ?_
                        refine den_seq ?_
                        refine den_region TTok ?_
                        intro K hK
                        simp -implicitDefEqProofs (disch := first | decide | assumption | omega) only [go_sem, BoxAt.cell hb0_0, BoxAt.cell hb0_1, wrap_id]
                        refine hK _ _ ?_
                        clear hK K
                        refine den_cond rfl (fun c11 => ?_) (fun c11 => ?_)
                        · try simp only [decide_eq_true_eq, decide_eq_false_iff_not, beq_iff_eq, beq_eq_false_iff_ne, bne_iff_ne, ne_eq, Bool.not_eq_true', Bool.not_eq_false', Bool.and_eq_true, Bool.or_eq_true, bne_eq_false_iff_eq] at c11
                          refine den_seq ?_
                          refine den_region TTok ?_
                          intro K hK
                          simp -implicitDefEqProofs (disch := first | decide | assumption | omega) only [go_sem, wrap_id]
                          refine hK _ _ ?_
                          clear hK K
                          refine den_ret ?_
                          simp (disch := decide) only [resP_1, puts_same, puts_ne]
                          exact absurd c11 (by first | (simp; done) | (simp; omega) | omega | (simp [eqC_self]; done))
                        · try simp only [decide_eq_true_eq, decide_eq_false_iff_not, beq_iff_eq, beq_eq_false_iff_ne, bne_iff_ne, ne_eq, Bool.not_eq_true', Bool.not_eq_false', Bool.and_eq_true, Bool.or_eq_true, bne_eq_false_iff_eq] at c11
                          refine den_skip ?_
                          refine den_seq ?_
                          refine den_draw TTok mixed [] [(0, true), (2, true), (4, true), (6, true), (8, true), (1, false), (3, false), (5, false), (7, false), (9, false), (10, true), (11, true), (12, true), (13, true), (14, true)] (by kernel_rfl) ?_
                          intro K hK
                          simp -implicitDefEqProofs (disch := first | decide | assumption | omega) only [go_sem, ld25, BoxAt.cell hb0_0, BoxAt.cell hb0_1, wrap_id]
                          try simp -implicitDefEqProofs (disch := first | decide | assumption | omega) only [go_sem, BoxAt.cell hb0_0, BoxAt.cell hb0_1, wrap_id]
                          refine CallA.mono (toC_ok _ X _ ⟨_, _, rfl, (RdS.pres hdX (Ext.pres eB)), (RdS.pres hmX (Ext.pres eB))⟩ hMX) ?_
                          intro v_ h45_1
                          rintro ⟨vd45_1, vm45_1, fd45_1, fm45_1, rfl, hod45_1, hom45_1, hf45_1, e45_1⟩
                          replace how14_9_0 := OS.ext how14_9_0 e45_1
                          replace hog38_2 := OS.ext hog38_2 e45_1
                          replace hb0_0 := BoxAt.ext hb0_0 e45_1
                          replace hb0_1 := BoxAt.ext hb0_1 e45_1
                          have := Ext.size e45_1
                          replace eB := Ext.trans eB e45_1
                          have hfd45_1 := hf45_1.left
                          have hfm45_1 := hf45_1.right
                          have hlhod45_1 := OS.lt hod45_1
                          have hlhom45_1 := OS.lt hom45_1
                          have ap18 : Apart fd45_1 fm45_1 := apart_nodup hf45_1
                          try simp (disch := decide) only [outv_some, outv_none, put_puts]
                          refine plK_pres (Ext.pres e45_1) ?_
                          try simp -implicitDefEqProofs (disch := first | decide | assumption | omega) only [go_sem, BoxAt.cell hb0_0, BoxAt.cell hb0_1, wrap_id]
                          try simp -implicitDefEqProofs (disch := first | decide | assumption | omega) only [go_sem, BoxAt.cell hb0_0, BoxAt.cell hb0_1, wrap_id]
                          refine CallA.mono (toC_ok _ Y _ ⟨_, _, rfl, (RdS.pres hdY (Ext.pres eB)), (RdS.pres hmY (Ext.pres eB))⟩ hMY) ?_
                          intro v_ h45_3
                          rintro ⟨vd45_3, vm45_3, fd45_3, fm45_3, rfl, hod45_3, hom45_3, hf45_3, e45_3⟩
                          replace how14_9_0 := OS.ext how14_9_0 e45_3
                          replace hog38_2 := OS.ext hog38_2 e45_3
                          replace hod45_1 := OS.ext hod45_1 e45_3
                          replace hom45_1 := OS.ext hom45_1 e45_3
                          replace hb0_0 := BoxAt.ext hb0_0 e45_3
                          replace hb0_1 := BoxAt.ext hb0_1 e45_3
                          have := Ext.size e45_3
                          replace eB := Ext.trans eB e45_3
                          have hfd45_3 := hf45_3.left
                          have hfm45_3 := hf45_3.right
                          have hlhod45_3 := OS.lt hod45_3
                          have hlhom45_3 := OS.lt hom45_3
                          have ap19 : Apart fd45_3 fm45_3 := apart_nodup hf45_3
                          try simp (disch := decide) only [outv_some, outv_none, put_puts]
                          refine plK_pres (Ext.pres e45_3) ?_
                          try simp -implicitDefEqProofs (disch := first | decide | assumption | omega) only [go_sem, BoxAt.cell hb0_0, BoxAt.cell hb0_1, wrap_id]
                          try simp -implicitDefEqProofs (disch := first | decide | assumption | omega) only [go_sem, BoxAt.cell hb0_0, BoxAt.cell hb0_1, wrap_id]
                          refine CallA.mono (toSSS_ok _ f _ (RdS.pres rf (Ext.pres eB)) hMf) ?_
                          intro v45_5 h45_5
                          rintro ⟨f45_5, ho45_5, hf45_5, e45_5⟩
                          replace how14_9_0 := OS.ext how14_9_0 e45_5
                          replace hog38_2 := OS.ext hog38_2 e45_5
                          replace hod45_1 := OS.ext hod45_1 e45_5
                          replace hom45_1 := OS.ext hom45_1 e45_5
                          replace hod45_3 := OS.ext hod45_3 e45_5
                          replace hom45_3 := OS.ext hom45_3 e45_5
                          replace hb0_0 := BoxAt.ext hb0_0 e45_5
                          replace hb0_1 := BoxAt.ext hb0_1 e45_5
                          have := Ext.size e45_5
                          replace eB := Ext.trans eB e45_5
                          have hlho45_5 := OS.lt ho45_5
                          try simp (disch := decide) only [outv_some, outv_none, put_puts]
                          refine plK_pres (Ext.pres e45_5) ?_
                          try simp -implicitDefEqProofs (disch := first | decide | assumption | omega) only [go_sem, BoxAt.cell hb0_0, BoxAt.cell hb0_1, wrap_id]
                          try simp -implicitDefEqProofs (disch := first | decide | assumption | omega) only [go_sem, BoxAt.cell hb0_0, BoxAt.cell hb0_1, wrap_id]
                          refine CallA.mono (toSSS_ok _ g _ (RdS.pres rg (Ext.pres eB)) hMg) ?_
                          intro v45_7 h45_7
                          rintro ⟨f45_7, ho45_7, hf45_7, e45_7⟩
                          replace how14_9_0 := OS.ext how14_9_0 e45_7
                          replace hog38_2 := OS.ext hog38_2 e45_7
                          replace hod45_1 := OS.ext hod45_1 e45_7
                          replace hom45_1 := OS.ext hom45_1 e45_7
                          replace hod45_3 := OS.ext hod45_3 e45_7
                          replace hom45_3 := OS.ext hom45_3 e45_7
                          replace ho45_5 := OS.ext ho45_5 e45_7
                          replace hb0_0 := BoxAt.ext hb0_0 e45_7
                          replace hb0_1 := BoxAt.ext hb0_1 e45_7
                          have := Ext.size e45_7
                          replace eB := Ext.trans eB e45_7
                          have hlho45_7 := OS.lt ho45_7
                          try simp (disch := decide) only [outv_some, outv_none, put_puts]
                          refine plK_pres (Ext.pres e45_7) ?_
                          try simp -implicitDefEqProofs (disch := first | decide | assumption | omega) only [go_sem, BoxAt.cell hb0_0, BoxAt.cell hb0_1, wrap_id]
                          try simp -implicitDefEqProofs (disch := first | decide | assumption | omega) only [go_sem, BoxAt.cell hb0_0, BoxAt.cell hb0_1, wrap_id]
                          refine CallA.mono (iAd_ok _ _ _ _ X Y f g k _ ⟨_, _, rfl, (OS.rd hod45_1), (OS.rd hom45_1)⟩ ⟨_, _, rfl, (OS.rd hod45_3), (OS.rd hom45_3)⟩ (OS.rd ho45_5) (OS.rd ho45_7) ) ?_
                          intro v_ h45_9
                          rintro ⟨vw45_9_0, fw45_9_0, rfl, how45_9_0, hfw45_9_0, e45_9⟩
                          replace how14_9_0 := OS.ext how14_9_0 e45_9
                          replace hog38_2 := OS.ext hog38_2 e45_9
                          replace hod45_1 := OS.ext hod45_1 e45_9
                          replace hom45_1 := OS.ext hom45_1 e45_9
                          replace hod45_3 := OS.ext hod45_3 e45_9
                          replace hom45_3 := OS.ext hom45_3 e45_9
                          replace ho45_5 := OS.ext ho45_5 e45_9
                          replace ho45_7 := OS.ext ho45_7 e45_9
                          replace hb0_0 := BoxAt.ext hb0_0 e45_9
                          replace hb0_1 := BoxAt.ext hb0_1 e45_9
                          have := Ext.size e45_9
                          replace eB := Ext.trans eB e45_9
                          have hlhow45_9_0 := OS.lt how45_9_0
                          try simp (disch := decide) only [outv_some, outv_none, put_puts]
                          refine plK_pres (Ext.pres e45_9) ?_
                          try simp -implicitDefEqProofs (disch := first | decide | assumption | omega) only [go_sem, BoxAt.cell hb0_0, BoxAt.cell hb0_1, wrap_id]
                          refine hK _ _ ?_
                          clear hK K
                          refine den_seq ?_
                          refine den_seq ?_
                          refine den_mergeH [(161, .bool (((!(true)) || (((adP X Y f g k).2) != ((adP X Y f g k).2)))))] [18, 21] ?_ ?_
                            -- a way
                          · refine den_region TTok ?_
                            intro K hK
                            simp -implicitDefEqProofs (disch := first | decide | assumption | (simp (disch := decide) only [slotOf_zero, slotOf_succ, Option.map_some, puts_same, puts_ne, gv_bool, gv_undef, tt, tf, ft, ff, eq_self, if_true, if_false, Bool.false_eq_true, Bool.not_true, Bool.not_false]; done) | omega) only [go_sem, wrap_id]
                            try simp -implicitDefEqProofs (disch := first | decide | assumption | omega) only [go_sem, wrap_id]
                            refine CallA.pure (eqSSS_same _ _ _ _ (OS.rd how45_9_0) (OS.rd how14_9_0)) ?_
                            try simp -implicitDefEqProofs (disch := first | decide | assumption | (simp (disch := decide) only [slotOf_zero, slotOf_succ, Option.map_some, puts_same, puts_ne, gv_bool, gv_undef, tt, tf, ft, ff, eq_self, if_true, if_false, Bool.false_eq_true, Bool.not_true, Bool.not_false]; done) | omega) only [go_sem, wrap_id]
                            try simp -implicitDefEqProofs (disch := first | decide | assumption | (simp (disch := decide) only [slotOf_zero, slotOf_succ, Option.map_some, puts_same, puts_ne, gv_bool, gv_undef, tt, tf, ft, ff, eq_self, if_true, if_false, Bool.false_eq_true, Bool.not_true, Bool.not_false]; done) | omega) only [go_sem, wrap_id]
                            refine hK _ _ ?_
                            clear hK K
                            refine den_stop ?_
                            refine ⟨?_, rfl⟩
                            first | (simp (disch := decide) only [go_sem, eq_self, Bool.true_and, Bool.and_true, Bool.false_and, Bool.and_false, Bool.true_or, Bool.or_true, Bool.false_or, Bool.or_false, if_true, if_false, Bool.false_eq_true]; done) | simp [HasL, sel, puts_at]
                          intro en20
                          simp (disch := decide) only [go_sem]
                          refine den_cond rfl (fun c12 => ?_) (fun c12 => ?_)
                          · try simp only [decide_eq_true_eq, decide_eq_false_iff_not, beq_iff_eq, beq_eq_false_iff_ne, bne_iff_ne, ne_eq, Bool.not_eq_true', Bool.not_eq_false', Bool.and_eq_true, Bool.or_eq_true, bne_eq_false_iff_eq] at c12
                            refine den_seq ?_
                            refine den_region TTok ?_
                            intro K hK
                            simp -implicitDefEqProofs (disch := first | decide | assumption | omega) only [go_sem, wrap_id]
                            refine hK _ _ ?_
                            clear hK K
                            refine den_ret ?_
                            simp (disch := decide) only [resP_1, puts_same, puts_ne]
                            exact absurd c12 (by first | (simp; done) | (simp; omega) | omega | (simp [eqC_self]; done))
                          · try simp only [decide_eq_true_eq, decide_eq_false_iff_not, beq_iff_eq, beq_eq_false_iff_ne, bne_iff_ne, ne_eq, Bool.not_eq_true', Bool.not_eq_false', Bool.and_eq_true, Bool.or_eq_true, bne_eq_false_iff_eq] at c12
                            refine den_skip ?_
                            refine den_seq ?_
                            refine den_region TTok ?_
                            intro K hK
                            simp -implicitDefEqProofs (disch := first | decide | assumption | omega) only [go_sem, wrap_id]
                            refine hK _ _ ?_
                            clear hK K
                            refine den_seq ?_
                            refine den_region TTok ?_
                            intro K hK
                            simp -implicitDefEqProofs (disch := first | decide | assumption | omega) only [go_sem, wrap_id]
                            try simp -implicitDefEqProofs (disch := first | decide | assumption | omega) only [go_sem, wrap_id]
                            refine CallA.pure (heldSSS_ok _ ((adP X Y f g k).1) (1 : Int) _ (OS.rd hog38_2) (by omega)) ?_
                            try simp -implicitDefEqProofs (disch := first | decide | assumption | omega) only [go_sem, wrap_id]
                            refine hK _ _ ?_
                            clear hK K
                            refine den_seq ?_
                            refine den_seq ?_
                            refine den_region TTok ?_
                            intro K hK
                            simp -implicitDefEqProofs (disch := first | decide | assumption | omega) only [go_sem, wrap_id]
                            refine hK _ _ ?_
                            clear hK K
                            refine den_cond rfl (fun c13 => ?_) (fun c13 => ?_)
                            · try simp only [decide_eq_true_eq, decide_eq_false_iff_not, beq_iff_eq, beq_eq_false_iff_ne, bne_iff_ne, ne_eq, Bool.not_eq_true', Bool.not_eq_false', Bool.and_eq_true, Bool.or_eq_true, bne_eq_false_iff_eq] at c13
                              refine den_seq ?_
                              refine den_region TTok ?_
                              intro K hK
                              simp -implicitDefEqProofs (disch := first | decide | assumption | omega) only [go_sem, wrap_id]
                              refine hK _ _ ?_
                              clear hK K
                              refine den_ret ?_
                              simp (disch := decide) only [resP_1, puts_same, puts_ne]
                              exact absurd c13 (by first | (simp; done) | (simp; omega) | omega | (simp [eqC_self]; done))
                            · try simp only [decide_eq_true_eq, decide_eq_false_iff_not, beq_iff_eq, beq_eq_false_iff_ne, bne_iff_ne, ne_eq, Bool.not_eq_true', Bool.not_eq_false', Bool.and_eq_true, Bool.or_eq_true, bne_eq_false_iff_eq] at c13
                              refine den_skip ?_
                              refine den_seq ?_
                              refine den_seq ?_
                              refine den_region TTok ?_
                              intro K hK
                              simp -implicitDefEqProofs (disch := first | decide | assumption | omega) only [go_sem, wrap_id]
                              refine hK _ _ ?_
                              clear hK K
                              refine den_cond rfl (fun c14 => ?_) (fun c14 => ?_)
                              · try simp only [decide_eq_true_eq, decide_eq_false_iff_not, beq_iff_eq, beq_eq_false_iff_ne, bne_iff_ne, ne_eq, Bool.not_eq_true', Bool.not_eq_false', Bool.and_eq_true, Bool.or_eq_true, bne_eq_false_iff_eq] at c14
                                refine den_seq ?_
                                refine den_region TTok ?_
                                intro K hK
                                simp -implicitDefEqProofs (disch := first | decide | assumption | omega) only [go_sem, wrap_id]
                                refine hK _ _ ?_
                                clear hK K
                                refine den_ret ?_
                                simp (disch := decide) only [resP_1, puts_same, puts_ne]
                                exact absurd c14 (by first | (simp; done) | (simp; omega) | omega | (simp [eqC_self]; done))
                              · try simp only [decide_eq_true_eq, decide_eq_false_iff_not, beq_iff_eq, beq_eq_false_iff_ne, bne_iff_ne, ne_eq, Bool.not_eq_true', Bool.not_eq_false', Bool.and_eq_true, Bool.or_eq_true, bne_eq_false_iff_eq] at c14
                                refine den_skip ?_
                                refine den_seq ?_
                                refine den_region TTok ?_
                                intro K hK
                                simp -implicitDefEqProofs (disch := first | decide | assumption | omega) only [go_sem, wrap_id]
                                refine hK _ _ ?_
                                clear hK K
                                refine den_ret ?_
                                simp (disch := decide) only [resP_1, puts_same, puts_ne]
                                exact ⟨by first | rfl | trivial, eB⟩

end Go.Proofs.Ytffggocjkhcgeaa
