/-
  Walks: the statement's function.
  Conditions: each theorem's own.
-/
import Derived.Test.YtffggocjkhcgeaaB2
set_option linter.unusedVariables false
set_option linter.unusedSimpArgs false
namespace Go.Proofs.Ytffggocjkhcgeaa
open Go
noncomputable def afC (X Y : Cx) (f : List (List (List Int))) (n : Int) (v : List Int) : Int := cadd (famC X Y [f]) 2 (!(in3 n 0 ((X.dims.length : Int) - 1)) || !(isRow X.p (dimP X n) v))
noncomputable def afP (X Y : Cx) (f : List (List (List Int))) (n : Int) (v : List Int) : List Int × Int := if afC X Y f n v = 0 then (imgP X Y f 0 n v, 0) else ([], afC X Y f n v)
theorem afC_0 {X Y : Cx} {f : List (List (List Int))} {n : Int} {v : List Int} (h : afC X Y f n v = 0) : IsC X ∧ IsC Y ∧ IsFam X Y f 0 ∧ (0 ≤ n ∧ n ≤ (X.dims.length : Int) - 1) ∧ (v.length : Int) = X.dims.getD n.toNat 0 ∧ Bnd X.p v := by
  obtain ⟨h1, h2⟩ := (cadd_0 (by decide)).1 h
  obtain ⟨h3, h4⟩ := famC_0 h1
  obtain ⟨hX, hY, _, _⟩ := pairC_0 h3
  simp only [Bool.or_eq_false_iff, Bool.not_eq_false', in3_iff, isRow_iff] at h2
  refine ⟨hX, hY, h4 f (by simp), h2.1, ?_, h2.2.2⟩
  rw [h2.2.1, dimP, if_pos (in3_iff.2 h2.1)]
theorem cnt_af (X Y : Cx) (f : List (List (List Int))) (n : Int) (v : List Int) : 0 ≤ cnt1 (afP X Y f n v).1 ∧ cnt1 (afP X Y f n v).1 ≤ 8 := by
  unfold afP
  split
  · rename_i hc
    obtain ⟨hX, hY, hF, hn, hv, _⟩ := afC_0 hc
    have := img_len hY hF hn.1 hn.2 hv
    have := dimP_bnd hY (n + 0)
    simp only [cnt1]; omega
  · exact ⟨Int.le_refl _, by show (0 : Int) ≤ _; decide⟩

set_option maxRecDepth 100000 in
theorem sAf_ok (vX vY vf vv : Value) (X : Cx) (Y : Cx) (f : List (List (List Int))) (n : Int) (v : List Int) (h : Heap) (rX : RC h vX X) (rY : RC h vY Y) (rf : R3 h vf f) (rv : R1 h vv v)  : CallA Try.prog 17 #[vX, vY, vf, .int .i64 n, vv] h fun v' h' => ∃ w0 f0, v' = .tuple #[w0, .int .i64 ((afP X Y f n v).2)] ∧ O1 h' w0 ((afP X Y f n v).1) f0 ∧ Fresh h.size f0 ∧ Ext h h' := by
  obtain ⟨vdX, vmX, rfl, hdX, hmX⟩ := rX
  have hledX := RdS.le hdX
  have hlemX := RdS.le hmX
  obtain ⟨vdY, vmY, rfl, hdY, hmY⟩ := rY
  have hledY := RdS.le hdY
  have hlemY := RdS.le hmY
  have hlef := RdS.le rf
  have hlev := RdS.le rv
  refine callA_intro TTok (args := [_, _, _, _, _]) Try.func17 (by kernel_rfl) rfl 45 rfl (by simp) [.tmp 10, .tmp 11] rfl ?_
  simp only [idxs, Nat.reduceAdd]
  refine den_seq ?_
  refine den_region TTok ?_
  intro K hK
  simp -implicitDefEqProofs (disch := first | decide | assumption | omega) only [go_sem, RdS.len hdX sl22, RdS.idx hdX sl22, R1.intB hdX (HPres.refl _), RdS.cells hdX, RdS.len hmX sl23, RdS.idx hmX sl23, RdS.cellB hmX (HPres.refl _), RdS.cells hmX, RdS.len hdY sl22, RdS.idx hdY sl22, R1.intB hdY (HPres.refl _), RdS.cells hdY, RdS.len hmY sl23, RdS.idx hmY sl23, RdS.cellB hmY (HPres.refl _), RdS.cells hmY, RdS.len rf sl23, RdS.idx rf sl23, RdS.cellB rf (HPres.refl _), RdS.cells rf, RdS.len rv sl22, RdS.idx rv sl22, R1.intB rv (HPres.refl _), RdS.cells rv, wrap_id]
  refine op_box (cs := #[.int .i64 (X.p), vdX, vmX]) rfl ?_
  intro h0_0 e0_0 hb0_0 z0_0
  have := Ext.size e0_0
  have eB := e0_0
  have hfhb0_0 : Fresh h.size [h.size] := Fresh.one _
  have hlhb0_0 := one_lt (show h.size < h0_0.size by omega)
  try simp -implicitDefEqProofs (disch := first | decide | assumption | omega) only [go_sem, RdS.len hdX sl22, RdS.idx hdX sl22, R1.intB hdX (Ext.pres eB), RdS.cells hdX, RdS.len hmX sl23, RdS.idx hmX sl23, RdS.cellB hmX (Ext.pres eB), RdS.cells hmX, RdS.len hdY sl22, RdS.idx hdY sl22, R1.intB hdY (Ext.pres eB), RdS.cells hdY, RdS.len hmY sl23, RdS.idx hmY sl23, RdS.cellB hmY (Ext.pres eB), RdS.cells hmY, RdS.len rf sl23, RdS.idx rf sl23, RdS.cellB rf (Ext.pres eB), RdS.cells rf, RdS.len rv sl22, RdS.idx rv sl22, R1.intB rv (Ext.pres eB), RdS.cells rv, BoxAt.cell hb0_0, wrap_id]
  refine op_box (cs := #[.int .i64 (Y.p), vdY, vmY]) rfl ?_
  intro h0_1 e0_1 hb0_1 z0_1
  replace hb0_0 := BoxAt.ext hb0_0 e0_1
  have := Ext.size e0_1
  replace eB := Ext.trans eB e0_1
  have hfhb0_1 : Fresh h0_0.size [h0_0.size] := Fresh.one _
  have hlhb0_1 := one_lt (show h0_0.size < h0_1.size by omega)
  try simp -implicitDefEqProofs (disch := first | decide | assumption | omega) only [go_sem, RdS.len hdX sl22, RdS.idx hdX sl22, R1.intB hdX (Ext.pres eB), RdS.cells hdX, RdS.len hmX sl23, RdS.idx hmX sl23, RdS.cellB hmX (Ext.pres eB), RdS.cells hmX, RdS.len hdY sl22, RdS.idx hdY sl22, R1.intB hdY (Ext.pres eB), RdS.cells hdY, RdS.len hmY sl23, RdS.idx hmY sl23, RdS.cellB hmY (Ext.pres eB), RdS.cells hmY, RdS.len rf sl23, RdS.idx rf sl23, RdS.cellB rf (Ext.pres eB), RdS.cells rf, RdS.len rv sl22, RdS.idx rv sl22, R1.intB rv (Ext.pres eB), RdS.cells rv, BoxAt.cell hb0_0, BoxAt.cell hb0_1, wrap_id]
  refine hK _ _ ?_
  clear hK K
  refine den_seq ?_
  refine den_region TTok ?_
  intro K hK
  simp -implicitDefEqProofs (disch := first | decide | assumption | omega) only [go_sem, ld30, RdS.len hdX sl22, RdS.idx hdX sl22, R1.intB hdX (Ext.pres eB), RdS.cells hdX, RdS.len hmX sl23, RdS.idx hmX sl23, RdS.cellB hmX (Ext.pres eB), RdS.cells hmX, RdS.len hdY sl22, RdS.idx hdY sl22, R1.intB hdY (Ext.pres eB), RdS.cells hdY, RdS.len hmY sl23, RdS.idx hmY sl23, RdS.cellB hmY (Ext.pres eB), RdS.cells hmY, RdS.len rf sl23, RdS.idx rf sl23, RdS.cellB rf (Ext.pres eB), RdS.cells rf, RdS.len rv sl22, RdS.idx rv sl22, R1.intB rv (Ext.pres eB), RdS.cells rv, BoxAt.cell hb0_0, BoxAt.cell hb0_1, wrap_id]
  refine op_bs1F (RdS.pres rf (Ext.pres eB)) ?_
  intro v1_3 h1_3 ho1_3 e1_3
  replace hb0_0 := BoxAt.ext hb0_0 e1_3
  replace hb0_1 := BoxAt.ext hb0_1 e1_3
  have := Ext.size e1_3
  replace eB := Ext.trans eB e1_3
  have xr1 := Ext.refl h1_3
  try simp -implicitDefEqProofs (disch := first | decide | assumption | omega) only [go_sem, RdS.len hdX sl22, RdS.idx hdX sl22, R1.intB hdX (Ext.pres eB), RdS.cells hdX, RdS.len hmX sl23, RdS.idx hmX sl23, RdS.cellB hmX (Ext.pres eB), RdS.cells hmX, RdS.len hdY sl22, RdS.idx hdY sl22, R1.intB hdY (Ext.pres eB), RdS.cells hdY, RdS.len hmY sl23, RdS.idx hmY sl23, RdS.cellB hmY (Ext.pres eB), RdS.cells hmY, RdS.len rf sl23, RdS.idx rf sl23, RdS.cellB rf (Ext.pres eB), RdS.cells rf, RdS.len rv sl22, RdS.idx rv sl22, R1.intB rv (Ext.pres eB), RdS.cells rv, BoxAt.cell hb0_0, BoxAt.cell hb0_1, RdS.len ho1_3 sl114, RdS.idx ho1_3 sl114, RdS.cellB ho1_3 (Ext.pres xr1), RdS.cells ho1_3, wrap_id]
  try simp -implicitDefEqProofs (disch := first | decide | assumption | omega) only [go_sem, RdS.len hdX sl22, RdS.idx hdX sl22, R1.intB hdX (Ext.pres eB), RdS.cells hdX, RdS.len hmX sl23, RdS.idx hmX sl23, RdS.cellB hmX (Ext.pres eB), RdS.cells hmX, RdS.len hdY sl22, RdS.idx hdY sl22, R1.intB hdY (Ext.pres eB), RdS.cells hdY, RdS.len hmY sl23, RdS.idx hmY sl23, RdS.cellB hmY (Ext.pres eB), RdS.cells hmY, RdS.len rf sl23, RdS.idx rf sl23, RdS.cellB rf (Ext.pres eB), RdS.cells rf, RdS.len rv sl22, RdS.idx rv sl22, R1.intB rv (Ext.pres eB), RdS.cells rv, BoxAt.cell hb0_0, BoxAt.cell hb0_1, RdS.len ho1_3 sl114, RdS.idx ho1_3 sl114, RdS.cellB ho1_3 (Ext.pres xr1), RdS.cells ho1_3, wrap_id]
  refine CallA.mono (sFamC_ok _ _ _ X Y ([f]) _ ⟨_, _, rfl, (RdS.pres hdX (Ext.pres eB)), (RdS.pres hmX (Ext.pres eB))⟩ ⟨_, _, rfl, (RdS.pres hdY (Ext.pres eB)), (RdS.pres hmY (Ext.pres eB))⟩ (RdS.pres ho1_3 (Ext.pres xr1)) ) ?_
  intro v_ h1_4
  rintro ⟨rfl, e1_4⟩
  replace hb0_0 := BoxAt.ext hb0_0 e1_4
  replace hb0_1 := BoxAt.ext hb0_1 e1_4
  have := Ext.size e1_4
  replace eB := Ext.trans eB e1_4
  replace xr1 := Ext.trans xr1 e1_4
  try simp -implicitDefEqProofs (disch := first | decide | assumption | omega) only [go_sem, RdS.len hdX sl22, RdS.idx hdX sl22, R1.intB hdX (Ext.pres eB), RdS.cells hdX, RdS.len hmX sl23, RdS.idx hmX sl23, RdS.cellB hmX (Ext.pres eB), RdS.cells hmX, RdS.len hdY sl22, RdS.idx hdY sl22, R1.intB hdY (Ext.pres eB), RdS.cells hdY, RdS.len hmY sl23, RdS.idx hmY sl23, RdS.cellB hmY (Ext.pres eB), RdS.cells hmY, RdS.len rf sl23, RdS.idx rf sl23, RdS.cellB rf (Ext.pres eB), RdS.cells rf, RdS.len rv sl22, RdS.idx rv sl22, R1.intB rv (Ext.pres eB), RdS.cells rv, BoxAt.cell hb0_0, BoxAt.cell hb0_1, RdS.len ho1_3 sl114, RdS.idx ho1_3 sl114, RdS.cellB ho1_3 (Ext.pres xr1), RdS.cells ho1_3, wrap_id]
  refine hK _ _ ?_
  clear hK K
  refine den_seq ?_
  refine den_seq ?_
  refine den_merge [(35, .bool ((((famC X Y ([f])) == (0 : Int)) && ((!((in3 n (0 : Int) (((X.dims).length : Int) - (1 : Int))))) || (!((isRow X.p (dimP X n) v)))))))] [2, 3, 4, 5, 6, 12] (fun H => Ext h1_4 H) ?_ ?_
    -- a way
  · refine den_region TTok ?_
    intro K hK
    simp -implicitDefEqProofs (disch := first | decide | assumption | (simp (disch := decide) only [slotOf_zero, slotOf_succ, Option.map_some, puts_same, puts_ne, gv_bool, gv_undef, tt, tf, ft, ff, eq_self, if_true, if_false, Bool.false_eq_true, Bool.not_true, Bool.not_false]; done) | omega) only [go_sem, RdS.len hdX sl22, RdS.idx hdX sl22, R1.intB hdX (Ext.pres eB), RdS.cells hdX, RdS.len hmX sl23, RdS.idx hmX sl23, RdS.cellB hmX (Ext.pres eB), RdS.cells hmX, RdS.len hdY sl22, RdS.idx hdY sl22, R1.intB hdY (Ext.pres eB), RdS.cells hdY, RdS.len hmY sl23, RdS.idx hmY sl23, RdS.cellB hmY (Ext.pres eB), RdS.cells hmY, RdS.len rf sl23, RdS.idx rf sl23, RdS.cellB rf (Ext.pres eB), RdS.cells rf, RdS.len rv sl22, RdS.idx rv sl22, R1.intB rv (Ext.pres eB), RdS.cells rv, BoxAt.cell hb0_0, BoxAt.cell hb0_1, RdS.len ho1_3 sl114, RdS.idx ho1_3 sl114, RdS.cellB ho1_3 (Ext.pres xr1), RdS.cells ho1_3, wrap_id]
    refine opsP_T (by simp (disch := decide) only [slotOf_zero, slotOf_succ, Option.map_some, puts_same, puts_ne, gv_bool, gv_undef, tt, tf, ft, ff, eq_self, if_true, if_false, Bool.false_eq_true, Bool.not_true, Bool.not_false]; rfl) (fun g2 => ?_) (fun g2 => ?_)
    · obtain ⟨h1_, _⟩ := famC_0 (b0 g2)
      obtain ⟨hX, hY, hpp, hll⟩ := pairC_0 h1_
      have hpb := isP_bnd hX.p
      try simp -implicitDefEqProofs (disch := first | decide | assumption | (simp (disch := decide) only [slotOf_zero, slotOf_succ, Option.map_some, puts_same, puts_ne, gv_bool, gv_undef, tt, tf, ft, ff, eq_self, if_true, if_false, Bool.false_eq_true, Bool.not_true, Bool.not_false, g2]; done) | omega) only [go_sem, fa30_1, ld22, RdS.len hdX sl22, RdS.idx hdX sl22, R1.intB hdX (Ext.pres eB), RdS.cells hdX, RdS.len hmX sl23, RdS.idx hmX sl23, RdS.cellB hmX (Ext.pres eB), RdS.cells hmX, RdS.len hdY sl22, RdS.idx hdY sl22, R1.intB hdY (Ext.pres eB), RdS.cells hdY, RdS.len hmY sl23, RdS.idx hmY sl23, RdS.cellB hmY (Ext.pres eB), RdS.cells hmY, RdS.len rf sl23, RdS.idx rf sl23, RdS.cellB rf (Ext.pres eB), RdS.cells rf, RdS.len rv sl22, RdS.idx rv sl22, R1.intB rv (Ext.pres eB), RdS.cells rv, BoxAt.cell hb0_0, BoxAt.cell hb0_1, RdS.len ho1_3 sl114, RdS.idx ho1_3 sl114, RdS.cellB ho1_3 (Ext.pres xr1), RdS.cells ho1_3, wrap_id, g2, eq_self, if_true, if_false, Bool.false_eq_true]
      try simp -implicitDefEqProofs (disch := first | decide | assumption | omega) only [go_sem, RdS.len hdX sl22, RdS.idx hdX sl22, R1.intB hdX (Ext.pres eB), RdS.cells hdX, RdS.len hmX sl23, RdS.idx hmX sl23, RdS.cellB hmX (Ext.pres eB), RdS.cells hmX, RdS.len hdY sl22, RdS.idx hdY sl22, R1.intB hdY (Ext.pres eB), RdS.cells hdY, RdS.len hmY sl23, RdS.idx hmY sl23, RdS.cellB hmY (Ext.pres eB), RdS.cells hmY, RdS.len rf sl23, RdS.idx rf sl23, RdS.cellB rf (Ext.pres eB), RdS.cells rf, RdS.len rv sl22, RdS.idx rv sl22, R1.intB rv (Ext.pres eB), RdS.cells rv, BoxAt.cell hb0_0, BoxAt.cell hb0_1, RdS.len ho1_3 sl114, RdS.idx ho1_3 sl114, RdS.cellB ho1_3 (Ext.pres xr1), RdS.cells ho1_3, wrap_id]
      refine CallA.pure (sIn_ok _ _ _ _) ?_
      try simp -implicitDefEqProofs (disch := first | decide | assumption | (simp (disch := decide) only [slotOf_zero, slotOf_succ, Option.map_some, puts_same, puts_ne, gv_bool, gv_undef, tt, tf, ft, ff, eq_self, if_true, if_false, Bool.false_eq_true, Bool.not_true, Bool.not_false, g2]; done) | omega) only [go_sem, RdS.len hdX sl22, RdS.idx hdX sl22, R1.intB hdX (Ext.pres eB), RdS.cells hdX, RdS.len hmX sl23, RdS.idx hmX sl23, RdS.cellB hmX (Ext.pres eB), RdS.cells hmX, RdS.len hdY sl22, RdS.idx hdY sl22, R1.intB hdY (Ext.pres eB), RdS.cells hdY, RdS.len hmY sl23, RdS.idx hmY sl23, RdS.cellB hmY (Ext.pres eB), RdS.cells hmY, RdS.len rf sl23, RdS.idx rf sl23, RdS.cellB rf (Ext.pres eB), RdS.cells rf, RdS.len rv sl22, RdS.idx rv sl22, R1.intB rv (Ext.pres eB), RdS.cells rv, BoxAt.cell hb0_0, BoxAt.cell hb0_1, RdS.len ho1_3 sl114, RdS.idx ho1_3 sl114, RdS.cellB ho1_3 (Ext.pres xr1), RdS.cells ho1_3, wrap_id, g2, eq_self, if_true, if_false, Bool.false_eq_true]
      refine opsP_F (by simp (disch := decide) only [slotOf_zero, slotOf_succ, Option.map_some, puts_same, puts_ne, gv_bool, gv_undef, tt, tf, ft, ff, eq_self, if_true, if_false, Bool.false_eq_true, Bool.not_true, Bool.not_false, g2]; rfl) (fun g3 => ?_) (fun g3 => ?_)
      · try simp -implicitDefEqProofs (disch := first | decide | assumption | (simp (disch := decide) only [slotOf_zero, slotOf_succ, Option.map_some, puts_same, puts_ne, gv_bool, gv_undef, tt, tf, ft, ff, eq_self, if_true, if_false, Bool.false_eq_true, Bool.not_true, Bool.not_false, g2, g3]; done) | omega) only [go_sem, ld30, RdS.len hdX sl22, RdS.idx hdX sl22, R1.intB hdX (Ext.pres eB), RdS.cells hdX, RdS.len hmX sl23, RdS.idx hmX sl23, RdS.cellB hmX (Ext.pres eB), RdS.cells hmX, RdS.len hdY sl22, RdS.idx hdY sl22, R1.intB hdY (Ext.pres eB), RdS.cells hdY, RdS.len hmY sl23, RdS.idx hmY sl23, RdS.cellB hmY (Ext.pres eB), RdS.cells hmY, RdS.len rf sl23, RdS.idx rf sl23, RdS.cellB rf (Ext.pres eB), RdS.cells rf, RdS.len rv sl22, RdS.idx rv sl22, R1.intB rv (Ext.pres eB), RdS.cells rv, BoxAt.cell hb0_0, BoxAt.cell hb0_1, RdS.len ho1_3 sl114, RdS.idx ho1_3 sl114, RdS.cellB ho1_3 (Ext.pres xr1), RdS.cells ho1_3, wrap_id, g2, g3, eq_self, if_true, if_false, Bool.false_eq_true]
        try simp -implicitDefEqProofs (disch := first | decide | assumption | omega) only [go_sem, RdS.len hdX sl22, RdS.idx hdX sl22, R1.intB hdX (Ext.pres eB), RdS.cells hdX, RdS.len hmX sl23, RdS.idx hmX sl23, RdS.cellB hmX (Ext.pres eB), RdS.cells hmX, RdS.len hdY sl22, RdS.idx hdY sl22, R1.intB hdY (Ext.pres eB), RdS.cells hdY, RdS.len hmY sl23, RdS.idx hmY sl23, RdS.cellB hmY (Ext.pres eB), RdS.cells hmY, RdS.len rf sl23, RdS.idx rf sl23, RdS.cellB rf (Ext.pres eB), RdS.cells rf, RdS.len rv sl22, RdS.idx rv sl22, R1.intB rv (Ext.pres eB), RdS.cells rv, BoxAt.cell hb0_0, BoxAt.cell hb0_1, RdS.len ho1_3 sl114, RdS.idx ho1_3 sl114, RdS.cellB ho1_3 (Ext.pres xr1), RdS.cells ho1_3, wrap_id]
        refine CallA.mono (l04Vec_ok _ _ X n v _ ⟨_, _, rfl, (RdS.pres hdX (Ext.pres eB)), (RdS.pres hmX (Ext.pres eB))⟩ (RdS.pres rv (Ext.pres eB)) (by omega)) ?_
        intro v_ h2_14
        rintro ⟨rfl, e2_14⟩
        replace hb0_0 := BoxAt.ext hb0_0 e2_14
        replace hb0_1 := BoxAt.ext hb0_1 e2_14
        have := Ext.size e2_14
        replace eB := Ext.trans eB e2_14
        replace xr1 := Ext.trans xr1 e2_14
        try simp -implicitDefEqProofs (disch := first | decide | assumption | (simp (disch := decide) only [slotOf_zero, slotOf_succ, Option.map_some, puts_same, puts_ne, gv_bool, gv_undef, tt, tf, ft, ff, eq_self, if_true, if_false, Bool.false_eq_true, Bool.not_true, Bool.not_false, g2, g3]; done) | omega) only [go_sem, RdS.len hdX sl22, RdS.idx hdX sl22, R1.intB hdX (Ext.pres eB), RdS.cells hdX, RdS.len hmX sl23, RdS.idx hmX sl23, RdS.cellB hmX (Ext.pres eB), RdS.cells hmX, RdS.len hdY sl22, RdS.idx hdY sl22, R1.intB hdY (Ext.pres eB), RdS.cells hdY, RdS.len hmY sl23, RdS.idx hmY sl23, RdS.cellB hmY (Ext.pres eB), RdS.cells hmY, RdS.len rf sl23, RdS.idx rf sl23, RdS.cellB rf (Ext.pres eB), RdS.cells rf, RdS.len rv sl22, RdS.idx rv sl22, R1.intB rv (Ext.pres eB), RdS.cells rv, BoxAt.cell hb0_0, BoxAt.cell hb0_1, RdS.len ho1_3 sl114, RdS.idx ho1_3 sl114, RdS.cellB ho1_3 (Ext.pres xr1), RdS.cells ho1_3, wrap_id, g2, g3, eq_self, if_true, if_false, Bool.false_eq_true]
        refine hK _ _ ?_
        clear hK K
        refine den_stop ?_
        refine ⟨?_, e2_14⟩
        first | (simp (disch := decide) only [go_sem, g2, g3, eq_self, Bool.true_and, Bool.and_true, Bool.false_and, Bool.and_false, Bool.true_or, Bool.or_true, Bool.false_or, Bool.or_false, if_true, if_false, Bool.false_eq_true]; done) | simp [HasL, sel, puts_at, g2, g3]
      · try simp -implicitDefEqProofs (disch := first | decide | assumption | (simp (disch := decide) only [slotOf_zero, slotOf_succ, Option.map_some, puts_same, puts_ne, gv_bool, gv_undef, tt, tf, ft, ff, eq_self, if_true, if_false, Bool.false_eq_true, Bool.not_true, Bool.not_false, g2, g3]; done) | omega) only [go_sem, RdS.len hdX sl22, RdS.idx hdX sl22, R1.intB hdX (Ext.pres eB), RdS.cells hdX, RdS.len hmX sl23, RdS.idx hmX sl23, RdS.cellB hmX (Ext.pres eB), RdS.cells hmX, RdS.len hdY sl22, RdS.idx hdY sl22, R1.intB hdY (Ext.pres eB), RdS.cells hdY, RdS.len hmY sl23, RdS.idx hmY sl23, RdS.cellB hmY (Ext.pres eB), RdS.cells hmY, RdS.len rf sl23, RdS.idx rf sl23, RdS.cellB rf (Ext.pres eB), RdS.cells rf, RdS.len rv sl22, RdS.idx rv sl22, R1.intB rv (Ext.pres eB), RdS.cells rv, BoxAt.cell hb0_0, BoxAt.cell hb0_1, RdS.len ho1_3 sl114, RdS.idx ho1_3 sl114, RdS.cellB ho1_3 (Ext.pres xr1), RdS.cells ho1_3, wrap_id, g2, g3, eq_self, if_true, if_false, Bool.false_eq_true]
        refine hK _ _ ?_
        clear hK K
        refine den_stop ?_
        refine ⟨?_, Ext.refl _⟩
        first | (simp (disch := decide) only [go_sem, g2, g3, eq_self, Bool.true_and, Bool.and_true, Bool.false_and, Bool.and_false, Bool.true_or, Bool.or_true, Bool.false_or, Bool.or_false, if_true, if_false, Bool.false_eq_true]; done) | simp [HasL, sel, puts_at, g2, g3]
    · try simp -implicitDefEqProofs (disch := first | decide | assumption | (simp (disch := decide) only [slotOf_zero, slotOf_succ, Option.map_some, puts_same, puts_ne, gv_bool, gv_undef, tt, tf, ft, ff, eq_self, if_true, if_false, Bool.false_eq_true, Bool.not_true, Bool.not_false, g2]; done) | omega) only [go_sem, RdS.len hdX sl22, RdS.idx hdX sl22, R1.intB hdX (Ext.pres eB), RdS.cells hdX, RdS.len hmX sl23, RdS.idx hmX sl23, RdS.cellB hmX (Ext.pres eB), RdS.cells hmX, RdS.len hdY sl22, RdS.idx hdY sl22, R1.intB hdY (Ext.pres eB), RdS.cells hdY, RdS.len hmY sl23, RdS.idx hmY sl23, RdS.cellB hmY (Ext.pres eB), RdS.cells hmY, RdS.len rf sl23, RdS.idx rf sl23, RdS.cellB rf (Ext.pres eB), RdS.cells rf, RdS.len rv sl22, RdS.idx rv sl22, R1.intB rv (Ext.pres eB), RdS.cells rv, BoxAt.cell hb0_0, BoxAt.cell hb0_1, RdS.len ho1_3 sl114, RdS.idx ho1_3 sl114, RdS.cellB ho1_3 (Ext.pres xr1), RdS.cells ho1_3, wrap_id, g2, eq_self, if_true, if_false, Bool.false_eq_true]
      try simp -implicitDefEqProofs (disch := first | decide | assumption | (simp (disch := decide) only [slotOf_zero, slotOf_succ, Option.map_some, puts_same, puts_ne, gv_bool, gv_undef, tt, tf, ft, ff, eq_self, if_true, if_false, Bool.false_eq_true, Bool.not_true, Bool.not_false, g2]; done) | omega) only [go_sem, RdS.len hdX sl22, RdS.idx hdX sl22, R1.intB hdX (Ext.pres eB), RdS.cells hdX, RdS.len hmX sl23, RdS.idx hmX sl23, RdS.cellB hmX (Ext.pres eB), RdS.cells hmX, RdS.len hdY sl22, RdS.idx hdY sl22, R1.intB hdY (Ext.pres eB), RdS.cells hdY, RdS.len hmY sl23, RdS.idx hmY sl23, RdS.cellB hmY (Ext.pres eB), RdS.cells hmY, RdS.len rf sl23, RdS.idx rf sl23, RdS.cellB rf (Ext.pres eB), RdS.cells rf, RdS.len rv sl22, RdS.idx rv sl22, R1.intB rv (Ext.pres eB), RdS.cells rv, BoxAt.cell hb0_0, BoxAt.cell hb0_1, RdS.len ho1_3 sl114, RdS.idx ho1_3 sl114, RdS.cellB ho1_3 (Ext.pres xr1), RdS.cells ho1_3, wrap_id, g2, eq_self, if_true, if_false, Bool.false_eq_true]
      refine hK _ _ ?_
      clear hK K
      refine den_stop ?_
      refine ⟨?_, Ext.refl _⟩
      first | (simp (disch := decide) only [go_sem, g2, eq_self, Bool.true_and, Bool.and_true, Bool.false_and, Bool.and_false, Bool.true_or, Bool.or_true, Bool.false_or, Bool.or_false, if_true, if_false, Bool.false_eq_true]; done) | simp [HasL, sel, puts_at, g2]
  intro en4 h5 e6
  replace hb0_0 := BoxAt.ext hb0_0 e6
  replace hb0_1 := BoxAt.ext hb0_1 e6
  have := Ext.size e6
  replace eB := Ext.trans eB e6
  replace xr1 := Ext.trans xr1 e6
  simp (disch := decide) only [go_sem]
  refine den_mergeH [(12, .int .i64 ((cadd (famC X Y ([f])) (2 : Int) ((!((in3 n (0 : Int) (((X.dims).length : Int) - (1 : Int))))) || (!((isRow X.p (dimP X n) v)))))))] [2, 3, 4, 5, 6] ?_ ?_
  · refine den_cond rfl (fun c0 => ?_) (fun c0 => ?_)
    · refine den_region TTok ?_
      intro K hK
      simp -implicitDefEqProofs (disch := first | decide | assumption | omega) only [go_sem, RdS.len hdX sl22, RdS.idx hdX sl22, R1.intB hdX (Ext.pres eB), RdS.cells hdX, RdS.len hmX sl23, RdS.idx hmX sl23, RdS.cellB hmX (Ext.pres eB), RdS.cells hmX, RdS.len hdY sl22, RdS.idx hdY sl22, R1.intB hdY (Ext.pres eB), RdS.cells hdY, RdS.len hmY sl23, RdS.idx hmY sl23, RdS.cellB hmY (Ext.pres eB), RdS.cells hmY, RdS.len rf sl23, RdS.idx rf sl23, RdS.cellB rf (Ext.pres eB), RdS.cells rf, RdS.len rv sl22, RdS.idx rv sl22, R1.intB rv (Ext.pres eB), RdS.cells rv, BoxAt.cell hb0_0, BoxAt.cell hb0_1, RdS.len ho1_3 sl114, RdS.idx ho1_3 sl114, RdS.cellB ho1_3 (Ext.pres xr1), RdS.cells ho1_3, wrap_id]
      refine hK _ _ ?_
      clear hK K
      refine den_stop ?_
      refine ⟨?_, rfl⟩; simp (disch := decide) only [go_sem, c0, caddT c0, eq_self, if_true, if_false, Bool.false_eq_true, reduceCtorEq]
    · refine den_skip ?_
      refine den_stop ?_
      refine ⟨?_, rfl⟩; simp (disch := decide) only [go_sem, c0, caddF c0, eq_self, if_true, if_false, Bool.false_eq_true, reduceCtorEq]
  intro en7
  simp (disch := decide) only [go_sem]
  refine den_seq ?_
  refine den_seq ?_
  refine den_region TTok ?_
  intro K hK
  simp -implicitDefEqProofs (disch := first | decide | assumption | omega) only [go_sem, RdS.len hdX sl22, RdS.idx hdX sl22, R1.intB hdX (Ext.pres eB), RdS.cells hdX, RdS.len hmX sl23, RdS.idx hmX sl23, RdS.cellB hmX (Ext.pres eB), RdS.cells hmX, RdS.len hdY sl22, RdS.idx hdY sl22, R1.intB hdY (Ext.pres eB), RdS.cells hdY, RdS.len hmY sl23, RdS.idx hmY sl23, RdS.cellB hmY (Ext.pres eB), RdS.cells hmY, RdS.len rf sl23, RdS.idx rf sl23, RdS.cellB rf (Ext.pres eB), RdS.cells rf, RdS.len rv sl22, RdS.idx rv sl22, R1.intB rv (Ext.pres eB), RdS.cells rv, BoxAt.cell hb0_0, BoxAt.cell hb0_1, RdS.len ho1_3 sl114, RdS.idx ho1_3 sl114, RdS.cellB ho1_3 (Ext.pres xr1), RdS.cells ho1_3, wrap_id]
  refine hK _ _ ?_
  clear hK K
  refine den_cond rfl (fun c1 => ?_) (fun c1 => ?_)
  · try simp only [decide_eq_true_eq, decide_eq_false_iff_not, beq_iff_eq, beq_eq_false_iff_ne, bne_iff_ne, ne_eq, Bool.not_eq_true', Bool.not_eq_false', Bool.and_eq_true, Bool.or_eq_true, bne_eq_false_iff_eq] at c1
    refine den_seq ?_
    refine den_region TTok ?_
    intro K hK
    simp -implicitDefEqProofs (disch := first | decide | assumption | omega) only [go_sem, RdS.len hdX sl22, RdS.idx hdX sl22, R1.intB hdX (Ext.pres eB), RdS.cells hdX, RdS.len hmX sl23, RdS.idx hmX sl23, RdS.cellB hmX (Ext.pres eB), RdS.cells hmX, RdS.len hdY sl22, RdS.idx hdY sl22, R1.intB hdY (Ext.pres eB), RdS.cells hdY, RdS.len hmY sl23, RdS.idx hmY sl23, RdS.cellB hmY (Ext.pres eB), RdS.cells hmY, RdS.len rf sl23, RdS.idx rf sl23, RdS.cellB rf (Ext.pres eB), RdS.cells rf, RdS.len rv sl22, RdS.idx rv sl22, R1.intB rv (Ext.pres eB), RdS.cells rv, RdS.len ho1_3 sl114, RdS.idx ho1_3 sl114, RdS.cellB ho1_3 (Ext.pres xr1), RdS.cells ho1_3, wrap_id]
    refine hK _ _ ?_
    clear hK K
    refine den_ret ?_
    simp (disch := decide) only [resP_2, puts_same, puts_ne]
    have hz : afP X Y f n v = ([], afC X Y f n v) := by rw [afP, if_neg (show ¬ afC X Y f n v = 0 from c1)]
    rw [hz]
    exact ⟨.slice none 0 0, [], rfl, OS.nil, Fresh.nil _, eB⟩
  · try simp only [decide_eq_true_eq, decide_eq_false_iff_not, beq_iff_eq, beq_eq_false_iff_ne, bne_iff_ne, ne_eq, Bool.not_eq_true', Bool.not_eq_false', Bool.and_eq_true, Bool.or_eq_true, bne_eq_false_iff_eq] at c1
    obtain ⟨hX, hY, hF, hn, hvl, hvb⟩ := afC_0 (show afC X Y f n v = 0 from c1)
    have hvv : 0 ≤ n ∧ n ≤ (X.dims.length : Int) - 1 → (v.length : Int) = X.dims.getD n.toNat 0 ∧ Bnd X.p v := fun _ => ⟨hvl, hvb⟩
    have hlX := hX.len
    refine den_skip ?_
    refine den_seq ?_
    refine den_region TTok ?_
    intro K hK
    simp -implicitDefEqProofs (disch := first | decide | assumption | omega) only [go_sem, ld30, RdS.len hdX sl22, RdS.idx hdX sl22, R1.intB hdX (Ext.pres eB), RdS.cells hdX, RdS.len hmX sl23, RdS.idx hmX sl23, RdS.cellB hmX (Ext.pres eB), RdS.cells hmX, RdS.len hdY sl22, RdS.idx hdY sl22, R1.intB hdY (Ext.pres eB), RdS.cells hdY, RdS.len hmY sl23, RdS.idx hmY sl23, RdS.cellB hmY (Ext.pres eB), RdS.cells hmY, RdS.len rf sl23, RdS.idx rf sl23, RdS.cellB rf (Ext.pres eB), RdS.cells rf, RdS.len rv sl22, RdS.idx rv sl22, R1.intB rv (Ext.pres eB), RdS.cells rv, BoxAt.cell hb0_0, BoxAt.cell hb0_1, RdS.len ho1_3 sl114, RdS.idx ho1_3 sl114, RdS.cellB ho1_3 (Ext.pres xr1), RdS.cells ho1_3, wrap_id]
    try simp -implicitDefEqProofs (disch := first | decide | assumption | omega) only [go_sem, RdS.len hdX sl22, RdS.idx hdX sl22, R1.intB hdX (Ext.pres eB), RdS.cells hdX, RdS.len hmX sl23, RdS.idx hmX sl23, RdS.cellB hmX (Ext.pres eB), RdS.cells hmX, RdS.len hdY sl22, RdS.idx hdY sl22, R1.intB hdY (Ext.pres eB), RdS.cells hdY, RdS.len hmY sl23, RdS.idx hmY sl23, RdS.cellB hmY (Ext.pres eB), RdS.cells hmY, RdS.len rf sl23, RdS.idx rf sl23, RdS.cellB rf (Ext.pres eB), RdS.cells rf, RdS.len rv sl22, RdS.idx rv sl22, R1.intB rv (Ext.pres eB), RdS.cells rv, BoxAt.cell hb0_0, BoxAt.cell hb0_1, RdS.len ho1_3 sl114, RdS.idx ho1_3 sl114, RdS.cellB ho1_3 (Ext.pres xr1), RdS.cells ho1_3, wrap_id]
    refine CallA.mono (sImg_ok _ _ _ _ X Y f n (0 : Int) v _ ⟨_, _, rfl, (RdS.pres hdX (Ext.pres eB)), (RdS.pres hmX (Ext.pres eB))⟩ ⟨_, _, rfl, (RdS.pres hdY (Ext.pres eB)), (RdS.pres hmY (Ext.pres eB))⟩ (RdS.pres rf (Ext.pres eB)) (RdS.pres rv (Ext.pres eB)) hX hY hF (by omega) (by omega) hvv) ?_
    intro vw6_5_0 h6_5
    rintro ⟨zvw6_5_0, fw6_5_0, rfl, how6_5_0, hfw6_5_0, e6_5⟩
    replace hb0_0 := BoxAt.ext hb0_0 e6_5
    replace hb0_1 := BoxAt.ext hb0_1 e6_5
    have := Ext.size e6_5
    replace eB := Ext.trans eB e6_5
    replace xr1 := Ext.trans xr1 e6_5
    have hlhow6_5_0 := OS.lt how6_5_0
    try simp -implicitDefEqProofs (disch := first | decide | assumption | omega) only [go_sem, RdS.len hdX sl22, RdS.idx hdX sl22, R1.intB hdX (Ext.pres eB), RdS.cells hdX, RdS.len hmX sl23, RdS.idx hmX sl23, RdS.cellB hmX (Ext.pres eB), RdS.cells hmX, RdS.len hdY sl22, RdS.idx hdY sl22, R1.intB hdY (Ext.pres eB), RdS.cells hdY, RdS.len hmY sl23, RdS.idx hmY sl23, RdS.cellB hmY (Ext.pres eB), RdS.cells hmY, RdS.len rf sl23, RdS.idx rf sl23, RdS.cellB rf (Ext.pres eB), RdS.cells rf, RdS.len rv sl22, RdS.idx rv sl22, R1.intB rv (Ext.pres eB), RdS.cells rv, RdS.len (OS.rd how6_5_0) sl22, RdS.idx (OS.rd how6_5_0) sl22, R1.intN (OS.rd how6_5_0), RdS.cells (OS.rd how6_5_0), BoxAt.cell hb0_0, BoxAt.cell hb0_1, RdS.len ho1_3 sl114, RdS.idx ho1_3 sl114, RdS.cellB ho1_3 (Ext.pres xr1), RdS.cells ho1_3, wrap_id]
    refine hK _ _ ?_
    clear hK K
    refine den_ret ?_
    simp (disch := decide) only [resP_2, puts_same, puts_ne]
    have hz : afP X Y f n v = (imgP X Y f 0 n v, 0) := by rw [afP, if_pos (show afC X Y f n v = 0 from c1)]
    rw [hz]
    exact ⟨_, _, rfl, how6_5_0, hfw6_5_0.mono (by omega), eB⟩

set_option maxRecDepth 100000 in
theorem iAf_ok (vX vY vf vv : Value) (X : Cx) (Y : Cx) (f : List (List (List Int))) (n : Int) (v : List Int) (h : Heap) (rX : RC h vX X) (rY : RC h vY Y) (rf : R3 h vf f) (rv : R1 h vv v)  : CallA Try.prog 21 #[vX, vY, vf, .int .i64 n, vv] h fun v' h' => ∃ w0 f0, v' = .tuple #[w0, .int .i64 ((afP X Y f n v).2)] ∧ O1 h' w0 ((afP X Y f n v).1) f0 ∧ Fresh h.size f0 ∧ Ext h h' := by
  obtain ⟨vdX, vmX, rfl, hdX, hmX⟩ := rX
  have hledX := RdS.le hdX
  have hlemX := RdS.le hmX
  obtain ⟨vdY, vmY, rfl, hdY, hmY⟩ := rY
  have hledY := RdS.le hdY
  have hlemY := RdS.le hmY
  have hlef := RdS.le rf
  have hlev := RdS.le rv
  refine callA_intro TTok (args := [_, _, _, _, _]) Try.func21 (by kernel_rfl) rfl 46 rfl (by simp) [.tmp 10, .tmp 11] rfl ?_
  simp only [idxs, Nat.reduceAdd]
  refine den_seq ?_
  refine den_region TTok ?_
  intro K hK
  simp -implicitDefEqProofs (disch := first | decide | assumption | omega) only [go_sem, RdS.len hdX sl22, RdS.idx hdX sl22, R1.intB hdX (HPres.refl _), RdS.cells hdX, RdS.len hmX sl23, RdS.idx hmX sl23, RdS.cellB hmX (HPres.refl _), RdS.cells hmX, RdS.len hdY sl22, RdS.idx hdY sl22, R1.intB hdY (HPres.refl _), RdS.cells hdY, RdS.len hmY sl23, RdS.idx hmY sl23, RdS.cellB hmY (HPres.refl _), RdS.cells hmY, RdS.len rf sl23, RdS.idx rf sl23, RdS.cellB rf (HPres.refl _), RdS.cells rf, RdS.len rv sl22, RdS.idx rv sl22, R1.intB rv (HPres.refl _), RdS.cells rv, wrap_id]
  refine op_box (cs := #[.int .i64 (X.p), vdX, vmX]) rfl ?_
  intro h0_0 e0_0 hb0_0 z0_0
  have := Ext.size e0_0
  have eB := e0_0
  have hfhb0_0 : Fresh h.size [h.size] := Fresh.one _
  have hlhb0_0 := one_lt (show h.size < h0_0.size by omega)
  try simp -implicitDefEqProofs (disch := first | decide | assumption | omega) only [go_sem, RdS.len hdX sl22, RdS.idx hdX sl22, R1.intB hdX (Ext.pres eB), RdS.cells hdX, RdS.len hmX sl23, RdS.idx hmX sl23, RdS.cellB hmX (Ext.pres eB), RdS.cells hmX, RdS.len hdY sl22, RdS.idx hdY sl22, R1.intB hdY (Ext.pres eB), RdS.cells hdY, RdS.len hmY sl23, RdS.idx hmY sl23, RdS.cellB hmY (Ext.pres eB), RdS.cells hmY, RdS.len rf sl23, RdS.idx rf sl23, RdS.cellB rf (Ext.pres eB), RdS.cells rf, RdS.len rv sl22, RdS.idx rv sl22, R1.intB rv (Ext.pres eB), RdS.cells rv, BoxAt.cell hb0_0, wrap_id]
  refine op_box (cs := #[.int .i64 (Y.p), vdY, vmY]) rfl ?_
  intro h0_1 e0_1 hb0_1 z0_1
  replace hb0_0 := BoxAt.ext hb0_0 e0_1
  have := Ext.size e0_1
  replace eB := Ext.trans eB e0_1
  have hfhb0_1 : Fresh h0_0.size [h0_0.size] := Fresh.one _
  have hlhb0_1 := one_lt (show h0_0.size < h0_1.size by omega)
  try simp -implicitDefEqProofs (disch := first | decide | assumption | omega) only [go_sem, RdS.len hdX sl22, RdS.idx hdX sl22, R1.intB hdX (Ext.pres eB), RdS.cells hdX, RdS.len hmX sl23, RdS.idx hmX sl23, RdS.cellB hmX (Ext.pres eB), RdS.cells hmX, RdS.len hdY sl22, RdS.idx hdY sl22, R1.intB hdY (Ext.pres eB), RdS.cells hdY, RdS.len hmY sl23, RdS.idx hmY sl23, RdS.cellB hmY (Ext.pres eB), RdS.cells hmY, RdS.len rf sl23, RdS.idx rf sl23, RdS.cellB rf (Ext.pres eB), RdS.cells rf, RdS.len rv sl22, RdS.idx rv sl22, R1.intB rv (Ext.pres eB), RdS.cells rv, BoxAt.cell hb0_0, BoxAt.cell hb0_1, wrap_id]
  refine hK _ _ ?_
  clear hK K
  refine den_seq ?_
  refine den_region TTok ?_
  intro K hK
  simp -implicitDefEqProofs (disch := first | decide | assumption | omega) only [go_sem, ld30, RdS.len hdX sl22, RdS.idx hdX sl22, R1.intB hdX (Ext.pres eB), RdS.cells hdX, RdS.len hmX sl23, RdS.idx hmX sl23, RdS.cellB hmX (Ext.pres eB), RdS.cells hmX, RdS.len hdY sl22, RdS.idx hdY sl22, R1.intB hdY (Ext.pres eB), RdS.cells hdY, RdS.len hmY sl23, RdS.idx hmY sl23, RdS.cellB hmY (Ext.pres eB), RdS.cells hmY, RdS.len rf sl23, RdS.idx rf sl23, RdS.cellB rf (Ext.pres eB), RdS.cells rf, RdS.len rv sl22, RdS.idx rv sl22, R1.intB rv (Ext.pres eB), RdS.cells rv, BoxAt.cell hb0_0, BoxAt.cell hb0_1, wrap_id]
  refine op_bs1F (RdS.pres rf (Ext.pres eB)) ?_
  intro v1_3 h1_3 ho1_3 e1_3
  replace hb0_0 := BoxAt.ext hb0_0 e1_3
  replace hb0_1 := BoxAt.ext hb0_1 e1_3
  have := Ext.size e1_3
  replace eB := Ext.trans eB e1_3
  have xr1 := Ext.refl h1_3
  try simp -implicitDefEqProofs (disch := first | decide | assumption | omega) only [go_sem, RdS.len hdX sl22, RdS.idx hdX sl22, R1.intB hdX (Ext.pres eB), RdS.cells hdX, RdS.len hmX sl23, RdS.idx hmX sl23, RdS.cellB hmX (Ext.pres eB), RdS.cells hmX, RdS.len hdY sl22, RdS.idx hdY sl22, R1.intB hdY (Ext.pres eB), RdS.cells hdY, RdS.len hmY sl23, RdS.idx hmY sl23, RdS.cellB hmY (Ext.pres eB), RdS.cells hmY, RdS.len rf sl23, RdS.idx rf sl23, RdS.cellB rf (Ext.pres eB), RdS.cells rf, RdS.len rv sl22, RdS.idx rv sl22, R1.intB rv (Ext.pres eB), RdS.cells rv, BoxAt.cell hb0_0, BoxAt.cell hb0_1, RdS.len ho1_3 sl114, RdS.idx ho1_3 sl114, RdS.cellB ho1_3 (Ext.pres xr1), RdS.cells ho1_3, wrap_id]
  try simp -implicitDefEqProofs (disch := first | decide | assumption | omega) only [go_sem, RdS.len hdX sl22, RdS.idx hdX sl22, R1.intB hdX (Ext.pres eB), RdS.cells hdX, RdS.len hmX sl23, RdS.idx hmX sl23, RdS.cellB hmX (Ext.pres eB), RdS.cells hmX, RdS.len hdY sl22, RdS.idx hdY sl22, R1.intB hdY (Ext.pres eB), RdS.cells hdY, RdS.len hmY sl23, RdS.idx hmY sl23, RdS.cellB hmY (Ext.pres eB), RdS.cells hmY, RdS.len rf sl23, RdS.idx rf sl23, RdS.cellB rf (Ext.pres eB), RdS.cells rf, RdS.len rv sl22, RdS.idx rv sl22, R1.intB rv (Ext.pres eB), RdS.cells rv, BoxAt.cell hb0_0, BoxAt.cell hb0_1, RdS.len ho1_3 sl114, RdS.idx ho1_3 sl114, RdS.cellB ho1_3 (Ext.pres xr1), RdS.cells ho1_3, wrap_id]
  refine CallA.mono (iFamC_ok _ _ _ X Y ([f]) _ ⟨_, _, rfl, (RdS.pres hdX (Ext.pres eB)), (RdS.pres hmX (Ext.pres eB))⟩ ⟨_, _, rfl, (RdS.pres hdY (Ext.pres eB)), (RdS.pres hmY (Ext.pres eB))⟩ (RdS.pres ho1_3 (Ext.pres xr1)) ) ?_
  intro v_ h1_4
  rintro ⟨rfl, e1_4⟩
  replace hb0_0 := BoxAt.ext hb0_0 e1_4
  replace hb0_1 := BoxAt.ext hb0_1 e1_4
  have := Ext.size e1_4
  replace eB := Ext.trans eB e1_4
  replace xr1 := Ext.trans xr1 e1_4
  try simp -implicitDefEqProofs (disch := first | decide | assumption | omega) only [go_sem, RdS.len hdX sl22, RdS.idx hdX sl22, R1.intB hdX (Ext.pres eB), RdS.cells hdX, RdS.len hmX sl23, RdS.idx hmX sl23, RdS.cellB hmX (Ext.pres eB), RdS.cells hmX, RdS.len hdY sl22, RdS.idx hdY sl22, R1.intB hdY (Ext.pres eB), RdS.cells hdY, RdS.len hmY sl23, RdS.idx hmY sl23, RdS.cellB hmY (Ext.pres eB), RdS.cells hmY, RdS.len rf sl23, RdS.idx rf sl23, RdS.cellB rf (Ext.pres eB), RdS.cells rf, RdS.len rv sl22, RdS.idx rv sl22, R1.intB rv (Ext.pres eB), RdS.cells rv, BoxAt.cell hb0_0, BoxAt.cell hb0_1, RdS.len ho1_3 sl114, RdS.idx ho1_3 sl114, RdS.cellB ho1_3 (Ext.pres xr1), RdS.cells ho1_3, wrap_id]
  refine hK _ _ ?_
  clear hK K
  refine den_seq ?_
  refine den_seq ?_
  refine den_merge [(36, .bool ((((famC X Y ([f])) == (0 : Int)) && ((!((in3 n (0 : Int) (((X.dims).length : Int) - 1)))) || (!((isRow X.p (dimP X n) (v))))))))] [2, 3, 4, 5, 6, 12] (fun H => Ext h1_4 H) ?_ ?_
    -- a way
  · refine den_draw TTok mixed [] [(0, true), (1, true), (2, true), (3, true), (4, true), (5, false), (6, false), (7, true), (8, true), (9, true), (10, true), (11, true), (12, true), (14, true), (13, false), (15, false), (16, true), (17, true), (18, true)] (by kernel_rfl) ?_
    intro K hK
    simp -implicitDefEqProofs (disch := first | decide | assumption | (simp (disch := decide) only [slotOf_zero, slotOf_succ, Option.map_some, puts_same, puts_ne, gv_bool, gv_undef, tt, tf, ft, ff, eq_self, if_true, if_false, Bool.false_eq_true, Bool.not_true, Bool.not_false]; done) | omega) only [go_sem, RdS.len hdX sl22, RdS.idx hdX sl22, R1.intB hdX (Ext.pres eB), RdS.cells hdX, RdS.len hmX sl23, RdS.idx hmX sl23, RdS.cellB hmX (Ext.pres eB), RdS.cells hmX, RdS.len hdY sl22, RdS.idx hdY sl22, R1.intB hdY (Ext.pres eB), RdS.cells hdY, RdS.len hmY sl23, RdS.idx hmY sl23, RdS.cellB hmY (Ext.pres eB), RdS.cells hmY, RdS.len rf sl23, RdS.idx rf sl23, RdS.cellB rf (Ext.pres eB), RdS.cells rf, RdS.len rv sl22, RdS.idx rv sl22, R1.intB rv (Ext.pres eB), RdS.cells rv, BoxAt.cell hb0_0, BoxAt.cell hb0_1, RdS.len ho1_3 sl114, RdS.idx ho1_3 sl114, RdS.cellB ho1_3 (Ext.pres xr1), RdS.cells ho1_3, wrap_id]
    refine plG_T (by simp (disch := decide) only [slotOf_zero, slotOf_succ, Option.map_some, puts_same, puts_ne, gv_bool, gv_undef, tt, tf, ft, ff, eq_self, if_true, if_false, Bool.false_eq_true, Bool.not_true, Bool.not_false]; rfl) (fun g2 => ?_) (fun g2 => ?_)
    · obtain ⟨h1_, _⟩ := famC_0 (b0 g2)
      obtain ⟨hX, hY, hpp, hll⟩ := pairC_0 h1_
      have hpb := isP_bnd hX.p
      try simp -implicitDefEqProofs (disch := first | decide | assumption | (simp (disch := decide) only [slotOf_zero, slotOf_succ, Option.map_some, puts_same, puts_ne, gv_bool, gv_undef, tt, tf, ft, ff, eq_self, if_true, if_false, Bool.false_eq_true, Bool.not_true, Bool.not_false, g2]; done) | omega) only [go_sem, ld30, RdS.len hdX sl22, RdS.idx hdX sl22, R1.intB hdX (Ext.pres eB), RdS.cells hdX, RdS.len hmX sl23, RdS.idx hmX sl23, RdS.cellB hmX (Ext.pres eB), RdS.cells hmX, RdS.len hdY sl22, RdS.idx hdY sl22, R1.intB hdY (Ext.pres eB), RdS.cells hdY, RdS.len hmY sl23, RdS.idx hmY sl23, RdS.cellB hmY (Ext.pres eB), RdS.cells hmY, RdS.len rf sl23, RdS.idx rf sl23, RdS.cellB rf (Ext.pres eB), RdS.cells rf, RdS.len rv sl22, RdS.idx rv sl22, R1.intB rv (Ext.pres eB), RdS.cells rv, BoxAt.cell hb0_0, BoxAt.cell hb0_1, RdS.len ho1_3 sl114, RdS.idx ho1_3 sl114, RdS.cellB ho1_3 (Ext.pres xr1), RdS.cells ho1_3, wrap_id, g2, eq_self, if_true, if_false, Bool.false_eq_true]
      try simp -implicitDefEqProofs (disch := first | decide | assumption | omega) only [go_sem, RdS.len hdX sl22, RdS.idx hdX sl22, R1.intB hdX (Ext.pres eB), RdS.cells hdX, RdS.len hmX sl23, RdS.idx hmX sl23, RdS.cellB hmX (Ext.pres eB), RdS.cells hmX, RdS.len hdY sl22, RdS.idx hdY sl22, R1.intB hdY (Ext.pres eB), RdS.cells hdY, RdS.len hmY sl23, RdS.idx hmY sl23, RdS.cellB hmY (Ext.pres eB), RdS.cells hmY, RdS.len rf sl23, RdS.idx rf sl23, RdS.cellB rf (Ext.pres eB), RdS.cells rf, RdS.len rv sl22, RdS.idx rv sl22, R1.intB rv (Ext.pres eB), RdS.cells rv, BoxAt.cell hb0_0, BoxAt.cell hb0_1, RdS.len ho1_3 sl114, RdS.idx ho1_3 sl114, RdS.cellB ho1_3 (Ext.pres xr1), RdS.cells ho1_3, wrap_id]
      refine CallA.mono (top_ok _ X _ ⟨_, _, rfl, (RdS.pres hdX (Ext.pres eB)), (RdS.pres hmX (Ext.pres eB))⟩) ?_
      intro v_ h2_5
      rintro ⟨rfl, e2_5⟩
      replace hb0_0 := BoxAt.ext hb0_0 e2_5
      replace hb0_1 := BoxAt.ext hb0_1 e2_5
      have := Ext.size e2_5
      replace eB := Ext.trans eB e2_5
      replace xr1 := Ext.trans xr1 e2_5
      try simp (disch := decide) only [outv_some, outv_none, put_puts]
      refine plK_pres (Ext.pres e2_5) ?_
      try simp -implicitDefEqProofs (disch := first | decide | assumption | (simp (disch := decide) only [slotOf_zero, slotOf_succ, Option.map_some, puts_same, puts_ne, gv_bool, gv_undef, tt, tf, ft, ff, eq_self, if_true, if_false, Bool.false_eq_true, Bool.not_true, Bool.not_false, g2]; done) | omega) only [go_sem, RdS.len hdX sl22, RdS.idx hdX sl22, R1.intB hdX (Ext.pres eB), RdS.cells hdX, RdS.len hmX sl23, RdS.idx hmX sl23, RdS.cellB hmX (Ext.pres eB), RdS.cells hmX, RdS.len hdY sl22, RdS.idx hdY sl22, R1.intB hdY (Ext.pres eB), RdS.cells hdY, RdS.len hmY sl23, RdS.idx hmY sl23, RdS.cellB hmY (Ext.pres eB), RdS.cells hmY, RdS.len rf sl23, RdS.idx rf sl23, RdS.cellB rf (Ext.pres eB), RdS.cells rf, RdS.len rv sl22, RdS.idx rv sl22, R1.intB rv (Ext.pres eB), RdS.cells rv, BoxAt.cell hb0_0, BoxAt.cell hb0_1, RdS.len ho1_3 sl114, RdS.idx ho1_3 sl114, RdS.cellB ho1_3 (Ext.pres xr1), RdS.cells ho1_3, wrap_id, g2, eq_self, if_true, if_false, Bool.false_eq_true]
      try simp -implicitDefEqProofs (disch := first | decide | assumption | omega) only [go_sem, RdS.len hdX sl22, RdS.idx hdX sl22, R1.intB hdX (Ext.pres eB), RdS.cells hdX, RdS.len hmX sl23, RdS.idx hmX sl23, RdS.cellB hmX (Ext.pres eB), RdS.cells hmX, RdS.len hdY sl22, RdS.idx hdY sl22, R1.intB hdY (Ext.pres eB), RdS.cells hdY, RdS.len hmY sl23, RdS.idx hmY sl23, RdS.cellB hmY (Ext.pres eB), RdS.cells hmY, RdS.len rf sl23, RdS.idx rf sl23, RdS.cellB rf (Ext.pres eB), RdS.cells rf, RdS.len rv sl22, RdS.idx rv sl22, R1.intB rv (Ext.pres eB), RdS.cells rv, BoxAt.cell hb0_0, BoxAt.cell hb0_1, RdS.len ho1_3 sl114, RdS.idx ho1_3 sl114, RdS.cellB ho1_3 (Ext.pres xr1), RdS.cells ho1_3, wrap_id]
      refine CallA.pure (iIn_ok _ _ _ _) ?_
      try simp -implicitDefEqProofs (disch := first | decide | assumption | (simp (disch := decide) only [slotOf_zero, slotOf_succ, Option.map_some, puts_same, puts_ne, gv_bool, gv_undef, tt, tf, ft, ff, eq_self, if_true, if_false, Bool.false_eq_true, Bool.not_true, Bool.not_false, g2]; done) | omega) only [go_sem, RdS.len hdX sl22, RdS.idx hdX sl22, R1.intB hdX (Ext.pres eB), RdS.cells hdX, RdS.len hmX sl23, RdS.idx hmX sl23, RdS.cellB hmX (Ext.pres eB), RdS.cells hmX, RdS.len hdY sl22, RdS.idx hdY sl22, R1.intB hdY (Ext.pres eB), RdS.cells hdY, RdS.len hmY sl23, RdS.idx hmY sl23, RdS.cellB hmY (Ext.pres eB), RdS.cells hmY, RdS.len rf sl23, RdS.idx rf sl23, RdS.cellB rf (Ext.pres eB), RdS.cells rf, RdS.len rv sl22, RdS.idx rv sl22, R1.intB rv (Ext.pres eB), RdS.cells rv, BoxAt.cell hb0_0, BoxAt.cell hb0_1, RdS.len ho1_3 sl114, RdS.idx ho1_3 sl114, RdS.cellB ho1_3 (Ext.pres xr1), RdS.cells ho1_3, wrap_id, g2, eq_self, if_true, if_false, Bool.false_eq_true]
      refine plG_F (by simp (disch := decide) only [slotOf_zero, slotOf_succ, Option.map_some, puts_same, puts_ne, gv_bool, gv_undef, tt, tf, ft, ff, eq_self, if_true, if_false, Bool.false_eq_true, Bool.not_true, Bool.not_false, g2]; rfl) (fun g3 => ?_) (fun g3 => ?_)
      · try simp -implicitDefEqProofs (disch := first | decide | assumption | (simp (disch := decide) only [slotOf_zero, slotOf_succ, Option.map_some, puts_same, puts_ne, gv_bool, gv_undef, tt, tf, ft, ff, eq_self, if_true, if_false, Bool.false_eq_true, Bool.not_true, Bool.not_false, g2, g3]; done) | omega) only [go_sem, fa30_0, ld2, ld30, RdS.len hdX sl22, RdS.idx hdX sl22, R1.intB hdX (Ext.pres eB), RdS.cells hdX, RdS.len hmX sl23, RdS.idx hmX sl23, RdS.cellB hmX (Ext.pres eB), RdS.cells hmX, RdS.len hdY sl22, RdS.idx hdY sl22, R1.intB hdY (Ext.pres eB), RdS.cells hdY, RdS.len hmY sl23, RdS.idx hmY sl23, RdS.cellB hmY (Ext.pres eB), RdS.cells hmY, RdS.len rf sl23, RdS.idx rf sl23, RdS.cellB rf (Ext.pres eB), RdS.cells rf, RdS.len rv sl22, RdS.idx rv sl22, R1.intB rv (Ext.pres eB), RdS.cells rv, BoxAt.cell hb0_0, BoxAt.cell hb0_1, RdS.len ho1_3 sl114, RdS.idx ho1_3 sl114, RdS.cellB ho1_3 (Ext.pres xr1), RdS.cells ho1_3, wrap_id, g2, g3, eq_self, if_true, if_false, Bool.false_eq_true]
        try simp -implicitDefEqProofs (disch := first | decide | assumption | omega) only [go_sem, RdS.len hdX sl22, RdS.idx hdX sl22, R1.intB hdX (Ext.pres eB), RdS.cells hdX, RdS.len hmX sl23, RdS.idx hmX sl23, RdS.cellB hmX (Ext.pres eB), RdS.cells hmX, RdS.len hdY sl22, RdS.idx hdY sl22, R1.intB hdY (Ext.pres eB), RdS.cells hdY, RdS.len hmY sl23, RdS.idx hmY sl23, RdS.cellB hmY (Ext.pres eB), RdS.cells hmY, RdS.len rf sl23, RdS.idx rf sl23, RdS.cellB rf (Ext.pres eB), RdS.cells rf, RdS.len rv sl22, RdS.idx rv sl22, R1.intB rv (Ext.pres eB), RdS.cells rv, BoxAt.cell hb0_0, BoxAt.cell hb0_1, RdS.len ho1_3 sl114, RdS.idx ho1_3 sl114, RdS.cellB ho1_3 (Ext.pres xr1), RdS.cells ho1_3, wrap_id]
        refine CallA.mono (iDim_ok _ X _ _ ⟨_, _, rfl, (RdS.pres hdX (Ext.pres eB)), (RdS.pres hmX (Ext.pres eB))⟩) ?_
        intro v_ h2_13
        rintro ⟨rfl, e2_13⟩
        replace hb0_0 := BoxAt.ext hb0_0 e2_13
        replace hb0_1 := BoxAt.ext hb0_1 e2_13
        have := Ext.size e2_13
        replace eB := Ext.trans eB e2_13
        replace xr1 := Ext.trans xr1 e2_13
        try simp (disch := decide) only [outv_some, outv_none, put_puts]
        refine plK_pres (Ext.pres e2_13) ?_
        try simp -implicitDefEqProofs (disch := first | decide | assumption | (simp (disch := decide) only [slotOf_zero, slotOf_succ, Option.map_some, puts_same, puts_ne, gv_bool, gv_undef, tt, tf, ft, ff, eq_self, if_true, if_false, Bool.false_eq_true, Bool.not_true, Bool.not_false, g2, g3]; done) | omega) only [go_sem, RdS.len hdX sl22, RdS.idx hdX sl22, R1.intB hdX (Ext.pres eB), RdS.cells hdX, RdS.len hmX sl23, RdS.idx hmX sl23, RdS.cellB hmX (Ext.pres eB), RdS.cells hmX, RdS.len hdY sl22, RdS.idx hdY sl22, R1.intB hdY (Ext.pres eB), RdS.cells hdY, RdS.len hmY sl23, RdS.idx hmY sl23, RdS.cellB hmY (Ext.pres eB), RdS.cells hmY, RdS.len rf sl23, RdS.idx rf sl23, RdS.cellB rf (Ext.pres eB), RdS.cells rf, RdS.len rv sl22, RdS.idx rv sl22, R1.intB rv (Ext.pres eB), RdS.cells rv, BoxAt.cell hb0_0, BoxAt.cell hb0_1, RdS.len ho1_3 sl114, RdS.idx ho1_3 sl114, RdS.cellB ho1_3 (Ext.pres xr1), RdS.cells ho1_3, wrap_id, g2, g3, eq_self, if_true, if_false, Bool.false_eq_true]
        try simp -implicitDefEqProofs (disch := first | decide | assumption | omega) only [go_sem, RdS.len hdX sl22, RdS.idx hdX sl22, R1.intB hdX (Ext.pres eB), RdS.cells hdX, RdS.len hmX sl23, RdS.idx hmX sl23, RdS.cellB hmX (Ext.pres eB), RdS.cells hmX, RdS.len hdY sl22, RdS.idx hdY sl22, R1.intB hdY (Ext.pres eB), RdS.cells hdY, RdS.len hmY sl23, RdS.idx hmY sl23, RdS.cellB hmY (Ext.pres eB), RdS.cells hmY, RdS.len rf sl23, RdS.idx rf sl23, RdS.cellB rf (Ext.pres eB), RdS.cells rf, RdS.len rv sl22, RdS.idx rv sl22, R1.intB rv (Ext.pres eB), RdS.cells rv, BoxAt.cell hb0_0, BoxAt.cell hb0_1, RdS.len ho1_3 sl114, RdS.idx ho1_3 sl114, RdS.cellB ho1_3 (Ext.pres xr1), RdS.cells ho1_3, wrap_id]
        refine CallA.mono (isVec_ok _ _ _ _ _ (RdS.pres rv (Ext.pres eB)) (by omega)) ?_
        intro v_ h2_15
        rintro ⟨rfl, e2_15⟩
        replace hb0_0 := BoxAt.ext hb0_0 e2_15
        replace hb0_1 := BoxAt.ext hb0_1 e2_15
        have := Ext.size e2_15
        replace eB := Ext.trans eB e2_15
        replace xr1 := Ext.trans xr1 e2_15
        try simp (disch := decide) only [outv_some, outv_none, put_puts]
        refine plK_pres (Ext.pres e2_15) ?_
        try simp -implicitDefEqProofs (disch := first | decide | assumption | (simp (disch := decide) only [slotOf_zero, slotOf_succ, Option.map_some, puts_same, puts_ne, gv_bool, gv_undef, tt, tf, ft, ff, eq_self, if_true, if_false, Bool.false_eq_true, Bool.not_true, Bool.not_false, g2, g3]; done) | omega) only [go_sem, RdS.len hdX sl22, RdS.idx hdX sl22, R1.intB hdX (Ext.pres eB), RdS.cells hdX, RdS.len hmX sl23, RdS.idx hmX sl23, RdS.cellB hmX (Ext.pres eB), RdS.cells hmX, RdS.len hdY sl22, RdS.idx hdY sl22, R1.intB hdY (Ext.pres eB), RdS.cells hdY, RdS.len hmY sl23, RdS.idx hmY sl23, RdS.cellB hmY (Ext.pres eB), RdS.cells hmY, RdS.len rf sl23, RdS.idx rf sl23, RdS.cellB rf (Ext.pres eB), RdS.cells rf, RdS.len rv sl22, RdS.idx rv sl22, R1.intB rv (Ext.pres eB), RdS.cells rv, BoxAt.cell hb0_0, BoxAt.cell hb0_1, RdS.len ho1_3 sl114, RdS.idx ho1_3 sl114, RdS.cellB ho1_3 (Ext.pres xr1), RdS.cells ho1_3, wrap_id, g2, g3, eq_self, if_true, if_false, Bool.false_eq_true]
        refine hK _ _ ?_
        clear hK K
        refine den_stop ?_
        refine ⟨?_, (Ext.trans (Ext.trans e2_5 e2_13) e2_15)⟩
        first | (simp (disch := decide) only [go_sem, g2, g3, eq_self, Bool.true_and, Bool.and_true, Bool.false_and, Bool.and_false, Bool.true_or, Bool.or_true, Bool.false_or, Bool.or_false, if_true, if_false, Bool.false_eq_true]; done) | simp [HasL, sel, puts_at, g2, g3]
      · try simp -implicitDefEqProofs (disch := first | decide | assumption | (simp (disch := decide) only [slotOf_zero, slotOf_succ, Option.map_some, puts_same, puts_ne, gv_bool, gv_undef, tt, tf, ft, ff, eq_self, if_true, if_false, Bool.false_eq_true, Bool.not_true, Bool.not_false, g2, g3]; done) | omega) only [go_sem, RdS.len hdX sl22, RdS.idx hdX sl22, R1.intB hdX (Ext.pres eB), RdS.cells hdX, RdS.len hmX sl23, RdS.idx hmX sl23, RdS.cellB hmX (Ext.pres eB), RdS.cells hmX, RdS.len hdY sl22, RdS.idx hdY sl22, R1.intB hdY (Ext.pres eB), RdS.cells hdY, RdS.len hmY sl23, RdS.idx hmY sl23, RdS.cellB hmY (Ext.pres eB), RdS.cells hmY, RdS.len rf sl23, RdS.idx rf sl23, RdS.cellB rf (Ext.pres eB), RdS.cells rf, RdS.len rv sl22, RdS.idx rv sl22, R1.intB rv (Ext.pres eB), RdS.cells rv, BoxAt.cell hb0_0, BoxAt.cell hb0_1, RdS.len ho1_3 sl114, RdS.idx ho1_3 sl114, RdS.cellB ho1_3 (Ext.pres xr1), RdS.cells ho1_3, wrap_id, g2, g3, eq_self, if_true, if_false, Bool.false_eq_true]
        refine hK _ _ ?_
        clear hK K
        refine den_stop ?_
        refine ⟨?_, e2_5⟩
        first | (simp (disch := decide) only [go_sem, g2, g3, eq_self, Bool.true_and, Bool.and_true, Bool.false_and, Bool.and_false, Bool.true_or, Bool.or_true, Bool.false_or, Bool.or_false, if_true, if_false, Bool.false_eq_true]; done) | simp [HasL, sel, puts_at, g2, g3]
    · try simp -implicitDefEqProofs (disch := first | decide | assumption | (simp (disch := decide) only [slotOf_zero, slotOf_succ, Option.map_some, puts_same, puts_ne, gv_bool, gv_undef, tt, tf, ft, ff, eq_self, if_true, if_false, Bool.false_eq_true, Bool.not_true, Bool.not_false, g2]; done) | omega) only [go_sem, RdS.len hdX sl22, RdS.idx hdX sl22, R1.intB hdX (Ext.pres eB), RdS.cells hdX, RdS.len hmX sl23, RdS.idx hmX sl23, RdS.cellB hmX (Ext.pres eB), RdS.cells hmX, RdS.len hdY sl22, RdS.idx hdY sl22, R1.intB hdY (Ext.pres eB), RdS.cells hdY, RdS.len hmY sl23, RdS.idx hmY sl23, RdS.cellB hmY (Ext.pres eB), RdS.cells hmY, RdS.len rf sl23, RdS.idx rf sl23, RdS.cellB rf (Ext.pres eB), RdS.cells rf, RdS.len rv sl22, RdS.idx rv sl22, R1.intB rv (Ext.pres eB), RdS.cells rv, BoxAt.cell hb0_0, BoxAt.cell hb0_1, RdS.len ho1_3 sl114, RdS.idx ho1_3 sl114, RdS.cellB ho1_3 (Ext.pres xr1), RdS.cells ho1_3, wrap_id, g2, eq_self, if_true, if_false, Bool.false_eq_true]
      try simp -implicitDefEqProofs (disch := first | decide | assumption | (simp (disch := decide) only [slotOf_zero, slotOf_succ, Option.map_some, puts_same, puts_ne, gv_bool, gv_undef, tt, tf, ft, ff, eq_self, if_true, if_false, Bool.false_eq_true, Bool.not_true, Bool.not_false, g2]; done) | omega) only [go_sem, RdS.len hdX sl22, RdS.idx hdX sl22, R1.intB hdX (Ext.pres eB), RdS.cells hdX, RdS.len hmX sl23, RdS.idx hmX sl23, RdS.cellB hmX (Ext.pres eB), RdS.cells hmX, RdS.len hdY sl22, RdS.idx hdY sl22, R1.intB hdY (Ext.pres eB), RdS.cells hdY, RdS.len hmY sl23, RdS.idx hmY sl23, RdS.cellB hmY (Ext.pres eB), RdS.cells hmY, RdS.len rf sl23, RdS.idx rf sl23, RdS.cellB rf (Ext.pres eB), RdS.cells rf, RdS.len rv sl22, RdS.idx rv sl22, R1.intB rv (Ext.pres eB), RdS.cells rv, BoxAt.cell hb0_0, BoxAt.cell hb0_1, RdS.len ho1_3 sl114, RdS.idx ho1_3 sl114, RdS.cellB ho1_3 (Ext.pres xr1), RdS.cells ho1_3, wrap_id, g2, eq_self, if_true, if_false, Bool.false_eq_true]
      refine hK _ _ ?_
      clear hK K
      refine den_stop ?_
      refine ⟨?_, Ext.refl _⟩
      first | (simp (disch := decide) only [go_sem, g2, eq_self, Bool.true_and, Bool.and_true, Bool.false_and, Bool.and_false, Bool.true_or, Bool.or_true, Bool.false_or, Bool.or_false, if_true, if_false, Bool.false_eq_true]; done) | simp [HasL, sel, puts_at, g2]
  intro en4 h5 e6
  replace hb0_0 := BoxAt.ext hb0_0 e6
  replace hb0_1 := BoxAt.ext hb0_1 e6
  have := Ext.size e6
  replace eB := Ext.trans eB e6
  replace xr1 := Ext.trans xr1 e6
  simp (disch := decide) only [go_sem]
  refine den_mergeH [(12, .int .i64 ((cadd (famC X Y ([f])) (2 : Int) ((!((in3 n (0 : Int) (((X.dims).length : Int) - 1)))) || (!((isRow X.p (dimP X n) (v))))))))] [2, 3, 4, 5, 6] ?_ ?_
  · refine den_cond rfl (fun c0 => ?_) (fun c0 => ?_)
    · refine den_region TTok ?_
      intro K hK
      simp -implicitDefEqProofs (disch := first | decide | assumption | omega) only [go_sem, RdS.len hdX sl22, RdS.idx hdX sl22, R1.intB hdX (Ext.pres eB), RdS.cells hdX, RdS.len hmX sl23, RdS.idx hmX sl23, RdS.cellB hmX (Ext.pres eB), RdS.cells hmX, RdS.len hdY sl22, RdS.idx hdY sl22, R1.intB hdY (Ext.pres eB), RdS.cells hdY, RdS.len hmY sl23, RdS.idx hmY sl23, RdS.cellB hmY (Ext.pres eB), RdS.cells hmY, RdS.len rf sl23, RdS.idx rf sl23, RdS.cellB rf (Ext.pres eB), RdS.cells rf, RdS.len rv sl22, RdS.idx rv sl22, R1.intB rv (Ext.pres eB), RdS.cells rv, BoxAt.cell hb0_0, BoxAt.cell hb0_1, RdS.len ho1_3 sl114, RdS.idx ho1_3 sl114, RdS.cellB ho1_3 (Ext.pres xr1), RdS.cells ho1_3, wrap_id]
      refine hK _ _ ?_
      clear hK K
      refine den_stop ?_
      refine ⟨?_, rfl⟩; simp (disch := decide) only [go_sem, c0, caddT c0, eq_self, if_true, if_false, Bool.false_eq_true, reduceCtorEq]
    · refine den_skip ?_
      refine den_stop ?_
      refine ⟨?_, rfl⟩; simp (disch := decide) only [go_sem, c0, caddF c0, eq_self, if_true, if_false, Bool.false_eq_true, reduceCtorEq]
  intro en7
  simp (disch := decide) only [go_sem]
  refine den_seq ?_
  refine den_seq ?_
  refine den_region TTok ?_
  intro K hK
  simp -implicitDefEqProofs (disch := first | decide | assumption | omega) only [go_sem, RdS.len hdX sl22, RdS.idx hdX sl22, R1.intB hdX (Ext.pres eB), RdS.cells hdX, RdS.len hmX sl23, RdS.idx hmX sl23, RdS.cellB hmX (Ext.pres eB), RdS.cells hmX, RdS.len hdY sl22, RdS.idx hdY sl22, R1.intB hdY (Ext.pres eB), RdS.cells hdY, RdS.len hmY sl23, RdS.idx hmY sl23, RdS.cellB hmY (Ext.pres eB), RdS.cells hmY, RdS.len rf sl23, RdS.idx rf sl23, RdS.cellB rf (Ext.pres eB), RdS.cells rf, RdS.len rv sl22, RdS.idx rv sl22, R1.intB rv (Ext.pres eB), RdS.cells rv, BoxAt.cell hb0_0, BoxAt.cell hb0_1, RdS.len ho1_3 sl114, RdS.idx ho1_3 sl114, RdS.cellB ho1_3 (Ext.pres xr1), RdS.cells ho1_3, wrap_id]
  refine hK _ _ ?_
  clear hK K
  refine den_cond rfl (fun c1 => ?_) (fun c1 => ?_)
  · try simp only [decide_eq_true_eq, decide_eq_false_iff_not, beq_iff_eq, beq_eq_false_iff_ne, bne_iff_ne, ne_eq, Bool.not_eq_true', Bool.not_eq_false', Bool.and_eq_true, Bool.or_eq_true, bne_eq_false_iff_eq] at c1
    refine den_seq ?_
    refine den_region TTok ?_
    intro K hK
    simp -implicitDefEqProofs (disch := first | decide | assumption | omega) only [go_sem, RdS.len hdX sl22, RdS.idx hdX sl22, R1.intB hdX (Ext.pres eB), RdS.cells hdX, RdS.len hmX sl23, RdS.idx hmX sl23, RdS.cellB hmX (Ext.pres eB), RdS.cells hmX, RdS.len hdY sl22, RdS.idx hdY sl22, R1.intB hdY (Ext.pres eB), RdS.cells hdY, RdS.len hmY sl23, RdS.idx hmY sl23, RdS.cellB hmY (Ext.pres eB), RdS.cells hmY, RdS.len rf sl23, RdS.idx rf sl23, RdS.cellB rf (Ext.pres eB), RdS.cells rf, RdS.len rv sl22, RdS.idx rv sl22, R1.intB rv (Ext.pres eB), RdS.cells rv, RdS.len ho1_3 sl114, RdS.idx ho1_3 sl114, RdS.cellB ho1_3 (Ext.pres xr1), RdS.cells ho1_3, wrap_id]
    refine hK _ _ ?_
    clear hK K
    refine den_ret ?_
    simp (disch := decide) only [resP_2, puts_same, puts_ne]
    have hz : afP X Y f n v = ([], afC X Y f n v) := by rw [afP, if_neg (show ¬ afC X Y f n v = 0 from c1)]
    rw [hz]
    exact ⟨.slice none 0 0, [], rfl, OS.nil, Fresh.nil _, eB⟩
  · try simp only [decide_eq_true_eq, decide_eq_false_iff_not, beq_iff_eq, beq_eq_false_iff_ne, bne_iff_ne, ne_eq, Bool.not_eq_true', Bool.not_eq_false', Bool.and_eq_true, Bool.or_eq_true, bne_eq_false_iff_eq] at c1
    obtain ⟨hX, hY, hF, hn, hvl, hvb⟩ := afC_0 (show afC X Y f n v = 0 from c1)
    have hvv : 0 ≤ n ∧ n ≤ (X.dims.length : Int) - 1 → (v.length : Int) = X.dims.getD n.toNat 0 ∧ Bnd X.p v := fun _ => ⟨hvl, hvb⟩
    have hlX := hX.len
    refine den_skip ?_
    refine den_seq ?_
    refine den_region TTok ?_
    intro K hK
    simp -implicitDefEqProofs (disch := first | decide | assumption | omega) only [go_sem, ld30, RdS.len hdX sl22, RdS.idx hdX sl22, R1.intB hdX (Ext.pres eB), RdS.cells hdX, RdS.len hmX sl23, RdS.idx hmX sl23, RdS.cellB hmX (Ext.pres eB), RdS.cells hmX, RdS.len hdY sl22, RdS.idx hdY sl22, R1.intB hdY (Ext.pres eB), RdS.cells hdY, RdS.len hmY sl23, RdS.idx hmY sl23, RdS.cellB hmY (Ext.pres eB), RdS.cells hmY, RdS.len rf sl23, RdS.idx rf sl23, RdS.cellB rf (Ext.pres eB), RdS.cells rf, RdS.len rv sl22, RdS.idx rv sl22, R1.intB rv (Ext.pres eB), RdS.cells rv, BoxAt.cell hb0_0, BoxAt.cell hb0_1, RdS.len ho1_3 sl114, RdS.idx ho1_3 sl114, RdS.cellB ho1_3 (Ext.pres xr1), RdS.cells ho1_3, wrap_id]
    try simp -implicitDefEqProofs (disch := first | decide | assumption | omega) only [go_sem, RdS.len hdX sl22, RdS.idx hdX sl22, R1.intB hdX (Ext.pres eB), RdS.cells hdX, RdS.len hmX sl23, RdS.idx hmX sl23, RdS.cellB hmX (Ext.pres eB), RdS.cells hmX, RdS.len hdY sl22, RdS.idx hdY sl22, R1.intB hdY (Ext.pres eB), RdS.cells hdY, RdS.len hmY sl23, RdS.idx hmY sl23, RdS.cellB hmY (Ext.pres eB), RdS.cells hmY, RdS.len rf sl23, RdS.idx rf sl23, RdS.cellB rf (Ext.pres eB), RdS.cells rf, RdS.len rv sl22, RdS.idx rv sl22, R1.intB rv (Ext.pres eB), RdS.cells rv, BoxAt.cell hb0_0, BoxAt.cell hb0_1, RdS.len ho1_3 sl114, RdS.idx ho1_3 sl114, RdS.cellB ho1_3 (Ext.pres xr1), RdS.cells ho1_3, wrap_id]
    refine CallA.mono (iApp_ok _ _ _ _ X Y f (0 : Int) n v _ ⟨_, _, rfl, (RdS.pres hdX (Ext.pres eB)), (RdS.pres hmX (Ext.pres eB))⟩ ⟨_, _, rfl, (RdS.pres hdY (Ext.pres eB)), (RdS.pres hmY (Ext.pres eB))⟩ (RdS.pres rf (Ext.pres eB)) (RdS.pres rv (Ext.pres eB)) hX hY hF (by omega) (by omega) hvv) ?_
    intro vw6_5_0 h6_5
    rintro ⟨zvw6_5_0, fw6_5_0, rfl, how6_5_0, hfw6_5_0, e6_5⟩
    replace hb0_0 := BoxAt.ext hb0_0 e6_5
    replace hb0_1 := BoxAt.ext hb0_1 e6_5
    have := Ext.size e6_5
    replace eB := Ext.trans eB e6_5
    replace xr1 := Ext.trans xr1 e6_5
    have hlhow6_5_0 := OS.lt how6_5_0
    try simp -implicitDefEqProofs (disch := first | decide | assumption | omega) only [go_sem, RdS.len hdX sl22, RdS.idx hdX sl22, R1.intB hdX (Ext.pres eB), RdS.cells hdX, RdS.len hmX sl23, RdS.idx hmX sl23, RdS.cellB hmX (Ext.pres eB), RdS.cells hmX, RdS.len hdY sl22, RdS.idx hdY sl22, R1.intB hdY (Ext.pres eB), RdS.cells hdY, RdS.len hmY sl23, RdS.idx hmY sl23, RdS.cellB hmY (Ext.pres eB), RdS.cells hmY, RdS.len rf sl23, RdS.idx rf sl23, RdS.cellB rf (Ext.pres eB), RdS.cells rf, RdS.len rv sl22, RdS.idx rv sl22, R1.intB rv (Ext.pres eB), RdS.cells rv, RdS.len (OS.rd how6_5_0) sl22, RdS.idx (OS.rd how6_5_0) sl22, R1.intN (OS.rd how6_5_0), RdS.cells (OS.rd how6_5_0), BoxAt.cell hb0_0, BoxAt.cell hb0_1, RdS.len ho1_3 sl114, RdS.idx ho1_3 sl114, RdS.cellB ho1_3 (Ext.pres xr1), RdS.cells ho1_3, wrap_id]
    refine hK _ _ ?_
    clear hK K
    refine den_ret ?_
    simp (disch := decide) only [resP_2, puts_same, puts_ne]
    have hz : afP X Y f n v = (imgP X Y f 0 n v, 0) := by rw [afP, if_pos (show afC X Y f n v = 0 from c1)]
    rw [hz]
    have e : appP X Y f 0 n v = imgP X Y f 0 n v := by rw [appP, if_pos (in3_iff.2 hn)]
    rw [e] at how6_5_0
    exact ⟨_, _, rfl, how6_5_0, hfw6_5_0.mono (by omega), eB⟩

set_option maxRecDepth 100000 in
set_option maxHeartbeats 4000000 in
theorem exactApplyFamily_law (vX vY vf vv : Value) (X : Cx) (Y : Cx) (f : List (List (List Int))) (n : Int) (v : List Int) (h : Heap) (rX : RC h vX X) (rY : RC h vY Y) (rf : R3 h vf f) (rv : R1 h vv v)  : CallA Try.prog 3 #[vX, vY, vf, .int .i64 n, vv] h fun v' h' => v' = .bool (true) ∧ Ext h h' := by
  obtain ⟨vdX, vmX, rfl, hdX, hmX⟩ := rX
  have hledX := RdS.le hdX
  have hlemX := RdS.le hmX
  obtain ⟨vdY, vmY, rfl, hdY, hmY⟩ := rY
  have hledY := RdS.le hdY
  have hlemY := RdS.le hmY
  have hlef := RdS.le rf
  have hlev := RdS.le rv
  refine callA_intro TTok (args := [_, _, _, _, _]) Try.func3 (by kernel_rfl) rfl 168 rfl (by simp) [.tmp 10] rfl ?_
  simp only [idxs, Nat.reduceAdd]
  refine den_seq ?_
  refine den_region TTok ?_
  intro K hK
  simp -implicitDefEqProofs (disch := first | decide | assumption | omega) only [go_sem, RdS.len rv sl22, wrap_id]
  refine op_box (cs := #[.int .i64 (X.p), vdX, vmX]) rfl ?_
  intro h0_0 e0_0 hb0_0 z0_0
  have := Ext.size e0_0
  have eB := e0_0
  have hfhb0_0 : Fresh h.size [h.size] := Fresh.one _
  have hlhb0_0 := one_lt (show h.size < h0_0.size by omega)
  try simp -implicitDefEqProofs (disch := first | decide | assumption | omega) only [go_sem, BoxAt.cell hb0_0, RdS.len rv sl22, wrap_id]
  refine op_box (cs := #[.int .i64 (Y.p), vdY, vmY]) rfl ?_
  intro h0_1 e0_1 hb0_1 z0_1
  replace hb0_0 := BoxAt.ext hb0_0 e0_1
  have := Ext.size e0_1
  replace eB := Ext.trans eB e0_1
  have hfhb0_1 : Fresh h0_0.size [h0_0.size] := Fresh.one _
  have hlhb0_1 := one_lt (show h0_0.size < h0_1.size by omega)
  try simp -implicitDefEqProofs (disch := first | decide | assumption | omega) only [go_sem, BoxAt.cell hb0_0, BoxAt.cell hb0_1, RdS.len rv sl22, wrap_id]
  refine hK _ _ ?_
  clear hK K
  refine den_seq ?_
  refine den_seq ?_
  refine den_region TTok ?_
  intro K hK
  simp -implicitDefEqProofs (disch := first | decide | assumption | omega) only [go_sem, BoxAt.cell hb0_0, BoxAt.cell hb0_1, RdS.len rv sl22, wrap_id]
  refine hK _ _ ?_
  clear hK K
  refine den_cond rfl (fun c0 => ?_) (fun c0 => ?_)
  · try simp only [decide_eq_true_eq, decide_eq_false_iff_not, beq_iff_eq, beq_eq_false_iff_ne, bne_iff_ne, ne_eq, Bool.not_eq_true', Bool.not_eq_false', Bool.and_eq_true, Bool.or_eq_true, bne_eq_false_iff_eq] at c0
    refine den_seq ?_
    refine den_region TTok ?_
    intro K hK
    simp -implicitDefEqProofs (disch := first | decide | assumption | omega) only [go_sem, RdS.len rv sl22, wrap_id]
    refine hK _ _ ?_
    clear hK K
    refine den_ret ?_
    simp (disch := decide) only [resP_1, puts_same, puts_ne]
    exact ⟨by first | rfl | trivial, eB⟩
  · try simp only [decide_eq_true_eq, decide_eq_false_iff_not, beq_iff_eq, beq_eq_false_iff_ne, bne_iff_ne, ne_eq, Bool.not_eq_true', Bool.not_eq_false', Bool.and_eq_true, Bool.or_eq_true, bne_eq_false_iff_eq] at c0
    have hMv : HM1 v := by unfold HM1; omega
    have hcnv := cnt1_le hMv
    refine den_skip ?_
    refine den_seq ?_
    refine den_region TTok ?_
    intro K hK
    simp -implicitDefEqProofs (disch := first | decide | assumption | omega) only [go_sem, BoxAt.cell hb0_0, BoxAt.cell hb0_1, RdS.len rv sl22, wrap_id]
    refine hK _ _ ?_
    clear hK K
    refine den_seq ?_
    refine den_region TTok ?_
    intro K hK
    simp -implicitDefEqProofs (disch := first | decide | assumption | omega) only [go_sem, ld25, BoxAt.cell hb0_0, BoxAt.cell hb0_1, RdS.len rv sl22, wrap_id]
    try simp -implicitDefEqProofs (disch := first | decide | assumption | omega) only [go_sem, BoxAt.cell hb0_0, BoxAt.cell hb0_1, RdS.len rv sl22, wrap_id]
    refine CallA.mono (szC_ok _ X _ _ ⟨_, _, rfl, (RdS.pres hdX (Ext.pres eB)), (RdS.pres hmX (Ext.pres eB))⟩ (by omega) (by omega)) ?_
    intro v_ h4_2
    rintro ⟨rfl, e4_2⟩
    replace hb0_0 := BoxAt.ext hb0_0 e4_2
    replace hb0_1 := BoxAt.ext hb0_1 e4_2
    have := Ext.size e4_2
    replace eB := Ext.trans eB e4_2
    have := szC_le X (1048576 : Int) (by omega)
    try simp -implicitDefEqProofs (disch := first | decide | assumption | omega) only [go_sem, BoxAt.cell hb0_0, BoxAt.cell hb0_1, RdS.len rv sl22, wrap_id]
    refine hK _ _ ?_
    clear hK K
    refine den_seq ?_
    refine den_seq ?_
    refine den_region TTok ?_
    intro K hK
    simp -implicitDefEqProofs (disch := first | decide | assumption | omega) only [go_sem, BoxAt.cell hb0_0, BoxAt.cell hb0_1, RdS.len rv sl22, wrap_id]
    refine hK _ _ ?_
    clear hK K
    refine den_cond rfl (fun c1 => ?_) (fun c1 => ?_)
    · try simp only [decide_eq_true_eq, decide_eq_false_iff_not, beq_iff_eq, beq_eq_false_iff_ne, bne_iff_ne, ne_eq, Bool.not_eq_true', Bool.not_eq_false', Bool.and_eq_true, Bool.or_eq_true, bne_eq_false_iff_eq] at c1
      refine den_seq ?_
      refine den_region TTok ?_
      intro K hK
      simp -implicitDefEqProofs (disch := first | decide | assumption | omega) only [go_sem, RdS.len rv sl22, wrap_id]
      refine hK _ _ ?_
      clear hK K
      refine den_ret ?_
      simp (disch := decide) only [resP_1, puts_same, puts_ne]
      exact ⟨by first | rfl | trivial, eB⟩
    · try simp only [decide_eq_true_eq, decide_eq_false_iff_not, beq_iff_eq, beq_eq_false_iff_ne, bne_iff_ne, ne_eq, Bool.not_eq_true', Bool.not_eq_false', Bool.and_eq_true, Bool.or_eq_true, bne_eq_false_iff_eq] at c1
      have hMX := szC_ok' (by omega) (by omega) c1
      have hcnX := szC_cntA (by omega) (by omega) c1
      refine den_skip ?_
      refine den_seq ?_
      refine den_region TTok ?_
      intro K hK
      simp -implicitDefEqProofs (disch := first | decide | assumption | omega) only [go_sem, ld25, BoxAt.cell hb0_0, BoxAt.cell hb0_1, RdS.len rv sl22, wrap_id]
      try simp -implicitDefEqProofs (disch := first | decide | assumption | omega) only [go_sem, BoxAt.cell hb0_0, BoxAt.cell hb0_1, RdS.len rv sl22, wrap_id]
      refine CallA.mono (szC_ok _ Y _ _ ⟨_, _, rfl, (RdS.pres hdY (Ext.pres eB)), (RdS.pres hmY (Ext.pres eB))⟩ (by omega) (by omega)) ?_
      intro v_ h7_2
      rintro ⟨rfl, e7_2⟩
      replace hb0_0 := BoxAt.ext hb0_0 e7_2
      replace hb0_1 := BoxAt.ext hb0_1 e7_2
      have := Ext.size e7_2
      replace eB := Ext.trans eB e7_2
      have := szC_le Y (szC X (1048576 : Int)) (by omega)
      try simp -implicitDefEqProofs (disch := first | decide | assumption | omega) only [go_sem, BoxAt.cell hb0_0, BoxAt.cell hb0_1, RdS.len rv sl22, wrap_id]
      refine hK _ _ ?_
      clear hK K
      refine den_seq ?_
      refine den_seq ?_
      refine den_region TTok ?_
      intro K hK
      simp -implicitDefEqProofs (disch := first | decide | assumption | omega) only [go_sem, BoxAt.cell hb0_0, BoxAt.cell hb0_1, RdS.len rv sl22, wrap_id]
      refine hK _ _ ?_
      clear hK K
      refine den_cond rfl (fun c2 => ?_) (fun c2 => ?_)
      · try simp only [decide_eq_true_eq, decide_eq_false_iff_not, beq_iff_eq, beq_eq_false_iff_ne, bne_iff_ne, ne_eq, Bool.not_eq_true', Bool.not_eq_false', Bool.and_eq_true, Bool.or_eq_true, bne_eq_false_iff_eq] at c2
        refine den_seq ?_
        refine den_region TTok ?_
        intro K hK
        simp -implicitDefEqProofs (disch := first | decide | assumption | omega) only [go_sem, RdS.len rv sl22, wrap_id]
        refine hK _ _ ?_
        clear hK K
        refine den_ret ?_
        simp (disch := decide) only [resP_1, puts_same, puts_ne]
        exact ⟨by first | rfl | trivial, eB⟩
      · try simp only [decide_eq_true_eq, decide_eq_false_iff_not, beq_iff_eq, beq_eq_false_iff_ne, bne_iff_ne, ne_eq, Bool.not_eq_true', Bool.not_eq_false', Bool.and_eq_true, Bool.or_eq_true, bne_eq_false_iff_eq] at c2
        have hMY := szC_ok' (by omega) (by omega) c2
        have hcnY := szC_cntA (by omega) (by omega) c2
        refine den_skip ?_
        refine den_seq ?_
        refine den_region TTok ?_
        intro K hK
        simp -implicitDefEqProofs (disch := first | decide | assumption | omega) only [go_sem, BoxAt.cell hb0_0, BoxAt.cell hb0_1, RdS.len rv sl22, wrap_id]
        try simp -implicitDefEqProofs (disch := first | decide | assumption | omega) only [go_sem, BoxAt.cell hb0_0, BoxAt.cell hb0_1, RdS.len rv sl22, wrap_id]
        refine CallA.pure (szSSS_ok _ f _ _ (RdS.pres rf (Ext.pres eB)) (by omega) (by omega)) ?_
        have := sz3_le f (szC Y (szC X (1048576 : Int))) (by omega)
        try simp -implicitDefEqProofs (disch := first | decide | assumption | omega) only [go_sem, BoxAt.cell hb0_0, BoxAt.cell hb0_1, RdS.len rv sl22, wrap_id]
        refine hK _ _ ?_
        clear hK K
        refine den_seq ?_
        refine den_seq ?_
        refine den_region TTok ?_
        intro K hK
        simp -implicitDefEqProofs (disch := first | decide | assumption | omega) only [go_sem, BoxAt.cell hb0_0, BoxAt.cell hb0_1, RdS.len rv sl22, wrap_id]
        refine hK _ _ ?_
        clear hK K
        refine den_cond rfl (fun c3 => ?_) (fun c3 => ?_)
        · try simp only [decide_eq_true_eq, decide_eq_false_iff_not, beq_iff_eq, beq_eq_false_iff_ne, bne_iff_ne, ne_eq, Bool.not_eq_true', Bool.not_eq_false', Bool.and_eq_true, Bool.or_eq_true, bne_eq_false_iff_eq] at c3
          refine den_seq ?_
          refine den_region TTok ?_
          intro K hK
          simp -implicitDefEqProofs (disch := first | decide | assumption | omega) only [go_sem, RdS.len rv sl22, wrap_id]
          refine hK _ _ ?_
          clear hK K
          refine den_ret ?_
          simp (disch := decide) only [resP_1, puts_same, puts_ne]
          exact ⟨by first | rfl | trivial, eB⟩
        · try simp only [decide_eq_true_eq, decide_eq_false_iff_not, beq_iff_eq, beq_eq_false_iff_ne, bne_iff_ne, ne_eq, Bool.not_eq_true', Bool.not_eq_false', Bool.and_eq_true, Bool.or_eq_true, bne_eq_false_iff_eq] at c3
          have hMf := sz3_ok (by omega) (by omega) c3
          have hcnf := sz3_cntA (by omega) (by omega) c3
          have hci := cnt_af X Y f n v
          refine den_skip ?_
          refine den_seq ?_
          refine den_draw TTok mixed [] [(0, true), (2, true), (4, true), (6, true), (7, true), (1, false), (3, false), (5, false), (8, false), (9, false), (10, true), (11, true), (12, true), (13, true), (14, true)] (by kernel_rfl) ?_
          intro K hK
          simp -implicitDefEqProofs (disch := first | decide | assumption | omega) only [go_sem, ld25, BoxAt.cell hb0_0, BoxAt.cell hb0_1, RdS.len rv sl22, wrap_id]
          try simp -implicitDefEqProofs (disch := first | decide | assumption | omega) only [go_sem, BoxAt.cell hb0_0, BoxAt.cell hb0_1, RdS.len rv sl22, wrap_id]
          refine CallA.mono (toC_ok _ X _ ⟨_, _, rfl, (RdS.pres hdX (Ext.pres eB)), (RdS.pres hmX (Ext.pres eB))⟩ hMX) ?_
          intro v_ h13_1
          rintro ⟨vd13_1, vm13_1, fd13_1, fm13_1, rfl, hod13_1, hom13_1, hf13_1, e13_1⟩
          replace hb0_0 := BoxAt.ext hb0_0 e13_1
          replace hb0_1 := BoxAt.ext hb0_1 e13_1
          have := Ext.size e13_1
          replace eB := Ext.trans eB e13_1
          have hfd13_1 := hf13_1.left
          have hfm13_1 := hf13_1.right
          have hlhod13_1 := OS.lt hod13_1
          have hlhom13_1 := OS.lt hom13_1
          have ap1 : Apart fd13_1 fm13_1 := apart_nodup hf13_1
          try simp (disch := decide) only [outv_some, outv_none, put_puts]
          refine plK_pres (Ext.pres e13_1) ?_
          try simp -implicitDefEqProofs (disch := first | decide | assumption | omega) only [go_sem, BoxAt.cell hb0_0, BoxAt.cell hb0_1, RdS.len rv sl22, wrap_id]
          try simp -implicitDefEqProofs (disch := first | decide | assumption | omega) only [go_sem, BoxAt.cell hb0_0, BoxAt.cell hb0_1, RdS.len rv sl22, wrap_id]
          refine CallA.mono (toC_ok _ Y _ ⟨_, _, rfl, (RdS.pres hdY (Ext.pres eB)), (RdS.pres hmY (Ext.pres eB))⟩ hMY) ?_
          intro v_ h13_3
          rintro ⟨vd13_3, vm13_3, fd13_3, fm13_3, rfl, hod13_3, hom13_3, hf13_3, e13_3⟩
          replace hod13_1 := OS.ext hod13_1 e13_3
          replace hom13_1 := OS.ext hom13_1 e13_3
          replace hb0_0 := BoxAt.ext hb0_0 e13_3
          replace hb0_1 := BoxAt.ext hb0_1 e13_3
          have := Ext.size e13_3
          replace eB := Ext.trans eB e13_3
          have hfd13_3 := hf13_3.left
          have hfm13_3 := hf13_3.right
          have hlhod13_3 := OS.lt hod13_3
          have hlhom13_3 := OS.lt hom13_3
          have ap2 : Apart fd13_3 fm13_3 := apart_nodup hf13_3
          try simp (disch := decide) only [outv_some, outv_none, put_puts]
          refine plK_pres (Ext.pres e13_3) ?_
          try simp -implicitDefEqProofs (disch := first | decide | assumption | omega) only [go_sem, BoxAt.cell hb0_0, BoxAt.cell hb0_1, RdS.len rv sl22, wrap_id]
          try simp -implicitDefEqProofs (disch := first | decide | assumption | omega) only [go_sem, BoxAt.cell hb0_0, BoxAt.cell hb0_1, RdS.len rv sl22, wrap_id]
          refine CallA.mono (toSSS_ok _ f _ (RdS.pres rf (Ext.pres eB)) hMf) ?_
          intro v13_5 h13_5
          rintro ⟨f13_5, ho13_5, hf13_5, e13_5⟩
          replace hod13_1 := OS.ext hod13_1 e13_5
          replace hom13_1 := OS.ext hom13_1 e13_5
          replace hod13_3 := OS.ext hod13_3 e13_5
          replace hom13_3 := OS.ext hom13_3 e13_5
          replace hb0_0 := BoxAt.ext hb0_0 e13_5
          replace hb0_1 := BoxAt.ext hb0_1 e13_5
          have := Ext.size e13_5
          replace eB := Ext.trans eB e13_5
          have hlho13_5 := OS.lt ho13_5
          try simp (disch := decide) only [outv_some, outv_none, put_puts]
          refine plK_pres (Ext.pres e13_5) ?_
          try simp -implicitDefEqProofs (disch := first | decide | assumption | omega) only [go_sem, BoxAt.cell hb0_0, BoxAt.cell hb0_1, RdS.len rv sl22, wrap_id]
          try simp -implicitDefEqProofs (disch := first | decide | assumption | omega) only [go_sem, BoxAt.cell hb0_0, BoxAt.cell hb0_1, RdS.len rv sl22, wrap_id]
          refine CallA.mono (toS_ok _ v _ (RdS.pres rv (Ext.pres eB)) hMv) ?_
          intro v13_8 h13_8
          rintro ⟨f13_8, ho13_8, hf13_8, e13_8⟩
          replace hod13_1 := OS.ext hod13_1 e13_8
          replace hom13_1 := OS.ext hom13_1 e13_8
          replace hod13_3 := OS.ext hod13_3 e13_8
          replace hom13_3 := OS.ext hom13_3 e13_8
          replace ho13_5 := OS.ext ho13_5 e13_8
          replace hb0_0 := BoxAt.ext hb0_0 e13_8
          replace hb0_1 := BoxAt.ext hb0_1 e13_8
          have := Ext.size e13_8
          replace eB := Ext.trans eB e13_8
          have hlho13_8 := OS.lt ho13_8
          try simp (disch := decide) only [outv_some, outv_none, put_puts]
          refine plK_pres (Ext.pres e13_8) ?_
          try simp -implicitDefEqProofs (disch := first | decide | assumption | omega) only [go_sem, BoxAt.cell hb0_0, BoxAt.cell hb0_1, RdS.len rv sl22, wrap_id]
          try simp -implicitDefEqProofs (disch := first | decide | assumption | omega) only [go_sem, BoxAt.cell hb0_0, BoxAt.cell hb0_1, RdS.len rv sl22, wrap_id]
          refine CallA.mono (sAf_ok _ _ _ _ X Y f n v _ ⟨_, _, rfl, (OS.rd hod13_1), (OS.rd hom13_1)⟩ ⟨_, _, rfl, (OS.rd hod13_3), (OS.rd hom13_3)⟩ (OS.rd ho13_5) (OS.rd ho13_8) ) ?_
          intro v_ h13_9
          rintro ⟨vw13_9_0, fw13_9_0, rfl, how13_9_0, hfw13_9_0, e13_9⟩
          replace hod13_1 := OS.ext hod13_1 e13_9
          replace hom13_1 := OS.ext hom13_1 e13_9
          replace hod13_3 := OS.ext hod13_3 e13_9
          replace hom13_3 := OS.ext hom13_3 e13_9
          replace ho13_5 := OS.ext ho13_5 e13_9
          replace ho13_8 := OS.ext ho13_8 e13_9
          replace hb0_0 := BoxAt.ext hb0_0 e13_9
          replace hb0_1 := BoxAt.ext hb0_1 e13_9
          have := Ext.size e13_9
          replace eB := Ext.trans eB e13_9
          have hlhow13_9_0 := OS.lt how13_9_0
          try simp (disch := decide) only [outv_some, outv_none, put_puts]
          refine plK_pres (Ext.pres e13_9) ?_
          try simp -implicitDefEqProofs (disch := first | decide | assumption | omega) only [go_sem, BoxAt.cell hb0_0, BoxAt.cell hb0_1, RdS.len rv sl22, wrap_id]
          refine hK _ _ ?_
          clear hK K
          refine den_seq ?_
          refine den_region TTok ?_
          intro K hK
          simp -implicitDefEqProofs (disch := first | decide | assumption | omega) only [go_sem, ld25, BoxAt.cell hb0_0, BoxAt.cell hb0_1, RdS.len rv sl22, wrap_id]
          try simp -implicitDefEqProofs (disch := first | decide | assumption | omega) only [go_sem, BoxAt.cell hb0_0, BoxAt.cell hb0_1, RdS.len rv sl22, wrap_id]
          refine CallA.mono (toC_ok _ X _ ⟨_, _, rfl, (RdS.pres hdX (Ext.pres eB)), (RdS.pres hmX (Ext.pres eB))⟩ hMX) ?_
          intro v_ h14_1
          rintro ⟨vd14_1, vm14_1, fd14_1, fm14_1, rfl, hod14_1, hom14_1, hf14_1, e14_1⟩
          replace how13_9_0 := OS.ext how13_9_0 e14_1
          replace hb0_0 := BoxAt.ext hb0_0 e14_1
          replace hb0_1 := BoxAt.ext hb0_1 e14_1
          have := Ext.size e14_1
          replace eB := Ext.trans eB e14_1
          have hfd14_1 := hf14_1.left
          have hfm14_1 := hf14_1.right
          have hlhod14_1 := OS.lt hod14_1
          have hlhom14_1 := OS.lt hom14_1
          have ap3 : Apart fd14_1 fm14_1 := apart_nodup hf14_1
          try simp -implicitDefEqProofs (disch := first | decide | assumption | omega) only [go_sem, BoxAt.cell hb0_0, BoxAt.cell hb0_1, RdS.len rv sl22, wrap_id]
          refine op_alloc (cs := #[.int .i64 0, .slice none 0 0, .slice none 0 0]) (by kernel_rfl) ?_
          intro h14_2 e14_2 hb14_2 z14_2
          replace how13_9_0 := OS.ext how13_9_0 e14_2
          replace hod14_1 := OS.ext hod14_1 e14_2
          replace hom14_1 := OS.ext hom14_1 e14_2
          replace hb0_0 := BoxAt.ext hb0_0 e14_2
          replace hb0_1 := BoxAt.ext hb0_1 e14_2
          have := Ext.size e14_2
          replace eB := Ext.trans eB e14_2
          have hfhb14_2 : Fresh h14_1.size [h14_1.size] := Fresh.one _
          have hlhb14_2 := one_lt (show h14_1.size < h14_2.size by omega)
          try simp -implicitDefEqProofs (disch := first | decide | assumption | omega) only [go_sem, BoxAt.cell hb0_0, BoxAt.cell hb0_1, BoxAt.cell hb14_2, RdS.len rv sl22, wrap_id]
          refine op_storeB (cs' := #[.int .i64 (X.p), vd14_1, vm14_1]) st30 hb14_2 rfl rfl rfl (by simp) (allOne_mem (l := [.int .i64 (X.p), vd14_1, vm14_1]) ⟨rfl, (OS.one hod14_1).1, (OS.one hom14_1).1, trivial⟩) rfl ?_
          intro h14_3 hb14_2 c14_3
          replace how13_9_0 := OS.chg how13_9_0 c14_3 (apart_lt hlhow13_9_0 hfhb14_2 (by omega))
          replace hod14_1 := OS.chg hod14_1 c14_3 (apart_lt hlhod14_1 hfhb14_2 (by omega))
          replace hom14_1 := OS.chg hom14_1 c14_3 (apart_lt hlhom14_1 hfhb14_2 (by omega))
          replace hb0_0 := BoxAt.chgA hb0_0 c14_3 (apart_lt hlhb0_0 hfhb14_2 (by omega))
          replace hb0_1 := BoxAt.chgA hb0_1 c14_3 (apart_lt hlhb0_1 hfhb14_2 (by omega))
          have := c14_3.size
          replace eB := Ext.then eB c14_3 (ge_of hfhb14_2 (by omega))
          try simp -implicitDefEqProofs (disch := first | decide | assumption | omega) only [go_sem, BoxAt.cell hb0_0, BoxAt.cell hb0_1, BoxAt.cell hb14_2, RdS.len rv sl22, wrap_id]
          refine hK _ _ ?_
          clear hK K
          refine den_seq ?_
          refine den_region TTok ?_
          intro K hK
          simp -implicitDefEqProofs (disch := first | decide | assumption | omega) only [go_sem, ld25, BoxAt.cell hb0_0, BoxAt.cell hb0_1, BoxAt.cell hb14_2, RdS.len rv sl22, wrap_id]
          try simp -implicitDefEqProofs (disch := first | decide | assumption | omega) only [go_sem, BoxAt.cell hb0_0, BoxAt.cell hb0_1, BoxAt.cell hb14_2, RdS.len rv sl22, wrap_id]
          refine CallA.mono (toC_ok _ Y _ ⟨_, _, rfl, (RdS.pres hdY (Ext.pres eB)), (RdS.pres hmY (Ext.pres eB))⟩ hMY) ?_
          intro v_ h15_1
          rintro ⟨vd15_1, vm15_1, fd15_1, fm15_1, rfl, hod15_1, hom15_1, hf15_1, e15_1⟩
          replace how13_9_0 := OS.ext how13_9_0 e15_1
          replace hod14_1 := OS.ext hod14_1 e15_1
          replace hom14_1 := OS.ext hom14_1 e15_1
          replace hb0_0 := BoxAt.ext hb0_0 e15_1
          replace hb0_1 := BoxAt.ext hb0_1 e15_1
          replace hb14_2 := BoxAt.ext hb14_2 e15_1
          have := Ext.size e15_1
          replace eB := Ext.trans eB e15_1
          have hfd15_1 := hf15_1.left
          have hfm15_1 := hf15_1.right
          have hlhod15_1 := OS.lt hod15_1
          have hlhom15_1 := OS.lt hom15_1
          have ap4 : Apart fd15_1 fm15_1 := apart_nodup hf15_1
          try simp -implicitDefEqProofs (disch := first | decide | assumption | omega) only [go_sem, BoxAt.cell hb0_0, BoxAt.cell hb0_1, BoxAt.cell hb14_2, RdS.len rv sl22, wrap_id]
          refine op_alloc (cs := #[.int .i64 0, .slice none 0 0, .slice none 0 0]) (by kernel_rfl) ?_
          intro h15_2 e15_2 hb15_2 z15_2
          replace how13_9_0 := OS.ext how13_9_0 e15_2
          replace hod14_1 := OS.ext hod14_1 e15_2
          replace hom14_1 := OS.ext hom14_1 e15_2
          replace hod15_1 := OS.ext hod15_1 e15_2
          replace hom15_1 := OS.ext hom15_1 e15_2
          replace hb0_0 := BoxAt.ext hb0_0 e15_2
          replace hb0_1 := BoxAt.ext hb0_1 e15_2
          replace hb14_2 := BoxAt.ext hb14_2 e15_2
          have := Ext.size e15_2
          replace eB := Ext.trans eB e15_2
          have hfhb15_2 : Fresh h15_1.size [h15_1.size] := Fresh.one _
          have hlhb15_2 := one_lt (show h15_1.size < h15_2.size by omega)
          try simp -implicitDefEqProofs (disch := first | decide | assumption | omega) only [go_sem, BoxAt.cell hb0_0, BoxAt.cell hb0_1, BoxAt.cell hb14_2, BoxAt.cell hb15_2, RdS.len rv sl22, wrap_id]
          refine op_storeB (cs' := #[.int .i64 (Y.p), vd15_1, vm15_1]) st30 hb15_2 rfl rfl rfl (by simp) (allOne_mem (l := [.int .i64 (Y.p), vd15_1, vm15_1]) ⟨rfl, (OS.one hod15_1).1, (OS.one hom15_1).1, trivial⟩) rfl ?_
          intro h15_3 hb15_2 c15_3
          replace how13_9_0 := OS.chg how13_9_0 c15_3 (apart_lt hlhow13_9_0 hfhb15_2 (by omega))
          replace hod14_1 := OS.chg hod14_1 c15_3 (apart_lt hlhod14_1 hfhb15_2 (by omega))
          replace hom14_1 := OS.chg hom14_1 c15_3 (apart_lt hlhom14_1 hfhb15_2 (by omega))
          replace hod15_1 := OS.chg hod15_1 c15_3 (apart_lt hlhod15_1 hfhb15_2 (by omega))
          replace hom15_1 := OS.chg hom15_1 c15_3 (apart_lt hlhom15_1 hfhb15_2 (by omega))
          replace hb0_0 := BoxAt.chgA hb0_0 c15_3 (apart_lt hlhb0_0 hfhb15_2 (by omega))
          replace hb0_1 := BoxAt.chgA hb0_1 c15_3 (apart_lt hlhb0_1 hfhb15_2 (by omega))
          replace hb14_2 := BoxAt.chgA hb14_2 c15_3 (apart_lt hlhb14_2 hfhb15_2 (by omega))
          have := c15_3.size
          replace eB := Ext.then eB c15_3 (ge_of hfhb15_2 (by omega))
          try simp -implicitDefEqProofs (disch := first | decide | assumption | omega) only [go_sem, BoxAt.cell hb0_0, BoxAt.cell hb0_1, BoxAt.cell hb14_2, BoxAt.cell hb15_2, RdS.len rv sl22, wrap_id]
          refine hK _ _ ?_
          clear hK K
          refine den_seq ?_
          refine den_region TTok ?_
          intro K hK
          simp -implicitDefEqProofs (disch := first | decide | assumption | omega) only [go_sem, BoxAt.cell hb0_0, BoxAt.cell hb0_1, BoxAt.cell hb14_2, BoxAt.cell hb15_2, RdS.len rv sl22, wrap_id]
          try simp -implicitDefEqProofs (disch := first | decide | assumption | omega) only [go_sem, BoxAt.cell hb0_0, BoxAt.cell hb0_1, BoxAt.cell hb14_2, BoxAt.cell hb15_2, RdS.len rv sl22, wrap_id]
          refine CallA.mono (toSSS_ok _ f _ (RdS.pres rf (Ext.pres eB)) hMf) ?_
          intro v16_1 h16_1
          rintro ⟨f16_1, ho16_1, hf16_1, e16_1⟩
          replace how13_9_0 := OS.ext how13_9_0 e16_1
          replace hod14_1 := OS.ext hod14_1 e16_1
          replace hom14_1 := OS.ext hom14_1 e16_1
          replace hod15_1 := OS.ext hod15_1 e16_1
          replace hom15_1 := OS.ext hom15_1 e16_1
          replace hb0_0 := BoxAt.ext hb0_0 e16_1
          replace hb0_1 := BoxAt.ext hb0_1 e16_1
          replace hb14_2 := BoxAt.ext hb14_2 e16_1
          replace hb15_2 := BoxAt.ext hb15_2 e16_1
          have := Ext.size e16_1
          replace eB := Ext.trans eB e16_1
          have hlho16_1 := OS.lt ho16_1
          try simp -implicitDefEqProofs (disch := first | decide | assumption | omega) only [go_sem, BoxAt.cell hb0_0, BoxAt.cell hb0_1, BoxAt.cell hb14_2, BoxAt.cell hb15_2, RdS.len rv sl22, wrap_id]
          refine hK _ _ ?_
          clear hK K
          refine den_seq ?_
          refine den_region TTok ?_
          intro K hK
          simp -implicitDefEqProofs (disch := first | decide | assumption | omega) only [go_sem, BoxAt.cell hb0_0, BoxAt.cell hb0_1, BoxAt.cell hb14_2, BoxAt.cell hb15_2, RdS.len rv sl22, wrap_id]
          try simp -implicitDefEqProofs (disch := first | decide | assumption | omega) only [go_sem, BoxAt.cell hb0_0, BoxAt.cell hb0_1, BoxAt.cell hb14_2, BoxAt.cell hb15_2, RdS.len rv sl22, wrap_id]
          refine CallA.mono (toS_ok _ v _ (RdS.pres rv (Ext.pres eB)) hMv) ?_
          intro v17_1 h17_1
          rintro ⟨f17_1, ho17_1, hf17_1, e17_1⟩
          replace how13_9_0 := OS.ext how13_9_0 e17_1
          replace hod14_1 := OS.ext hod14_1 e17_1
          replace hom14_1 := OS.ext hom14_1 e17_1
          replace hod15_1 := OS.ext hod15_1 e17_1
          replace hom15_1 := OS.ext hom15_1 e17_1
          replace ho16_1 := OS.ext ho16_1 e17_1
          replace hb0_0 := BoxAt.ext hb0_0 e17_1
          replace hb0_1 := BoxAt.ext hb0_1 e17_1
          replace hb14_2 := BoxAt.ext hb14_2 e17_1
          replace hb15_2 := BoxAt.ext hb15_2 e17_1
          have := Ext.size e17_1
          replace eB := Ext.trans eB e17_1
          have hlho17_1 := OS.lt ho17_1
          try simp -implicitDefEqProofs (disch := first | decide | assumption | omega) only [go_sem, BoxAt.cell hb0_0, BoxAt.cell hb0_1, BoxAt.cell hb14_2, BoxAt.cell hb15_2, RdS.len rv sl22, wrap_id]
          refine hK _ _ ?_
          clear hK K
          refine den_seq ?_
          refine den_region TTok ?_
          intro K hK
          simp -implicitDefEqProofs (disch := first | decide | assumption | omega) only [go_sem, ld30, BoxAt.cell hb0_0, BoxAt.cell hb0_1, BoxAt.cell hb14_2, BoxAt.cell hb15_2, RdS.len rv sl22, wrap_id]
          try simp -implicitDefEqProofs (disch := first | decide | assumption | omega) only [go_sem, BoxAt.cell hb0_0, BoxAt.cell hb0_1, BoxAt.cell hb14_2, BoxAt.cell hb15_2, RdS.len rv sl22, wrap_id]
          refine CallA.mono (iAf_ok _ _ _ _ X Y f n v _ ⟨_, _, rfl, (OS.rd hod14_1), (OS.rd hom14_1)⟩ ⟨_, _, rfl, (OS.rd hod15_1), (OS.rd hom15_1)⟩ (OS.rd ho16_1) (OS.rd ho17_1) ) ?_
          intro v_ h18_5
          rintro ⟨vw18_5_0, fw18_5_0, rfl, how18_5_0, hfw18_5_0, e18_5⟩
          replace how13_9_0 := OS.ext how13_9_0 e18_5
          replace hod14_1 := OS.ext hod14_1 e18_5
          replace hom14_1 := OS.ext hom14_1 e18_5
          replace hod15_1 := OS.ext hod15_1 e18_5
          replace hom15_1 := OS.ext hom15_1 e18_5
          replace ho16_1 := OS.ext ho16_1 e18_5
          replace ho17_1 := OS.ext ho17_1 e18_5
          replace hb0_0 := BoxAt.ext hb0_0 e18_5
          replace hb0_1 := BoxAt.ext hb0_1 e18_5
          replace hb14_2 := BoxAt.ext hb14_2 e18_5
          replace hb15_2 := BoxAt.ext hb15_2 e18_5
          have := Ext.size e18_5
          replace eB := Ext.trans eB e18_5
          have hlhow18_5_0 := OS.lt how18_5_0
          try simp -implicitDefEqProofs (disch := first | decide | assumption | omega) only [go_sem, BoxAt.cell hb0_0, BoxAt.cell hb0_1, BoxAt.cell hb14_2, BoxAt.cell hb15_2, RdS.len rv sl22, wrap_id]
          refine hK _ _ ?_
          clear hK K
          refine den_seq ?_
          refine den_seq ?_
          refine den_mergeH [(81, .bool (((!(true)) || (((afP X Y f n v).2) != ((afP X Y f n v).2)))))] [2, 3, 4, 5, 6, 12, 13, 14, 15, 16, 17, 18, 19] ?_ ?_
            -- a way
          · refine den_region TTok ?_
            intro K hK
            simp -implicitDefEqProofs (disch := first | decide | assumption | (simp (disch := decide) only [slotOf_zero, slotOf_succ, Option.map_some, puts_same, puts_ne, gv_bool, gv_undef, tt, tf, ft, ff, eq_self, if_true, if_false, Bool.false_eq_true, Bool.not_true, Bool.not_false]; done) | omega) only [go_sem, BoxAt.cell hb0_0, BoxAt.cell hb0_1, BoxAt.cell hb14_2, BoxAt.cell hb15_2, RdS.len rv sl22, wrap_id]
            try simp -implicitDefEqProofs (disch := first | decide | assumption | omega) only [go_sem, BoxAt.cell hb0_0, BoxAt.cell hb0_1, BoxAt.cell hb14_2, BoxAt.cell hb15_2, RdS.len rv sl22, wrap_id]
            refine CallA.pure (eqS_same _ _ _ _ (OS.rd how18_5_0) (OS.rd how13_9_0)) ?_
            try simp -implicitDefEqProofs (disch := first | decide | assumption | (simp (disch := decide) only [slotOf_zero, slotOf_succ, Option.map_some, puts_same, puts_ne, gv_bool, gv_undef, tt, tf, ft, ff, eq_self, if_true, if_false, Bool.false_eq_true, Bool.not_true, Bool.not_false]; done) | omega) only [go_sem, BoxAt.cell hb0_0, BoxAt.cell hb0_1, BoxAt.cell hb14_2, BoxAt.cell hb15_2, RdS.len rv sl22, wrap_id]
            try simp -implicitDefEqProofs (disch := first | decide | assumption | (simp (disch := decide) only [slotOf_zero, slotOf_succ, Option.map_some, puts_same, puts_ne, gv_bool, gv_undef, tt, tf, ft, ff, eq_self, if_true, if_false, Bool.false_eq_true, Bool.not_true, Bool.not_false]; done) | omega) only [go_sem, BoxAt.cell hb0_0, BoxAt.cell hb0_1, BoxAt.cell hb14_2, BoxAt.cell hb15_2, RdS.len rv sl22, wrap_id]
            refine hK _ _ ?_
            clear hK K
            refine den_stop ?_
            refine ⟨?_, rfl⟩
            first | (simp (disch := decide) only [go_sem, eq_self, Bool.true_and, Bool.and_true, Bool.false_and, Bool.and_false, Bool.true_or, Bool.or_true, Bool.false_or, Bool.or_false, if_true, if_false, Bool.false_eq_true]; done) | simp [HasL, sel, puts_at]
          intro en5
          simp (disch := decide) only [go_sem]
          refine den_cond rfl (fun c4 => ?_) (fun c4 => ?_)
          · try simp only [decide_eq_true_eq, decide_eq_false_iff_not, beq_iff_eq, beq_eq_false_iff_ne, bne_iff_ne, ne_eq, Bool.not_eq_true', Bool.not_eq_false', Bool.and_eq_true, Bool.or_eq_true, bne_eq_false_iff_eq] at c4
            refine den_seq ?_
            refine den_region TTok ?_
            intro K hK
            simp -implicitDefEqProofs (disch := first | decide | assumption | omega) only [go_sem, RdS.len rv sl22, wrap_id]
            refine hK _ _ ?_
            clear hK K
            refine den_ret ?_
            simp (disch := decide) only [resP_1, puts_same, puts_ne]
            exact absurd c4 (by first | (simp; done) | (simp; omega) | omega | (simp [eqC_self]; done))
          · try simp only [decide_eq_true_eq, decide_eq_false_iff_not, beq_iff_eq, beq_eq_false_iff_ne, bne_iff_ne, ne_eq, Bool.not_eq_true', Bool.not_eq_false', Bool.and_eq_true, Bool.or_eq_true, bne_eq_false_iff_eq] at c4
            refine den_skip ?_
            refine den_seq ?_
            refine den_seq ?_
            refine den_draw TTok mixed [] [(0, true), (1, true), (2, false), (3, false), (4, true)] (by kernel_rfl) ?_
            intro K hK
            simp -implicitDefEqProofs (disch := first | decide | assumption | omega) only [go_sem, ld30, ld25, BoxAt.cell hb0_0, BoxAt.cell hb0_1, BoxAt.cell hb14_2, BoxAt.cell hb15_2, RdS.len rv sl22, wrap_id]
            try simp -implicitDefEqProofs (disch := first | decide | assumption | omega) only [go_sem, BoxAt.cell hb0_0, BoxAt.cell hb0_1, BoxAt.cell hb14_2, BoxAt.cell hb15_2, RdS.len rv sl22, wrap_id]
            refine CallA.mono (toC_ok _ X _ ⟨_, _, rfl, (RdS.pres hdX (Ext.pres eB)), (RdS.pres hmX (Ext.pres eB))⟩ hMX) ?_
            intro v_ h21_2
            rintro ⟨vd21_2, vm21_2, fd21_2, fm21_2, rfl, hod21_2, hom21_2, hf21_2, e21_2⟩
            replace how13_9_0 := OS.ext how13_9_0 e21_2
            replace hod14_1 := OS.ext hod14_1 e21_2
            replace hom14_1 := OS.ext hom14_1 e21_2
            replace hod15_1 := OS.ext hod15_1 e21_2
            replace hom15_1 := OS.ext hom15_1 e21_2
            replace ho16_1 := OS.ext ho16_1 e21_2
            replace ho17_1 := OS.ext ho17_1 e21_2
            replace how18_5_0 := OS.ext how18_5_0 e21_2
            replace hb0_0 := BoxAt.ext hb0_0 e21_2
            replace hb0_1 := BoxAt.ext hb0_1 e21_2
            replace hb14_2 := BoxAt.ext hb14_2 e21_2
            replace hb15_2 := BoxAt.ext hb15_2 e21_2
            have := Ext.size e21_2
            replace eB := Ext.trans eB e21_2
            have hfd21_2 := hf21_2.left
            have hfm21_2 := hf21_2.right
            have hlhod21_2 := OS.lt hod21_2
            have hlhom21_2 := OS.lt hom21_2
            have ap8 : Apart fd21_2 fm21_2 := apart_nodup hf21_2
            try simp (disch := decide) only [outv_some, outv_none, put_puts]
            refine plK_pres (Ext.pres e21_2) ?_
            try simp -implicitDefEqProofs (disch := first | decide | assumption | omega) only [go_sem, BoxAt.cell hb0_0, BoxAt.cell hb0_1, BoxAt.cell hb14_2, BoxAt.cell hb15_2, RdS.len rv sl22, wrap_id]
            try simp -implicitDefEqProofs (disch := first | decide | assumption | omega) only [go_sem, BoxAt.cell hb0_0, BoxAt.cell hb0_1, BoxAt.cell hb14_2, BoxAt.cell hb15_2, RdS.len rv sl22, wrap_id]
            refine CallA.mono (eqC_same _ _ X _ ⟨_, _, rfl, (OS.rd hod14_1), (OS.rd hom14_1)⟩ ⟨_, _, rfl, (OS.rd hod21_2), (OS.rd hom21_2)⟩) ?_
            intro v_ h21_3
            rintro ⟨rfl, e21_3⟩
            replace how13_9_0 := OS.ext how13_9_0 e21_3
            replace hod14_1 := OS.ext hod14_1 e21_3
            replace hom14_1 := OS.ext hom14_1 e21_3
            replace hod15_1 := OS.ext hod15_1 e21_3
            replace hom15_1 := OS.ext hom15_1 e21_3
            replace ho16_1 := OS.ext ho16_1 e21_3
            replace ho17_1 := OS.ext ho17_1 e21_3
            replace how18_5_0 := OS.ext how18_5_0 e21_3
            replace hod21_2 := OS.ext hod21_2 e21_3
            replace hom21_2 := OS.ext hom21_2 e21_3
            replace hb0_0 := BoxAt.ext hb0_0 e21_3
            replace hb0_1 := BoxAt.ext hb0_1 e21_3
            replace hb14_2 := BoxAt.ext hb14_2 e21_3
            replace hb15_2 := BoxAt.ext hb15_2 e21_3
            have := Ext.size e21_3
            replace eB := Ext.trans eB e21_3
            try simp (disch := decide) only [outv_some, outv_none, put_puts]
            refine plK_pres (Ext.pres e21_3) ?_
            try simp -implicitDefEqProofs (disch := first | decide | assumption | omega) only [go_sem, BoxAt.cell hb0_0, BoxAt.cell hb0_1, BoxAt.cell hb14_2, BoxAt.cell hb15_2, RdS.len rv sl22, wrap_id]
            refine hK _ _ ?_
            clear hK K
            refine den_cond rfl (fun c5 => ?_) (fun c5 => ?_)
            · try simp only [decide_eq_true_eq, decide_eq_false_iff_not, beq_iff_eq, beq_eq_false_iff_ne, bne_iff_ne, ne_eq, Bool.not_eq_true', Bool.not_eq_false', Bool.and_eq_true, Bool.or_eq_true, bne_eq_false_iff_eq] at c5
              refine den_seq ?_
              refine den_region TTok ?_
              intro K hK
              simp -implicitDefEqProofs (disch := first | decide | assumption | omega) only [go_sem, RdS.len rv sl22, wrap_id]
              refine hK _ _ ?_
              clear hK K
              refine den_ret ?_
              simp (disch := decide) only [resP_1, puts_same, puts_ne]
              exact absurd c5 (by first | (simp; done) | (simp; omega) | omega | (simp [eqC_self]; done))
            · try simp only [decide_eq_true_eq, decide_eq_false_iff_not, beq_iff_eq, beq_eq_false_iff_ne, bne_iff_ne, ne_eq, Bool.not_eq_true', Bool.not_eq_false', Bool.and_eq_true, Bool.or_eq_true, bne_eq_false_iff_eq] at c5
              refine den_skip ?_
              refine den_seq ?_
              refine den_seq ?_
              refine den_draw TTok mixed [] [(0, true), (1, true), (2, false), (3, false), (4, true)] (by kernel_rfl) ?_
              intro K hK
              simp -implicitDefEqProofs (disch := first | decide | assumption | omega) only [go_sem, ld30, ld25, BoxAt.cell hb0_0, BoxAt.cell hb0_1, BoxAt.cell hb14_2, BoxAt.cell hb15_2, RdS.len rv sl22, wrap_id]
              try simp -implicitDefEqProofs (disch := first | decide | assumption | omega) only [go_sem, BoxAt.cell hb0_0, BoxAt.cell hb0_1, BoxAt.cell hb14_2, BoxAt.cell hb15_2, RdS.len rv sl22, wrap_id]
              refine CallA.mono (toC_ok _ Y _ ⟨_, _, rfl, (RdS.pres hdY (Ext.pres eB)), (RdS.pres hmY (Ext.pres eB))⟩ hMY) ?_
              intro v_ h23_2
              rintro ⟨vd23_2, vm23_2, fd23_2, fm23_2, rfl, hod23_2, hom23_2, hf23_2, e23_2⟩
              replace how13_9_0 := OS.ext how13_9_0 e23_2
              replace hod14_1 := OS.ext hod14_1 e23_2
              replace hom14_1 := OS.ext hom14_1 e23_2
              replace hod15_1 := OS.ext hod15_1 e23_2
              replace hom15_1 := OS.ext hom15_1 e23_2
              replace ho16_1 := OS.ext ho16_1 e23_2
              replace ho17_1 := OS.ext ho17_1 e23_2
              replace how18_5_0 := OS.ext how18_5_0 e23_2
              replace hb0_0 := BoxAt.ext hb0_0 e23_2
              replace hb0_1 := BoxAt.ext hb0_1 e23_2
              replace hb14_2 := BoxAt.ext hb14_2 e23_2
              replace hb15_2 := BoxAt.ext hb15_2 e23_2
              have := Ext.size e23_2
              replace eB := Ext.trans eB e23_2
              have hfd23_2 := hf23_2.left
              have hfm23_2 := hf23_2.right
              have hlhod23_2 := OS.lt hod23_2
              have hlhom23_2 := OS.lt hom23_2
              have ap9 : Apart fd23_2 fm23_2 := apart_nodup hf23_2
              try simp (disch := decide) only [outv_some, outv_none, put_puts]
              refine plK_pres (Ext.pres e23_2) ?_
              try simp -implicitDefEqProofs (disch := first | decide | assumption | omega) only [go_sem, BoxAt.cell hb0_0, BoxAt.cell hb0_1, BoxAt.cell hb14_2, BoxAt.cell hb15_2, RdS.len rv sl22, wrap_id]
              try simp -implicitDefEqProofs (disch := first | decide | assumption | omega) only [go_sem, BoxAt.cell hb0_0, BoxAt.cell hb0_1, BoxAt.cell hb14_2, BoxAt.cell hb15_2, RdS.len rv sl22, wrap_id]
              refine CallA.mono (eqC_same _ _ Y _ ⟨_, _, rfl, (OS.rd hod15_1), (OS.rd hom15_1)⟩ ⟨_, _, rfl, (OS.rd hod23_2), (OS.rd hom23_2)⟩) ?_
              intro v_ h23_3
              rintro ⟨rfl, e23_3⟩
              replace how13_9_0 := OS.ext how13_9_0 e23_3
              replace hod14_1 := OS.ext hod14_1 e23_3
              replace hom14_1 := OS.ext hom14_1 e23_3
              replace hod15_1 := OS.ext hod15_1 e23_3
              replace hom15_1 := OS.ext hom15_1 e23_3
              replace ho16_1 := OS.ext ho16_1 e23_3
              replace ho17_1 := OS.ext ho17_1 e23_3
              replace how18_5_0 := OS.ext how18_5_0 e23_3
              replace hod23_2 := OS.ext hod23_2 e23_3
              replace hom23_2 := OS.ext hom23_2 e23_3
              replace hb0_0 := BoxAt.ext hb0_0 e23_3
              replace hb0_1 := BoxAt.ext hb0_1 e23_3
              replace hb14_2 := BoxAt.ext hb14_2 e23_3
              replace hb15_2 := BoxAt.ext hb15_2 e23_3
              have := Ext.size e23_3
              replace eB := Ext.trans eB e23_3
              try simp (disch := decide) only [outv_some, outv_none, put_puts]
              refine plK_pres (Ext.pres e23_3) ?_
              try simp -implicitDefEqProofs (disch := first | decide | assumption | omega) only [go_sem, BoxAt.cell hb0_0, BoxAt.cell hb0_1, BoxAt.cell hb14_2, BoxAt.cell hb15_2, RdS.len rv sl22, wrap_id]
              refine hK _ _ ?_
              clear hK K
              refine den_cond rfl (fun c6 => ?_) (fun c6 => ?_)
              · try simp only [decide_eq_true_eq, decide_eq_false_iff_not, beq_iff_eq, beq_eq_false_iff_ne, bne_iff_ne, ne_eq, Bool.not_eq_true', Bool.not_eq_false', Bool.and_eq_true, Bool.or_eq_true, bne_eq_false_iff_eq] at c6
                refine den_seq ?_
                refine den_region TTok ?_
                intro K hK
                simp -implicitDefEqProofs (disch := first | decide | assumption | omega) only [go_sem, RdS.len rv sl22, wrap_id]
                refine hK _ _ ?_
                clear hK K
                refine den_ret ?_
                simp (disch := decide) only [resP_1, puts_same, puts_ne]
                exact absurd c6 (by first | (simp; done) | (simp; omega) | omega | (simp [eqC_self]; done))
              · try simp only [decide_eq_true_eq, decide_eq_false_iff_not, beq_iff_eq, beq_eq_false_iff_ne, bne_iff_ne, ne_eq, Bool.not_eq_true', Bool.not_eq_false', Bool.and_eq_true, Bool.or_eq_true, bne_eq_false_iff_eq] at c6
                refine den_skip ?_
                refine den_seq ?_
                refine den_seq ?_
                refine den_region TTok ?_
                intro K hK
                simp -implicitDefEqProofs (disch := first | decide | assumption | omega) only [go_sem, BoxAt.cell hb0_0, BoxAt.cell hb0_1, BoxAt.cell hb14_2, BoxAt.cell hb15_2, RdS.len rv sl22, wrap_id]
                try simp -implicitDefEqProofs (disch := first | decide | assumption | omega) only [go_sem, BoxAt.cell hb0_0, BoxAt.cell hb0_1, BoxAt.cell hb14_2, BoxAt.cell hb15_2, RdS.len rv sl22, wrap_id]
                refine CallA.mono (toSSS_ok _ f _ (RdS.pres rf (Ext.pres eB)) hMf) ?_
                intro v25_2 h25_2
                rintro ⟨f25_2, ho25_2, hf25_2, e25_2⟩
                replace how13_9_0 := OS.ext how13_9_0 e25_2
                replace hod14_1 := OS.ext hod14_1 e25_2
                replace hom14_1 := OS.ext hom14_1 e25_2
                replace hod15_1 := OS.ext hod15_1 e25_2
                replace hom15_1 := OS.ext hom15_1 e25_2
                replace ho16_1 := OS.ext ho16_1 e25_2
                replace ho17_1 := OS.ext ho17_1 e25_2
                replace how18_5_0 := OS.ext how18_5_0 e25_2
                replace hb0_0 := BoxAt.ext hb0_0 e25_2
                replace hb0_1 := BoxAt.ext hb0_1 e25_2
                replace hb14_2 := BoxAt.ext hb14_2 e25_2
                replace hb15_2 := BoxAt.ext hb15_2 e25_2
                have := Ext.size e25_2
                replace eB := Ext.trans eB e25_2
                have hlho25_2 := OS.lt ho25_2
                try simp -implicitDefEqProofs (disch := first | decide | assumption | omega) only [go_sem, BoxAt.cell hb0_0, BoxAt.cell hb0_1, BoxAt.cell hb14_2, BoxAt.cell hb15_2, RdS.len rv sl22, wrap_id]
                try simp -implicitDefEqProofs (disch := first | decide | assumption | omega) only [go_sem, BoxAt.cell hb0_0, BoxAt.cell hb0_1, BoxAt.cell hb14_2, BoxAt.cell hb15_2, RdS.len rv sl22, wrap_id]
                refine CallA.pure (eqSSS_same _ _ _ _ (OS.rd ho16_1) (OS.rd ho25_2)) ?_
                try simp -implicitDefEqProofs (disch := first | decide | assumption | omega) only [go_sem, BoxAt.cell hb0_0, BoxAt.cell hb0_1, BoxAt.cell hb14_2, BoxAt.cell hb15_2, RdS.len rv sl22, wrap_id]
                refine hK _ _ ?_
                clear hK K
                refine den_cond rfl (fun c7 => ?_) (fun c7 => ?_)
                · try simp only [decide_eq_true_eq, decide_eq_false_iff_not, beq_iff_eq, beq_eq_false_iff_ne, bne_iff_ne, ne_eq, Bool.not_eq_true', Bool.not_eq_false', Bool.and_eq_true, Bool.or_eq_true, bne_eq_false_iff_eq] at c7
                  refine den_seq ?_
                  refine den_region TTok ?_
                  intro K hK
                  simp -implicitDefEqProofs (disch := first | decide | assumption | omega) only [go_sem, RdS.len rv sl22, wrap_id]
                  refine hK _ _ ?_
                  clear hK K
                  refine den_ret ?_
                  simp (disch := decide) only [resP_1, puts_same, puts_ne]
                  exact absurd c7 (by first | (simp; done) | (simp; omega) | omega | (simp [eqC_self]; done))
                · try simp only [decide_eq_true_eq, decide_eq_false_iff_not, beq_iff_eq, beq_eq_false_iff_ne, bne_iff_ne, ne_eq, Bool.not_eq_true', Bool.not_eq_false', Bool.and_eq_true, Bool.or_eq_true, bne_eq_false_iff_eq] at c7
                  refine den_skip ?_
                  refine den_seq ?_
                  refine den_seq ?_
                  refine den_region TTok ?_
                  intro K hK
                  simp -implicitDefEqProofs (disch := first | decide | assumption | omega) only [go_sem, BoxAt.cell hb0_0, BoxAt.cell hb0_1, BoxAt.cell hb14_2, BoxAt.cell hb15_2, RdS.len rv sl22, wrap_id]
                  try simp -implicitDefEqProofs (disch := first | decide | assumption | omega) only [go_sem, BoxAt.cell hb0_0, BoxAt.cell hb0_1, BoxAt.cell hb14_2, BoxAt.cell hb15_2, RdS.len rv sl22, wrap_id]
                  refine CallA.mono (toS_ok _ v _ (RdS.pres rv (Ext.pres eB)) hMv) ?_
                  intro v27_2 h27_2
                  rintro ⟨f27_2, ho27_2, hf27_2, e27_2⟩
                  replace how13_9_0 := OS.ext how13_9_0 e27_2
                  replace hod14_1 := OS.ext hod14_1 e27_2
                  replace hom14_1 := OS.ext hom14_1 e27_2
                  replace hod15_1 := OS.ext hod15_1 e27_2
                  replace hom15_1 := OS.ext hom15_1 e27_2
                  replace ho16_1 := OS.ext ho16_1 e27_2
                  replace ho17_1 := OS.ext ho17_1 e27_2
                  replace how18_5_0 := OS.ext how18_5_0 e27_2
                  replace hb0_0 := BoxAt.ext hb0_0 e27_2
                  replace hb0_1 := BoxAt.ext hb0_1 e27_2
                  replace hb14_2 := BoxAt.ext hb14_2 e27_2
                  replace hb15_2 := BoxAt.ext hb15_2 e27_2
                  have := Ext.size e27_2
                  replace eB := Ext.trans eB e27_2
                  have hlho27_2 := OS.lt ho27_2
                  try simp -implicitDefEqProofs (disch := first | decide | assumption | omega) only [go_sem, BoxAt.cell hb0_0, BoxAt.cell hb0_1, BoxAt.cell hb14_2, BoxAt.cell hb15_2, RdS.len rv sl22, wrap_id]
                  try simp -implicitDefEqProofs (disch := first | decide | assumption | omega) only [go_sem, BoxAt.cell hb0_0, BoxAt.cell hb0_1, BoxAt.cell hb14_2, BoxAt.cell hb15_2, RdS.len rv sl22, wrap_id]
                  refine CallA.pure (eqS_same _ _ _ _ (OS.rd ho17_1) (OS.rd ho27_2)) ?_
                  try simp -implicitDefEqProofs (disch := first | decide | assumption | omega) only [go_sem, BoxAt.cell hb0_0, BoxAt.cell hb0_1, BoxAt.cell hb14_2, BoxAt.cell hb15_2, RdS.len rv sl22, wrap_id]
                  refine hK _ _ ?_
                  clear hK K
                  refine den_cond rfl (fun c8 => ?_) (fun c8 => ?_)
                  · try simp only [decide_eq_true_eq, decide_eq_false_iff_not, beq_iff_eq, beq_eq_false_iff_ne, bne_iff_ne, ne_eq, Bool.not_eq_true', Bool.not_eq_false', Bool.and_eq_true, Bool.or_eq_true, bne_eq_false_iff_eq] at c8
                    refine den_seq ?_
                    refine den_region TTok ?_
                    intro K hK
                    simp -implicitDefEqProofs (disch := first | decide | assumption | omega) only [go_sem, RdS.len rv sl22, wrap_id]
                    refine hK _ _ ?_
                    clear hK K
                    refine den_ret ?_
                    simp (disch := decide) only [resP_1, puts_same, puts_ne]
                    exact absurd c8 (by first | (simp; done) | (simp; omega) | omega | (simp [eqC_self]; done))
                  · try simp only [decide_eq_true_eq, decide_eq_false_iff_not, beq_iff_eq, beq_eq_false_iff_ne, bne_iff_ne, ne_eq, Bool.not_eq_true', Bool.not_eq_false', Bool.and_eq_true, Bool.or_eq_true, bne_eq_false_iff_eq] at c8
                    refine den_skip ?_
                    refine den_seq ?_
                    refine den_region TTok ?_
                    intro K hK
                    simp -implicitDefEqProofs (disch := first | decide | assumption | omega) only [go_sem, BoxAt.cell hb0_0, BoxAt.cell hb0_1, BoxAt.cell hb14_2, BoxAt.cell hb15_2, RdS.len rv sl22, wrap_id]
                    refine hK _ _ ?_
                    clear hK K
                    refine den_seq ?_
                    refine den_region TTok ?_
                    intro K hK
                    simp -implicitDefEqProofs (disch := first | decide | assumption | omega) only [go_sem, ld30, BoxAt.cell hb0_0, BoxAt.cell hb0_1, BoxAt.cell hb14_2, BoxAt.cell hb15_2, RdS.len rv sl22, wrap_id]
                    try simp -implicitDefEqProofs (disch := first | decide | assumption | omega) only [go_sem, BoxAt.cell hb0_0, BoxAt.cell hb0_1, BoxAt.cell hb14_2, BoxAt.cell hb15_2, RdS.len rv sl22, wrap_id]
                    refine CallA.mono (markCx_ok _ _ X (1 : Int) _ _ _ hod14_1 hom14_1 (List.nodup_append.2 ⟨hfd14_1.nodup, hfm14_1.nodup, fun b hb c hc e => ap3 b hb (e ▸ hc)⟩) (by omega)) ?_
                    intro v_ h30_2
                    rintro ⟨rfl, hogd30_2, hogm30_2, cg30_2⟩
                    replace how13_9_0 := OS.chg how13_9_0 cg30_2 (Apart.app (apart_lt hlhow13_9_0 hfd14_1 (by omega)) (apart_lt hlhow13_9_0 hfm14_1 (by omega)))
                    replace hod15_1 := OS.chg hod15_1 cg30_2 (Apart.app (apart_gt hfd15_1 hlhod14_1 (by omega)) (apart_gt hfd15_1 hlhom14_1 (by omega)))
                    replace hom15_1 := OS.chg hom15_1 cg30_2 (Apart.app (apart_gt hfm15_1 hlhod14_1 (by omega)) (apart_gt hfm15_1 hlhom14_1 (by omega)))
                    replace ho16_1 := OS.chg ho16_1 cg30_2 (Apart.app (apart_gt hf16_1 hlhod14_1 (by omega)) (apart_gt hf16_1 hlhom14_1 (by omega)))
                    replace ho17_1 := OS.chg ho17_1 cg30_2 (Apart.app (apart_gt hf17_1 hlhod14_1 (by omega)) (apart_gt hf17_1 hlhom14_1 (by omega)))
                    replace how18_5_0 := OS.chg how18_5_0 cg30_2 (Apart.app (apart_gt hfw18_5_0 hlhod14_1 (by omega)) (apart_gt hfw18_5_0 hlhom14_1 (by omega)))
                    replace hb0_0 := BoxAt.chgA hb0_0 cg30_2 (Apart.app (apart_lt hlhb0_0 hfd14_1 (by omega)) (apart_lt hlhb0_0 hfm14_1 (by omega)))
                    replace hb0_1 := BoxAt.chgA hb0_1 cg30_2 (Apart.app (apart_lt hlhb0_1 hfd14_1 (by omega)) (apart_lt hlhb0_1 hfm14_1 (by omega)))
                    replace hb14_2 := BoxAt.chgA hb14_2 cg30_2 (Apart.app (apart_gt hfhb14_2 hlhod14_1 (by omega)) (apart_gt hfhb14_2 hlhom14_1 (by omega)))
                    replace hb15_2 := BoxAt.chgA hb15_2 cg30_2 (Apart.app (apart_gt hfhb15_2 hlhod14_1 (by omega)) (apart_gt hfhb15_2 hlhom14_1 (by omega)))
                    have := cg30_2.size
                    replace eB := Ext.then eB cg30_2 (ge_app (ge_of hfd14_1 (by omega)) (ge_of hfm14_1 (by omega)))
                    have ap10 : Apart fm14_1 fd14_1 := (Apart.symm ap3)
                    have hlhogd30_2 := OS.lt hogd30_2
                    have ap11 : Apart fd14_1 fm14_1 := (Apart.symm ap10)
                    have hlhogm30_2 := OS.lt hogm30_2
                    try simp -implicitDefEqProofs (disch := first | decide | assumption | omega) only [go_sem, BoxAt.cell hb0_0, BoxAt.cell hb0_1, BoxAt.cell hb14_2, BoxAt.cell hb15_2, RdS.len rv sl22, wrap_id]
                    refine hK _ _ ?_
                    clear hK K
                    refine den_seq ?_
                    refine den_region TTok ?_
                    intro K hK
                    simp -implicitDefEqProofs (disch := first | decide | assumption | omega) only [go_sem, ld30, BoxAt.cell hb0_0, BoxAt.cell hb0_1, BoxAt.cell hb15_2, RdS.len rv sl22, wrap_id]
                    try simp -implicitDefEqProofs (disch := first | decide | assumption | omega) only [go_sem, BoxAt.cell hb0_0, BoxAt.cell hb0_1, BoxAt.cell hb15_2, RdS.len rv sl22, wrap_id]
                    refine CallA.mono (markCx_ok _ _ Y ((1 : Int) + cnt1 X.dims + cntL cnt2 X.maps) _ _ _ hod15_1 hom15_1 (List.nodup_append.2 ⟨hfd15_1.nodup, hfm15_1.nodup, fun b hb c hc e => ap4 b hb (e ▸ hc)⟩) (by omega)) ?_
                    intro v_ h31_2
                    rintro ⟨rfl, hogd31_2, hogm31_2, cg31_2⟩
                    replace how13_9_0 := OS.chg how13_9_0 cg31_2 (Apart.app (apart_lt hlhow13_9_0 hfd15_1 (by omega)) (apart_lt hlhow13_9_0 hfm15_1 (by omega)))
                    replace ho16_1 := OS.chg ho16_1 cg31_2 (Apart.app (apart_gt hf16_1 hlhod15_1 (by omega)) (apart_gt hf16_1 hlhom15_1 (by omega)))
                    replace ho17_1 := OS.chg ho17_1 cg31_2 (Apart.app (apart_gt hf17_1 hlhod15_1 (by omega)) (apart_gt hf17_1 hlhom15_1 (by omega)))
                    replace how18_5_0 := OS.chg how18_5_0 cg31_2 (Apart.app (apart_gt hfw18_5_0 hlhod15_1 (by omega)) (apart_gt hfw18_5_0 hlhom15_1 (by omega)))
                    replace hb0_0 := BoxAt.chgA hb0_0 cg31_2 (Apart.app (apart_lt hlhb0_0 hfd15_1 (by omega)) (apart_lt hlhb0_0 hfm15_1 (by omega)))
                    replace hb0_1 := BoxAt.chgA hb0_1 cg31_2 (Apart.app (apart_lt hlhb0_1 hfd15_1 (by omega)) (apart_lt hlhb0_1 hfm15_1 (by omega)))
                    replace hb15_2 := BoxAt.chgA hb15_2 cg31_2 (Apart.app (apart_gt hfhb15_2 hlhod15_1 (by omega)) (apart_gt hfhb15_2 hlhom15_1 (by omega)))
                    have := cg31_2.size
                    replace eB := Ext.then eB cg31_2 (ge_app (ge_of hfd15_1 (by omega)) (ge_of hfm15_1 (by omega)))
                    have ap12 : Apart fm15_1 fd15_1 := (Apart.symm ap4)
                    have hlhogd31_2 := OS.lt hogd31_2
                    have ap13 : Apart fd15_1 fm15_1 := (Apart.symm ap12)
                    have hlhogm31_2 := OS.lt hogm31_2
                    try simp -implicitDefEqProofs (disch := first | decide | assumption | omega) only [go_sem, BoxAt.cell hb0_0, BoxAt.cell hb0_1, BoxAt.cell hb15_2, RdS.len rv sl22, wrap_id]
                    refine hK _ _ ?_
                    clear hK K
                    refine den_seq ?_
                    refine den_region TTok ?_
                    intro K hK
                    simp -implicitDefEqProofs (disch := first | decide | assumption | omega) only [go_sem, BoxAt.cell hb0_0, BoxAt.cell hb0_1, RdS.len rv sl22, wrap_id]
                    try simp -implicitDefEqProofs (disch := first | decide | assumption | omega) only [go_sem, BoxAt.cell hb0_0, BoxAt.cell hb0_1, RdS.len rv sl22, wrap_id]
                    refine CallA.mono (markSSS_ok _ f (((1 : Int) + cnt1 X.dims + cntL cnt2 X.maps) + cnt1 Y.dims + cntL cnt2 Y.maps) _ _ ho16_1 hf16_1.nodup (by omega)) ?_
                    intro v_ h32_2
                    rintro ⟨rfl, hog32_2, cg32_2⟩
                    replace how13_9_0 := OS.chg how13_9_0 cg32_2 (apart_lt hlhow13_9_0 hf16_1 (by omega))
                    replace ho17_1 := OS.chg ho17_1 cg32_2 (apart_gt hf17_1 hlho16_1 (by omega))
                    replace how18_5_0 := OS.chg how18_5_0 cg32_2 (apart_gt hfw18_5_0 hlho16_1 (by omega))
                    replace hb0_0 := BoxAt.chgA hb0_0 cg32_2 (apart_lt hlhb0_0 hf16_1 (by omega))
                    replace hb0_1 := BoxAt.chgA hb0_1 cg32_2 (apart_lt hlhb0_1 hf16_1 (by omega))
                    have := cg32_2.size
                    replace eB := Ext.then eB cg32_2 (ge_of hf16_1 (by omega))
                    have hlhog32_2 := OS.lt hog32_2
                    try simp -implicitDefEqProofs (disch := first | decide | assumption | omega) only [go_sem, BoxAt.cell hb0_0, BoxAt.cell hb0_1, RdS.len rv sl22, wrap_id]
                    refine hK _ _ ?_
                    clear hK K
                    refine den_seq ?_
                    refine den_region TTok ?_
                    intro K hK
                    simp -implicitDefEqProofs (disch := first | decide | assumption | omega) only [go_sem, BoxAt.cell hb0_0, BoxAt.cell hb0_1, RdS.len rv sl22, wrap_id]
                    try simp -implicitDefEqProofs (disch := first | decide | assumption | omega) only [go_sem, BoxAt.cell hb0_0, BoxAt.cell hb0_1, RdS.len rv sl22, wrap_id]
                    refine CallA.mono (markS_ok _ v ((((1 : Int) + cnt1 X.dims + cntL cnt2 X.maps) + cnt1 Y.dims + cntL cnt2 Y.maps) + cntL cnt2 f) _ _ ho17_1 hf17_1.nodup (by omega)) ?_
                    intro v_ h33_2
                    rintro ⟨rfl, hog33_2, cg33_2⟩
                    replace how13_9_0 := OS.chg how13_9_0 cg33_2 (apart_lt hlhow13_9_0 hf17_1 (by omega))
                    replace how18_5_0 := OS.chg how18_5_0 cg33_2 (apart_gt hfw18_5_0 hlho17_1 (by omega))
                    replace hb0_0 := BoxAt.chgA hb0_0 cg33_2 (apart_lt hlhb0_0 hf17_1 (by omega))
                    replace hb0_1 := BoxAt.chgA hb0_1 cg33_2 (apart_lt hlhb0_1 hf17_1 (by omega))
                    have := cg33_2.size
                    replace eB := Ext.then eB cg33_2 (ge_of hf17_1 (by omega))
                    have hlhog33_2 := OS.lt hog33_2
                    try simp -implicitDefEqProofs (disch := first | decide | assumption | omega) only [go_sem, BoxAt.cell hb0_0, BoxAt.cell hb0_1, RdS.len rv sl22, wrap_id]
                    refine hK _ _ ?_
                    clear hK K
                    refine den_seq ?_
                    refine den_seq ?_
                    refine den_mergeH [(126, .bool ((((decide ((((((1 : Int) + cnt1 X.dims + cntL cnt2 X.maps) + cnt1 Y.dims + cntL cnt2 Y.maps) + cntL cnt2 f) + cnt1 v) < (0 : Int))) || (!(true))) || (((afP X Y f n v).2) != ((afP X Y f n v).2)))))] [2, 3, 4, 5, 6, 12, 13, 18] ?_ ?_
                      -- a way
                    · refine den_region TTok ?_
                      intro K hK
                      simp -implicitDefEqProofs (disch := first | decide | assumption | (simp (disch := decide) only [slotOf_zero, slotOf_succ, Option.map_some, puts_same, puts_ne, gv_bool, gv_undef, tt, tf, ft, ff, eq_self, if_true, if_false, Bool.false_eq_true, Bool.not_true, Bool.not_false]; done) | omega) only [go_sem, BoxAt.cell hb0_0, BoxAt.cell hb0_1, RdS.len rv sl22, wrap_id]
                      refine opsP_F (by simp (disch := decide) only [slotOf_zero, slotOf_succ, Option.map_some, puts_same, puts_ne, gv_bool, gv_undef, tt, tf, ft, ff, eq_self, if_true, if_false, Bool.false_eq_true, Bool.not_true, Bool.not_false]; rfl) (fun g14 => ?_) (fun g14 => ?_)
                      · try simp -implicitDefEqProofs (disch := first | decide | assumption | (simp (disch := decide) only [slotOf_zero, slotOf_succ, Option.map_some, puts_same, puts_ne, gv_bool, gv_undef, tt, tf, ft, ff, eq_self, if_true, if_false, Bool.false_eq_true, Bool.not_true, Bool.not_false, g14]; done) | omega) only [go_sem, BoxAt.cell hb0_0, BoxAt.cell hb0_1, RdS.len rv sl22, wrap_id, g14, eq_self, if_true, if_false, Bool.false_eq_true]
                        try simp -implicitDefEqProofs (disch := first | decide | assumption | omega) only [go_sem, BoxAt.cell hb0_0, BoxAt.cell hb0_1, RdS.len rv sl22, wrap_id]
                        refine CallA.pure (eqS_same _ _ _ _ (OS.rd how18_5_0) (OS.rd how13_9_0)) ?_
                        try simp -implicitDefEqProofs (disch := first | decide | assumption | (simp (disch := decide) only [slotOf_zero, slotOf_succ, Option.map_some, puts_same, puts_ne, gv_bool, gv_undef, tt, tf, ft, ff, eq_self, if_true, if_false, Bool.false_eq_true, Bool.not_true, Bool.not_false, g14]; done) | omega) only [go_sem, BoxAt.cell hb0_0, BoxAt.cell hb0_1, RdS.len rv sl22, wrap_id, g14, eq_self, if_true, if_false, Bool.false_eq_true]
                        try simp -implicitDefEqProofs (disch := first | decide | assumption | (simp (disch := decide) only [slotOf_zero, slotOf_succ, Option.map_some, puts_same, puts_ne, gv_bool, gv_undef, tt, tf, ft, ff, eq_self, if_true, if_false, Bool.false_eq_true, Bool.not_true, Bool.not_false, g14]; done) | omega) only [go_sem, BoxAt.cell hb0_0, BoxAt.cell hb0_1, RdS.len rv sl22, wrap_id, g14, eq_self, if_true, if_false, Bool.false_eq_true]
                        refine hK _ _ ?_
                        clear hK K
                        refine den_stop ?_
                        refine ⟨?_, rfl⟩
                        first | (simp (disch := decide) only [go_sem, g14, eq_self, Bool.true_and, Bool.and_true, Bool.false_and, Bool.and_false, Bool.true_or, Bool.or_true, Bool.false_or, Bool.or_false, if_true, if_false, Bool.false_eq_true]; done) | simp [HasL, sel, puts_at, g14]
                      · try simp -implicitDefEqProofs (disch := first | decide | assumption | (simp (disch := decide) only [slotOf_zero, slotOf_succ, Option.map_some, puts_same, puts_ne, gv_bool, gv_undef, tt, tf, ft, ff, eq_self, if_true, if_false, Bool.false_eq_true, Bool.not_true, Bool.not_false, g14]; done) | omega) only [go_sem, BoxAt.cell hb0_0, BoxAt.cell hb0_1, RdS.len rv sl22, wrap_id, g14, eq_self, if_true, if_false, Bool.false_eq_true]
                        try simp -implicitDefEqProofs (disch := first | decide | assumption | (simp (disch := decide) only [slotOf_zero, slotOf_succ, Option.map_some, puts_same, puts_ne, gv_bool, gv_undef, tt, tf, ft, ff, eq_self, if_true, if_false, Bool.false_eq_true, Bool.not_true, Bool.not_false, g14]; done) | omega) only [go_sem, BoxAt.cell hb0_0, BoxAt.cell hb0_1, RdS.len rv sl22, wrap_id, g14, eq_self, if_true, if_false, Bool.false_eq_true]
                        refine hK _ _ ?_
                        clear hK K
                        refine den_stop ?_
                        refine ⟨?_, rfl⟩
                        first | (simp (disch := decide) only [go_sem, g14, eq_self, Bool.true_and, Bool.and_true, Bool.false_and, Bool.and_false, Bool.true_or, Bool.or_true, Bool.false_or, Bool.or_false, if_true, if_false, Bool.false_eq_true]; done) | simp [HasL, sel, puts_at, g14]
                    intro en15
                    simp (disch := decide) only [go_sem]
                    refine den_cond rfl (fun c9 => ?_) (fun c9 => ?_)
                    · try simp only [decide_eq_true_eq, decide_eq_false_iff_not, beq_iff_eq, beq_eq_false_iff_ne, bne_iff_ne, ne_eq, Bool.not_eq_true', Bool.not_eq_false', Bool.and_eq_true, Bool.or_eq_true, bne_eq_false_iff_eq] at c9
                      refine den_seq ?_
                      refine den_region TTok ?_
                      intro K hK
                      simp -implicitDefEqProofs (disch := first | decide | assumption | omega) only [go_sem, RdS.len rv sl22, wrap_id]
                      refine hK _ _ ?_
                      clear hK K
                      refine den_ret ?_
                      simp (disch := decide) only [resP_1, puts_same, puts_ne]
                      exact absurd c9 (by first | (simp; done) | (simp; omega) | omega | (simp [eqC_self]; done))
                    · try simp only [decide_eq_true_eq, decide_eq_false_iff_not, beq_iff_eq, beq_eq_false_iff_ne, bne_iff_ne, ne_eq, Bool.not_eq_true', Bool.not_eq_false', Bool.and_eq_true, Bool.or_eq_true, bne_eq_false_iff_eq] at c9
                      refine den_skip ?_
                      refine den_seq ?_
                      refine den_region TTok ?_
                      intro K hK
                      simp -implicitDefEqProofs (disch := first | decide | assumption | omega) only [go_sem, BoxAt.cell hb0_0, BoxAt.cell hb0_1, RdS.len rv sl22, wrap_id]
                      refine hK _ _ ?_
                      clear hK K
                      refine den_seq ?_
                      refine den_region TTok ?_
                      intro K hK
                      simp -implicitDefEqProofs (disch := first | decide | assumption | omega) only [go_sem, BoxAt.cell hb0_0, BoxAt.cell hb0_1, RdS.len rv sl22, wrap_id]
                      try simp -implicitDefEqProofs (disch := first | decide | assumption | omega) only [go_sem, BoxAt.cell hb0_0, BoxAt.cell hb0_1, RdS.len rv sl22, wrap_id]
                      refine CallA.mono (markS_ok _ ((afP X Y f n v).1) (1 : Int) _ _ how18_5_0 hfw18_5_0.nodup (by omega)) ?_
                      intro v_ h37_2
                      rintro ⟨rfl, hog37_2, cg37_2⟩
                      replace how13_9_0 := OS.chg how13_9_0 cg37_2 (apart_lt hlhow13_9_0 hfw18_5_0 (by omega))
                      replace hb0_0 := BoxAt.chgA hb0_0 cg37_2 (apart_lt hlhb0_0 hfw18_5_0 (by omega))
                      replace hb0_1 := BoxAt.chgA hb0_1 cg37_2 (apart_lt hlhb0_1 hfw18_5_0 (by omega))
                      have := cg37_2.size
                      replace eB := Ext.then eB cg37_2 (ge_of hfw18_5_0 (by omega))
                      have hlhog37_2 := OS.lt hog37_2
                      try simp -implicitDefEqProofs (disch := first | decide | assumption | omega) only [go_sem, BoxAt.cell hb0_0, BoxAt.cell hb0_1, RdS.len rv sl22, wrap_id]
                      refine hK _ _ ?_
                      clear hK K
                      refine den_seq ?_
                      refine den_region TTok ?_
                      intro K hK
                      simp -implicitDefEqProofs (disch := first | decide | assumption | omega) only [go_sem, BoxAt.cell hb0_0, BoxAt.cell hb0_1, RdS.len rv sl22, wrap_id]
                      refine hK _ _ ?_
                      clear hK K
                      refine den_seq ?_
                      refine den_region TTok ?_
                      intro K hK
                      simp -implicitDefEqProofs (disch := first | decide | assumption | omega) only [go_sem, BoxAt.cell hb0_0, BoxAt.cell hb0_1, RdS.len rv sl22, wrap_id]
                      try simp -implicitDefEqProofs (disch := first | decide | assumption | omega) only [go_sem, BoxAt.cell hb0_0, BoxAt.cell hb0_1, RdS.len rv sl22, wrap_id]
                      refine CallA.pure (heldS_ok _ ((afP X Y f n v).1) (1 : Int) _ (OS.rd hog37_2) (by omega)) ?_
                      try simp -implicitDefEqProofs (disch := first | decide | assumption | omega) only [go_sem, BoxAt.cell hb0_0, BoxAt.cell hb0_1, RdS.len rv sl22, wrap_id]
                      refine hK _ _ ?_
                      clear hK K
                      refine den_seq ?_
                      refine den_seq ?_
                      refine den_region TTok ?_
                      intro K hK
                      simp -implicitDefEqProofs (disch := first | decide | assumption | omega) only [go_sem, BoxAt.cell hb0_0, BoxAt.cell hb0_1, RdS.len rv sl22, wrap_id]
                      refine hK _ _ ?_
                      clear hK K
                      refine den_cond rfl (fun c10 => ?_) (fun c10 => ?_)
                      · try simp only [decide_eq_true_eq, decide_eq_false_iff_not, beq_iff_eq, beq_eq_false_iff_ne, bne_iff_ne, ne_eq, Bool.not_eq_true', Bool.not_eq_false', Bool.and_eq_true, Bool.or_eq_true, bne_eq_false_iff_eq] at c10
                        refine den_seq ?_
                        refine den_region TTok ?_
                        intro K hK
                        simp -implicitDefEqProofs (disch := first | decide | assumption | omega) only [go_sem, RdS.len rv sl22, wrap_id]
                        refine hK _ _ ?_
                        clear hK K
                        refine den_ret ?_
                        simp (disch := decide) only [resP_1, puts_same, puts_ne]
                        exact absurd c10 (by first | (simp; done) | (simp; omega) | omega | (simp [eqC_self]; done))
                      · try simp only [decide_eq_true_eq, decide_eq_false_iff_not, beq_iff_eq, beq_eq_false_iff_ne, bne_iff_ne, ne_eq, Bool.not_eq_true', Bool.not_eq_false', Bool.and_eq_true, Bool.or_eq_true, bne_eq_false_iff_eq] at c10
                        refine den_skip ?_
                        refine den_seq ?_
                        refine den_seq ?_
                        refine den_region TTok ?_
                        intro K hK
                        simp -implicitDefEqProofs (disch := first | decide | assumption | omega) only [go_sem, BoxAt.cell hb0_0, BoxAt.cell hb0_1, RdS.len rv sl22, wrap_id]
                        refine hK _ _ ?_
                        clear hK K
                        refine den_cond rfl (fun c11 => ?_) (fun c11 => ?_)
                        · try simp only [decide_eq_true_eq, decide_eq_false_iff_not, beq_iff_eq, beq_eq_false_iff_ne, bne_iff_ne, ne_eq, Bool.not_eq_true', Bool.not_eq_false', Bool.and_eq_true, Bool.or_eq_true, bne_eq_false_iff_eq] at c11
                          refine den_seq ?_
                          refine den_region TTok ?_
                          intro K hK
                          simp -implicitDefEqProofs (disch := first | decide | assumption | omega) only [go_sem, RdS.len rv sl22, wrap_id]
                          refine hK _ _ ?_
                          clear hK K
                          refine den_ret ?_
                          simp (disch := decide) only [resP_1, puts_same, puts_ne]
                          exact absurd c11 (by first | (simp; done) | (simp; omega) | omega | (simp [eqC_self]; done))
                        · try simp only [decide_eq_true_eq, decide_eq_false_iff_not, beq_iff_eq, beq_eq_false_iff_ne, bne_iff_ne, ne_eq, Bool.not_eq_true', Bool.not_eq_false', Bool.and_eq_true, Bool.or_eq_true, bne_eq_false_iff_eq] at c11
                          refine den_skip ?_
                          refine den_seq ?_
                          refine den_draw TTok mixed [] [(0, true), (2, true), (4, true), (6, true), (7, true), (1, false), (3, false), (5, false), (8, false), (9, false), (10, true), (11, true), (12, true), (13, true), (14, true)] (by kernel_rfl) ?_
                          intro K hK
                          simp -implicitDefEqProofs (disch := first | decide | assumption | omega) only [go_sem, ld25, BoxAt.cell hb0_0, BoxAt.cell hb0_1, RdS.len rv sl22, wrap_id]
                          try simp -implicitDefEqProofs (disch := first | decide | assumption | omega) only [go_sem, BoxAt.cell hb0_0, BoxAt.cell hb0_1, RdS.len rv sl22, wrap_id]
                          refine CallA.mono (toC_ok _ X _ ⟨_, _, rfl, (RdS.pres hdX (Ext.pres eB)), (RdS.pres hmX (Ext.pres eB))⟩ hMX) ?_
                          intro v_ h44_1
                          rintro ⟨vd44_1, vm44_1, fd44_1, fm44_1, rfl, hod44_1, hom44_1, hf44_1, e44_1⟩
                          replace how13_9_0 := OS.ext how13_9_0 e44_1
                          replace hog37_2 := OS.ext hog37_2 e44_1
                          replace hb0_0 := BoxAt.ext hb0_0 e44_1
                          replace hb0_1 := BoxAt.ext hb0_1 e44_1
                          have := Ext.size e44_1
                          replace eB := Ext.trans eB e44_1
                          have hfd44_1 := hf44_1.left
                          have hfm44_1 := hf44_1.right
                          have hlhod44_1 := OS.lt hod44_1
                          have hlhom44_1 := OS.lt hom44_1
                          have ap18 : Apart fd44_1 fm44_1 := apart_nodup hf44_1
                          try simp (disch := decide) only [outv_some, outv_none, put_puts]
                          refine plK_pres (Ext.pres e44_1) ?_
                          try simp -implicitDefEqProofs (disch := first | decide | assumption | omega) only [go_sem, BoxAt.cell hb0_0, BoxAt.cell hb0_1, RdS.len rv sl22, wrap_id]
                          try simp -implicitDefEqProofs (disch := first | decide | assumption | omega) only [go_sem, BoxAt.cell hb0_0, BoxAt.cell hb0_1, RdS.len rv sl22, wrap_id]
                          refine CallA.mono (toC_ok _ Y _ ⟨_, _, rfl, (RdS.pres hdY (Ext.pres eB)), (RdS.pres hmY (Ext.pres eB))⟩ hMY) ?_
                          intro v_ h44_3
                          rintro ⟨vd44_3, vm44_3, fd44_3, fm44_3, rfl, hod44_3, hom44_3, hf44_3, e44_3⟩
                          replace how13_9_0 := OS.ext how13_9_0 e44_3
                          replace hog37_2 := OS.ext hog37_2 e44_3
                          replace hod44_1 := OS.ext hod44_1 e44_3
                          replace hom44_1 := OS.ext hom44_1 e44_3
                          replace hb0_0 := BoxAt.ext hb0_0 e44_3
                          replace hb0_1 := BoxAt.ext hb0_1 e44_3
                          have := Ext.size e44_3
                          replace eB := Ext.trans eB e44_3
                          have hfd44_3 := hf44_3.left
                          have hfm44_3 := hf44_3.right
                          have hlhod44_3 := OS.lt hod44_3
                          have hlhom44_3 := OS.lt hom44_3
                          have ap19 : Apart fd44_3 fm44_3 := apart_nodup hf44_3
                          try simp (disch := decide) only [outv_some, outv_none, put_puts]
                          refine plK_pres (Ext.pres e44_3) ?_
                          try simp -implicitDefEqProofs (disch := first | decide | assumption | omega) only [go_sem, BoxAt.cell hb0_0, BoxAt.cell hb0_1, RdS.len rv sl22, wrap_id]
                          try simp -implicitDefEqProofs (disch := first | decide | assumption | omega) only [go_sem, BoxAt.cell hb0_0, BoxAt.cell hb0_1, RdS.len rv sl22, wrap_id]
                          refine CallA.mono (toSSS_ok _ f _ (RdS.pres rf (Ext.pres eB)) hMf) ?_
                          intro v44_5 h44_5
                          rintro ⟨f44_5, ho44_5, hf44_5, e44_5⟩
                          replace how13_9_0 := OS.ext how13_9_0 e44_5
                          replace hog37_2 := OS.ext hog37_2 e44_5
                          replace hod44_1 := OS.ext hod44_1 e44_5
                          replace hom44_1 := OS.ext hom44_1 e44_5
                          replace hod44_3 := OS.ext hod44_3 e44_5
                          replace hom44_3 := OS.ext hom44_3 e44_5
                          replace hb0_0 := BoxAt.ext hb0_0 e44_5
                          replace hb0_1 := BoxAt.ext hb0_1 e44_5
                          have := Ext.size e44_5
                          replace eB := Ext.trans eB e44_5
                          have hlho44_5 := OS.lt ho44_5
                          try simp (disch := decide) only [outv_some, outv_none, put_puts]
                          refine plK_pres (Ext.pres e44_5) ?_
                          try simp -implicitDefEqProofs (disch := first | decide | assumption | omega) only [go_sem, BoxAt.cell hb0_0, BoxAt.cell hb0_1, RdS.len rv sl22, wrap_id]
                          try simp -implicitDefEqProofs (disch := first | decide | assumption | omega) only [go_sem, BoxAt.cell hb0_0, BoxAt.cell hb0_1, RdS.len rv sl22, wrap_id]
                          refine CallA.mono (toS_ok _ v _ (RdS.pres rv (Ext.pres eB)) hMv) ?_
                          intro v44_8 h44_8
                          rintro ⟨f44_8, ho44_8, hf44_8, e44_8⟩
                          replace how13_9_0 := OS.ext how13_9_0 e44_8
                          replace hog37_2 := OS.ext hog37_2 e44_8
                          replace hod44_1 := OS.ext hod44_1 e44_8
                          replace hom44_1 := OS.ext hom44_1 e44_8
                          replace hod44_3 := OS.ext hod44_3 e44_8
                          replace hom44_3 := OS.ext hom44_3 e44_8
                          replace ho44_5 := OS.ext ho44_5 e44_8
                          replace hb0_0 := BoxAt.ext hb0_0 e44_8
                          replace hb0_1 := BoxAt.ext hb0_1 e44_8
                          have := Ext.size e44_8
                          replace eB := Ext.trans eB e44_8
                          have hlho44_8 := OS.lt ho44_8
                          try simp (disch := decide) only [outv_some, outv_none, put_puts]
                          refine plK_pres (Ext.pres e44_8) ?_
                          try simp -implicitDefEqProofs (disch := first | decide | assumption | omega) only [go_sem, BoxAt.cell hb0_0, BoxAt.cell hb0_1, RdS.len rv sl22, wrap_id]
                          try simp -implicitDefEqProofs (disch := first | decide | assumption | omega) only [go_sem, BoxAt.cell hb0_0, BoxAt.cell hb0_1, RdS.len rv sl22, wrap_id]
                          refine CallA.mono (iAf_ok _ _ _ _ X Y f n v _ ⟨_, _, rfl, (OS.rd hod44_1), (OS.rd hom44_1)⟩ ⟨_, _, rfl, (OS.rd hod44_3), (OS.rd hom44_3)⟩ (OS.rd ho44_5) (OS.rd ho44_8) ) ?_
                          intro v_ h44_9
                          rintro ⟨vw44_9_0, fw44_9_0, rfl, how44_9_0, hfw44_9_0, e44_9⟩
                          replace how13_9_0 := OS.ext how13_9_0 e44_9
                          replace hog37_2 := OS.ext hog37_2 e44_9
                          replace hod44_1 := OS.ext hod44_1 e44_9
                          replace hom44_1 := OS.ext hom44_1 e44_9
                          replace hod44_3 := OS.ext hod44_3 e44_9
                          replace hom44_3 := OS.ext hom44_3 e44_9
                          replace ho44_5 := OS.ext ho44_5 e44_9
                          replace ho44_8 := OS.ext ho44_8 e44_9
                          replace hb0_0 := BoxAt.ext hb0_0 e44_9
                          replace hb0_1 := BoxAt.ext hb0_1 e44_9
                          have := Ext.size e44_9
                          replace eB := Ext.trans eB e44_9
                          have hlhow44_9_0 := OS.lt how44_9_0
                          try simp (disch := decide) only [outv_some, outv_none, put_puts]
                          refine plK_pres (Ext.pres e44_9) ?_
                          try simp -implicitDefEqProofs (disch := first | decide | assumption | omega) only [go_sem, BoxAt.cell hb0_0, BoxAt.cell hb0_1, RdS.len rv sl22, wrap_id]
                          refine hK _ _ ?_
                          clear hK K
                          refine den_seq ?_
                          refine den_seq ?_
                          refine den_mergeH [(159, .bool (((!(true)) || (((afP X Y f n v).2) != ((afP X Y f n v).2)))))] [18, 21] ?_ ?_
                            -- a way
                          · refine den_region TTok ?_
                            intro K hK
                            simp -implicitDefEqProofs (disch := first | decide | assumption | (simp (disch := decide) only [slotOf_zero, slotOf_succ, Option.map_some, puts_same, puts_ne, gv_bool, gv_undef, tt, tf, ft, ff, eq_self, if_true, if_false, Bool.false_eq_true, Bool.not_true, Bool.not_false]; done) | omega) only [go_sem, RdS.len rv sl22, wrap_id]
                            try simp -implicitDefEqProofs (disch := first | decide | assumption | omega) only [go_sem, RdS.len rv sl22, wrap_id]
                            refine CallA.pure (eqS_same _ _ _ _ (OS.rd how44_9_0) (OS.rd how13_9_0)) ?_
                            try simp -implicitDefEqProofs (disch := first | decide | assumption | (simp (disch := decide) only [slotOf_zero, slotOf_succ, Option.map_some, puts_same, puts_ne, gv_bool, gv_undef, tt, tf, ft, ff, eq_self, if_true, if_false, Bool.false_eq_true, Bool.not_true, Bool.not_false]; done) | omega) only [go_sem, RdS.len rv sl22, wrap_id]
                            try simp -implicitDefEqProofs (disch := first | decide | assumption | (simp (disch := decide) only [slotOf_zero, slotOf_succ, Option.map_some, puts_same, puts_ne, gv_bool, gv_undef, tt, tf, ft, ff, eq_self, if_true, if_false, Bool.false_eq_true, Bool.not_true, Bool.not_false]; done) | omega) only [go_sem, RdS.len rv sl22, wrap_id]
                            refine hK _ _ ?_
                            clear hK K
                            refine den_stop ?_
                            refine ⟨?_, rfl⟩
                            first | (simp (disch := decide) only [go_sem, eq_self, Bool.true_and, Bool.and_true, Bool.false_and, Bool.and_false, Bool.true_or, Bool.or_true, Bool.false_or, Bool.or_false, if_true, if_false, Bool.false_eq_true]; done) | simp [HasL, sel, puts_at]
                          intro en20
                          simp (disch := decide) only [go_sem]
                          refine den_cond rfl (fun c12 => ?_) (fun c12 => ?_)
                          · try simp only [decide_eq_true_eq, decide_eq_false_iff_not, beq_iff_eq, beq_eq_false_iff_ne, bne_iff_ne, ne_eq, Bool.not_eq_true', Bool.not_eq_false', Bool.and_eq_true, Bool.or_eq_true, bne_eq_false_iff_eq] at c12
                            refine den_seq ?_
                            refine den_region TTok ?_
                            intro K hK
                            simp -implicitDefEqProofs (disch := first | decide | assumption | omega) only [go_sem, RdS.len rv sl22, wrap_id]
                            refine hK _ _ ?_
                            clear hK K
                            refine den_ret ?_
                            simp (disch := decide) only [resP_1, puts_same, puts_ne]
                            exact absurd c12 (by first | (simp; done) | (simp; omega) | omega | (simp [eqC_self]; done))
                          · try simp only [decide_eq_true_eq, decide_eq_false_iff_not, beq_iff_eq, beq_eq_false_iff_ne, bne_iff_ne, ne_eq, Bool.not_eq_true', Bool.not_eq_false', Bool.and_eq_true, Bool.or_eq_true, bne_eq_false_iff_eq] at c12
                            refine den_skip ?_
                            refine den_seq ?_
                            refine den_region TTok ?_
                            intro K hK
                            simp -implicitDefEqProofs (disch := first | decide | assumption | omega) only [go_sem, RdS.len rv sl22, wrap_id]
                            refine hK _ _ ?_
                            clear hK K
                            refine den_seq ?_
                            refine den_region TTok ?_
                            intro K hK
                            simp -implicitDefEqProofs (disch := first | decide | assumption | omega) only [go_sem, RdS.len rv sl22, wrap_id]
                            try simp -implicitDefEqProofs (disch := first | decide | assumption | omega) only [go_sem, RdS.len rv sl22, wrap_id]
                            refine CallA.pure (heldS_ok _ ((afP X Y f n v).1) (1 : Int) _ (OS.rd hog37_2) (by omega)) ?_
                            try simp -implicitDefEqProofs (disch := first | decide | assumption | omega) only [go_sem, RdS.len rv sl22, wrap_id]
                            refine hK _ _ ?_
                            clear hK K
                            refine den_seq ?_
                            refine den_seq ?_
                            refine den_region TTok ?_
                            intro K hK
                            simp -implicitDefEqProofs (disch := first | decide | assumption | omega) only [go_sem, RdS.len rv sl22, wrap_id]
                            refine hK _ _ ?_
                            clear hK K
                            refine den_cond rfl (fun c13 => ?_) (fun c13 => ?_)
                            · try simp only [decide_eq_true_eq, decide_eq_false_iff_not, beq_iff_eq, beq_eq_false_iff_ne, bne_iff_ne, ne_eq, Bool.not_eq_true', Bool.not_eq_false', Bool.and_eq_true, Bool.or_eq_true, bne_eq_false_iff_eq] at c13
                              refine den_seq ?_
                              refine den_region TTok ?_
                              intro K hK
                              simp -implicitDefEqProofs (disch := first | decide | assumption | omega) only [go_sem, RdS.len rv sl22, wrap_id]
                              refine hK _ _ ?_
                              clear hK K
                              refine den_ret ?_
                              simp (disch := decide) only [resP_1, puts_same, puts_ne]
                              exact absurd c13 (by first | (simp; done) | (simp; omega) | omega | (simp [eqC_self]; done))
                            · try simp only [decide_eq_true_eq, decide_eq_false_iff_not, beq_iff_eq, beq_eq_false_iff_ne, bne_iff_ne, ne_eq, Bool.not_eq_true', Bool.not_eq_false', Bool.and_eq_true, Bool.or_eq_true, bne_eq_false_iff_eq] at c13
                              refine den_skip ?_
                              refine den_seq ?_
                              refine den_seq ?_
                              refine den_region TTok ?_
                              intro K hK
                              simp -implicitDefEqProofs (disch := first | decide | assumption | omega) only [go_sem, RdS.len rv sl22, wrap_id]
                              refine hK _ _ ?_
                              clear hK K
                              refine den_cond rfl (fun c14 => ?_) (fun c14 => ?_)
                              · try simp only [decide_eq_true_eq, decide_eq_false_iff_not, beq_iff_eq, beq_eq_false_iff_ne, bne_iff_ne, ne_eq, Bool.not_eq_true', Bool.not_eq_false', Bool.and_eq_true, Bool.or_eq_true, bne_eq_false_iff_eq] at c14
                                refine den_seq ?_
                                refine den_region TTok ?_
                                intro K hK
                                simp -implicitDefEqProofs (disch := first | decide | assumption | omega) only [go_sem, RdS.len rv sl22, wrap_id]
                                refine hK _ _ ?_
                                clear hK K
                                refine den_ret ?_
                                simp (disch := decide) only [resP_1, puts_same, puts_ne]
                                exact absurd c14 (by first | (simp; done) | (simp; omega) | omega | (simp [eqC_self]; done))
                              · try simp only [decide_eq_true_eq, decide_eq_false_iff_not, beq_iff_eq, beq_eq_false_iff_ne, bne_iff_ne, ne_eq, Bool.not_eq_true', Bool.not_eq_false', Bool.and_eq_true, Bool.or_eq_true, bne_eq_false_iff_eq] at c14
                                refine den_skip ?_
                                refine den_seq ?_
                                refine den_region TTok ?_
                                intro K hK
                                simp -implicitDefEqProofs (disch := first | decide | assumption | omega) only [go_sem, RdS.len rv sl22, wrap_id]
                                refine hK _ _ ?_
                                clear hK K
                                refine den_ret ?_
                                simp (disch := decide) only [resP_1, puts_same, puts_ne]
                                exact ⟨by first | rfl | trivial, eB⟩

end Go.Proofs.Ytffggocjkhcgeaa
