/-
  What the statement FnExactIsHomotopy uses of the walks, part 4.
  Conditions: each theorem's own.
-/
import Derived.Test.YtffggocjkhcgeaaG16
import Derived.Test.YtffggocjkhcgeaaG17
import Derived.Test.YtffggocjkhcgeaaG14
import Derived.Test.YtffggocjkhcgeaaG13
import Derived.Test.YtffggocjkhcgeaaG15
import Derived.Test.YtffggocjkhcgeaaZIsHomotopy1
import Derived.Test.YtffggocjkhcgeaaZIsHomotopy2
import Derived.Test.YtffggocjkhcgeaaZIsHomotopy3
set_option linter.unusedVariables false
set_option linter.unusedSimpArgs false
namespace Go.Proofs.Ytffggocjkhcgeaa
open Go
set_option maxRecDepth 100000 in
set_option maxHeartbeats 4000000 in
theorem iHm_ok (vX vY vf vg vq : Value) (X : Cx) (Y : Cx) (f : List (List (List Int))) (g : List (List (List Int))) (q : List (List (List Int))) (h : Heap) (rX : RC h vX X) (rY : RC h vY Y) (rf : R3 h vf f) (rg : R3 h vg g) (rq : R3 h vq q)  : CallA Try.prog 57 #[vX, vY, vf, vg, vq] h fun v' h' => v' = .tuple #[.bool ((hmP X Y f g q).1), .int .i64 ((hmP X Y f g q).2)] ∧ Ext h h' := by
  obtain ⟨vdX, vmX, rfl, hdX, hmX⟩ := rX
  have hledX := RdS.le hdX
  have hlemX := RdS.le hmX
  obtain ⟨vdY, vmY, rfl, hdY, hmY⟩ := rY
  have hledY := RdS.le hdY
  have hlemY := RdS.le hmY
  have hlef := RdS.le rf
  have hleg := RdS.le rg
  have hleq := RdS.le rq
  refine callA_intro TTok (args := [_, _, _, _, _]) Try.func57 (by kernel_rfl) rfl 119 rfl (by simp) [.tmp 10, .tmp 11] rfl ?_
  simp only [idxs, Nat.reduceAdd]
  refine den_seq ?_
  refine den_region TTok ?_
  intro K hK
  simp -implicitDefEqProofs (disch := first | decide | assumption | omega) only [go_sem, RdS.len hdX sl22, RdS.idx hdX sl22, R1.intB hdX (HPres.refl _), RdS.cells hdX, RdS.len hmX sl23, RdS.idx hmX sl23, RdS.cellB hmX (HPres.refl _), RdS.cells hmX, RdS.len hdY sl22, RdS.idx hdY sl22, R1.intB hdY (HPres.refl _), RdS.cells hdY, RdS.len hmY sl23, RdS.idx hmY sl23, RdS.cellB hmY (HPres.refl _), RdS.cells hmY, RdS.len rf sl23, RdS.idx rf sl23, RdS.cellB rf (HPres.refl _), RdS.cells rf, RdS.len rg sl23, RdS.idx rg sl23, RdS.cellB rg (HPres.refl _), RdS.cells rg, RdS.len rq sl23, RdS.idx rq sl23, RdS.cellB rq (HPres.refl _), RdS.cells rq, wrap_id, Int.add_sub_cancel]
  refine op_box (cs := #[.int .i64 (X.p), vdX, vmX]) rfl ?_
  intro h0_0 e0_0 hb0_0 z0_0
  have := Ext.size e0_0
  have eB := e0_0
  have hfhb0_0 : Fresh h.size [h.size] := Fresh.one _
  have hlhb0_0 := one_lt (show h.size < h0_0.size by omega)
  try simp -implicitDefEqProofs (disch := first | decide | assumption | omega) only [go_sem, RdS.len hdX sl22, RdS.idx hdX sl22, R1.intB hdX (Ext.pres eB), RdS.cells hdX, RdS.len hmX sl23, RdS.idx hmX sl23, RdS.cellB hmX (Ext.pres eB), RdS.cells hmX, RdS.len hdY sl22, RdS.idx hdY sl22, R1.intB hdY (Ext.pres eB), RdS.cells hdY, RdS.len hmY sl23, RdS.idx hmY sl23, RdS.cellB hmY (Ext.pres eB), RdS.cells hmY, RdS.len rf sl23, RdS.idx rf sl23, RdS.cellB rf (Ext.pres eB), RdS.cells rf, RdS.len rg sl23, RdS.idx rg sl23, RdS.cellB rg (Ext.pres eB), RdS.cells rg, RdS.len rq sl23, RdS.idx rq sl23, RdS.cellB rq (Ext.pres eB), RdS.cells rq, BoxAt.cell hb0_0, wrap_id, Int.add_sub_cancel]
  refine op_box (cs := #[.int .i64 (Y.p), vdY, vmY]) rfl ?_
  intro h0_1 e0_1 hb0_1 z0_1
  replace hb0_0 := BoxAt.ext hb0_0 e0_1
  have := Ext.size e0_1
  replace eB := Ext.trans eB e0_1
  have hfhb0_1 : Fresh h0_0.size [h0_0.size] := Fresh.one _
  have hlhb0_1 := one_lt (show h0_0.size < h0_1.size by omega)
  try simp -implicitDefEqProofs (disch := first | decide | assumption | omega) only [go_sem, RdS.len hdX sl22, RdS.idx hdX sl22, R1.intB hdX (Ext.pres eB), RdS.cells hdX, RdS.len hmX sl23, RdS.idx hmX sl23, RdS.cellB hmX (Ext.pres eB), RdS.cells hmX, RdS.len hdY sl22, RdS.idx hdY sl22, R1.intB hdY (Ext.pres eB), RdS.cells hdY, RdS.len hmY sl23, RdS.idx hmY sl23, RdS.cellB hmY (Ext.pres eB), RdS.cells hmY, RdS.len rf sl23, RdS.idx rf sl23, RdS.cellB rf (Ext.pres eB), RdS.cells rf, RdS.len rg sl23, RdS.idx rg sl23, RdS.cellB rg (Ext.pres eB), RdS.cells rg, RdS.len rq sl23, RdS.idx rq sl23, RdS.cellB rq (Ext.pres eB), RdS.cells rq, BoxAt.cell hb0_0, BoxAt.cell hb0_1, wrap_id, Int.add_sub_cancel]
  refine hK _ _ ?_
  clear hK K
  refine den_seq ?_
  refine den_region TTok ?_
  intro K hK
  simp -implicitDefEqProofs (disch := first | decide | assumption | omega) only [go_sem, ld30, RdS.len hdX sl22, RdS.idx hdX sl22, R1.intB hdX (Ext.pres eB), RdS.cells hdX, RdS.len hmX sl23, RdS.idx hmX sl23, RdS.cellB hmX (Ext.pres eB), RdS.cells hmX, RdS.len hdY sl22, RdS.idx hdY sl22, R1.intB hdY (Ext.pres eB), RdS.cells hdY, RdS.len hmY sl23, RdS.idx hmY sl23, RdS.cellB hmY (Ext.pres eB), RdS.cells hmY, RdS.len rf sl23, RdS.idx rf sl23, RdS.cellB rf (Ext.pres eB), RdS.cells rf, RdS.len rg sl23, RdS.idx rg sl23, RdS.cellB rg (Ext.pres eB), RdS.cells rg, RdS.len rq sl23, RdS.idx rq sl23, RdS.cellB rq (Ext.pres eB), RdS.cells rq, BoxAt.cell hb0_0, BoxAt.cell hb0_1, wrap_id, Int.add_sub_cancel]
  refine op_bs2F (RdS.pres rf (Ext.pres eB)) (RdS.pres rg (Ext.pres eB)) ?_
  intro v1_4 h1_4 ho1_4 e1_4
  replace hb0_0 := BoxAt.ext hb0_0 e1_4
  replace hb0_1 := BoxAt.ext hb0_1 e1_4
  have := Ext.size e1_4
  replace eB := Ext.trans eB e1_4
  have xr1 := Ext.refl h1_4
  try simp -implicitDefEqProofs (disch := first | decide | assumption | omega) only [go_sem, RdS.len hdX sl22, RdS.idx hdX sl22, R1.intB hdX (Ext.pres eB), RdS.cells hdX, RdS.len hmX sl23, RdS.idx hmX sl23, RdS.cellB hmX (Ext.pres eB), RdS.cells hmX, RdS.len hdY sl22, RdS.idx hdY sl22, R1.intB hdY (Ext.pres eB), RdS.cells hdY, RdS.len hmY sl23, RdS.idx hmY sl23, RdS.cellB hmY (Ext.pres eB), RdS.cells hmY, RdS.len rf sl23, RdS.idx rf sl23, RdS.cellB rf (Ext.pres eB), RdS.cells rf, RdS.len rg sl23, RdS.idx rg sl23, RdS.cellB rg (Ext.pres eB), RdS.cells rg, RdS.len rq sl23, RdS.idx rq sl23, RdS.cellB rq (Ext.pres eB), RdS.cells rq, BoxAt.cell hb0_0, BoxAt.cell hb0_1, RdS.len ho1_4 sl114, RdS.idx ho1_4 sl114, RdS.cellB ho1_4 (Ext.pres xr1), RdS.cells ho1_4, wrap_id, Int.add_sub_cancel]
  try simp -implicitDefEqProofs (disch := first | decide | assumption | omega) only [go_sem, RdS.len hdX sl22, RdS.idx hdX sl22, R1.intB hdX (Ext.pres eB), RdS.cells hdX, RdS.len hmX sl23, RdS.idx hmX sl23, RdS.cellB hmX (Ext.pres eB), RdS.cells hmX, RdS.len hdY sl22, RdS.idx hdY sl22, R1.intB hdY (Ext.pres eB), RdS.cells hdY, RdS.len hmY sl23, RdS.idx hmY sl23, RdS.cellB hmY (Ext.pres eB), RdS.cells hmY, RdS.len rf sl23, RdS.idx rf sl23, RdS.cellB rf (Ext.pres eB), RdS.cells rf, RdS.len rg sl23, RdS.idx rg sl23, RdS.cellB rg (Ext.pres eB), RdS.cells rg, RdS.len rq sl23, RdS.idx rq sl23, RdS.cellB rq (Ext.pres eB), RdS.cells rq, BoxAt.cell hb0_0, BoxAt.cell hb0_1, RdS.len ho1_4 sl114, RdS.idx ho1_4 sl114, RdS.cellB ho1_4 (Ext.pres xr1), RdS.cells ho1_4, wrap_id, Int.add_sub_cancel]
  refine CallA.mono (iFamC_ok _ _ _ X Y ([f, g]) _ ⟨_, _, rfl, (RdS.pres hdX (Ext.pres eB)), (RdS.pres hmX (Ext.pres eB))⟩ ⟨_, _, rfl, (RdS.pres hdY (Ext.pres eB)), (RdS.pres hmY (Ext.pres eB))⟩ (RdS.pres ho1_4 (Ext.pres xr1)) ) ?_
  intro v_ h1_5
  rintro ⟨rfl, e1_5⟩
  replace hb0_0 := BoxAt.ext hb0_0 e1_5
  replace hb0_1 := BoxAt.ext hb0_1 e1_5
  have := Ext.size e1_5
  replace eB := Ext.trans eB e1_5
  replace xr1 := Ext.trans xr1 e1_5
  try simp -implicitDefEqProofs (disch := first | decide | assumption | omega) only [go_sem, RdS.len hdX sl22, RdS.idx hdX sl22, R1.intB hdX (Ext.pres eB), RdS.cells hdX, RdS.len hmX sl23, RdS.idx hmX sl23, RdS.cellB hmX (Ext.pres eB), RdS.cells hmX, RdS.len hdY sl22, RdS.idx hdY sl22, R1.intB hdY (Ext.pres eB), RdS.cells hdY, RdS.len hmY sl23, RdS.idx hmY sl23, RdS.cellB hmY (Ext.pres eB), RdS.cells hmY, RdS.len rf sl23, RdS.idx rf sl23, RdS.cellB rf (Ext.pres eB), RdS.cells rf, RdS.len rg sl23, RdS.idx rg sl23, RdS.cellB rg (Ext.pres eB), RdS.cells rg, RdS.len rq sl23, RdS.idx rq sl23, RdS.cellB rq (Ext.pres eB), RdS.cells rq, BoxAt.cell hb0_0, BoxAt.cell hb0_1, RdS.len ho1_4 sl114, RdS.idx ho1_4 sl114, RdS.cellB ho1_4 (Ext.pres xr1), RdS.cells ho1_4, wrap_id, Int.add_sub_cancel]
  refine hK _ _ ?_
  clear hK K
  refine den_seq ?_
  refine den_seq ?_
  refine den_merge [(32, .bool ((((famC X Y ([f, g])) == (0 : Int)) && (!((famP X Y q (1 : Int)))))))] [2, 3, 4, 5, 6, 12] (fun H => Ext h1_5 H) ?_ ?_
    -- a way
  · refine den_region TTok ?_
    intro K hK
    simp -implicitDefEqProofs (disch := first | decide | assumption | (simp (disch := decide) only [slotOf_zero, slotOf_succ, Option.map_some, puts_same, puts_ne, gv_bool, gv_undef, tt, tf, ft, ff, eq_self, if_true, if_false, Bool.false_eq_true, Bool.not_true, Bool.not_false]; done) | omega) only [go_sem, RdS.len hdX sl22, RdS.idx hdX sl22, R1.intB hdX (Ext.pres eB), RdS.cells hdX, RdS.len hmX sl23, RdS.idx hmX sl23, RdS.cellB hmX (Ext.pres eB), RdS.cells hmX, RdS.len hdY sl22, RdS.idx hdY sl22, R1.intB hdY (Ext.pres eB), RdS.cells hdY, RdS.len hmY sl23, RdS.idx hmY sl23, RdS.cellB hmY (Ext.pres eB), RdS.cells hmY, RdS.len rf sl23, RdS.idx rf sl23, RdS.cellB rf (Ext.pres eB), RdS.cells rf, RdS.len rg sl23, RdS.idx rg sl23, RdS.cellB rg (Ext.pres eB), RdS.cells rg, RdS.len rq sl23, RdS.idx rq sl23, RdS.cellB rq (Ext.pres eB), RdS.cells rq, BoxAt.cell hb0_0, BoxAt.cell hb0_1, RdS.len ho1_4 sl114, RdS.idx ho1_4 sl114, RdS.cellB ho1_4 (Ext.pres xr1), RdS.cells ho1_4, wrap_id, Int.add_sub_cancel]
    refine opsP_T (by simp (disch := decide) only [slotOf_zero, slotOf_succ, Option.map_some, puts_same, puts_ne, gv_bool, gv_undef, tt, tf, ft, ff, eq_self, if_true, if_false, Bool.false_eq_true, Bool.not_true, Bool.not_false]; rfl) (fun g2 => ?_) (fun g2 => ?_)
    · obtain ⟨h1_, _⟩ := famC_0 (b0 g2)
      obtain ⟨hX, hY, hpp, hll⟩ := pairC_0 h1_
      have hpb := isP_bnd hX.p
      try simp -implicitDefEqProofs (disch := first | decide | assumption | (simp (disch := decide) only [slotOf_zero, slotOf_succ, Option.map_some, puts_same, puts_ne, gv_bool, gv_undef, tt, tf, ft, ff, eq_self, if_true, if_false, Bool.false_eq_true, Bool.not_true, Bool.not_false, g2]; done) | omega) only [go_sem, ld30, RdS.len hdX sl22, RdS.idx hdX sl22, R1.intB hdX (Ext.pres eB), RdS.cells hdX, RdS.len hmX sl23, RdS.idx hmX sl23, RdS.cellB hmX (Ext.pres eB), RdS.cells hmX, RdS.len hdY sl22, RdS.idx hdY sl22, R1.intB hdY (Ext.pres eB), RdS.cells hdY, RdS.len hmY sl23, RdS.idx hmY sl23, RdS.cellB hmY (Ext.pres eB), RdS.cells hmY, RdS.len rf sl23, RdS.idx rf sl23, RdS.cellB rf (Ext.pres eB), RdS.cells rf, RdS.len rg sl23, RdS.idx rg sl23, RdS.cellB rg (Ext.pres eB), RdS.cells rg, RdS.len rq sl23, RdS.idx rq sl23, RdS.cellB rq (Ext.pres eB), RdS.cells rq, BoxAt.cell hb0_0, BoxAt.cell hb0_1, RdS.len ho1_4 sl114, RdS.idx ho1_4 sl114, RdS.cellB ho1_4 (Ext.pres xr1), RdS.cells ho1_4, wrap_id, Int.add_sub_cancel, g2, eq_self, if_true, if_false, Bool.false_eq_true]
      try simp -implicitDefEqProofs (disch := first | decide | assumption | omega) only [go_sem, RdS.len hdX sl22, RdS.idx hdX sl22, R1.intB hdX (Ext.pres eB), RdS.cells hdX, RdS.len hmX sl23, RdS.idx hmX sl23, RdS.cellB hmX (Ext.pres eB), RdS.cells hmX, RdS.len hdY sl22, RdS.idx hdY sl22, R1.intB hdY (Ext.pres eB), RdS.cells hdY, RdS.len hmY sl23, RdS.idx hmY sl23, RdS.cellB hmY (Ext.pres eB), RdS.cells hmY, RdS.len rf sl23, RdS.idx rf sl23, RdS.cellB rf (Ext.pres eB), RdS.cells rf, RdS.len rg sl23, RdS.idx rg sl23, RdS.cellB rg (Ext.pres eB), RdS.cells rg, RdS.len rq sl23, RdS.idx rq sl23, RdS.cellB rq (Ext.pres eB), RdS.cells rq, BoxAt.cell hb0_0, BoxAt.cell hb0_1, RdS.len ho1_4 sl114, RdS.idx ho1_4 sl114, RdS.cellB ho1_4 (Ext.pres xr1), RdS.cells ho1_4, wrap_id, Int.add_sub_cancel]
      refine CallA.mono (iFam_ok _ _ _ X Y q (1 : Int) _ ⟨_, _, rfl, (RdS.pres hdX (Ext.pres eB)), (RdS.pres hmX (Ext.pres eB))⟩ ⟨_, _, rfl, (RdS.pres hdY (Ext.pres eB)), (RdS.pres hmY (Ext.pres eB))⟩ (RdS.pres rq (Ext.pres eB)) hX (by omega)) ?_
      intro v_ h2_6
      rintro ⟨rfl, e2_6⟩
      replace hb0_0 := BoxAt.ext hb0_0 e2_6
      replace hb0_1 := BoxAt.ext hb0_1 e2_6
      have := Ext.size e2_6
      replace eB := Ext.trans eB e2_6
      replace xr1 := Ext.trans xr1 e2_6
      try simp -implicitDefEqProofs (disch := first | decide | assumption | (simp (disch := decide) only [slotOf_zero, slotOf_succ, Option.map_some, puts_same, puts_ne, gv_bool, gv_undef, tt, tf, ft, ff, eq_self, if_true, if_false, Bool.false_eq_true, Bool.not_true, Bool.not_false, g2]; done) | omega) only [go_sem, RdS.len hdX sl22, RdS.idx hdX sl22, R1.intB hdX (Ext.pres eB), RdS.cells hdX, RdS.len hmX sl23, RdS.idx hmX sl23, RdS.cellB hmX (Ext.pres eB), RdS.cells hmX, RdS.len hdY sl22, RdS.idx hdY sl22, R1.intB hdY (Ext.pres eB), RdS.cells hdY, RdS.len hmY sl23, RdS.idx hmY sl23, RdS.cellB hmY (Ext.pres eB), RdS.cells hmY, RdS.len rf sl23, RdS.idx rf sl23, RdS.cellB rf (Ext.pres eB), RdS.cells rf, RdS.len rg sl23, RdS.idx rg sl23, RdS.cellB rg (Ext.pres eB), RdS.cells rg, RdS.len rq sl23, RdS.idx rq sl23, RdS.cellB rq (Ext.pres eB), RdS.cells rq, BoxAt.cell hb0_0, BoxAt.cell hb0_1, RdS.len ho1_4 sl114, RdS.idx ho1_4 sl114, RdS.cellB ho1_4 (Ext.pres xr1), RdS.cells ho1_4, wrap_id, Int.add_sub_cancel, g2, eq_self, if_true, if_false, Bool.false_eq_true]
      refine hK _ _ ?_
      clear hK K
      refine den_stop ?_
      refine ⟨?_, e2_6⟩
      first | (simp (disch := decide) only [go_sem, g2, eq_self, Bool.true_and, Bool.and_true, Bool.false_and, Bool.and_false, Bool.true_or, Bool.or_true, Bool.false_or, Bool.or_false, if_true, if_false, Bool.false_eq_true]; done) | simp [HasL, sel, puts_at, g2]
    · try simp -implicitDefEqProofs (disch := first | decide | assumption | (simp (disch := decide) only [slotOf_zero, slotOf_succ, Option.map_some, puts_same, puts_ne, gv_bool, gv_undef, tt, tf, ft, ff, eq_self, if_true, if_false, Bool.false_eq_true, Bool.not_true, Bool.not_false, g2]; done) | omega) only [go_sem, RdS.len hdX sl22, RdS.idx hdX sl22, R1.intB hdX (Ext.pres eB), RdS.cells hdX, RdS.len hmX sl23, RdS.idx hmX sl23, RdS.cellB hmX (Ext.pres eB), RdS.cells hmX, RdS.len hdY sl22, RdS.idx hdY sl22, R1.intB hdY (Ext.pres eB), RdS.cells hdY, RdS.len hmY sl23, RdS.idx hmY sl23, RdS.cellB hmY (Ext.pres eB), RdS.cells hmY, RdS.len rf sl23, RdS.idx rf sl23, RdS.cellB rf (Ext.pres eB), RdS.cells rf, RdS.len rg sl23, RdS.idx rg sl23, RdS.cellB rg (Ext.pres eB), RdS.cells rg, RdS.len rq sl23, RdS.idx rq sl23, RdS.cellB rq (Ext.pres eB), RdS.cells rq, BoxAt.cell hb0_0, BoxAt.cell hb0_1, RdS.len ho1_4 sl114, RdS.idx ho1_4 sl114, RdS.cellB ho1_4 (Ext.pres xr1), RdS.cells ho1_4, wrap_id, Int.add_sub_cancel, g2, eq_self, if_true, if_false, Bool.false_eq_true]
      refine hK _ _ ?_
      clear hK K
      refine den_stop ?_
      refine ⟨?_, Ext.refl _⟩
      first | (simp (disch := decide) only [go_sem, g2, eq_self, Bool.true_and, Bool.and_true, Bool.false_and, Bool.and_false, Bool.true_or, Bool.or_true, Bool.false_or, Bool.or_false, if_true, if_false, Bool.false_eq_true]; done) | simp [HasL, sel, puts_at, g2]
  intro en3 h4 e5
  replace hb0_0 := BoxAt.ext hb0_0 e5
  replace hb0_1 := BoxAt.ext hb0_1 e5
  have := Ext.size e5
  replace eB := Ext.trans eB e5
  replace xr1 := Ext.trans xr1 e5
  simp (disch := decide) only [go_sem]
  refine den_mergeH [(12, .int .i64 ((cadd (famC X Y ([f, g])) (2 : Int) (!((famP X Y q (1 : Int)))))))] [2, 3, 4, 5, 6] ?_ ?_
  · refine den_cond rfl (fun c0 => ?_) (fun c0 => ?_)
    · refine den_region TTok ?_
      intro K hK
      simp -implicitDefEqProofs (disch := first | decide | assumption | omega) only [go_sem, RdS.len hdX sl22, RdS.idx hdX sl22, R1.intB hdX (Ext.pres eB), RdS.cells hdX, RdS.len hmX sl23, RdS.idx hmX sl23, RdS.cellB hmX (Ext.pres eB), RdS.cells hmX, RdS.len hdY sl22, RdS.idx hdY sl22, R1.intB hdY (Ext.pres eB), RdS.cells hdY, RdS.len hmY sl23, RdS.idx hmY sl23, RdS.cellB hmY (Ext.pres eB), RdS.cells hmY, RdS.len rf sl23, RdS.idx rf sl23, RdS.cellB rf (Ext.pres eB), RdS.cells rf, RdS.len rg sl23, RdS.idx rg sl23, RdS.cellB rg (Ext.pres eB), RdS.cells rg, RdS.len rq sl23, RdS.idx rq sl23, RdS.cellB rq (Ext.pres eB), RdS.cells rq, BoxAt.cell hb0_0, BoxAt.cell hb0_1, RdS.len ho1_4 sl114, RdS.idx ho1_4 sl114, RdS.cellB ho1_4 (Ext.pres xr1), RdS.cells ho1_4, wrap_id, Int.add_sub_cancel]
      refine hK _ _ ?_
      clear hK K
      refine den_stop ?_
      refine ⟨?_, rfl⟩; simp (disch := decide) only [go_sem, c0, caddT c0, eq_self, if_true, if_false, Bool.false_eq_true, reduceCtorEq]
    · refine den_skip ?_
      refine den_stop ?_
      refine ⟨?_, rfl⟩; simp (disch := decide) only [go_sem, c0, caddF c0, eq_self, if_true, if_false, Bool.false_eq_true, reduceCtorEq]
  intro en6
  simp (disch := decide) only [go_sem]
  refine den_seq ?_
  refine den_seq ?_
  refine den_region TTok ?_
  intro K hK
  simp -implicitDefEqProofs (disch := first | decide | assumption | omega) only [go_sem, RdS.len hdX sl22, RdS.idx hdX sl22, R1.intB hdX (Ext.pres eB), RdS.cells hdX, RdS.len hmX sl23, RdS.idx hmX sl23, RdS.cellB hmX (Ext.pres eB), RdS.cells hmX, RdS.len hdY sl22, RdS.idx hdY sl22, R1.intB hdY (Ext.pres eB), RdS.cells hdY, RdS.len hmY sl23, RdS.idx hmY sl23, RdS.cellB hmY (Ext.pres eB), RdS.cells hmY, RdS.len rf sl23, RdS.idx rf sl23, RdS.cellB rf (Ext.pres eB), RdS.cells rf, RdS.len rg sl23, RdS.idx rg sl23, RdS.cellB rg (Ext.pres eB), RdS.cells rg, RdS.len rq sl23, RdS.idx rq sl23, RdS.cellB rq (Ext.pres eB), RdS.cells rq, BoxAt.cell hb0_0, BoxAt.cell hb0_1, RdS.len ho1_4 sl114, RdS.idx ho1_4 sl114, RdS.cellB ho1_4 (Ext.pres xr1), RdS.cells ho1_4, wrap_id, Int.add_sub_cancel]
  refine hK _ _ ?_
  clear hK K
  refine den_cond rfl (fun c1 => ?_) (fun c1 => ?_)
  · try simp only [decide_eq_true_eq, decide_eq_false_iff_not, beq_iff_eq, beq_eq_false_iff_ne, bne_iff_ne, ne_eq, Bool.not_eq_true', Bool.not_eq_false', Bool.and_eq_true, Bool.or_eq_true, bne_eq_false_iff_eq] at c1
    obtain ⟨h1_, h4_⟩ := (cadd_0 (by decide)).1 c1
    refine den_region TTok ?_
    intro K hK
    simp -implicitDefEqProofs (disch := first | decide | assumption | omega) only [go_sem, ld30, RdS.len hdX sl22, RdS.idx hdX sl22, R1.intB hdX (Ext.pres eB), RdS.cells hdX, RdS.len hmX sl23, RdS.idx hmX sl23, RdS.cellB hmX (Ext.pres eB), RdS.cells hmX, RdS.len hdY sl22, RdS.idx hdY sl22, R1.intB hdY (Ext.pres eB), RdS.cells hdY, RdS.len hmY sl23, RdS.idx hmY sl23, RdS.cellB hmY (Ext.pres eB), RdS.cells hmY, RdS.len rf sl23, RdS.idx rf sl23, RdS.cellB rf (Ext.pres eB), RdS.cells rf, RdS.len rg sl23, RdS.idx rg sl23, RdS.cellB rg (Ext.pres eB), RdS.cells rg, RdS.len rq sl23, RdS.idx rq sl23, RdS.cellB rq (Ext.pres eB), RdS.cells rq, BoxAt.cell hb0_0, BoxAt.cell hb0_1, RdS.len ho1_4 sl114, RdS.idx ho1_4 sl114, RdS.cellB ho1_4 (Ext.pres xr1), RdS.cells ho1_4, wrap_id, Int.add_sub_cancel]
    refine op_bs2F (RdS.pres rf (Ext.pres eB)) (RdS.pres rg (Ext.pres eB)) ?_
    intro v5_4 h5_4 ho5_4 e5_4
    replace hb0_0 := BoxAt.ext hb0_0 e5_4
    replace hb0_1 := BoxAt.ext hb0_1 e5_4
    have := Ext.size e5_4
    replace eB := Ext.trans eB e5_4
    replace xr1 := Ext.trans xr1 e5_4
    have xr7 := Ext.refl h5_4
    try simp -implicitDefEqProofs (disch := first | decide | assumption | omega) only [go_sem, RdS.len hdX sl22, RdS.idx hdX sl22, R1.intB hdX (Ext.pres eB), RdS.cells hdX, RdS.len hmX sl23, RdS.idx hmX sl23, RdS.cellB hmX (Ext.pres eB), RdS.cells hmX, RdS.len hdY sl22, RdS.idx hdY sl22, R1.intB hdY (Ext.pres eB), RdS.cells hdY, RdS.len hmY sl23, RdS.idx hmY sl23, RdS.cellB hmY (Ext.pres eB), RdS.cells hmY, RdS.len rf sl23, RdS.idx rf sl23, RdS.cellB rf (Ext.pres eB), RdS.cells rf, RdS.len rg sl23, RdS.idx rg sl23, RdS.cellB rg (Ext.pres eB), RdS.cells rg, RdS.len rq sl23, RdS.idx rq sl23, RdS.cellB rq (Ext.pres eB), RdS.cells rq, BoxAt.cell hb0_0, BoxAt.cell hb0_1, RdS.len ho1_4 sl114, RdS.idx ho1_4 sl114, RdS.cellB ho1_4 (Ext.pres xr1), RdS.cells ho1_4, RdS.len ho5_4 sl114, RdS.idx ho5_4 sl114, RdS.cellB ho5_4 (Ext.pres xr7), RdS.cells ho5_4, wrap_id, Int.add_sub_cancel]
    try simp -implicitDefEqProofs (disch := first | decide | assumption | omega) only [go_sem, RdS.len hdX sl22, RdS.idx hdX sl22, R1.intB hdX (Ext.pres eB), RdS.cells hdX, RdS.len hmX sl23, RdS.idx hmX sl23, RdS.cellB hmX (Ext.pres eB), RdS.cells hmX, RdS.len hdY sl22, RdS.idx hdY sl22, R1.intB hdY (Ext.pres eB), RdS.cells hdY, RdS.len hmY sl23, RdS.idx hmY sl23, RdS.cellB hmY (Ext.pres eB), RdS.cells hmY, RdS.len rf sl23, RdS.idx rf sl23, RdS.cellB rf (Ext.pres eB), RdS.cells rf, RdS.len rg sl23, RdS.idx rg sl23, RdS.cellB rg (Ext.pres eB), RdS.cells rg, RdS.len rq sl23, RdS.idx rq sl23, RdS.cellB rq (Ext.pres eB), RdS.cells rq, BoxAt.cell hb0_0, BoxAt.cell hb0_1, RdS.len ho1_4 sl114, RdS.idx ho1_4 sl114, RdS.cellB ho1_4 (Ext.pres xr1), RdS.cells ho1_4, RdS.len ho5_4 sl114, RdS.idx ho5_4 sl114, RdS.cellB ho5_4 (Ext.pres xr7), RdS.cells ho5_4, wrap_id, Int.add_sub_cancel]
    refine CallA.mono (iChnC_ok _ _ _ X Y ([f, g]) _ ⟨_, _, rfl, (RdS.pres hdX (Ext.pres eB)), (RdS.pres hmX (Ext.pres eB))⟩ ⟨_, _, rfl, (RdS.pres hdY (Ext.pres eB)), (RdS.pres hmY (Ext.pres eB))⟩ (RdS.pres ho5_4 (Ext.pres xr7)) ) ?_
    intro v_ h5_5
    rintro ⟨rfl, e5_5⟩
    replace hb0_0 := BoxAt.ext hb0_0 e5_5
    replace hb0_1 := BoxAt.ext hb0_1 e5_5
    have := Ext.size e5_5
    replace eB := Ext.trans eB e5_5
    replace xr1 := Ext.trans xr1 e5_5
    replace xr7 := Ext.trans xr7 e5_5
    try simp -implicitDefEqProofs (disch := first | decide | assumption | omega) only [go_sem, RdS.len hdX sl22, RdS.idx hdX sl22, R1.intB hdX (Ext.pres eB), RdS.cells hdX, RdS.len hmX sl23, RdS.idx hmX sl23, RdS.cellB hmX (Ext.pres eB), RdS.cells hmX, RdS.len hdY sl22, RdS.idx hdY sl22, R1.intB hdY (Ext.pres eB), RdS.cells hdY, RdS.len hmY sl23, RdS.idx hmY sl23, RdS.cellB hmY (Ext.pres eB), RdS.cells hmY, RdS.len rf sl23, RdS.idx rf sl23, RdS.cellB rf (Ext.pres eB), RdS.cells rf, RdS.len rg sl23, RdS.idx rg sl23, RdS.cellB rg (Ext.pres eB), RdS.cells rg, RdS.len rq sl23, RdS.idx rq sl23, RdS.cellB rq (Ext.pres eB), RdS.cells rq, BoxAt.cell hb0_0, BoxAt.cell hb0_1, RdS.len ho1_4 sl114, RdS.idx ho1_4 sl114, RdS.cellB ho1_4 (Ext.pres xr1), RdS.cells ho1_4, RdS.len ho5_4 sl114, RdS.idx ho5_4 sl114, RdS.cellB ho5_4 (Ext.pres xr7), RdS.cells ho5_4, wrap_id, Int.add_sub_cancel]
    refine hK _ _ ?_
    clear hK K
    refine den_seq ?_
    refine den_seq ?_
    refine den_region TTok ?_
    intro K hK
    simp -implicitDefEqProofs (disch := first | decide | assumption | omega) only [go_sem, RdS.len hdX sl22, RdS.idx hdX sl22, R1.intB hdX (Ext.pres eB), RdS.cells hdX, RdS.len hmX sl23, RdS.idx hmX sl23, RdS.cellB hmX (Ext.pres eB), RdS.cells hmX, RdS.len hdY sl22, RdS.idx hdY sl22, R1.intB hdY (Ext.pres eB), RdS.cells hdY, RdS.len hmY sl23, RdS.idx hmY sl23, RdS.cellB hmY (Ext.pres eB), RdS.cells hmY, RdS.len rf sl23, RdS.idx rf sl23, RdS.cellB rf (Ext.pres eB), RdS.cells rf, RdS.len rg sl23, RdS.idx rg sl23, RdS.cellB rg (Ext.pres eB), RdS.cells rg, RdS.len rq sl23, RdS.idx rq sl23, RdS.cellB rq (Ext.pres eB), RdS.cells rq, BoxAt.cell hb0_0, BoxAt.cell hb0_1, RdS.len ho1_4 sl114, RdS.idx ho1_4 sl114, RdS.cellB ho1_4 (Ext.pres xr1), RdS.cells ho1_4, RdS.len ho5_4 sl114, RdS.idx ho5_4 sl114, RdS.cellB ho5_4 (Ext.pres xr7), RdS.cells ho5_4, wrap_id, Int.add_sub_cancel]
    refine hK _ _ ?_
    clear hK K
    refine den_cond rfl (fun c2 => ?_) (fun c2 => ?_)
    · try simp only [decide_eq_true_eq, decide_eq_false_iff_not, beq_iff_eq, beq_eq_false_iff_ne, bne_iff_ne, ne_eq, Bool.not_eq_true', Bool.not_eq_false', Bool.and_eq_true, Bool.or_eq_true, bne_eq_false_iff_eq] at c2
      refine den_seq ?_
      refine den_region TTok ?_
      intro K hK
      simp -implicitDefEqProofs (disch := first | decide | assumption | omega) only [go_sem, RdS.len hdX sl22, RdS.idx hdX sl22, R1.intB hdX (Ext.pres eB), RdS.cells hdX, RdS.len hmX sl23, RdS.idx hmX sl23, RdS.cellB hmX (Ext.pres eB), RdS.cells hmX, RdS.len hdY sl22, RdS.idx hdY sl22, R1.intB hdY (Ext.pres eB), RdS.cells hdY, RdS.len hmY sl23, RdS.idx hmY sl23, RdS.cellB hmY (Ext.pres eB), RdS.cells hmY, RdS.len rf sl23, RdS.idx rf sl23, RdS.cellB rf (Ext.pres eB), RdS.cells rf, RdS.len rg sl23, RdS.idx rg sl23, RdS.cellB rg (Ext.pres eB), RdS.cells rg, RdS.len rq sl23, RdS.idx rq sl23, RdS.cellB rq (Ext.pres eB), RdS.cells rq, RdS.len ho1_4 sl114, RdS.idx ho1_4 sl114, RdS.cellB ho1_4 (Ext.pres xr1), RdS.cells ho1_4, RdS.len ho5_4 sl114, RdS.idx ho5_4 sl114, RdS.cellB ho5_4 (Ext.pres xr7), RdS.cells ho5_4, wrap_id, Int.add_sub_cancel]
      refine hK _ _ ?_
      clear hK K
      refine den_ret ?_
      simp (disch := decide) only [resP_2, puts_same, puts_ne]
      have e : hmC X Y f g q = chnC X Y [f, g] := by show (if cadd (famC X Y [f, g]) 2 (!(famP X Y q 1)) = 0 then chnC X Y [f, g] else cadd (famC X Y [f, g]) 2 (!(famP X Y q 1))) = _; rw [if_pos c1]
      have hz : hmP X Y f g q = (false, chnC X Y [f, g]) := by rw [hmP, if_neg (by rw [e]; exact c2), e]
      exact ⟨by rw [hz], eB⟩
    · try simp only [decide_eq_true_eq, decide_eq_false_iff_not, beq_iff_eq, beq_eq_false_iff_ne, bne_iff_ne, ne_eq, Bool.not_eq_true', Bool.not_eq_false', Bool.and_eq_true, Bool.or_eq_true, bne_eq_false_iff_eq] at c2
      have hmz : hmC X Y f g q = 0 := by show (if cadd (famC X Y [f, g]) 2 (!(famP X Y q 1)) = 0 then chnC X Y [f, g] else cadd (famC X Y [f, g]) 2 (!(famP X Y q 1))) = 0; rw [if_pos c1]; exact c2
      have hk := hmC_0 hmz
      have hX := hk.cX
      have hY := hk.cY
      have hF := hk.cq
      have hpb := isP_bnd hX.p
      have hlX := hX.len
      have hlf := hk.cf.len
      have hlk := hk.l
      refine den_skip ?_
      refine den_seq ?_
      refine den_region TTok ?_
      intro K hK
      simp -implicitDefEqProofs (disch := first | decide | assumption | omega) only [go_sem, fa30_0, ld2, RdS.len hdX sl22, RdS.idx hdX sl22, R1.intB hdX (Ext.pres eB), RdS.cells hdX, RdS.len hmX sl23, RdS.idx hmX sl23, RdS.cellB hmX (Ext.pres eB), RdS.cells hmX, RdS.len hdY sl22, RdS.idx hdY sl22, R1.intB hdY (Ext.pres eB), RdS.cells hdY, RdS.len hmY sl23, RdS.idx hmY sl23, RdS.cellB hmY (Ext.pres eB), RdS.cells hmY, RdS.len rf sl23, RdS.idx rf sl23, RdS.cellB rf (Ext.pres eB), RdS.cells rf, RdS.len rg sl23, RdS.idx rg sl23, RdS.cellB rg (Ext.pres eB), RdS.cells rg, RdS.len rq sl23, RdS.idx rq sl23, RdS.cellB rq (Ext.pres eB), RdS.cells rq, BoxAt.cell hb0_0, BoxAt.cell hb0_1, RdS.len ho1_4 sl114, RdS.idx ho1_4 sl114, RdS.cellB ho1_4 (Ext.pres xr1), RdS.cells ho1_4, RdS.len ho5_4 sl114, RdS.idx ho5_4 sl114, RdS.cellB ho5_4 (Ext.pres xr7), RdS.cells ho5_4, wrap_id, Int.add_sub_cancel]
      refine hK _ _ ?_
      clear hK K
      refine den_seq ?_
      refine den_seq ?_
      refine den_region TTok ?_
      intro K hK
      simp -implicitDefEqProofs (disch := first | decide | assumption | omega) only [go_sem, fa30_1, ld22, RdS.len hdX sl22, RdS.idx hdX sl22, R1.intB hdX (Ext.pres eB), RdS.cells hdX, RdS.len hmX sl23, RdS.idx hmX sl23, RdS.cellB hmX (Ext.pres eB), RdS.cells hmX, RdS.len hdY sl22, RdS.idx hdY sl22, R1.intB hdY (Ext.pres eB), RdS.cells hdY, RdS.len hmY sl23, RdS.idx hmY sl23, RdS.cellB hmY (Ext.pres eB), RdS.cells hmY, RdS.len rf sl23, RdS.idx rf sl23, RdS.cellB rf (Ext.pres eB), RdS.cells rf, RdS.len rg sl23, RdS.idx rg sl23, RdS.cellB rg (Ext.pres eB), RdS.cells rg, RdS.len rq sl23, RdS.idx rq sl23, RdS.cellB rq (Ext.pres eB), RdS.cells rq, BoxAt.cell hb0_0, BoxAt.cell hb0_1, RdS.len ho1_4 sl114, RdS.idx ho1_4 sl114, RdS.cellB ho1_4 (Ext.pres xr1), RdS.cells ho1_4, RdS.len ho5_4 sl114, RdS.idx ho5_4 sl114, RdS.cellB ho5_4 (Ext.pres xr7), RdS.cells ho5_4, wrap_id, Int.add_sub_cancel]
      try simp -implicitDefEqProofs (disch := first | decide | assumption | omega) only [go_sem, RdS.len hdX sl22, RdS.idx hdX sl22, R1.intB hdX (Ext.pres eB), RdS.cells hdX, RdS.len hmX sl23, RdS.idx hmX sl23, RdS.cellB hmX (Ext.pres eB), RdS.cells hmX, RdS.len hdY sl22, RdS.idx hdY sl22, R1.intB hdY (Ext.pres eB), RdS.cells hdY, RdS.len hmY sl23, RdS.idx hmY sl23, RdS.cellB hmY (Ext.pres eB), RdS.cells hmY, RdS.len rf sl23, RdS.idx rf sl23, RdS.cellB rf (Ext.pres eB), RdS.cells rf, RdS.len rg sl23, RdS.idx rg sl23, RdS.cellB rg (Ext.pres eB), RdS.cells rg, RdS.len rq sl23, RdS.idx rq sl23, RdS.cellB rq (Ext.pres eB), RdS.cells rq, BoxAt.cell hb0_0, BoxAt.cell hb0_1, RdS.len ho1_4 sl114, RdS.idx ho1_4 sl114, RdS.cellB ho1_4 (Ext.pres xr1), RdS.cells ho1_4, RdS.len ho5_4 sl114, RdS.idx ho5_4 sl114, RdS.cellB ho5_4 (Ext.pres xr7), RdS.cells ho5_4, wrap_id, Int.add_sub_cancel]
      refine CallA.pure (size1_ok _ _ _ (RdS.pres hdX (Ext.pres eB))) ?_
      try simp -implicitDefEqProofs (disch := first | decide | assumption | omega) only [go_sem, RdS.len hdX sl22, RdS.idx hdX sl22, R1.intB hdX (Ext.pres eB), RdS.cells hdX, RdS.len hmX sl23, RdS.idx hmX sl23, RdS.cellB hmX (Ext.pres eB), RdS.cells hmX, RdS.len hdY sl22, RdS.idx hdY sl22, R1.intB hdY (Ext.pres eB), RdS.cells hdY, RdS.len hmY sl23, RdS.idx hmY sl23, RdS.cellB hmY (Ext.pres eB), RdS.cells hmY, RdS.len rf sl23, RdS.idx rf sl23, RdS.cellB rf (Ext.pres eB), RdS.cells rf, RdS.len rg sl23, RdS.idx rg sl23, RdS.cellB rg (Ext.pres eB), RdS.cells rg, RdS.len rq sl23, RdS.idx rq sl23, RdS.cellB rq (Ext.pres eB), RdS.cells rq, BoxAt.cell hb0_0, BoxAt.cell hb0_1, RdS.len ho1_4 sl114, RdS.idx ho1_4 sl114, RdS.cellB ho1_4 (Ext.pres xr1), RdS.cells ho1_4, RdS.len ho5_4 sl114, RdS.idx ho5_4 sl114, RdS.cellB ho5_4 (Ext.pres xr7), RdS.cells ho5_4, wrap_id, Int.add_sub_cancel]
      refine hK _ _ ?_
      clear hK K
      refine den_block ?_
      refine den_sel [49, 2, 3, 4, 5, 6, 13, 48] ?_
      intro env_8
      simp only [go_sem]
      refine den_loopS (σ := Nat) (fun st_ => [(49, .int .i64 (st_ : Int))]) (fun st_ H => (st_ ≤ X.dims.length) ∧ (∀ j, j < st_ → ∀ i : Nat, (i : Int) < X.dims.getD j 0 → homAt X Y f g q j i) ∧ (Ext h5_5 H)) (fun st_ => X.dims.length - st_) 0 ?_ ?_
      · exact ⟨by simp, fun j hj => by omega, Ext.refl _⟩
      · rintro n h11 ee10 ⟨hn, hz, cL9⟩
        replace hb0_0 := BoxAt.ext hb0_0 cL9
        replace hb0_1 := BoxAt.ext hb0_1 cL9
        have := Ext.size cL9
        replace eB := Ext.trans eB cL9
        replace xr1 := Ext.trans xr1 cL9
        replace xr7 := Ext.trans xr7 cL9
        simp only [List.cons_append, List.nil_append]
        refine den_seq ?_
        refine den_region TTok ?_
        intro K hK
        simp -implicitDefEqProofs (disch := first | decide | assumption | omega) only [go_sem, RdS.len hdX sl22, RdS.idx hdX sl22, R1.intB hdX (Ext.pres eB), RdS.cells hdX, RdS.len hmX sl23, RdS.idx hmX sl23, RdS.cellB hmX (Ext.pres eB), RdS.cells hmX, RdS.len hdY sl22, RdS.idx hdY sl22, R1.intB hdY (Ext.pres eB), RdS.cells hdY, RdS.len hmY sl23, RdS.idx hmY sl23, RdS.cellB hmY (Ext.pres eB), RdS.cells hmY, RdS.len rf sl23, RdS.idx rf sl23, RdS.cellB rf (Ext.pres eB), RdS.cells rf, RdS.len rg sl23, RdS.idx rg sl23, RdS.cellB rg (Ext.pres eB), RdS.cells rg, RdS.len rq sl23, RdS.idx rq sl23, RdS.cellB rq (Ext.pres eB), RdS.cells rq, BoxAt.cell hb0_0, BoxAt.cell hb0_1, RdS.len ho1_4 sl114, RdS.idx ho1_4 sl114, RdS.cellB ho1_4 (Ext.pres xr1), RdS.cells ho1_4, RdS.len ho5_4 sl114, RdS.idx ho5_4 sl114, RdS.cellB ho5_4 (Ext.pres xr7), RdS.cells ho5_4, wrap_id, Int.add_sub_cancel]
        refine hK _ _ ?_
        clear hK K
        refine den_seq ?_
        refine den_cond rfl (fun c3 => ?_) (fun c3 => ?_)
        · try simp only [decide_eq_true_eq, decide_eq_false_iff_not, beq_iff_eq, beq_eq_false_iff_ne, bne_iff_ne, ne_eq, Bool.not_eq_true', Bool.not_eq_false', Bool.and_eq_true, Bool.or_eq_true, bne_eq_false_iff_eq] at c3
          refine den_skip ?_
          refine den_seq ?_
          refine den_block ?_
          refine den_seq ?_
          refine den_region TTok ?_
          intro K hK
          simp -implicitDefEqProofs (disch := first | decide | assumption | omega) only [go_sem, RdS.len hdX sl22, RdS.idx hdX sl22, R1.intB hdX (Ext.pres eB), RdS.cells hdX, RdS.len hmX sl23, RdS.idx hmX sl23, RdS.cellB hmX (Ext.pres eB), RdS.cells hmX, RdS.len hdY sl22, RdS.idx hdY sl22, R1.intB hdY (Ext.pres eB), RdS.cells hdY, RdS.len hmY sl23, RdS.idx hmY sl23, RdS.cellB hmY (Ext.pres eB), RdS.cells hmY, RdS.len rf sl23, RdS.idx rf sl23, RdS.cellB rf (Ext.pres eB), RdS.cells rf, RdS.len rg sl23, RdS.idx rg sl23, RdS.cellB rg (Ext.pres eB), RdS.cells rg, RdS.len rq sl23, RdS.idx rq sl23, RdS.cellB rq (Ext.pres eB), RdS.cells rq, BoxAt.cell hb0_0, BoxAt.cell hb0_1, RdS.len ho1_4 sl114, RdS.idx ho1_4 sl114, RdS.cellB ho1_4 (Ext.pres xr1), RdS.cells ho1_4, RdS.len ho5_4 sl114, RdS.idx ho5_4 sl114, RdS.cellB ho5_4 (Ext.pres xr7), RdS.cells ho5_4, wrap_id, Int.add_sub_cancel]
          refine hK _ _ ?_
          clear hK K
          refine den_seq ?_
          have hdn := dimP_bnd hX (n : Int)
          have hdna := dimP_at (X := X) (k := n) (by omega)
          have hul := units_len (dimP X (n : Int))
          refine den_region TTok ?_
          intro K hK
          simp -implicitDefEqProofs (disch := first | decide | assumption | omega) only [go_sem, ld30, RdS.len hdX sl22, RdS.idx hdX sl22, R1.intB hdX (Ext.pres eB), RdS.cells hdX, RdS.len hmX sl23, RdS.idx hmX sl23, RdS.cellB hmX (Ext.pres eB), RdS.cells hmX, RdS.len hdY sl22, RdS.idx hdY sl22, R1.intB hdY (Ext.pres eB), RdS.cells hdY, RdS.len hmY sl23, RdS.idx hmY sl23, RdS.cellB hmY (Ext.pres eB), RdS.cells hmY, RdS.len rf sl23, RdS.idx rf sl23, RdS.cellB rf (Ext.pres eB), RdS.cells rf, RdS.len rg sl23, RdS.idx rg sl23, RdS.cellB rg (Ext.pres eB), RdS.cells rg, RdS.len rq sl23, RdS.idx rq sl23, RdS.cellB rq (Ext.pres eB), RdS.cells rq, BoxAt.cell hb0_0, BoxAt.cell hb0_1, RdS.len ho1_4 sl114, RdS.idx ho1_4 sl114, RdS.cellB ho1_4 (Ext.pres xr1), RdS.cells ho1_4, RdS.len ho5_4 sl114, RdS.idx ho5_4 sl114, RdS.cellB ho5_4 (Ext.pres xr7), RdS.cells ho5_4, wrap_id, Int.add_sub_cancel]
          try simp -implicitDefEqProofs (disch := first | decide | assumption | omega) only [go_sem, RdS.len hdX sl22, RdS.idx hdX sl22, R1.intB hdX (Ext.pres eB), RdS.cells hdX, RdS.len hmX sl23, RdS.idx hmX sl23, RdS.cellB hmX (Ext.pres eB), RdS.cells hmX, RdS.len hdY sl22, RdS.idx hdY sl22, R1.intB hdY (Ext.pres eB), RdS.cells hdY, RdS.len hmY sl23, RdS.idx hmY sl23, RdS.cellB hmY (Ext.pres eB), RdS.cells hmY, RdS.len rf sl23, RdS.idx rf sl23, RdS.cellB rf (Ext.pres eB), RdS.cells rf, RdS.len rg sl23, RdS.idx rg sl23, RdS.cellB rg (Ext.pres eB), RdS.cells rg, RdS.len rq sl23, RdS.idx rq sl23, RdS.cellB rq (Ext.pres eB), RdS.cells rq, BoxAt.cell hb0_0, BoxAt.cell hb0_1, RdS.len ho1_4 sl114, RdS.idx ho1_4 sl114, RdS.cellB ho1_4 (Ext.pres xr1), RdS.cells ho1_4, RdS.len ho5_4 sl114, RdS.idx ho5_4 sl114, RdS.cellB ho5_4 (Ext.pres xr7), RdS.cells ho5_4, wrap_id, Int.add_sub_cancel]
          refine CallA.mono (iDim_ok _ X _ _ ⟨_, _, rfl, (RdS.pres hdX (Ext.pres eB)), (RdS.pres hmX (Ext.pres eB))⟩) ?_
          intro v_ h12_2
          rintro ⟨rfl, e12_2⟩
          replace hb0_0 := BoxAt.ext hb0_0 e12_2
          replace hb0_1 := BoxAt.ext hb0_1 e12_2
          have := Ext.size e12_2
          replace eB := Ext.trans eB e12_2
          replace xr1 := Ext.trans xr1 e12_2
          replace xr7 := Ext.trans xr7 e12_2
          replace cL9 := Ext.trans cL9 e12_2
          try simp -implicitDefEqProofs (disch := first | decide | assumption | omega) only [go_sem, RdS.len hdX sl22, RdS.idx hdX sl22, R1.intB hdX (Ext.pres eB), RdS.cells hdX, RdS.len hmX sl23, RdS.idx hmX sl23, RdS.cellB hmX (Ext.pres eB), RdS.cells hmX, RdS.len hdY sl22, RdS.idx hdY sl22, R1.intB hdY (Ext.pres eB), RdS.cells hdY, RdS.len hmY sl23, RdS.idx hmY sl23, RdS.cellB hmY (Ext.pres eB), RdS.cells hmY, RdS.len rf sl23, RdS.idx rf sl23, RdS.cellB rf (Ext.pres eB), RdS.cells rf, RdS.len rg sl23, RdS.idx rg sl23, RdS.cellB rg (Ext.pres eB), RdS.cells rg, RdS.len rq sl23, RdS.idx rq sl23, RdS.cellB rq (Ext.pres eB), RdS.cells rq, BoxAt.cell hb0_0, BoxAt.cell hb0_1, RdS.len ho1_4 sl114, RdS.idx ho1_4 sl114, RdS.cellB ho1_4 (Ext.pres xr1), RdS.cells ho1_4, RdS.len ho5_4 sl114, RdS.idx ho5_4 sl114, RdS.cellB ho5_4 (Ext.pres xr7), RdS.cells ho5_4, wrap_id, Int.add_sub_cancel]
          try simp -implicitDefEqProofs (disch := first | decide | assumption | omega) only [go_sem, RdS.len hdX sl22, RdS.idx hdX sl22, R1.intB hdX (Ext.pres eB), RdS.cells hdX, RdS.len hmX sl23, RdS.idx hmX sl23, RdS.cellB hmX (Ext.pres eB), RdS.cells hmX, RdS.len hdY sl22, RdS.idx hdY sl22, R1.intB hdY (Ext.pres eB), RdS.cells hdY, RdS.len hmY sl23, RdS.idx hmY sl23, RdS.cellB hmY (Ext.pres eB), RdS.cells hmY, RdS.len rf sl23, RdS.idx rf sl23, RdS.cellB rf (Ext.pres eB), RdS.cells rf, RdS.len rg sl23, RdS.idx rg sl23, RdS.cellB rg (Ext.pres eB), RdS.cells rg, RdS.len rq sl23, RdS.idx rq sl23, RdS.cellB rq (Ext.pres eB), RdS.cells rq, BoxAt.cell hb0_0, BoxAt.cell hb0_1, RdS.len ho1_4 sl114, RdS.idx ho1_4 sl114, RdS.cellB ho1_4 (Ext.pres xr1), RdS.cells ho1_4, RdS.len ho5_4 sl114, RdS.idx ho5_4 sl114, RdS.cellB ho5_4 (Ext.pres xr7), RdS.cells ho5_4, wrap_id, Int.add_sub_cancel]
          refine CallA.mono (iUnits_ok  (dimP X (n : Int)) _  (by omega)) ?_
          intro vw12_3_0 h12_3
          rintro ⟨zvw12_3_0, fw12_3_0, rfl, how12_3_0, hfw12_3_0, e12_3⟩
          replace hb0_0 := BoxAt.ext hb0_0 e12_3
          replace hb0_1 := BoxAt.ext hb0_1 e12_3
          have := Ext.size e12_3
          replace eB := Ext.trans eB e12_3
          replace xr1 := Ext.trans xr1 e12_3
          replace xr7 := Ext.trans xr7 e12_3
          replace cL9 := Ext.trans cL9 e12_3
          have hlhow12_3_0 := OS.lt how12_3_0
          try simp -implicitDefEqProofs (disch := first | decide | assumption | omega) only [go_sem, RdS.len hdX sl22, RdS.idx hdX sl22, R1.intB hdX (Ext.pres eB), RdS.cells hdX, RdS.len hmX sl23, RdS.idx hmX sl23, RdS.cellB hmX (Ext.pres eB), RdS.cells hmX, RdS.len hdY sl22, RdS.idx hdY sl22, R1.intB hdY (Ext.pres eB), RdS.cells hdY, RdS.len hmY sl23, RdS.idx hmY sl23, RdS.cellB hmY (Ext.pres eB), RdS.cells hmY, RdS.len rf sl23, RdS.idx rf sl23, RdS.cellB rf (Ext.pres eB), RdS.cells rf, RdS.len rg sl23, RdS.idx rg sl23, RdS.cellB rg (Ext.pres eB), RdS.cells rg, RdS.len rq sl23, RdS.idx rq sl23, RdS.cellB rq (Ext.pres eB), RdS.cells rq, RdS.len (OS.rd how12_3_0) sl56, RdS.idx (OS.rd how12_3_0) sl56, RdS.cellN (OS.rd how12_3_0), RdS.cells (OS.rd how12_3_0), BoxAt.cell hb0_0, BoxAt.cell hb0_1, RdS.len ho1_4 sl114, RdS.idx ho1_4 sl114, RdS.cellB ho1_4 (Ext.pres xr1), RdS.cells ho1_4, RdS.len ho5_4 sl114, RdS.idx ho5_4 sl114, RdS.cellB ho5_4 (Ext.pres xr7), RdS.cells ho5_4, wrap_id, Int.add_sub_cancel]
          refine hK _ _ ?_
          clear hK K
          refine den_block ?_
          refine den_sel [57, 2, 3, 4, 5, 6, 13, 14, 48, 49, 55, 56] ?_
          intro env_12
          simp only [go_sem]
          refine den_loopS (σ := Nat) (fun st_ => [(57, .int .i64 (st_ : Int))]) (fun st_ H => ((st_ : Int) ≤ X.dims.getD n 0) ∧ (∀ j, j < st_ → homAt X Y f g q n j) ∧ (Ext h12_3 H)) (fun st_ => (X.dims.getD n 0).toNat - st_) 0 ?_ ?_
          · exact ⟨by show ((0 : Nat) : Int) ≤ _; have := dm_at hX.dm (k := n) (by omega); omega, fun j hj => by omega, Ext.refl _⟩
          · rintro i h15 ee14 ⟨hi, hy, cL13⟩
            replace how12_3_0 := OS.ext how12_3_0 cL13
            replace hb0_0 := BoxAt.ext hb0_0 cL13
            replace hb0_1 := BoxAt.ext hb0_1 cL13
            have := Ext.size cL13
            replace eB := Ext.trans eB cL13
            replace xr1 := Ext.trans xr1 cL13
            replace xr7 := Ext.trans xr7 cL13
            replace cL9 := Ext.trans cL9 cL13
            simp only [List.cons_append, List.nil_append]
            refine den_seq ?_
            refine den_region TTok ?_
            intro K hK
            simp -implicitDefEqProofs (disch := first | decide | assumption | omega) only [go_sem, RdS.len hdX sl22, RdS.idx hdX sl22, R1.intB hdX (Ext.pres eB), RdS.cells hdX, RdS.len hmX sl23, RdS.idx hmX sl23, RdS.cellB hmX (Ext.pres eB), RdS.cells hmX, RdS.len hdY sl22, RdS.idx hdY sl22, R1.intB hdY (Ext.pres eB), RdS.cells hdY, RdS.len hmY sl23, RdS.idx hmY sl23, RdS.cellB hmY (Ext.pres eB), RdS.cells hmY, RdS.len rf sl23, RdS.idx rf sl23, RdS.cellB rf (Ext.pres eB), RdS.cells rf, RdS.len rg sl23, RdS.idx rg sl23, RdS.cellB rg (Ext.pres eB), RdS.cells rg, RdS.len rq sl23, RdS.idx rq sl23, RdS.cellB rq (Ext.pres eB), RdS.cells rq, RdS.len (OS.rd how12_3_0) sl56, RdS.idx (OS.rd how12_3_0) sl56, RdS.cellN (OS.rd how12_3_0), RdS.cells (OS.rd how12_3_0), BoxAt.cell hb0_0, BoxAt.cell hb0_1, RdS.len ho1_4 sl114, RdS.idx ho1_4 sl114, RdS.cellB ho1_4 (Ext.pres xr1), RdS.cells ho1_4, RdS.len ho5_4 sl114, RdS.idx ho5_4 sl114, RdS.cellB ho5_4 (Ext.pres xr7), RdS.cells ho5_4, wrap_id, Int.add_sub_cancel]
            refine hK _ _ ?_
            clear hK K
            refine den_seq ?_
            refine den_cond rfl (fun c4 => ?_) (fun c4 => ?_)
            · try simp only [decide_eq_true_eq, decide_eq_false_iff_not, beq_iff_eq, beq_eq_false_iff_ne, bne_iff_ne, ne_eq, Bool.not_eq_true', Bool.not_eq_false', Bool.and_eq_true, Bool.or_eq_true, bne_eq_false_iff_eq] at c4
              refine den_skip ?_
              refine den_seq ?_
              refine den_block ?_
              refine den_seq ?_
              have hR := homR_ok hk (n := n) (i := i) (by omega) (by omega)
              have hnf := hR.nf
              have hfi := hR.fi
              have hdy := hR.dy
              have hd8 := hR.d8
              have hur : (unitsP (dimP X (n : Int))).getD i default = unitP (X.dims.getD n 0).toNat i := by rw [units_row (by omega), hdna]
              refine den_region TTok ?_
              intro K hK
              have hr16 := RdS.rowN (OS.rd how12_3_0) i (by omega)
              have hlhr16 := RdS.le hr16
              have xr17 := Ext.refl h15
              simp -implicitDefEqProofs (disch := first | decide | assumption | omega) only [go_sem, ld22, RdS.len hdX sl22, RdS.idx hdX sl22, R1.intB hdX (Ext.pres eB), RdS.cells hdX, RdS.len hmX sl23, RdS.idx hmX sl23, RdS.cellB hmX (Ext.pres eB), RdS.cells hmX, RdS.len hdY sl22, RdS.idx hdY sl22, R1.intB hdY (Ext.pres eB), RdS.cells hdY, RdS.len hmY sl23, RdS.idx hmY sl23, RdS.cellB hmY (Ext.pres eB), RdS.cells hmY, RdS.len rf sl23, RdS.idx rf sl23, RdS.cellB rf (Ext.pres eB), RdS.cells rf, RdS.len rg sl23, RdS.idx rg sl23, RdS.cellB rg (Ext.pres eB), RdS.cells rg, RdS.len rq sl23, RdS.idx rq sl23, RdS.cellB rq (Ext.pres eB), RdS.cells rq, RdS.len (OS.rd how12_3_0) sl56, RdS.idx (OS.rd how12_3_0) sl56, RdS.cellN (OS.rd how12_3_0), RdS.cells (OS.rd how12_3_0), BoxAt.cell hb0_0, BoxAt.cell hb0_1, RdS.len ho1_4 sl114, RdS.idx ho1_4 sl114, RdS.cellB ho1_4 (Ext.pres xr1), RdS.cells ho1_4, RdS.len ho5_4 sl114, RdS.idx ho5_4 sl114, RdS.cellB ho5_4 (Ext.pres xr7), RdS.cells ho5_4, RdS.len hr16 sl22, RdS.idx hr16 sl22, R1.intB hr16 (Ext.pres xr17), RdS.cells hr16, wrap_id, Int.add_sub_cancel]
              refine hK _ _ ?_
              clear hK K
              refine den_seq ?_
              refine den_region TTok ?_
              intro K hK
              simp -implicitDefEqProofs (disch := first | decide | assumption | omega) only [go_sem, ld30, RdS.len hdX sl22, RdS.idx hdX sl22, R1.intB hdX (Ext.pres eB), RdS.cells hdX, RdS.len hmX sl23, RdS.idx hmX sl23, RdS.cellB hmX (Ext.pres eB), RdS.cells hmX, RdS.len hdY sl22, RdS.idx hdY sl22, R1.intB hdY (Ext.pres eB), RdS.cells hdY, RdS.len hmY sl23, RdS.idx hmY sl23, RdS.cellB hmY (Ext.pres eB), RdS.cells hmY, RdS.len rf sl23, RdS.idx rf sl23, RdS.cellB rf (Ext.pres eB), RdS.cells rf, RdS.len rg sl23, RdS.idx rg sl23, RdS.cellB rg (Ext.pres eB), RdS.cells rg, RdS.len rq sl23, RdS.idx rq sl23, RdS.cellB rq (Ext.pres eB), RdS.cells rq, RdS.len (OS.rd how12_3_0) sl56, RdS.idx (OS.rd how12_3_0) sl56, RdS.cellN (OS.rd how12_3_0), RdS.cells (OS.rd how12_3_0), BoxAt.cell hb0_0, BoxAt.cell hb0_1, RdS.len ho1_4 sl114, RdS.idx ho1_4 sl114, RdS.cellB ho1_4 (Ext.pres xr1), RdS.cells ho1_4, RdS.len ho5_4 sl114, RdS.idx ho5_4 sl114, RdS.cellB ho5_4 (Ext.pres xr7), RdS.cells ho5_4, RdS.len hr16 sl22, RdS.idx hr16 sl22, R1.intB hr16 (Ext.pres xr17), RdS.cells hr16, wrap_id, Int.add_sub_cancel]
              try simp -implicitDefEqProofs (disch := first | decide | assumption | omega) only [go_sem, RdS.len hdX sl22, RdS.idx hdX sl22, R1.intB hdX (Ext.pres eB), RdS.cells hdX, RdS.len hmX sl23, RdS.idx hmX sl23, RdS.cellB hmX (Ext.pres eB), RdS.cells hmX, RdS.len hdY sl22, RdS.idx hdY sl22, R1.intB hdY (Ext.pres eB), RdS.cells hdY, RdS.len hmY sl23, RdS.idx hmY sl23, RdS.cellB hmY (Ext.pres eB), RdS.cells hmY, RdS.len rf sl23, RdS.idx rf sl23, RdS.cellB rf (Ext.pres eB), RdS.cells rf, RdS.len rg sl23, RdS.idx rg sl23, RdS.cellB rg (Ext.pres eB), RdS.cells rg, RdS.len rq sl23, RdS.idx rq sl23, RdS.cellB rq (Ext.pres eB), RdS.cells rq, RdS.len (OS.rd how12_3_0) sl56, RdS.idx (OS.rd how12_3_0) sl56, RdS.cellN (OS.rd how12_3_0), RdS.cells (OS.rd how12_3_0), BoxAt.cell hb0_0, BoxAt.cell hb0_1, RdS.len ho1_4 sl114, RdS.idx ho1_4 sl114, RdS.cellB ho1_4 (Ext.pres xr1), RdS.cells ho1_4, RdS.len ho5_4 sl114, RdS.idx ho5_4 sl114, RdS.cellB ho5_4 (Ext.pres xr7), RdS.cells ho5_4, RdS.len hr16 sl22, RdS.idx hr16 sl22, R1.intB hr16 (Ext.pres xr17), RdS.cells hr16, wrap_id, Int.add_sub_cancel]
              refine CallA.mono (iDim_ok _ Y _ _ ⟨_, _, rfl, (RdS.pres hdY (Ext.pres eB)), (RdS.pres hmY (Ext.pres eB))⟩) ?_
              intro v_ h15_2
              rintro ⟨rfl, e15_2⟩
              replace how12_3_0 := OS.ext how12_3_0 e15_2
              replace hb0_0 := BoxAt.ext hb0_0 e15_2
              replace hb0_1 := BoxAt.ext hb0_1 e15_2
              have := Ext.size e15_2
              replace eB := Ext.trans eB e15_2
              replace xr1 := Ext.trans xr1 e15_2
              replace xr7 := Ext.trans xr7 e15_2
              replace xr17 := Ext.trans xr17 e15_2
              replace cL9 := Ext.trans cL9 e15_2
              replace cL13 := Ext.trans cL13 e15_2
              try simp -implicitDefEqProofs (disch := first | decide | assumption | omega) only [go_sem, RdS.len hdX sl22, RdS.idx hdX sl22, R1.intB hdX (Ext.pres eB), RdS.cells hdX, RdS.len hmX sl23, RdS.idx hmX sl23, RdS.cellB hmX (Ext.pres eB), RdS.cells hmX, RdS.len hdY sl22, RdS.idx hdY sl22, R1.intB hdY (Ext.pres eB), RdS.cells hdY, RdS.len hmY sl23, RdS.idx hmY sl23, RdS.cellB hmY (Ext.pres eB), RdS.cells hmY, RdS.len rf sl23, RdS.idx rf sl23, RdS.cellB rf (Ext.pres eB), RdS.cells rf, RdS.len rg sl23, RdS.idx rg sl23, RdS.cellB rg (Ext.pres eB), RdS.cells rg, RdS.len rq sl23, RdS.idx rq sl23, RdS.cellB rq (Ext.pres eB), RdS.cells rq, RdS.len (OS.rd how12_3_0) sl56, RdS.idx (OS.rd how12_3_0) sl56, RdS.cellN (OS.rd how12_3_0), RdS.cells (OS.rd how12_3_0), BoxAt.cell hb0_0, BoxAt.cell hb0_1, RdS.len ho1_4 sl114, RdS.idx ho1_4 sl114, RdS.cellB ho1_4 (Ext.pres xr1), RdS.cells ho1_4, RdS.len ho5_4 sl114, RdS.idx ho5_4 sl114, RdS.cellB ho5_4 (Ext.pres xr7), RdS.cells ho5_4, RdS.len hr16 sl22, RdS.idx hr16 sl22, R1.intB hr16 (Ext.pres xr17), RdS.cells hr16, wrap_id, Int.add_sub_cancel]
              refine op_make sz22 rfl rfl (by omega) (by omega) OI 0 (fun _ => ⟨rfl, rfl⟩) ?_
              intro v15_3 h15_3 ho15_3 e15_3
              replace how12_3_0 := OS.ext how12_3_0 e15_3
              replace hb0_0 := BoxAt.ext hb0_0 e15_3
              replace hb0_1 := BoxAt.ext hb0_1 e15_3
              have := Ext.size e15_3
              replace eB := Ext.trans eB e15_3
              replace xr1 := Ext.trans xr1 e15_3
              replace xr7 := Ext.trans xr7 e15_3
              replace xr17 := Ext.trans xr17 e15_3
              replace cL9 := Ext.trans cL9 e15_3
              replace cL13 := Ext.trans cL13 e15_3
              have hfho15_3 : Fresh h15_2.size [h15_2.size] := Fresh.one _
              have hlenho15_3 : (List.replicate ((dimP Y (n : Int))).toNat (0 : Int)).length = ((dimP Y (n : Int))).toNat := List.length_replicate
              have hlho15_3 := OS.lt ho15_3
              try simp -implicitDefEqProofs (disch := first | decide | assumption | omega) only [go_sem, RdS.len hdX sl22, RdS.idx hdX sl22, R1.intB hdX (Ext.pres eB), RdS.cells hdX, RdS.len hmX sl23, RdS.idx hmX sl23, RdS.cellB hmX (Ext.pres eB), RdS.cells hmX, RdS.len hdY sl22, RdS.idx hdY sl22, R1.intB hdY (Ext.pres eB), RdS.cells hdY, RdS.len hmY sl23, RdS.idx hmY sl23, RdS.cellB hmY (Ext.pres eB), RdS.cells hmY, RdS.len rf sl23, RdS.idx rf sl23, RdS.cellB rf (Ext.pres eB), RdS.cells rf, RdS.len rg sl23, RdS.idx rg sl23, RdS.cellB rg (Ext.pres eB), RdS.cells rg, RdS.len rq sl23, RdS.idx rq sl23, RdS.cellB rq (Ext.pres eB), RdS.cells rq, RdS.len (OS.rd how12_3_0) sl56, RdS.idx (OS.rd how12_3_0) sl56, RdS.cellN (OS.rd how12_3_0), RdS.cells (OS.rd how12_3_0), RdS.len (OS.rd ho15_3) sl22, RdS.idx (OS.rd ho15_3) sl22, R1.intN (OS.rd ho15_3), RdS.cells (OS.rd ho15_3), BoxAt.cell hb0_0, BoxAt.cell hb0_1, RdS.len ho1_4 sl114, RdS.idx ho1_4 sl114, RdS.cellB ho1_4 (Ext.pres xr1), RdS.cells ho1_4, RdS.len ho5_4 sl114, RdS.idx ho5_4 sl114, RdS.cellB ho5_4 (Ext.pres xr7), RdS.cells ho5_4, RdS.len hr16 sl22, RdS.idx hr16 sl22, R1.intB hr16 (Ext.pres xr17), RdS.cells hr16, wrap_id, Int.add_sub_cancel]
              refine hK _ _ ?_
              clear hK K
              refine den_seq ?_
              refine den_seq ?_
              refine den_region TTok ?_
              intro K hK
              simp -implicitDefEqProofs (disch := first | decide | assumption | omega) only [go_sem, ld30, RdS.len hdX sl22, RdS.idx hdX sl22, R1.intB hdX (Ext.pres eB), RdS.cells hdX, RdS.len hmX sl23, RdS.idx hmX sl23, RdS.cellB hmX (Ext.pres eB), RdS.cells hmX, RdS.len hdY sl22, RdS.idx hdY sl22, R1.intB hdY (Ext.pres eB), RdS.cells hdY, RdS.len hmY sl23, RdS.idx hmY sl23, RdS.cellB hmY (Ext.pres eB), RdS.cells hmY, RdS.len rf sl23, RdS.idx rf sl23, RdS.cellB rf (Ext.pres eB), RdS.cells rf, RdS.len rg sl23, RdS.idx rg sl23, RdS.cellB rg (Ext.pres eB), RdS.cells rg, RdS.len rq sl23, RdS.idx rq sl23, RdS.cellB rq (Ext.pres eB), RdS.cells rq, RdS.len (OS.rd how12_3_0) sl56, RdS.idx (OS.rd how12_3_0) sl56, RdS.cellN (OS.rd how12_3_0), RdS.cells (OS.rd how12_3_0), RdS.len (OS.rd ho15_3) sl22, RdS.idx (OS.rd ho15_3) sl22, R1.intN (OS.rd ho15_3), RdS.cells (OS.rd ho15_3), BoxAt.cell hb0_0, BoxAt.cell hb0_1, RdS.len ho1_4 sl114, RdS.idx ho1_4 sl114, RdS.cellB ho1_4 (Ext.pres xr1), RdS.cells ho1_4, RdS.len ho5_4 sl114, RdS.idx ho5_4 sl114, RdS.cellB ho5_4 (Ext.pres xr7), RdS.cells ho5_4, RdS.len hr16 sl22, RdS.idx hr16 sl22, R1.intB hr16 (Ext.pres xr17), RdS.cells hr16, wrap_id, Int.add_sub_cancel]
              try simp -implicitDefEqProofs (disch := first | decide | assumption | omega) only [go_sem, RdS.len hdX sl22, RdS.idx hdX sl22, R1.intB hdX (Ext.pres eB), RdS.cells hdX, RdS.len hmX sl23, RdS.idx hmX sl23, RdS.cellB hmX (Ext.pres eB), RdS.cells hmX, RdS.len hdY sl22, RdS.idx hdY sl22, R1.intB hdY (Ext.pres eB), RdS.cells hdY, RdS.len hmY sl23, RdS.idx hmY sl23, RdS.cellB hmY (Ext.pres eB), RdS.cells hmY, RdS.len rf sl23, RdS.idx rf sl23, RdS.cellB rf (Ext.pres eB), RdS.cells rf, RdS.len rg sl23, RdS.idx rg sl23, RdS.cellB rg (Ext.pres eB), RdS.cells rg, RdS.len rq sl23, RdS.idx rq sl23, RdS.cellB rq (Ext.pres eB), RdS.cells rq, RdS.len (OS.rd how12_3_0) sl56, RdS.idx (OS.rd how12_3_0) sl56, RdS.cellN (OS.rd how12_3_0), RdS.cells (OS.rd how12_3_0), RdS.len (OS.rd ho15_3) sl22, RdS.idx (OS.rd ho15_3) sl22, R1.intN (OS.rd ho15_3), RdS.cells (OS.rd ho15_3), BoxAt.cell hb0_0, BoxAt.cell hb0_1, RdS.len ho1_4 sl114, RdS.idx ho1_4 sl114, RdS.cellB ho1_4 (Ext.pres xr1), RdS.cells ho1_4, RdS.len ho5_4 sl114, RdS.idx ho5_4 sl114, RdS.cellB ho5_4 (Ext.pres xr7), RdS.cells ho5_4, RdS.len hr16 sl22, RdS.idx hr16 sl22, R1.intB hr16 (Ext.pres xr17), RdS.cells hr16, wrap_id, Int.add_sub_cancel]
              refine CallA.mono (top_ok _ Y _ ⟨_, _, rfl, (RdS.pres hdY (Ext.pres eB)), (RdS.pres hmY (Ext.pres eB))⟩) ?_
              intro v_ h16_2
              rintro ⟨rfl, e16_2⟩
              replace how12_3_0 := OS.ext how12_3_0 e16_2
              replace ho15_3 := OS.ext ho15_3 e16_2
              replace hb0_0 := BoxAt.ext hb0_0 e16_2
              replace hb0_1 := BoxAt.ext hb0_1 e16_2
              have := Ext.size e16_2
              replace eB := Ext.trans eB e16_2
              replace xr1 := Ext.trans xr1 e16_2
              replace xr7 := Ext.trans xr7 e16_2
              replace xr17 := Ext.trans xr17 e16_2
              replace cL9 := Ext.trans cL9 e16_2
              replace cL13 := Ext.trans cL13 e16_2
              try simp -implicitDefEqProofs (disch := first | decide | assumption | omega) only [go_sem, RdS.len hdX sl22, RdS.idx hdX sl22, R1.intB hdX (Ext.pres eB), RdS.cells hdX, RdS.len hmX sl23, RdS.idx hmX sl23, RdS.cellB hmX (Ext.pres eB), RdS.cells hmX, RdS.len hdY sl22, RdS.idx hdY sl22, R1.intB hdY (Ext.pres eB), RdS.cells hdY, RdS.len hmY sl23, RdS.idx hmY sl23, RdS.cellB hmY (Ext.pres eB), RdS.cells hmY, RdS.len rf sl23, RdS.idx rf sl23, RdS.cellB rf (Ext.pres eB), RdS.cells rf, RdS.len rg sl23, RdS.idx rg sl23, RdS.cellB rg (Ext.pres eB), RdS.cells rg, RdS.len rq sl23, RdS.idx rq sl23, RdS.cellB rq (Ext.pres eB), RdS.cells rq, RdS.len (OS.rd how12_3_0) sl56, RdS.idx (OS.rd how12_3_0) sl56, RdS.cellN (OS.rd how12_3_0), RdS.cells (OS.rd how12_3_0), RdS.len (OS.rd ho15_3) sl22, RdS.idx (OS.rd ho15_3) sl22, R1.intN (OS.rd ho15_3), RdS.cells (OS.rd ho15_3), BoxAt.cell hb0_0, BoxAt.cell hb0_1, RdS.len ho1_4 sl114, RdS.idx ho1_4 sl114, RdS.cellB ho1_4 (Ext.pres xr1), RdS.cells ho1_4, RdS.len ho5_4 sl114, RdS.idx ho5_4 sl114, RdS.cellB ho5_4 (Ext.pres xr7), RdS.cells ho5_4, RdS.len hr16 sl22, RdS.idx hr16 sl22, R1.intB hr16 (Ext.pres xr17), RdS.cells hr16, wrap_id, Int.add_sub_cancel]
              refine hK _ _ ?_
              clear hK K
              refine den_cond rfl (fun c5 => ?_) (fun c5 => ?_)
              · try simp only [decide_eq_true_eq, decide_eq_false_iff_not, beq_iff_eq, beq_eq_false_iff_ne, bne_iff_ne, ne_eq, Bool.not_eq_true', Bool.not_eq_false', Bool.and_eq_true, Bool.or_eq_true, bne_eq_false_iff_eq] at c5
                have hqv := hR.qv (by omega)
                have hdb := hqv.2
                have hdl : 0 < (n : Int) + 1 → (n : Int) + 1 ≤ (Y.dims.length : Int) - 1 → (((q.getD n default).getD i default).length : Int) = Y.dims.getD ((n : Int) + 1).toNat 0 := fun _ _ => hqv.1
                have hqv1 := hqv.1
                have hCY := hY
                refine den_draw TTok mixed [] [(0, true), (1, true), (2, true), (3, true), (4, true), (5, true), (6, true), (7, true), (8, true), (9, true), (10, false), (11, true)] (by kernel_rfl) ?_
                intro K hK
                have hr18 := RdS.rowN rq n (by omega)
                have hlhr18 := RdS.le hr18
                have hr19 := RdS.rowN hr18 i (by omega)
                have hlhr19 := RdS.le hr19
                simp -implicitDefEqProofs (disch := first | decide | assumption | omega) only [go_sem, ld56, ld22, ld30, RdS.len hdX sl22, RdS.idx hdX sl22, R1.intB hdX (Ext.pres eB), RdS.cells hdX, RdS.len hmX sl23, RdS.idx hmX sl23, RdS.cellB hmX (Ext.pres eB), RdS.cells hmX, RdS.len hdY sl22, RdS.idx hdY sl22, R1.intB hdY (Ext.pres eB), RdS.cells hdY, RdS.len hmY sl23, RdS.idx hmY sl23, RdS.cellB hmY (Ext.pres eB), RdS.cells hmY, RdS.len rf sl23, RdS.idx rf sl23, RdS.cellB rf (Ext.pres eB), RdS.cells rf, RdS.len rg sl23, RdS.idx rg sl23, RdS.cellB rg (Ext.pres eB), RdS.cells rg, RdS.len rq sl23, RdS.idx rq sl23, RdS.cellB rq (Ext.pres eB), RdS.cells rq, RdS.len hr18 sl56, RdS.idx hr18 sl56, RdS.cellB hr18 (Ext.pres eB), RdS.cells hr18, RdS.len hr19 sl22, RdS.idx hr19 sl22, R1.intB hr19 (Ext.pres eB), RdS.cells hr19, RdS.len (OS.rd how12_3_0) sl56, RdS.idx (OS.rd how12_3_0) sl56, RdS.cellN (OS.rd how12_3_0), RdS.cells (OS.rd how12_3_0), BoxAt.cell hb0_0, BoxAt.cell hb0_1, RdS.len ho1_4 sl114, RdS.idx ho1_4 sl114, RdS.cellB ho1_4 (Ext.pres xr1), RdS.cells ho1_4, RdS.len ho5_4 sl114, RdS.idx ho5_4 sl114, RdS.cellB ho5_4 (Ext.pres xr7), RdS.cells ho5_4, RdS.len hr16 sl22, RdS.idx hr16 sl22, R1.intB hr16 (Ext.pres xr17), RdS.cells hr16, wrap_id, Int.add_sub_cancel]
                try simp -implicitDefEqProofs (disch := first | decide | assumption | omega) only [go_sem, RdS.len hdX sl22, RdS.idx hdX sl22, R1.intB hdX (Ext.pres eB), RdS.cells hdX, RdS.len hmX sl23, RdS.idx hmX sl23, RdS.cellB hmX (Ext.pres eB), RdS.cells hmX, RdS.len hdY sl22, RdS.idx hdY sl22, R1.intB hdY (Ext.pres eB), RdS.cells hdY, RdS.len hmY sl23, RdS.idx hmY sl23, RdS.cellB hmY (Ext.pres eB), RdS.cells hmY, RdS.len rf sl23, RdS.idx rf sl23, RdS.cellB rf (Ext.pres eB), RdS.cells rf, RdS.len rg sl23, RdS.idx rg sl23, RdS.cellB rg (Ext.pres eB), RdS.cells rg, RdS.len rq sl23, RdS.idx rq sl23, RdS.cellB rq (Ext.pres eB), RdS.cells rq, RdS.len hr18 sl56, RdS.idx hr18 sl56, RdS.cellB hr18 (Ext.pres eB), RdS.cells hr18, RdS.len hr19 sl22, RdS.idx hr19 sl22, R1.intB hr19 (Ext.pres eB), RdS.cells hr19, RdS.len (OS.rd how12_3_0) sl56, RdS.idx (OS.rd how12_3_0) sl56, RdS.cellN (OS.rd how12_3_0), RdS.cells (OS.rd how12_3_0), BoxAt.cell hb0_0, BoxAt.cell hb0_1, RdS.len ho1_4 sl114, RdS.idx ho1_4 sl114, RdS.cellB ho1_4 (Ext.pres xr1), RdS.cells ho1_4, RdS.len ho5_4 sl114, RdS.idx ho5_4 sl114, RdS.cellB ho5_4 (Ext.pres xr7), RdS.cells ho5_4, RdS.len hr16 sl22, RdS.idx hr16 sl22, R1.intB hr16 (Ext.pres xr17), RdS.cells hr16, wrap_id, Int.add_sub_cancel]
                refine CallA.mono (diff_ok _ Y _ _ _ _ ⟨_, _, rfl, (RdS.pres hdY (Ext.pres eB)), (RdS.pres hmY (Ext.pres eB))⟩ (RdS.pres hr19 (Ext.pres eB)) hY.pre hdb hdl) ?_
                intro v17_10 h17_10
                rintro ⟨f17_10, ho17_10, hf17_10, e17_10⟩
                replace how12_3_0 := OS.ext how12_3_0 e17_10
                replace hb0_0 := BoxAt.ext hb0_0 e17_10
                replace hb0_1 := BoxAt.ext hb0_1 e17_10
                have := Ext.size e17_10
                replace eB := Ext.trans eB e17_10
                replace xr1 := Ext.trans xr1 e17_10
                replace xr7 := Ext.trans xr7 e17_10
                replace xr17 := Ext.trans xr17 e17_10
                replace cL9 := Ext.trans cL9 e17_10
                replace cL13 := Ext.trans cL13 e17_10
                have hlho17_10 := OS.lt ho17_10
                try simp (disch := decide) only [outv_some, outv_none, put_puts]
                refine plK_pres (Ext.pres e17_10) ?_
                try simp -implicitDefEqProofs (disch := first | decide | assumption | omega) only [go_sem, RdS.len hdX sl22, RdS.idx hdX sl22, R1.intB hdX (Ext.pres eB), RdS.cells hdX, RdS.len hmX sl23, RdS.idx hmX sl23, RdS.cellB hmX (Ext.pres eB), RdS.cells hmX, RdS.len hdY sl22, RdS.idx hdY sl22, R1.intB hdY (Ext.pres eB), RdS.cells hdY, RdS.len hmY sl23, RdS.idx hmY sl23, RdS.cellB hmY (Ext.pres eB), RdS.cells hmY, RdS.len rf sl23, RdS.idx rf sl23, RdS.cellB rf (Ext.pres eB), RdS.cells rf, RdS.len rg sl23, RdS.idx rg sl23, RdS.cellB rg (Ext.pres eB), RdS.cells rg, RdS.len rq sl23, RdS.idx rq sl23, RdS.cellB rq (Ext.pres eB), RdS.cells rq, RdS.len hr18 sl56, RdS.idx hr18 sl56, RdS.cellB hr18 (Ext.pres eB), RdS.cells hr18, RdS.len hr19 sl22, RdS.idx hr19 sl22, R1.intB hr19 (Ext.pres eB), RdS.cells hr19, RdS.len (OS.rd how12_3_0) sl56, RdS.idx (OS.rd how12_3_0) sl56, RdS.cellN (OS.rd how12_3_0), RdS.cells (OS.rd how12_3_0), RdS.len (OS.rd ho17_10) sl22, RdS.idx (OS.rd ho17_10) sl22, R1.intN (OS.rd ho17_10), RdS.cells (OS.rd ho17_10), BoxAt.cell hb0_0, BoxAt.cell hb0_1, RdS.len ho1_4 sl114, RdS.idx ho1_4 sl114, RdS.cellB ho1_4 (Ext.pres xr1), RdS.cells ho1_4, RdS.len ho5_4 sl114, RdS.idx ho5_4 sl114, RdS.cellB ho5_4 (Ext.pres xr7), RdS.cells ho5_4, RdS.len hr16 sl22, RdS.idx hr16 sl22, R1.intB hr16 (Ext.pres xr17), RdS.cells hr16, wrap_id, Int.add_sub_cancel]
                refine hK _ _ ?_
                clear hK K
                refine den_seq ?_
                refine den_seq ?_
                refine den_region TTok ?_
                intro K hK
                simp -implicitDefEqProofs (disch := first | decide | assumption | omega) only [go_sem, RdS.len hdX sl22, RdS.idx hdX sl22, R1.intB hdX (Ext.pres eB), RdS.cells hdX, RdS.len hmX sl23, RdS.idx hmX sl23, RdS.cellB hmX (Ext.pres eB), RdS.cells hmX, RdS.len hdY sl22, RdS.idx hdY sl22, R1.intB hdY (Ext.pres eB), RdS.cells hdY, RdS.len hmY sl23, RdS.idx hmY sl23, RdS.cellB hmY (Ext.pres eB), RdS.cells hmY, RdS.len rf sl23, RdS.idx rf sl23, RdS.cellB rf (Ext.pres eB), RdS.cells rf, RdS.len rg sl23, RdS.idx rg sl23, RdS.cellB rg (Ext.pres eB), RdS.cells rg, RdS.len rq sl23, RdS.idx rq sl23, RdS.cellB rq (Ext.pres eB), RdS.cells rq, RdS.len hr18 sl56, RdS.idx hr18 sl56, RdS.cellB hr18 (Ext.pres eB), RdS.cells hr18, RdS.len hr19 sl22, RdS.idx hr19 sl22, R1.intB hr19 (Ext.pres eB), RdS.cells hr19, RdS.len (OS.rd how12_3_0) sl56, RdS.idx (OS.rd how12_3_0) sl56, RdS.cellN (OS.rd how12_3_0), RdS.cells (OS.rd how12_3_0), RdS.len (OS.rd ho17_10) sl22, RdS.idx (OS.rd ho17_10) sl22, R1.intN (OS.rd ho17_10), RdS.cells (OS.rd ho17_10), BoxAt.cell hb0_0, BoxAt.cell hb0_1, RdS.len ho1_4 sl114, RdS.idx ho1_4 sl114, RdS.cellB ho1_4 (Ext.pres xr1), RdS.cells ho1_4, RdS.len ho5_4 sl114, RdS.idx ho5_4 sl114, RdS.cellB ho5_4 (Ext.pres xr7), RdS.cells ho5_4, RdS.len hr16 sl22, RdS.idx hr16 sl22, R1.intB hr16 (Ext.pres xr17), RdS.cells hr16, wrap_id, Int.add_sub_cancel]
                refine hK _ _ ?_
                clear hK K
                refine den_cond rfl (fun c6 => ?_) (fun c6 => ?_)
                · try simp only [decide_eq_true_eq, decide_eq_false_iff_not, beq_iff_eq, beq_eq_false_iff_ne, bne_iff_ne, ne_eq, Bool.not_eq_true', Bool.not_eq_false', Bool.and_eq_true, Bool.or_eq_true, bne_eq_false_iff_eq] at c6
                  have hdu := hR.du (by omega)
                  have hho := hR.ho (by omega)
                  have hvv : 0 ≤ (n : Int) - 1 ∧ (n : Int) - 1 ≤ (X.dims.length : Int) - 1 → ((diffP X (n : Int) (unitP (X.dims.getD n 0).toNat i)).length : Int) = X.dims.getD ((n : Int) - 1).toNat 0 ∧ Bnd X.p (diffP X (n : Int) (unitP (X.dims.getD n 0).toNat i)) := fun _ => hdu
                  refine den_draw TTok mixed [] [(0, true), (1, true), (2, true), (3, true), (4, true), (5, true), (6, true), (7, true), (8, true), (9, true), (10, false), (11, false), (12, false), (13, true)] (by kernel_rfl) ?_
                  intro K hK
                  simp -implicitDefEqProofs (disch := first | decide | assumption | omega) only [go_sem, ld30, RdS.len hdX sl22, RdS.idx hdX sl22, R1.intB hdX (Ext.pres eB), RdS.cells hdX, RdS.len hmX sl23, RdS.idx hmX sl23, RdS.cellB hmX (Ext.pres eB), RdS.cells hmX, RdS.len hdY sl22, RdS.idx hdY sl22, R1.intB hdY (Ext.pres eB), RdS.cells hdY, RdS.len hmY sl23, RdS.idx hmY sl23, RdS.cellB hmY (Ext.pres eB), RdS.cells hmY, RdS.len rf sl23, RdS.idx rf sl23, RdS.cellB rf (Ext.pres eB), RdS.cells rf, RdS.len rg sl23, RdS.idx rg sl23, RdS.cellB rg (Ext.pres eB), RdS.cells rg, RdS.len rq sl23, RdS.idx rq sl23, RdS.cellB rq (Ext.pres eB), RdS.cells rq, RdS.len hr18 sl56, RdS.idx hr18 sl56, RdS.cellB hr18 (Ext.pres eB), RdS.cells hr18, RdS.len hr19 sl22, RdS.idx hr19 sl22, R1.intB hr19 (Ext.pres eB), RdS.cells hr19, RdS.len (OS.rd how12_3_0) sl56, RdS.idx (OS.rd how12_3_0) sl56, RdS.cellN (OS.rd how12_3_0), RdS.cells (OS.rd how12_3_0), RdS.len (OS.rd ho17_10) sl22, RdS.idx (OS.rd ho17_10) sl22, R1.intN (OS.rd ho17_10), RdS.cells (OS.rd ho17_10), BoxAt.cell hb0_0, BoxAt.cell hb0_1, RdS.len ho1_4 sl114, RdS.idx ho1_4 sl114, RdS.cellB ho1_4 (Ext.pres xr1), RdS.cells ho1_4, RdS.len ho5_4 sl114, RdS.idx ho5_4 sl114, RdS.cellB ho5_4 (Ext.pres xr7), RdS.cells ho5_4, RdS.len hr16 sl22, RdS.idx hr16 sl22, R1.intB hr16 (Ext.pres xr17), RdS.cells hr16, wrap_id, Int.add_sub_cancel]
                  try simp -implicitDefEqProofs (disch := first | decide | assumption | omega) only [go_sem, RdS.len hdX sl22, RdS.idx hdX sl22, R1.intB hdX (Ext.pres eB), RdS.cells hdX, RdS.len hmX sl23, RdS.idx hmX sl23, RdS.cellB hmX (Ext.pres eB), RdS.cells hmX, RdS.len hdY sl22, RdS.idx hdY sl22, R1.intB hdY (Ext.pres eB), RdS.cells hdY, RdS.len hmY sl23, RdS.idx hmY sl23, RdS.cellB hmY (Ext.pres eB), RdS.cells hmY, RdS.len rf sl23, RdS.idx rf sl23, RdS.cellB rf (Ext.pres eB), RdS.cells rf, RdS.len rg sl23, RdS.idx rg sl23, RdS.cellB rg (Ext.pres eB), RdS.cells rg, RdS.len rq sl23, RdS.idx rq sl23, RdS.cellB rq (Ext.pres eB), RdS.cells rq, RdS.len hr18 sl56, RdS.idx hr18 sl56, RdS.cellB hr18 (Ext.pres eB), RdS.cells hr18, RdS.len hr19 sl22, RdS.idx hr19 sl22, R1.intB hr19 (Ext.pres eB), RdS.cells hr19, RdS.len (OS.rd how12_3_0) sl56, RdS.idx (OS.rd how12_3_0) sl56, RdS.cellN (OS.rd how12_3_0), RdS.cells (OS.rd how12_3_0), RdS.len (OS.rd ho17_10) sl22, RdS.idx (OS.rd ho17_10) sl22, R1.intN (OS.rd ho17_10), RdS.cells (OS.rd ho17_10), BoxAt.cell hb0_0, BoxAt.cell hb0_1, RdS.len ho1_4 sl114, RdS.idx ho1_4 sl114, RdS.cellB ho1_4 (Ext.pres xr1), RdS.cells ho1_4, RdS.len ho5_4 sl114, RdS.idx ho5_4 sl114, RdS.cellB ho5_4 (Ext.pres xr7), RdS.cells ho5_4, RdS.len hr16 sl22, RdS.idx hr16 sl22, R1.intB hr16 (Ext.pres xr17), RdS.cells hr16, wrap_id, Int.add_sub_cancel]
                  refine CallA.mono (diff_ok _ X _ _ _ _ ⟨_, _, rfl, (RdS.pres hdX (Ext.pres eB)), (RdS.pres hmX (Ext.pres eB))⟩ (RdS.pres hr16 (Ext.pres xr17)) hX.pre (by rw [hur]; exact hR.u.2) (fun _ _ => by rw [hur]; exact hR.u.1)) ?_
                  intro v19_10 h19_10
                  rintro ⟨f19_10, ho19_10, hf19_10, e19_10⟩
                  replace how12_3_0 := OS.ext how12_3_0 e19_10
                  replace ho17_10 := OS.ext ho17_10 e19_10
                  replace hb0_0 := BoxAt.ext hb0_0 e19_10
                  replace hb0_1 := BoxAt.ext hb0_1 e19_10
                  have := Ext.size e19_10
                  replace eB := Ext.trans eB e19_10
                  replace xr1 := Ext.trans xr1 e19_10
                  replace xr7 := Ext.trans xr7 e19_10
                  replace xr17 := Ext.trans xr17 e19_10
                  replace cL9 := Ext.trans cL9 e19_10
                  replace cL13 := Ext.trans cL13 e19_10
                  rw [hur] at ho19_10
                  have hlho19_10 := OS.lt ho19_10
                  try simp (disch := decide) only [outv_some, outv_none, put_puts]
                  refine plK_pres (Ext.pres e19_10) ?_
                  try simp -implicitDefEqProofs (disch := first | decide | assumption | omega) only [go_sem, RdS.len hdX sl22, RdS.idx hdX sl22, R1.intB hdX (Ext.pres eB), RdS.cells hdX, RdS.len hmX sl23, RdS.idx hmX sl23, RdS.cellB hmX (Ext.pres eB), RdS.cells hmX, RdS.len hdY sl22, RdS.idx hdY sl22, R1.intB hdY (Ext.pres eB), RdS.cells hdY, RdS.len hmY sl23, RdS.idx hmY sl23, RdS.cellB hmY (Ext.pres eB), RdS.cells hmY, RdS.len rf sl23, RdS.idx rf sl23, RdS.cellB rf (Ext.pres eB), RdS.cells rf, RdS.len rg sl23, RdS.idx rg sl23, RdS.cellB rg (Ext.pres eB), RdS.cells rg, RdS.len rq sl23, RdS.idx rq sl23, RdS.cellB rq (Ext.pres eB), RdS.cells rq, RdS.len hr18 sl56, RdS.idx hr18 sl56, RdS.cellB hr18 (Ext.pres eB), RdS.cells hr18, RdS.len hr19 sl22, RdS.idx hr19 sl22, R1.intB hr19 (Ext.pres eB), RdS.cells hr19, RdS.len (OS.rd how12_3_0) sl56, RdS.idx (OS.rd how12_3_0) sl56, RdS.cellN (OS.rd how12_3_0), RdS.cells (OS.rd how12_3_0), RdS.len (OS.rd ho17_10) sl22, RdS.idx (OS.rd ho17_10) sl22, R1.intN (OS.rd ho17_10), RdS.cells (OS.rd ho17_10), RdS.len (OS.rd ho19_10) sl22, RdS.idx (OS.rd ho19_10) sl22, R1.intN (OS.rd ho19_10), RdS.cells (OS.rd ho19_10), BoxAt.cell hb0_0, BoxAt.cell hb0_1, RdS.len ho1_4 sl114, RdS.idx ho1_4 sl114, RdS.cellB ho1_4 (Ext.pres xr1), RdS.cells ho1_4, RdS.len ho5_4 sl114, RdS.idx ho5_4 sl114, RdS.cellB ho5_4 (Ext.pres xr7), RdS.cells ho5_4, RdS.len hr16 sl22, RdS.idx hr16 sl22, R1.intB hr16 (Ext.pres xr17), RdS.cells hr16, wrap_id, Int.add_sub_cancel]
                  try simp -implicitDefEqProofs (disch := first | decide | assumption | omega) only [go_sem, RdS.len hdX sl22, RdS.idx hdX sl22, R1.intB hdX (Ext.pres eB), RdS.cells hdX, RdS.len hmX sl23, RdS.idx hmX sl23, RdS.cellB hmX (Ext.pres eB), RdS.cells hmX, RdS.len hdY sl22, RdS.idx hdY sl22, R1.intB hdY (Ext.pres eB), RdS.cells hdY, RdS.len hmY sl23, RdS.idx hmY sl23, RdS.cellB hmY (Ext.pres eB), RdS.cells hmY, RdS.len rf sl23, RdS.idx rf sl23, RdS.cellB rf (Ext.pres eB), RdS.cells rf, RdS.len rg sl23, RdS.idx rg sl23, RdS.cellB rg (Ext.pres eB), RdS.cells rg, RdS.len rq sl23, RdS.idx rq sl23, RdS.cellB rq (Ext.pres eB), RdS.cells rq, RdS.len hr18 sl56, RdS.idx hr18 sl56, RdS.cellB hr18 (Ext.pres eB), RdS.cells hr18, RdS.len hr19 sl22, RdS.idx hr19 sl22, R1.intB hr19 (Ext.pres eB), RdS.cells hr19, RdS.len (OS.rd how12_3_0) sl56, RdS.idx (OS.rd how12_3_0) sl56, RdS.cellN (OS.rd how12_3_0), RdS.cells (OS.rd how12_3_0), RdS.len (OS.rd ho17_10) sl22, RdS.idx (OS.rd ho17_10) sl22, R1.intN (OS.rd ho17_10), RdS.cells (OS.rd ho17_10), RdS.len (OS.rd ho19_10) sl22, RdS.idx (OS.rd ho19_10) sl22, R1.intN (OS.rd ho19_10), RdS.cells (OS.rd ho19_10), BoxAt.cell hb0_0, BoxAt.cell hb0_1, RdS.len ho1_4 sl114, RdS.idx ho1_4 sl114, RdS.cellB ho1_4 (Ext.pres xr1), RdS.cells ho1_4, RdS.len ho5_4 sl114, RdS.idx ho5_4 sl114, RdS.cellB ho5_4 (Ext.pres xr7), RdS.cells ho5_4, RdS.len hr16 sl22, RdS.idx hr16 sl22, R1.intB hr16 (Ext.pres xr17), RdS.cells hr16, wrap_id, Int.add_sub_cancel]
                  refine CallA.mono (iApp_ok _ _ _ _ X Y q (1 : Int) ((n : Int) - (1 : Int)) (diffP X (n : Int) (unitP (X.dims.getD n 0).toNat i)) _ ⟨_, _, rfl, (RdS.pres hdX (Ext.pres eB)), (RdS.pres hmX (Ext.pres eB))⟩ ⟨_, _, rfl, (RdS.pres hdY (Ext.pres eB)), (RdS.pres hmY (Ext.pres eB))⟩ (RdS.pres rq (Ext.pres eB)) (OS.rd ho19_10) hX hY hF (by omega) (by omega) hvv) ?_
                  intro vw19_11_0 h19_11
                  rintro ⟨zvw19_11_0, fw19_11_0, rfl, how19_11_0, hfw19_11_0, e19_11⟩
                  replace how12_3_0 := OS.ext how12_3_0 e19_11
                  replace ho17_10 := OS.ext ho17_10 e19_11
                  replace ho19_10 := OS.ext ho19_10 e19_11
                  replace hb0_0 := BoxAt.ext hb0_0 e19_11
                  replace hb0_1 := BoxAt.ext hb0_1 e19_11
                  have := Ext.size e19_11
                  replace eB := Ext.trans eB e19_11
                  replace xr1 := Ext.trans xr1 e19_11
                  replace xr7 := Ext.trans xr7 e19_11
                  replace xr17 := Ext.trans xr17 e19_11
                  replace cL9 := Ext.trans cL9 e19_11
                  replace cL13 := Ext.trans cL13 e19_11
                  rw [appP, if_pos (in3_iff.2 ⟨by omega, by omega⟩)] at how19_11_0
                  have hlhow19_11_0 := OS.lt how19_11_0
                  try simp (disch := decide) only [outv_some, outv_none, put_puts]
                  refine plK_pres (Ext.pres e19_11) ?_
                  try simp -implicitDefEqProofs (disch := first | decide | assumption | omega) only [go_sem, RdS.len hdX sl22, RdS.idx hdX sl22, R1.intB hdX (Ext.pres eB), RdS.cells hdX, RdS.len hmX sl23, RdS.idx hmX sl23, RdS.cellB hmX (Ext.pres eB), RdS.cells hmX, RdS.len hdY sl22, RdS.idx hdY sl22, R1.intB hdY (Ext.pres eB), RdS.cells hdY, RdS.len hmY sl23, RdS.idx hmY sl23, RdS.cellB hmY (Ext.pres eB), RdS.cells hmY, RdS.len rf sl23, RdS.idx rf sl23, RdS.cellB rf (Ext.pres eB), RdS.cells rf, RdS.len rg sl23, RdS.idx rg sl23, RdS.cellB rg (Ext.pres eB), RdS.cells rg, RdS.len rq sl23, RdS.idx rq sl23, RdS.cellB rq (Ext.pres eB), RdS.cells rq, RdS.len hr18 sl56, RdS.idx hr18 sl56, RdS.cellB hr18 (Ext.pres eB), RdS.cells hr18, RdS.len hr19 sl22, RdS.idx hr19 sl22, R1.intB hr19 (Ext.pres eB), RdS.cells hr19, RdS.len (OS.rd how12_3_0) sl56, RdS.idx (OS.rd how12_3_0) sl56, RdS.cellN (OS.rd how12_3_0), RdS.cells (OS.rd how12_3_0), RdS.len (OS.rd ho17_10) sl22, RdS.idx (OS.rd ho17_10) sl22, R1.intN (OS.rd ho17_10), RdS.cells (OS.rd ho17_10), RdS.len (OS.rd ho19_10) sl22, RdS.idx (OS.rd ho19_10) sl22, R1.intN (OS.rd ho19_10), RdS.cells (OS.rd ho19_10), RdS.len (OS.rd how19_11_0) sl22, RdS.idx (OS.rd how19_11_0) sl22, R1.intN (OS.rd how19_11_0), RdS.cells (OS.rd how19_11_0), BoxAt.cell hb0_0, BoxAt.cell hb0_1, RdS.len ho1_4 sl114, RdS.idx ho1_4 sl114, RdS.cellB ho1_4 (Ext.pres xr1), RdS.cells ho1_4, RdS.len ho5_4 sl114, RdS.idx ho5_4 sl114, RdS.cellB ho5_4 (Ext.pres xr7), RdS.cells ho5_4, RdS.len hr16 sl22, RdS.idx hr16 sl22, R1.intB hr16 (Ext.pres xr17), RdS.cells hr16, wrap_id, Int.add_sub_cancel]
                  try simp -implicitDefEqProofs (disch := first | decide | assumption | omega) only [go_sem, RdS.len hdX sl22, RdS.idx hdX sl22, R1.intB hdX (Ext.pres eB), RdS.cells hdX, RdS.len hmX sl23, RdS.idx hmX sl23, RdS.cellB hmX (Ext.pres eB), RdS.cells hmX, RdS.len hdY sl22, RdS.idx hdY sl22, R1.intB hdY (Ext.pres eB), RdS.cells hdY, RdS.len hmY sl23, RdS.idx hmY sl23, RdS.cellB hmY (Ext.pres eB), RdS.cells hmY, RdS.len rf sl23, RdS.idx rf sl23, RdS.cellB rf (Ext.pres eB), RdS.cells rf, RdS.len rg sl23, RdS.idx rg sl23, RdS.cellB rg (Ext.pres eB), RdS.cells rg, RdS.len rq sl23, RdS.idx rq sl23, RdS.cellB rq (Ext.pres eB), RdS.cells rq, RdS.len hr18 sl56, RdS.idx hr18 sl56, RdS.cellB hr18 (Ext.pres eB), RdS.cells hr18, RdS.len hr19 sl22, RdS.idx hr19 sl22, R1.intB hr19 (Ext.pres eB), RdS.cells hr19, RdS.len (OS.rd how12_3_0) sl56, RdS.idx (OS.rd how12_3_0) sl56, RdS.cellN (OS.rd how12_3_0), RdS.cells (OS.rd how12_3_0), RdS.len (OS.rd ho17_10) sl22, RdS.idx (OS.rd ho17_10) sl22, R1.intN (OS.rd ho17_10), RdS.cells (OS.rd ho17_10), RdS.len (OS.rd ho19_10) sl22, RdS.idx (OS.rd ho19_10) sl22, R1.intN (OS.rd ho19_10), RdS.cells (OS.rd ho19_10), RdS.len (OS.rd how19_11_0) sl22, RdS.idx (OS.rd how19_11_0) sl22, R1.intN (OS.rd how19_11_0), RdS.cells (OS.rd how19_11_0), BoxAt.cell hb0_0, BoxAt.cell hb0_1, RdS.len ho1_4 sl114, RdS.idx ho1_4 sl114, RdS.cellB ho1_4 (Ext.pres xr1), RdS.cells ho1_4, RdS.len ho5_4 sl114, RdS.idx ho5_4 sl114, RdS.cellB ho5_4 (Ext.pres xr7), RdS.cells ho5_4, RdS.len hr16 sl22, RdS.idx hr16 sl22, R1.intB hr16 (Ext.pres xr17), RdS.cells hr16, wrap_id, Int.add_sub_cancel]
                  have hA : ((diffP Y ((n : Int) + (1 : Int)) (((q).getD n default).getD i default)).length : Int) = dimP Y (n : Int) ∧ Bnd X.p (diffP Y ((n : Int) + (1 : Int)) (((q).getD n default).getD i default)) := by first | (have h := hR.hd; rw [hdP, if_pos (show (n : Int) < (Y.dims.length : Int) - 1 by omega)] at h; exact h) | (have h := hR.hd; rw [hdP, if_neg (show ¬ (n : Int) < (Y.dims.length : Int) - 1 by omega)] at h; exact h)
                  have hto : ((diffP Y ((n : Int) + (1 : Int)) (((q).getD n default).getD i default)).length = (imgP X Y q 1 ((n : Int) - 1) (diffP X (n : Int) (unitP (X.dims.getD n 0).toNat i))).length ∧ (diffP Y ((n : Int) + (1 : Int)) (((q).getD n default).getD i default)).length ≤ 8) ∧ Bnd X.p (diffP Y ((n : Int) + (1 : Int)) (((q).getD n default).getD i default)) ∧ Bnd X.p (imgP X Y q 1 ((n : Int) - 1) (diffP X (n : Int) (unitP (X.dims.getD n 0).toNat i))) := ⟨⟨by have h1 := hA.1; have h2 : ((imgP X Y q 1 ((n : Int) - 1) (diffP X (n : Int) (unitP (X.dims.getD n 0).toNat i))).length : Int) = dimP Y (n : Int) := hho.1; omega, by have h1 := hA.1; omega⟩, hA.2, hho.2⟩
                  refine CallA.mono (iTog_ok _ _ X.p (diffP Y ((n : Int) + (1 : Int)) (((q).getD n default).getD i default)) (imgP X Y q 1 ((n : Int) - 1) (diffP X (n : Int) (unitP (X.dims.getD n 0).toNat i))) (1 : Int) _ (OS.rd ho17_10) (OS.rd how19_11_0) (by omega) hto.1 hto.2.1 hto.2.2 (by omega)) ?_
                  intro vw19_12_0 h19_12
                  rintro ⟨zvw19_12_0, fw19_12_0, rfl, how19_12_0, hfw19_12_0, e19_12⟩
                  replace how12_3_0 := OS.ext how12_3_0 e19_12
                  replace ho17_10 := OS.ext ho17_10 e19_12
                  replace ho19_10 := OS.ext ho19_10 e19_12
                  replace how19_11_0 := OS.ext how19_11_0 e19_12
                  replace hb0_0 := BoxAt.ext hb0_0 e19_12
                  replace hb0_1 := BoxAt.ext hb0_1 e19_12
                  have := Ext.size e19_12
                  replace eB := Ext.trans eB e19_12
                  replace xr1 := Ext.trans xr1 e19_12
                  replace xr7 := Ext.trans xr7 e19_12
                  replace xr17 := Ext.trans xr17 e19_12
                  replace cL9 := Ext.trans cL9 e19_12
                  replace cL13 := Ext.trans cL13 e19_12
                  have hlhow19_12_0 := OS.lt how19_12_0
                  try simp (disch := decide) only [outv_some, outv_none, put_puts]
                  refine plK_pres (Ext.pres e19_12) ?_
                  try simp -implicitDefEqProofs (disch := first | decide | assumption | omega) only [go_sem, RdS.len hdX sl22, RdS.idx hdX sl22, R1.intB hdX (Ext.pres eB), RdS.cells hdX, RdS.len hmX sl23, RdS.idx hmX sl23, RdS.cellB hmX (Ext.pres eB), RdS.cells hmX, RdS.len hdY sl22, RdS.idx hdY sl22, R1.intB hdY (Ext.pres eB), RdS.cells hdY, RdS.len hmY sl23, RdS.idx hmY sl23, RdS.cellB hmY (Ext.pres eB), RdS.cells hmY, RdS.len rf sl23, RdS.idx rf sl23, RdS.cellB rf (Ext.pres eB), RdS.cells rf, RdS.len rg sl23, RdS.idx rg sl23, RdS.cellB rg (Ext.pres eB), RdS.cells rg, RdS.len rq sl23, RdS.idx rq sl23, RdS.cellB rq (Ext.pres eB), RdS.cells rq, RdS.len hr18 sl56, RdS.idx hr18 sl56, RdS.cellB hr18 (Ext.pres eB), RdS.cells hr18, RdS.len hr19 sl22, RdS.idx hr19 sl22, R1.intB hr19 (Ext.pres eB), RdS.cells hr19, RdS.len (OS.rd how12_3_0) sl56, RdS.idx (OS.rd how12_3_0) sl56, RdS.cellN (OS.rd how12_3_0), RdS.cells (OS.rd how12_3_0), RdS.len (OS.rd ho17_10) sl22, RdS.idx (OS.rd ho17_10) sl22, R1.intN (OS.rd ho17_10), RdS.cells (OS.rd ho17_10), RdS.len (OS.rd ho19_10) sl22, RdS.idx (OS.rd ho19_10) sl22, R1.intN (OS.rd ho19_10), RdS.cells (OS.rd ho19_10), RdS.len (OS.rd how19_11_0) sl22, RdS.idx (OS.rd how19_11_0) sl22, R1.intN (OS.rd how19_11_0), RdS.cells (OS.rd how19_11_0), RdS.len (OS.rd how19_12_0) sl22, RdS.idx (OS.rd how19_12_0) sl22, R1.intN (OS.rd how19_12_0), RdS.cells (OS.rd how19_12_0), BoxAt.cell hb0_0, BoxAt.cell hb0_1, RdS.len ho1_4 sl114, RdS.idx ho1_4 sl114, RdS.cellB ho1_4 (Ext.pres xr1), RdS.cells ho1_4, RdS.len ho5_4 sl114, RdS.idx ho5_4 sl114, RdS.cellB ho5_4 (Ext.pres xr7), RdS.cells ho5_4, RdS.len hr16 sl22, RdS.idx hr16 sl22, R1.intB hr16 (Ext.pres xr17), RdS.cells hr16, wrap_id, Int.add_sub_cancel]
                  refine hK _ _ ?_
                  clear hK K
                  refine den_seq ?_
                  have hto := hR.fg
                  refine den_draw TTok mixed [] [(0, true), (1, true), (2, true), (3, true), (4, true), (5, true), (6, true), (7, true), (8, true), (9, true), (10, true), (11, true), (12, true), (13, true), (14, true), (15, true), (16, true), (18, true), (17, false), (19, false), (20, true)] (by kernel_rfl) ?_
                  intro K hK
                  have hr20 := RdS.rowN rf n (by omega)
                  have hlhr20 := RdS.le hr20
                  have hr21 := RdS.rowN hr20 i (by omega)
                  have hlhr21 := RdS.le hr21
                  have hr22 := RdS.rowN rg n (by omega)
                  have hlhr22 := RdS.le hr22
                  have hr23 := RdS.rowN hr22 i (by omega)
                  have hlhr23 := RdS.le hr23
                  simp -implicitDefEqProofs (disch := first | decide | assumption | omega) only [go_sem, ld56, ld22, RdS.len hdX sl22, RdS.idx hdX sl22, R1.intB hdX (Ext.pres eB), RdS.cells hdX, RdS.len hmX sl23, RdS.idx hmX sl23, RdS.cellB hmX (Ext.pres eB), RdS.cells hmX, RdS.len hdY sl22, RdS.idx hdY sl22, R1.intB hdY (Ext.pres eB), RdS.cells hdY, RdS.len hmY sl23, RdS.idx hmY sl23, RdS.cellB hmY (Ext.pres eB), RdS.cells hmY, RdS.len rf sl23, RdS.idx rf sl23, RdS.cellB rf (Ext.pres eB), RdS.cells rf, RdS.len rg sl23, RdS.idx rg sl23, RdS.cellB rg (Ext.pres eB), RdS.cells rg, RdS.len rq sl23, RdS.idx rq sl23, RdS.cellB rq (Ext.pres eB), RdS.cells rq, RdS.len hr18 sl56, RdS.idx hr18 sl56, RdS.cellB hr18 (Ext.pres eB), RdS.cells hr18, RdS.len hr19 sl22, RdS.idx hr19 sl22, R1.intB hr19 (Ext.pres eB), RdS.cells hr19, RdS.len hr20 sl56, RdS.idx hr20 sl56, RdS.cellB hr20 (Ext.pres eB), RdS.cells hr20, RdS.len hr21 sl22, RdS.idx hr21 sl22, R1.intB hr21 (Ext.pres eB), RdS.cells hr21, RdS.len hr22 sl56, RdS.idx hr22 sl56, RdS.cellB hr22 (Ext.pres eB), RdS.cells hr22, RdS.len hr23 sl22, RdS.idx hr23 sl22, R1.intB hr23 (Ext.pres eB), RdS.cells hr23, RdS.len (OS.rd how12_3_0) sl56, RdS.idx (OS.rd how12_3_0) sl56, RdS.cellN (OS.rd how12_3_0), RdS.cells (OS.rd how12_3_0), RdS.len (OS.rd how19_12_0) sl22, RdS.idx (OS.rd how19_12_0) sl22, R1.intN (OS.rd how19_12_0), RdS.cells (OS.rd how19_12_0), BoxAt.cell hb0_0, BoxAt.cell hb0_1, RdS.len ho1_4 sl114, RdS.idx ho1_4 sl114, RdS.cellB ho1_4 (Ext.pres xr1), RdS.cells ho1_4, RdS.len ho5_4 sl114, RdS.idx ho5_4 sl114, RdS.cellB ho5_4 (Ext.pres xr7), RdS.cells ho5_4, RdS.len hr16 sl22, RdS.idx hr16 sl22, R1.intB hr16 (Ext.pres xr17), RdS.cells hr16, wrap_id, Int.add_sub_cancel]
                  try simp -implicitDefEqProofs (disch := first | decide | assumption | omega) only [go_sem, RdS.len hdX sl22, RdS.idx hdX sl22, R1.intB hdX (Ext.pres eB), RdS.cells hdX, RdS.len hmX sl23, RdS.idx hmX sl23, RdS.cellB hmX (Ext.pres eB), RdS.cells hmX, RdS.len hdY sl22, RdS.idx hdY sl22, R1.intB hdY (Ext.pres eB), RdS.cells hdY, RdS.len hmY sl23, RdS.idx hmY sl23, RdS.cellB hmY (Ext.pres eB), RdS.cells hmY, RdS.len rf sl23, RdS.idx rf sl23, RdS.cellB rf (Ext.pres eB), RdS.cells rf, RdS.len rg sl23, RdS.idx rg sl23, RdS.cellB rg (Ext.pres eB), RdS.cells rg, RdS.len rq sl23, RdS.idx rq sl23, RdS.cellB rq (Ext.pres eB), RdS.cells rq, RdS.len hr18 sl56, RdS.idx hr18 sl56, RdS.cellB hr18 (Ext.pres eB), RdS.cells hr18, RdS.len hr19 sl22, RdS.idx hr19 sl22, R1.intB hr19 (Ext.pres eB), RdS.cells hr19, RdS.len hr20 sl56, RdS.idx hr20 sl56, RdS.cellB hr20 (Ext.pres eB), RdS.cells hr20, RdS.len hr21 sl22, RdS.idx hr21 sl22, R1.intB hr21 (Ext.pres eB), RdS.cells hr21, RdS.len hr22 sl56, RdS.idx hr22 sl56, RdS.cellB hr22 (Ext.pres eB), RdS.cells hr22, RdS.len hr23 sl22, RdS.idx hr23 sl22, R1.intB hr23 (Ext.pres eB), RdS.cells hr23, RdS.len (OS.rd how12_3_0) sl56, RdS.idx (OS.rd how12_3_0) sl56, RdS.cellN (OS.rd how12_3_0), RdS.cells (OS.rd how12_3_0), RdS.len (OS.rd how19_12_0) sl22, RdS.idx (OS.rd how19_12_0) sl22, R1.intN (OS.rd how19_12_0), RdS.cells (OS.rd how19_12_0), BoxAt.cell hb0_0, BoxAt.cell hb0_1, RdS.len ho1_4 sl114, RdS.idx ho1_4 sl114, RdS.cellB ho1_4 (Ext.pres xr1), RdS.cells ho1_4, RdS.len ho5_4 sl114, RdS.idx ho5_4 sl114, RdS.cellB ho5_4 (Ext.pres xr7), RdS.cells ho5_4, RdS.len hr16 sl22, RdS.idx hr16 sl22, R1.intB hr16 (Ext.pres xr17), RdS.cells hr16, wrap_id, Int.add_sub_cancel]
                  refine CallA.mono (iTog_ok _ _ X.p (((f).getD n default).getD i default) (((g).getD n default).getD i default) (X.p - (1 : Int)) _ (RdS.pres hr21 (Ext.pres eB)) (RdS.pres hr23 (Ext.pres eB)) (by omega) hto.1 hto.2.1 hto.2.2 (by omega)) ?_
                  intro vw20_17_0 h20_17
                  rintro ⟨zvw20_17_0, fw20_17_0, rfl, how20_17_0, hfw20_17_0, e20_17⟩
                  replace how12_3_0 := OS.ext how12_3_0 e20_17
                  replace how19_12_0 := OS.ext how19_12_0 e20_17
                  replace hb0_0 := BoxAt.ext hb0_0 e20_17
                  replace hb0_1 := BoxAt.ext hb0_1 e20_17
                  have := Ext.size e20_17
                  replace eB := Ext.trans eB e20_17
                  replace xr1 := Ext.trans xr1 e20_17
                  replace xr7 := Ext.trans xr7 e20_17
                  replace xr17 := Ext.trans xr17 e20_17
                  replace cL9 := Ext.trans cL9 e20_17
                  replace cL13 := Ext.trans cL13 e20_17
                  have hlhow20_17_0 := OS.lt how20_17_0
                  try simp (disch := decide) only [outv_some, outv_none, put_puts]
                  refine plK_pres (Ext.pres e20_17) ?_
                  try simp -implicitDefEqProofs (disch := first | decide | assumption | omega) only [go_sem, RdS.len hdX sl22, RdS.idx hdX sl22, R1.intB hdX (Ext.pres eB), RdS.cells hdX, RdS.len hmX sl23, RdS.idx hmX sl23, RdS.cellB hmX (Ext.pres eB), RdS.cells hmX, RdS.len hdY sl22, RdS.idx hdY sl22, R1.intB hdY (Ext.pres eB), RdS.cells hdY, RdS.len hmY sl23, RdS.idx hmY sl23, RdS.cellB hmY (Ext.pres eB), RdS.cells hmY, RdS.len rf sl23, RdS.idx rf sl23, RdS.cellB rf (Ext.pres eB), RdS.cells rf, RdS.len rg sl23, RdS.idx rg sl23, RdS.cellB rg (Ext.pres eB), RdS.cells rg, RdS.len rq sl23, RdS.idx rq sl23, RdS.cellB rq (Ext.pres eB), RdS.cells rq, RdS.len hr18 sl56, RdS.idx hr18 sl56, RdS.cellB hr18 (Ext.pres eB), RdS.cells hr18, RdS.len hr19 sl22, RdS.idx hr19 sl22, R1.intB hr19 (Ext.pres eB), RdS.cells hr19, RdS.len hr20 sl56, RdS.idx hr20 sl56, RdS.cellB hr20 (Ext.pres eB), RdS.cells hr20, RdS.len hr21 sl22, RdS.idx hr21 sl22, R1.intB hr21 (Ext.pres eB), RdS.cells hr21, RdS.len hr22 sl56, RdS.idx hr22 sl56, RdS.cellB hr22 (Ext.pres eB), RdS.cells hr22, RdS.len hr23 sl22, RdS.idx hr23 sl22, R1.intB hr23 (Ext.pres eB), RdS.cells hr23, RdS.len (OS.rd how12_3_0) sl56, RdS.idx (OS.rd how12_3_0) sl56, RdS.cellN (OS.rd how12_3_0), RdS.cells (OS.rd how12_3_0), RdS.len (OS.rd how19_12_0) sl22, RdS.idx (OS.rd how19_12_0) sl22, R1.intN (OS.rd how19_12_0), RdS.cells (OS.rd how19_12_0), RdS.len (OS.rd how20_17_0) sl22, RdS.idx (OS.rd how20_17_0) sl22, R1.intN (OS.rd how20_17_0), RdS.cells (OS.rd how20_17_0), BoxAt.cell hb0_0, BoxAt.cell hb0_1, RdS.len ho1_4 sl114, RdS.idx ho1_4 sl114, RdS.cellB ho1_4 (Ext.pres xr1), RdS.cells ho1_4, RdS.len ho5_4 sl114, RdS.idx ho5_4 sl114, RdS.cellB ho5_4 (Ext.pres xr7), RdS.cells ho5_4, RdS.len hr16 sl22, RdS.idx hr16 sl22, R1.intB hr16 (Ext.pres xr17), RdS.cells hr16, wrap_id, Int.add_sub_cancel]
                  try simp -implicitDefEqProofs (disch := first | decide | assumption | omega) only [go_sem, RdS.len hdX sl22, RdS.idx hdX sl22, R1.intB hdX (Ext.pres eB), RdS.cells hdX, RdS.len hmX sl23, RdS.idx hmX sl23, RdS.cellB hmX (Ext.pres eB), RdS.cells hmX, RdS.len hdY sl22, RdS.idx hdY sl22, R1.intB hdY (Ext.pres eB), RdS.cells hdY, RdS.len hmY sl23, RdS.idx hmY sl23, RdS.cellB hmY (Ext.pres eB), RdS.cells hmY, RdS.len rf sl23, RdS.idx rf sl23, RdS.cellB rf (Ext.pres eB), RdS.cells rf, RdS.len rg sl23, RdS.idx rg sl23, RdS.cellB rg (Ext.pres eB), RdS.cells rg, RdS.len rq sl23, RdS.idx rq sl23, RdS.cellB rq (Ext.pres eB), RdS.cells rq, RdS.len hr18 sl56, RdS.idx hr18 sl56, RdS.cellB hr18 (Ext.pres eB), RdS.cells hr18, RdS.len hr19 sl22, RdS.idx hr19 sl22, R1.intB hr19 (Ext.pres eB), RdS.cells hr19, RdS.len hr20 sl56, RdS.idx hr20 sl56, RdS.cellB hr20 (Ext.pres eB), RdS.cells hr20, RdS.len hr21 sl22, RdS.idx hr21 sl22, R1.intB hr21 (Ext.pres eB), RdS.cells hr21, RdS.len hr22 sl56, RdS.idx hr22 sl56, RdS.cellB hr22 (Ext.pres eB), RdS.cells hr22, RdS.len hr23 sl22, RdS.idx hr23 sl22, R1.intB hr23 (Ext.pres eB), RdS.cells hr23, RdS.len (OS.rd how12_3_0) sl56, RdS.idx (OS.rd how12_3_0) sl56, RdS.cellN (OS.rd how12_3_0), RdS.cells (OS.rd how12_3_0), RdS.len (OS.rd how19_12_0) sl22, RdS.idx (OS.rd how19_12_0) sl22, R1.intN (OS.rd how19_12_0), RdS.cells (OS.rd how19_12_0), RdS.len (OS.rd how20_17_0) sl22, RdS.idx (OS.rd how20_17_0) sl22, R1.intN (OS.rd how20_17_0), RdS.cells (OS.rd how20_17_0), BoxAt.cell hb0_0, BoxAt.cell hb0_1, RdS.len ho1_4 sl114, RdS.idx ho1_4 sl114, RdS.cellB ho1_4 (Ext.pres xr1), RdS.cells ho1_4, RdS.len ho5_4 sl114, RdS.idx ho5_4 sl114, RdS.cellB ho5_4 (Ext.pres xr7), RdS.cells ho5_4, RdS.len hr16 sl22, RdS.idx hr16 sl22, R1.intB hr16 (Ext.pres xr17), RdS.cells hr16, wrap_id, Int.add_sub_cancel]
                  refine CallA.mono (equal1_ok _ _ (addRow X.p (X.p - (1 : Int)) (((f).getD n default).getD i default) (((g).getD n default).getD i default)) (addRow X.p (1 : Int) (diffP Y ((n : Int) + (1 : Int)) (((q).getD n default).getD i default)) (imgP X Y q 1 ((n : Int) - 1) (diffP X (n : Int) (unitP (X.dims.getD n 0).toNat i)))) _ (OS.rd how20_17_0) (OS.rd how19_12_0) ) ?_
                  intro v_ h20_19
                  rintro ⟨rfl, e20_19⟩
                  replace how12_3_0 := OS.ext how12_3_0 e20_19
                  replace how19_12_0 := OS.ext how19_12_0 e20_19
                  replace how20_17_0 := OS.ext how20_17_0 e20_19
                  replace hb0_0 := BoxAt.ext hb0_0 e20_19
                  replace hb0_1 := BoxAt.ext hb0_1 e20_19
                  have := Ext.size e20_19
                  replace eB := Ext.trans eB e20_19
                  replace xr1 := Ext.trans xr1 e20_19
                  replace xr7 := Ext.trans xr7 e20_19
                  replace xr17 := Ext.trans xr17 e20_19
                  replace cL9 := Ext.trans cL9 e20_19
                  replace cL13 := Ext.trans cL13 e20_19
                  try simp (disch := decide) only [outv_some, outv_none, put_puts]
                  refine plK_pres (Ext.pres e20_19) ?_
                  try simp -implicitDefEqProofs (disch := first | decide | assumption | omega) only [go_sem, RdS.len hdX sl22, RdS.idx hdX sl22, R1.intB hdX (Ext.pres eB), RdS.cells hdX, RdS.len hmX sl23, RdS.idx hmX sl23, RdS.cellB hmX (Ext.pres eB), RdS.cells hmX, RdS.len hdY sl22, RdS.idx hdY sl22, R1.intB hdY (Ext.pres eB), RdS.cells hdY, RdS.len hmY sl23, RdS.idx hmY sl23, RdS.cellB hmY (Ext.pres eB), RdS.cells hmY, RdS.len rf sl23, RdS.idx rf sl23, RdS.cellB rf (Ext.pres eB), RdS.cells rf, RdS.len rg sl23, RdS.idx rg sl23, RdS.cellB rg (Ext.pres eB), RdS.cells rg, RdS.len rq sl23, RdS.idx rq sl23, RdS.cellB rq (Ext.pres eB), RdS.cells rq, RdS.len hr18 sl56, RdS.idx hr18 sl56, RdS.cellB hr18 (Ext.pres eB), RdS.cells hr18, RdS.len hr19 sl22, RdS.idx hr19 sl22, R1.intB hr19 (Ext.pres eB), RdS.cells hr19, RdS.len hr20 sl56, RdS.idx hr20 sl56, RdS.cellB hr20 (Ext.pres eB), RdS.cells hr20, RdS.len hr21 sl22, RdS.idx hr21 sl22, R1.intB hr21 (Ext.pres eB), RdS.cells hr21, RdS.len hr22 sl56, RdS.idx hr22 sl56, RdS.cellB hr22 (Ext.pres eB), RdS.cells hr22, RdS.len hr23 sl22, RdS.idx hr23 sl22, R1.intB hr23 (Ext.pres eB), RdS.cells hr23, RdS.len (OS.rd how12_3_0) sl56, RdS.idx (OS.rd how12_3_0) sl56, RdS.cellN (OS.rd how12_3_0), RdS.cells (OS.rd how12_3_0), RdS.len (OS.rd how19_12_0) sl22, RdS.idx (OS.rd how19_12_0) sl22, R1.intN (OS.rd how19_12_0), RdS.cells (OS.rd how19_12_0), RdS.len (OS.rd how20_17_0) sl22, RdS.idx (OS.rd how20_17_0) sl22, R1.intN (OS.rd how20_17_0), RdS.cells (OS.rd how20_17_0), BoxAt.cell hb0_0, BoxAt.cell hb0_1, RdS.len ho1_4 sl114, RdS.idx ho1_4 sl114, RdS.cellB ho1_4 (Ext.pres xr1), RdS.cells ho1_4, RdS.len ho5_4 sl114, RdS.idx ho5_4 sl114, RdS.cellB ho5_4 (Ext.pres xr7), RdS.cells ho5_4, RdS.len hr16 sl22, RdS.idx hr16 sl22, R1.intB hr16 (Ext.pres xr17), RdS.cells hr16, wrap_id, Int.add_sub_cancel]
                  refine hK _ _ ?_
                  clear hK K
                  refine den_cond rfl (fun c7 => ?_) (fun c7 => ?_)
                  · try simp only [decide_eq_true_eq, decide_eq_false_iff_not, beq_iff_eq, beq_eq_false_iff_ne, bne_iff_ne, ne_eq, Bool.not_eq_true', Bool.not_eq_false', Bool.and_eq_true, Bool.or_eq_true, bne_eq_false_iff_eq] at c7
                    refine den_seq ?_
                    refine den_region TTok ?_
                    intro K hK
                    simp -implicitDefEqProofs (disch := first | decide | assumption | omega) only [go_sem, RdS.len hdX sl22, RdS.idx hdX sl22, R1.intB hdX (Ext.pres eB), RdS.cells hdX, RdS.len hmX sl23, RdS.idx hmX sl23, RdS.cellB hmX (Ext.pres eB), RdS.cells hmX, RdS.len hdY sl22, RdS.idx hdY sl22, R1.intB hdY (Ext.pres eB), RdS.cells hdY, RdS.len hmY sl23, RdS.idx hmY sl23, RdS.cellB hmY (Ext.pres eB), RdS.cells hmY, RdS.len rf sl23, RdS.idx rf sl23, RdS.cellB rf (Ext.pres eB), RdS.cells rf, RdS.len rg sl23, RdS.idx rg sl23, RdS.cellB rg (Ext.pres eB), RdS.cells rg, RdS.len rq sl23, RdS.idx rq sl23, RdS.cellB rq (Ext.pres eB), RdS.cells rq, RdS.len hr18 sl56, RdS.idx hr18 sl56, RdS.cellB hr18 (Ext.pres eB), RdS.cells hr18, RdS.len hr19 sl22, RdS.idx hr19 sl22, R1.intB hr19 (Ext.pres eB), RdS.cells hr19, RdS.len hr20 sl56, RdS.idx hr20 sl56, RdS.cellB hr20 (Ext.pres eB), RdS.cells hr20, RdS.len hr21 sl22, RdS.idx hr21 sl22, R1.intB hr21 (Ext.pres eB), RdS.cells hr21, RdS.len hr22 sl56, RdS.idx hr22 sl56, RdS.cellB hr22 (Ext.pres eB), RdS.cells hr22, RdS.len hr23 sl22, RdS.idx hr23 sl22, R1.intB hr23 (Ext.pres eB), RdS.cells hr23, RdS.len ho1_4 sl114, RdS.idx ho1_4 sl114, RdS.cellB ho1_4 (Ext.pres xr1), RdS.cells ho1_4, RdS.len ho5_4 sl114, RdS.idx ho5_4 sl114, RdS.cellB ho5_4 (Ext.pres xr7), RdS.cells ho5_4, RdS.len hr16 sl22, RdS.idx hr16 sl22, R1.intB hr16 (Ext.pres xr17), RdS.cells hr16, wrap_id, Int.add_sub_cancel]
                    refine hK _ _ ?_
                    clear hK K
                    refine den_ret ?_
                    simp (disch := decide) only [resP_2, puts_same, puts_ne]
                    have hz : hmP X Y f g q = (false, 0) := by
                      rw [hmP, if_pos hmz, pdec_f.2 (fun hH => ?_)]
                      have h := hH n hR.nf.2.2.2.1 i (by have := hR.d8; have := hR.fi; omega)
                      unfold homAt homR hdP hoP at h
                      first
                      | (rw [if_pos (show 0 < n by omega), if_pos (show (n : Int) < (Y.dims.length : Int) - 1 by omega)] at h; exact c7 h)
                      | (rw [if_neg (show ¬ 0 < n by omega), if_pos (show (n : Int) < (Y.dims.length : Int) - 1 by omega)] at h; exact c7 h)
                      | (rw [if_pos (show 0 < n by omega), if_neg (show ¬ (n : Int) < (Y.dims.length : Int) - 1 by omega)] at h; exact c7 h)
                      | (rw [if_neg (show ¬ 0 < n by omega), if_neg (show ¬ (n : Int) < (Y.dims.length : Int) - 1 by omega)] at h; exact c7 h)
                    exact ⟨by rw [hz], eB⟩
                  · try simp only [decide_eq_true_eq, decide_eq_false_iff_not, beq_iff_eq, beq_eq_false_iff_ne, bne_iff_ne, ne_eq, Bool.not_eq_true', Bool.not_eq_false', Bool.and_eq_true, Bool.or_eq_true, bne_eq_false_iff_eq] at c7
                    refine den_skip ?_
                    refine den_blk ?_
                    refine den_region TTok ?_
                    intro K hK
                    simp -implicitDefEqProofs (disch := first | decide | assumption | omega) only [go_sem, RdS.len hdX sl22, RdS.idx hdX sl22, R1.intB hdX (Ext.pres eB), RdS.cells hdX, RdS.len hmX sl23, RdS.idx hmX sl23, RdS.cellB hmX (Ext.pres eB), RdS.cells hmX, RdS.len hdY sl22, RdS.idx hdY sl22, R1.intB hdY (Ext.pres eB), RdS.cells hdY, RdS.len hmY sl23, RdS.idx hmY sl23, RdS.cellB hmY (Ext.pres eB), RdS.cells hmY, RdS.len rf sl23, RdS.idx rf sl23, RdS.cellB rf (Ext.pres eB), RdS.cells rf, RdS.len rg sl23, RdS.idx rg sl23, RdS.cellB rg (Ext.pres eB), RdS.cells rg, RdS.len rq sl23, RdS.idx rq sl23, RdS.cellB rq (Ext.pres eB), RdS.cells rq, RdS.len hr18 sl56, RdS.idx hr18 sl56, RdS.cellB hr18 (Ext.pres eB), RdS.cells hr18, RdS.len hr19 sl22, RdS.idx hr19 sl22, R1.intB hr19 (Ext.pres eB), RdS.cells hr19, RdS.len hr20 sl56, RdS.idx hr20 sl56, RdS.cellB hr20 (Ext.pres eB), RdS.cells hr20, RdS.len hr21 sl22, RdS.idx hr21 sl22, R1.intB hr21 (Ext.pres eB), RdS.cells hr21, RdS.len hr22 sl56, RdS.idx hr22 sl56, RdS.cellB hr22 (Ext.pres eB), RdS.cells hr22, RdS.len hr23 sl22, RdS.idx hr23 sl22, R1.intB hr23 (Ext.pres eB), RdS.cells hr23, RdS.len (OS.rd how12_3_0) sl56, RdS.idx (OS.rd how12_3_0) sl56, RdS.cellN (OS.rd how12_3_0), RdS.cells (OS.rd how12_3_0), BoxAt.cell hb0_0, BoxAt.cell hb0_1, RdS.len ho1_4 sl114, RdS.idx ho1_4 sl114, RdS.cellB ho1_4 (Ext.pres xr1), RdS.cells ho1_4, RdS.len ho5_4 sl114, RdS.idx ho5_4 sl114, RdS.cellB ho5_4 (Ext.pres xr7), RdS.cells ho5_4, RdS.len hr16 sl22, RdS.idx hr16 sl22, R1.intB hr16 (Ext.pres xr17), RdS.cells hr16, wrap_id, Int.add_sub_cancel]
                    refine hK _ _ ?_
                    clear hK K
                    refine den_stop ?_
                    exact ⟨i + 1, by simp [HasL, puts_at], ⟨by omega, fun j hj => (Nat.lt_succ_iff_lt_or_eq.1 hj).elim (hy j) (fun e => by subst e; exact by unfold homAt homR hdP hoP; first | (rw [if_pos (show 0 < n by omega), if_pos (show (n : Int) < (Y.dims.length : Int) - 1 by omega)]; exact c7) | (rw [if_neg (show ¬ 0 < n by omega), if_pos (show (n : Int) < (Y.dims.length : Int) - 1 by omega)]; exact c7) | (rw [if_pos (show 0 < n by omega), if_neg (show ¬ (n : Int) < (Y.dims.length : Int) - 1 by omega)]; exact c7) | (rw [if_neg (show ¬ 0 < n by omega), if_neg (show ¬ (n : Int) < (Y.dims.length : Int) - 1 by omega)]; exact c7)), cL13⟩, by first | omega | (dsimp only; omega)⟩
                · try simp only [decide_eq_true_eq, decide_eq_false_iff_not, beq_iff_eq, beq_eq_false_iff_ne, bne_iff_ne, ne_eq, Bool.not_eq_true', Bool.not_eq_false', Bool.and_eq_true, Bool.or_eq_true, bne_eq_false_iff_eq] at c6
                  refine den_skip ?_
                  refine den_seq ?_
                  have hto := hR.fg
                  refine den_draw TTok mixed [] [(0, true), (1, true), (2, true), (3, true), (4, true), (5, true), (6, true), (7, true), (8, true), (9, true), (10, true), (11, true), (12, true), (13, true), (14, true), (15, true), (16, true), (18, true), (17, false), (19, false), (20, true)] (by kernel_rfl) ?_
                  intro K hK
                  have hr24 := RdS.rowN rf n (by omega)
                  have hlhr24 := RdS.le hr24
                  have hr25 := RdS.rowN hr24 i (by omega)
                  have hlhr25 := RdS.le hr25
                  have hr26 := RdS.rowN rg n (by omega)
                  have hlhr26 := RdS.le hr26
                  have hr27 := RdS.rowN hr26 i (by omega)
                  have hlhr27 := RdS.le hr27
                  simp -implicitDefEqProofs (disch := first | decide | assumption | omega) only [go_sem, ld56, ld22, RdS.len hdX sl22, RdS.idx hdX sl22, R1.intB hdX (Ext.pres eB), RdS.cells hdX, RdS.len hmX sl23, RdS.idx hmX sl23, RdS.cellB hmX (Ext.pres eB), RdS.cells hmX, RdS.len hdY sl22, RdS.idx hdY sl22, R1.intB hdY (Ext.pres eB), RdS.cells hdY, RdS.len hmY sl23, RdS.idx hmY sl23, RdS.cellB hmY (Ext.pres eB), RdS.cells hmY, RdS.len rf sl23, RdS.idx rf sl23, RdS.cellB rf (Ext.pres eB), RdS.cells rf, RdS.len rg sl23, RdS.idx rg sl23, RdS.cellB rg (Ext.pres eB), RdS.cells rg, RdS.len rq sl23, RdS.idx rq sl23, RdS.cellB rq (Ext.pres eB), RdS.cells rq, RdS.len hr18 sl56, RdS.idx hr18 sl56, RdS.cellB hr18 (Ext.pres eB), RdS.cells hr18, RdS.len hr19 sl22, RdS.idx hr19 sl22, R1.intB hr19 (Ext.pres eB), RdS.cells hr19, RdS.len hr24 sl56, RdS.idx hr24 sl56, RdS.cellB hr24 (Ext.pres eB), RdS.cells hr24, RdS.len hr25 sl22, RdS.idx hr25 sl22, R1.intB hr25 (Ext.pres eB), RdS.cells hr25, RdS.len hr26 sl56, RdS.idx hr26 sl56, RdS.cellB hr26 (Ext.pres eB), RdS.cells hr26, RdS.len hr27 sl22, RdS.idx hr27 sl22, R1.intB hr27 (Ext.pres eB), RdS.cells hr27, RdS.len (OS.rd how12_3_0) sl56, RdS.idx (OS.rd how12_3_0) sl56, RdS.cellN (OS.rd how12_3_0), RdS.cells (OS.rd how12_3_0), RdS.len (OS.rd ho17_10) sl22, RdS.idx (OS.rd ho17_10) sl22, R1.intN (OS.rd ho17_10), RdS.cells (OS.rd ho17_10), BoxAt.cell hb0_0, BoxAt.cell hb0_1, RdS.len ho1_4 sl114, RdS.idx ho1_4 sl114, RdS.cellB ho1_4 (Ext.pres xr1), RdS.cells ho1_4, RdS.len ho5_4 sl114, RdS.idx ho5_4 sl114, RdS.cellB ho5_4 (Ext.pres xr7), RdS.cells ho5_4, RdS.len hr16 sl22, RdS.idx hr16 sl22, R1.intB hr16 (Ext.pres xr17), RdS.cells hr16, wrap_id, Int.add_sub_cancel]
                  try simp -implicitDefEqProofs (disch := first | decide | assumption | omega) only [go_sem, RdS.len hdX sl22, RdS.idx hdX sl22, R1.intB hdX (Ext.pres eB), RdS.cells hdX, RdS.len hmX sl23, RdS.idx hmX sl23, RdS.cellB hmX (Ext.pres eB), RdS.cells hmX, RdS.len hdY sl22, RdS.idx hdY sl22, R1.intB hdY (Ext.pres eB), RdS.cells hdY, RdS.len hmY sl23, RdS.idx hmY sl23, RdS.cellB hmY (Ext.pres eB), RdS.cells hmY, RdS.len rf sl23, RdS.idx rf sl23, RdS.cellB rf (Ext.pres eB), RdS.cells rf, RdS.len rg sl23, RdS.idx rg sl23, RdS.cellB rg (Ext.pres eB), RdS.cells rg, RdS.len rq sl23, RdS.idx rq sl23, RdS.cellB rq (Ext.pres eB), RdS.cells rq, RdS.len hr18 sl56, RdS.idx hr18 sl56, RdS.cellB hr18 (Ext.pres eB), RdS.cells hr18, RdS.len hr19 sl22, RdS.idx hr19 sl22, R1.intB hr19 (Ext.pres eB), RdS.cells hr19, RdS.len hr24 sl56, RdS.idx hr24 sl56, RdS.cellB hr24 (Ext.pres eB), RdS.cells hr24, RdS.len hr25 sl22, RdS.idx hr25 sl22, R1.intB hr25 (Ext.pres eB), RdS.cells hr25, RdS.len hr26 sl56, RdS.idx hr26 sl56, RdS.cellB hr26 (Ext.pres eB), RdS.cells hr26, RdS.len hr27 sl22, RdS.idx hr27 sl22, R1.intB hr27 (Ext.pres eB), RdS.cells hr27, RdS.len (OS.rd how12_3_0) sl56, RdS.idx (OS.rd how12_3_0) sl56, RdS.cellN (OS.rd how12_3_0), RdS.cells (OS.rd how12_3_0), RdS.len (OS.rd ho17_10) sl22, RdS.idx (OS.rd ho17_10) sl22, R1.intN (OS.rd ho17_10), RdS.cells (OS.rd ho17_10), BoxAt.cell hb0_0, BoxAt.cell hb0_1, RdS.len ho1_4 sl114, RdS.idx ho1_4 sl114, RdS.cellB ho1_4 (Ext.pres xr1), RdS.cells ho1_4, RdS.len ho5_4 sl114, RdS.idx ho5_4 sl114, RdS.cellB ho5_4 (Ext.pres xr7), RdS.cells ho5_4, RdS.len hr16 sl22, RdS.idx hr16 sl22, R1.intB hr16 (Ext.pres xr17), RdS.cells hr16, wrap_id, Int.add_sub_cancel]
                  refine CallA.mono (iTog_ok _ _ X.p (((f).getD n default).getD i default) (((g).getD n default).getD i default) (X.p - (1 : Int)) _ (RdS.pres hr25 (Ext.pres eB)) (RdS.pres hr27 (Ext.pres eB)) (by omega) hto.1 hto.2.1 hto.2.2 (by omega)) ?_
                  intro vw20_17_1_0 h20_17_1
                  rintro ⟨zvw20_17_1_0, fw20_17_1_0, rfl, how20_17_1_0, hfw20_17_1_0, e20_17_1⟩
                  replace how12_3_0 := OS.ext how12_3_0 e20_17_1
                  replace ho17_10 := OS.ext ho17_10 e20_17_1
                  replace hb0_0 := BoxAt.ext hb0_0 e20_17_1
                  replace hb0_1 := BoxAt.ext hb0_1 e20_17_1
                  have := Ext.size e20_17_1
                  replace eB := Ext.trans eB e20_17_1
                  replace xr1 := Ext.trans xr1 e20_17_1
                  replace xr7 := Ext.trans xr7 e20_17_1
                  replace xr17 := Ext.trans xr17 e20_17_1
                  replace cL9 := Ext.trans cL9 e20_17_1
                  replace cL13 := Ext.trans cL13 e20_17_1
                  have hlhow20_17_1_0 := OS.lt how20_17_1_0
                  try simp (disch := decide) only [outv_some, outv_none, put_puts]
                  refine plK_pres (Ext.pres e20_17_1) ?_
                  try simp -implicitDefEqProofs (disch := first | decide | assumption | omega) only [go_sem, RdS.len hdX sl22, RdS.idx hdX sl22, R1.intB hdX (Ext.pres eB), RdS.cells hdX, RdS.len hmX sl23, RdS.idx hmX sl23, RdS.cellB hmX (Ext.pres eB), RdS.cells hmX, RdS.len hdY sl22, RdS.idx hdY sl22, R1.intB hdY (Ext.pres eB), RdS.cells hdY, RdS.len hmY sl23, RdS.idx hmY sl23, RdS.cellB hmY (Ext.pres eB), RdS.cells hmY, RdS.len rf sl23, RdS.idx rf sl23, RdS.cellB rf (Ext.pres eB), RdS.cells rf, RdS.len rg sl23, RdS.idx rg sl23, RdS.cellB rg (Ext.pres eB), RdS.cells rg, RdS.len rq sl23, RdS.idx rq sl23, RdS.cellB rq (Ext.pres eB), RdS.cells rq, RdS.len hr18 sl56, RdS.idx hr18 sl56, RdS.cellB hr18 (Ext.pres eB), RdS.cells hr18, RdS.len hr19 sl22, RdS.idx hr19 sl22, R1.intB hr19 (Ext.pres eB), RdS.cells hr19, RdS.len hr24 sl56, RdS.idx hr24 sl56, RdS.cellB hr24 (Ext.pres eB), RdS.cells hr24, RdS.len hr25 sl22, RdS.idx hr25 sl22, R1.intB hr25 (Ext.pres eB), RdS.cells hr25, RdS.len hr26 sl56, RdS.idx hr26 sl56, RdS.cellB hr26 (Ext.pres eB), RdS.cells hr26, RdS.len hr27 sl22, RdS.idx hr27 sl22, R1.intB hr27 (Ext.pres eB), RdS.cells hr27, RdS.len (OS.rd how12_3_0) sl56, RdS.idx (OS.rd how12_3_0) sl56, RdS.cellN (OS.rd how12_3_0), RdS.cells (OS.rd how12_3_0), RdS.len (OS.rd ho17_10) sl22, RdS.idx (OS.rd ho17_10) sl22, R1.intN (OS.rd ho17_10), RdS.cells (OS.rd ho17_10), RdS.len (OS.rd how20_17_1_0) sl22, RdS.idx (OS.rd how20_17_1_0) sl22, R1.intN (OS.rd how20_17_1_0), RdS.cells (OS.rd how20_17_1_0), BoxAt.cell hb0_0, BoxAt.cell hb0_1, RdS.len ho1_4 sl114, RdS.idx ho1_4 sl114, RdS.cellB ho1_4 (Ext.pres xr1), RdS.cells ho1_4, RdS.len ho5_4 sl114, RdS.idx ho5_4 sl114, RdS.cellB ho5_4 (Ext.pres xr7), RdS.cells ho5_4, RdS.len hr16 sl22, RdS.idx hr16 sl22, R1.intB hr16 (Ext.pres xr17), RdS.cells hr16, wrap_id, Int.add_sub_cancel]
                  try simp -implicitDefEqProofs (disch := first | decide | assumption | omega) only [go_sem, RdS.len hdX sl22, RdS.idx hdX sl22, R1.intB hdX (Ext.pres eB), RdS.cells hdX, RdS.len hmX sl23, RdS.idx hmX sl23, RdS.cellB hmX (Ext.pres eB), RdS.cells hmX, RdS.len hdY sl22, RdS.idx hdY sl22, R1.intB hdY (Ext.pres eB), RdS.cells hdY, RdS.len hmY sl23, RdS.idx hmY sl23, RdS.cellB hmY (Ext.pres eB), RdS.cells hmY, RdS.len rf sl23, RdS.idx rf sl23, RdS.cellB rf (Ext.pres eB), RdS.cells rf, RdS.len rg sl23, RdS.idx rg sl23, RdS.cellB rg (Ext.pres eB), RdS.cells rg, RdS.len rq sl23, RdS.idx rq sl23, RdS.cellB rq (Ext.pres eB), RdS.cells rq, RdS.len hr18 sl56, RdS.idx hr18 sl56, RdS.cellB hr18 (Ext.pres eB), RdS.cells hr18, RdS.len hr19 sl22, RdS.idx hr19 sl22, R1.intB hr19 (Ext.pres eB), RdS.cells hr19, RdS.len hr24 sl56, RdS.idx hr24 sl56, RdS.cellB hr24 (Ext.pres eB), RdS.cells hr24, RdS.len hr25 sl22, RdS.idx hr25 sl22, R1.intB hr25 (Ext.pres eB), RdS.cells hr25, RdS.len hr26 sl56, RdS.idx hr26 sl56, RdS.cellB hr26 (Ext.pres eB), RdS.cells hr26, RdS.len hr27 sl22, RdS.idx hr27 sl22, R1.intB hr27 (Ext.pres eB), RdS.cells hr27, RdS.len (OS.rd how12_3_0) sl56, RdS.idx (OS.rd how12_3_0) sl56, RdS.cellN (OS.rd how12_3_0), RdS.cells (OS.rd how12_3_0), RdS.len (OS.rd ho17_10) sl22, RdS.idx (OS.rd ho17_10) sl22, R1.intN (OS.rd ho17_10), RdS.cells (OS.rd ho17_10), RdS.len (OS.rd how20_17_1_0) sl22, RdS.idx (OS.rd how20_17_1_0) sl22, R1.intN (OS.rd how20_17_1_0), RdS.cells (OS.rd how20_17_1_0), BoxAt.cell hb0_0, BoxAt.cell hb0_1, RdS.len ho1_4 sl114, RdS.idx ho1_4 sl114, RdS.cellB ho1_4 (Ext.pres xr1), RdS.cells ho1_4, RdS.len ho5_4 sl114, RdS.idx ho5_4 sl114, RdS.cellB ho5_4 (Ext.pres xr7), RdS.cells ho5_4, RdS.len hr16 sl22, RdS.idx hr16 sl22, R1.intB hr16 (Ext.pres xr17), RdS.cells hr16, wrap_id, Int.add_sub_cancel]
                  refine CallA.mono (equal1_ok _ _ (addRow X.p (X.p - (1 : Int)) (((f).getD n default).getD i default) (((g).getD n default).getD i default)) (diffP Y ((n : Int) + (1 : Int)) (((q).getD n default).getD i default)) _ (OS.rd how20_17_1_0) (OS.rd ho17_10) ) ?_
                  intro v_ h20_19_1
                  rintro ⟨rfl, e20_19_1⟩
                  replace how12_3_0 := OS.ext how12_3_0 e20_19_1
                  replace ho17_10 := OS.ext ho17_10 e20_19_1
                  replace how20_17_1_0 := OS.ext how20_17_1_0 e20_19_1
                  replace hb0_0 := BoxAt.ext hb0_0 e20_19_1
                  replace hb0_1 := BoxAt.ext hb0_1 e20_19_1
                  have := Ext.size e20_19_1
                  replace eB := Ext.trans eB e20_19_1
                  replace xr1 := Ext.trans xr1 e20_19_1
                  replace xr7 := Ext.trans xr7 e20_19_1
                  replace xr17 := Ext.trans xr17 e20_19_1
                  replace cL9 := Ext.trans cL9 e20_19_1
                  replace cL13 := Ext.trans cL13 e20_19_1
                  try simp (disch := decide) only [outv_some, outv_none, put_puts]
                  refine plK_pres (Ext.pres e20_19_1) ?_
                  try simp -implicitDefEqProofs (disch := first | decide | assumption | omega) only [go_sem, RdS.len hdX sl22, RdS.idx hdX sl22, R1.intB hdX (Ext.pres eB), RdS.cells hdX, RdS.len hmX sl23, RdS.idx hmX sl23, RdS.cellB hmX (Ext.pres eB), RdS.cells hmX, RdS.len hdY sl22, RdS.idx hdY sl22, R1.intB hdY (Ext.pres eB), RdS.cells hdY, RdS.len hmY sl23, RdS.idx hmY sl23, RdS.cellB hmY (Ext.pres eB), RdS.cells hmY, RdS.len rf sl23, RdS.idx rf sl23, RdS.cellB rf (Ext.pres eB), RdS.cells rf, RdS.len rg sl23, RdS.idx rg sl23, RdS.cellB rg (Ext.pres eB), RdS.cells rg, RdS.len rq sl23, RdS.idx rq sl23, RdS.cellB rq (Ext.pres eB), RdS.cells rq, RdS.len hr18 sl56, RdS.idx hr18 sl56, RdS.cellB hr18 (Ext.pres eB), RdS.cells hr18, RdS.len hr19 sl22, RdS.idx hr19 sl22, R1.intB hr19 (Ext.pres eB), RdS.cells hr19, RdS.len hr24 sl56, RdS.idx hr24 sl56, RdS.cellB hr24 (Ext.pres eB), RdS.cells hr24, RdS.len hr25 sl22, RdS.idx hr25 sl22, R1.intB hr25 (Ext.pres eB), RdS.cells hr25, RdS.len hr26 sl56, RdS.idx hr26 sl56, RdS.cellB hr26 (Ext.pres eB), RdS.cells hr26, RdS.len hr27 sl22, RdS.idx hr27 sl22, R1.intB hr27 (Ext.pres eB), RdS.cells hr27, RdS.len (OS.rd how12_3_0) sl56, RdS.idx (OS.rd how12_3_0) sl56, RdS.cellN (OS.rd how12_3_0), RdS.cells (OS.rd how12_3_0), RdS.len (OS.rd ho17_10) sl22, RdS.idx (OS.rd ho17_10) sl22, R1.intN (OS.rd ho17_10), RdS.cells (OS.rd ho17_10), RdS.len (OS.rd how20_17_1_0) sl22, RdS.idx (OS.rd how20_17_1_0) sl22, R1.intN (OS.rd how20_17_1_0), RdS.cells (OS.rd how20_17_1_0), BoxAt.cell hb0_0, BoxAt.cell hb0_1, RdS.len ho1_4 sl114, RdS.idx ho1_4 sl114, RdS.cellB ho1_4 (Ext.pres xr1), RdS.cells ho1_4, RdS.len ho5_4 sl114, RdS.idx ho5_4 sl114, RdS.cellB ho5_4 (Ext.pres xr7), RdS.cells ho5_4, RdS.len hr16 sl22, RdS.idx hr16 sl22, R1.intB hr16 (Ext.pres xr17), RdS.cells hr16, wrap_id, Int.add_sub_cancel]
                  refine hK _ _ ?_
                  clear hK K
                  refine den_cond rfl (fun c8 => ?_) (fun c8 => ?_)
                  · try simp only [decide_eq_true_eq, decide_eq_false_iff_not, beq_iff_eq, beq_eq_false_iff_ne, bne_iff_ne, ne_eq, Bool.not_eq_true', Bool.not_eq_false', Bool.and_eq_true, Bool.or_eq_true, bne_eq_false_iff_eq] at c8
                    refine den_seq ?_
                    refine den_region TTok ?_
                    intro K hK
                    simp -implicitDefEqProofs (disch := first | decide | assumption | omega) only [go_sem, RdS.len hdX sl22, RdS.idx hdX sl22, R1.intB hdX (Ext.pres eB), RdS.cells hdX, RdS.len hmX sl23, RdS.idx hmX sl23, RdS.cellB hmX (Ext.pres eB), RdS.cells hmX, RdS.len hdY sl22, RdS.idx hdY sl22, R1.intB hdY (Ext.pres eB), RdS.cells hdY, RdS.len hmY sl23, RdS.idx hmY sl23, RdS.cellB hmY (Ext.pres eB), RdS.cells hmY, RdS.len rf sl23, RdS.idx rf sl23, RdS.cellB rf (Ext.pres eB), RdS.cells rf, RdS.len rg sl23, RdS.idx rg sl23, RdS.cellB rg (Ext.pres eB), RdS.cells rg, RdS.len rq sl23, RdS.idx rq sl23, RdS.cellB rq (Ext.pres eB), RdS.cells rq, RdS.len hr18 sl56, RdS.idx hr18 sl56, RdS.cellB hr18 (Ext.pres eB), RdS.cells hr18, RdS.len hr19 sl22, RdS.idx hr19 sl22, R1.intB hr19 (Ext.pres eB), RdS.cells hr19, RdS.len hr24 sl56, RdS.idx hr24 sl56, RdS.cellB hr24 (Ext.pres eB), RdS.cells hr24, RdS.len hr25 sl22, RdS.idx hr25 sl22, R1.intB hr25 (Ext.pres eB), RdS.cells hr25, RdS.len hr26 sl56, RdS.idx hr26 sl56, RdS.cellB hr26 (Ext.pres eB), RdS.cells hr26, RdS.len hr27 sl22, RdS.idx hr27 sl22, R1.intB hr27 (Ext.pres eB), RdS.cells hr27, RdS.len ho1_4 sl114, RdS.idx ho1_4 sl114, RdS.cellB ho1_4 (Ext.pres xr1), RdS.cells ho1_4, RdS.len ho5_4 sl114, RdS.idx ho5_4 sl114, RdS.cellB ho5_4 (Ext.pres xr7), RdS.cells ho5_4, RdS.len hr16 sl22, RdS.idx hr16 sl22, R1.intB hr16 (Ext.pres xr17), RdS.cells hr16, wrap_id, Int.add_sub_cancel]
                    refine hK _ _ ?_
                    clear hK K
                    refine den_ret ?_
                    simp (disch := decide) only [resP_2, puts_same, puts_ne]
                    have hz : hmP X Y f g q = (false, 0) := by
                      rw [hmP, if_pos hmz, pdec_f.2 (fun hH => ?_)]
                      have h := hH n hR.nf.2.2.2.1 i (by have := hR.d8; have := hR.fi; omega)
                      unfold homAt homR hdP hoP at h
                      first
                      | (rw [if_pos (show 0 < n by omega), if_pos (show (n : Int) < (Y.dims.length : Int) - 1 by omega)] at h; exact c8 h)
                      | (rw [if_neg (show ¬ 0 < n by omega), if_pos (show (n : Int) < (Y.dims.length : Int) - 1 by omega)] at h; exact c8 h)
                      | (rw [if_pos (show 0 < n by omega), if_neg (show ¬ (n : Int) < (Y.dims.length : Int) - 1 by omega)] at h; exact c8 h)
                      | (rw [if_neg (show ¬ 0 < n by omega), if_neg (show ¬ (n : Int) < (Y.dims.length : Int) - 1 by omega)] at h; exact c8 h)
                    exact ⟨by rw [hz], eB⟩
                  · try simp only [decide_eq_true_eq, decide_eq_false_iff_not, beq_iff_eq, beq_eq_false_iff_ne, bne_iff_ne, ne_eq, Bool.not_eq_true', Bool.not_eq_false', Bool.and_eq_true, Bool.or_eq_true, bne_eq_false_iff_eq] at c8
                    refine den_skip ?_
                    refine den_blk ?_
                    refine den_region TTok ?_
                    intro K hK
                    simp -implicitDefEqProofs (disch := first | decide | assumption | omega) only [go_sem, RdS.len hdX sl22, RdS.idx hdX sl22, R1.intB hdX (Ext.pres eB), RdS.cells hdX, RdS.len hmX sl23, RdS.idx hmX sl23, RdS.cellB hmX (Ext.pres eB), RdS.cells hmX, RdS.len hdY sl22, RdS.idx hdY sl22, R1.intB hdY (Ext.pres eB), RdS.cells hdY, RdS.len hmY sl23, RdS.idx hmY sl23, RdS.cellB hmY (Ext.pres eB), RdS.cells hmY, RdS.len rf sl23, RdS.idx rf sl23, RdS.cellB rf (Ext.pres eB), RdS.cells rf, RdS.len rg sl23, RdS.idx rg sl23, RdS.cellB rg (Ext.pres eB), RdS.cells rg, RdS.len rq sl23, RdS.idx rq sl23, RdS.cellB rq (Ext.pres eB), RdS.cells rq, RdS.len hr18 sl56, RdS.idx hr18 sl56, RdS.cellB hr18 (Ext.pres eB), RdS.cells hr18, RdS.len hr19 sl22, RdS.idx hr19 sl22, R1.intB hr19 (Ext.pres eB), RdS.cells hr19, RdS.len hr24 sl56, RdS.idx hr24 sl56, RdS.cellB hr24 (Ext.pres eB), RdS.cells hr24, RdS.len hr25 sl22, RdS.idx hr25 sl22, R1.intB hr25 (Ext.pres eB), RdS.cells hr25, RdS.len hr26 sl56, RdS.idx hr26 sl56, RdS.cellB hr26 (Ext.pres eB), RdS.cells hr26, RdS.len hr27 sl22, RdS.idx hr27 sl22, R1.intB hr27 (Ext.pres eB), RdS.cells hr27, RdS.len (OS.rd how12_3_0) sl56, RdS.idx (OS.rd how12_3_0) sl56, RdS.cellN (OS.rd how12_3_0), RdS.cells (OS.rd how12_3_0), BoxAt.cell hb0_0, BoxAt.cell hb0_1, RdS.len ho1_4 sl114, RdS.idx ho1_4 sl114, RdS.cellB ho1_4 (Ext.pres xr1), RdS.cells ho1_4, RdS.len ho5_4 sl114, RdS.idx ho5_4 sl114, RdS.cellB ho5_4 (Ext.pres xr7), RdS.cells ho5_4, RdS.len hr16 sl22, RdS.idx hr16 sl22, R1.intB hr16 (Ext.pres xr17), RdS.cells hr16, wrap_id, Int.add_sub_cancel]
                    refine hK _ _ ?_
                    clear hK K
                    refine den_stop ?_
                    exact ⟨i + 1, by simp [HasL, puts_at], ⟨by omega, fun j hj => (Nat.lt_succ_iff_lt_or_eq.1 hj).elim (hy j) (fun e => by subst e; exact by unfold homAt homR hdP hoP; first | (rw [if_pos (show 0 < n by omega), if_pos (show (n : Int) < (Y.dims.length : Int) - 1 by omega)]; exact c8) | (rw [if_neg (show ¬ 0 < n by omega), if_pos (show (n : Int) < (Y.dims.length : Int) - 1 by omega)]; exact c8) | (rw [if_pos (show 0 < n by omega), if_neg (show ¬ (n : Int) < (Y.dims.length : Int) - 1 by omega)]; exact c8) | (rw [if_neg (show ¬ 0 < n by omega), if_neg (show ¬ (n : Int) < (Y.dims.length : Int) - 1 by omega)]; exact c8)), cL13⟩, by first | omega | (dsimp only; omega)⟩
              · try simp only [decide_eq_true_eq, decide_eq_false_iff_not, beq_iff_eq, beq_eq_false_iff_ne, bne_iff_ne, ne_eq, Bool.not_eq_true', Bool.not_eq_false', Bool.and_eq_true, Bool.or_eq_true, bne_eq_false_iff_eq] at c5
                refine den_skip ?_
                refine den_seq ?_
                refine den_seq ?_
                refine den_region TTok ?_
                intro K hK
                simp -implicitDefEqProofs (disch := first | decide | assumption | omega) only [go_sem, RdS.len hdX sl22, RdS.idx hdX sl22, R1.intB hdX (Ext.pres eB), RdS.cells hdX, RdS.len hmX sl23, RdS.idx hmX sl23, RdS.cellB hmX (Ext.pres eB), RdS.cells hmX, RdS.len hdY sl22, RdS.idx hdY sl22, R1.intB hdY (Ext.pres eB), RdS.cells hdY, RdS.len hmY sl23, RdS.idx hmY sl23, RdS.cellB hmY (Ext.pres eB), RdS.cells hmY, RdS.len rf sl23, RdS.idx rf sl23, RdS.cellB rf (Ext.pres eB), RdS.cells rf, RdS.len rg sl23, RdS.idx rg sl23, RdS.cellB rg (Ext.pres eB), RdS.cells rg, RdS.len rq sl23, RdS.idx rq sl23, RdS.cellB rq (Ext.pres eB), RdS.cells rq, RdS.len (OS.rd how12_3_0) sl56, RdS.idx (OS.rd how12_3_0) sl56, RdS.cellN (OS.rd how12_3_0), RdS.cells (OS.rd how12_3_0), RdS.len (OS.rd ho15_3) sl22, RdS.idx (OS.rd ho15_3) sl22, R1.intN (OS.rd ho15_3), RdS.cells (OS.rd ho15_3), BoxAt.cell hb0_0, BoxAt.cell hb0_1, RdS.len ho1_4 sl114, RdS.idx ho1_4 sl114, RdS.cellB ho1_4 (Ext.pres xr1), RdS.cells ho1_4, RdS.len ho5_4 sl114, RdS.idx ho5_4 sl114, RdS.cellB ho5_4 (Ext.pres xr7), RdS.cells ho5_4, RdS.len hr16 sl22, RdS.idx hr16 sl22, R1.intB hr16 (Ext.pres xr17), RdS.cells hr16, wrap_id, Int.add_sub_cancel]
                refine hK _ _ ?_
                clear hK K
                refine den_cond rfl (fun c9 => ?_) (fun c9 => ?_)
                · try simp only [decide_eq_true_eq, decide_eq_false_iff_not, beq_iff_eq, beq_eq_false_iff_ne, bne_iff_ne, ne_eq, Bool.not_eq_true', Bool.not_eq_false', Bool.and_eq_true, Bool.or_eq_true, bne_eq_false_iff_eq] at c9
                  have hdu := hR.du (by omega)
                  have hho := hR.ho (by omega)
                  have hvv : 0 ≤ (n : Int) - 1 ∧ (n : Int) - 1 ≤ (X.dims.length : Int) - 1 → ((diffP X (n : Int) (unitP (X.dims.getD n 0).toNat i)).length : Int) = X.dims.getD ((n : Int) - 1).toNat 0 ∧ Bnd X.p (diffP X (n : Int) (unitP (X.dims.getD n 0).toNat i)) := fun _ => hdu
                  refine den_draw TTok mixed [] [(0, true), (1, true), (2, true), (3, true), (4, true), (5, true), (6, true), (7, true), (8, true), (9, true), (10, false), (11, false), (12, false), (13, true)] (by kernel_rfl) ?_
                  intro K hK
                  simp -implicitDefEqProofs (disch := first | decide | assumption | omega) only [go_sem, ld30, RdS.len hdX sl22, RdS.idx hdX sl22, R1.intB hdX (Ext.pres eB), RdS.cells hdX, RdS.len hmX sl23, RdS.idx hmX sl23, RdS.cellB hmX (Ext.pres eB), RdS.cells hmX, RdS.len hdY sl22, RdS.idx hdY sl22, R1.intB hdY (Ext.pres eB), RdS.cells hdY, RdS.len hmY sl23, RdS.idx hmY sl23, RdS.cellB hmY (Ext.pres eB), RdS.cells hmY, RdS.len rf sl23, RdS.idx rf sl23, RdS.cellB rf (Ext.pres eB), RdS.cells rf, RdS.len rg sl23, RdS.idx rg sl23, RdS.cellB rg (Ext.pres eB), RdS.cells rg, RdS.len rq sl23, RdS.idx rq sl23, RdS.cellB rq (Ext.pres eB), RdS.cells rq, RdS.len (OS.rd how12_3_0) sl56, RdS.idx (OS.rd how12_3_0) sl56, RdS.cellN (OS.rd how12_3_0), RdS.cells (OS.rd how12_3_0), RdS.len (OS.rd ho15_3) sl22, RdS.idx (OS.rd ho15_3) sl22, R1.intN (OS.rd ho15_3), RdS.cells (OS.rd ho15_3), BoxAt.cell hb0_0, BoxAt.cell hb0_1, RdS.len ho1_4 sl114, RdS.idx ho1_4 sl114, RdS.cellB ho1_4 (Ext.pres xr1), RdS.cells ho1_4, RdS.len ho5_4 sl114, RdS.idx ho5_4 sl114, RdS.cellB ho5_4 (Ext.pres xr7), RdS.cells ho5_4, RdS.len hr16 sl22, RdS.idx hr16 sl22, R1.intB hr16 (Ext.pres xr17), RdS.cells hr16, wrap_id, Int.add_sub_cancel]
                  try simp -implicitDefEqProofs (disch := first | decide | assumption | omega) only [go_sem, RdS.len hdX sl22, RdS.idx hdX sl22, R1.intB hdX (Ext.pres eB), RdS.cells hdX, RdS.len hmX sl23, RdS.idx hmX sl23, RdS.cellB hmX (Ext.pres eB), RdS.cells hmX, RdS.len hdY sl22, RdS.idx hdY sl22, R1.intB hdY (Ext.pres eB), RdS.cells hdY, RdS.len hmY sl23, RdS.idx hmY sl23, RdS.cellB hmY (Ext.pres eB), RdS.cells hmY, RdS.len rf sl23, RdS.idx rf sl23, RdS.cellB rf (Ext.pres eB), RdS.cells rf, RdS.len rg sl23, RdS.idx rg sl23, RdS.cellB rg (Ext.pres eB), RdS.cells rg, RdS.len rq sl23, RdS.idx rq sl23, RdS.cellB rq (Ext.pres eB), RdS.cells rq, RdS.len (OS.rd how12_3_0) sl56, RdS.idx (OS.rd how12_3_0) sl56, RdS.cellN (OS.rd how12_3_0), RdS.cells (OS.rd how12_3_0), RdS.len (OS.rd ho15_3) sl22, RdS.idx (OS.rd ho15_3) sl22, R1.intN (OS.rd ho15_3), RdS.cells (OS.rd ho15_3), BoxAt.cell hb0_0, BoxAt.cell hb0_1, RdS.len ho1_4 sl114, RdS.idx ho1_4 sl114, RdS.cellB ho1_4 (Ext.pres xr1), RdS.cells ho1_4, RdS.len ho5_4 sl114, RdS.idx ho5_4 sl114, RdS.cellB ho5_4 (Ext.pres xr7), RdS.cells ho5_4, RdS.len hr16 sl22, RdS.idx hr16 sl22, R1.intB hr16 (Ext.pres xr17), RdS.cells hr16, wrap_id, Int.add_sub_cancel]
                  refine CallA.mono (diff_ok _ X _ _ _ _ ⟨_, _, rfl, (RdS.pres hdX (Ext.pres eB)), (RdS.pres hmX (Ext.pres eB))⟩ (RdS.pres hr16 (Ext.pres xr17)) hX.pre (by rw [hur]; exact hR.u.2) (fun _ _ => by rw [hur]; exact hR.u.1)) ?_
                  intro v19_10_1 h19_10_1
                  rintro ⟨f19_10_1, ho19_10_1, hf19_10_1, e19_10_1⟩
                  replace how12_3_0 := OS.ext how12_3_0 e19_10_1
                  replace ho15_3 := OS.ext ho15_3 e19_10_1
                  replace hb0_0 := BoxAt.ext hb0_0 e19_10_1
                  replace hb0_1 := BoxAt.ext hb0_1 e19_10_1
                  have := Ext.size e19_10_1
                  replace eB := Ext.trans eB e19_10_1
                  replace xr1 := Ext.trans xr1 e19_10_1
                  replace xr7 := Ext.trans xr7 e19_10_1
                  replace xr17 := Ext.trans xr17 e19_10_1
                  replace cL9 := Ext.trans cL9 e19_10_1
                  replace cL13 := Ext.trans cL13 e19_10_1
                  rw [hur] at ho19_10_1
                  have hlho19_10_1 := OS.lt ho19_10_1
                  try simp (disch := decide) only [outv_some, outv_none, put_puts]
                  refine plK_pres (Ext.pres e19_10_1) ?_
                  try simp -implicitDefEqProofs (disch := first | decide | assumption | omega) only [go_sem, RdS.len hdX sl22, RdS.idx hdX sl22, R1.intB hdX (Ext.pres eB), RdS.cells hdX, RdS.len hmX sl23, RdS.idx hmX sl23, RdS.cellB hmX (Ext.pres eB), RdS.cells hmX, RdS.len hdY sl22, RdS.idx hdY sl22, R1.intB hdY (Ext.pres eB), RdS.cells hdY, RdS.len hmY sl23, RdS.idx hmY sl23, RdS.cellB hmY (Ext.pres eB), RdS.cells hmY, RdS.len rf sl23, RdS.idx rf sl23, RdS.cellB rf (Ext.pres eB), RdS.cells rf, RdS.len rg sl23, RdS.idx rg sl23, RdS.cellB rg (Ext.pres eB), RdS.cells rg, RdS.len rq sl23, RdS.idx rq sl23, RdS.cellB rq (Ext.pres eB), RdS.cells rq, RdS.len (OS.rd how12_3_0) sl56, RdS.idx (OS.rd how12_3_0) sl56, RdS.cellN (OS.rd how12_3_0), RdS.cells (OS.rd how12_3_0), RdS.len (OS.rd ho15_3) sl22, RdS.idx (OS.rd ho15_3) sl22, R1.intN (OS.rd ho15_3), RdS.cells (OS.rd ho15_3), RdS.len (OS.rd ho19_10_1) sl22, RdS.idx (OS.rd ho19_10_1) sl22, R1.intN (OS.rd ho19_10_1), RdS.cells (OS.rd ho19_10_1), BoxAt.cell hb0_0, BoxAt.cell hb0_1, RdS.len ho1_4 sl114, RdS.idx ho1_4 sl114, RdS.cellB ho1_4 (Ext.pres xr1), RdS.cells ho1_4, RdS.len ho5_4 sl114, RdS.idx ho5_4 sl114, RdS.cellB ho5_4 (Ext.pres xr7), RdS.cells ho5_4, RdS.len hr16 sl22, RdS.idx hr16 sl22, R1.intB hr16 (Ext.pres xr17), RdS.cells hr16, wrap_id, Int.add_sub_cancel]
                  try simp -implicitDefEqProofs (disch := first | decide | assumption | omega) only [go_sem, RdS.len hdX sl22, RdS.idx hdX sl22, R1.intB hdX (Ext.pres eB), RdS.cells hdX, RdS.len hmX sl23, RdS.idx hmX sl23, RdS.cellB hmX (Ext.pres eB), RdS.cells hmX, RdS.len hdY sl22, RdS.idx hdY sl22, R1.intB hdY (Ext.pres eB), RdS.cells hdY, RdS.len hmY sl23, RdS.idx hmY sl23, RdS.cellB hmY (Ext.pres eB), RdS.cells hmY, RdS.len rf sl23, RdS.idx rf sl23, RdS.cellB rf (Ext.pres eB), RdS.cells rf, RdS.len rg sl23, RdS.idx rg sl23, RdS.cellB rg (Ext.pres eB), RdS.cells rg, RdS.len rq sl23, RdS.idx rq sl23, RdS.cellB rq (Ext.pres eB), RdS.cells rq, RdS.len (OS.rd how12_3_0) sl56, RdS.idx (OS.rd how12_3_0) sl56, RdS.cellN (OS.rd how12_3_0), RdS.cells (OS.rd how12_3_0), RdS.len (OS.rd ho15_3) sl22, RdS.idx (OS.rd ho15_3) sl22, R1.intN (OS.rd ho15_3), RdS.cells (OS.rd ho15_3), RdS.len (OS.rd ho19_10_1) sl22, RdS.idx (OS.rd ho19_10_1) sl22, R1.intN (OS.rd ho19_10_1), RdS.cells (OS.rd ho19_10_1), BoxAt.cell hb0_0, BoxAt.cell hb0_1, RdS.len ho1_4 sl114, RdS.idx ho1_4 sl114, RdS.cellB ho1_4 (Ext.pres xr1), RdS.cells ho1_4, RdS.len ho5_4 sl114, RdS.idx ho5_4 sl114, RdS.cellB ho5_4 (Ext.pres xr7), RdS.cells ho5_4, RdS.len hr16 sl22, RdS.idx hr16 sl22, R1.intB hr16 (Ext.pres xr17), RdS.cells hr16, wrap_id, Int.add_sub_cancel]
                  refine CallA.mono (iApp_ok _ _ _ _ X Y q (1 : Int) ((n : Int) - (1 : Int)) (diffP X (n : Int) (unitP (X.dims.getD n 0).toNat i)) _ ⟨_, _, rfl, (RdS.pres hdX (Ext.pres eB)), (RdS.pres hmX (Ext.pres eB))⟩ ⟨_, _, rfl, (RdS.pres hdY (Ext.pres eB)), (RdS.pres hmY (Ext.pres eB))⟩ (RdS.pres rq (Ext.pres eB)) (OS.rd ho19_10_1) hX hY hF (by omega) (by omega) hvv) ?_
                  intro vw19_11_1_0 h19_11_1
                  rintro ⟨zvw19_11_1_0, fw19_11_1_0, rfl, how19_11_1_0, hfw19_11_1_0, e19_11_1⟩
                  replace how12_3_0 := OS.ext how12_3_0 e19_11_1
                  replace ho15_3 := OS.ext ho15_3 e19_11_1
                  replace ho19_10_1 := OS.ext ho19_10_1 e19_11_1
                  replace hb0_0 := BoxAt.ext hb0_0 e19_11_1
                  replace hb0_1 := BoxAt.ext hb0_1 e19_11_1
                  have := Ext.size e19_11_1
                  replace eB := Ext.trans eB e19_11_1
                  replace xr1 := Ext.trans xr1 e19_11_1
                  replace xr7 := Ext.trans xr7 e19_11_1
                  replace xr17 := Ext.trans xr17 e19_11_1
                  replace cL9 := Ext.trans cL9 e19_11_1
                  replace cL13 := Ext.trans cL13 e19_11_1
                  rw [appP, if_pos (in3_iff.2 ⟨by omega, by omega⟩)] at how19_11_1_0
                  have hlhow19_11_1_0 := OS.lt how19_11_1_0
                  try simp (disch := decide) only [outv_some, outv_none, put_puts]
                  refine plK_pres (Ext.pres e19_11_1) ?_
                  try simp -implicitDefEqProofs (disch := first | decide | assumption | omega) only [go_sem, RdS.len hdX sl22, RdS.idx hdX sl22, R1.intB hdX (Ext.pres eB), RdS.cells hdX, RdS.len hmX sl23, RdS.idx hmX sl23, RdS.cellB hmX (Ext.pres eB), RdS.cells hmX, RdS.len hdY sl22, RdS.idx hdY sl22, R1.intB hdY (Ext.pres eB), RdS.cells hdY, RdS.len hmY sl23, RdS.idx hmY sl23, RdS.cellB hmY (Ext.pres eB), RdS.cells hmY, RdS.len rf sl23, RdS.idx rf sl23, RdS.cellB rf (Ext.pres eB), RdS.cells rf, RdS.len rg sl23, RdS.idx rg sl23, RdS.cellB rg (Ext.pres eB), RdS.cells rg, RdS.len rq sl23, RdS.idx rq sl23, RdS.cellB rq (Ext.pres eB), RdS.cells rq, RdS.len (OS.rd how12_3_0) sl56, RdS.idx (OS.rd how12_3_0) sl56, RdS.cellN (OS.rd how12_3_0), RdS.cells (OS.rd how12_3_0), RdS.len (OS.rd ho15_3) sl22, RdS.idx (OS.rd ho15_3) sl22, R1.intN (OS.rd ho15_3), RdS.cells (OS.rd ho15_3), RdS.len (OS.rd ho19_10_1) sl22, RdS.idx (OS.rd ho19_10_1) sl22, R1.intN (OS.rd ho19_10_1), RdS.cells (OS.rd ho19_10_1), RdS.len (OS.rd how19_11_1_0) sl22, RdS.idx (OS.rd how19_11_1_0) sl22, R1.intN (OS.rd how19_11_1_0), RdS.cells (OS.rd how19_11_1_0), BoxAt.cell hb0_0, BoxAt.cell hb0_1, RdS.len ho1_4 sl114, RdS.idx ho1_4 sl114, RdS.cellB ho1_4 (Ext.pres xr1), RdS.cells ho1_4, RdS.len ho5_4 sl114, RdS.idx ho5_4 sl114, RdS.cellB ho5_4 (Ext.pres xr7), RdS.cells ho5_4, RdS.len hr16 sl22, RdS.idx hr16 sl22, R1.intB hr16 (Ext.pres xr17), RdS.cells hr16, wrap_id, Int.add_sub_cancel]
                  try simp -implicitDefEqProofs (disch := first | decide | assumption | omega) only [go_sem, RdS.len hdX sl22, RdS.idx hdX sl22, R1.intB hdX (Ext.pres eB), RdS.cells hdX, RdS.len hmX sl23, RdS.idx hmX sl23, RdS.cellB hmX (Ext.pres eB), RdS.cells hmX, RdS.len hdY sl22, RdS.idx hdY sl22, R1.intB hdY (Ext.pres eB), RdS.cells hdY, RdS.len hmY sl23, RdS.idx hmY sl23, RdS.cellB hmY (Ext.pres eB), RdS.cells hmY, RdS.len rf sl23, RdS.idx rf sl23, RdS.cellB rf (Ext.pres eB), RdS.cells rf, RdS.len rg sl23, RdS.idx rg sl23, RdS.cellB rg (Ext.pres eB), RdS.cells rg, RdS.len rq sl23, RdS.idx rq sl23, RdS.cellB rq (Ext.pres eB), RdS.cells rq, RdS.len (OS.rd how12_3_0) sl56, RdS.idx (OS.rd how12_3_0) sl56, RdS.cellN (OS.rd how12_3_0), RdS.cells (OS.rd how12_3_0), RdS.len (OS.rd ho15_3) sl22, RdS.idx (OS.rd ho15_3) sl22, R1.intN (OS.rd ho15_3), RdS.cells (OS.rd ho15_3), RdS.len (OS.rd ho19_10_1) sl22, RdS.idx (OS.rd ho19_10_1) sl22, R1.intN (OS.rd ho19_10_1), RdS.cells (OS.rd ho19_10_1), RdS.len (OS.rd how19_11_1_0) sl22, RdS.idx (OS.rd how19_11_1_0) sl22, R1.intN (OS.rd how19_11_1_0), RdS.cells (OS.rd how19_11_1_0), BoxAt.cell hb0_0, BoxAt.cell hb0_1, RdS.len ho1_4 sl114, RdS.idx ho1_4 sl114, RdS.cellB ho1_4 (Ext.pres xr1), RdS.cells ho1_4, RdS.len ho5_4 sl114, RdS.idx ho5_4 sl114, RdS.cellB ho5_4 (Ext.pres xr7), RdS.cells ho5_4, RdS.len hr16 sl22, RdS.idx hr16 sl22, R1.intB hr16 (Ext.pres xr17), RdS.cells hr16, wrap_id, Int.add_sub_cancel]
                  have hA : ((List.replicate ((dimP Y (n : Int))).toNat (0 : Int)).length : Int) = dimP Y (n : Int) ∧ Bnd X.p (List.replicate ((dimP Y (n : Int))).toNat (0 : Int)) := by first | (have h := hR.hd; rw [hdP, if_pos (show (n : Int) < (Y.dims.length : Int) - 1 by omega)] at h; exact h) | (have h := hR.hd; rw [hdP, if_neg (show ¬ (n : Int) < (Y.dims.length : Int) - 1 by omega)] at h; exact h)
                  have hto : ((List.replicate ((dimP Y (n : Int))).toNat (0 : Int)).length = (imgP X Y q 1 ((n : Int) - 1) (diffP X (n : Int) (unitP (X.dims.getD n 0).toNat i))).length ∧ (List.replicate ((dimP Y (n : Int))).toNat (0 : Int)).length ≤ 8) ∧ Bnd X.p (List.replicate ((dimP Y (n : Int))).toNat (0 : Int)) ∧ Bnd X.p (imgP X Y q 1 ((n : Int) - 1) (diffP X (n : Int) (unitP (X.dims.getD n 0).toNat i))) := ⟨⟨by have h1 := hA.1; have h2 : ((imgP X Y q 1 ((n : Int) - 1) (diffP X (n : Int) (unitP (X.dims.getD n 0).toNat i))).length : Int) = dimP Y (n : Int) := hho.1; omega, by have h1 := hA.1; omega⟩, hA.2, hho.2⟩
                  refine CallA.mono (iTog_ok _ _ X.p (List.replicate ((dimP Y (n : Int))).toNat 0) (imgP X Y q 1 ((n : Int) - 1) (diffP X (n : Int) (unitP (X.dims.getD n 0).toNat i))) (1 : Int) _ (OS.rd ho15_3) (OS.rd how19_11_1_0) (by omega) hto.1 hto.2.1 hto.2.2 (by omega)) ?_
                  intro vw19_12_1_0 h19_12_1
                  rintro ⟨zvw19_12_1_0, fw19_12_1_0, rfl, how19_12_1_0, hfw19_12_1_0, e19_12_1⟩
                  replace how12_3_0 := OS.ext how12_3_0 e19_12_1
                  replace ho15_3 := OS.ext ho15_3 e19_12_1
                  replace ho19_10_1 := OS.ext ho19_10_1 e19_12_1
                  replace how19_11_1_0 := OS.ext how19_11_1_0 e19_12_1
                  replace hb0_0 := BoxAt.ext hb0_0 e19_12_1
                  replace hb0_1 := BoxAt.ext hb0_1 e19_12_1
                  have := Ext.size e19_12_1
                  replace eB := Ext.trans eB e19_12_1
                  replace xr1 := Ext.trans xr1 e19_12_1
                  replace xr7 := Ext.trans xr7 e19_12_1
                  replace xr17 := Ext.trans xr17 e19_12_1
                  replace cL9 := Ext.trans cL9 e19_12_1
                  replace cL13 := Ext.trans cL13 e19_12_1
                  have hlhow19_12_1_0 := OS.lt how19_12_1_0
                  try simp (disch := decide) only [outv_some, outv_none, put_puts]
                  refine plK_pres (Ext.pres e19_12_1) ?_
                  try simp -implicitDefEqProofs (disch := first | decide | assumption | omega) only [go_sem, RdS.len hdX sl22, RdS.idx hdX sl22, R1.intB hdX (Ext.pres eB), RdS.cells hdX, RdS.len hmX sl23, RdS.idx hmX sl23, RdS.cellB hmX (Ext.pres eB), RdS.cells hmX, RdS.len hdY sl22, RdS.idx hdY sl22, R1.intB hdY (Ext.pres eB), RdS.cells hdY, RdS.len hmY sl23, RdS.idx hmY sl23, RdS.cellB hmY (Ext.pres eB), RdS.cells hmY, RdS.len rf sl23, RdS.idx rf sl23, RdS.cellB rf (Ext.pres eB), RdS.cells rf, RdS.len rg sl23, RdS.idx rg sl23, RdS.cellB rg (Ext.pres eB), RdS.cells rg, RdS.len rq sl23, RdS.idx rq sl23, RdS.cellB rq (Ext.pres eB), RdS.cells rq, RdS.len (OS.rd how12_3_0) sl56, RdS.idx (OS.rd how12_3_0) sl56, RdS.cellN (OS.rd how12_3_0), RdS.cells (OS.rd how12_3_0), RdS.len (OS.rd ho15_3) sl22, RdS.idx (OS.rd ho15_3) sl22, R1.intN (OS.rd ho15_3), RdS.cells (OS.rd ho15_3), RdS.len (OS.rd ho19_10_1) sl22, RdS.idx (OS.rd ho19_10_1) sl22, R1.intN (OS.rd ho19_10_1), RdS.cells (OS.rd ho19_10_1), RdS.len (OS.rd how19_11_1_0) sl22, RdS.idx (OS.rd how19_11_1_0) sl22, R1.intN (OS.rd how19_11_1_0), RdS.cells (OS.rd how19_11_1_0), RdS.len (OS.rd how19_12_1_0) sl22, RdS.idx (OS.rd how19_12_1_0) sl22, R1.intN (OS.rd how19_12_1_0), RdS.cells (OS.rd how19_12_1_0), BoxAt.cell hb0_0, BoxAt.cell hb0_1, RdS.len ho1_4 sl114, RdS.idx ho1_4 sl114, RdS.cellB ho1_4 (Ext.pres xr1), RdS.cells ho1_4, RdS.len ho5_4 sl114, RdS.idx ho5_4 sl114, RdS.cellB ho5_4 (Ext.pres xr7), RdS.cells ho5_4, RdS.len hr16 sl22, RdS.idx hr16 sl22, R1.intB hr16 (Ext.pres xr17), RdS.cells hr16, wrap_id, Int.add_sub_cancel]
                  refine hK _ _ ?_
                  clear hK K
                  refine den_seq ?_
                  have hto := hR.fg
                  refine den_draw TTok mixed [] [(0, true), (1, true), (2, true), (3, true), (4, true), (5, true), (6, true), (7, true), (8, true), (9, true), (10, true), (11, true), (12, true), (13, true), (14, true), (15, true), (16, true), (18, true), (17, false), (19, false), (20, true)] (by kernel_rfl) ?_
                  intro K hK
                  have hr28 := RdS.rowN rf n (by omega)
                  have hlhr28 := RdS.le hr28
                  have hr29 := RdS.rowN hr28 i (by omega)
                  have hlhr29 := RdS.le hr29
                  have hr30 := RdS.rowN rg n (by omega)
                  have hlhr30 := RdS.le hr30
                  have hr31 := RdS.rowN hr30 i (by omega)
                  have hlhr31 := RdS.le hr31
                  simp -implicitDefEqProofs (disch := first | decide | assumption | omega) only [go_sem, ld56, ld22, RdS.len hdX sl22, RdS.idx hdX sl22, R1.intB hdX (Ext.pres eB), RdS.cells hdX, RdS.len hmX sl23, RdS.idx hmX sl23, RdS.cellB hmX (Ext.pres eB), RdS.cells hmX, RdS.len hdY sl22, RdS.idx hdY sl22, R1.intB hdY (Ext.pres eB), RdS.cells hdY, RdS.len hmY sl23, RdS.idx hmY sl23, RdS.cellB hmY (Ext.pres eB), RdS.cells hmY, RdS.len rf sl23, RdS.idx rf sl23, RdS.cellB rf (Ext.pres eB), RdS.cells rf, RdS.len rg sl23, RdS.idx rg sl23, RdS.cellB rg (Ext.pres eB), RdS.cells rg, RdS.len rq sl23, RdS.idx rq sl23, RdS.cellB rq (Ext.pres eB), RdS.cells rq, RdS.len hr28 sl56, RdS.idx hr28 sl56, RdS.cellB hr28 (Ext.pres eB), RdS.cells hr28, RdS.len hr29 sl22, RdS.idx hr29 sl22, R1.intB hr29 (Ext.pres eB), RdS.cells hr29, RdS.len hr30 sl56, RdS.idx hr30 sl56, RdS.cellB hr30 (Ext.pres eB), RdS.cells hr30, RdS.len hr31 sl22, RdS.idx hr31 sl22, R1.intB hr31 (Ext.pres eB), RdS.cells hr31, RdS.len (OS.rd how12_3_0) sl56, RdS.idx (OS.rd how12_3_0) sl56, RdS.cellN (OS.rd how12_3_0), RdS.cells (OS.rd how12_3_0), RdS.len (OS.rd how19_12_1_0) sl22, RdS.idx (OS.rd how19_12_1_0) sl22, R1.intN (OS.rd how19_12_1_0), RdS.cells (OS.rd how19_12_1_0), BoxAt.cell hb0_0, BoxAt.cell hb0_1, RdS.len ho1_4 sl114, RdS.idx ho1_4 sl114, RdS.cellB ho1_4 (Ext.pres xr1), RdS.cells ho1_4, RdS.len ho5_4 sl114, RdS.idx ho5_4 sl114, RdS.cellB ho5_4 (Ext.pres xr7), RdS.cells ho5_4, RdS.len hr16 sl22, RdS.idx hr16 sl22, R1.intB hr16 (Ext.pres xr17), RdS.cells hr16, wrap_id, Int.add_sub_cancel]
                  try simp -implicitDefEqProofs (disch := first | decide | assumption | omega) only [go_sem, RdS.len hdX sl22, RdS.idx hdX sl22, R1.intB hdX (Ext.pres eB), RdS.cells hdX, RdS.len hmX sl23, RdS.idx hmX sl23, RdS.cellB hmX (Ext.pres eB), RdS.cells hmX, RdS.len hdY sl22, RdS.idx hdY sl22, R1.intB hdY (Ext.pres eB), RdS.cells hdY, RdS.len hmY sl23, RdS.idx hmY sl23, RdS.cellB hmY (Ext.pres eB), RdS.cells hmY, RdS.len rf sl23, RdS.idx rf sl23, RdS.cellB rf (Ext.pres eB), RdS.cells rf, RdS.len rg sl23, RdS.idx rg sl23, RdS.cellB rg (Ext.pres eB), RdS.cells rg, RdS.len rq sl23, RdS.idx rq sl23, RdS.cellB rq (Ext.pres eB), RdS.cells rq, RdS.len hr28 sl56, RdS.idx hr28 sl56, RdS.cellB hr28 (Ext.pres eB), RdS.cells hr28, RdS.len hr29 sl22, RdS.idx hr29 sl22, R1.intB hr29 (Ext.pres eB), RdS.cells hr29, RdS.len hr30 sl56, RdS.idx hr30 sl56, RdS.cellB hr30 (Ext.pres eB), RdS.cells hr30, RdS.len hr31 sl22, RdS.idx hr31 sl22, R1.intB hr31 (Ext.pres eB), RdS.cells hr31, RdS.len (OS.rd how12_3_0) sl56, RdS.idx (OS.rd how12_3_0) sl56, RdS.cellN (OS.rd how12_3_0), RdS.cells (OS.rd how12_3_0), RdS.len (OS.rd how19_12_1_0) sl22, RdS.idx (OS.rd how19_12_1_0) sl22, R1.intN (OS.rd how19_12_1_0), RdS.cells (OS.rd how19_12_1_0), BoxAt.cell hb0_0, BoxAt.cell hb0_1, RdS.len ho1_4 sl114, RdS.idx ho1_4 sl114, RdS.cellB ho1_4 (Ext.pres xr1), RdS.cells ho1_4, RdS.len ho5_4 sl114, RdS.idx ho5_4 sl114, RdS.cellB ho5_4 (Ext.pres xr7), RdS.cells ho5_4, RdS.len hr16 sl22, RdS.idx hr16 sl22, R1.intB hr16 (Ext.pres xr17), RdS.cells hr16, wrap_id, Int.add_sub_cancel]
                  refine CallA.mono (iTog_ok _ _ X.p (((f).getD n default).getD i default) (((g).getD n default).getD i default) (X.p - (1 : Int)) _ (RdS.pres hr29 (Ext.pres eB)) (RdS.pres hr31 (Ext.pres eB)) (by omega) hto.1 hto.2.1 hto.2.2 (by omega)) ?_
                  intro vw20_17_2_0 h20_17_2
                  rintro ⟨zvw20_17_2_0, fw20_17_2_0, rfl, how20_17_2_0, hfw20_17_2_0, e20_17_2⟩
                  replace how12_3_0 := OS.ext how12_3_0 e20_17_2
                  replace how19_12_1_0 := OS.ext how19_12_1_0 e20_17_2
                  replace hb0_0 := BoxAt.ext hb0_0 e20_17_2
                  replace hb0_1 := BoxAt.ext hb0_1 e20_17_2
                  have := Ext.size e20_17_2
                  replace eB := Ext.trans eB e20_17_2
                  replace xr1 := Ext.trans xr1 e20_17_2
                  replace xr7 := Ext.trans xr7 e20_17_2
                  replace xr17 := Ext.trans xr17 e20_17_2
                  replace cL9 := Ext.trans cL9 e20_17_2
                  replace cL13 := Ext.trans cL13 e20_17_2
                  have hlhow20_17_2_0 := OS.lt how20_17_2_0
                  try simp (disch := decide) only [outv_some, outv_none, put_puts]
                  refine plK_pres (Ext.pres e20_17_2) ?_
                  try simp -implicitDefEqProofs (disch := first | decide | assumption | omega) only [go_sem, RdS.len hdX sl22, RdS.idx hdX sl22, R1.intB hdX (Ext.pres eB), RdS.cells hdX, RdS.len hmX sl23, RdS.idx hmX sl23, RdS.cellB hmX (Ext.pres eB), RdS.cells hmX, RdS.len hdY sl22, RdS.idx hdY sl22, R1.intB hdY (Ext.pres eB), RdS.cells hdY, RdS.len hmY sl23, RdS.idx hmY sl23, RdS.cellB hmY (Ext.pres eB), RdS.cells hmY, RdS.len rf sl23, RdS.idx rf sl23, RdS.cellB rf (Ext.pres eB), RdS.cells rf, RdS.len rg sl23, RdS.idx rg sl23, RdS.cellB rg (Ext.pres eB), RdS.cells rg, RdS.len rq sl23, RdS.idx rq sl23, RdS.cellB rq (Ext.pres eB), RdS.cells rq, RdS.len hr28 sl56, RdS.idx hr28 sl56, RdS.cellB hr28 (Ext.pres eB), RdS.cells hr28, RdS.len hr29 sl22, RdS.idx hr29 sl22, R1.intB hr29 (Ext.pres eB), RdS.cells hr29, RdS.len hr30 sl56, RdS.idx hr30 sl56, RdS.cellB hr30 (Ext.pres eB), RdS.cells hr30, RdS.len hr31 sl22, RdS.idx hr31 sl22, R1.intB hr31 (Ext.pres eB), RdS.cells hr31, RdS.len (OS.rd how12_3_0) sl56, RdS.idx (OS.rd how12_3_0) sl56, RdS.cellN (OS.rd how12_3_0), RdS.cells (OS.rd how12_3_0), RdS.len (OS.rd how19_12_1_0) sl22, RdS.idx (OS.rd how19_12_1_0) sl22, R1.intN (OS.rd how19_12_1_0), RdS.cells (OS.rd how19_12_1_0), RdS.len (OS.rd how20_17_2_0) sl22, RdS.idx (OS.rd how20_17_2_0) sl22, R1.intN (OS.rd how20_17_2_0), RdS.cells (OS.rd how20_17_2_0), BoxAt.cell hb0_0, BoxAt.cell hb0_1, RdS.len ho1_4 sl114, RdS.idx ho1_4 sl114, RdS.cellB ho1_4 (Ext.pres xr1), RdS.cells ho1_4, RdS.len ho5_4 sl114, RdS.idx ho5_4 sl114, RdS.cellB ho5_4 (Ext.pres xr7), RdS.cells ho5_4, RdS.len hr16 sl22, RdS.idx hr16 sl22, R1.intB hr16 (Ext.pres xr17), RdS.cells hr16, wrap_id, Int.add_sub_cancel]
                  try simp -implicitDefEqProofs (disch := first | decide | assumption | omega) only [go_sem, RdS.len hdX sl22, RdS.idx hdX sl22, R1.intB hdX (Ext.pres eB), RdS.cells hdX, RdS.len hmX sl23, RdS.idx hmX sl23, RdS.cellB hmX (Ext.pres eB), RdS.cells hmX, RdS.len hdY sl22, RdS.idx hdY sl22, R1.intB hdY (Ext.pres eB), RdS.cells hdY, RdS.len hmY sl23, RdS.idx hmY sl23, RdS.cellB hmY (Ext.pres eB), RdS.cells hmY, RdS.len rf sl23, RdS.idx rf sl23, RdS.cellB rf (Ext.pres eB), RdS.cells rf, RdS.len rg sl23, RdS.idx rg sl23, RdS.cellB rg (Ext.pres eB), RdS.cells rg, RdS.len rq sl23, RdS.idx rq sl23, RdS.cellB rq (Ext.pres eB), RdS.cells rq, RdS.len hr28 sl56, RdS.idx hr28 sl56, RdS.cellB hr28 (Ext.pres eB), RdS.cells hr28, RdS.len hr29 sl22, RdS.idx hr29 sl22, R1.intB hr29 (Ext.pres eB), RdS.cells hr29, RdS.len hr30 sl56, RdS.idx hr30 sl56, RdS.cellB hr30 (Ext.pres eB), RdS.cells hr30, RdS.len hr31 sl22, RdS.idx hr31 sl22, R1.intB hr31 (Ext.pres eB), RdS.cells hr31, RdS.len (OS.rd how12_3_0) sl56, RdS.idx (OS.rd how12_3_0) sl56, RdS.cellN (OS.rd how12_3_0), RdS.cells (OS.rd how12_3_0), RdS.len (OS.rd how19_12_1_0) sl22, RdS.idx (OS.rd how19_12_1_0) sl22, R1.intN (OS.rd how19_12_1_0), RdS.cells (OS.rd how19_12_1_0), RdS.len (OS.rd how20_17_2_0) sl22, RdS.idx (OS.rd how20_17_2_0) sl22, R1.intN (OS.rd how20_17_2_0), RdS.cells (OS.rd how20_17_2_0), BoxAt.cell hb0_0, BoxAt.cell hb0_1, RdS.len ho1_4 sl114, RdS.idx ho1_4 sl114, RdS.cellB ho1_4 (Ext.pres xr1), RdS.cells ho1_4, RdS.len ho5_4 sl114, RdS.idx ho5_4 sl114, RdS.cellB ho5_4 (Ext.pres xr7), RdS.cells ho5_4, RdS.len hr16 sl22, RdS.idx hr16 sl22, R1.intB hr16 (Ext.pres xr17), RdS.cells hr16, wrap_id, Int.add_sub_cancel]
                  refine CallA.mono (equal1_ok _ _ (addRow X.p (X.p - (1 : Int)) (((f).getD n default).getD i default) (((g).getD n default).getD i default)) (addRow X.p (1 : Int) (List.replicate ((dimP Y (n : Int))).toNat 0) (imgP X Y q 1 ((n : Int) - 1) (diffP X (n : Int) (unitP (X.dims.getD n 0).toNat i)))) _ (OS.rd how20_17_2_0) (OS.rd how19_12_1_0) ) ?_
                  intro v_ h20_19_2
                  rintro ⟨rfl, e20_19_2⟩
                  replace how12_3_0 := OS.ext how12_3_0 e20_19_2
                  replace how19_12_1_0 := OS.ext how19_12_1_0 e20_19_2
                  replace how20_17_2_0 := OS.ext how20_17_2_0 e20_19_2
                  replace hb0_0 := BoxAt.ext hb0_0 e20_19_2
                  replace hb0_1 := BoxAt.ext hb0_1 e20_19_2
                  have := Ext.size e20_19_2
                  replace eB := Ext.trans eB e20_19_2
                  replace xr1 := Ext.trans xr1 e20_19_2
                  replace xr7 := Ext.trans xr7 e20_19_2
                  replace xr17 := Ext.trans xr17 e20_19_2
                  replace cL9 := Ext.trans cL9 e20_19_2
                  replace cL13 := Ext.trans cL13 e20_19_2
                  try simp (disch := decide) only [outv_some, outv_none, put_puts]
                  refine plK_pres (Ext.pres e20_19_2) ?_
                  try simp -implicitDefEqProofs (disch := first | decide | assumption | omega) only [go_sem, RdS.len hdX sl22, RdS.idx hdX sl22, R1.intB hdX (Ext.pres eB), RdS.cells hdX, RdS.len hmX sl23, RdS.idx hmX sl23, RdS.cellB hmX (Ext.pres eB), RdS.cells hmX, RdS.len hdY sl22, RdS.idx hdY sl22, R1.intB hdY (Ext.pres eB), RdS.cells hdY, RdS.len hmY sl23, RdS.idx hmY sl23, RdS.cellB hmY (Ext.pres eB), RdS.cells hmY, RdS.len rf sl23, RdS.idx rf sl23, RdS.cellB rf (Ext.pres eB), RdS.cells rf, RdS.len rg sl23, RdS.idx rg sl23, RdS.cellB rg (Ext.pres eB), RdS.cells rg, RdS.len rq sl23, RdS.idx rq sl23, RdS.cellB rq (Ext.pres eB), RdS.cells rq, RdS.len hr28 sl56, RdS.idx hr28 sl56, RdS.cellB hr28 (Ext.pres eB), RdS.cells hr28, RdS.len hr29 sl22, RdS.idx hr29 sl22, R1.intB hr29 (Ext.pres eB), RdS.cells hr29, RdS.len hr30 sl56, RdS.idx hr30 sl56, RdS.cellB hr30 (Ext.pres eB), RdS.cells hr30, RdS.len hr31 sl22, RdS.idx hr31 sl22, R1.intB hr31 (Ext.pres eB), RdS.cells hr31, RdS.len (OS.rd how12_3_0) sl56, RdS.idx (OS.rd how12_3_0) sl56, RdS.cellN (OS.rd how12_3_0), RdS.cells (OS.rd how12_3_0), RdS.len (OS.rd how19_12_1_0) sl22, RdS.idx (OS.rd how19_12_1_0) sl22, R1.intN (OS.rd how19_12_1_0), RdS.cells (OS.rd how19_12_1_0), RdS.len (OS.rd how20_17_2_0) sl22, RdS.idx (OS.rd how20_17_2_0) sl22, R1.intN (OS.rd how20_17_2_0), RdS.cells (OS.rd how20_17_2_0), BoxAt.cell hb0_0, BoxAt.cell hb0_1, RdS.len ho1_4 sl114, RdS.idx ho1_4 sl114, RdS.cellB ho1_4 (Ext.pres xr1), RdS.cells ho1_4, RdS.len ho5_4 sl114, RdS.idx ho5_4 sl114, RdS.cellB ho5_4 (Ext.pres xr7), RdS.cells ho5_4, RdS.len hr16 sl22, RdS.idx hr16 sl22, R1.intB hr16 (Ext.pres xr17), RdS.cells hr16, wrap_id, Int.add_sub_cancel]
                  refine hK _ _ ?_
                  clear hK K
                  refine den_cond rfl (fun c10 => ?_) (fun c10 => ?_)
                  · try simp only [decide_eq_true_eq, decide_eq_false_iff_not, beq_iff_eq, beq_eq_false_iff_ne, bne_iff_ne, ne_eq, Bool.not_eq_true', Bool.not_eq_false', Bool.and_eq_true, Bool.or_eq_true, bne_eq_false_iff_eq] at c10
                    refine den_seq ?_
                    refine den_region TTok ?_
                    intro K hK
                    simp -implicitDefEqProofs (disch := first | decide | assumption | omega) only [go_sem, RdS.len hdX sl22, RdS.idx hdX sl22, R1.intB hdX (Ext.pres eB), RdS.cells hdX, RdS.len hmX sl23, RdS.idx hmX sl23, RdS.cellB hmX (Ext.pres eB), RdS.cells hmX, RdS.len hdY sl22, RdS.idx hdY sl22, R1.intB hdY (Ext.pres eB), RdS.cells hdY, RdS.len hmY sl23, RdS.idx hmY sl23, RdS.cellB hmY (Ext.pres eB), RdS.cells hmY, RdS.len rf sl23, RdS.idx rf sl23, RdS.cellB rf (Ext.pres eB), RdS.cells rf, RdS.len rg sl23, RdS.idx rg sl23, RdS.cellB rg (Ext.pres eB), RdS.cells rg, RdS.len rq sl23, RdS.idx rq sl23, RdS.cellB rq (Ext.pres eB), RdS.cells rq, RdS.len hr28 sl56, RdS.idx hr28 sl56, RdS.cellB hr28 (Ext.pres eB), RdS.cells hr28, RdS.len hr29 sl22, RdS.idx hr29 sl22, R1.intB hr29 (Ext.pres eB), RdS.cells hr29, RdS.len hr30 sl56, RdS.idx hr30 sl56, RdS.cellB hr30 (Ext.pres eB), RdS.cells hr30, RdS.len hr31 sl22, RdS.idx hr31 sl22, R1.intB hr31 (Ext.pres eB), RdS.cells hr31, RdS.len ho1_4 sl114, RdS.idx ho1_4 sl114, RdS.cellB ho1_4 (Ext.pres xr1), RdS.cells ho1_4, RdS.len ho5_4 sl114, RdS.idx ho5_4 sl114, RdS.cellB ho5_4 (Ext.pres xr7), RdS.cells ho5_4, RdS.len hr16 sl22, RdS.idx hr16 sl22, R1.intB hr16 (Ext.pres xr17), RdS.cells hr16, wrap_id, Int.add_sub_cancel]
                    refine hK _ _ ?_
                    clear hK K
                    refine den_ret ?_
                    simp (disch := decide) only [resP_2, puts_same, puts_ne]
                    have hz : hmP X Y f g q = (false, 0) := by
                      rw [hmP, if_pos hmz, pdec_f.2 (fun hH => ?_)]
                      have h := hH n hR.nf.2.2.2.1 i (by have := hR.d8; have := hR.fi; omega)
                      unfold homAt homR hdP hoP at h
                      first
                      | (rw [if_pos (show 0 < n by omega), if_pos (show (n : Int) < (Y.dims.length : Int) - 1 by omega)] at h; exact c10 h)
                      | (rw [if_neg (show ¬ 0 < n by omega), if_pos (show (n : Int) < (Y.dims.length : Int) - 1 by omega)] at h; exact c10 h)
                      | (rw [if_pos (show 0 < n by omega), if_neg (show ¬ (n : Int) < (Y.dims.length : Int) - 1 by omega)] at h; exact c10 h)
                      | (rw [if_neg (show ¬ 0 < n by omega), if_neg (show ¬ (n : Int) < (Y.dims.length : Int) - 1 by omega)] at h; exact c10 h)
                    exact ⟨by rw [hz], eB⟩
                  · try simp only [decide_eq_true_eq, decide_eq_false_iff_not, beq_iff_eq, beq_eq_false_iff_ne, bne_iff_ne, ne_eq, Bool.not_eq_true', Bool.not_eq_false', Bool.and_eq_true, Bool.or_eq_true, bne_eq_false_iff_eq] at c10
                    refine den_skip ?_
                    refine den_blk ?_
                    refine den_region TTok ?_
                    intro K hK
                    simp -implicitDefEqProofs (disch := first | decide | assumption | omega) only [go_sem, RdS.len hdX sl22, RdS.idx hdX sl22, R1.intB hdX (Ext.pres eB), RdS.cells hdX, RdS.len hmX sl23, RdS.idx hmX sl23, RdS.cellB hmX (Ext.pres eB), RdS.cells hmX, RdS.len hdY sl22, RdS.idx hdY sl22, R1.intB hdY (Ext.pres eB), RdS.cells hdY, RdS.len hmY sl23, RdS.idx hmY sl23, RdS.cellB hmY (Ext.pres eB), RdS.cells hmY, RdS.len rf sl23, RdS.idx rf sl23, RdS.cellB rf (Ext.pres eB), RdS.cells rf, RdS.len rg sl23, RdS.idx rg sl23, RdS.cellB rg (Ext.pres eB), RdS.cells rg, RdS.len rq sl23, RdS.idx rq sl23, RdS.cellB rq (Ext.pres eB), RdS.cells rq, RdS.len hr28 sl56, RdS.idx hr28 sl56, RdS.cellB hr28 (Ext.pres eB), RdS.cells hr28, RdS.len hr29 sl22, RdS.idx hr29 sl22, R1.intB hr29 (Ext.pres eB), RdS.cells hr29, RdS.len hr30 sl56, RdS.idx hr30 sl56, RdS.cellB hr30 (Ext.pres eB), RdS.cells hr30, RdS.len hr31 sl22, RdS.idx hr31 sl22, R1.intB hr31 (Ext.pres eB), RdS.cells hr31, RdS.len (OS.rd how12_3_0) sl56, RdS.idx (OS.rd how12_3_0) sl56, RdS.cellN (OS.rd how12_3_0), RdS.cells (OS.rd how12_3_0), BoxAt.cell hb0_0, BoxAt.cell hb0_1, RdS.len ho1_4 sl114, RdS.idx ho1_4 sl114, RdS.cellB ho1_4 (Ext.pres xr1), RdS.cells ho1_4, RdS.len ho5_4 sl114, RdS.idx ho5_4 sl114, RdS.cellB ho5_4 (Ext.pres xr7), RdS.cells ho5_4, RdS.len hr16 sl22, RdS.idx hr16 sl22, R1.intB hr16 (Ext.pres xr17), RdS.cells hr16, wrap_id, Int.add_sub_cancel]
                    refine hK _ _ ?_
                    clear hK K
                    refine den_stop ?_
                    exact ⟨i + 1, by simp [HasL, puts_at], ⟨by omega, fun j hj => (Nat.lt_succ_iff_lt_or_eq.1 hj).elim (hy j) (fun e => by subst e; exact by unfold homAt homR hdP hoP; first | (rw [if_pos (show 0 < n by omega), if_pos (show (n : Int) < (Y.dims.length : Int) - 1 by omega)]; exact c10) | (rw [if_neg (show ¬ 0 < n by omega), if_pos (show (n : Int) < (Y.dims.length : Int) - 1 by omega)]; exact c10) | (rw [if_pos (show 0 < n by omega), if_neg (show ¬ (n : Int) < (Y.dims.length : Int) - 1 by omega)]; exact c10) | (rw [if_neg (show ¬ 0 < n by omega), if_neg (show ¬ (n : Int) < (Y.dims.length : Int) - 1 by omega)]; exact c10)), cL13⟩, by first | omega | (dsimp only; omega)⟩
                · try simp only [decide_eq_true_eq, decide_eq_false_iff_not, beq_iff_eq, beq_eq_false_iff_ne, bne_iff_ne, ne_eq, Bool.not_eq_true', Bool.not_eq_false', Bool.and_eq_true, Bool.or_eq_true, bne_eq_false_iff_eq] at c9
                  refine den_skip ?_
                  refine den_seq ?_
                  have hto := hR.fg
                  refine den_draw TTok mixed [] [(0, true), (1, true), (2, true), (3, true), (4, true), (5, true), (6, true), (7, true), (8, true), (9, true), (10, true), (11, true), (12, true), (13, true), (14, true), (15, true), (16, true), (18, true), (17, false), (19, false), (20, true)] (by kernel_rfl) ?_
                  intro K hK
                  have hr32 := RdS.rowN rf n (by omega)
                  have hlhr32 := RdS.le hr32
                  have hr33 := RdS.rowN hr32 i (by omega)
                  have hlhr33 := RdS.le hr33
                  have hr34 := RdS.rowN rg n (by omega)
                  have hlhr34 := RdS.le hr34
                  have hr35 := RdS.rowN hr34 i (by omega)
                  have hlhr35 := RdS.le hr35
                  simp -implicitDefEqProofs (disch := first | decide | assumption | omega) only [go_sem, ld56, ld22, RdS.len hdX sl22, RdS.idx hdX sl22, R1.intB hdX (Ext.pres eB), RdS.cells hdX, RdS.len hmX sl23, RdS.idx hmX sl23, RdS.cellB hmX (Ext.pres eB), RdS.cells hmX, RdS.len hdY sl22, RdS.idx hdY sl22, R1.intB hdY (Ext.pres eB), RdS.cells hdY, RdS.len hmY sl23, RdS.idx hmY sl23, RdS.cellB hmY (Ext.pres eB), RdS.cells hmY, RdS.len rf sl23, RdS.idx rf sl23, RdS.cellB rf (Ext.pres eB), RdS.cells rf, RdS.len rg sl23, RdS.idx rg sl23, RdS.cellB rg (Ext.pres eB), RdS.cells rg, RdS.len rq sl23, RdS.idx rq sl23, RdS.cellB rq (Ext.pres eB), RdS.cells rq, RdS.len hr32 sl56, RdS.idx hr32 sl56, RdS.cellB hr32 (Ext.pres eB), RdS.cells hr32, RdS.len hr33 sl22, RdS.idx hr33 sl22, R1.intB hr33 (Ext.pres eB), RdS.cells hr33, RdS.len hr34 sl56, RdS.idx hr34 sl56, RdS.cellB hr34 (Ext.pres eB), RdS.cells hr34, RdS.len hr35 sl22, RdS.idx hr35 sl22, R1.intB hr35 (Ext.pres eB), RdS.cells hr35, RdS.len (OS.rd how12_3_0) sl56, RdS.idx (OS.rd how12_3_0) sl56, RdS.cellN (OS.rd how12_3_0), RdS.cells (OS.rd how12_3_0), RdS.len (OS.rd ho15_3) sl22, RdS.idx (OS.rd ho15_3) sl22, R1.intN (OS.rd ho15_3), RdS.cells (OS.rd ho15_3), BoxAt.cell hb0_0, BoxAt.cell hb0_1, RdS.len ho1_4 sl114, RdS.idx ho1_4 sl114, RdS.cellB ho1_4 (Ext.pres xr1), RdS.cells ho1_4, RdS.len ho5_4 sl114, RdS.idx ho5_4 sl114, RdS.cellB ho5_4 (Ext.pres xr7), RdS.cells ho5_4, RdS.len hr16 sl22, RdS.idx hr16 sl22, R1.intB hr16 (Ext.pres xr17), RdS.cells hr16, wrap_id, Int.add_sub_cancel]
                  try simp -implicitDefEqProofs (disch := first | decide | assumption | omega) only [go_sem, RdS.len hdX sl22, RdS.idx hdX sl22, R1.intB hdX (Ext.pres eB), RdS.cells hdX, RdS.len hmX sl23, RdS.idx hmX sl23, RdS.cellB hmX (Ext.pres eB), RdS.cells hmX, RdS.len hdY sl22, RdS.idx hdY sl22, R1.intB hdY (Ext.pres eB), RdS.cells hdY, RdS.len hmY sl23, RdS.idx hmY sl23, RdS.cellB hmY (Ext.pres eB), RdS.cells hmY, RdS.len rf sl23, RdS.idx rf sl23, RdS.cellB rf (Ext.pres eB), RdS.cells rf, RdS.len rg sl23, RdS.idx rg sl23, RdS.cellB rg (Ext.pres eB), RdS.cells rg, RdS.len rq sl23, RdS.idx rq sl23, RdS.cellB rq (Ext.pres eB), RdS.cells rq, RdS.len hr32 sl56, RdS.idx hr32 sl56, RdS.cellB hr32 (Ext.pres eB), RdS.cells hr32, RdS.len hr33 sl22, RdS.idx hr33 sl22, R1.intB hr33 (Ext.pres eB), RdS.cells hr33, RdS.len hr34 sl56, RdS.idx hr34 sl56, RdS.cellB hr34 (Ext.pres eB), RdS.cells hr34, RdS.len hr35 sl22, RdS.idx hr35 sl22, R1.intB hr35 (Ext.pres eB), RdS.cells hr35, RdS.len (OS.rd how12_3_0) sl56, RdS.idx (OS.rd how12_3_0) sl56, RdS.cellN (OS.rd how12_3_0), RdS.cells (OS.rd how12_3_0), RdS.len (OS.rd ho15_3) sl22, RdS.idx (OS.rd ho15_3) sl22, R1.intN (OS.rd ho15_3), RdS.cells (OS.rd ho15_3), BoxAt.cell hb0_0, BoxAt.cell hb0_1, RdS.len ho1_4 sl114, RdS.idx ho1_4 sl114, RdS.cellB ho1_4 (Ext.pres xr1), RdS.cells ho1_4, RdS.len ho5_4 sl114, RdS.idx ho5_4 sl114, RdS.cellB ho5_4 (Ext.pres xr7), RdS.cells ho5_4, RdS.len hr16 sl22, RdS.idx hr16 sl22, R1.intB hr16 (Ext.pres xr17), RdS.cells hr16, wrap_id, Int.add_sub_cancel]
                  refine CallA.mono (iTog_ok _ _ X.p (((f).getD n default).getD i default) (((g).getD n default).getD i default) (X.p - (1 : Int)) _ (RdS.pres hr33 (Ext.pres eB)) (RdS.pres hr35 (Ext.pres eB)) (by omega) hto.1 hto.2.1 hto.2.2 (by omega)) ?_
                  intro vw20_17_3_0 h20_17_3
                  rintro ⟨zvw20_17_3_0, fw20_17_3_0, rfl, how20_17_3_0, hfw20_17_3_0, e20_17_3⟩
                  replace how12_3_0 := OS.ext how12_3_0 e20_17_3
                  replace ho15_3 := OS.ext ho15_3 e20_17_3
                  replace hb0_0 := BoxAt.ext hb0_0 e20_17_3
                  replace hb0_1 := BoxAt.ext hb0_1 e20_17_3
                  have := Ext.size e20_17_3
                  replace eB := Ext.trans eB e20_17_3
                  replace xr1 := Ext.trans xr1 e20_17_3
                  replace xr7 := Ext.trans xr7 e20_17_3
                  replace xr17 := Ext.trans xr17 e20_17_3
                  replace cL9 := Ext.trans cL9 e20_17_3
                  replace cL13 := Ext.trans cL13 e20_17_3
                  have hlhow20_17_3_0 := OS.lt how20_17_3_0
                  try simp (disch := decide) only [outv_some, outv_none, put_puts]
                  refine plK_pres (Ext.pres e20_17_3) ?_
                  try simp -implicitDefEqProofs (disch := first | decide | assumption | omega) only [go_sem, RdS.len hdX sl22, RdS.idx hdX sl22, R1.intB hdX (Ext.pres eB), RdS.cells hdX, RdS.len hmX sl23, RdS.idx hmX sl23, RdS.cellB hmX (Ext.pres eB), RdS.cells hmX, RdS.len hdY sl22, RdS.idx hdY sl22, R1.intB hdY (Ext.pres eB), RdS.cells hdY, RdS.len hmY sl23, RdS.idx hmY sl23, RdS.cellB hmY (Ext.pres eB), RdS.cells hmY, RdS.len rf sl23, RdS.idx rf sl23, RdS.cellB rf (Ext.pres eB), RdS.cells rf, RdS.len rg sl23, RdS.idx rg sl23, RdS.cellB rg (Ext.pres eB), RdS.cells rg, RdS.len rq sl23, RdS.idx rq sl23, RdS.cellB rq (Ext.pres eB), RdS.cells rq, RdS.len hr32 sl56, RdS.idx hr32 sl56, RdS.cellB hr32 (Ext.pres eB), RdS.cells hr32, RdS.len hr33 sl22, RdS.idx hr33 sl22, R1.intB hr33 (Ext.pres eB), RdS.cells hr33, RdS.len hr34 sl56, RdS.idx hr34 sl56, RdS.cellB hr34 (Ext.pres eB), RdS.cells hr34, RdS.len hr35 sl22, RdS.idx hr35 sl22, R1.intB hr35 (Ext.pres eB), RdS.cells hr35, RdS.len (OS.rd how12_3_0) sl56, RdS.idx (OS.rd how12_3_0) sl56, RdS.cellN (OS.rd how12_3_0), RdS.cells (OS.rd how12_3_0), RdS.len (OS.rd ho15_3) sl22, RdS.idx (OS.rd ho15_3) sl22, R1.intN (OS.rd ho15_3), RdS.cells (OS.rd ho15_3), RdS.len (OS.rd how20_17_3_0) sl22, RdS.idx (OS.rd how20_17_3_0) sl22, R1.intN (OS.rd how20_17_3_0), RdS.cells (OS.rd how20_17_3_0), BoxAt.cell hb0_0, BoxAt.cell hb0_1, RdS.len ho1_4 sl114, RdS.idx ho1_4 sl114, RdS.cellB ho1_4 (Ext.pres xr1), RdS.cells ho1_4, RdS.len ho5_4 sl114, RdS.idx ho5_4 sl114, RdS.cellB ho5_4 (Ext.pres xr7), RdS.cells ho5_4, RdS.len hr16 sl22, RdS.idx hr16 sl22, R1.intB hr16 (Ext.pres xr17), RdS.cells hr16, wrap_id, Int.add_sub_cancel]
                  try simp -implicitDefEqProofs (disch := first | decide | assumption | omega) only [go_sem, RdS.len hdX sl22, RdS.idx hdX sl22, R1.intB hdX (Ext.pres eB), RdS.cells hdX, RdS.len hmX sl23, RdS.idx hmX sl23, RdS.cellB hmX (Ext.pres eB), RdS.cells hmX, RdS.len hdY sl22, RdS.idx hdY sl22, R1.intB hdY (Ext.pres eB), RdS.cells hdY, RdS.len hmY sl23, RdS.idx hmY sl23, RdS.cellB hmY (Ext.pres eB), RdS.cells hmY, RdS.len rf sl23, RdS.idx rf sl23, RdS.cellB rf (Ext.pres eB), RdS.cells rf, RdS.len rg sl23, RdS.idx rg sl23, RdS.cellB rg (Ext.pres eB), RdS.cells rg, RdS.len rq sl23, RdS.idx rq sl23, RdS.cellB rq (Ext.pres eB), RdS.cells rq, RdS.len hr32 sl56, RdS.idx hr32 sl56, RdS.cellB hr32 (Ext.pres eB), RdS.cells hr32, RdS.len hr33 sl22, RdS.idx hr33 sl22, R1.intB hr33 (Ext.pres eB), RdS.cells hr33, RdS.len hr34 sl56, RdS.idx hr34 sl56, RdS.cellB hr34 (Ext.pres eB), RdS.cells hr34, RdS.len hr35 sl22, RdS.idx hr35 sl22, R1.intB hr35 (Ext.pres eB), RdS.cells hr35, RdS.len (OS.rd how12_3_0) sl56, RdS.idx (OS.rd how12_3_0) sl56, RdS.cellN (OS.rd how12_3_0), RdS.cells (OS.rd how12_3_0), RdS.len (OS.rd ho15_3) sl22, RdS.idx (OS.rd ho15_3) sl22, R1.intN (OS.rd ho15_3), RdS.cells (OS.rd ho15_3), RdS.len (OS.rd how20_17_3_0) sl22, RdS.idx (OS.rd how20_17_3_0) sl22, R1.intN (OS.rd how20_17_3_0), RdS.cells (OS.rd how20_17_3_0), BoxAt.cell hb0_0, BoxAt.cell hb0_1, RdS.len ho1_4 sl114, RdS.idx ho1_4 sl114, RdS.cellB ho1_4 (Ext.pres xr1), RdS.cells ho1_4, RdS.len ho5_4 sl114, RdS.idx ho5_4 sl114, RdS.cellB ho5_4 (Ext.pres xr7), RdS.cells ho5_4, RdS.len hr16 sl22, RdS.idx hr16 sl22, R1.intB hr16 (Ext.pres xr17), RdS.cells hr16, wrap_id, Int.add_sub_cancel]
                  refine CallA.mono (equal1_ok _ _ (addRow X.p (X.p - (1 : Int)) (((f).getD n default).getD i default) (((g).getD n default).getD i default)) (List.replicate ((dimP Y (n : Int))).toNat 0) _ (OS.rd how20_17_3_0) (OS.rd ho15_3) ) ?_
                  intro v_ h20_19_3
                  rintro ⟨rfl, e20_19_3⟩
                  replace how12_3_0 := OS.ext how12_3_0 e20_19_3
                  replace ho15_3 := OS.ext ho15_3 e20_19_3
                  replace how20_17_3_0 := OS.ext how20_17_3_0 e20_19_3
                  replace hb0_0 := BoxAt.ext hb0_0 e20_19_3
                  replace hb0_1 := BoxAt.ext hb0_1 e20_19_3
                  have := Ext.size e20_19_3
                  replace eB := Ext.trans eB e20_19_3
                  replace xr1 := Ext.trans xr1 e20_19_3
                  replace xr7 := Ext.trans xr7 e20_19_3
                  replace xr17 := Ext.trans xr17 e20_19_3
                  replace cL9 := Ext.trans cL9 e20_19_3
                  replace cL13 := Ext.trans cL13 e20_19_3
                  try simp (disch := decide) only [outv_some, outv_none, put_puts]
                  refine plK_pres (Ext.pres e20_19_3) ?_
                  try simp -implicitDefEqProofs (disch := first | decide | assumption | omega) only [go_sem, RdS.len hdX sl22, RdS.idx hdX sl22, R1.intB hdX (Ext.pres eB), RdS.cells hdX, RdS.len hmX sl23, RdS.idx hmX sl23, RdS.cellB hmX (Ext.pres eB), RdS.cells hmX, RdS.len hdY sl22, RdS.idx hdY sl22, R1.intB hdY (Ext.pres eB), RdS.cells hdY, RdS.len hmY sl23, RdS.idx hmY sl23, RdS.cellB hmY (Ext.pres eB), RdS.cells hmY, RdS.len rf sl23, RdS.idx rf sl23, RdS.cellB rf (Ext.pres eB), RdS.cells rf, RdS.len rg sl23, RdS.idx rg sl23, RdS.cellB rg (Ext.pres eB), RdS.cells rg, RdS.len rq sl23, RdS.idx rq sl23, RdS.cellB rq (Ext.pres eB), RdS.cells rq, RdS.len hr32 sl56, RdS.idx hr32 sl56, RdS.cellB hr32 (Ext.pres eB), RdS.cells hr32, RdS.len hr33 sl22, RdS.idx hr33 sl22, R1.intB hr33 (Ext.pres eB), RdS.cells hr33, RdS.len hr34 sl56, RdS.idx hr34 sl56, RdS.cellB hr34 (Ext.pres eB), RdS.cells hr34, RdS.len hr35 sl22, RdS.idx hr35 sl22, R1.intB hr35 (Ext.pres eB), RdS.cells hr35, RdS.len (OS.rd how12_3_0) sl56, RdS.idx (OS.rd how12_3_0) sl56, RdS.cellN (OS.rd how12_3_0), RdS.cells (OS.rd how12_3_0), RdS.len (OS.rd ho15_3) sl22, RdS.idx (OS.rd ho15_3) sl22, R1.intN (OS.rd ho15_3), RdS.cells (OS.rd ho15_3), RdS.len (OS.rd how20_17_3_0) sl22, RdS.idx (OS.rd how20_17_3_0) sl22, R1.intN (OS.rd how20_17_3_0), RdS.cells (OS.rd how20_17_3_0), BoxAt.cell hb0_0, BoxAt.cell hb0_1, RdS.len ho1_4 sl114, RdS.idx ho1_4 sl114, RdS.cellB ho1_4 (Ext.pres xr1), RdS.cells ho1_4, RdS.len ho5_4 sl114, RdS.idx ho5_4 sl114, RdS.cellB ho5_4 (Ext.pres xr7), RdS.cells ho5_4, RdS.len hr16 sl22, RdS.idx hr16 sl22, R1.intB hr16 (Ext.pres xr17), RdS.cells hr16, wrap_id, Int.add_sub_cancel]
                  refine hK _ _ ?_
                  clear hK K
                  refine den_cond rfl (fun c11 => ?_) (fun c11 => ?_)
                  · try simp only [decide_eq_true_eq, decide_eq_false_iff_not, beq_iff_eq, beq_eq_false_iff_ne, bne_iff_ne, ne_eq, Bool.not_eq_true', Bool.not_eq_false', Bool.and_eq_true, Bool.or_eq_true, bne_eq_false_iff_eq] at c11
                    refine den_seq ?_
                    refine den_region TTok ?_
                    intro K hK
                    simp -implicitDefEqProofs (disch := first | decide | assumption | omega) only [go_sem, RdS.len hdX sl22, RdS.idx hdX sl22, R1.intB hdX (Ext.pres eB), RdS.cells hdX, RdS.len hmX sl23, RdS.idx hmX sl23, RdS.cellB hmX (Ext.pres eB), RdS.cells hmX, RdS.len hdY sl22, RdS.idx hdY sl22, R1.intB hdY (Ext.pres eB), RdS.cells hdY, RdS.len hmY sl23, RdS.idx hmY sl23, RdS.cellB hmY (Ext.pres eB), RdS.cells hmY, RdS.len rf sl23, RdS.idx rf sl23, RdS.cellB rf (Ext.pres eB), RdS.cells rf, RdS.len rg sl23, RdS.idx rg sl23, RdS.cellB rg (Ext.pres eB), RdS.cells rg, RdS.len rq sl23, RdS.idx rq sl23, RdS.cellB rq (Ext.pres eB), RdS.cells rq, RdS.len hr32 sl56, RdS.idx hr32 sl56, RdS.cellB hr32 (Ext.pres eB), RdS.cells hr32, RdS.len hr33 sl22, RdS.idx hr33 sl22, R1.intB hr33 (Ext.pres eB), RdS.cells hr33, RdS.len hr34 sl56, RdS.idx hr34 sl56, RdS.cellB hr34 (Ext.pres eB), RdS.cells hr34, RdS.len hr35 sl22, RdS.idx hr35 sl22, R1.intB hr35 (Ext.pres eB), RdS.cells hr35, RdS.len ho1_4 sl114, RdS.idx ho1_4 sl114, RdS.cellB ho1_4 (Ext.pres xr1), RdS.cells ho1_4, RdS.len ho5_4 sl114, RdS.idx ho5_4 sl114, RdS.cellB ho5_4 (Ext.pres xr7), RdS.cells ho5_4, RdS.len hr16 sl22, RdS.idx hr16 sl22, R1.intB hr16 (Ext.pres xr17), RdS.cells hr16, wrap_id, Int.add_sub_cancel]
                    refine hK _ _ ?_
                    clear hK K
                    refine den_ret ?_
                    simp (disch := decide) only [resP_2, puts_same, puts_ne]
                    have hz : hmP X Y f g q = (false, 0) := by
                      rw [hmP, if_pos hmz, pdec_f.2 (fun hH => ?_)]
                      have h := hH n hR.nf.2.2.2.1 i (by have := hR.d8; have := hR.fi; omega)
                      unfold homAt homR hdP hoP at h
                      first
                      | (rw [if_pos (show 0 < n by omega), if_pos (show (n : Int) < (Y.dims.length : Int) - 1 by omega)] at h; exact c11 h)
                      | (rw [if_neg (show ¬ 0 < n by omega), if_pos (show (n : Int) < (Y.dims.length : Int) - 1 by omega)] at h; exact c11 h)
                      | (rw [if_pos (show 0 < n by omega), if_neg (show ¬ (n : Int) < (Y.dims.length : Int) - 1 by omega)] at h; exact c11 h)
                      | (rw [if_neg (show ¬ 0 < n by omega), if_neg (show ¬ (n : Int) < (Y.dims.length : Int) - 1 by omega)] at h; exact c11 h)
                    exact ⟨by rw [hz], eB⟩
                  · try simp only [decide_eq_true_eq, decide_eq_false_iff_not, beq_iff_eq, beq_eq_false_iff_ne, bne_iff_ne, ne_eq, Bool.not_eq_true', Bool.not_eq_false', Bool.and_eq_true, Bool.or_eq_true, bne_eq_false_iff_eq] at c11
                    refine den_skip ?_
                    refine den_blk ?_
                    refine den_region TTok ?_
                    intro K hK
                    simp -implicitDefEqProofs (disch := first | decide | assumption | omega) only [go_sem, RdS.len hdX sl22, RdS.idx hdX sl22, R1.intB hdX (Ext.pres eB), RdS.cells hdX, RdS.len hmX sl23, RdS.idx hmX sl23, RdS.cellB hmX (Ext.pres eB), RdS.cells hmX, RdS.len hdY sl22, RdS.idx hdY sl22, R1.intB hdY (Ext.pres eB), RdS.cells hdY, RdS.len hmY sl23, RdS.idx hmY sl23, RdS.cellB hmY (Ext.pres eB), RdS.cells hmY, RdS.len rf sl23, RdS.idx rf sl23, RdS.cellB rf (Ext.pres eB), RdS.cells rf, RdS.len rg sl23, RdS.idx rg sl23, RdS.cellB rg (Ext.pres eB), RdS.cells rg, RdS.len rq sl23, RdS.idx rq sl23, RdS.cellB rq (Ext.pres eB), RdS.cells rq, RdS.len hr32 sl56, RdS.idx hr32 sl56, RdS.cellB hr32 (Ext.pres eB), RdS.cells hr32, RdS.len hr33 sl22, RdS.idx hr33 sl22, R1.intB hr33 (Ext.pres eB), RdS.cells hr33, RdS.len hr34 sl56, RdS.idx hr34 sl56, RdS.cellB hr34 (Ext.pres eB), RdS.cells hr34, RdS.len hr35 sl22, RdS.idx hr35 sl22, R1.intB hr35 (Ext.pres eB), RdS.cells hr35, RdS.len (OS.rd how12_3_0) sl56, RdS.idx (OS.rd how12_3_0) sl56, RdS.cellN (OS.rd how12_3_0), RdS.cells (OS.rd how12_3_0), BoxAt.cell hb0_0, BoxAt.cell hb0_1, RdS.len ho1_4 sl114, RdS.idx ho1_4 sl114, RdS.cellB ho1_4 (Ext.pres xr1), RdS.cells ho1_4, RdS.len ho5_4 sl114, RdS.idx ho5_4 sl114, RdS.cellB ho5_4 (Ext.pres xr7), RdS.cells ho5_4, RdS.len hr16 sl22, RdS.idx hr16 sl22, R1.intB hr16 (Ext.pres xr17), RdS.cells hr16, wrap_id, Int.add_sub_cancel]
                    refine hK _ _ ?_
                    clear hK K
                    refine den_stop ?_
                    exact ⟨i + 1, by simp [HasL, puts_at], ⟨by omega, fun j hj => (Nat.lt_succ_iff_lt_or_eq.1 hj).elim (hy j) (fun e => by subst e; exact by unfold homAt homR hdP hoP; first | (rw [if_pos (show 0 < n by omega), if_pos (show (n : Int) < (Y.dims.length : Int) - 1 by omega)]; exact c11) | (rw [if_neg (show ¬ 0 < n by omega), if_pos (show (n : Int) < (Y.dims.length : Int) - 1 by omega)]; exact c11) | (rw [if_pos (show 0 < n by omega), if_neg (show ¬ (n : Int) < (Y.dims.length : Int) - 1 by omega)]; exact c11) | (rw [if_neg (show ¬ 0 < n by omega), if_neg (show ¬ (n : Int) < (Y.dims.length : Int) - 1 by omega)]; exact c11)), cL13⟩, by first | omega | (dsimp only; omega)⟩
            · try simp only [decide_eq_true_eq, decide_eq_false_iff_not, beq_iff_eq, beq_eq_false_iff_ne, bne_iff_ne, ne_eq, Bool.not_eq_true', Bool.not_eq_false', Bool.and_eq_true, Bool.or_eq_true, bne_eq_false_iff_eq] at c4
              refine den_exit ?_
              refine denX_code ?_
              refine denX_stop ?_
              refine denX_hit ?_
              refine den_blk ?_
              refine den_region TTok ?_
              intro K hK
              simp -implicitDefEqProofs (disch := first | decide | assumption | omega) only [go_sem, RdS.len hdX sl22, RdS.idx hdX sl22, R1.intB hdX (Ext.pres eB), RdS.cells hdX, RdS.len hmX sl23, RdS.idx hmX sl23, RdS.cellB hmX (Ext.pres eB), RdS.cells hmX, RdS.len hdY sl22, RdS.idx hdY sl22, R1.intB hdY (Ext.pres eB), RdS.cells hdY, RdS.len hmY sl23, RdS.idx hmY sl23, RdS.cellB hmY (Ext.pres eB), RdS.cells hmY, RdS.len rf sl23, RdS.idx rf sl23, RdS.cellB rf (Ext.pres eB), RdS.cells rf, RdS.len rg sl23, RdS.idx rg sl23, RdS.cellB rg (Ext.pres eB), RdS.cells rg, RdS.len rq sl23, RdS.idx rq sl23, RdS.cellB rq (Ext.pres eB), RdS.cells rq, BoxAt.cell hb0_0, BoxAt.cell hb0_1, RdS.len ho1_4 sl114, RdS.idx ho1_4 sl114, RdS.cellB ho1_4 (Ext.pres xr1), RdS.cells ho1_4, RdS.len ho5_4 sl114, RdS.idx ho5_4 sl114, RdS.cellB ho5_4 (Ext.pres xr7), RdS.cells ho5_4, wrap_id, Int.add_sub_cancel]
              refine hK _ _ ?_
              clear hK K
              refine den_stop ?_
              exact ⟨n + 1, by simp [HasL, puts_at], ⟨by omega, fun j hj => (Nat.lt_succ_iff_lt_or_eq.1 hj).elim (hz j) (fun e => by subst e; exact fun w hw => hy w (by omega)), cL9⟩, by first | omega | (dsimp only; omega)⟩
        · try simp only [decide_eq_true_eq, decide_eq_false_iff_not, beq_iff_eq, beq_eq_false_iff_ne, bne_iff_ne, ne_eq, Bool.not_eq_true', Bool.not_eq_false', Bool.and_eq_true, Bool.or_eq_true, bne_eq_false_iff_eq] at c3
          refine den_exit ?_
          refine denX_code ?_
          refine denX_stop ?_
          refine denX_hit ?_
          refine den_seq ?_
          refine den_region TTok ?_
          intro K hK
          simp -implicitDefEqProofs (disch := first | decide | assumption | omega) only [go_sem, RdS.len hdX sl22, RdS.idx hdX sl22, R1.intB hdX (Ext.pres eB), RdS.cells hdX, RdS.len hmX sl23, RdS.idx hmX sl23, RdS.cellB hmX (Ext.pres eB), RdS.cells hmX, RdS.len hdY sl22, RdS.idx hdY sl22, R1.intB hdY (Ext.pres eB), RdS.cells hdY, RdS.len hmY sl23, RdS.idx hmY sl23, RdS.cellB hmY (Ext.pres eB), RdS.cells hmY, RdS.len rf sl23, RdS.idx rf sl23, RdS.cellB rf (Ext.pres eB), RdS.cells rf, RdS.len rg sl23, RdS.idx rg sl23, RdS.cellB rg (Ext.pres eB), RdS.cells rg, RdS.len rq sl23, RdS.idx rq sl23, RdS.cellB rq (Ext.pres eB), RdS.cells rq, RdS.len ho1_4 sl114, RdS.idx ho1_4 sl114, RdS.cellB ho1_4 (Ext.pres xr1), RdS.cells ho1_4, RdS.len ho5_4 sl114, RdS.idx ho5_4 sl114, RdS.cellB ho5_4 (Ext.pres xr7), RdS.cells ho5_4, wrap_id, Int.add_sub_cancel]
          refine hK _ _ ?_
          clear hK K
          refine den_ret ?_
          simp (disch := decide) only [resP_2, puts_same, puts_ne]
          have hz' : hmP X Y f g q = (true, 0) := by rw [hmP, if_pos hmz, pdec_t.2 (show IsHom X Y f g q from fun j hj i hi => hz j (by omega) i hi)]
          exact ⟨by rw [hz'], eB⟩
  · try simp only [decide_eq_true_eq, decide_eq_false_iff_not, beq_iff_eq, beq_eq_false_iff_ne, bne_iff_ne, ne_eq, Bool.not_eq_true', Bool.not_eq_false', Bool.and_eq_true, Bool.or_eq_true, bne_eq_false_iff_eq] at c1
    refine den_skip ?_
    refine den_seq ?_
    refine den_seq ?_
    refine den_region TTok ?_
    intro K hK
    simp -implicitDefEqProofs (disch := first | decide | assumption | omega) only [go_sem, RdS.len hdX sl22, RdS.idx hdX sl22, R1.intB hdX (Ext.pres eB), RdS.cells hdX, RdS.len hmX sl23, RdS.idx hmX sl23, RdS.cellB hmX (Ext.pres eB), RdS.cells hmX, RdS.len hdY sl22, RdS.idx hdY sl22, R1.intB hdY (Ext.pres eB), RdS.cells hdY, RdS.len hmY sl23, RdS.idx hmY sl23, RdS.cellB hmY (Ext.pres eB), RdS.cells hmY, RdS.len rf sl23, RdS.idx rf sl23, RdS.cellB rf (Ext.pres eB), RdS.cells rf, RdS.len rg sl23, RdS.idx rg sl23, RdS.cellB rg (Ext.pres eB), RdS.cells rg, RdS.len rq sl23, RdS.idx rq sl23, RdS.cellB rq (Ext.pres eB), RdS.cells rq, BoxAt.cell hb0_0, BoxAt.cell hb0_1, RdS.len ho1_4 sl114, RdS.idx ho1_4 sl114, RdS.cellB ho1_4 (Ext.pres xr1), RdS.cells ho1_4, wrap_id, Int.add_sub_cancel]
    refine hK _ _ ?_
    clear hK K
    refine den_cond rfl (fun c12 => ?_) (fun c12 => ?_)
    · try simp only [decide_eq_true_eq, decide_eq_false_iff_not, beq_iff_eq, beq_eq_false_iff_ne, bne_iff_ne, ne_eq, Bool.not_eq_true', Bool.not_eq_false', Bool.and_eq_true, Bool.or_eq_true, bne_eq_false_iff_eq] at c12
      refine den_seq ?_
      refine den_region TTok ?_
      intro K hK
      simp -implicitDefEqProofs (disch := first | decide | assumption | omega) only [go_sem, RdS.len hdX sl22, RdS.idx hdX sl22, R1.intB hdX (Ext.pres eB), RdS.cells hdX, RdS.len hmX sl23, RdS.idx hmX sl23, RdS.cellB hmX (Ext.pres eB), RdS.cells hmX, RdS.len hdY sl22, RdS.idx hdY sl22, R1.intB hdY (Ext.pres eB), RdS.cells hdY, RdS.len hmY sl23, RdS.idx hmY sl23, RdS.cellB hmY (Ext.pres eB), RdS.cells hmY, RdS.len rf sl23, RdS.idx rf sl23, RdS.cellB rf (Ext.pres eB), RdS.cells rf, RdS.len rg sl23, RdS.idx rg sl23, RdS.cellB rg (Ext.pres eB), RdS.cells rg, RdS.len rq sl23, RdS.idx rq sl23, RdS.cellB rq (Ext.pres eB), RdS.cells rq, RdS.len ho1_4 sl114, RdS.idx ho1_4 sl114, RdS.cellB ho1_4 (Ext.pres xr1), RdS.cells ho1_4, wrap_id, Int.add_sub_cancel]
      refine hK _ _ ?_
      clear hK K
      refine den_ret ?_
      simp (disch := decide) only [resP_2, puts_same, puts_ne]
      have e : hmC X Y f g q = cadd (famC X Y [f, g]) 2 (!(famP X Y q 1)) := by show (if cadd (famC X Y [f, g]) 2 (!(famP X Y q 1)) = 0 then chnC X Y [f, g] else cadd (famC X Y [f, g]) 2 (!(famP X Y q 1))) = _; rw [if_neg c1]
      have hz : hmP X Y f g q = (false, cadd (famC X Y [f, g]) 2 (!(famP X Y q 1))) := by rw [hmP, if_neg (by rw [e]; exact c1), e]
      exact ⟨by rw [hz], eB⟩
    · try simp only [decide_eq_true_eq, decide_eq_false_iff_not, beq_iff_eq, beq_eq_false_iff_ne, bne_iff_ne, ne_eq, Bool.not_eq_true', Bool.not_eq_false', Bool.and_eq_true, Bool.or_eq_true, bne_eq_false_iff_eq] at c12
      exact absurd c12 c1
end Go.Proofs.Ytffggocjkhcgeaa
