/-
  What the statement FnExactIsHomotopy uses of the walks, part 5.
  Conditions: each theorem's own.
-/
import Derived.Test.YtffggocjkhcgeaaG16
import Derived.Test.YtffggocjkhcgeaaG17
import Derived.Test.YtffggocjkhcgeaaG14
import Derived.Test.YtffggocjkhcgeaaG13
import Derived.Test.YtffggocjkhcgeaaG15
import Derived.Test.YtffggocjkhcgeaaZIsHomotopy1
import Derived.Test.YtffggocjkhcgeaaZIsHomotopy2
import Derived.Test.YtffggocjkhcgeaaZIsHomotopy3
import Derived.Test.YtffggocjkhcgeaaZIsHomotopy4
set_option linter.unusedVariables false
set_option linter.unusedSimpArgs false
namespace Go.Proofs.Ytffggocjkhcgeaa
open Go
theorem addFam_len (p k : Int) (f g : List (List (List Int))) : (addFam p k f g).length = f.length := by simp [addFam]
theorem addFam_rows (p k : Int) {f g : List (List (List Int))} {n : Nat} (hn : n < f.length) : ((addFam p k f g).getD n default).length = (f.getD n default).length := by
  rw [show (addFam p k f g).getD n default = addRows p k (f.getD n default) (g.getD n default) from getD_map_rangeA _ hn]
  simp [addRows]

set_option maxRecDepth 100000 in
set_option maxHeartbeats 4000000 in
theorem sHm_ok (vX vY vf vg vq : Value) (X : Cx) (Y : Cx) (f : List (List (List Int))) (g : List (List (List Int))) (q : List (List (List Int))) (h : Heap) (rX : RC h vX X) (rY : RC h vY Y) (rf : R3 h vf f) (rg : R3 h vg g) (rq : R3 h vq q)  : CallA Try.prog 56 #[vX, vY, vf, vg, vq] h fun v' h' => v' = .tuple #[.bool ((hmP X Y f g q).1), .int .i64 ((hmP X Y f g q).2)] ∧ Ext h h' := by
  obtain ⟨vdX, vmX, rfl, hdX, hmX⟩ := rX
  have hledX := RdS.le hdX
  have hlemX := RdS.le hmX
  obtain ⟨vdY, vmY, rfl, hdY, hmY⟩ := rY
  have hledY := RdS.le hdY
  have hlemY := RdS.le hmY
  have hlef := RdS.le rf
  have hleg := RdS.le rg
  have hleq := RdS.le rq
  refine callA_intro TTok (args := [_, _, _, _, _]) Try.func56 (by kernel_rfl) rfl 134 rfl (by simp) [.tmp 10, .tmp 11] rfl ?_
  simp only [idxs, Nat.reduceAdd]
  refine den_seq ?_
  refine den_region TTok ?_
  intro K hK
  simp -implicitDefEqProofs (disch := first | decide | assumption | omega) only [go_sem, RdS.len hdX sl22, RdS.idx hdX sl22, R1.intB hdX (HPres.refl _), RdS.cells hdX, RdS.len hmX sl23, RdS.idx hmX sl23, RdS.cellB hmX (HPres.refl _), RdS.cells hmX, RdS.len hdY sl22, RdS.idx hdY sl22, R1.intB hdY (HPres.refl _), RdS.cells hdY, RdS.len hmY sl23, RdS.idx hmY sl23, RdS.cellB hmY (HPres.refl _), RdS.cells hmY, RdS.len rf sl23, RdS.idx rf sl23, RdS.cellB rf (HPres.refl _), RdS.cells rf, RdS.len rg sl23, RdS.idx rg sl23, RdS.cellB rg (HPres.refl _), RdS.cells rg, RdS.len rq sl23, RdS.idx rq sl23, RdS.cellB rq (HPres.refl _), RdS.cells rq, wrap_id, Int.add_sub_cancel]
  refine op_box (cs := #[.int .i64 (X.p), vdX, vmX]) rfl ?_
  intro h0_0 e0_0 hb0_0 z0_0
  have := Ext.size e0_0
  have eB := e0_0
  have hfhb0_0 : Fresh h.size [h.size] := Fresh.one _
  have hlhb0_0 := one_lt (show h.size < h0_0.size by omega)
  try simp -implicitDefEqProofs (disch := first | decide | assumption | omega) only [go_sem, RdS.len hdX sl22, RdS.idx hdX sl22, R1.intB hdX (Ext.pres eB), RdS.cells hdX, RdS.len hmX sl23, RdS.idx hmX sl23, RdS.cellB hmX (Ext.pres eB), RdS.cells hmX, RdS.len hdY sl22, RdS.idx hdY sl22, R1.intB hdY (Ext.pres eB), RdS.cells hdY, RdS.len hmY sl23, RdS.idx hmY sl23, RdS.cellB hmY (Ext.pres eB), RdS.cells hmY, RdS.len rf sl23, RdS.idx rf sl23, RdS.cellB rf (Ext.pres eB), RdS.cells rf, RdS.len rg sl23, RdS.idx rg sl23, RdS.cellB rg (Ext.pres eB), RdS.cells rg, RdS.len rq sl23, RdS.idx rq sl23, RdS.cellB rq (Ext.pres eB), RdS.cells rq, BoxAt.cell hb0_0, wrap_id, Int.add_sub_cancel]
  refine op_box (cs := #[.int .i64 (Y.p), vdY, vmY]) rfl ?_
  intro h0_1 e0_1 hb0_1 z0_1
  replace hb0_0 := BoxAt.ext hb0_0 e0_1
  have := Ext.size e0_1
  replace eB := Ext.trans eB e0_1
  have hfhb0_1 : Fresh h0_0.size [h0_0.size] := Fresh.one _
  have hlhb0_1 := one_lt (show h0_0.size < h0_1.size by omega)
  try simp -implicitDefEqProofs (disch := first | decide | assumption | omega) only [go_sem, RdS.len hdX sl22, RdS.idx hdX sl22, R1.intB hdX (Ext.pres eB), RdS.cells hdX, RdS.len hmX sl23, RdS.idx hmX sl23, RdS.cellB hmX (Ext.pres eB), RdS.cells hmX, RdS.len hdY sl22, RdS.idx hdY sl22, R1.intB hdY (Ext.pres eB), RdS.cells hdY, RdS.len hmY sl23, RdS.idx hmY sl23, RdS.cellB hmY (Ext.pres eB), RdS.cells hmY, RdS.len rf sl23, RdS.idx rf sl23, RdS.cellB rf (Ext.pres eB), RdS.cells rf, RdS.len rg sl23, RdS.idx rg sl23, RdS.cellB rg (Ext.pres eB), RdS.cells rg, RdS.len rq sl23, RdS.idx rq sl23, RdS.cellB rq (Ext.pres eB), RdS.cells rq, BoxAt.cell hb0_0, BoxAt.cell hb0_1, wrap_id, Int.add_sub_cancel]
  refine hK _ _ ?_
  clear hK K
  refine den_seq ?_
  refine den_region TTok ?_
  intro K hK
  simp -implicitDefEqProofs (disch := first | decide | assumption | omega) only [go_sem, ld30, RdS.len hdX sl22, RdS.idx hdX sl22, R1.intB hdX (Ext.pres eB), RdS.cells hdX, RdS.len hmX sl23, RdS.idx hmX sl23, RdS.cellB hmX (Ext.pres eB), RdS.cells hmX, RdS.len hdY sl22, RdS.idx hdY sl22, R1.intB hdY (Ext.pres eB), RdS.cells hdY, RdS.len hmY sl23, RdS.idx hmY sl23, RdS.cellB hmY (Ext.pres eB), RdS.cells hmY, RdS.len rf sl23, RdS.idx rf sl23, RdS.cellB rf (Ext.pres eB), RdS.cells rf, RdS.len rg sl23, RdS.idx rg sl23, RdS.cellB rg (Ext.pres eB), RdS.cells rg, RdS.len rq sl23, RdS.idx rq sl23, RdS.cellB rq (Ext.pres eB), RdS.cells rq, BoxAt.cell hb0_0, BoxAt.cell hb0_1, wrap_id, Int.add_sub_cancel]
  refine op_bs2F (RdS.pres rf (Ext.pres eB)) (RdS.pres rg (Ext.pres eB)) ?_
  intro v1_4 h1_4 ho1_4 e1_4
  replace hb0_0 := BoxAt.ext hb0_0 e1_4
  replace hb0_1 := BoxAt.ext hb0_1 e1_4
  have := Ext.size e1_4
  replace eB := Ext.trans eB e1_4
  have xr1 := Ext.refl h1_4
  try simp -implicitDefEqProofs (disch := first | decide | assumption | omega) only [go_sem, RdS.len hdX sl22, RdS.idx hdX sl22, R1.intB hdX (Ext.pres eB), RdS.cells hdX, RdS.len hmX sl23, RdS.idx hmX sl23, RdS.cellB hmX (Ext.pres eB), RdS.cells hmX, RdS.len hdY sl22, RdS.idx hdY sl22, R1.intB hdY (Ext.pres eB), RdS.cells hdY, RdS.len hmY sl23, RdS.idx hmY sl23, RdS.cellB hmY (Ext.pres eB), RdS.cells hmY, RdS.len rf sl23, RdS.idx rf sl23, RdS.cellB rf (Ext.pres eB), RdS.cells rf, RdS.len rg sl23, RdS.idx rg sl23, RdS.cellB rg (Ext.pres eB), RdS.cells rg, RdS.len rq sl23, RdS.idx rq sl23, RdS.cellB rq (Ext.pres eB), RdS.cells rq, BoxAt.cell hb0_0, BoxAt.cell hb0_1, RdS.len ho1_4 sl114, RdS.idx ho1_4 sl114, RdS.cellB ho1_4 (Ext.pres xr1), RdS.cells ho1_4, wrap_id, Int.add_sub_cancel]
  try simp -implicitDefEqProofs (disch := first | decide | assumption | omega) only [go_sem, RdS.len hdX sl22, RdS.idx hdX sl22, R1.intB hdX (Ext.pres eB), RdS.cells hdX, RdS.len hmX sl23, RdS.idx hmX sl23, RdS.cellB hmX (Ext.pres eB), RdS.cells hmX, RdS.len hdY sl22, RdS.idx hdY sl22, R1.intB hdY (Ext.pres eB), RdS.cells hdY, RdS.len hmY sl23, RdS.idx hmY sl23, RdS.cellB hmY (Ext.pres eB), RdS.cells hmY, RdS.len rf sl23, RdS.idx rf sl23, RdS.cellB rf (Ext.pres eB), RdS.cells rf, RdS.len rg sl23, RdS.idx rg sl23, RdS.cellB rg (Ext.pres eB), RdS.cells rg, RdS.len rq sl23, RdS.idx rq sl23, RdS.cellB rq (Ext.pres eB), RdS.cells rq, BoxAt.cell hb0_0, BoxAt.cell hb0_1, RdS.len ho1_4 sl114, RdS.idx ho1_4 sl114, RdS.cellB ho1_4 (Ext.pres xr1), RdS.cells ho1_4, wrap_id, Int.add_sub_cancel]
  refine CallA.mono (sFamC_ok _ _ _ X Y ([f, g]) _ ⟨_, _, rfl, (RdS.pres hdX (Ext.pres eB)), (RdS.pres hmX (Ext.pres eB))⟩ ⟨_, _, rfl, (RdS.pres hdY (Ext.pres eB)), (RdS.pres hmY (Ext.pres eB))⟩ (RdS.pres ho1_4 (Ext.pres xr1)) ) ?_
  intro v_ h1_5
  rintro ⟨rfl, e1_5⟩
  replace hb0_0 := BoxAt.ext hb0_0 e1_5
  replace hb0_1 := BoxAt.ext hb0_1 e1_5
  have := Ext.size e1_5
  replace eB := Ext.trans eB e1_5
  replace xr1 := Ext.trans xr1 e1_5
  try simp -implicitDefEqProofs (disch := first | decide | assumption | omega) only [go_sem, RdS.len hdX sl22, RdS.idx hdX sl22, R1.intB hdX (Ext.pres eB), RdS.cells hdX, RdS.len hmX sl23, RdS.idx hmX sl23, RdS.cellB hmX (Ext.pres eB), RdS.cells hmX, RdS.len hdY sl22, RdS.idx hdY sl22, R1.intB hdY (Ext.pres eB), RdS.cells hdY, RdS.len hmY sl23, RdS.idx hmY sl23, RdS.cellB hmY (Ext.pres eB), RdS.cells hmY, RdS.len rf sl23, RdS.idx rf sl23, RdS.cellB rf (Ext.pres eB), RdS.cells rf, RdS.len rg sl23, RdS.idx rg sl23, RdS.cellB rg (Ext.pres eB), RdS.cells rg, RdS.len rq sl23, RdS.idx rq sl23, RdS.cellB rq (Ext.pres eB), RdS.cells rq, BoxAt.cell hb0_0, BoxAt.cell hb0_1, RdS.len ho1_4 sl114, RdS.idx ho1_4 sl114, RdS.cellB ho1_4 (Ext.pres xr1), RdS.cells ho1_4, wrap_id, Int.add_sub_cancel]
  refine hK _ _ ?_
  clear hK K
  refine den_seq ?_
  refine den_seq ?_
  refine den_merge [(33, .bool ((((famC X Y ([f, g])) == (0 : Int)) && (!((famP X Y q (1 : Int)))))))] [2, 3, 4, 5, 6, 12] (fun H => Ext h1_5 H) ?_ ?_
    -- a way
  · refine den_region TTok ?_
    intro K hK
    simp -implicitDefEqProofs (disch := first | decide | assumption | (simp (disch := decide) only [slotOf_zero, slotOf_succ, Option.map_some, puts_same, puts_ne, gv_bool, gv_undef, tt, tf, ft, ff, eq_self, if_true, if_false, Bool.false_eq_true, Bool.not_true, Bool.not_false]; done) | omega) only [go_sem, RdS.len hdX sl22, RdS.idx hdX sl22, R1.intB hdX (Ext.pres eB), RdS.cells hdX, RdS.len hmX sl23, RdS.idx hmX sl23, RdS.cellB hmX (Ext.pres eB), RdS.cells hmX, RdS.len hdY sl22, RdS.idx hdY sl22, R1.intB hdY (Ext.pres eB), RdS.cells hdY, RdS.len hmY sl23, RdS.idx hmY sl23, RdS.cellB hmY (Ext.pres eB), RdS.cells hmY, RdS.len rf sl23, RdS.idx rf sl23, RdS.cellB rf (Ext.pres eB), RdS.cells rf, RdS.len rg sl23, RdS.idx rg sl23, RdS.cellB rg (Ext.pres eB), RdS.cells rg, RdS.len rq sl23, RdS.idx rq sl23, RdS.cellB rq (Ext.pres eB), RdS.cells rq, BoxAt.cell hb0_0, BoxAt.cell hb0_1, RdS.len ho1_4 sl114, RdS.idx ho1_4 sl114, RdS.cellB ho1_4 (Ext.pres xr1), RdS.cells ho1_4, wrap_id, Int.add_sub_cancel]
    refine opsP_T (by simp (disch := decide) only [slotOf_zero, slotOf_succ, Option.map_some, puts_same, puts_ne, gv_bool, gv_undef, tt, tf, ft, ff, eq_self, if_true, if_false, Bool.false_eq_true, Bool.not_true, Bool.not_false]; rfl) (fun g2 => ?_) (fun g2 => ?_)
    · obtain ⟨h1_, _⟩ := famC_0 (b0 g2)
      obtain ⟨hX, hY, hpp, hll⟩ := pairC_0 h1_
      have hpb := isP_bnd hX.p
      try simp -implicitDefEqProofs (disch := first | decide | assumption | (simp (disch := decide) only [slotOf_zero, slotOf_succ, Option.map_some, puts_same, puts_ne, gv_bool, gv_undef, tt, tf, ft, ff, eq_self, if_true, if_false, Bool.false_eq_true, Bool.not_true, Bool.not_false, g2]; done) | omega) only [go_sem, ld30, RdS.len hdX sl22, RdS.idx hdX sl22, R1.intB hdX (Ext.pres eB), RdS.cells hdX, RdS.len hmX sl23, RdS.idx hmX sl23, RdS.cellB hmX (Ext.pres eB), RdS.cells hmX, RdS.len hdY sl22, RdS.idx hdY sl22, R1.intB hdY (Ext.pres eB), RdS.cells hdY, RdS.len hmY sl23, RdS.idx hmY sl23, RdS.cellB hmY (Ext.pres eB), RdS.cells hmY, RdS.len rf sl23, RdS.idx rf sl23, RdS.cellB rf (Ext.pres eB), RdS.cells rf, RdS.len rg sl23, RdS.idx rg sl23, RdS.cellB rg (Ext.pres eB), RdS.cells rg, RdS.len rq sl23, RdS.idx rq sl23, RdS.cellB rq (Ext.pres eB), RdS.cells rq, BoxAt.cell hb0_0, BoxAt.cell hb0_1, RdS.len ho1_4 sl114, RdS.idx ho1_4 sl114, RdS.cellB ho1_4 (Ext.pres xr1), RdS.cells ho1_4, wrap_id, Int.add_sub_cancel, g2, eq_self, if_true, if_false, Bool.false_eq_true]
      try simp -implicitDefEqProofs (disch := first | decide | assumption | omega) only [go_sem, RdS.len hdX sl22, RdS.idx hdX sl22, R1.intB hdX (Ext.pres eB), RdS.cells hdX, RdS.len hmX sl23, RdS.idx hmX sl23, RdS.cellB hmX (Ext.pres eB), RdS.cells hmX, RdS.len hdY sl22, RdS.idx hdY sl22, R1.intB hdY (Ext.pres eB), RdS.cells hdY, RdS.len hmY sl23, RdS.idx hmY sl23, RdS.cellB hmY (Ext.pres eB), RdS.cells hmY, RdS.len rf sl23, RdS.idx rf sl23, RdS.cellB rf (Ext.pres eB), RdS.cells rf, RdS.len rg sl23, RdS.idx rg sl23, RdS.cellB rg (Ext.pres eB), RdS.cells rg, RdS.len rq sl23, RdS.idx rq sl23, RdS.cellB rq (Ext.pres eB), RdS.cells rq, BoxAt.cell hb0_0, BoxAt.cell hb0_1, RdS.len ho1_4 sl114, RdS.idx ho1_4 sl114, RdS.cellB ho1_4 (Ext.pres xr1), RdS.cells ho1_4, wrap_id, Int.add_sub_cancel]
      refine CallA.mono (sFam_ok _ _ _ X Y q (1 : Int) _ ⟨_, _, rfl, (RdS.pres hdX (Ext.pres eB)), (RdS.pres hmX (Ext.pres eB))⟩ ⟨_, _, rfl, (RdS.pres hdY (Ext.pres eB)), (RdS.pres hmY (Ext.pres eB))⟩ (RdS.pres rq (Ext.pres eB)) hX (by omega)) ?_
      intro v_ h2_6
      rintro ⟨rfl, e2_6⟩
      replace hb0_0 := BoxAt.ext hb0_0 e2_6
      replace hb0_1 := BoxAt.ext hb0_1 e2_6
      have := Ext.size e2_6
      replace eB := Ext.trans eB e2_6
      replace xr1 := Ext.trans xr1 e2_6
      try simp -implicitDefEqProofs (disch := first | decide | assumption | (simp (disch := decide) only [slotOf_zero, slotOf_succ, Option.map_some, puts_same, puts_ne, gv_bool, gv_undef, tt, tf, ft, ff, eq_self, if_true, if_false, Bool.false_eq_true, Bool.not_true, Bool.not_false, g2]; done) | omega) only [go_sem, RdS.len hdX sl22, RdS.idx hdX sl22, R1.intB hdX (Ext.pres eB), RdS.cells hdX, RdS.len hmX sl23, RdS.idx hmX sl23, RdS.cellB hmX (Ext.pres eB), RdS.cells hmX, RdS.len hdY sl22, RdS.idx hdY sl22, R1.intB hdY (Ext.pres eB), RdS.cells hdY, RdS.len hmY sl23, RdS.idx hmY sl23, RdS.cellB hmY (Ext.pres eB), RdS.cells hmY, RdS.len rf sl23, RdS.idx rf sl23, RdS.cellB rf (Ext.pres eB), RdS.cells rf, RdS.len rg sl23, RdS.idx rg sl23, RdS.cellB rg (Ext.pres eB), RdS.cells rg, RdS.len rq sl23, RdS.idx rq sl23, RdS.cellB rq (Ext.pres eB), RdS.cells rq, BoxAt.cell hb0_0, BoxAt.cell hb0_1, RdS.len ho1_4 sl114, RdS.idx ho1_4 sl114, RdS.cellB ho1_4 (Ext.pres xr1), RdS.cells ho1_4, wrap_id, Int.add_sub_cancel, g2, eq_self, if_true, if_false, Bool.false_eq_true]
      refine hK _ _ ?_
      clear hK K
      refine den_stop ?_
      refine ⟨?_, e2_6⟩
      first | (simp (disch := decide) only [go_sem, g2, eq_self, Bool.true_and, Bool.and_true, Bool.false_and, Bool.and_false, Bool.true_or, Bool.or_true, Bool.false_or, Bool.or_false, if_true, if_false, Bool.false_eq_true]; done) | simp [HasL, sel, puts_at, g2]
    · try simp -implicitDefEqProofs (disch := first | decide | assumption | (simp (disch := decide) only [slotOf_zero, slotOf_succ, Option.map_some, puts_same, puts_ne, gv_bool, gv_undef, tt, tf, ft, ff, eq_self, if_true, if_false, Bool.false_eq_true, Bool.not_true, Bool.not_false, g2]; done) | omega) only [go_sem, RdS.len hdX sl22, RdS.idx hdX sl22, R1.intB hdX (Ext.pres eB), RdS.cells hdX, RdS.len hmX sl23, RdS.idx hmX sl23, RdS.cellB hmX (Ext.pres eB), RdS.cells hmX, RdS.len hdY sl22, RdS.idx hdY sl22, R1.intB hdY (Ext.pres eB), RdS.cells hdY, RdS.len hmY sl23, RdS.idx hmY sl23, RdS.cellB hmY (Ext.pres eB), RdS.cells hmY, RdS.len rf sl23, RdS.idx rf sl23, RdS.cellB rf (Ext.pres eB), RdS.cells rf, RdS.len rg sl23, RdS.idx rg sl23, RdS.cellB rg (Ext.pres eB), RdS.cells rg, RdS.len rq sl23, RdS.idx rq sl23, RdS.cellB rq (Ext.pres eB), RdS.cells rq, BoxAt.cell hb0_0, BoxAt.cell hb0_1, RdS.len ho1_4 sl114, RdS.idx ho1_4 sl114, RdS.cellB ho1_4 (Ext.pres xr1), RdS.cells ho1_4, wrap_id, Int.add_sub_cancel, g2, eq_self, if_true, if_false, Bool.false_eq_true]
      refine hK _ _ ?_
      clear hK K
      refine den_stop ?_
      refine ⟨?_, Ext.refl _⟩
      first | (simp (disch := decide) only [go_sem, g2, eq_self, Bool.true_and, Bool.and_true, Bool.false_and, Bool.and_false, Bool.true_or, Bool.or_true, Bool.false_or, Bool.or_false, if_true, if_false, Bool.false_eq_true]; done) | simp [HasL, sel, puts_at, g2]
  intro en3 h4 e5
  replace hb0_0 := BoxAt.ext hb0_0 e5
  replace hb0_1 := BoxAt.ext hb0_1 e5
  have := Ext.size e5
  replace eB := Ext.trans eB e5
  replace xr1 := Ext.trans xr1 e5
  simp (disch := decide) only [go_sem]
  refine den_mergeH [(12, .int .i64 ((cadd (famC X Y ([f, g])) (2 : Int) (!((famP X Y q (1 : Int)))))))] [2, 3, 4, 5, 6] ?_ ?_
  · refine den_cond rfl (fun c0 => ?_) (fun c0 => ?_)
    · refine den_region TTok ?_
      intro K hK
      simp -implicitDefEqProofs (disch := first | decide | assumption | omega) only [go_sem, RdS.len hdX sl22, RdS.idx hdX sl22, R1.intB hdX (Ext.pres eB), RdS.cells hdX, RdS.len hmX sl23, RdS.idx hmX sl23, RdS.cellB hmX (Ext.pres eB), RdS.cells hmX, RdS.len hdY sl22, RdS.idx hdY sl22, R1.intB hdY (Ext.pres eB), RdS.cells hdY, RdS.len hmY sl23, RdS.idx hmY sl23, RdS.cellB hmY (Ext.pres eB), RdS.cells hmY, RdS.len rf sl23, RdS.idx rf sl23, RdS.cellB rf (Ext.pres eB), RdS.cells rf, RdS.len rg sl23, RdS.idx rg sl23, RdS.cellB rg (Ext.pres eB), RdS.cells rg, RdS.len rq sl23, RdS.idx rq sl23, RdS.cellB rq (Ext.pres eB), RdS.cells rq, BoxAt.cell hb0_0, BoxAt.cell hb0_1, RdS.len ho1_4 sl114, RdS.idx ho1_4 sl114, RdS.cellB ho1_4 (Ext.pres xr1), RdS.cells ho1_4, wrap_id, Int.add_sub_cancel]
      refine hK _ _ ?_
      clear hK K
      refine den_stop ?_
      refine ⟨?_, rfl⟩; simp (disch := decide) only [go_sem, c0, caddT c0, eq_self, if_true, if_false, Bool.false_eq_true, reduceCtorEq]
    · refine den_skip ?_
      refine den_stop ?_
      refine ⟨?_, rfl⟩; simp (disch := decide) only [go_sem, c0, caddF c0, eq_self, if_true, if_false, Bool.false_eq_true, reduceCtorEq]
  intro en6
  simp (disch := decide) only [go_sem]
  refine den_seq ?_
  refine den_seq ?_
  refine den_region TTok ?_
  intro K hK
  simp -implicitDefEqProofs (disch := first | decide | assumption | omega) only [go_sem, RdS.len hdX sl22, RdS.idx hdX sl22, R1.intB hdX (Ext.pres eB), RdS.cells hdX, RdS.len hmX sl23, RdS.idx hmX sl23, RdS.cellB hmX (Ext.pres eB), RdS.cells hmX, RdS.len hdY sl22, RdS.idx hdY sl22, R1.intB hdY (Ext.pres eB), RdS.cells hdY, RdS.len hmY sl23, RdS.idx hmY sl23, RdS.cellB hmY (Ext.pres eB), RdS.cells hmY, RdS.len rf sl23, RdS.idx rf sl23, RdS.cellB rf (Ext.pres eB), RdS.cells rf, RdS.len rg sl23, RdS.idx rg sl23, RdS.cellB rg (Ext.pres eB), RdS.cells rg, RdS.len rq sl23, RdS.idx rq sl23, RdS.cellB rq (Ext.pres eB), RdS.cells rq, BoxAt.cell hb0_0, BoxAt.cell hb0_1, RdS.len ho1_4 sl114, RdS.idx ho1_4 sl114, RdS.cellB ho1_4 (Ext.pres xr1), RdS.cells ho1_4, wrap_id, Int.add_sub_cancel]
  refine hK _ _ ?_
  clear hK K
  refine den_cond rfl (fun c1 => ?_) (fun c1 => ?_)
  · try simp only [decide_eq_true_eq, decide_eq_false_iff_not, beq_iff_eq, beq_eq_false_iff_ne, bne_iff_ne, ne_eq, Bool.not_eq_true', Bool.not_eq_false', Bool.and_eq_true, Bool.or_eq_true, bne_eq_false_iff_eq] at c1
    obtain ⟨h1_, h4_⟩ := (cadd_0 (by decide)).1 c1
    refine den_region TTok ?_
    intro K hK
    simp -implicitDefEqProofs (disch := first | decide | assumption | omega) only [go_sem, ld30, RdS.len hdX sl22, RdS.idx hdX sl22, R1.intB hdX (Ext.pres eB), RdS.cells hdX, RdS.len hmX sl23, RdS.idx hmX sl23, RdS.cellB hmX (Ext.pres eB), RdS.cells hmX, RdS.len hdY sl22, RdS.idx hdY sl22, R1.intB hdY (Ext.pres eB), RdS.cells hdY, RdS.len hmY sl23, RdS.idx hmY sl23, RdS.cellB hmY (Ext.pres eB), RdS.cells hmY, RdS.len rf sl23, RdS.idx rf sl23, RdS.cellB rf (Ext.pres eB), RdS.cells rf, RdS.len rg sl23, RdS.idx rg sl23, RdS.cellB rg (Ext.pres eB), RdS.cells rg, RdS.len rq sl23, RdS.idx rq sl23, RdS.cellB rq (Ext.pres eB), RdS.cells rq, BoxAt.cell hb0_0, BoxAt.cell hb0_1, RdS.len ho1_4 sl114, RdS.idx ho1_4 sl114, RdS.cellB ho1_4 (Ext.pres xr1), RdS.cells ho1_4, wrap_id, Int.add_sub_cancel]
    refine op_bs2F (RdS.pres rf (Ext.pres eB)) (RdS.pres rg (Ext.pres eB)) ?_
    intro v5_4 h5_4 ho5_4 e5_4
    replace hb0_0 := BoxAt.ext hb0_0 e5_4
    replace hb0_1 := BoxAt.ext hb0_1 e5_4
    have := Ext.size e5_4
    replace eB := Ext.trans eB e5_4
    replace xr1 := Ext.trans xr1 e5_4
    have xr7 := Ext.refl h5_4
    try simp -implicitDefEqProofs (disch := first | decide | assumption | omega) only [go_sem, RdS.len hdX sl22, RdS.idx hdX sl22, R1.intB hdX (Ext.pres eB), RdS.cells hdX, RdS.len hmX sl23, RdS.idx hmX sl23, RdS.cellB hmX (Ext.pres eB), RdS.cells hmX, RdS.len hdY sl22, RdS.idx hdY sl22, R1.intB hdY (Ext.pres eB), RdS.cells hdY, RdS.len hmY sl23, RdS.idx hmY sl23, RdS.cellB hmY (Ext.pres eB), RdS.cells hmY, RdS.len rf sl23, RdS.idx rf sl23, RdS.cellB rf (Ext.pres eB), RdS.cells rf, RdS.len rg sl23, RdS.idx rg sl23, RdS.cellB rg (Ext.pres eB), RdS.cells rg, RdS.len rq sl23, RdS.idx rq sl23, RdS.cellB rq (Ext.pres eB), RdS.cells rq, BoxAt.cell hb0_0, BoxAt.cell hb0_1, RdS.len ho1_4 sl114, RdS.idx ho1_4 sl114, RdS.cellB ho1_4 (Ext.pres xr1), RdS.cells ho1_4, RdS.len ho5_4 sl114, RdS.idx ho5_4 sl114, RdS.cellB ho5_4 (Ext.pres xr7), RdS.cells ho5_4, wrap_id, Int.add_sub_cancel]
    try simp -implicitDefEqProofs (disch := first | decide | assumption | omega) only [go_sem, RdS.len hdX sl22, RdS.idx hdX sl22, R1.intB hdX (Ext.pres eB), RdS.cells hdX, RdS.len hmX sl23, RdS.idx hmX sl23, RdS.cellB hmX (Ext.pres eB), RdS.cells hmX, RdS.len hdY sl22, RdS.idx hdY sl22, R1.intB hdY (Ext.pres eB), RdS.cells hdY, RdS.len hmY sl23, RdS.idx hmY sl23, RdS.cellB hmY (Ext.pres eB), RdS.cells hmY, RdS.len rf sl23, RdS.idx rf sl23, RdS.cellB rf (Ext.pres eB), RdS.cells rf, RdS.len rg sl23, RdS.idx rg sl23, RdS.cellB rg (Ext.pres eB), RdS.cells rg, RdS.len rq sl23, RdS.idx rq sl23, RdS.cellB rq (Ext.pres eB), RdS.cells rq, BoxAt.cell hb0_0, BoxAt.cell hb0_1, RdS.len ho1_4 sl114, RdS.idx ho1_4 sl114, RdS.cellB ho1_4 (Ext.pres xr1), RdS.cells ho1_4, RdS.len ho5_4 sl114, RdS.idx ho5_4 sl114, RdS.cellB ho5_4 (Ext.pres xr7), RdS.cells ho5_4, wrap_id, Int.add_sub_cancel]
    refine CallA.mono (sChnC_ok _ _ _ X Y ([f, g]) _ ⟨_, _, rfl, (RdS.pres hdX (Ext.pres eB)), (RdS.pres hmX (Ext.pres eB))⟩ ⟨_, _, rfl, (RdS.pres hdY (Ext.pres eB)), (RdS.pres hmY (Ext.pres eB))⟩ (RdS.pres ho5_4 (Ext.pres xr7)) ) ?_
    intro v_ h5_5
    rintro ⟨rfl, e5_5⟩
    replace hb0_0 := BoxAt.ext hb0_0 e5_5
    replace hb0_1 := BoxAt.ext hb0_1 e5_5
    have := Ext.size e5_5
    replace eB := Ext.trans eB e5_5
    replace xr1 := Ext.trans xr1 e5_5
    replace xr7 := Ext.trans xr7 e5_5
    try simp -implicitDefEqProofs (disch := first | decide | assumption | omega) only [go_sem, RdS.len hdX sl22, RdS.idx hdX sl22, R1.intB hdX (Ext.pres eB), RdS.cells hdX, RdS.len hmX sl23, RdS.idx hmX sl23, RdS.cellB hmX (Ext.pres eB), RdS.cells hmX, RdS.len hdY sl22, RdS.idx hdY sl22, R1.intB hdY (Ext.pres eB), RdS.cells hdY, RdS.len hmY sl23, RdS.idx hmY sl23, RdS.cellB hmY (Ext.pres eB), RdS.cells hmY, RdS.len rf sl23, RdS.idx rf sl23, RdS.cellB rf (Ext.pres eB), RdS.cells rf, RdS.len rg sl23, RdS.idx rg sl23, RdS.cellB rg (Ext.pres eB), RdS.cells rg, RdS.len rq sl23, RdS.idx rq sl23, RdS.cellB rq (Ext.pres eB), RdS.cells rq, BoxAt.cell hb0_0, BoxAt.cell hb0_1, RdS.len ho1_4 sl114, RdS.idx ho1_4 sl114, RdS.cellB ho1_4 (Ext.pres xr1), RdS.cells ho1_4, RdS.len ho5_4 sl114, RdS.idx ho5_4 sl114, RdS.cellB ho5_4 (Ext.pres xr7), RdS.cells ho5_4, wrap_id, Int.add_sub_cancel]
    refine hK _ _ ?_
    clear hK K
    refine den_seq ?_
    refine den_seq ?_
    refine den_region TTok ?_
    intro K hK
    simp -implicitDefEqProofs (disch := first | decide | assumption | omega) only [go_sem, RdS.len hdX sl22, RdS.idx hdX sl22, R1.intB hdX (Ext.pres eB), RdS.cells hdX, RdS.len hmX sl23, RdS.idx hmX sl23, RdS.cellB hmX (Ext.pres eB), RdS.cells hmX, RdS.len hdY sl22, RdS.idx hdY sl22, R1.intB hdY (Ext.pres eB), RdS.cells hdY, RdS.len hmY sl23, RdS.idx hmY sl23, RdS.cellB hmY (Ext.pres eB), RdS.cells hmY, RdS.len rf sl23, RdS.idx rf sl23, RdS.cellB rf (Ext.pres eB), RdS.cells rf, RdS.len rg sl23, RdS.idx rg sl23, RdS.cellB rg (Ext.pres eB), RdS.cells rg, RdS.len rq sl23, RdS.idx rq sl23, RdS.cellB rq (Ext.pres eB), RdS.cells rq, BoxAt.cell hb0_0, BoxAt.cell hb0_1, RdS.len ho1_4 sl114, RdS.idx ho1_4 sl114, RdS.cellB ho1_4 (Ext.pres xr1), RdS.cells ho1_4, RdS.len ho5_4 sl114, RdS.idx ho5_4 sl114, RdS.cellB ho5_4 (Ext.pres xr7), RdS.cells ho5_4, wrap_id, Int.add_sub_cancel]
    refine hK _ _ ?_
    clear hK K
    refine den_cond rfl (fun c2 => ?_) (fun c2 => ?_)
    · try simp only [decide_eq_true_eq, decide_eq_false_iff_not, beq_iff_eq, beq_eq_false_iff_ne, bne_iff_ne, ne_eq, Bool.not_eq_true', Bool.not_eq_false', Bool.and_eq_true, Bool.or_eq_true, bne_eq_false_iff_eq] at c2
      refine den_seq ?_
      refine den_region TTok ?_
      intro K hK
      simp -implicitDefEqProofs (disch := first | decide | assumption | omega) only [go_sem, RdS.len hdX sl22, RdS.idx hdX sl22, R1.intB hdX (Ext.pres eB), RdS.cells hdX, RdS.len hmX sl23, RdS.idx hmX sl23, RdS.cellB hmX (Ext.pres eB), RdS.cells hmX, RdS.len hdY sl22, RdS.idx hdY sl22, R1.intB hdY (Ext.pres eB), RdS.cells hdY, RdS.len hmY sl23, RdS.idx hmY sl23, RdS.cellB hmY (Ext.pres eB), RdS.cells hmY, RdS.len rf sl23, RdS.idx rf sl23, RdS.cellB rf (Ext.pres eB), RdS.cells rf, RdS.len rg sl23, RdS.idx rg sl23, RdS.cellB rg (Ext.pres eB), RdS.cells rg, RdS.len rq sl23, RdS.idx rq sl23, RdS.cellB rq (Ext.pres eB), RdS.cells rq, RdS.len ho1_4 sl114, RdS.idx ho1_4 sl114, RdS.cellB ho1_4 (Ext.pres xr1), RdS.cells ho1_4, RdS.len ho5_4 sl114, RdS.idx ho5_4 sl114, RdS.cellB ho5_4 (Ext.pres xr7), RdS.cells ho5_4, wrap_id, Int.add_sub_cancel]
      refine hK _ _ ?_
      clear hK K
      refine den_ret ?_
      simp (disch := decide) only [resP_2, puts_same, puts_ne]
      have e : hmC X Y f g q = chnC X Y [f, g] := by show (if cadd (famC X Y [f, g]) 2 (!(famP X Y q 1)) = 0 then chnC X Y [f, g] else cadd (famC X Y [f, g]) 2 (!(famP X Y q 1))) = _; rw [if_pos c1]
      have hz : hmP X Y f g q = (false, chnC X Y [f, g]) := by rw [hmP, if_neg (by rw [e]; exact c2), e]
      exact ⟨by rw [hz], eB⟩
    · try simp only [decide_eq_true_eq, decide_eq_false_iff_not, beq_iff_eq, beq_eq_false_iff_ne, bne_iff_ne, ne_eq, Bool.not_eq_true', Bool.not_eq_false', Bool.and_eq_true, Bool.or_eq_true, bne_eq_false_iff_eq] at c2
      have hmz : hmC X Y f g q = 0 := by show (if cadd (famC X Y [f, g]) 2 (!(famP X Y q 1)) = 0 then chnC X Y [f, g] else cadd (famC X Y [f, g]) 2 (!(famP X Y q 1))) = 0; rw [if_pos c1]; exact c2
      have hk := hmC_0 hmz
      have hX := hk.cX
      have hY := hk.cY
      have hF := hk.cq
      have hpb := isP_bnd hX.p
      have hlX := hX.len
      have hlf := hk.cf.len
      have hlk := hk.l
      have hS := sumOk hX hY hk.cf hk.cg
      refine den_skip ?_
      refine den_seq ?_
      refine den_region TTok ?_
      intro K hK
      simp -implicitDefEqProofs (disch := first | decide | assumption | omega) only [go_sem, fa30_0, ld2, RdS.len hdX sl22, RdS.idx hdX sl22, R1.intB hdX (Ext.pres eB), RdS.cells hdX, RdS.len hmX sl23, RdS.idx hmX sl23, RdS.cellB hmX (Ext.pres eB), RdS.cells hmX, RdS.len hdY sl22, RdS.idx hdY sl22, R1.intB hdY (Ext.pres eB), RdS.cells hdY, RdS.len hmY sl23, RdS.idx hmY sl23, RdS.cellB hmY (Ext.pres eB), RdS.cells hmY, RdS.len rf sl23, RdS.idx rf sl23, RdS.cellB rf (Ext.pres eB), RdS.cells rf, RdS.len rg sl23, RdS.idx rg sl23, RdS.cellB rg (Ext.pres eB), RdS.cells rg, RdS.len rq sl23, RdS.idx rq sl23, RdS.cellB rq (Ext.pres eB), RdS.cells rq, BoxAt.cell hb0_0, BoxAt.cell hb0_1, RdS.len ho1_4 sl114, RdS.idx ho1_4 sl114, RdS.cellB ho1_4 (Ext.pres xr1), RdS.cells ho1_4, RdS.len ho5_4 sl114, RdS.idx ho5_4 sl114, RdS.cellB ho5_4 (Ext.pres xr7), RdS.cells ho5_4, wrap_id, Int.add_sub_cancel]
      try simp -implicitDefEqProofs (disch := first | decide | assumption | omega) only [go_sem, RdS.len hdX sl22, RdS.idx hdX sl22, R1.intB hdX (Ext.pres eB), RdS.cells hdX, RdS.len hmX sl23, RdS.idx hmX sl23, RdS.cellB hmX (Ext.pres eB), RdS.cells hmX, RdS.len hdY sl22, RdS.idx hdY sl22, R1.intB hdY (Ext.pres eB), RdS.cells hdY, RdS.len hmY sl23, RdS.idx hmY sl23, RdS.cellB hmY (Ext.pres eB), RdS.cells hmY, RdS.len rf sl23, RdS.idx rf sl23, RdS.cellB rf (Ext.pres eB), RdS.cells rf, RdS.len rg sl23, RdS.idx rg sl23, RdS.cellB rg (Ext.pres eB), RdS.cells rg, RdS.len rq sl23, RdS.idx rq sl23, RdS.cellB rq (Ext.pres eB), RdS.cells rq, BoxAt.cell hb0_0, BoxAt.cell hb0_1, RdS.len ho1_4 sl114, RdS.idx ho1_4 sl114, RdS.cellB ho1_4 (Ext.pres xr1), RdS.cells ho1_4, RdS.len ho5_4 sl114, RdS.idx ho5_4 sl114, RdS.cellB ho5_4 (Ext.pres xr7), RdS.cells ho5_4, wrap_id, Int.add_sub_cancel]
      refine CallA.mono (sSum_ok _ _ X.p f g (-1 : Int) _ (RdS.pres rf (Ext.pres eB)) (RdS.pres rg (Ext.pres eB)) hS (by omega) (by omega)) ?_
      intro vw8_4_0 h8_4
      rintro ⟨zvw8_4_0, fw8_4_0, rfl, how8_4_0, hfw8_4_0, e8_4⟩
      replace hb0_0 := BoxAt.ext hb0_0 e8_4
      replace hb0_1 := BoxAt.ext hb0_1 e8_4
      have := Ext.size e8_4
      replace eB := Ext.trans eB e8_4
      replace xr1 := Ext.trans xr1 e8_4
      replace xr7 := Ext.trans xr7 e8_4
      have hlhow8_4_0 := OS.lt how8_4_0
      try simp -implicitDefEqProofs (disch := first | decide | assumption | omega) only [go_sem, RdS.len hdX sl22, RdS.idx hdX sl22, R1.intB hdX (Ext.pres eB), RdS.cells hdX, RdS.len hmX sl23, RdS.idx hmX sl23, RdS.cellB hmX (Ext.pres eB), RdS.cells hmX, RdS.len hdY sl22, RdS.idx hdY sl22, R1.intB hdY (Ext.pres eB), RdS.cells hdY, RdS.len hmY sl23, RdS.idx hmY sl23, RdS.cellB hmY (Ext.pres eB), RdS.cells hmY, RdS.len rf sl23, RdS.idx rf sl23, RdS.cellB rf (Ext.pres eB), RdS.cells rf, RdS.len rg sl23, RdS.idx rg sl23, RdS.cellB rg (Ext.pres eB), RdS.cells rg, RdS.len rq sl23, RdS.idx rq sl23, RdS.cellB rq (Ext.pres eB), RdS.cells rq, RdS.len (OS.rd how8_4_0) sl23, RdS.idx (OS.rd how8_4_0) sl23, RdS.cellN (OS.rd how8_4_0), RdS.cells (OS.rd how8_4_0), BoxAt.cell hb0_0, BoxAt.cell hb0_1, RdS.len ho1_4 sl114, RdS.idx ho1_4 sl114, RdS.cellB ho1_4 (Ext.pres xr1), RdS.cells ho1_4, RdS.len ho5_4 sl114, RdS.idx ho5_4 sl114, RdS.cellB ho5_4 (Ext.pres xr7), RdS.cells ho5_4, wrap_id, Int.add_sub_cancel]
      refine hK _ _ ?_
      clear hK K
      refine den_seq ?_
      refine den_seq ?_
      refine den_region TTok ?_
      intro K hK
      simp -implicitDefEqProofs (disch := first | decide | assumption | omega) only [go_sem, RdS.len hdX sl22, RdS.idx hdX sl22, R1.intB hdX (Ext.pres eB), RdS.cells hdX, RdS.len hmX sl23, RdS.idx hmX sl23, RdS.cellB hmX (Ext.pres eB), RdS.cells hmX, RdS.len hdY sl22, RdS.idx hdY sl22, R1.intB hdY (Ext.pres eB), RdS.cells hdY, RdS.len hmY sl23, RdS.idx hmY sl23, RdS.cellB hmY (Ext.pres eB), RdS.cells hmY, RdS.len rf sl23, RdS.idx rf sl23, RdS.cellB rf (Ext.pres eB), RdS.cells rf, RdS.len rg sl23, RdS.idx rg sl23, RdS.cellB rg (Ext.pres eB), RdS.cells rg, RdS.len rq sl23, RdS.idx rq sl23, RdS.cellB rq (Ext.pres eB), RdS.cells rq, RdS.len (OS.rd how8_4_0) sl23, RdS.idx (OS.rd how8_4_0) sl23, RdS.cellN (OS.rd how8_4_0), RdS.cells (OS.rd how8_4_0), BoxAt.cell hb0_0, BoxAt.cell hb0_1, RdS.len ho1_4 sl114, RdS.idx ho1_4 sl114, RdS.cellB ho1_4 (Ext.pres xr1), RdS.cells ho1_4, RdS.len ho5_4 sl114, RdS.idx ho5_4 sl114, RdS.cellB ho5_4 (Ext.pres xr7), RdS.cells ho5_4, wrap_id, Int.add_sub_cancel]
      refine hK _ _ ?_
      clear hK K
      refine den_block ?_
      refine den_sel [14, 2, 4, 5, 6, 13] ?_
      intro env_8
      simp only [go_sem]
      refine den_loopS (σ := Nat) (fun st_ => [(14, .int .i64 (st_ : Int))]) (fun st_ H => (st_ ≤ X.dims.length) ∧ (∀ j, j < st_ → ∀ i : Nat, (i : Int) < X.dims.getD j 0 → homAt X Y f g q j i) ∧ (Ext h8_4 H)) (fun st_ => X.dims.length - st_) 0 ?_ ?_
      · exact ⟨by simp, fun j hj => by omega, Ext.refl _⟩
      · rintro n h11 ee10 ⟨hn, hz, cL9⟩
        replace how8_4_0 := OS.ext how8_4_0 cL9
        replace hb0_0 := BoxAt.ext hb0_0 cL9
        replace hb0_1 := BoxAt.ext hb0_1 cL9
        have := Ext.size cL9
        replace eB := Ext.trans eB cL9
        replace xr1 := Ext.trans xr1 cL9
        replace xr7 := Ext.trans xr7 cL9
        simp only [List.cons_append, List.nil_append]
        refine den_seq ?_
        refine den_seq ?_
        refine den_region TTok ?_
        intro K hK
        simp -implicitDefEqProofs (disch := first | decide | assumption | omega) only [go_sem, RdS.len hdX sl22, RdS.idx hdX sl22, R1.intB hdX (Ext.pres eB), RdS.cells hdX, RdS.len hmX sl23, RdS.idx hmX sl23, RdS.cellB hmX (Ext.pres eB), RdS.cells hmX, RdS.len hdY sl22, RdS.idx hdY sl22, R1.intB hdY (Ext.pres eB), RdS.cells hdY, RdS.len hmY sl23, RdS.idx hmY sl23, RdS.cellB hmY (Ext.pres eB), RdS.cells hmY, RdS.len rf sl23, RdS.idx rf sl23, RdS.cellB rf (Ext.pres eB), RdS.cells rf, RdS.len rg sl23, RdS.idx rg sl23, RdS.cellB rg (Ext.pres eB), RdS.cells rg, RdS.len rq sl23, RdS.idx rq sl23, RdS.cellB rq (Ext.pres eB), RdS.cells rq, RdS.len (OS.rd how8_4_0) sl23, RdS.idx (OS.rd how8_4_0) sl23, RdS.cellN (OS.rd how8_4_0), RdS.cells (OS.rd how8_4_0), BoxAt.cell hb0_0, BoxAt.cell hb0_1, RdS.len ho1_4 sl114, RdS.idx ho1_4 sl114, RdS.cellB ho1_4 (Ext.pres xr1), RdS.cells ho1_4, RdS.len ho5_4 sl114, RdS.idx ho5_4 sl114, RdS.cellB ho5_4 (Ext.pres xr7), RdS.cells ho5_4, wrap_id, Int.add_sub_cancel]
        refine hK _ _ ?_
        clear hK K
        refine den_cond rfl (fun c3 => ?_) (fun c3 => ?_)
        · try simp only [decide_eq_true_eq, decide_eq_false_iff_not, beq_iff_eq, beq_eq_false_iff_ne, bne_iff_ne, ne_eq, Bool.not_eq_true', Bool.not_eq_false', Bool.and_eq_true, Bool.or_eq_true, bne_eq_false_iff_eq] at c3
          refine den_skip ?_
          refine den_seq ?_
          refine den_block ?_
          refine den_seq ?_
          refine den_region TTok ?_
          intro K hK
          simp -implicitDefEqProofs (disch := first | decide | assumption | omega) only [go_sem, RdS.len hdX sl22, RdS.idx hdX sl22, R1.intB hdX (Ext.pres eB), RdS.cells hdX, RdS.len hmX sl23, RdS.idx hmX sl23, RdS.cellB hmX (Ext.pres eB), RdS.cells hmX, RdS.len hdY sl22, RdS.idx hdY sl22, R1.intB hdY (Ext.pres eB), RdS.cells hdY, RdS.len hmY sl23, RdS.idx hmY sl23, RdS.cellB hmY (Ext.pres eB), RdS.cells hmY, RdS.len rf sl23, RdS.idx rf sl23, RdS.cellB rf (Ext.pres eB), RdS.cells rf, RdS.len rg sl23, RdS.idx rg sl23, RdS.cellB rg (Ext.pres eB), RdS.cells rg, RdS.len rq sl23, RdS.idx rq sl23, RdS.cellB rq (Ext.pres eB), RdS.cells rq, RdS.len (OS.rd how8_4_0) sl23, RdS.idx (OS.rd how8_4_0) sl23, RdS.cellN (OS.rd how8_4_0), RdS.cells (OS.rd how8_4_0), BoxAt.cell hb0_0, BoxAt.cell hb0_1, RdS.len ho1_4 sl114, RdS.idx ho1_4 sl114, RdS.cellB ho1_4 (Ext.pres xr1), RdS.cells ho1_4, RdS.len ho5_4 sl114, RdS.idx ho5_4 sl114, RdS.cellB ho5_4 (Ext.pres xr7), RdS.cells ho5_4, wrap_id, Int.add_sub_cancel]
          refine hK _ _ ?_
          clear hK K
          refine den_block ?_
          refine den_sel [15, 2, 4, 5, 6, 13, 14] ?_
          intro env_12
          simp only [go_sem]
          refine den_loopS (σ := Nat) (fun st_ => [(15, .int .i64 (st_ : Int))]) (fun st_ H => ((st_ : Int) ≤ X.dims.getD n 0) ∧ (∀ j, j < st_ → homAt X Y f g q n j) ∧ (Ext h11 H)) (fun st_ => (X.dims.getD n 0).toNat - st_) 0 ?_ ?_
          · exact ⟨by show ((0 : Nat) : Int) ≤ _; have := dm_at hX.dm (k := n) (by omega); omega, fun j hj => by omega, Ext.refl _⟩
          · rintro i h15 ee14 ⟨hi, hy, cL13⟩
            replace how8_4_0 := OS.ext how8_4_0 cL13
            replace hb0_0 := BoxAt.ext hb0_0 cL13
            replace hb0_1 := BoxAt.ext hb0_1 cL13
            have := Ext.size cL13
            replace eB := Ext.trans eB cL13
            replace xr1 := Ext.trans xr1 cL13
            replace xr7 := Ext.trans xr7 cL13
            replace cL9 := Ext.trans cL9 cL13
            simp only [List.cons_append, List.nil_append]
            refine den_seq ?_
            refine den_seq ?_
            have hdn := dm_at hX.dm (k := n) (by omega)
            refine den_region TTok ?_
            intro K hK
            simp -implicitDefEqProofs (disch := first | decide | assumption | omega) only [go_sem, fa30_1, ld22, ld2, RdS.len hdX sl22, RdS.idx hdX sl22, R1.intB hdX (Ext.pres eB), RdS.cells hdX, RdS.len hmX sl23, RdS.idx hmX sl23, RdS.cellB hmX (Ext.pres eB), RdS.cells hmX, RdS.len hdY sl22, RdS.idx hdY sl22, R1.intB hdY (Ext.pres eB), RdS.cells hdY, RdS.len hmY sl23, RdS.idx hmY sl23, RdS.cellB hmY (Ext.pres eB), RdS.cells hmY, RdS.len rf sl23, RdS.idx rf sl23, RdS.cellB rf (Ext.pres eB), RdS.cells rf, RdS.len rg sl23, RdS.idx rg sl23, RdS.cellB rg (Ext.pres eB), RdS.cells rg, RdS.len rq sl23, RdS.idx rq sl23, RdS.cellB rq (Ext.pres eB), RdS.cells rq, RdS.len (OS.rd how8_4_0) sl23, RdS.idx (OS.rd how8_4_0) sl23, RdS.cellN (OS.rd how8_4_0), RdS.cells (OS.rd how8_4_0), BoxAt.cell hb0_0, BoxAt.cell hb0_1, RdS.len ho1_4 sl114, RdS.idx ho1_4 sl114, RdS.cellB ho1_4 (Ext.pres xr1), RdS.cells ho1_4, RdS.len ho5_4 sl114, RdS.idx ho5_4 sl114, RdS.cellB ho5_4 (Ext.pres xr7), RdS.cells ho5_4, wrap_id, Int.add_sub_cancel]
            refine hK _ _ ?_
            clear hK K
            refine den_cond rfl (fun c4 => ?_) (fun c4 => ?_)
            · try simp only [decide_eq_true_eq, decide_eq_false_iff_not, beq_iff_eq, beq_eq_false_iff_ne, bne_iff_ne, ne_eq, Bool.not_eq_true', Bool.not_eq_false', Bool.and_eq_true, Bool.or_eq_true, bne_eq_false_iff_eq] at c4
              refine den_skip ?_
              refine den_seq ?_
              refine den_block ?_
              refine den_seq ?_
              have hR := homR_ok hk (n := n) (i := i) (by omega) (by omega)
              have hnf := hR.nf
              have hfi := hR.fi
              have hdy := hR.dy
              have hd8 := hR.d8
              refine den_region TTok ?_
              intro K hK
              simp -implicitDefEqProofs (disch := first | decide | assumption | omega) only [go_sem, ld30, RdS.len hdX sl22, RdS.idx hdX sl22, R1.intB hdX (Ext.pres eB), RdS.cells hdX, RdS.len hmX sl23, RdS.idx hmX sl23, RdS.cellB hmX (Ext.pres eB), RdS.cells hmX, RdS.len hdY sl22, RdS.idx hdY sl22, R1.intB hdY (Ext.pres eB), RdS.cells hdY, RdS.len hmY sl23, RdS.idx hmY sl23, RdS.cellB hmY (Ext.pres eB), RdS.cells hmY, RdS.len rf sl23, RdS.idx rf sl23, RdS.cellB rf (Ext.pres eB), RdS.cells rf, RdS.len rg sl23, RdS.idx rg sl23, RdS.cellB rg (Ext.pres eB), RdS.cells rg, RdS.len rq sl23, RdS.idx rq sl23, RdS.cellB rq (Ext.pres eB), RdS.cells rq, RdS.len (OS.rd how8_4_0) sl23, RdS.idx (OS.rd how8_4_0) sl23, RdS.cellN (OS.rd how8_4_0), RdS.cells (OS.rd how8_4_0), BoxAt.cell hb0_0, BoxAt.cell hb0_1, RdS.len ho1_4 sl114, RdS.idx ho1_4 sl114, RdS.cellB ho1_4 (Ext.pres xr1), RdS.cells ho1_4, RdS.len ho5_4 sl114, RdS.idx ho5_4 sl114, RdS.cellB ho5_4 (Ext.pres xr7), RdS.cells ho5_4, wrap_id, Int.add_sub_cancel]
              try simp -implicitDefEqProofs (disch := first | decide | assumption | omega) only [go_sem, RdS.len hdX sl22, RdS.idx hdX sl22, R1.intB hdX (Ext.pres eB), RdS.cells hdX, RdS.len hmX sl23, RdS.idx hmX sl23, RdS.cellB hmX (Ext.pres eB), RdS.cells hmX, RdS.len hdY sl22, RdS.idx hdY sl22, R1.intB hdY (Ext.pres eB), RdS.cells hdY, RdS.len hmY sl23, RdS.idx hmY sl23, RdS.cellB hmY (Ext.pres eB), RdS.cells hmY, RdS.len rf sl23, RdS.idx rf sl23, RdS.cellB rf (Ext.pres eB), RdS.cells rf, RdS.len rg sl23, RdS.idx rg sl23, RdS.cellB rg (Ext.pres eB), RdS.cells rg, RdS.len rq sl23, RdS.idx rq sl23, RdS.cellB rq (Ext.pres eB), RdS.cells rq, RdS.len (OS.rd how8_4_0) sl23, RdS.idx (OS.rd how8_4_0) sl23, RdS.cellN (OS.rd how8_4_0), RdS.cells (OS.rd how8_4_0), BoxAt.cell hb0_0, BoxAt.cell hb0_1, RdS.len ho1_4 sl114, RdS.idx ho1_4 sl114, RdS.cellB ho1_4 (Ext.pres xr1), RdS.cells ho1_4, RdS.len ho5_4 sl114, RdS.idx ho5_4 sl114, RdS.cellB ho5_4 (Ext.pres xr7), RdS.cells ho5_4, wrap_id, Int.add_sub_cancel]
              refine CallA.mono (sDim_ok _ Y _ _ ⟨_, _, rfl, (RdS.pres hdY (Ext.pres eB)), (RdS.pres hmY (Ext.pres eB))⟩) ?_
              intro v_ h15_2
              rintro ⟨rfl, e15_2⟩
              replace how8_4_0 := OS.ext how8_4_0 e15_2
              replace hb0_0 := BoxAt.ext hb0_0 e15_2
              replace hb0_1 := BoxAt.ext hb0_1 e15_2
              have := Ext.size e15_2
              replace eB := Ext.trans eB e15_2
              replace xr1 := Ext.trans xr1 e15_2
              replace xr7 := Ext.trans xr7 e15_2
              replace cL9 := Ext.trans cL9 e15_2
              replace cL13 := Ext.trans cL13 e15_2
              try simp -implicitDefEqProofs (disch := first | decide | assumption | omega) only [go_sem, RdS.len hdX sl22, RdS.idx hdX sl22, R1.intB hdX (Ext.pres eB), RdS.cells hdX, RdS.len hmX sl23, RdS.idx hmX sl23, RdS.cellB hmX (Ext.pres eB), RdS.cells hmX, RdS.len hdY sl22, RdS.idx hdY sl22, R1.intB hdY (Ext.pres eB), RdS.cells hdY, RdS.len hmY sl23, RdS.idx hmY sl23, RdS.cellB hmY (Ext.pres eB), RdS.cells hmY, RdS.len rf sl23, RdS.idx rf sl23, RdS.cellB rf (Ext.pres eB), RdS.cells rf, RdS.len rg sl23, RdS.idx rg sl23, RdS.cellB rg (Ext.pres eB), RdS.cells rg, RdS.len rq sl23, RdS.idx rq sl23, RdS.cellB rq (Ext.pres eB), RdS.cells rq, RdS.len (OS.rd how8_4_0) sl23, RdS.idx (OS.rd how8_4_0) sl23, RdS.cellN (OS.rd how8_4_0), RdS.cells (OS.rd how8_4_0), BoxAt.cell hb0_0, BoxAt.cell hb0_1, RdS.len ho1_4 sl114, RdS.idx ho1_4 sl114, RdS.cellB ho1_4 (Ext.pres xr1), RdS.cells ho1_4, RdS.len ho5_4 sl114, RdS.idx ho5_4 sl114, RdS.cellB ho5_4 (Ext.pres xr7), RdS.cells ho5_4, wrap_id, Int.add_sub_cancel]
              refine op_make sz22 rfl rfl (by omega) (by omega) OI 0 (fun _ => ⟨rfl, rfl⟩) ?_
              intro v15_3 h15_3 ho15_3 e15_3
              replace how8_4_0 := OS.ext how8_4_0 e15_3
              replace hb0_0 := BoxAt.ext hb0_0 e15_3
              replace hb0_1 := BoxAt.ext hb0_1 e15_3
              have := Ext.size e15_3
              replace eB := Ext.trans eB e15_3
              replace xr1 := Ext.trans xr1 e15_3
              replace xr7 := Ext.trans xr7 e15_3
              replace cL9 := Ext.trans cL9 e15_3
              replace cL13 := Ext.trans cL13 e15_3
              have hfho15_3 : Fresh h15_2.size [h15_2.size] := Fresh.one _
              have hlenho15_3 : (List.replicate ((dimP Y (n : Int))).toNat (0 : Int)).length = ((dimP Y (n : Int))).toNat := List.length_replicate
              have hlho15_3 := OS.lt ho15_3
              try simp -implicitDefEqProofs (disch := first | decide | assumption | omega) only [go_sem, RdS.len hdX sl22, RdS.idx hdX sl22, R1.intB hdX (Ext.pres eB), RdS.cells hdX, RdS.len hmX sl23, RdS.idx hmX sl23, RdS.cellB hmX (Ext.pres eB), RdS.cells hmX, RdS.len hdY sl22, RdS.idx hdY sl22, R1.intB hdY (Ext.pres eB), RdS.cells hdY, RdS.len hmY sl23, RdS.idx hmY sl23, RdS.cellB hmY (Ext.pres eB), RdS.cells hmY, RdS.len rf sl23, RdS.idx rf sl23, RdS.cellB rf (Ext.pres eB), RdS.cells rf, RdS.len rg sl23, RdS.idx rg sl23, RdS.cellB rg (Ext.pres eB), RdS.cells rg, RdS.len rq sl23, RdS.idx rq sl23, RdS.cellB rq (Ext.pres eB), RdS.cells rq, RdS.len (OS.rd how8_4_0) sl23, RdS.idx (OS.rd how8_4_0) sl23, RdS.cellN (OS.rd how8_4_0), RdS.cells (OS.rd how8_4_0), RdS.len (OS.rd ho15_3) sl22, RdS.idx (OS.rd ho15_3) sl22, R1.intN (OS.rd ho15_3), RdS.cells (OS.rd ho15_3), BoxAt.cell hb0_0, BoxAt.cell hb0_1, RdS.len ho1_4 sl114, RdS.idx ho1_4 sl114, RdS.cellB ho1_4 (Ext.pres xr1), RdS.cells ho1_4, RdS.len ho5_4 sl114, RdS.idx ho5_4 sl114, RdS.cellB ho5_4 (Ext.pres xr7), RdS.cells ho5_4, wrap_id, Int.add_sub_cancel]
              refine hK _ _ ?_
              clear hK K
              refine den_seq ?_
              refine den_seq ?_
              refine den_region TTok ?_
              intro K hK
              simp -implicitDefEqProofs (disch := first | decide | assumption | omega) only [go_sem, RdS.len hdX sl22, RdS.idx hdX sl22, R1.intB hdX (Ext.pres eB), RdS.cells hdX, RdS.len hmX sl23, RdS.idx hmX sl23, RdS.cellB hmX (Ext.pres eB), RdS.cells hmX, RdS.len hdY sl22, RdS.idx hdY sl22, R1.intB hdY (Ext.pres eB), RdS.cells hdY, RdS.len hmY sl23, RdS.idx hmY sl23, RdS.cellB hmY (Ext.pres eB), RdS.cells hmY, RdS.len rf sl23, RdS.idx rf sl23, RdS.cellB rf (Ext.pres eB), RdS.cells rf, RdS.len rg sl23, RdS.idx rg sl23, RdS.cellB rg (Ext.pres eB), RdS.cells rg, RdS.len rq sl23, RdS.idx rq sl23, RdS.cellB rq (Ext.pres eB), RdS.cells rq, RdS.len (OS.rd how8_4_0) sl23, RdS.idx (OS.rd how8_4_0) sl23, RdS.cellN (OS.rd how8_4_0), RdS.cells (OS.rd how8_4_0), RdS.len (OS.rd ho15_3) sl22, RdS.idx (OS.rd ho15_3) sl22, R1.intN (OS.rd ho15_3), RdS.cells (OS.rd ho15_3), BoxAt.cell hb0_0, BoxAt.cell hb0_1, RdS.len ho1_4 sl114, RdS.idx ho1_4 sl114, RdS.cellB ho1_4 (Ext.pres xr1), RdS.cells ho1_4, RdS.len ho5_4 sl114, RdS.idx ho5_4 sl114, RdS.cellB ho5_4 (Ext.pres xr7), RdS.cells ho5_4, wrap_id, Int.add_sub_cancel]
              refine hK _ _ ?_
              clear hK K
              refine den_cond rfl (fun c5 => ?_) (fun c5 => ?_)
              · try simp only [decide_eq_true_eq, decide_eq_false_iff_not, beq_iff_eq, beq_eq_false_iff_ne, bne_iff_ne, ne_eq, Bool.not_eq_true', Bool.not_eq_false', Bool.and_eq_true, Bool.or_eq_true, bne_eq_false_iff_eq] at c5
                have hqv := hR.qv (by omega)
                have hdb := hqv.2
                have hdl : 0 < (n : Int) + 1 → (n : Int) + 1 ≤ (Y.dims.length : Int) - 1 → (((q.getD n default).getD i default).length : Int) = Y.dims.getD ((n : Int) + 1).toNat 0 := fun _ _ => hqv.1
                have hqv1 := hqv.1
                have hCY := hY
                refine den_draw TTok mixed [] [(0, true), (1, true), (2, true), (3, true), (4, true), (5, true), (6, true), (7, true), (8, true), (9, true), (10, false), (11, true)] (by kernel_rfl) ?_
                intro K hK
                have hr16 := RdS.rowN rq n (by omega)
                have hlhr16 := RdS.le hr16
                have hr17 := RdS.rowN hr16 i (by omega)
                have hlhr17 := RdS.le hr17
                simp -implicitDefEqProofs (disch := first | decide | assumption | omega) only [go_sem, ld56, ld22, ld30, RdS.len hdX sl22, RdS.idx hdX sl22, R1.intB hdX (Ext.pres eB), RdS.cells hdX, RdS.len hmX sl23, RdS.idx hmX sl23, RdS.cellB hmX (Ext.pres eB), RdS.cells hmX, RdS.len hdY sl22, RdS.idx hdY sl22, R1.intB hdY (Ext.pres eB), RdS.cells hdY, RdS.len hmY sl23, RdS.idx hmY sl23, RdS.cellB hmY (Ext.pres eB), RdS.cells hmY, RdS.len rf sl23, RdS.idx rf sl23, RdS.cellB rf (Ext.pres eB), RdS.cells rf, RdS.len rg sl23, RdS.idx rg sl23, RdS.cellB rg (Ext.pres eB), RdS.cells rg, RdS.len rq sl23, RdS.idx rq sl23, RdS.cellB rq (Ext.pres eB), RdS.cells rq, RdS.len hr16 sl56, RdS.idx hr16 sl56, RdS.cellB hr16 (Ext.pres eB), RdS.cells hr16, RdS.len hr17 sl22, RdS.idx hr17 sl22, R1.intB hr17 (Ext.pres eB), RdS.cells hr17, RdS.len (OS.rd how8_4_0) sl23, RdS.idx (OS.rd how8_4_0) sl23, RdS.cellN (OS.rd how8_4_0), RdS.cells (OS.rd how8_4_0), BoxAt.cell hb0_0, BoxAt.cell hb0_1, RdS.len ho1_4 sl114, RdS.idx ho1_4 sl114, RdS.cellB ho1_4 (Ext.pres xr1), RdS.cells ho1_4, RdS.len ho5_4 sl114, RdS.idx ho5_4 sl114, RdS.cellB ho5_4 (Ext.pres xr7), RdS.cells ho5_4, wrap_id, Int.add_sub_cancel]
                try simp -implicitDefEqProofs (disch := first | decide | assumption | omega) only [go_sem, RdS.len hdX sl22, RdS.idx hdX sl22, R1.intB hdX (Ext.pres eB), RdS.cells hdX, RdS.len hmX sl23, RdS.idx hmX sl23, RdS.cellB hmX (Ext.pres eB), RdS.cells hmX, RdS.len hdY sl22, RdS.idx hdY sl22, R1.intB hdY (Ext.pres eB), RdS.cells hdY, RdS.len hmY sl23, RdS.idx hmY sl23, RdS.cellB hmY (Ext.pres eB), RdS.cells hmY, RdS.len rf sl23, RdS.idx rf sl23, RdS.cellB rf (Ext.pres eB), RdS.cells rf, RdS.len rg sl23, RdS.idx rg sl23, RdS.cellB rg (Ext.pres eB), RdS.cells rg, RdS.len rq sl23, RdS.idx rq sl23, RdS.cellB rq (Ext.pres eB), RdS.cells rq, RdS.len hr16 sl56, RdS.idx hr16 sl56, RdS.cellB hr16 (Ext.pres eB), RdS.cells hr16, RdS.len hr17 sl22, RdS.idx hr17 sl22, R1.intB hr17 (Ext.pres eB), RdS.cells hr17, RdS.len (OS.rd how8_4_0) sl23, RdS.idx (OS.rd how8_4_0) sl23, RdS.cellN (OS.rd how8_4_0), RdS.cells (OS.rd how8_4_0), BoxAt.cell hb0_0, BoxAt.cell hb0_1, RdS.len ho1_4 sl114, RdS.idx ho1_4 sl114, RdS.cellB ho1_4 (Ext.pres xr1), RdS.cells ho1_4, RdS.len ho5_4 sl114, RdS.idx ho5_4 sl114, RdS.cellB ho5_4 (Ext.pres xr7), RdS.cells ho5_4, wrap_id, Int.add_sub_cancel]
                refine CallA.mono (sD_ok _ _ Y _ _ _ ⟨_, _, rfl, (RdS.pres hdY (Ext.pres eB)), (RdS.pres hmY (Ext.pres eB))⟩ (RdS.pres hr17 (Ext.pres eB)) hY (by omega) hqv.1 hqv.2) ?_
                intro vw17_10 h17_10
                rintro ⟨zw17_10, fw17_10, rfl, how17_10, hfw17_10, e17_10⟩
                replace how8_4_0 := OS.ext how8_4_0 e17_10
                replace hb0_0 := BoxAt.ext hb0_0 e17_10
                replace hb0_1 := BoxAt.ext hb0_1 e17_10
                have := Ext.size e17_10
                replace eB := Ext.trans eB e17_10
                replace xr1 := Ext.trans xr1 e17_10
                replace xr7 := Ext.trans xr7 e17_10
                replace cL9 := Ext.trans cL9 e17_10
                replace cL13 := Ext.trans cL13 e17_10
                have hlhow17_10 := OS.lt how17_10
                try simp (disch := decide) only [outv_some, outv_none, put_puts]
                refine plK_pres (Ext.pres e17_10) ?_
                try simp -implicitDefEqProofs (disch := first | decide | assumption | omega) only [go_sem, RdS.len hdX sl22, RdS.idx hdX sl22, R1.intB hdX (Ext.pres eB), RdS.cells hdX, RdS.len hmX sl23, RdS.idx hmX sl23, RdS.cellB hmX (Ext.pres eB), RdS.cells hmX, RdS.len hdY sl22, RdS.idx hdY sl22, R1.intB hdY (Ext.pres eB), RdS.cells hdY, RdS.len hmY sl23, RdS.idx hmY sl23, RdS.cellB hmY (Ext.pres eB), RdS.cells hmY, RdS.len rf sl23, RdS.idx rf sl23, RdS.cellB rf (Ext.pres eB), RdS.cells rf, RdS.len rg sl23, RdS.idx rg sl23, RdS.cellB rg (Ext.pres eB), RdS.cells rg, RdS.len rq sl23, RdS.idx rq sl23, RdS.cellB rq (Ext.pres eB), RdS.cells rq, RdS.len hr16 sl56, RdS.idx hr16 sl56, RdS.cellB hr16 (Ext.pres eB), RdS.cells hr16, RdS.len hr17 sl22, RdS.idx hr17 sl22, R1.intB hr17 (Ext.pres eB), RdS.cells hr17, RdS.len (OS.rd how8_4_0) sl23, RdS.idx (OS.rd how8_4_0) sl23, RdS.cellN (OS.rd how8_4_0), RdS.cells (OS.rd how8_4_0), RdS.len (OS.rd how17_10) sl22, RdS.idx (OS.rd how17_10) sl22, R1.intN (OS.rd how17_10), RdS.cells (OS.rd how17_10), BoxAt.cell hb0_0, BoxAt.cell hb0_1, RdS.len ho1_4 sl114, RdS.idx ho1_4 sl114, RdS.cellB ho1_4 (Ext.pres xr1), RdS.cells ho1_4, RdS.len ho5_4 sl114, RdS.idx ho5_4 sl114, RdS.cellB ho5_4 (Ext.pres xr7), RdS.cells ho5_4, wrap_id, Int.add_sub_cancel]
                refine hK _ _ ?_
                clear hK K
                refine den_seq ?_
                refine den_seq ?_
                refine den_region TTok ?_
                intro K hK
                simp -implicitDefEqProofs (disch := first | decide | assumption | omega) only [go_sem, RdS.len hdX sl22, RdS.idx hdX sl22, R1.intB hdX (Ext.pres eB), RdS.cells hdX, RdS.len hmX sl23, RdS.idx hmX sl23, RdS.cellB hmX (Ext.pres eB), RdS.cells hmX, RdS.len hdY sl22, RdS.idx hdY sl22, R1.intB hdY (Ext.pres eB), RdS.cells hdY, RdS.len hmY sl23, RdS.idx hmY sl23, RdS.cellB hmY (Ext.pres eB), RdS.cells hmY, RdS.len rf sl23, RdS.idx rf sl23, RdS.cellB rf (Ext.pres eB), RdS.cells rf, RdS.len rg sl23, RdS.idx rg sl23, RdS.cellB rg (Ext.pres eB), RdS.cells rg, RdS.len rq sl23, RdS.idx rq sl23, RdS.cellB rq (Ext.pres eB), RdS.cells rq, RdS.len hr16 sl56, RdS.idx hr16 sl56, RdS.cellB hr16 (Ext.pres eB), RdS.cells hr16, RdS.len hr17 sl22, RdS.idx hr17 sl22, R1.intB hr17 (Ext.pres eB), RdS.cells hr17, RdS.len (OS.rd how8_4_0) sl23, RdS.idx (OS.rd how8_4_0) sl23, RdS.cellN (OS.rd how8_4_0), RdS.cells (OS.rd how8_4_0), RdS.len (OS.rd how17_10) sl22, RdS.idx (OS.rd how17_10) sl22, R1.intN (OS.rd how17_10), RdS.cells (OS.rd how17_10), BoxAt.cell hb0_0, BoxAt.cell hb0_1, RdS.len ho1_4 sl114, RdS.idx ho1_4 sl114, RdS.cellB ho1_4 (Ext.pres xr1), RdS.cells ho1_4, RdS.len ho5_4 sl114, RdS.idx ho5_4 sl114, RdS.cellB ho5_4 (Ext.pres xr7), RdS.cells ho5_4, wrap_id, Int.add_sub_cancel]
                refine hK _ _ ?_
                clear hK K
                refine den_cond rfl (fun c6 => ?_) (fun c6 => ?_)
                · try simp only [decide_eq_true_eq, decide_eq_false_iff_not, beq_iff_eq, beq_eq_false_iff_ne, bne_iff_ne, ne_eq, Bool.not_eq_true', Bool.not_eq_false', Bool.and_eq_true, Bool.or_eq_true, bne_eq_false_iff_eq] at c6
                  refine den_seq ?_
                  have hdu := hR.du (by omega)
                  have hho := hR.ho (by omega)
                  have hvv : 0 ≤ (n : Int) - 1 ∧ (n : Int) - 1 ≤ (X.dims.length : Int) - 1 → ((diffP X (n : Int) (unitP (X.dims.getD n 0).toNat i)).length : Int) = X.dims.getD ((n : Int) - 1).toNat 0 ∧ Bnd X.p (diffP X (n : Int) (unitP (X.dims.getD n 0).toNat i)) := fun _ => hdu
                  refine den_draw TTok mixed [] [(0, true), (1, true), (2, true), (3, true), (4, true), (5, true), (6, true), (7, true), (8, true), (9, true), (10, true), (11, true), (12, true), (13, false), (14, false), (15, false), (16, true)] (by kernel_rfl) ?_
                  intro K hK
                  simp -implicitDefEqProofs (disch := first | decide | assumption | omega) only [go_sem, fa30_1, ld22, ld2, ld30, RdS.len hdX sl22, RdS.idx hdX sl22, R1.intB hdX (Ext.pres eB), RdS.cells hdX, RdS.len hmX sl23, RdS.idx hmX sl23, RdS.cellB hmX (Ext.pres eB), RdS.cells hmX, RdS.len hdY sl22, RdS.idx hdY sl22, R1.intB hdY (Ext.pres eB), RdS.cells hdY, RdS.len hmY sl23, RdS.idx hmY sl23, RdS.cellB hmY (Ext.pres eB), RdS.cells hmY, RdS.len rf sl23, RdS.idx rf sl23, RdS.cellB rf (Ext.pres eB), RdS.cells rf, RdS.len rg sl23, RdS.idx rg sl23, RdS.cellB rg (Ext.pres eB), RdS.cells rg, RdS.len rq sl23, RdS.idx rq sl23, RdS.cellB rq (Ext.pres eB), RdS.cells rq, RdS.len hr16 sl56, RdS.idx hr16 sl56, RdS.cellB hr16 (Ext.pres eB), RdS.cells hr16, RdS.len hr17 sl22, RdS.idx hr17 sl22, R1.intB hr17 (Ext.pres eB), RdS.cells hr17, RdS.len (OS.rd how8_4_0) sl23, RdS.idx (OS.rd how8_4_0) sl23, RdS.cellN (OS.rd how8_4_0), RdS.cells (OS.rd how8_4_0), RdS.len (OS.rd how17_10) sl22, RdS.idx (OS.rd how17_10) sl22, R1.intN (OS.rd how17_10), RdS.cells (OS.rd how17_10), BoxAt.cell hb0_0, BoxAt.cell hb0_1, RdS.len ho1_4 sl114, RdS.idx ho1_4 sl114, RdS.cellB ho1_4 (Ext.pres xr1), RdS.cells ho1_4, RdS.len ho5_4 sl114, RdS.idx ho5_4 sl114, RdS.cellB ho5_4 (Ext.pres xr7), RdS.cells ho5_4, wrap_id, Int.add_sub_cancel]
                  try simp -implicitDefEqProofs (disch := first | decide | assumption | omega) only [go_sem, RdS.len hdX sl22, RdS.idx hdX sl22, R1.intB hdX (Ext.pres eB), RdS.cells hdX, RdS.len hmX sl23, RdS.idx hmX sl23, RdS.cellB hmX (Ext.pres eB), RdS.cells hmX, RdS.len hdY sl22, RdS.idx hdY sl22, R1.intB hdY (Ext.pres eB), RdS.cells hdY, RdS.len hmY sl23, RdS.idx hmY sl23, RdS.cellB hmY (Ext.pres eB), RdS.cells hmY, RdS.len rf sl23, RdS.idx rf sl23, RdS.cellB rf (Ext.pres eB), RdS.cells rf, RdS.len rg sl23, RdS.idx rg sl23, RdS.cellB rg (Ext.pres eB), RdS.cells rg, RdS.len rq sl23, RdS.idx rq sl23, RdS.cellB rq (Ext.pres eB), RdS.cells rq, RdS.len hr16 sl56, RdS.idx hr16 sl56, RdS.cellB hr16 (Ext.pres eB), RdS.cells hr16, RdS.len hr17 sl22, RdS.idx hr17 sl22, R1.intB hr17 (Ext.pres eB), RdS.cells hr17, RdS.len (OS.rd how8_4_0) sl23, RdS.idx (OS.rd how8_4_0) sl23, RdS.cellN (OS.rd how8_4_0), RdS.cells (OS.rd how8_4_0), RdS.len (OS.rd how17_10) sl22, RdS.idx (OS.rd how17_10) sl22, R1.intN (OS.rd how17_10), RdS.cells (OS.rd how17_10), BoxAt.cell hb0_0, BoxAt.cell hb0_1, RdS.len ho1_4 sl114, RdS.idx ho1_4 sl114, RdS.cellB ho1_4 (Ext.pres xr1), RdS.cells ho1_4, RdS.len ho5_4 sl114, RdS.idx ho5_4 sl114, RdS.cellB ho5_4 (Ext.pres xr7), RdS.cells ho5_4, wrap_id, Int.add_sub_cancel]
                  refine CallA.mono (sUnit_ok _ _ _ (by omega)) ?_
                  intro vw19_13 h19_13
                  rintro ⟨zw19_13, fw19_13, rfl, how19_13, hfw19_13, e19_13⟩
                  replace how8_4_0 := OS.ext how8_4_0 e19_13
                  replace how17_10 := OS.ext how17_10 e19_13
                  replace hb0_0 := BoxAt.ext hb0_0 e19_13
                  replace hb0_1 := BoxAt.ext hb0_1 e19_13
                  have := Ext.size e19_13
                  replace eB := Ext.trans eB e19_13
                  replace xr1 := Ext.trans xr1 e19_13
                  replace xr7 := Ext.trans xr7 e19_13
                  replace cL9 := Ext.trans cL9 e19_13
                  replace cL13 := Ext.trans cL13 e19_13
                  replace how19_13 : O1 _ _ (unitP (X.dims.getD n 0).toNat i) _ := how19_13
                  have hlhow19_13 := OS.lt how19_13
                  try simp (disch := decide) only [outv_some, outv_none, put_puts]
                  refine plK_pres (Ext.pres e19_13) ?_
                  try simp -implicitDefEqProofs (disch := first | decide | assumption | omega) only [go_sem, RdS.len hdX sl22, RdS.idx hdX sl22, R1.intB hdX (Ext.pres eB), RdS.cells hdX, RdS.len hmX sl23, RdS.idx hmX sl23, RdS.cellB hmX (Ext.pres eB), RdS.cells hmX, RdS.len hdY sl22, RdS.idx hdY sl22, R1.intB hdY (Ext.pres eB), RdS.cells hdY, RdS.len hmY sl23, RdS.idx hmY sl23, RdS.cellB hmY (Ext.pres eB), RdS.cells hmY, RdS.len rf sl23, RdS.idx rf sl23, RdS.cellB rf (Ext.pres eB), RdS.cells rf, RdS.len rg sl23, RdS.idx rg sl23, RdS.cellB rg (Ext.pres eB), RdS.cells rg, RdS.len rq sl23, RdS.idx rq sl23, RdS.cellB rq (Ext.pres eB), RdS.cells rq, RdS.len hr16 sl56, RdS.idx hr16 sl56, RdS.cellB hr16 (Ext.pres eB), RdS.cells hr16, RdS.len hr17 sl22, RdS.idx hr17 sl22, R1.intB hr17 (Ext.pres eB), RdS.cells hr17, RdS.len (OS.rd how8_4_0) sl23, RdS.idx (OS.rd how8_4_0) sl23, RdS.cellN (OS.rd how8_4_0), RdS.cells (OS.rd how8_4_0), RdS.len (OS.rd how17_10) sl22, RdS.idx (OS.rd how17_10) sl22, R1.intN (OS.rd how17_10), RdS.cells (OS.rd how17_10), RdS.len (OS.rd how19_13) sl22, RdS.idx (OS.rd how19_13) sl22, R1.intN (OS.rd how19_13), RdS.cells (OS.rd how19_13), BoxAt.cell hb0_0, BoxAt.cell hb0_1, RdS.len ho1_4 sl114, RdS.idx ho1_4 sl114, RdS.cellB ho1_4 (Ext.pres xr1), RdS.cells ho1_4, RdS.len ho5_4 sl114, RdS.idx ho5_4 sl114, RdS.cellB ho5_4 (Ext.pres xr7), RdS.cells ho5_4, wrap_id, Int.add_sub_cancel]
                  try simp -implicitDefEqProofs (disch := first | decide | assumption | omega) only [go_sem, RdS.len hdX sl22, RdS.idx hdX sl22, R1.intB hdX (Ext.pres eB), RdS.cells hdX, RdS.len hmX sl23, RdS.idx hmX sl23, RdS.cellB hmX (Ext.pres eB), RdS.cells hmX, RdS.len hdY sl22, RdS.idx hdY sl22, R1.intB hdY (Ext.pres eB), RdS.cells hdY, RdS.len hmY sl23, RdS.idx hmY sl23, RdS.cellB hmY (Ext.pres eB), RdS.cells hmY, RdS.len rf sl23, RdS.idx rf sl23, RdS.cellB rf (Ext.pres eB), RdS.cells rf, RdS.len rg sl23, RdS.idx rg sl23, RdS.cellB rg (Ext.pres eB), RdS.cells rg, RdS.len rq sl23, RdS.idx rq sl23, RdS.cellB rq (Ext.pres eB), RdS.cells rq, RdS.len hr16 sl56, RdS.idx hr16 sl56, RdS.cellB hr16 (Ext.pres eB), RdS.cells hr16, RdS.len hr17 sl22, RdS.idx hr17 sl22, R1.intB hr17 (Ext.pres eB), RdS.cells hr17, RdS.len (OS.rd how8_4_0) sl23, RdS.idx (OS.rd how8_4_0) sl23, RdS.cellN (OS.rd how8_4_0), RdS.cells (OS.rd how8_4_0), RdS.len (OS.rd how17_10) sl22, RdS.idx (OS.rd how17_10) sl22, R1.intN (OS.rd how17_10), RdS.cells (OS.rd how17_10), RdS.len (OS.rd how19_13) sl22, RdS.idx (OS.rd how19_13) sl22, R1.intN (OS.rd how19_13), RdS.cells (OS.rd how19_13), BoxAt.cell hb0_0, BoxAt.cell hb0_1, RdS.len ho1_4 sl114, RdS.idx ho1_4 sl114, RdS.cellB ho1_4 (Ext.pres xr1), RdS.cells ho1_4, RdS.len ho5_4 sl114, RdS.idx ho5_4 sl114, RdS.cellB ho5_4 (Ext.pres xr7), RdS.cells ho5_4, wrap_id, Int.add_sub_cancel]
                  refine CallA.mono (sD_ok _ _ X _ _ _ ⟨_, _, rfl, (RdS.pres hdX (Ext.pres eB)), (RdS.pres hmX (Ext.pres eB))⟩ (OS.rd how19_13) hX (by omega) (by rw [Int.toNat_natCast]; exact hR.u.1) hR.u.2) ?_
                  intro vw19_14 h19_14
                  rintro ⟨zw19_14, fw19_14, rfl, how19_14, hfw19_14, e19_14⟩
                  replace how8_4_0 := OS.ext how8_4_0 e19_14
                  replace how17_10 := OS.ext how17_10 e19_14
                  replace how19_13 := OS.ext how19_13 e19_14
                  replace hb0_0 := BoxAt.ext hb0_0 e19_14
                  replace hb0_1 := BoxAt.ext hb0_1 e19_14
                  have := Ext.size e19_14
                  replace eB := Ext.trans eB e19_14
                  replace xr1 := Ext.trans xr1 e19_14
                  replace xr7 := Ext.trans xr7 e19_14
                  replace cL9 := Ext.trans cL9 e19_14
                  replace cL13 := Ext.trans cL13 e19_14
                  have hlhow19_14 := OS.lt how19_14
                  try simp (disch := decide) only [outv_some, outv_none, put_puts]
                  refine plK_pres (Ext.pres e19_14) ?_
                  try simp -implicitDefEqProofs (disch := first | decide | assumption | omega) only [go_sem, RdS.len hdX sl22, RdS.idx hdX sl22, R1.intB hdX (Ext.pres eB), RdS.cells hdX, RdS.len hmX sl23, RdS.idx hmX sl23, RdS.cellB hmX (Ext.pres eB), RdS.cells hmX, RdS.len hdY sl22, RdS.idx hdY sl22, R1.intB hdY (Ext.pres eB), RdS.cells hdY, RdS.len hmY sl23, RdS.idx hmY sl23, RdS.cellB hmY (Ext.pres eB), RdS.cells hmY, RdS.len rf sl23, RdS.idx rf sl23, RdS.cellB rf (Ext.pres eB), RdS.cells rf, RdS.len rg sl23, RdS.idx rg sl23, RdS.cellB rg (Ext.pres eB), RdS.cells rg, RdS.len rq sl23, RdS.idx rq sl23, RdS.cellB rq (Ext.pres eB), RdS.cells rq, RdS.len hr16 sl56, RdS.idx hr16 sl56, RdS.cellB hr16 (Ext.pres eB), RdS.cells hr16, RdS.len hr17 sl22, RdS.idx hr17 sl22, R1.intB hr17 (Ext.pres eB), RdS.cells hr17, RdS.len (OS.rd how8_4_0) sl23, RdS.idx (OS.rd how8_4_0) sl23, RdS.cellN (OS.rd how8_4_0), RdS.cells (OS.rd how8_4_0), RdS.len (OS.rd how17_10) sl22, RdS.idx (OS.rd how17_10) sl22, R1.intN (OS.rd how17_10), RdS.cells (OS.rd how17_10), RdS.len (OS.rd how19_13) sl22, RdS.idx (OS.rd how19_13) sl22, R1.intN (OS.rd how19_13), RdS.cells (OS.rd how19_13), RdS.len (OS.rd how19_14) sl22, RdS.idx (OS.rd how19_14) sl22, R1.intN (OS.rd how19_14), RdS.cells (OS.rd how19_14), BoxAt.cell hb0_0, BoxAt.cell hb0_1, RdS.len ho1_4 sl114, RdS.idx ho1_4 sl114, RdS.cellB ho1_4 (Ext.pres xr1), RdS.cells ho1_4, RdS.len ho5_4 sl114, RdS.idx ho5_4 sl114, RdS.cellB ho5_4 (Ext.pres xr7), RdS.cells ho5_4, wrap_id, Int.add_sub_cancel]
                  try simp -implicitDefEqProofs (disch := first | decide | assumption | omega) only [go_sem, RdS.len hdX sl22, RdS.idx hdX sl22, R1.intB hdX (Ext.pres eB), RdS.cells hdX, RdS.len hmX sl23, RdS.idx hmX sl23, RdS.cellB hmX (Ext.pres eB), RdS.cells hmX, RdS.len hdY sl22, RdS.idx hdY sl22, R1.intB hdY (Ext.pres eB), RdS.cells hdY, RdS.len hmY sl23, RdS.idx hmY sl23, RdS.cellB hmY (Ext.pres eB), RdS.cells hmY, RdS.len rf sl23, RdS.idx rf sl23, RdS.cellB rf (Ext.pres eB), RdS.cells rf, RdS.len rg sl23, RdS.idx rg sl23, RdS.cellB rg (Ext.pres eB), RdS.cells rg, RdS.len rq sl23, RdS.idx rq sl23, RdS.cellB rq (Ext.pres eB), RdS.cells rq, RdS.len hr16 sl56, RdS.idx hr16 sl56, RdS.cellB hr16 (Ext.pres eB), RdS.cells hr16, RdS.len hr17 sl22, RdS.idx hr17 sl22, R1.intB hr17 (Ext.pres eB), RdS.cells hr17, RdS.len (OS.rd how8_4_0) sl23, RdS.idx (OS.rd how8_4_0) sl23, RdS.cellN (OS.rd how8_4_0), RdS.cells (OS.rd how8_4_0), RdS.len (OS.rd how17_10) sl22, RdS.idx (OS.rd how17_10) sl22, R1.intN (OS.rd how17_10), RdS.cells (OS.rd how17_10), RdS.len (OS.rd how19_13) sl22, RdS.idx (OS.rd how19_13) sl22, R1.intN (OS.rd how19_13), RdS.cells (OS.rd how19_13), RdS.len (OS.rd how19_14) sl22, RdS.idx (OS.rd how19_14) sl22, R1.intN (OS.rd how19_14), RdS.cells (OS.rd how19_14), BoxAt.cell hb0_0, BoxAt.cell hb0_1, RdS.len ho1_4 sl114, RdS.idx ho1_4 sl114, RdS.cellB ho1_4 (Ext.pres xr1), RdS.cells ho1_4, RdS.len ho5_4 sl114, RdS.idx ho5_4 sl114, RdS.cellB ho5_4 (Ext.pres xr7), RdS.cells ho5_4, wrap_id, Int.add_sub_cancel]
                  refine CallA.mono (sImg_ok _ _ _ _ X Y q ((n : Int) - (1 : Int)) (1 : Int) (diffP X (n : Int) (unitP (X.dims.getD n 0).toNat i)) _ ⟨_, _, rfl, (RdS.pres hdX (Ext.pres eB)), (RdS.pres hmX (Ext.pres eB))⟩ ⟨_, _, rfl, (RdS.pres hdY (Ext.pres eB)), (RdS.pres hmY (Ext.pres eB))⟩ (RdS.pres rq (Ext.pres eB)) (OS.rd how19_14) hX hY hF (by omega) (by omega) hvv) ?_
                  intro vw19_15_0 h19_15
                  rintro ⟨zvw19_15_0, fw19_15_0, rfl, how19_15_0, hfw19_15_0, e19_15⟩
                  replace how8_4_0 := OS.ext how8_4_0 e19_15
                  replace how17_10 := OS.ext how17_10 e19_15
                  replace how19_13 := OS.ext how19_13 e19_15
                  replace how19_14 := OS.ext how19_14 e19_15
                  replace hb0_0 := BoxAt.ext hb0_0 e19_15
                  replace hb0_1 := BoxAt.ext hb0_1 e19_15
                  have := Ext.size e19_15
                  replace eB := Ext.trans eB e19_15
                  replace xr1 := Ext.trans xr1 e19_15
                  replace xr7 := Ext.trans xr7 e19_15
                  replace cL9 := Ext.trans cL9 e19_15
                  replace cL13 := Ext.trans cL13 e19_15
                  have hlhow19_15_0 := OS.lt how19_15_0
                  try simp (disch := decide) only [outv_some, outv_none, put_puts]
                  refine plK_pres (Ext.pres e19_15) ?_
                  try simp -implicitDefEqProofs (disch := first | decide | assumption | omega) only [go_sem, RdS.len hdX sl22, RdS.idx hdX sl22, R1.intB hdX (Ext.pres eB), RdS.cells hdX, RdS.len hmX sl23, RdS.idx hmX sl23, RdS.cellB hmX (Ext.pres eB), RdS.cells hmX, RdS.len hdY sl22, RdS.idx hdY sl22, R1.intB hdY (Ext.pres eB), RdS.cells hdY, RdS.len hmY sl23, RdS.idx hmY sl23, RdS.cellB hmY (Ext.pres eB), RdS.cells hmY, RdS.len rf sl23, RdS.idx rf sl23, RdS.cellB rf (Ext.pres eB), RdS.cells rf, RdS.len rg sl23, RdS.idx rg sl23, RdS.cellB rg (Ext.pres eB), RdS.cells rg, RdS.len rq sl23, RdS.idx rq sl23, RdS.cellB rq (Ext.pres eB), RdS.cells rq, RdS.len hr16 sl56, RdS.idx hr16 sl56, RdS.cellB hr16 (Ext.pres eB), RdS.cells hr16, RdS.len hr17 sl22, RdS.idx hr17 sl22, R1.intB hr17 (Ext.pres eB), RdS.cells hr17, RdS.len (OS.rd how8_4_0) sl23, RdS.idx (OS.rd how8_4_0) sl23, RdS.cellN (OS.rd how8_4_0), RdS.cells (OS.rd how8_4_0), RdS.len (OS.rd how17_10) sl22, RdS.idx (OS.rd how17_10) sl22, R1.intN (OS.rd how17_10), RdS.cells (OS.rd how17_10), RdS.len (OS.rd how19_13) sl22, RdS.idx (OS.rd how19_13) sl22, R1.intN (OS.rd how19_13), RdS.cells (OS.rd how19_13), RdS.len (OS.rd how19_14) sl22, RdS.idx (OS.rd how19_14) sl22, R1.intN (OS.rd how19_14), RdS.cells (OS.rd how19_14), RdS.len (OS.rd how19_15_0) sl22, RdS.idx (OS.rd how19_15_0) sl22, R1.intN (OS.rd how19_15_0), RdS.cells (OS.rd how19_15_0), BoxAt.cell hb0_0, BoxAt.cell hb0_1, RdS.len ho1_4 sl114, RdS.idx ho1_4 sl114, RdS.cellB ho1_4 (Ext.pres xr1), RdS.cells ho1_4, RdS.len ho5_4 sl114, RdS.idx ho5_4 sl114, RdS.cellB ho5_4 (Ext.pres xr7), RdS.cells ho5_4, wrap_id, Int.add_sub_cancel]
                  refine hK _ _ ?_
                  clear hK K
                  refine den_seq ?_
                  have hA : (((diffP Y ((n : Int) + 1) ((q.getD n default).getD i default)) : List Int).length : Int) = dimP Y (n : Int) ∧ Bnd X.p (diffP Y ((n : Int) + 1) ((q.getD n default).getD i default)) := by first | (have h := hR.hd; rw [hdP, if_pos (show (n : Int) < (Y.dims.length : Int) - 1 by omega)] at h; exact h) | (have h := hR.hd; rw [hdP, if_neg (show ¬ (n : Int) < (Y.dims.length : Int) - 1 by omega)] at h; exact h)
                  have hB : ((imgP X Y q 1 ((n : Int) - 1) (diffP X (n : Int) (unitP (X.dims.getD n 0).toNat i))).length : Int) = dimP Y (n : Int) ∧ Bnd X.p (imgP X Y q 1 ((n : Int) - 1) (diffP X (n : Int) (unitP (X.dims.getD n 0).toNat i))) := hho
                  refine den_region TTok ?_
                  intro K hK
                  simp -implicitDefEqProofs (disch := first | decide | assumption | omega) only [go_sem, RdS.len hdX sl22, RdS.idx hdX sl22, R1.intB hdX (Ext.pres eB), RdS.cells hdX, RdS.len hmX sl23, RdS.idx hmX sl23, RdS.cellB hmX (Ext.pres eB), RdS.cells hmX, RdS.len hdY sl22, RdS.idx hdY sl22, R1.intB hdY (Ext.pres eB), RdS.cells hdY, RdS.len hmY sl23, RdS.idx hmY sl23, RdS.cellB hmY (Ext.pres eB), RdS.cells hmY, RdS.len rf sl23, RdS.idx rf sl23, RdS.cellB rf (Ext.pres eB), RdS.cells rf, RdS.len rg sl23, RdS.idx rg sl23, RdS.cellB rg (Ext.pres eB), RdS.cells rg, RdS.len rq sl23, RdS.idx rq sl23, RdS.cellB rq (Ext.pres eB), RdS.cells rq, RdS.len hr16 sl56, RdS.idx hr16 sl56, RdS.cellB hr16 (Ext.pres eB), RdS.cells hr16, RdS.len hr17 sl22, RdS.idx hr17 sl22, R1.intB hr17 (Ext.pres eB), RdS.cells hr17, RdS.len (OS.rd how8_4_0) sl23, RdS.idx (OS.rd how8_4_0) sl23, RdS.cellN (OS.rd how8_4_0), RdS.cells (OS.rd how8_4_0), RdS.len (OS.rd how17_10) sl22, RdS.idx (OS.rd how17_10) sl22, R1.intN (OS.rd how17_10), RdS.cells (OS.rd how17_10), RdS.len (OS.rd how19_15_0) sl22, RdS.idx (OS.rd how19_15_0) sl22, R1.intN (OS.rd how19_15_0), RdS.cells (OS.rd how19_15_0), BoxAt.cell hb0_0, BoxAt.cell hb0_1, RdS.len ho1_4 sl114, RdS.idx ho1_4 sl114, RdS.cellB ho1_4 (Ext.pres xr1), RdS.cells ho1_4, RdS.len ho5_4 sl114, RdS.idx ho5_4 sl114, RdS.cellB ho5_4 (Ext.pres xr7), RdS.cells ho5_4, wrap_id, Int.add_sub_cancel]
                  refine hK _ _ ?_
                  clear hK K
                  refine den_block ?_
                  refine den_sel [18, 2, 4, 5, 6, 13, 14, 15, 16, 17] ?_
                  intro env_18
                  simp only [go_sem]
                  refine den_loopS (σ := Nat) (fun st_ => [(18, .int .i64 (st_ : Int))]) (fun st_ H => (st_ ≤ ((diffP Y ((n : Int) + 1) ((q.getD n default).getD i default)) : List Int).length) ∧ (O1 H vw17_10 (mix (addRow X.p 1 (diffP Y ((n : Int) + 1) ((q.getD n default).getD i default)) (imgP X Y q 1 ((n : Int) - 1) (diffP X (n : Int) (unitP (X.dims.getD n 0).toNat i)))) (diffP Y ((n : Int) + 1) ((q.getD n default).getD i default)) st_) fw17_10) ∧ (Chg fw17_10 h19_15 H)) (fun st_ => ((diffP Y ((n : Int) + 1) ((q.getD n default).getD i default)) : List Int).length - st_) 0 ?_ ?_
                  · exact ⟨by first | (simp; done) | (dsimp only; omega) | (simp; omega), by rw [mix_zero]; exact how17_10, Chg.refl _ _⟩
                  · rintro m h21 ee20 ⟨hi0, hW, cL19⟩
                    replace how8_4_0 := OS.chg how8_4_0 cL19 (apart_lt hlhow8_4_0 hfw17_10 (by omega))
                    replace how19_15_0 := OS.chg how19_15_0 cL19 (apart_gt hfw19_15_0 hlhow17_10 (by omega))
                    replace hb0_0 := BoxAt.chgA hb0_0 cL19 (apart_lt hlhb0_0 hfw17_10 (by omega))
                    replace hb0_1 := BoxAt.chgA hb0_1 cL19 (apart_lt hlhb0_1 hfw17_10 (by omega))
                    have := cL19.size
                    replace eB := Ext.then eB cL19 (ge_of hfw17_10 (by omega))
                    replace xr1 := Ext.then xr1 cL19 (ge_of hfw17_10 (by omega))
                    replace xr7 := Ext.then xr7 cL19 (ge_of hfw17_10 (by omega))
                    replace cL9 := Ext.then cL9 cL19 (ge_of hfw17_10 (by omega))
                    replace cL13 := Ext.then cL13 cL19 (ge_of hfw17_10 (by omega))
                    have sbhW : Sub fw17_10 h19_15.size fw17_10 := Sub.refl
                    have hfhW := hfw17_10
                    have hlhW := hlhow17_10
                    simp only [List.cons_append, List.nil_append]
                    have hwl := mix_len (addRow X.p 1 (diffP Y ((n : Int) + 1) ((q.getD n default).getD i default)) (imgP X Y q 1 ((n : Int) - 1) (diffP X (n : Int) (unitP (X.dims.getD n 0).toNat i)))) (diffP Y ((n : Int) + 1) ((q.getD n default).getD i default)) m (addRow_len _ _ _ _)
                    have hmg : m < ((diffP Y ((n : Int) + 1) ((q.getD n default).getD i default)) : List Int).length → (mix (addRow X.p 1 (diffP Y ((n : Int) + 1) ((q.getD n default).getD i default)) (imgP X Y q 1 ((n : Int) - 1) (diffP X (n : Int) (unitP (X.dims.getD n 0).toNat i)))) (diffP Y ((n : Int) + 1) ((q.getD n default).getD i default)) m).getD m 0 = ((diffP Y ((n : Int) + 1) ((q.getD n default).getD i default)) : List Int).getD m 0 := mix_get _ _ _ _ (addRow_len _ _ _ _)
                    have hxa_ : m < ((diffP Y ((n : Int) + 1) ((q.getD n default).getD i default)) : List Int).length → 0 ≤ ((diffP Y ((n : Int) + 1) ((q.getD n default).getD i default)) : List Int).getD m 0 ∧ ((diffP Y ((n : Int) + 1) ((q.getD n default).getD i default)) : List Int).getD m 0 < X.p := fun h => hA.2.at h
                    have hA1 := hA.1
                    have hB1 := hB.1
                    refine den_seq ?_
                    refine den_seq ?_
                    refine den_region TTok ?_
                    intro K hK
                    simp -implicitDefEqProofs (disch := first | decide | assumption | omega) only [go_sem, RdS.len hdX sl22, RdS.idx hdX sl22, R1.intB hdX (Ext.pres eB), RdS.cells hdX, RdS.len hmX sl23, RdS.idx hmX sl23, RdS.cellB hmX (Ext.pres eB), RdS.cells hmX, RdS.len hdY sl22, RdS.idx hdY sl22, R1.intB hdY (Ext.pres eB), RdS.cells hdY, RdS.len hmY sl23, RdS.idx hmY sl23, RdS.cellB hmY (Ext.pres eB), RdS.cells hmY, RdS.len rf sl23, RdS.idx rf sl23, RdS.cellB rf (Ext.pres eB), RdS.cells rf, RdS.len rg sl23, RdS.idx rg sl23, RdS.cellB rg (Ext.pres eB), RdS.cells rg, RdS.len rq sl23, RdS.idx rq sl23, RdS.cellB rq (Ext.pres eB), RdS.cells rq, RdS.len hr16 sl56, RdS.idx hr16 sl56, RdS.cellB hr16 (Ext.pres eB), RdS.cells hr16, RdS.len hr17 sl22, RdS.idx hr17 sl22, R1.intB hr17 (Ext.pres eB), RdS.cells hr17, RdS.len (OS.rd how8_4_0) sl23, RdS.idx (OS.rd how8_4_0) sl23, RdS.cellN (OS.rd how8_4_0), RdS.cells (OS.rd how8_4_0), RdS.len (OS.rd how19_15_0) sl22, RdS.idx (OS.rd how19_15_0) sl22, R1.intN (OS.rd how19_15_0), RdS.cells (OS.rd how19_15_0), RdS.len (OS.rd hW) sl22, RdS.idx (OS.rd hW) sl22, R1.intN (OS.rd hW), RdS.cells (OS.rd hW), BoxAt.cell hb0_0, BoxAt.cell hb0_1, RdS.len ho1_4 sl114, RdS.idx ho1_4 sl114, RdS.cellB ho1_4 (Ext.pres xr1), RdS.cells ho1_4, RdS.len ho5_4 sl114, RdS.idx ho5_4 sl114, RdS.cellB ho5_4 (Ext.pres xr7), RdS.cells ho5_4, wrap_id, Int.add_sub_cancel]
                    refine hK _ _ ?_
                    clear hK K
                    refine den_cond rfl (fun c7 => ?_) (fun c7 => ?_)
                    · try simp only [decide_eq_true_eq, decide_eq_false_iff_not, beq_iff_eq, beq_eq_false_iff_ne, bne_iff_ne, ne_eq, Bool.not_eq_true', Bool.not_eq_false', Bool.and_eq_true, Bool.or_eq_true, bne_eq_false_iff_eq] at c7
                      refine den_skip ?_
                      refine den_seq ?_
                      refine den_block ?_
                      have hmg2 := hmg (by omega)
                      have hxa2 := hxa_ (by omega)
                      have hxb2 := hB.2.at (k := m) (by omega)
                      refine den_draw TTok mixed [15] [(0, true), (1, true), (2, true), (3, true), (4, true), (5, true), (6, true), (7, true), (8, true), (9, true), (10, true), (11, true), (12, true), (13, true), (14, true), (15, false)] (by kernel_rfl) ?_
                      intro K hK
                      simp -implicitDefEqProofs (disch := first | decide | assumption | omega) only [go_sem, fa30_0, ld2, RdS.len hdX sl22, RdS.idx hdX sl22, R1.intB hdX (Ext.pres eB), RdS.cells hdX, RdS.len hmX sl23, RdS.idx hmX sl23, RdS.cellB hmX (Ext.pres eB), RdS.cells hmX, RdS.len hdY sl22, RdS.idx hdY sl22, R1.intB hdY (Ext.pres eB), RdS.cells hdY, RdS.len hmY sl23, RdS.idx hmY sl23, RdS.cellB hmY (Ext.pres eB), RdS.cells hmY, RdS.len rf sl23, RdS.idx rf sl23, RdS.cellB rf (Ext.pres eB), RdS.cells rf, RdS.len rg sl23, RdS.idx rg sl23, RdS.cellB rg (Ext.pres eB), RdS.cells rg, RdS.len rq sl23, RdS.idx rq sl23, RdS.cellB rq (Ext.pres eB), RdS.cells rq, RdS.len hr16 sl56, RdS.idx hr16 sl56, RdS.cellB hr16 (Ext.pres eB), RdS.cells hr16, RdS.len hr17 sl22, RdS.idx hr17 sl22, R1.intB hr17 (Ext.pres eB), RdS.cells hr17, RdS.len (OS.rd how8_4_0) sl23, RdS.idx (OS.rd how8_4_0) sl23, RdS.cellN (OS.rd how8_4_0), RdS.cells (OS.rd how8_4_0), RdS.len (OS.rd how19_15_0) sl22, RdS.idx (OS.rd how19_15_0) sl22, R1.intN (OS.rd how19_15_0), RdS.cells (OS.rd how19_15_0), RdS.len (OS.rd hW) sl22, RdS.idx (OS.rd hW) sl22, R1.intN (OS.rd hW), RdS.cells (OS.rd hW), BoxAt.cell hb0_0, BoxAt.cell hb0_1, RdS.len ho1_4 sl114, RdS.idx ho1_4 sl114, RdS.cellB ho1_4 (Ext.pres xr1), RdS.cells ho1_4, RdS.len ho5_4 sl114, RdS.idx ho5_4 sl114, RdS.cellB ho5_4 (Ext.pres xr7), RdS.cells ho5_4, wrap_id, Int.add_sub_cancel]
                      refine op_store1 (j := m) st2 hW hfhW.nodup (by first | omega | (simp; omega)) rfl rfl ?_
                      intro h23_15 ho23_15 c23_15
                      have hsz23_15 := c23_15.size
                      replace how8_4_0 := OS.chg how8_4_0 c23_15 (apart_lt hlhow8_4_0 hfhW (by omega))
                      replace how19_15_0 := OS.chg how19_15_0 c23_15 (apart_gt hfw19_15_0 hlhW (by omega))
                      replace hb0_0 := BoxAt.chgA hb0_0 c23_15 (apart_lt hlhb0_0 hfhW (by omega))
                      replace hb0_1 := BoxAt.chgA hb0_1 c23_15 (apart_lt hlhb0_1 hfhW (by omega))
                      have := c23_15.size
                      replace eB := Ext.then eB c23_15 (ge_of hfhW (by omega))
                      replace xr1 := Ext.then xr1 c23_15 (ge_of hfhW (by omega))
                      replace xr7 := Ext.then xr7 c23_15 (ge_of hfhW (by omega))
                      replace cL9 := Ext.then cL9 c23_15 (ge_of hfhW (by omega))
                      replace cL13 := Ext.then cL13 c23_15 (ge_of hfhW (by omega))
                      replace cL19 := Chg.step cL19 c23_15 sbhW
                      have ap22 : Apart fw19_15_0 fw17_10 := (apart_gt hfw19_15_0 hlhW (by omega))
                      have hlho23_15 := hlhW
                      have hlenho23_15 : ((mix (addRow X.p 1 (diffP Y ((n : Int) + 1) ((q.getD n default).getD i default)) (imgP X Y q 1 ((n : Int) - 1) (diffP X (n : Int) (unitP (X.dims.getD n 0).toNat i)))) (diffP Y ((n : Int) + 1) ((q.getD n default).getD i default)) m).set m (Int.tmod (((mix (addRow X.p 1 (diffP Y ((n : Int) + 1) ((q.getD n default).getD i default)) (imgP X Y q 1 ((n : Int) - 1) (diffP X (n : Int) (unitP (X.dims.getD n 0).toNat i)))) (diffP Y ((n : Int) + 1) ((q.getD n default).getD i default)) m).getD m 0) + ((imgP X Y q (1 : Int) ((n : Int) - (1 : Int)) (diffP X (n : Int) (unitP (X.dims.getD n 0).toNat i))).getD m 0)) X.p) : List Int).length = (mix (addRow X.p 1 (diffP Y ((n : Int) + 1) ((q.getD n default).getD i default)) (imgP X Y q 1 ((n : Int) - 1) (diffP X (n : Int) (unitP (X.dims.getD n 0).toNat i)))) (diffP Y ((n : Int) + 1) ((q.getD n default).getD i default)) m : List Int).length := List.length_set
                      try simp (disch := decide) only [outv_some, outv_none, put_puts]
                      refine plK_last (by decide) ?_
                      try simp -implicitDefEqProofs (disch := first | decide | assumption | omega) only [go_sem, RdS.len hdX sl22, RdS.idx hdX sl22, R1.intB hdX (Ext.pres eB), RdS.cells hdX, RdS.len hmX sl23, RdS.idx hmX sl23, RdS.cellB hmX (Ext.pres eB), RdS.cells hmX, RdS.len hdY sl22, RdS.idx hdY sl22, R1.intB hdY (Ext.pres eB), RdS.cells hdY, RdS.len hmY sl23, RdS.idx hmY sl23, RdS.cellB hmY (Ext.pres eB), RdS.cells hmY, RdS.len rf sl23, RdS.idx rf sl23, RdS.cellB rf (Ext.pres eB), RdS.cells rf, RdS.len rg sl23, RdS.idx rg sl23, RdS.cellB rg (Ext.pres eB), RdS.cells rg, RdS.len rq sl23, RdS.idx rq sl23, RdS.cellB rq (Ext.pres eB), RdS.cells rq, RdS.len hr16 sl56, RdS.idx hr16 sl56, RdS.cellB hr16 (Ext.pres eB), RdS.cells hr16, RdS.len hr17 sl22, RdS.idx hr17 sl22, R1.intB hr17 (Ext.pres eB), RdS.cells hr17, RdS.len (OS.rd how8_4_0) sl23, RdS.idx (OS.rd how8_4_0) sl23, RdS.cellN (OS.rd how8_4_0), RdS.cells (OS.rd how8_4_0), RdS.len (OS.rd how19_15_0) sl22, RdS.idx (OS.rd how19_15_0) sl22, R1.intN (OS.rd how19_15_0), RdS.cells (OS.rd how19_15_0), RdS.len (OS.rd ho23_15) sl22, RdS.idx (OS.rd ho23_15) sl22, R1.intN (OS.rd ho23_15), RdS.cells (OS.rd ho23_15), BoxAt.cell hb0_0, BoxAt.cell hb0_1, RdS.len ho1_4 sl114, RdS.idx ho1_4 sl114, RdS.cellB ho1_4 (Ext.pres xr1), RdS.cells ho1_4, RdS.len ho5_4 sl114, RdS.idx ho5_4 sl114, RdS.cellB ho5_4 (Ext.pres xr7), RdS.cells ho5_4, wrap_id, Int.add_sub_cancel]
                      refine hK _ _ ?_
                      clear hK K
                      refine den_blk ?_
                      refine den_region TTok ?_
                      intro K hK
                      simp -implicitDefEqProofs (disch := first | decide | assumption | omega) only [go_sem, RdS.len hdX sl22, RdS.idx hdX sl22, R1.intB hdX (Ext.pres eB), RdS.cells hdX, RdS.len hmX sl23, RdS.idx hmX sl23, RdS.cellB hmX (Ext.pres eB), RdS.cells hmX, RdS.len hdY sl22, RdS.idx hdY sl22, R1.intB hdY (Ext.pres eB), RdS.cells hdY, RdS.len hmY sl23, RdS.idx hmY sl23, RdS.cellB hmY (Ext.pres eB), RdS.cells hmY, RdS.len rf sl23, RdS.idx rf sl23, RdS.cellB rf (Ext.pres eB), RdS.cells rf, RdS.len rg sl23, RdS.idx rg sl23, RdS.cellB rg (Ext.pres eB), RdS.cells rg, RdS.len rq sl23, RdS.idx rq sl23, RdS.cellB rq (Ext.pres eB), RdS.cells rq, RdS.len hr16 sl56, RdS.idx hr16 sl56, RdS.cellB hr16 (Ext.pres eB), RdS.cells hr16, RdS.len hr17 sl22, RdS.idx hr17 sl22, R1.intB hr17 (Ext.pres eB), RdS.cells hr17, RdS.len (OS.rd how8_4_0) sl23, RdS.idx (OS.rd how8_4_0) sl23, RdS.cellN (OS.rd how8_4_0), RdS.cells (OS.rd how8_4_0), RdS.len (OS.rd how19_15_0) sl22, RdS.idx (OS.rd how19_15_0) sl22, R1.intN (OS.rd how19_15_0), RdS.cells (OS.rd how19_15_0), RdS.len (OS.rd ho23_15) sl22, RdS.idx (OS.rd ho23_15) sl22, R1.intN (OS.rd ho23_15), RdS.cells (OS.rd ho23_15), BoxAt.cell hb0_0, BoxAt.cell hb0_1, RdS.len ho1_4 sl114, RdS.idx ho1_4 sl114, RdS.cellB ho1_4 (Ext.pres xr1), RdS.cells ho1_4, RdS.len ho5_4 sl114, RdS.idx ho5_4 sl114, RdS.cellB ho5_4 (Ext.pres xr7), RdS.cells ho5_4, wrap_id, Int.add_sub_cancel]
                      refine hK _ _ ?_
                      clear hK K
                      refine den_stop ?_
                      have hxa := hA.2.at (k := m) (by omega)
                      have hxb := hB.2.at (k := m) (by omega)
                      rw [addRow_step1 (by omega) (by omega)] at ho23_15
                      exact ⟨m + 1, by simp [HasL, puts_at], ⟨by first | omega | (dsimp only; omega), ho23_15, cL19⟩, by first | omega | (dsimp only; omega)⟩
                    · try simp only [decide_eq_true_eq, decide_eq_false_iff_not, beq_iff_eq, beq_eq_false_iff_ne, bne_iff_ne, ne_eq, Bool.not_eq_true', Bool.not_eq_false', Bool.and_eq_true, Bool.or_eq_true, bne_eq_false_iff_eq] at c7
                      refine den_exit ?_
                      refine denX_code ?_
                      refine denX_stop ?_
                      refine denX_hit ?_
                      refine den_seq ?_
                      have hal := addFam_len X.p (-1) f g
                      have har := addFam_rows X.p (-1) (f := f) (g := g) (n := n) (by omega)
                      have hrow := (addFam_row (p := X.p) (k := -1) (f := f) (g := g) (n := n) (i := i) (by omega) (by omega)).trans (addRow_neg _ _)
                      refine den_region TTok ?_
                      intro K hK
                      have hr23 := RdS.rowN (OS.rd how8_4_0) n (by omega)
                      have hlhr23 := RdS.le hr23
                      have xr24 := Ext.refl h21
                      have hr25 := RdS.rowN hr23 i (by omega)
                      have hlhr25 := RdS.le hr25
                      have xr26 := xr24
                      simp -implicitDefEqProofs (disch := first | decide | assumption | omega) only [go_sem, ld56, ld22, RdS.len hdX sl22, RdS.idx hdX sl22, R1.intB hdX (Ext.pres eB), RdS.cells hdX, RdS.len hmX sl23, RdS.idx hmX sl23, RdS.cellB hmX (Ext.pres eB), RdS.cells hmX, RdS.len hdY sl22, RdS.idx hdY sl22, R1.intB hdY (Ext.pres eB), RdS.cells hdY, RdS.len hmY sl23, RdS.idx hmY sl23, RdS.cellB hmY (Ext.pres eB), RdS.cells hmY, RdS.len rf sl23, RdS.idx rf sl23, RdS.cellB rf (Ext.pres eB), RdS.cells rf, RdS.len rg sl23, RdS.idx rg sl23, RdS.cellB rg (Ext.pres eB), RdS.cells rg, RdS.len rq sl23, RdS.idx rq sl23, RdS.cellB rq (Ext.pres eB), RdS.cells rq, RdS.len hr16 sl56, RdS.idx hr16 sl56, RdS.cellB hr16 (Ext.pres eB), RdS.cells hr16, RdS.len hr17 sl22, RdS.idx hr17 sl22, R1.intB hr17 (Ext.pres eB), RdS.cells hr17, RdS.len (OS.rd how8_4_0) sl23, RdS.idx (OS.rd how8_4_0) sl23, RdS.cellN (OS.rd how8_4_0), RdS.cells (OS.rd how8_4_0), RdS.len (OS.rd hW) sl22, RdS.idx (OS.rd hW) sl22, R1.intN (OS.rd hW), RdS.cells (OS.rd hW), BoxAt.cell hb0_0, BoxAt.cell hb0_1, RdS.len ho1_4 sl114, RdS.idx ho1_4 sl114, RdS.cellB ho1_4 (Ext.pres xr1), RdS.cells ho1_4, RdS.len ho5_4 sl114, RdS.idx ho5_4 sl114, RdS.cellB ho5_4 (Ext.pres xr7), RdS.cells ho5_4, RdS.len hr23 sl56, RdS.idx hr23 sl56, RdS.cellB hr23 (Ext.pres xr24), RdS.cells hr23, RdS.len hr25 sl22, RdS.idx hr25 sl22, R1.intB hr25 (Ext.pres xr26), RdS.cells hr25, wrap_id, Int.add_sub_cancel]
                      try simp -implicitDefEqProofs (disch := first | decide | assumption | omega) only [go_sem, RdS.len hdX sl22, RdS.idx hdX sl22, R1.intB hdX (Ext.pres eB), RdS.cells hdX, RdS.len hmX sl23, RdS.idx hmX sl23, RdS.cellB hmX (Ext.pres eB), RdS.cells hmX, RdS.len hdY sl22, RdS.idx hdY sl22, R1.intB hdY (Ext.pres eB), RdS.cells hdY, RdS.len hmY sl23, RdS.idx hmY sl23, RdS.cellB hmY (Ext.pres eB), RdS.cells hmY, RdS.len rf sl23, RdS.idx rf sl23, RdS.cellB rf (Ext.pres eB), RdS.cells rf, RdS.len rg sl23, RdS.idx rg sl23, RdS.cellB rg (Ext.pres eB), RdS.cells rg, RdS.len rq sl23, RdS.idx rq sl23, RdS.cellB rq (Ext.pres eB), RdS.cells rq, RdS.len hr16 sl56, RdS.idx hr16 sl56, RdS.cellB hr16 (Ext.pres eB), RdS.cells hr16, RdS.len hr17 sl22, RdS.idx hr17 sl22, R1.intB hr17 (Ext.pres eB), RdS.cells hr17, RdS.len (OS.rd how8_4_0) sl23, RdS.idx (OS.rd how8_4_0) sl23, RdS.cellN (OS.rd how8_4_0), RdS.cells (OS.rd how8_4_0), RdS.len (OS.rd hW) sl22, RdS.idx (OS.rd hW) sl22, R1.intN (OS.rd hW), RdS.cells (OS.rd hW), BoxAt.cell hb0_0, BoxAt.cell hb0_1, RdS.len ho1_4 sl114, RdS.idx ho1_4 sl114, RdS.cellB ho1_4 (Ext.pres xr1), RdS.cells ho1_4, RdS.len ho5_4 sl114, RdS.idx ho5_4 sl114, RdS.cellB ho5_4 (Ext.pres xr7), RdS.cells ho5_4, RdS.len hr23 sl56, RdS.idx hr23 sl56, RdS.cellB hr23 (Ext.pres xr24), RdS.cells hr23, RdS.len hr25 sl22, RdS.idx hr25 sl22, R1.intB hr25 (Ext.pres xr26), RdS.cells hr25, wrap_id, Int.add_sub_cancel]
                      refine CallA.mono (same1_ok _ _ (mix (addRow X.p 1 (diffP Y ((n : Int) + 1) ((q.getD n default).getD i default)) (imgP X Y q 1 ((n : Int) - 1) (diffP X (n : Int) (unitP (X.dims.getD n 0).toNat i)))) (diffP Y ((n : Int) + 1) ((q.getD n default).getD i default)) m) (((addFam X.p (-1 : Int) f g).getD n default).getD i default) _ (OS.rd hW) (RdS.pres hr25 (Ext.pres xr26)) ) ?_
                      intro v_ h24_8
                      rintro ⟨rfl, e24_8⟩
                      replace how8_4_0 := OS.ext how8_4_0 e24_8
                      replace hW := OS.ext hW e24_8
                      replace hb0_0 := BoxAt.ext hb0_0 e24_8
                      replace hb0_1 := BoxAt.ext hb0_1 e24_8
                      have := Ext.size e24_8
                      replace eB := Ext.trans eB e24_8
                      replace xr1 := Ext.trans xr1 e24_8
                      replace xr7 := Ext.trans xr7 e24_8
                      replace xr24 := Ext.trans xr24 e24_8
                      replace xr26 := Ext.trans xr26 e24_8
                      replace cL9 := Ext.trans cL9 e24_8
                      replace cL13 := Ext.trans cL13 e24_8
                      try simp -implicitDefEqProofs (disch := first | decide | assumption | omega) only [go_sem, RdS.len hdX sl22, RdS.idx hdX sl22, R1.intB hdX (Ext.pres eB), RdS.cells hdX, RdS.len hmX sl23, RdS.idx hmX sl23, RdS.cellB hmX (Ext.pres eB), RdS.cells hmX, RdS.len hdY sl22, RdS.idx hdY sl22, R1.intB hdY (Ext.pres eB), RdS.cells hdY, RdS.len hmY sl23, RdS.idx hmY sl23, RdS.cellB hmY (Ext.pres eB), RdS.cells hmY, RdS.len rf sl23, RdS.idx rf sl23, RdS.cellB rf (Ext.pres eB), RdS.cells rf, RdS.len rg sl23, RdS.idx rg sl23, RdS.cellB rg (Ext.pres eB), RdS.cells rg, RdS.len rq sl23, RdS.idx rq sl23, RdS.cellB rq (Ext.pres eB), RdS.cells rq, RdS.len hr16 sl56, RdS.idx hr16 sl56, RdS.cellB hr16 (Ext.pres eB), RdS.cells hr16, RdS.len hr17 sl22, RdS.idx hr17 sl22, R1.intB hr17 (Ext.pres eB), RdS.cells hr17, RdS.len (OS.rd how8_4_0) sl23, RdS.idx (OS.rd how8_4_0) sl23, RdS.cellN (OS.rd how8_4_0), RdS.cells (OS.rd how8_4_0), RdS.len (OS.rd hW) sl22, RdS.idx (OS.rd hW) sl22, R1.intN (OS.rd hW), RdS.cells (OS.rd hW), BoxAt.cell hb0_0, BoxAt.cell hb0_1, RdS.len ho1_4 sl114, RdS.idx ho1_4 sl114, RdS.cellB ho1_4 (Ext.pres xr1), RdS.cells ho1_4, RdS.len ho5_4 sl114, RdS.idx ho5_4 sl114, RdS.cellB ho5_4 (Ext.pres xr7), RdS.cells ho5_4, RdS.len hr23 sl56, RdS.idx hr23 sl56, RdS.cellB hr23 (Ext.pres xr24), RdS.cells hr23, RdS.len hr25 sl22, RdS.idx hr25 sl22, R1.intB hr25 (Ext.pres xr26), RdS.cells hr25, wrap_id, Int.add_sub_cancel]
                      refine hK _ _ ?_
                      clear hK K
                      refine den_cond rfl (fun c8 => ?_) (fun c8 => ?_)
                      · try simp only [decide_eq_true_eq, decide_eq_false_iff_not, beq_iff_eq, beq_eq_false_iff_ne, bne_iff_ne, ne_eq, Bool.not_eq_true', Bool.not_eq_false', Bool.and_eq_true, Bool.or_eq_true, bne_eq_false_iff_eq] at c8
                        refine den_seq ?_
                        refine den_region TTok ?_
                        intro K hK
                        simp -implicitDefEqProofs (disch := first | decide | assumption | omega) only [go_sem, RdS.len hdX sl22, RdS.idx hdX sl22, R1.intB hdX (Ext.pres eB), RdS.cells hdX, RdS.len hmX sl23, RdS.idx hmX sl23, RdS.cellB hmX (Ext.pres eB), RdS.cells hmX, RdS.len hdY sl22, RdS.idx hdY sl22, R1.intB hdY (Ext.pres eB), RdS.cells hdY, RdS.len hmY sl23, RdS.idx hmY sl23, RdS.cellB hmY (Ext.pres eB), RdS.cells hmY, RdS.len rf sl23, RdS.idx rf sl23, RdS.cellB rf (Ext.pres eB), RdS.cells rf, RdS.len rg sl23, RdS.idx rg sl23, RdS.cellB rg (Ext.pres eB), RdS.cells rg, RdS.len rq sl23, RdS.idx rq sl23, RdS.cellB rq (Ext.pres eB), RdS.cells rq, RdS.len hr16 sl56, RdS.idx hr16 sl56, RdS.cellB hr16 (Ext.pres eB), RdS.cells hr16, RdS.len hr17 sl22, RdS.idx hr17 sl22, R1.intB hr17 (Ext.pres eB), RdS.cells hr17, RdS.len ho1_4 sl114, RdS.idx ho1_4 sl114, RdS.cellB ho1_4 (Ext.pres xr1), RdS.cells ho1_4, RdS.len ho5_4 sl114, RdS.idx ho5_4 sl114, RdS.cellB ho5_4 (Ext.pres xr7), RdS.cells ho5_4, RdS.len hr23 sl56, RdS.idx hr23 sl56, RdS.cellB hr23 (Ext.pres xr24), RdS.cells hr23, RdS.len hr25 sl22, RdS.idx hr25 sl22, R1.intB hr25 (Ext.pres xr26), RdS.cells hr25, wrap_id, Int.add_sub_cancel]
                        refine hK _ _ ?_
                        clear hK K
                        refine den_ret ?_
                        simp (disch := decide) only [resP_2, puts_same, puts_ne]
                        have hz : hmP X Y f g q = (false, 0) := by
                          rw [hmP, if_pos hmz, pdec_f.2 (fun hH => ?_)]
                          have h := hH n hR.nf.2.2.2.1 i (by have := hR.d8; have := hR.fi; omega)
                          have c_ := c8
                          rw [hrow] at c_
                          try rw [mix_end _ _ _ (addRow_len _ _ _ _) (by omega)] at c_
                          unfold homAt homR hdP hoP at h
                          first
                          | (rw [if_pos (show 0 < n by omega), if_pos (show (n : Int) < (Y.dims.length : Int) - 1 by omega)] at h; exact c_ h.symm)
                          | (rw [if_neg (show ¬ 0 < n by omega), if_pos (show (n : Int) < (Y.dims.length : Int) - 1 by omega)] at h; exact c_ h.symm)
                          | (rw [if_pos (show 0 < n by omega), if_neg (show ¬ (n : Int) < (Y.dims.length : Int) - 1 by omega)] at h; exact c_ h.symm)
                          | (rw [if_neg (show ¬ 0 < n by omega), if_neg (show ¬ (n : Int) < (Y.dims.length : Int) - 1 by omega)] at h; exact c_ h.symm)
                        exact ⟨by rw [hz], eB⟩
                      · try simp only [decide_eq_true_eq, decide_eq_false_iff_not, beq_iff_eq, beq_eq_false_iff_ne, bne_iff_ne, ne_eq, Bool.not_eq_true', Bool.not_eq_false', Bool.and_eq_true, Bool.or_eq_true, bne_eq_false_iff_eq] at c8
                        refine den_skip ?_
                        refine den_blk ?_
                        refine den_region TTok ?_
                        intro K hK
                        simp -implicitDefEqProofs (disch := first | decide | assumption | omega) only [go_sem, RdS.len hdX sl22, RdS.idx hdX sl22, R1.intB hdX (Ext.pres eB), RdS.cells hdX, RdS.len hmX sl23, RdS.idx hmX sl23, RdS.cellB hmX (Ext.pres eB), RdS.cells hmX, RdS.len hdY sl22, RdS.idx hdY sl22, R1.intB hdY (Ext.pres eB), RdS.cells hdY, RdS.len hmY sl23, RdS.idx hmY sl23, RdS.cellB hmY (Ext.pres eB), RdS.cells hmY, RdS.len rf sl23, RdS.idx rf sl23, RdS.cellB rf (Ext.pres eB), RdS.cells rf, RdS.len rg sl23, RdS.idx rg sl23, RdS.cellB rg (Ext.pres eB), RdS.cells rg, RdS.len rq sl23, RdS.idx rq sl23, RdS.cellB rq (Ext.pres eB), RdS.cells rq, RdS.len hr16 sl56, RdS.idx hr16 sl56, RdS.cellB hr16 (Ext.pres eB), RdS.cells hr16, RdS.len hr17 sl22, RdS.idx hr17 sl22, R1.intB hr17 (Ext.pres eB), RdS.cells hr17, RdS.len (OS.rd how8_4_0) sl23, RdS.idx (OS.rd how8_4_0) sl23, RdS.cellN (OS.rd how8_4_0), RdS.cells (OS.rd how8_4_0), BoxAt.cell hb0_0, BoxAt.cell hb0_1, RdS.len ho1_4 sl114, RdS.idx ho1_4 sl114, RdS.cellB ho1_4 (Ext.pres xr1), RdS.cells ho1_4, RdS.len ho5_4 sl114, RdS.idx ho5_4 sl114, RdS.cellB ho5_4 (Ext.pres xr7), RdS.cells ho5_4, RdS.len hr23 sl56, RdS.idx hr23 sl56, RdS.cellB hr23 (Ext.pres xr24), RdS.cells hr23, RdS.len hr25 sl22, RdS.idx hr25 sl22, R1.intB hr25 (Ext.pres xr26), RdS.cells hr25, wrap_id, Int.add_sub_cancel]
                        refine hK _ _ ?_
                        clear hK K
                        refine den_stop ?_
                        exact ⟨i + 1, by simp [HasL, puts_at], ⟨by omega, by
  have hcur : homAt X Y f g q n i := by have c_ := c8; rw [hrow] at c_; (try rw [mix_end _ _ _ (addRow_len _ _ _ _) (by omega)] at c_); unfold homAt homR hdP hoP; first | (rw [if_pos (show 0 < n by omega), if_pos (show (n : Int) < (Y.dims.length : Int) - 1 by omega)]; exact c_.symm) | (rw [if_neg (show ¬ 0 < n by omega), if_pos (show (n : Int) < (Y.dims.length : Int) - 1 by omega)]; exact c_.symm) | (rw [if_pos (show 0 < n by omega), if_neg (show ¬ (n : Int) < (Y.dims.length : Int) - 1 by omega)]; exact c_.symm) | (rw [if_neg (show ¬ 0 < n by omega), if_neg (show ¬ (n : Int) < (Y.dims.length : Int) - 1 by omega)]; exact c_.symm)
  exact fun j hj => (Nat.lt_succ_iff_lt_or_eq.1 hj).elim (hy j) (fun e => e ▸ hcur), cL13⟩, by first | omega | (dsimp only; omega)⟩
                · try simp only [decide_eq_true_eq, decide_eq_false_iff_not, beq_iff_eq, beq_eq_false_iff_ne, bne_iff_ne, ne_eq, Bool.not_eq_true', Bool.not_eq_false', Bool.and_eq_true, Bool.or_eq_true, bne_eq_false_iff_eq] at c6
                  refine den_skip ?_
                  refine den_seq ?_
                  have hal := addFam_len X.p (-1) f g
                  have har := addFam_rows X.p (-1) (f := f) (g := g) (n := n) (by omega)
                  have hrow := (addFam_row (p := X.p) (k := -1) (f := f) (g := g) (n := n) (i := i) (by omega) (by omega)).trans (addRow_neg _ _)
                  refine den_region TTok ?_
                  intro K hK
                  have hr27 := RdS.rowN (OS.rd how8_4_0) n (by omega)
                  have hlhr27 := RdS.le hr27
                  have xr28 := Ext.refl h17_10
                  have hr29 := RdS.rowN hr27 i (by omega)
                  have hlhr29 := RdS.le hr29
                  have xr30 := xr28
                  simp -implicitDefEqProofs (disch := first | decide | assumption | omega) only [go_sem, ld56, ld22, RdS.len hdX sl22, RdS.idx hdX sl22, R1.intB hdX (Ext.pres eB), RdS.cells hdX, RdS.len hmX sl23, RdS.idx hmX sl23, RdS.cellB hmX (Ext.pres eB), RdS.cells hmX, RdS.len hdY sl22, RdS.idx hdY sl22, R1.intB hdY (Ext.pres eB), RdS.cells hdY, RdS.len hmY sl23, RdS.idx hmY sl23, RdS.cellB hmY (Ext.pres eB), RdS.cells hmY, RdS.len rf sl23, RdS.idx rf sl23, RdS.cellB rf (Ext.pres eB), RdS.cells rf, RdS.len rg sl23, RdS.idx rg sl23, RdS.cellB rg (Ext.pres eB), RdS.cells rg, RdS.len rq sl23, RdS.idx rq sl23, RdS.cellB rq (Ext.pres eB), RdS.cells rq, RdS.len hr16 sl56, RdS.idx hr16 sl56, RdS.cellB hr16 (Ext.pres eB), RdS.cells hr16, RdS.len hr17 sl22, RdS.idx hr17 sl22, R1.intB hr17 (Ext.pres eB), RdS.cells hr17, RdS.len (OS.rd how8_4_0) sl23, RdS.idx (OS.rd how8_4_0) sl23, RdS.cellN (OS.rd how8_4_0), RdS.cells (OS.rd how8_4_0), RdS.len (OS.rd how17_10) sl22, RdS.idx (OS.rd how17_10) sl22, R1.intN (OS.rd how17_10), RdS.cells (OS.rd how17_10), BoxAt.cell hb0_0, BoxAt.cell hb0_1, RdS.len ho1_4 sl114, RdS.idx ho1_4 sl114, RdS.cellB ho1_4 (Ext.pres xr1), RdS.cells ho1_4, RdS.len ho5_4 sl114, RdS.idx ho5_4 sl114, RdS.cellB ho5_4 (Ext.pres xr7), RdS.cells ho5_4, RdS.len hr27 sl56, RdS.idx hr27 sl56, RdS.cellB hr27 (Ext.pres xr28), RdS.cells hr27, RdS.len hr29 sl22, RdS.idx hr29 sl22, R1.intB hr29 (Ext.pres xr30), RdS.cells hr29, wrap_id, Int.add_sub_cancel]
                  try simp -implicitDefEqProofs (disch := first | decide | assumption | omega) only [go_sem, RdS.len hdX sl22, RdS.idx hdX sl22, R1.intB hdX (Ext.pres eB), RdS.cells hdX, RdS.len hmX sl23, RdS.idx hmX sl23, RdS.cellB hmX (Ext.pres eB), RdS.cells hmX, RdS.len hdY sl22, RdS.idx hdY sl22, R1.intB hdY (Ext.pres eB), RdS.cells hdY, RdS.len hmY sl23, RdS.idx hmY sl23, RdS.cellB hmY (Ext.pres eB), RdS.cells hmY, RdS.len rf sl23, RdS.idx rf sl23, RdS.cellB rf (Ext.pres eB), RdS.cells rf, RdS.len rg sl23, RdS.idx rg sl23, RdS.cellB rg (Ext.pres eB), RdS.cells rg, RdS.len rq sl23, RdS.idx rq sl23, RdS.cellB rq (Ext.pres eB), RdS.cells rq, RdS.len hr16 sl56, RdS.idx hr16 sl56, RdS.cellB hr16 (Ext.pres eB), RdS.cells hr16, RdS.len hr17 sl22, RdS.idx hr17 sl22, R1.intB hr17 (Ext.pres eB), RdS.cells hr17, RdS.len (OS.rd how8_4_0) sl23, RdS.idx (OS.rd how8_4_0) sl23, RdS.cellN (OS.rd how8_4_0), RdS.cells (OS.rd how8_4_0), RdS.len (OS.rd how17_10) sl22, RdS.idx (OS.rd how17_10) sl22, R1.intN (OS.rd how17_10), RdS.cells (OS.rd how17_10), BoxAt.cell hb0_0, BoxAt.cell hb0_1, RdS.len ho1_4 sl114, RdS.idx ho1_4 sl114, RdS.cellB ho1_4 (Ext.pres xr1), RdS.cells ho1_4, RdS.len ho5_4 sl114, RdS.idx ho5_4 sl114, RdS.cellB ho5_4 (Ext.pres xr7), RdS.cells ho5_4, RdS.len hr27 sl56, RdS.idx hr27 sl56, RdS.cellB hr27 (Ext.pres xr28), RdS.cells hr27, RdS.len hr29 sl22, RdS.idx hr29 sl22, R1.intB hr29 (Ext.pres xr30), RdS.cells hr29, wrap_id, Int.add_sub_cancel]
                  refine CallA.mono (same1_ok _ _ (diffP Y ((n : Int) + 1) ((q.getD n default).getD i default)) (((addFam X.p (-1 : Int) f g).getD n default).getD i default) _ (OS.rd how17_10) (RdS.pres hr29 (Ext.pres xr30)) ) ?_
                  intro v_ h24_8_1
                  rintro ⟨rfl, e24_8_1⟩
                  replace how8_4_0 := OS.ext how8_4_0 e24_8_1
                  replace how17_10 := OS.ext how17_10 e24_8_1
                  replace hb0_0 := BoxAt.ext hb0_0 e24_8_1
                  replace hb0_1 := BoxAt.ext hb0_1 e24_8_1
                  have := Ext.size e24_8_1
                  replace eB := Ext.trans eB e24_8_1
                  replace xr1 := Ext.trans xr1 e24_8_1
                  replace xr7 := Ext.trans xr7 e24_8_1
                  replace xr28 := Ext.trans xr28 e24_8_1
                  replace xr30 := Ext.trans xr30 e24_8_1
                  replace cL9 := Ext.trans cL9 e24_8_1
                  replace cL13 := Ext.trans cL13 e24_8_1
                  try simp -implicitDefEqProofs (disch := first | decide | assumption | omega) only [go_sem, RdS.len hdX sl22, RdS.idx hdX sl22, R1.intB hdX (Ext.pres eB), RdS.cells hdX, RdS.len hmX sl23, RdS.idx hmX sl23, RdS.cellB hmX (Ext.pres eB), RdS.cells hmX, RdS.len hdY sl22, RdS.idx hdY sl22, R1.intB hdY (Ext.pres eB), RdS.cells hdY, RdS.len hmY sl23, RdS.idx hmY sl23, RdS.cellB hmY (Ext.pres eB), RdS.cells hmY, RdS.len rf sl23, RdS.idx rf sl23, RdS.cellB rf (Ext.pres eB), RdS.cells rf, RdS.len rg sl23, RdS.idx rg sl23, RdS.cellB rg (Ext.pres eB), RdS.cells rg, RdS.len rq sl23, RdS.idx rq sl23, RdS.cellB rq (Ext.pres eB), RdS.cells rq, RdS.len hr16 sl56, RdS.idx hr16 sl56, RdS.cellB hr16 (Ext.pres eB), RdS.cells hr16, RdS.len hr17 sl22, RdS.idx hr17 sl22, R1.intB hr17 (Ext.pres eB), RdS.cells hr17, RdS.len (OS.rd how8_4_0) sl23, RdS.idx (OS.rd how8_4_0) sl23, RdS.cellN (OS.rd how8_4_0), RdS.cells (OS.rd how8_4_0), RdS.len (OS.rd how17_10) sl22, RdS.idx (OS.rd how17_10) sl22, R1.intN (OS.rd how17_10), RdS.cells (OS.rd how17_10), BoxAt.cell hb0_0, BoxAt.cell hb0_1, RdS.len ho1_4 sl114, RdS.idx ho1_4 sl114, RdS.cellB ho1_4 (Ext.pres xr1), RdS.cells ho1_4, RdS.len ho5_4 sl114, RdS.idx ho5_4 sl114, RdS.cellB ho5_4 (Ext.pres xr7), RdS.cells ho5_4, RdS.len hr27 sl56, RdS.idx hr27 sl56, RdS.cellB hr27 (Ext.pres xr28), RdS.cells hr27, RdS.len hr29 sl22, RdS.idx hr29 sl22, R1.intB hr29 (Ext.pres xr30), RdS.cells hr29, wrap_id, Int.add_sub_cancel]
                  refine hK _ _ ?_
                  clear hK K
                  refine den_cond rfl (fun c9 => ?_) (fun c9 => ?_)
                  · try simp only [decide_eq_true_eq, decide_eq_false_iff_not, beq_iff_eq, beq_eq_false_iff_ne, bne_iff_ne, ne_eq, Bool.not_eq_true', Bool.not_eq_false', Bool.and_eq_true, Bool.or_eq_true, bne_eq_false_iff_eq] at c9
                    refine den_seq ?_
                    refine den_region TTok ?_
                    intro K hK
                    simp -implicitDefEqProofs (disch := first | decide | assumption | omega) only [go_sem, RdS.len hdX sl22, RdS.idx hdX sl22, R1.intB hdX (Ext.pres eB), RdS.cells hdX, RdS.len hmX sl23, RdS.idx hmX sl23, RdS.cellB hmX (Ext.pres eB), RdS.cells hmX, RdS.len hdY sl22, RdS.idx hdY sl22, R1.intB hdY (Ext.pres eB), RdS.cells hdY, RdS.len hmY sl23, RdS.idx hmY sl23, RdS.cellB hmY (Ext.pres eB), RdS.cells hmY, RdS.len rf sl23, RdS.idx rf sl23, RdS.cellB rf (Ext.pres eB), RdS.cells rf, RdS.len rg sl23, RdS.idx rg sl23, RdS.cellB rg (Ext.pres eB), RdS.cells rg, RdS.len rq sl23, RdS.idx rq sl23, RdS.cellB rq (Ext.pres eB), RdS.cells rq, RdS.len hr16 sl56, RdS.idx hr16 sl56, RdS.cellB hr16 (Ext.pres eB), RdS.cells hr16, RdS.len hr17 sl22, RdS.idx hr17 sl22, R1.intB hr17 (Ext.pres eB), RdS.cells hr17, RdS.len ho1_4 sl114, RdS.idx ho1_4 sl114, RdS.cellB ho1_4 (Ext.pres xr1), RdS.cells ho1_4, RdS.len ho5_4 sl114, RdS.idx ho5_4 sl114, RdS.cellB ho5_4 (Ext.pres xr7), RdS.cells ho5_4, RdS.len hr27 sl56, RdS.idx hr27 sl56, RdS.cellB hr27 (Ext.pres xr28), RdS.cells hr27, RdS.len hr29 sl22, RdS.idx hr29 sl22, R1.intB hr29 (Ext.pres xr30), RdS.cells hr29, wrap_id, Int.add_sub_cancel]
                    refine hK _ _ ?_
                    clear hK K
                    refine den_ret ?_
                    simp (disch := decide) only [resP_2, puts_same, puts_ne]
                    have hz : hmP X Y f g q = (false, 0) := by
                      rw [hmP, if_pos hmz, pdec_f.2 (fun hH => ?_)]
                      have h := hH n hR.nf.2.2.2.1 i (by have := hR.d8; have := hR.fi; omega)
                      have c_ := c9
                      rw [hrow] at c_
                      try rw [mix_end _ _ _ (addRow_len _ _ _ _) (by omega)] at c_
                      unfold homAt homR hdP hoP at h
                      first
                      | (rw [if_pos (show 0 < n by omega), if_pos (show (n : Int) < (Y.dims.length : Int) - 1 by omega)] at h; exact c_ h.symm)
                      | (rw [if_neg (show ¬ 0 < n by omega), if_pos (show (n : Int) < (Y.dims.length : Int) - 1 by omega)] at h; exact c_ h.symm)
                      | (rw [if_pos (show 0 < n by omega), if_neg (show ¬ (n : Int) < (Y.dims.length : Int) - 1 by omega)] at h; exact c_ h.symm)
                      | (rw [if_neg (show ¬ 0 < n by omega), if_neg (show ¬ (n : Int) < (Y.dims.length : Int) - 1 by omega)] at h; exact c_ h.symm)
                    exact ⟨by rw [hz], eB⟩
                  · try simp only [decide_eq_true_eq, decide_eq_false_iff_not, beq_iff_eq, beq_eq_false_iff_ne, bne_iff_ne, ne_eq, Bool.not_eq_true', Bool.not_eq_false', Bool.and_eq_true, Bool.or_eq_true, bne_eq_false_iff_eq] at c9
                    refine den_skip ?_
                    refine den_blk ?_
                    refine den_region TTok ?_
                    intro K hK
                    simp -implicitDefEqProofs (disch := first | decide | assumption | omega) only [go_sem, RdS.len hdX sl22, RdS.idx hdX sl22, R1.intB hdX (Ext.pres eB), RdS.cells hdX, RdS.len hmX sl23, RdS.idx hmX sl23, RdS.cellB hmX (Ext.pres eB), RdS.cells hmX, RdS.len hdY sl22, RdS.idx hdY sl22, R1.intB hdY (Ext.pres eB), RdS.cells hdY, RdS.len hmY sl23, RdS.idx hmY sl23, RdS.cellB hmY (Ext.pres eB), RdS.cells hmY, RdS.len rf sl23, RdS.idx rf sl23, RdS.cellB rf (Ext.pres eB), RdS.cells rf, RdS.len rg sl23, RdS.idx rg sl23, RdS.cellB rg (Ext.pres eB), RdS.cells rg, RdS.len rq sl23, RdS.idx rq sl23, RdS.cellB rq (Ext.pres eB), RdS.cells rq, RdS.len hr16 sl56, RdS.idx hr16 sl56, RdS.cellB hr16 (Ext.pres eB), RdS.cells hr16, RdS.len hr17 sl22, RdS.idx hr17 sl22, R1.intB hr17 (Ext.pres eB), RdS.cells hr17, RdS.len (OS.rd how8_4_0) sl23, RdS.idx (OS.rd how8_4_0) sl23, RdS.cellN (OS.rd how8_4_0), RdS.cells (OS.rd how8_4_0), BoxAt.cell hb0_0, BoxAt.cell hb0_1, RdS.len ho1_4 sl114, RdS.idx ho1_4 sl114, RdS.cellB ho1_4 (Ext.pres xr1), RdS.cells ho1_4, RdS.len ho5_4 sl114, RdS.idx ho5_4 sl114, RdS.cellB ho5_4 (Ext.pres xr7), RdS.cells ho5_4, RdS.len hr27 sl56, RdS.idx hr27 sl56, RdS.cellB hr27 (Ext.pres xr28), RdS.cells hr27, RdS.len hr29 sl22, RdS.idx hr29 sl22, R1.intB hr29 (Ext.pres xr30), RdS.cells hr29, wrap_id, Int.add_sub_cancel]
                    refine hK _ _ ?_
                    clear hK K
                    refine den_stop ?_
                    exact ⟨i + 1, by simp [HasL, puts_at], ⟨by omega, by
  have hcur : homAt X Y f g q n i := by have c_ := c9; rw [hrow] at c_; (try rw [mix_end _ _ _ (addRow_len _ _ _ _) (by omega)] at c_); unfold homAt homR hdP hoP; first | (rw [if_pos (show 0 < n by omega), if_pos (show (n : Int) < (Y.dims.length : Int) - 1 by omega)]; exact c_.symm) | (rw [if_neg (show ¬ 0 < n by omega), if_pos (show (n : Int) < (Y.dims.length : Int) - 1 by omega)]; exact c_.symm) | (rw [if_pos (show 0 < n by omega), if_neg (show ¬ (n : Int) < (Y.dims.length : Int) - 1 by omega)]; exact c_.symm) | (rw [if_neg (show ¬ 0 < n by omega), if_neg (show ¬ (n : Int) < (Y.dims.length : Int) - 1 by omega)]; exact c_.symm)
  exact fun j hj => (Nat.lt_succ_iff_lt_or_eq.1 hj).elim (hy j) (fun e => e ▸ hcur), cL13⟩, by first | omega | (dsimp only; omega)⟩
              · try simp only [decide_eq_true_eq, decide_eq_false_iff_not, beq_iff_eq, beq_eq_false_iff_ne, bne_iff_ne, ne_eq, Bool.not_eq_true', Bool.not_eq_false', Bool.and_eq_true, Bool.or_eq_true, bne_eq_false_iff_eq] at c5
                refine den_skip ?_
                refine den_seq ?_
                refine den_seq ?_
                refine den_region TTok ?_
                intro K hK
                simp -implicitDefEqProofs (disch := first | decide | assumption | omega) only [go_sem, RdS.len hdX sl22, RdS.idx hdX sl22, R1.intB hdX (Ext.pres eB), RdS.cells hdX, RdS.len hmX sl23, RdS.idx hmX sl23, RdS.cellB hmX (Ext.pres eB), RdS.cells hmX, RdS.len hdY sl22, RdS.idx hdY sl22, R1.intB hdY (Ext.pres eB), RdS.cells hdY, RdS.len hmY sl23, RdS.idx hmY sl23, RdS.cellB hmY (Ext.pres eB), RdS.cells hmY, RdS.len rf sl23, RdS.idx rf sl23, RdS.cellB rf (Ext.pres eB), RdS.cells rf, RdS.len rg sl23, RdS.idx rg sl23, RdS.cellB rg (Ext.pres eB), RdS.cells rg, RdS.len rq sl23, RdS.idx rq sl23, RdS.cellB rq (Ext.pres eB), RdS.cells rq, RdS.len (OS.rd how8_4_0) sl23, RdS.idx (OS.rd how8_4_0) sl23, RdS.cellN (OS.rd how8_4_0), RdS.cells (OS.rd how8_4_0), RdS.len (OS.rd ho15_3) sl22, RdS.idx (OS.rd ho15_3) sl22, R1.intN (OS.rd ho15_3), RdS.cells (OS.rd ho15_3), BoxAt.cell hb0_0, BoxAt.cell hb0_1, RdS.len ho1_4 sl114, RdS.idx ho1_4 sl114, RdS.cellB ho1_4 (Ext.pres xr1), RdS.cells ho1_4, RdS.len ho5_4 sl114, RdS.idx ho5_4 sl114, RdS.cellB ho5_4 (Ext.pres xr7), RdS.cells ho5_4, wrap_id, Int.add_sub_cancel]
                refine hK _ _ ?_
                clear hK K
                refine den_cond rfl (fun c10 => ?_) (fun c10 => ?_)
                · try simp only [decide_eq_true_eq, decide_eq_false_iff_not, beq_iff_eq, beq_eq_false_iff_ne, bne_iff_ne, ne_eq, Bool.not_eq_true', Bool.not_eq_false', Bool.and_eq_true, Bool.or_eq_true, bne_eq_false_iff_eq] at c10
                  refine den_seq ?_
                  have hdu := hR.du (by omega)
                  have hho := hR.ho (by omega)
                  have hvv : 0 ≤ (n : Int) - 1 ∧ (n : Int) - 1 ≤ (X.dims.length : Int) - 1 → ((diffP X (n : Int) (unitP (X.dims.getD n 0).toNat i)).length : Int) = X.dims.getD ((n : Int) - 1).toNat 0 ∧ Bnd X.p (diffP X (n : Int) (unitP (X.dims.getD n 0).toNat i)) := fun _ => hdu
                  refine den_draw TTok mixed [] [(0, true), (1, true), (2, true), (3, true), (4, true), (5, true), (6, true), (7, true), (8, true), (9, true), (10, true), (11, true), (12, true), (13, false), (14, false), (15, false), (16, true)] (by kernel_rfl) ?_
                  intro K hK
                  simp -implicitDefEqProofs (disch := first | decide | assumption | omega) only [go_sem, fa30_1, ld22, ld2, ld30, RdS.len hdX sl22, RdS.idx hdX sl22, R1.intB hdX (Ext.pres eB), RdS.cells hdX, RdS.len hmX sl23, RdS.idx hmX sl23, RdS.cellB hmX (Ext.pres eB), RdS.cells hmX, RdS.len hdY sl22, RdS.idx hdY sl22, R1.intB hdY (Ext.pres eB), RdS.cells hdY, RdS.len hmY sl23, RdS.idx hmY sl23, RdS.cellB hmY (Ext.pres eB), RdS.cells hmY, RdS.len rf sl23, RdS.idx rf sl23, RdS.cellB rf (Ext.pres eB), RdS.cells rf, RdS.len rg sl23, RdS.idx rg sl23, RdS.cellB rg (Ext.pres eB), RdS.cells rg, RdS.len rq sl23, RdS.idx rq sl23, RdS.cellB rq (Ext.pres eB), RdS.cells rq, RdS.len (OS.rd how8_4_0) sl23, RdS.idx (OS.rd how8_4_0) sl23, RdS.cellN (OS.rd how8_4_0), RdS.cells (OS.rd how8_4_0), RdS.len (OS.rd ho15_3) sl22, RdS.idx (OS.rd ho15_3) sl22, R1.intN (OS.rd ho15_3), RdS.cells (OS.rd ho15_3), BoxAt.cell hb0_0, BoxAt.cell hb0_1, RdS.len ho1_4 sl114, RdS.idx ho1_4 sl114, RdS.cellB ho1_4 (Ext.pres xr1), RdS.cells ho1_4, RdS.len ho5_4 sl114, RdS.idx ho5_4 sl114, RdS.cellB ho5_4 (Ext.pres xr7), RdS.cells ho5_4, wrap_id, Int.add_sub_cancel]
                  try simp -implicitDefEqProofs (disch := first | decide | assumption | omega) only [go_sem, RdS.len hdX sl22, RdS.idx hdX sl22, R1.intB hdX (Ext.pres eB), RdS.cells hdX, RdS.len hmX sl23, RdS.idx hmX sl23, RdS.cellB hmX (Ext.pres eB), RdS.cells hmX, RdS.len hdY sl22, RdS.idx hdY sl22, R1.intB hdY (Ext.pres eB), RdS.cells hdY, RdS.len hmY sl23, RdS.idx hmY sl23, RdS.cellB hmY (Ext.pres eB), RdS.cells hmY, RdS.len rf sl23, RdS.idx rf sl23, RdS.cellB rf (Ext.pres eB), RdS.cells rf, RdS.len rg sl23, RdS.idx rg sl23, RdS.cellB rg (Ext.pres eB), RdS.cells rg, RdS.len rq sl23, RdS.idx rq sl23, RdS.cellB rq (Ext.pres eB), RdS.cells rq, RdS.len (OS.rd how8_4_0) sl23, RdS.idx (OS.rd how8_4_0) sl23, RdS.cellN (OS.rd how8_4_0), RdS.cells (OS.rd how8_4_0), RdS.len (OS.rd ho15_3) sl22, RdS.idx (OS.rd ho15_3) sl22, R1.intN (OS.rd ho15_3), RdS.cells (OS.rd ho15_3), BoxAt.cell hb0_0, BoxAt.cell hb0_1, RdS.len ho1_4 sl114, RdS.idx ho1_4 sl114, RdS.cellB ho1_4 (Ext.pres xr1), RdS.cells ho1_4, RdS.len ho5_4 sl114, RdS.idx ho5_4 sl114, RdS.cellB ho5_4 (Ext.pres xr7), RdS.cells ho5_4, wrap_id, Int.add_sub_cancel]
                  refine CallA.mono (sUnit_ok _ _ _ (by omega)) ?_
                  intro vw19_13_1 h19_13_1
                  rintro ⟨zw19_13_1, fw19_13_1, rfl, how19_13_1, hfw19_13_1, e19_13_1⟩
                  replace how8_4_0 := OS.ext how8_4_0 e19_13_1
                  replace ho15_3 := OS.ext ho15_3 e19_13_1
                  replace hb0_0 := BoxAt.ext hb0_0 e19_13_1
                  replace hb0_1 := BoxAt.ext hb0_1 e19_13_1
                  have := Ext.size e19_13_1
                  replace eB := Ext.trans eB e19_13_1
                  replace xr1 := Ext.trans xr1 e19_13_1
                  replace xr7 := Ext.trans xr7 e19_13_1
                  replace cL9 := Ext.trans cL9 e19_13_1
                  replace cL13 := Ext.trans cL13 e19_13_1
                  replace how19_13_1 : O1 _ _ (unitP (X.dims.getD n 0).toNat i) _ := how19_13_1
                  have hlhow19_13_1 := OS.lt how19_13_1
                  try simp (disch := decide) only [outv_some, outv_none, put_puts]
                  refine plK_pres (Ext.pres e19_13_1) ?_
                  try simp -implicitDefEqProofs (disch := first | decide | assumption | omega) only [go_sem, RdS.len hdX sl22, RdS.idx hdX sl22, R1.intB hdX (Ext.pres eB), RdS.cells hdX, RdS.len hmX sl23, RdS.idx hmX sl23, RdS.cellB hmX (Ext.pres eB), RdS.cells hmX, RdS.len hdY sl22, RdS.idx hdY sl22, R1.intB hdY (Ext.pres eB), RdS.cells hdY, RdS.len hmY sl23, RdS.idx hmY sl23, RdS.cellB hmY (Ext.pres eB), RdS.cells hmY, RdS.len rf sl23, RdS.idx rf sl23, RdS.cellB rf (Ext.pres eB), RdS.cells rf, RdS.len rg sl23, RdS.idx rg sl23, RdS.cellB rg (Ext.pres eB), RdS.cells rg, RdS.len rq sl23, RdS.idx rq sl23, RdS.cellB rq (Ext.pres eB), RdS.cells rq, RdS.len (OS.rd how8_4_0) sl23, RdS.idx (OS.rd how8_4_0) sl23, RdS.cellN (OS.rd how8_4_0), RdS.cells (OS.rd how8_4_0), RdS.len (OS.rd ho15_3) sl22, RdS.idx (OS.rd ho15_3) sl22, R1.intN (OS.rd ho15_3), RdS.cells (OS.rd ho15_3), RdS.len (OS.rd how19_13_1) sl22, RdS.idx (OS.rd how19_13_1) sl22, R1.intN (OS.rd how19_13_1), RdS.cells (OS.rd how19_13_1), BoxAt.cell hb0_0, BoxAt.cell hb0_1, RdS.len ho1_4 sl114, RdS.idx ho1_4 sl114, RdS.cellB ho1_4 (Ext.pres xr1), RdS.cells ho1_4, RdS.len ho5_4 sl114, RdS.idx ho5_4 sl114, RdS.cellB ho5_4 (Ext.pres xr7), RdS.cells ho5_4, wrap_id, Int.add_sub_cancel]
                  try simp -implicitDefEqProofs (disch := first | decide | assumption | omega) only [go_sem, RdS.len hdX sl22, RdS.idx hdX sl22, R1.intB hdX (Ext.pres eB), RdS.cells hdX, RdS.len hmX sl23, RdS.idx hmX sl23, RdS.cellB hmX (Ext.pres eB), RdS.cells hmX, RdS.len hdY sl22, RdS.idx hdY sl22, R1.intB hdY (Ext.pres eB), RdS.cells hdY, RdS.len hmY sl23, RdS.idx hmY sl23, RdS.cellB hmY (Ext.pres eB), RdS.cells hmY, RdS.len rf sl23, RdS.idx rf sl23, RdS.cellB rf (Ext.pres eB), RdS.cells rf, RdS.len rg sl23, RdS.idx rg sl23, RdS.cellB rg (Ext.pres eB), RdS.cells rg, RdS.len rq sl23, RdS.idx rq sl23, RdS.cellB rq (Ext.pres eB), RdS.cells rq, RdS.len (OS.rd how8_4_0) sl23, RdS.idx (OS.rd how8_4_0) sl23, RdS.cellN (OS.rd how8_4_0), RdS.cells (OS.rd how8_4_0), RdS.len (OS.rd ho15_3) sl22, RdS.idx (OS.rd ho15_3) sl22, R1.intN (OS.rd ho15_3), RdS.cells (OS.rd ho15_3), RdS.len (OS.rd how19_13_1) sl22, RdS.idx (OS.rd how19_13_1) sl22, R1.intN (OS.rd how19_13_1), RdS.cells (OS.rd how19_13_1), BoxAt.cell hb0_0, BoxAt.cell hb0_1, RdS.len ho1_4 sl114, RdS.idx ho1_4 sl114, RdS.cellB ho1_4 (Ext.pres xr1), RdS.cells ho1_4, RdS.len ho5_4 sl114, RdS.idx ho5_4 sl114, RdS.cellB ho5_4 (Ext.pres xr7), RdS.cells ho5_4, wrap_id, Int.add_sub_cancel]
                  refine CallA.mono (sD_ok _ _ X _ _ _ ⟨_, _, rfl, (RdS.pres hdX (Ext.pres eB)), (RdS.pres hmX (Ext.pres eB))⟩ (OS.rd how19_13_1) hX (by omega) (by rw [Int.toNat_natCast]; exact hR.u.1) hR.u.2) ?_
                  intro vw19_14_1 h19_14_1
                  rintro ⟨zw19_14_1, fw19_14_1, rfl, how19_14_1, hfw19_14_1, e19_14_1⟩
                  replace how8_4_0 := OS.ext how8_4_0 e19_14_1
                  replace ho15_3 := OS.ext ho15_3 e19_14_1
                  replace how19_13_1 := OS.ext how19_13_1 e19_14_1
                  replace hb0_0 := BoxAt.ext hb0_0 e19_14_1
                  replace hb0_1 := BoxAt.ext hb0_1 e19_14_1
                  have := Ext.size e19_14_1
                  replace eB := Ext.trans eB e19_14_1
                  replace xr1 := Ext.trans xr1 e19_14_1
                  replace xr7 := Ext.trans xr7 e19_14_1
                  replace cL9 := Ext.trans cL9 e19_14_1
                  replace cL13 := Ext.trans cL13 e19_14_1
                  have hlhow19_14_1 := OS.lt how19_14_1
                  try simp (disch := decide) only [outv_some, outv_none, put_puts]
                  refine plK_pres (Ext.pres e19_14_1) ?_
                  try simp -implicitDefEqProofs (disch := first | decide | assumption | omega) only [go_sem, RdS.len hdX sl22, RdS.idx hdX sl22, R1.intB hdX (Ext.pres eB), RdS.cells hdX, RdS.len hmX sl23, RdS.idx hmX sl23, RdS.cellB hmX (Ext.pres eB), RdS.cells hmX, RdS.len hdY sl22, RdS.idx hdY sl22, R1.intB hdY (Ext.pres eB), RdS.cells hdY, RdS.len hmY sl23, RdS.idx hmY sl23, RdS.cellB hmY (Ext.pres eB), RdS.cells hmY, RdS.len rf sl23, RdS.idx rf sl23, RdS.cellB rf (Ext.pres eB), RdS.cells rf, RdS.len rg sl23, RdS.idx rg sl23, RdS.cellB rg (Ext.pres eB), RdS.cells rg, RdS.len rq sl23, RdS.idx rq sl23, RdS.cellB rq (Ext.pres eB), RdS.cells rq, RdS.len (OS.rd how8_4_0) sl23, RdS.idx (OS.rd how8_4_0) sl23, RdS.cellN (OS.rd how8_4_0), RdS.cells (OS.rd how8_4_0), RdS.len (OS.rd ho15_3) sl22, RdS.idx (OS.rd ho15_3) sl22, R1.intN (OS.rd ho15_3), RdS.cells (OS.rd ho15_3), RdS.len (OS.rd how19_13_1) sl22, RdS.idx (OS.rd how19_13_1) sl22, R1.intN (OS.rd how19_13_1), RdS.cells (OS.rd how19_13_1), RdS.len (OS.rd how19_14_1) sl22, RdS.idx (OS.rd how19_14_1) sl22, R1.intN (OS.rd how19_14_1), RdS.cells (OS.rd how19_14_1), BoxAt.cell hb0_0, BoxAt.cell hb0_1, RdS.len ho1_4 sl114, RdS.idx ho1_4 sl114, RdS.cellB ho1_4 (Ext.pres xr1), RdS.cells ho1_4, RdS.len ho5_4 sl114, RdS.idx ho5_4 sl114, RdS.cellB ho5_4 (Ext.pres xr7), RdS.cells ho5_4, wrap_id, Int.add_sub_cancel]
                  try simp -implicitDefEqProofs (disch := first | decide | assumption | omega) only [go_sem, RdS.len hdX sl22, RdS.idx hdX sl22, R1.intB hdX (Ext.pres eB), RdS.cells hdX, RdS.len hmX sl23, RdS.idx hmX sl23, RdS.cellB hmX (Ext.pres eB), RdS.cells hmX, RdS.len hdY sl22, RdS.idx hdY sl22, R1.intB hdY (Ext.pres eB), RdS.cells hdY, RdS.len hmY sl23, RdS.idx hmY sl23, RdS.cellB hmY (Ext.pres eB), RdS.cells hmY, RdS.len rf sl23, RdS.idx rf sl23, RdS.cellB rf (Ext.pres eB), RdS.cells rf, RdS.len rg sl23, RdS.idx rg sl23, RdS.cellB rg (Ext.pres eB), RdS.cells rg, RdS.len rq sl23, RdS.idx rq sl23, RdS.cellB rq (Ext.pres eB), RdS.cells rq, RdS.len (OS.rd how8_4_0) sl23, RdS.idx (OS.rd how8_4_0) sl23, RdS.cellN (OS.rd how8_4_0), RdS.cells (OS.rd how8_4_0), RdS.len (OS.rd ho15_3) sl22, RdS.idx (OS.rd ho15_3) sl22, R1.intN (OS.rd ho15_3), RdS.cells (OS.rd ho15_3), RdS.len (OS.rd how19_13_1) sl22, RdS.idx (OS.rd how19_13_1) sl22, R1.intN (OS.rd how19_13_1), RdS.cells (OS.rd how19_13_1), RdS.len (OS.rd how19_14_1) sl22, RdS.idx (OS.rd how19_14_1) sl22, R1.intN (OS.rd how19_14_1), RdS.cells (OS.rd how19_14_1), BoxAt.cell hb0_0, BoxAt.cell hb0_1, RdS.len ho1_4 sl114, RdS.idx ho1_4 sl114, RdS.cellB ho1_4 (Ext.pres xr1), RdS.cells ho1_4, RdS.len ho5_4 sl114, RdS.idx ho5_4 sl114, RdS.cellB ho5_4 (Ext.pres xr7), RdS.cells ho5_4, wrap_id, Int.add_sub_cancel]
                  refine CallA.mono (sImg_ok _ _ _ _ X Y q ((n : Int) - (1 : Int)) (1 : Int) (diffP X (n : Int) (unitP (X.dims.getD n 0).toNat i)) _ ⟨_, _, rfl, (RdS.pres hdX (Ext.pres eB)), (RdS.pres hmX (Ext.pres eB))⟩ ⟨_, _, rfl, (RdS.pres hdY (Ext.pres eB)), (RdS.pres hmY (Ext.pres eB))⟩ (RdS.pres rq (Ext.pres eB)) (OS.rd how19_14_1) hX hY hF (by omega) (by omega) hvv) ?_
                  intro vw19_15_1_0 h19_15_1
                  rintro ⟨zvw19_15_1_0, fw19_15_1_0, rfl, how19_15_1_0, hfw19_15_1_0, e19_15_1⟩
                  replace how8_4_0 := OS.ext how8_4_0 e19_15_1
                  replace ho15_3 := OS.ext ho15_3 e19_15_1
                  replace how19_13_1 := OS.ext how19_13_1 e19_15_1
                  replace how19_14_1 := OS.ext how19_14_1 e19_15_1
                  replace hb0_0 := BoxAt.ext hb0_0 e19_15_1
                  replace hb0_1 := BoxAt.ext hb0_1 e19_15_1
                  have := Ext.size e19_15_1
                  replace eB := Ext.trans eB e19_15_1
                  replace xr1 := Ext.trans xr1 e19_15_1
                  replace xr7 := Ext.trans xr7 e19_15_1
                  replace cL9 := Ext.trans cL9 e19_15_1
                  replace cL13 := Ext.trans cL13 e19_15_1
                  have hlhow19_15_1_0 := OS.lt how19_15_1_0
                  try simp (disch := decide) only [outv_some, outv_none, put_puts]
                  refine plK_pres (Ext.pres e19_15_1) ?_
                  try simp -implicitDefEqProofs (disch := first | decide | assumption | omega) only [go_sem, RdS.len hdX sl22, RdS.idx hdX sl22, R1.intB hdX (Ext.pres eB), RdS.cells hdX, RdS.len hmX sl23, RdS.idx hmX sl23, RdS.cellB hmX (Ext.pres eB), RdS.cells hmX, RdS.len hdY sl22, RdS.idx hdY sl22, R1.intB hdY (Ext.pres eB), RdS.cells hdY, RdS.len hmY sl23, RdS.idx hmY sl23, RdS.cellB hmY (Ext.pres eB), RdS.cells hmY, RdS.len rf sl23, RdS.idx rf sl23, RdS.cellB rf (Ext.pres eB), RdS.cells rf, RdS.len rg sl23, RdS.idx rg sl23, RdS.cellB rg (Ext.pres eB), RdS.cells rg, RdS.len rq sl23, RdS.idx rq sl23, RdS.cellB rq (Ext.pres eB), RdS.cells rq, RdS.len (OS.rd how8_4_0) sl23, RdS.idx (OS.rd how8_4_0) sl23, RdS.cellN (OS.rd how8_4_0), RdS.cells (OS.rd how8_4_0), RdS.len (OS.rd ho15_3) sl22, RdS.idx (OS.rd ho15_3) sl22, R1.intN (OS.rd ho15_3), RdS.cells (OS.rd ho15_3), RdS.len (OS.rd how19_13_1) sl22, RdS.idx (OS.rd how19_13_1) sl22, R1.intN (OS.rd how19_13_1), RdS.cells (OS.rd how19_13_1), RdS.len (OS.rd how19_14_1) sl22, RdS.idx (OS.rd how19_14_1) sl22, R1.intN (OS.rd how19_14_1), RdS.cells (OS.rd how19_14_1), RdS.len (OS.rd how19_15_1_0) sl22, RdS.idx (OS.rd how19_15_1_0) sl22, R1.intN (OS.rd how19_15_1_0), RdS.cells (OS.rd how19_15_1_0), BoxAt.cell hb0_0, BoxAt.cell hb0_1, RdS.len ho1_4 sl114, RdS.idx ho1_4 sl114, RdS.cellB ho1_4 (Ext.pres xr1), RdS.cells ho1_4, RdS.len ho5_4 sl114, RdS.idx ho5_4 sl114, RdS.cellB ho5_4 (Ext.pres xr7), RdS.cells ho5_4, wrap_id, Int.add_sub_cancel]
                  refine hK _ _ ?_
                  clear hK K
                  refine den_seq ?_
                  have hA : (((List.replicate ((dimP Y (n : Int))).toNat 0) : List Int).length : Int) = dimP Y (n : Int) ∧ Bnd X.p (List.replicate ((dimP Y (n : Int))).toNat 0) := by first | (have h := hR.hd; rw [hdP, if_pos (show (n : Int) < (Y.dims.length : Int) - 1 by omega)] at h; exact h) | (have h := hR.hd; rw [hdP, if_neg (show ¬ (n : Int) < (Y.dims.length : Int) - 1 by omega)] at h; exact h)
                  have hB : ((imgP X Y q 1 ((n : Int) - 1) (diffP X (n : Int) (unitP (X.dims.getD n 0).toNat i))).length : Int) = dimP Y (n : Int) ∧ Bnd X.p (imgP X Y q 1 ((n : Int) - 1) (diffP X (n : Int) (unitP (X.dims.getD n 0).toNat i))) := hho
                  refine den_region TTok ?_
                  intro K hK
                  simp -implicitDefEqProofs (disch := first | decide | assumption | omega) only [go_sem, RdS.len hdX sl22, RdS.idx hdX sl22, R1.intB hdX (Ext.pres eB), RdS.cells hdX, RdS.len hmX sl23, RdS.idx hmX sl23, RdS.cellB hmX (Ext.pres eB), RdS.cells hmX, RdS.len hdY sl22, RdS.idx hdY sl22, R1.intB hdY (Ext.pres eB), RdS.cells hdY, RdS.len hmY sl23, RdS.idx hmY sl23, RdS.cellB hmY (Ext.pres eB), RdS.cells hmY, RdS.len rf sl23, RdS.idx rf sl23, RdS.cellB rf (Ext.pres eB), RdS.cells rf, RdS.len rg sl23, RdS.idx rg sl23, RdS.cellB rg (Ext.pres eB), RdS.cells rg, RdS.len rq sl23, RdS.idx rq sl23, RdS.cellB rq (Ext.pres eB), RdS.cells rq, RdS.len (OS.rd how8_4_0) sl23, RdS.idx (OS.rd how8_4_0) sl23, RdS.cellN (OS.rd how8_4_0), RdS.cells (OS.rd how8_4_0), RdS.len (OS.rd ho15_3) sl22, RdS.idx (OS.rd ho15_3) sl22, R1.intN (OS.rd ho15_3), RdS.cells (OS.rd ho15_3), RdS.len (OS.rd how19_15_1_0) sl22, RdS.idx (OS.rd how19_15_1_0) sl22, R1.intN (OS.rd how19_15_1_0), RdS.cells (OS.rd how19_15_1_0), BoxAt.cell hb0_0, BoxAt.cell hb0_1, RdS.len ho1_4 sl114, RdS.idx ho1_4 sl114, RdS.cellB ho1_4 (Ext.pres xr1), RdS.cells ho1_4, RdS.len ho5_4 sl114, RdS.idx ho5_4 sl114, RdS.cellB ho5_4 (Ext.pres xr7), RdS.cells ho5_4, wrap_id, Int.add_sub_cancel]
                  refine hK _ _ ?_
                  clear hK K
                  refine den_block ?_
                  refine den_sel [18, 2, 4, 5, 6, 13, 14, 15, 16, 17] ?_
                  intro env_31
                  simp only [go_sem]
                  refine den_loopS (σ := Nat) (fun st_ => [(18, .int .i64 (st_ : Int))]) (fun st_ H => (st_ ≤ ((List.replicate ((dimP Y (n : Int))).toNat 0) : List Int).length) ∧ (O1 H v15_3 (mix (addRow X.p 1 (List.replicate ((dimP Y (n : Int))).toNat 0) (imgP X Y q 1 ((n : Int) - 1) (diffP X (n : Int) (unitP (X.dims.getD n 0).toNat i)))) (List.replicate ((dimP Y (n : Int))).toNat 0) st_) [h15_2.size]) ∧ (Chg [h15_2.size] h19_15_1 H)) (fun st_ => ((List.replicate ((dimP Y (n : Int))).toNat 0) : List Int).length - st_) 0 ?_ ?_
                  · exact ⟨by first | (simp; done) | (dsimp only; omega) | (simp; omega), by rw [mix_zero]; exact ho15_3, Chg.refl _ _⟩
                  · rintro m h34 ee33 ⟨hi0, hW, cL32⟩
                    replace how8_4_0 := OS.chg how8_4_0 cL32 (apart_lt hlhow8_4_0 hfho15_3 (by omega))
                    replace how19_15_1_0 := OS.chg how19_15_1_0 cL32 (apart_gt hfw19_15_1_0 hlho15_3 (by omega))
                    replace hb0_0 := BoxAt.chgA hb0_0 cL32 (apart_lt hlhb0_0 hfho15_3 (by omega))
                    replace hb0_1 := BoxAt.chgA hb0_1 cL32 (apart_lt hlhb0_1 hfho15_3 (by omega))
                    have := cL32.size
                    replace eB := Ext.then eB cL32 (ge_of hfho15_3 (by omega))
                    replace xr1 := Ext.then xr1 cL32 (ge_of hfho15_3 (by omega))
                    replace xr7 := Ext.then xr7 cL32 (ge_of hfho15_3 (by omega))
                    replace cL9 := Ext.then cL9 cL32 (ge_of hfho15_3 (by omega))
                    replace cL13 := Ext.then cL13 cL32 (ge_of hfho15_3 (by omega))
                    have sbhW : Sub [h15_2.size] h19_15_1.size [h15_2.size] := Sub.refl
                    have hfhW := hfho15_3
                    have hlhW := hlho15_3
                    simp only [List.cons_append, List.nil_append]
                    have hwl := mix_len (addRow X.p 1 (List.replicate ((dimP Y (n : Int))).toNat 0) (imgP X Y q 1 ((n : Int) - 1) (diffP X (n : Int) (unitP (X.dims.getD n 0).toNat i)))) (List.replicate ((dimP Y (n : Int))).toNat 0) m (addRow_len _ _ _ _)
                    have hmg : m < ((List.replicate ((dimP Y (n : Int))).toNat 0) : List Int).length → (mix (addRow X.p 1 (List.replicate ((dimP Y (n : Int))).toNat 0) (imgP X Y q 1 ((n : Int) - 1) (diffP X (n : Int) (unitP (X.dims.getD n 0).toNat i)))) (List.replicate ((dimP Y (n : Int))).toNat 0) m).getD m 0 = ((List.replicate ((dimP Y (n : Int))).toNat 0) : List Int).getD m 0 := mix_get _ _ _ _ (addRow_len _ _ _ _)
                    have hxa_ : m < ((List.replicate ((dimP Y (n : Int))).toNat 0) : List Int).length → 0 ≤ ((List.replicate ((dimP Y (n : Int))).toNat 0) : List Int).getD m 0 ∧ ((List.replicate ((dimP Y (n : Int))).toNat 0) : List Int).getD m 0 < X.p := fun h => hA.2.at h
                    have hA1 := hA.1
                    have hB1 := hB.1
                    refine den_seq ?_
                    refine den_seq ?_
                    refine den_region TTok ?_
                    intro K hK
                    simp -implicitDefEqProofs (disch := first | decide | assumption | omega) only [go_sem, RdS.len hdX sl22, RdS.idx hdX sl22, R1.intB hdX (Ext.pres eB), RdS.cells hdX, RdS.len hmX sl23, RdS.idx hmX sl23, RdS.cellB hmX (Ext.pres eB), RdS.cells hmX, RdS.len hdY sl22, RdS.idx hdY sl22, R1.intB hdY (Ext.pres eB), RdS.cells hdY, RdS.len hmY sl23, RdS.idx hmY sl23, RdS.cellB hmY (Ext.pres eB), RdS.cells hmY, RdS.len rf sl23, RdS.idx rf sl23, RdS.cellB rf (Ext.pres eB), RdS.cells rf, RdS.len rg sl23, RdS.idx rg sl23, RdS.cellB rg (Ext.pres eB), RdS.cells rg, RdS.len rq sl23, RdS.idx rq sl23, RdS.cellB rq (Ext.pres eB), RdS.cells rq, RdS.len (OS.rd how8_4_0) sl23, RdS.idx (OS.rd how8_4_0) sl23, RdS.cellN (OS.rd how8_4_0), RdS.cells (OS.rd how8_4_0), RdS.len (OS.rd how19_15_1_0) sl22, RdS.idx (OS.rd how19_15_1_0) sl22, R1.intN (OS.rd how19_15_1_0), RdS.cells (OS.rd how19_15_1_0), RdS.len (OS.rd hW) sl22, RdS.idx (OS.rd hW) sl22, R1.intN (OS.rd hW), RdS.cells (OS.rd hW), BoxAt.cell hb0_0, BoxAt.cell hb0_1, RdS.len ho1_4 sl114, RdS.idx ho1_4 sl114, RdS.cellB ho1_4 (Ext.pres xr1), RdS.cells ho1_4, RdS.len ho5_4 sl114, RdS.idx ho5_4 sl114, RdS.cellB ho5_4 (Ext.pres xr7), RdS.cells ho5_4, wrap_id, Int.add_sub_cancel]
                    refine hK _ _ ?_
                    clear hK K
                    refine den_cond rfl (fun c11 => ?_) (fun c11 => ?_)
                    · try simp only [decide_eq_true_eq, decide_eq_false_iff_not, beq_iff_eq, beq_eq_false_iff_ne, bne_iff_ne, ne_eq, Bool.not_eq_true', Bool.not_eq_false', Bool.and_eq_true, Bool.or_eq_true, bne_eq_false_iff_eq] at c11
                      refine den_skip ?_
                      refine den_seq ?_
                      refine den_block ?_
                      have hmg2 := hmg (by omega)
                      have hxa2 := hxa_ (by omega)
                      have hxb2 := hB.2.at (k := m) (by omega)
                      refine den_draw TTok mixed [15] [(0, true), (1, true), (2, true), (3, true), (4, true), (5, true), (6, true), (7, true), (8, true), (9, true), (10, true), (11, true), (12, true), (13, true), (14, true), (15, false)] (by kernel_rfl) ?_
                      intro K hK
                      simp -implicitDefEqProofs (disch := first | decide | assumption | omega) only [go_sem, fa30_0, ld2, RdS.len hdX sl22, RdS.idx hdX sl22, R1.intB hdX (Ext.pres eB), RdS.cells hdX, RdS.len hmX sl23, RdS.idx hmX sl23, RdS.cellB hmX (Ext.pres eB), RdS.cells hmX, RdS.len hdY sl22, RdS.idx hdY sl22, R1.intB hdY (Ext.pres eB), RdS.cells hdY, RdS.len hmY sl23, RdS.idx hmY sl23, RdS.cellB hmY (Ext.pres eB), RdS.cells hmY, RdS.len rf sl23, RdS.idx rf sl23, RdS.cellB rf (Ext.pres eB), RdS.cells rf, RdS.len rg sl23, RdS.idx rg sl23, RdS.cellB rg (Ext.pres eB), RdS.cells rg, RdS.len rq sl23, RdS.idx rq sl23, RdS.cellB rq (Ext.pres eB), RdS.cells rq, RdS.len (OS.rd how8_4_0) sl23, RdS.idx (OS.rd how8_4_0) sl23, RdS.cellN (OS.rd how8_4_0), RdS.cells (OS.rd how8_4_0), RdS.len (OS.rd how19_15_1_0) sl22, RdS.idx (OS.rd how19_15_1_0) sl22, R1.intN (OS.rd how19_15_1_0), RdS.cells (OS.rd how19_15_1_0), RdS.len (OS.rd hW) sl22, RdS.idx (OS.rd hW) sl22, R1.intN (OS.rd hW), RdS.cells (OS.rd hW), BoxAt.cell hb0_0, BoxAt.cell hb0_1, RdS.len ho1_4 sl114, RdS.idx ho1_4 sl114, RdS.cellB ho1_4 (Ext.pres xr1), RdS.cells ho1_4, RdS.len ho5_4 sl114, RdS.idx ho5_4 sl114, RdS.cellB ho5_4 (Ext.pres xr7), RdS.cells ho5_4, wrap_id, Int.add_sub_cancel]
                      refine op_store1 (j := m) st2 hW hfhW.nodup (by first | omega | (simp; omega)) rfl rfl ?_
                      intro h23_15_1 ho23_15_1 c23_15_1
                      have hsz23_15_1 := c23_15_1.size
                      replace how8_4_0 := OS.chg how8_4_0 c23_15_1 (apart_lt hlhow8_4_0 hfhW (by omega))
                      replace how19_15_1_0 := OS.chg how19_15_1_0 c23_15_1 (apart_gt hfw19_15_1_0 hlhW (by omega))
                      replace hb0_0 := BoxAt.chgA hb0_0 c23_15_1 (apart_lt hlhb0_0 hfhW (by omega))
                      replace hb0_1 := BoxAt.chgA hb0_1 c23_15_1 (apart_lt hlhb0_1 hfhW (by omega))
                      have := c23_15_1.size
                      replace eB := Ext.then eB c23_15_1 (ge_of hfhW (by omega))
                      replace xr1 := Ext.then xr1 c23_15_1 (ge_of hfhW (by omega))
                      replace xr7 := Ext.then xr7 c23_15_1 (ge_of hfhW (by omega))
                      replace cL9 := Ext.then cL9 c23_15_1 (ge_of hfhW (by omega))
                      replace cL13 := Ext.then cL13 c23_15_1 (ge_of hfhW (by omega))
                      replace cL32 := Chg.step cL32 c23_15_1 sbhW
                      have ap35 : Apart fw19_15_1_0 [h15_2.size] := (apart_gt hfw19_15_1_0 hlhW (by omega))
                      have hlho23_15_1 := hlhW
                      have hlenho23_15_1 : ((mix (addRow X.p 1 (List.replicate ((dimP Y (n : Int))).toNat 0) (imgP X Y q 1 ((n : Int) - 1) (diffP X (n : Int) (unitP (X.dims.getD n 0).toNat i)))) (List.replicate ((dimP Y (n : Int))).toNat 0) m).set m (Int.tmod (((mix (addRow X.p 1 (List.replicate ((dimP Y (n : Int))).toNat 0) (imgP X Y q 1 ((n : Int) - 1) (diffP X (n : Int) (unitP (X.dims.getD n 0).toNat i)))) (List.replicate ((dimP Y (n : Int))).toNat 0) m).getD m 0) + ((imgP X Y q (1 : Int) ((n : Int) - (1 : Int)) (diffP X (n : Int) (unitP (X.dims.getD n 0).toNat i))).getD m 0)) X.p) : List Int).length = (mix (addRow X.p 1 (List.replicate ((dimP Y (n : Int))).toNat 0) (imgP X Y q 1 ((n : Int) - 1) (diffP X (n : Int) (unitP (X.dims.getD n 0).toNat i)))) (List.replicate ((dimP Y (n : Int))).toNat 0) m : List Int).length := List.length_set
                      try simp (disch := decide) only [outv_some, outv_none, put_puts]
                      refine plK_last (by decide) ?_
                      try simp -implicitDefEqProofs (disch := first | decide | assumption | omega) only [go_sem, RdS.len hdX sl22, RdS.idx hdX sl22, R1.intB hdX (Ext.pres eB), RdS.cells hdX, RdS.len hmX sl23, RdS.idx hmX sl23, RdS.cellB hmX (Ext.pres eB), RdS.cells hmX, RdS.len hdY sl22, RdS.idx hdY sl22, R1.intB hdY (Ext.pres eB), RdS.cells hdY, RdS.len hmY sl23, RdS.idx hmY sl23, RdS.cellB hmY (Ext.pres eB), RdS.cells hmY, RdS.len rf sl23, RdS.idx rf sl23, RdS.cellB rf (Ext.pres eB), RdS.cells rf, RdS.len rg sl23, RdS.idx rg sl23, RdS.cellB rg (Ext.pres eB), RdS.cells rg, RdS.len rq sl23, RdS.idx rq sl23, RdS.cellB rq (Ext.pres eB), RdS.cells rq, RdS.len (OS.rd how8_4_0) sl23, RdS.idx (OS.rd how8_4_0) sl23, RdS.cellN (OS.rd how8_4_0), RdS.cells (OS.rd how8_4_0), RdS.len (OS.rd how19_15_1_0) sl22, RdS.idx (OS.rd how19_15_1_0) sl22, R1.intN (OS.rd how19_15_1_0), RdS.cells (OS.rd how19_15_1_0), RdS.len (OS.rd ho23_15_1) sl22, RdS.idx (OS.rd ho23_15_1) sl22, R1.intN (OS.rd ho23_15_1), RdS.cells (OS.rd ho23_15_1), BoxAt.cell hb0_0, BoxAt.cell hb0_1, RdS.len ho1_4 sl114, RdS.idx ho1_4 sl114, RdS.cellB ho1_4 (Ext.pres xr1), RdS.cells ho1_4, RdS.len ho5_4 sl114, RdS.idx ho5_4 sl114, RdS.cellB ho5_4 (Ext.pres xr7), RdS.cells ho5_4, wrap_id, Int.add_sub_cancel]
                      refine hK _ _ ?_
                      clear hK K
                      refine den_blk ?_
                      refine den_region TTok ?_
                      intro K hK
                      simp -implicitDefEqProofs (disch := first | decide | assumption | omega) only [go_sem, RdS.len hdX sl22, RdS.idx hdX sl22, R1.intB hdX (Ext.pres eB), RdS.cells hdX, RdS.len hmX sl23, RdS.idx hmX sl23, RdS.cellB hmX (Ext.pres eB), RdS.cells hmX, RdS.len hdY sl22, RdS.idx hdY sl22, R1.intB hdY (Ext.pres eB), RdS.cells hdY, RdS.len hmY sl23, RdS.idx hmY sl23, RdS.cellB hmY (Ext.pres eB), RdS.cells hmY, RdS.len rf sl23, RdS.idx rf sl23, RdS.cellB rf (Ext.pres eB), RdS.cells rf, RdS.len rg sl23, RdS.idx rg sl23, RdS.cellB rg (Ext.pres eB), RdS.cells rg, RdS.len rq sl23, RdS.idx rq sl23, RdS.cellB rq (Ext.pres eB), RdS.cells rq, RdS.len (OS.rd how8_4_0) sl23, RdS.idx (OS.rd how8_4_0) sl23, RdS.cellN (OS.rd how8_4_0), RdS.cells (OS.rd how8_4_0), RdS.len (OS.rd how19_15_1_0) sl22, RdS.idx (OS.rd how19_15_1_0) sl22, R1.intN (OS.rd how19_15_1_0), RdS.cells (OS.rd how19_15_1_0), RdS.len (OS.rd ho23_15_1) sl22, RdS.idx (OS.rd ho23_15_1) sl22, R1.intN (OS.rd ho23_15_1), RdS.cells (OS.rd ho23_15_1), BoxAt.cell hb0_0, BoxAt.cell hb0_1, RdS.len ho1_4 sl114, RdS.idx ho1_4 sl114, RdS.cellB ho1_4 (Ext.pres xr1), RdS.cells ho1_4, RdS.len ho5_4 sl114, RdS.idx ho5_4 sl114, RdS.cellB ho5_4 (Ext.pres xr7), RdS.cells ho5_4, wrap_id, Int.add_sub_cancel]
                      refine hK _ _ ?_
                      clear hK K
                      refine den_stop ?_
                      have hxa := hA.2.at (k := m) (by omega)
                      have hxb := hB.2.at (k := m) (by omega)
                      rw [addRow_step1 (by omega) (by omega)] at ho23_15_1
                      exact ⟨m + 1, by simp [HasL, puts_at], ⟨by first | omega | (dsimp only; omega), ho23_15_1, cL32⟩, by first | omega | (dsimp only; omega)⟩
                    · try simp only [decide_eq_true_eq, decide_eq_false_iff_not, beq_iff_eq, beq_eq_false_iff_ne, bne_iff_ne, ne_eq, Bool.not_eq_true', Bool.not_eq_false', Bool.and_eq_true, Bool.or_eq_true, bne_eq_false_iff_eq] at c11
                      refine den_exit ?_
                      refine denX_code ?_
                      refine denX_stop ?_
                      refine denX_hit ?_
                      refine den_seq ?_
                      have hal := addFam_len X.p (-1) f g
                      have har := addFam_rows X.p (-1) (f := f) (g := g) (n := n) (by omega)
                      have hrow := (addFam_row (p := X.p) (k := -1) (f := f) (g := g) (n := n) (i := i) (by omega) (by omega)).trans (addRow_neg _ _)
                      refine den_region TTok ?_
                      intro K hK
                      have hr36 := RdS.rowN (OS.rd how8_4_0) n (by omega)
                      have hlhr36 := RdS.le hr36
                      have xr37 := Ext.refl h34
                      have hr38 := RdS.rowN hr36 i (by omega)
                      have hlhr38 := RdS.le hr38
                      have xr39 := xr37
                      simp -implicitDefEqProofs (disch := first | decide | assumption | omega) only [go_sem, ld56, ld22, RdS.len hdX sl22, RdS.idx hdX sl22, R1.intB hdX (Ext.pres eB), RdS.cells hdX, RdS.len hmX sl23, RdS.idx hmX sl23, RdS.cellB hmX (Ext.pres eB), RdS.cells hmX, RdS.len hdY sl22, RdS.idx hdY sl22, R1.intB hdY (Ext.pres eB), RdS.cells hdY, RdS.len hmY sl23, RdS.idx hmY sl23, RdS.cellB hmY (Ext.pres eB), RdS.cells hmY, RdS.len rf sl23, RdS.idx rf sl23, RdS.cellB rf (Ext.pres eB), RdS.cells rf, RdS.len rg sl23, RdS.idx rg sl23, RdS.cellB rg (Ext.pres eB), RdS.cells rg, RdS.len rq sl23, RdS.idx rq sl23, RdS.cellB rq (Ext.pres eB), RdS.cells rq, RdS.len (OS.rd how8_4_0) sl23, RdS.idx (OS.rd how8_4_0) sl23, RdS.cellN (OS.rd how8_4_0), RdS.cells (OS.rd how8_4_0), RdS.len (OS.rd hW) sl22, RdS.idx (OS.rd hW) sl22, R1.intN (OS.rd hW), RdS.cells (OS.rd hW), BoxAt.cell hb0_0, BoxAt.cell hb0_1, RdS.len ho1_4 sl114, RdS.idx ho1_4 sl114, RdS.cellB ho1_4 (Ext.pres xr1), RdS.cells ho1_4, RdS.len ho5_4 sl114, RdS.idx ho5_4 sl114, RdS.cellB ho5_4 (Ext.pres xr7), RdS.cells ho5_4, RdS.len hr36 sl56, RdS.idx hr36 sl56, RdS.cellB hr36 (Ext.pres xr37), RdS.cells hr36, RdS.len hr38 sl22, RdS.idx hr38 sl22, R1.intB hr38 (Ext.pres xr39), RdS.cells hr38, wrap_id, Int.add_sub_cancel]
                      try simp -implicitDefEqProofs (disch := first | decide | assumption | omega) only [go_sem, RdS.len hdX sl22, RdS.idx hdX sl22, R1.intB hdX (Ext.pres eB), RdS.cells hdX, RdS.len hmX sl23, RdS.idx hmX sl23, RdS.cellB hmX (Ext.pres eB), RdS.cells hmX, RdS.len hdY sl22, RdS.idx hdY sl22, R1.intB hdY (Ext.pres eB), RdS.cells hdY, RdS.len hmY sl23, RdS.idx hmY sl23, RdS.cellB hmY (Ext.pres eB), RdS.cells hmY, RdS.len rf sl23, RdS.idx rf sl23, RdS.cellB rf (Ext.pres eB), RdS.cells rf, RdS.len rg sl23, RdS.idx rg sl23, RdS.cellB rg (Ext.pres eB), RdS.cells rg, RdS.len rq sl23, RdS.idx rq sl23, RdS.cellB rq (Ext.pres eB), RdS.cells rq, RdS.len (OS.rd how8_4_0) sl23, RdS.idx (OS.rd how8_4_0) sl23, RdS.cellN (OS.rd how8_4_0), RdS.cells (OS.rd how8_4_0), RdS.len (OS.rd hW) sl22, RdS.idx (OS.rd hW) sl22, R1.intN (OS.rd hW), RdS.cells (OS.rd hW), BoxAt.cell hb0_0, BoxAt.cell hb0_1, RdS.len ho1_4 sl114, RdS.idx ho1_4 sl114, RdS.cellB ho1_4 (Ext.pres xr1), RdS.cells ho1_4, RdS.len ho5_4 sl114, RdS.idx ho5_4 sl114, RdS.cellB ho5_4 (Ext.pres xr7), RdS.cells ho5_4, RdS.len hr36 sl56, RdS.idx hr36 sl56, RdS.cellB hr36 (Ext.pres xr37), RdS.cells hr36, RdS.len hr38 sl22, RdS.idx hr38 sl22, R1.intB hr38 (Ext.pres xr39), RdS.cells hr38, wrap_id, Int.add_sub_cancel]
                      refine CallA.mono (same1_ok _ _ (mix (addRow X.p 1 (List.replicate ((dimP Y (n : Int))).toNat 0) (imgP X Y q 1 ((n : Int) - 1) (diffP X (n : Int) (unitP (X.dims.getD n 0).toNat i)))) (List.replicate ((dimP Y (n : Int))).toNat 0) m) (((addFam X.p (-1 : Int) f g).getD n default).getD i default) _ (OS.rd hW) (RdS.pres hr38 (Ext.pres xr39)) ) ?_
                      intro v_ h24_8_2
                      rintro ⟨rfl, e24_8_2⟩
                      replace how8_4_0 := OS.ext how8_4_0 e24_8_2
                      replace hW := OS.ext hW e24_8_2
                      replace hb0_0 := BoxAt.ext hb0_0 e24_8_2
                      replace hb0_1 := BoxAt.ext hb0_1 e24_8_2
                      have := Ext.size e24_8_2
                      replace eB := Ext.trans eB e24_8_2
                      replace xr1 := Ext.trans xr1 e24_8_2
                      replace xr7 := Ext.trans xr7 e24_8_2
                      replace xr37 := Ext.trans xr37 e24_8_2
                      replace xr39 := Ext.trans xr39 e24_8_2
                      replace cL9 := Ext.trans cL9 e24_8_2
                      replace cL13 := Ext.trans cL13 e24_8_2
                      try simp -implicitDefEqProofs (disch := first | decide | assumption | omega) only [go_sem, RdS.len hdX sl22, RdS.idx hdX sl22, R1.intB hdX (Ext.pres eB), RdS.cells hdX, RdS.len hmX sl23, RdS.idx hmX sl23, RdS.cellB hmX (Ext.pres eB), RdS.cells hmX, RdS.len hdY sl22, RdS.idx hdY sl22, R1.intB hdY (Ext.pres eB), RdS.cells hdY, RdS.len hmY sl23, RdS.idx hmY sl23, RdS.cellB hmY (Ext.pres eB), RdS.cells hmY, RdS.len rf sl23, RdS.idx rf sl23, RdS.cellB rf (Ext.pres eB), RdS.cells rf, RdS.len rg sl23, RdS.idx rg sl23, RdS.cellB rg (Ext.pres eB), RdS.cells rg, RdS.len rq sl23, RdS.idx rq sl23, RdS.cellB rq (Ext.pres eB), RdS.cells rq, RdS.len (OS.rd how8_4_0) sl23, RdS.idx (OS.rd how8_4_0) sl23, RdS.cellN (OS.rd how8_4_0), RdS.cells (OS.rd how8_4_0), RdS.len (OS.rd hW) sl22, RdS.idx (OS.rd hW) sl22, R1.intN (OS.rd hW), RdS.cells (OS.rd hW), BoxAt.cell hb0_0, BoxAt.cell hb0_1, RdS.len ho1_4 sl114, RdS.idx ho1_4 sl114, RdS.cellB ho1_4 (Ext.pres xr1), RdS.cells ho1_4, RdS.len ho5_4 sl114, RdS.idx ho5_4 sl114, RdS.cellB ho5_4 (Ext.pres xr7), RdS.cells ho5_4, RdS.len hr36 sl56, RdS.idx hr36 sl56, RdS.cellB hr36 (Ext.pres xr37), RdS.cells hr36, RdS.len hr38 sl22, RdS.idx hr38 sl22, R1.intB hr38 (Ext.pres xr39), RdS.cells hr38, wrap_id, Int.add_sub_cancel]
                      refine hK _ _ ?_
                      clear hK K
                      refine den_cond rfl (fun c12 => ?_) (fun c12 => ?_)
                      · try simp only [decide_eq_true_eq, decide_eq_false_iff_not, beq_iff_eq, beq_eq_false_iff_ne, bne_iff_ne, ne_eq, Bool.not_eq_true', Bool.not_eq_false', Bool.and_eq_true, Bool.or_eq_true, bne_eq_false_iff_eq] at c12
                        refine den_seq ?_
                        refine den_region TTok ?_
                        intro K hK
                        simp -implicitDefEqProofs (disch := first | decide | assumption | omega) only [go_sem, RdS.len hdX sl22, RdS.idx hdX sl22, R1.intB hdX (Ext.pres eB), RdS.cells hdX, RdS.len hmX sl23, RdS.idx hmX sl23, RdS.cellB hmX (Ext.pres eB), RdS.cells hmX, RdS.len hdY sl22, RdS.idx hdY sl22, R1.intB hdY (Ext.pres eB), RdS.cells hdY, RdS.len hmY sl23, RdS.idx hmY sl23, RdS.cellB hmY (Ext.pres eB), RdS.cells hmY, RdS.len rf sl23, RdS.idx rf sl23, RdS.cellB rf (Ext.pres eB), RdS.cells rf, RdS.len rg sl23, RdS.idx rg sl23, RdS.cellB rg (Ext.pres eB), RdS.cells rg, RdS.len rq sl23, RdS.idx rq sl23, RdS.cellB rq (Ext.pres eB), RdS.cells rq, RdS.len ho1_4 sl114, RdS.idx ho1_4 sl114, RdS.cellB ho1_4 (Ext.pres xr1), RdS.cells ho1_4, RdS.len ho5_4 sl114, RdS.idx ho5_4 sl114, RdS.cellB ho5_4 (Ext.pres xr7), RdS.cells ho5_4, RdS.len hr36 sl56, RdS.idx hr36 sl56, RdS.cellB hr36 (Ext.pres xr37), RdS.cells hr36, RdS.len hr38 sl22, RdS.idx hr38 sl22, R1.intB hr38 (Ext.pres xr39), RdS.cells hr38, wrap_id, Int.add_sub_cancel]
                        refine hK _ _ ?_
                        clear hK K
                        refine den_ret ?_
                        simp (disch := decide) only [resP_2, puts_same, puts_ne]
                        have hz : hmP X Y f g q = (false, 0) := by
                          rw [hmP, if_pos hmz, pdec_f.2 (fun hH => ?_)]
                          have h := hH n hR.nf.2.2.2.1 i (by have := hR.d8; have := hR.fi; omega)
                          have c_ := c12
                          rw [hrow] at c_
                          try rw [mix_end _ _ _ (addRow_len _ _ _ _) (by omega)] at c_
                          unfold homAt homR hdP hoP at h
                          first
                          | (rw [if_pos (show 0 < n by omega), if_pos (show (n : Int) < (Y.dims.length : Int) - 1 by omega)] at h; exact c_ h.symm)
                          | (rw [if_neg (show ¬ 0 < n by omega), if_pos (show (n : Int) < (Y.dims.length : Int) - 1 by omega)] at h; exact c_ h.symm)
                          | (rw [if_pos (show 0 < n by omega), if_neg (show ¬ (n : Int) < (Y.dims.length : Int) - 1 by omega)] at h; exact c_ h.symm)
                          | (rw [if_neg (show ¬ 0 < n by omega), if_neg (show ¬ (n : Int) < (Y.dims.length : Int) - 1 by omega)] at h; exact c_ h.symm)
                        exact ⟨by rw [hz], eB⟩
                      · try simp only [decide_eq_true_eq, decide_eq_false_iff_not, beq_iff_eq, beq_eq_false_iff_ne, bne_iff_ne, ne_eq, Bool.not_eq_true', Bool.not_eq_false', Bool.and_eq_true, Bool.or_eq_true, bne_eq_false_iff_eq] at c12
                        refine den_skip ?_
                        refine den_blk ?_
                        refine den_region TTok ?_
                        intro K hK
                        simp -implicitDefEqProofs (disch := first | decide | assumption | omega) only [go_sem, RdS.len hdX sl22, RdS.idx hdX sl22, R1.intB hdX (Ext.pres eB), RdS.cells hdX, RdS.len hmX sl23, RdS.idx hmX sl23, RdS.cellB hmX (Ext.pres eB), RdS.cells hmX, RdS.len hdY sl22, RdS.idx hdY sl22, R1.intB hdY (Ext.pres eB), RdS.cells hdY, RdS.len hmY sl23, RdS.idx hmY sl23, RdS.cellB hmY (Ext.pres eB), RdS.cells hmY, RdS.len rf sl23, RdS.idx rf sl23, RdS.cellB rf (Ext.pres eB), RdS.cells rf, RdS.len rg sl23, RdS.idx rg sl23, RdS.cellB rg (Ext.pres eB), RdS.cells rg, RdS.len rq sl23, RdS.idx rq sl23, RdS.cellB rq (Ext.pres eB), RdS.cells rq, RdS.len (OS.rd how8_4_0) sl23, RdS.idx (OS.rd how8_4_0) sl23, RdS.cellN (OS.rd how8_4_0), RdS.cells (OS.rd how8_4_0), BoxAt.cell hb0_0, BoxAt.cell hb0_1, RdS.len ho1_4 sl114, RdS.idx ho1_4 sl114, RdS.cellB ho1_4 (Ext.pres xr1), RdS.cells ho1_4, RdS.len ho5_4 sl114, RdS.idx ho5_4 sl114, RdS.cellB ho5_4 (Ext.pres xr7), RdS.cells ho5_4, RdS.len hr36 sl56, RdS.idx hr36 sl56, RdS.cellB hr36 (Ext.pres xr37), RdS.cells hr36, RdS.len hr38 sl22, RdS.idx hr38 sl22, R1.intB hr38 (Ext.pres xr39), RdS.cells hr38, wrap_id, Int.add_sub_cancel]
                        refine hK _ _ ?_
                        clear hK K
                        refine den_stop ?_
                        exact ⟨i + 1, by simp [HasL, puts_at], ⟨by omega, by
  have hcur : homAt X Y f g q n i := by have c_ := c12; rw [hrow] at c_; (try rw [mix_end _ _ _ (addRow_len _ _ _ _) (by omega)] at c_); unfold homAt homR hdP hoP; first | (rw [if_pos (show 0 < n by omega), if_pos (show (n : Int) < (Y.dims.length : Int) - 1 by omega)]; exact c_.symm) | (rw [if_neg (show ¬ 0 < n by omega), if_pos (show (n : Int) < (Y.dims.length : Int) - 1 by omega)]; exact c_.symm) | (rw [if_pos (show 0 < n by omega), if_neg (show ¬ (n : Int) < (Y.dims.length : Int) - 1 by omega)]; exact c_.symm) | (rw [if_neg (show ¬ 0 < n by omega), if_neg (show ¬ (n : Int) < (Y.dims.length : Int) - 1 by omega)]; exact c_.symm)
  exact fun j hj => (Nat.lt_succ_iff_lt_or_eq.1 hj).elim (hy j) (fun e => e ▸ hcur), cL13⟩, by first | omega | (dsimp only; omega)⟩
                · try simp only [decide_eq_true_eq, decide_eq_false_iff_not, beq_iff_eq, beq_eq_false_iff_ne, bne_iff_ne, ne_eq, Bool.not_eq_true', Bool.not_eq_false', Bool.and_eq_true, Bool.or_eq_true, bne_eq_false_iff_eq] at c10
                  refine den_skip ?_
                  refine den_seq ?_
                  have hal := addFam_len X.p (-1) f g
                  have har := addFam_rows X.p (-1) (f := f) (g := g) (n := n) (by omega)
                  have hrow := (addFam_row (p := X.p) (k := -1) (f := f) (g := g) (n := n) (i := i) (by omega) (by omega)).trans (addRow_neg _ _)
                  refine den_region TTok ?_
                  intro K hK
                  have hr40 := RdS.rowN (OS.rd how8_4_0) n (by omega)
                  have hlhr40 := RdS.le hr40
                  have xr41 := Ext.refl h15_3
                  have hr42 := RdS.rowN hr40 i (by omega)
                  have hlhr42 := RdS.le hr42
                  have xr43 := xr41
                  simp -implicitDefEqProofs (disch := first | decide | assumption | omega) only [go_sem, ld56, ld22, RdS.len hdX sl22, RdS.idx hdX sl22, R1.intB hdX (Ext.pres eB), RdS.cells hdX, RdS.len hmX sl23, RdS.idx hmX sl23, RdS.cellB hmX (Ext.pres eB), RdS.cells hmX, RdS.len hdY sl22, RdS.idx hdY sl22, R1.intB hdY (Ext.pres eB), RdS.cells hdY, RdS.len hmY sl23, RdS.idx hmY sl23, RdS.cellB hmY (Ext.pres eB), RdS.cells hmY, RdS.len rf sl23, RdS.idx rf sl23, RdS.cellB rf (Ext.pres eB), RdS.cells rf, RdS.len rg sl23, RdS.idx rg sl23, RdS.cellB rg (Ext.pres eB), RdS.cells rg, RdS.len rq sl23, RdS.idx rq sl23, RdS.cellB rq (Ext.pres eB), RdS.cells rq, RdS.len (OS.rd how8_4_0) sl23, RdS.idx (OS.rd how8_4_0) sl23, RdS.cellN (OS.rd how8_4_0), RdS.cells (OS.rd how8_4_0), RdS.len (OS.rd ho15_3) sl22, RdS.idx (OS.rd ho15_3) sl22, R1.intN (OS.rd ho15_3), RdS.cells (OS.rd ho15_3), BoxAt.cell hb0_0, BoxAt.cell hb0_1, RdS.len ho1_4 sl114, RdS.idx ho1_4 sl114, RdS.cellB ho1_4 (Ext.pres xr1), RdS.cells ho1_4, RdS.len ho5_4 sl114, RdS.idx ho5_4 sl114, RdS.cellB ho5_4 (Ext.pres xr7), RdS.cells ho5_4, RdS.len hr40 sl56, RdS.idx hr40 sl56, RdS.cellB hr40 (Ext.pres xr41), RdS.cells hr40, RdS.len hr42 sl22, RdS.idx hr42 sl22, R1.intB hr42 (Ext.pres xr43), RdS.cells hr42, wrap_id, Int.add_sub_cancel]
                  try simp -implicitDefEqProofs (disch := first | decide | assumption | omega) only [go_sem, RdS.len hdX sl22, RdS.idx hdX sl22, R1.intB hdX (Ext.pres eB), RdS.cells hdX, RdS.len hmX sl23, RdS.idx hmX sl23, RdS.cellB hmX (Ext.pres eB), RdS.cells hmX, RdS.len hdY sl22, RdS.idx hdY sl22, R1.intB hdY (Ext.pres eB), RdS.cells hdY, RdS.len hmY sl23, RdS.idx hmY sl23, RdS.cellB hmY (Ext.pres eB), RdS.cells hmY, RdS.len rf sl23, RdS.idx rf sl23, RdS.cellB rf (Ext.pres eB), RdS.cells rf, RdS.len rg sl23, RdS.idx rg sl23, RdS.cellB rg (Ext.pres eB), RdS.cells rg, RdS.len rq sl23, RdS.idx rq sl23, RdS.cellB rq (Ext.pres eB), RdS.cells rq, RdS.len (OS.rd how8_4_0) sl23, RdS.idx (OS.rd how8_4_0) sl23, RdS.cellN (OS.rd how8_4_0), RdS.cells (OS.rd how8_4_0), RdS.len (OS.rd ho15_3) sl22, RdS.idx (OS.rd ho15_3) sl22, R1.intN (OS.rd ho15_3), RdS.cells (OS.rd ho15_3), BoxAt.cell hb0_0, BoxAt.cell hb0_1, RdS.len ho1_4 sl114, RdS.idx ho1_4 sl114, RdS.cellB ho1_4 (Ext.pres xr1), RdS.cells ho1_4, RdS.len ho5_4 sl114, RdS.idx ho5_4 sl114, RdS.cellB ho5_4 (Ext.pres xr7), RdS.cells ho5_4, RdS.len hr40 sl56, RdS.idx hr40 sl56, RdS.cellB hr40 (Ext.pres xr41), RdS.cells hr40, RdS.len hr42 sl22, RdS.idx hr42 sl22, R1.intB hr42 (Ext.pres xr43), RdS.cells hr42, wrap_id, Int.add_sub_cancel]
                  refine CallA.mono (same1_ok _ _ (List.replicate ((dimP Y (n : Int))).toNat 0) (((addFam X.p (-1 : Int) f g).getD n default).getD i default) _ (OS.rd ho15_3) (RdS.pres hr42 (Ext.pres xr43)) ) ?_
                  intro v_ h24_8_3
                  rintro ⟨rfl, e24_8_3⟩
                  replace how8_4_0 := OS.ext how8_4_0 e24_8_3
                  replace ho15_3 := OS.ext ho15_3 e24_8_3
                  replace hb0_0 := BoxAt.ext hb0_0 e24_8_3
                  replace hb0_1 := BoxAt.ext hb0_1 e24_8_3
                  have := Ext.size e24_8_3
                  replace eB := Ext.trans eB e24_8_3
                  replace xr1 := Ext.trans xr1 e24_8_3
                  replace xr7 := Ext.trans xr7 e24_8_3
                  replace xr41 := Ext.trans xr41 e24_8_3
                  replace xr43 := Ext.trans xr43 e24_8_3
                  replace cL9 := Ext.trans cL9 e24_8_3
                  replace cL13 := Ext.trans cL13 e24_8_3
                  try simp -implicitDefEqProofs (disch := first | decide | assumption | omega) only [go_sem, RdS.len hdX sl22, RdS.idx hdX sl22, R1.intB hdX (Ext.pres eB), RdS.cells hdX, RdS.len hmX sl23, RdS.idx hmX sl23, RdS.cellB hmX (Ext.pres eB), RdS.cells hmX, RdS.len hdY sl22, RdS.idx hdY sl22, R1.intB hdY (Ext.pres eB), RdS.cells hdY, RdS.len hmY sl23, RdS.idx hmY sl23, RdS.cellB hmY (Ext.pres eB), RdS.cells hmY, RdS.len rf sl23, RdS.idx rf sl23, RdS.cellB rf (Ext.pres eB), RdS.cells rf, RdS.len rg sl23, RdS.idx rg sl23, RdS.cellB rg (Ext.pres eB), RdS.cells rg, RdS.len rq sl23, RdS.idx rq sl23, RdS.cellB rq (Ext.pres eB), RdS.cells rq, RdS.len (OS.rd how8_4_0) sl23, RdS.idx (OS.rd how8_4_0) sl23, RdS.cellN (OS.rd how8_4_0), RdS.cells (OS.rd how8_4_0), RdS.len (OS.rd ho15_3) sl22, RdS.idx (OS.rd ho15_3) sl22, R1.intN (OS.rd ho15_3), RdS.cells (OS.rd ho15_3), BoxAt.cell hb0_0, BoxAt.cell hb0_1, RdS.len ho1_4 sl114, RdS.idx ho1_4 sl114, RdS.cellB ho1_4 (Ext.pres xr1), RdS.cells ho1_4, RdS.len ho5_4 sl114, RdS.idx ho5_4 sl114, RdS.cellB ho5_4 (Ext.pres xr7), RdS.cells ho5_4, RdS.len hr40 sl56, RdS.idx hr40 sl56, RdS.cellB hr40 (Ext.pres xr41), RdS.cells hr40, RdS.len hr42 sl22, RdS.idx hr42 sl22, R1.intB hr42 (Ext.pres xr43), RdS.cells hr42, wrap_id, Int.add_sub_cancel]
                  refine hK _ _ ?_
                  clear hK K
                  refine den_cond rfl (fun c13 => ?_) (fun c13 => ?_)
                  · try simp only [decide_eq_true_eq, decide_eq_false_iff_not, beq_iff_eq, beq_eq_false_iff_ne, bne_iff_ne, ne_eq, Bool.not_eq_true', Bool.not_eq_false', Bool.and_eq_true, Bool.or_eq_true, bne_eq_false_iff_eq] at c13
                    refine den_seq ?_
                    refine den_region TTok ?_
                    intro K hK
                    simp -implicitDefEqProofs (disch := first | decide | assumption | omega) only [go_sem, RdS.len hdX sl22, RdS.idx hdX sl22, R1.intB hdX (Ext.pres eB), RdS.cells hdX, RdS.len hmX sl23, RdS.idx hmX sl23, RdS.cellB hmX (Ext.pres eB), RdS.cells hmX, RdS.len hdY sl22, RdS.idx hdY sl22, R1.intB hdY (Ext.pres eB), RdS.cells hdY, RdS.len hmY sl23, RdS.idx hmY sl23, RdS.cellB hmY (Ext.pres eB), RdS.cells hmY, RdS.len rf sl23, RdS.idx rf sl23, RdS.cellB rf (Ext.pres eB), RdS.cells rf, RdS.len rg sl23, RdS.idx rg sl23, RdS.cellB rg (Ext.pres eB), RdS.cells rg, RdS.len rq sl23, RdS.idx rq sl23, RdS.cellB rq (Ext.pres eB), RdS.cells rq, RdS.len ho1_4 sl114, RdS.idx ho1_4 sl114, RdS.cellB ho1_4 (Ext.pres xr1), RdS.cells ho1_4, RdS.len ho5_4 sl114, RdS.idx ho5_4 sl114, RdS.cellB ho5_4 (Ext.pres xr7), RdS.cells ho5_4, RdS.len hr40 sl56, RdS.idx hr40 sl56, RdS.cellB hr40 (Ext.pres xr41), RdS.cells hr40, RdS.len hr42 sl22, RdS.idx hr42 sl22, R1.intB hr42 (Ext.pres xr43), RdS.cells hr42, wrap_id, Int.add_sub_cancel]
                    refine hK _ _ ?_
                    clear hK K
                    refine den_ret ?_
                    simp (disch := decide) only [resP_2, puts_same, puts_ne]
                    have hz : hmP X Y f g q = (false, 0) := by
                      rw [hmP, if_pos hmz, pdec_f.2 (fun hH => ?_)]
                      have h := hH n hR.nf.2.2.2.1 i (by have := hR.d8; have := hR.fi; omega)
                      have c_ := c13
                      rw [hrow] at c_
                      try rw [mix_end _ _ _ (addRow_len _ _ _ _) (by omega)] at c_
                      unfold homAt homR hdP hoP at h
                      first
                      | (rw [if_pos (show 0 < n by omega), if_pos (show (n : Int) < (Y.dims.length : Int) - 1 by omega)] at h; exact c_ h.symm)
                      | (rw [if_neg (show ¬ 0 < n by omega), if_pos (show (n : Int) < (Y.dims.length : Int) - 1 by omega)] at h; exact c_ h.symm)
                      | (rw [if_pos (show 0 < n by omega), if_neg (show ¬ (n : Int) < (Y.dims.length : Int) - 1 by omega)] at h; exact c_ h.symm)
                      | (rw [if_neg (show ¬ 0 < n by omega), if_neg (show ¬ (n : Int) < (Y.dims.length : Int) - 1 by omega)] at h; exact c_ h.symm)
                    exact ⟨by rw [hz], eB⟩
                  · try simp only [decide_eq_true_eq, decide_eq_false_iff_not, beq_iff_eq, beq_eq_false_iff_ne, bne_iff_ne, ne_eq, Bool.not_eq_true', Bool.not_eq_false', Bool.and_eq_true, Bool.or_eq_true, bne_eq_false_iff_eq] at c13
                    refine den_skip ?_
                    refine den_blk ?_
                    refine den_region TTok ?_
                    intro K hK
                    simp -implicitDefEqProofs (disch := first | decide | assumption | omega) only [go_sem, RdS.len hdX sl22, RdS.idx hdX sl22, R1.intB hdX (Ext.pres eB), RdS.cells hdX, RdS.len hmX sl23, RdS.idx hmX sl23, RdS.cellB hmX (Ext.pres eB), RdS.cells hmX, RdS.len hdY sl22, RdS.idx hdY sl22, R1.intB hdY (Ext.pres eB), RdS.cells hdY, RdS.len hmY sl23, RdS.idx hmY sl23, RdS.cellB hmY (Ext.pres eB), RdS.cells hmY, RdS.len rf sl23, RdS.idx rf sl23, RdS.cellB rf (Ext.pres eB), RdS.cells rf, RdS.len rg sl23, RdS.idx rg sl23, RdS.cellB rg (Ext.pres eB), RdS.cells rg, RdS.len rq sl23, RdS.idx rq sl23, RdS.cellB rq (Ext.pres eB), RdS.cells rq, RdS.len (OS.rd how8_4_0) sl23, RdS.idx (OS.rd how8_4_0) sl23, RdS.cellN (OS.rd how8_4_0), RdS.cells (OS.rd how8_4_0), BoxAt.cell hb0_0, BoxAt.cell hb0_1, RdS.len ho1_4 sl114, RdS.idx ho1_4 sl114, RdS.cellB ho1_4 (Ext.pres xr1), RdS.cells ho1_4, RdS.len ho5_4 sl114, RdS.idx ho5_4 sl114, RdS.cellB ho5_4 (Ext.pres xr7), RdS.cells ho5_4, RdS.len hr40 sl56, RdS.idx hr40 sl56, RdS.cellB hr40 (Ext.pres xr41), RdS.cells hr40, RdS.len hr42 sl22, RdS.idx hr42 sl22, R1.intB hr42 (Ext.pres xr43), RdS.cells hr42, wrap_id, Int.add_sub_cancel]
                    refine hK _ _ ?_
                    clear hK K
                    refine den_stop ?_
                    exact ⟨i + 1, by simp [HasL, puts_at], ⟨by omega, by
  have hcur : homAt X Y f g q n i := by have c_ := c13; rw [hrow] at c_; (try rw [mix_end _ _ _ (addRow_len _ _ _ _) (by omega)] at c_); unfold homAt homR hdP hoP; first | (rw [if_pos (show 0 < n by omega), if_pos (show (n : Int) < (Y.dims.length : Int) - 1 by omega)]; exact c_.symm) | (rw [if_neg (show ¬ 0 < n by omega), if_pos (show (n : Int) < (Y.dims.length : Int) - 1 by omega)]; exact c_.symm) | (rw [if_pos (show 0 < n by omega), if_neg (show ¬ (n : Int) < (Y.dims.length : Int) - 1 by omega)]; exact c_.symm) | (rw [if_neg (show ¬ 0 < n by omega), if_neg (show ¬ (n : Int) < (Y.dims.length : Int) - 1 by omega)]; exact c_.symm)
  exact fun j hj => (Nat.lt_succ_iff_lt_or_eq.1 hj).elim (hy j) (fun e => e ▸ hcur), cL13⟩, by first | omega | (dsimp only; omega)⟩
            · try simp only [decide_eq_true_eq, decide_eq_false_iff_not, beq_iff_eq, beq_eq_false_iff_ne, bne_iff_ne, ne_eq, Bool.not_eq_true', Bool.not_eq_false', Bool.and_eq_true, Bool.or_eq_true, bne_eq_false_iff_eq] at c4
              refine den_exit ?_
              refine denX_code ?_
              refine denX_stop ?_
              refine denX_hit ?_
              refine den_blk ?_
              refine den_region TTok ?_
              intro K hK
              simp -implicitDefEqProofs (disch := first | decide | assumption | omega) only [go_sem, RdS.len hdX sl22, RdS.idx hdX sl22, R1.intB hdX (Ext.pres eB), RdS.cells hdX, RdS.len hmX sl23, RdS.idx hmX sl23, RdS.cellB hmX (Ext.pres eB), RdS.cells hmX, RdS.len hdY sl22, RdS.idx hdY sl22, R1.intB hdY (Ext.pres eB), RdS.cells hdY, RdS.len hmY sl23, RdS.idx hmY sl23, RdS.cellB hmY (Ext.pres eB), RdS.cells hmY, RdS.len rf sl23, RdS.idx rf sl23, RdS.cellB rf (Ext.pres eB), RdS.cells rf, RdS.len rg sl23, RdS.idx rg sl23, RdS.cellB rg (Ext.pres eB), RdS.cells rg, RdS.len rq sl23, RdS.idx rq sl23, RdS.cellB rq (Ext.pres eB), RdS.cells rq, RdS.len (OS.rd how8_4_0) sl23, RdS.idx (OS.rd how8_4_0) sl23, RdS.cellN (OS.rd how8_4_0), RdS.cells (OS.rd how8_4_0), BoxAt.cell hb0_0, BoxAt.cell hb0_1, RdS.len ho1_4 sl114, RdS.idx ho1_4 sl114, RdS.cellB ho1_4 (Ext.pres xr1), RdS.cells ho1_4, RdS.len ho5_4 sl114, RdS.idx ho5_4 sl114, RdS.cellB ho5_4 (Ext.pres xr7), RdS.cells ho5_4, wrap_id, Int.add_sub_cancel]
              refine hK _ _ ?_
              clear hK K
              refine den_stop ?_
              exact ⟨n + 1, by simp [HasL, puts_at], ⟨by omega, fun j hj => (Nat.lt_succ_iff_lt_or_eq.1 hj).elim (hz j) (fun e => by subst e; exact fun w hw => hy w (by omega)), cL9⟩, by first | omega | (dsimp only; omega)⟩
        · try simp only [decide_eq_true_eq, decide_eq_false_iff_not, beq_iff_eq, beq_eq_false_iff_ne, bne_iff_ne, ne_eq, Bool.not_eq_true', Bool.not_eq_false', Bool.and_eq_true, Bool.or_eq_true, bne_eq_false_iff_eq] at c3
          refine den_exit ?_
          refine denX_code ?_
          refine denX_stop ?_
          refine denX_hit ?_
          refine den_seq ?_
          refine den_region TTok ?_
          intro K hK
          simp -implicitDefEqProofs (disch := first | decide | assumption | omega) only [go_sem, RdS.len hdX sl22, RdS.idx hdX sl22, R1.intB hdX (Ext.pres eB), RdS.cells hdX, RdS.len hmX sl23, RdS.idx hmX sl23, RdS.cellB hmX (Ext.pres eB), RdS.cells hmX, RdS.len hdY sl22, RdS.idx hdY sl22, R1.intB hdY (Ext.pres eB), RdS.cells hdY, RdS.len hmY sl23, RdS.idx hmY sl23, RdS.cellB hmY (Ext.pres eB), RdS.cells hmY, RdS.len rf sl23, RdS.idx rf sl23, RdS.cellB rf (Ext.pres eB), RdS.cells rf, RdS.len rg sl23, RdS.idx rg sl23, RdS.cellB rg (Ext.pres eB), RdS.cells rg, RdS.len rq sl23, RdS.idx rq sl23, RdS.cellB rq (Ext.pres eB), RdS.cells rq, RdS.len ho1_4 sl114, RdS.idx ho1_4 sl114, RdS.cellB ho1_4 (Ext.pres xr1), RdS.cells ho1_4, RdS.len ho5_4 sl114, RdS.idx ho5_4 sl114, RdS.cellB ho5_4 (Ext.pres xr7), RdS.cells ho5_4, wrap_id, Int.add_sub_cancel]
          refine hK _ _ ?_
          clear hK K
          refine den_ret ?_
          simp (disch := decide) only [resP_2, puts_same, puts_ne]
          have hz' : hmP X Y f g q = (true, 0) := by rw [hmP, if_pos hmz, pdec_t.2 (show IsHom X Y f g q from fun j hj i hi => hz j (by omega) i hi)]
          exact ⟨by rw [hz'], eB⟩
  · try simp only [decide_eq_true_eq, decide_eq_false_iff_not, beq_iff_eq, beq_eq_false_iff_ne, bne_iff_ne, ne_eq, Bool.not_eq_true', Bool.not_eq_false', Bool.and_eq_true, Bool.or_eq_true, bne_eq_false_iff_eq] at c1
    refine den_skip ?_
    refine den_seq ?_
    refine den_seq ?_
    refine den_region TTok ?_
    intro K hK
    simp -implicitDefEqProofs (disch := first | decide | assumption | omega) only [go_sem, RdS.len hdX sl22, RdS.idx hdX sl22, R1.intB hdX (Ext.pres eB), RdS.cells hdX, RdS.len hmX sl23, RdS.idx hmX sl23, RdS.cellB hmX (Ext.pres eB), RdS.cells hmX, RdS.len hdY sl22, RdS.idx hdY sl22, R1.intB hdY (Ext.pres eB), RdS.cells hdY, RdS.len hmY sl23, RdS.idx hmY sl23, RdS.cellB hmY (Ext.pres eB), RdS.cells hmY, RdS.len rf sl23, RdS.idx rf sl23, RdS.cellB rf (Ext.pres eB), RdS.cells rf, RdS.len rg sl23, RdS.idx rg sl23, RdS.cellB rg (Ext.pres eB), RdS.cells rg, RdS.len rq sl23, RdS.idx rq sl23, RdS.cellB rq (Ext.pres eB), RdS.cells rq, BoxAt.cell hb0_0, BoxAt.cell hb0_1, RdS.len ho1_4 sl114, RdS.idx ho1_4 sl114, RdS.cellB ho1_4 (Ext.pres xr1), RdS.cells ho1_4, wrap_id, Int.add_sub_cancel]
    refine hK _ _ ?_
    clear hK K
    refine den_cond rfl (fun c14 => ?_) (fun c14 => ?_)
    · try simp only [decide_eq_true_eq, decide_eq_false_iff_not, beq_iff_eq, beq_eq_false_iff_ne, bne_iff_ne, ne_eq, Bool.not_eq_true', Bool.not_eq_false', Bool.and_eq_true, Bool.or_eq_true, bne_eq_false_iff_eq] at c14
      refine den_seq ?_
      refine den_region TTok ?_
      intro K hK
      simp -implicitDefEqProofs (disch := first | decide | assumption | omega) only [go_sem, RdS.len hdX sl22, RdS.idx hdX sl22, R1.intB hdX (Ext.pres eB), RdS.cells hdX, RdS.len hmX sl23, RdS.idx hmX sl23, RdS.cellB hmX (Ext.pres eB), RdS.cells hmX, RdS.len hdY sl22, RdS.idx hdY sl22, R1.intB hdY (Ext.pres eB), RdS.cells hdY, RdS.len hmY sl23, RdS.idx hmY sl23, RdS.cellB hmY (Ext.pres eB), RdS.cells hmY, RdS.len rf sl23, RdS.idx rf sl23, RdS.cellB rf (Ext.pres eB), RdS.cells rf, RdS.len rg sl23, RdS.idx rg sl23, RdS.cellB rg (Ext.pres eB), RdS.cells rg, RdS.len rq sl23, RdS.idx rq sl23, RdS.cellB rq (Ext.pres eB), RdS.cells rq, RdS.len ho1_4 sl114, RdS.idx ho1_4 sl114, RdS.cellB ho1_4 (Ext.pres xr1), RdS.cells ho1_4, wrap_id, Int.add_sub_cancel]
      refine hK _ _ ?_
      clear hK K
      refine den_ret ?_
      simp (disch := decide) only [resP_2, puts_same, puts_ne]
      have e : hmC X Y f g q = cadd (famC X Y [f, g]) 2 (!(famP X Y q 1)) := by show (if cadd (famC X Y [f, g]) 2 (!(famP X Y q 1)) = 0 then chnC X Y [f, g] else cadd (famC X Y [f, g]) 2 (!(famP X Y q 1))) = _; rw [if_neg c1]
      have hz : hmP X Y f g q = (false, cadd (famC X Y [f, g]) 2 (!(famP X Y q 1))) := by rw [hmP, if_neg (by rw [e]; exact c1), e]
      exact ⟨by rw [hz], eB⟩
    · try simp only [decide_eq_true_eq, decide_eq_false_iff_not, beq_iff_eq, beq_eq_false_iff_ne, bne_iff_ne, ne_eq, Bool.not_eq_true', Bool.not_eq_false', Bool.and_eq_true, Bool.or_eq_true, bne_eq_false_iff_eq] at c14
      exact absurd c14 c1
end Go.Proofs.Ytffggocjkhcgeaa

namespace Go.Proofs.Ytffggocjkhcgeaa
open Go
set_option maxRecDepth 100000 in
set_option maxHeartbeats 4000000 in
theorem exactIsHomotopy_law (vX vY vf vg vq : Value) (X : Cx) (Y : Cx) (f : List (List (List Int))) (g : List (List (List Int))) (q : List (List (List Int))) (h : Heap) (rX : RC h vX X) (rY : RC h vY Y) (rf : R3 h vf f) (rg : R3 h vg g) (rq : R3 h vq q)  : CallA Try.prog 14 #[vX, vY, vf, vg, vq] h fun v' h' => v' = .bool (true) ∧ Ext h h' := by
  obtain ⟨vdX, vmX, rfl, hdX, hmX⟩ := rX
  have hledX := RdS.le hdX
  have hlemX := RdS.le hmX
  obtain ⟨vdY, vmY, rfl, hdY, hmY⟩ := rY
  have hledY := RdS.le hdY
  have hlemY := RdS.le hmY
  have hlef := RdS.le rf
  have hleg := RdS.le rg
  have hleq := RdS.le rq
  refine callA_intro TTok (args := [_, _, _, _, _]) Try.func14 (by kernel_rfl) rfl 112 rfl (by simp) [.tmp 10] rfl ?_
  simp only [idxs, Nat.reduceAdd]
  refine den_seq ?_
  refine den_region TTok ?_
  intro K hK
  simp -implicitDefEqProofs (disch := first | decide | assumption | omega) only [go_sem, wrap_id]
  refine op_box (cs := #[.int .i64 (X.p), vdX, vmX]) rfl ?_
  intro h0_0 e0_0 hb0_0 z0_0
  have := Ext.size e0_0
  have eB := e0_0
  have hfhb0_0 : Fresh h.size [h.size] := Fresh.one _
  have hlhb0_0 := one_lt (show h.size < h0_0.size by omega)
  try simp -implicitDefEqProofs (disch := first | decide | assumption | omega) only [go_sem, BoxAt.cell hb0_0, wrap_id]
  refine op_box (cs := #[.int .i64 (Y.p), vdY, vmY]) rfl ?_
  intro h0_1 e0_1 hb0_1 z0_1
  replace hb0_0 := BoxAt.ext hb0_0 e0_1
  have := Ext.size e0_1
  replace eB := Ext.trans eB e0_1
  have hfhb0_1 : Fresh h0_0.size [h0_0.size] := Fresh.one _
  have hlhb0_1 := one_lt (show h0_0.size < h0_1.size by omega)
  try simp -implicitDefEqProofs (disch := first | decide | assumption | omega) only [go_sem, BoxAt.cell hb0_0, BoxAt.cell hb0_1, wrap_id]
  refine hK _ _ ?_
  clear hK K
  refine den_seq ?_
  refine den_region TTok ?_
  intro K hK
  simp -implicitDefEqProofs (disch := first | decide | assumption | omega) only [go_sem, BoxAt.cell hb0_0, BoxAt.cell hb0_1, wrap_id]
  refine hK _ _ ?_
  clear hK K
  refine den_seq ?_
  refine den_region TTok ?_
  intro K hK
  simp -implicitDefEqProofs (disch := first | decide | assumption | omega) only [go_sem, ld25, BoxAt.cell hb0_0, BoxAt.cell hb0_1, wrap_id]
  try simp -implicitDefEqProofs (disch := first | decide | assumption | omega) only [go_sem, BoxAt.cell hb0_0, BoxAt.cell hb0_1, wrap_id]
  refine CallA.mono (szC_ok _ X _ _ ⟨_, _, rfl, (RdS.pres hdX (Ext.pres eB)), (RdS.pres hmX (Ext.pres eB))⟩ (by omega) (by omega)) ?_
  intro v_ h2_2
  rintro ⟨rfl, e2_2⟩
  replace hb0_0 := BoxAt.ext hb0_0 e2_2
  replace hb0_1 := BoxAt.ext hb0_1 e2_2
  have := Ext.size e2_2
  replace eB := Ext.trans eB e2_2
  have := szC_le X (1048576 : Int) (by omega)
  try simp -implicitDefEqProofs (disch := first | decide | assumption | omega) only [go_sem, BoxAt.cell hb0_0, BoxAt.cell hb0_1, wrap_id]
  refine hK _ _ ?_
  clear hK K
  refine den_seq ?_
  refine den_seq ?_
  refine den_region TTok ?_
  intro K hK
  simp -implicitDefEqProofs (disch := first | decide | assumption | omega) only [go_sem, BoxAt.cell hb0_0, BoxAt.cell hb0_1, wrap_id]
  refine hK _ _ ?_
  clear hK K
  refine den_cond rfl (fun c0 => ?_) (fun c0 => ?_)
  · try simp only [decide_eq_true_eq, decide_eq_false_iff_not, beq_iff_eq, beq_eq_false_iff_ne, bne_iff_ne, ne_eq, Bool.not_eq_true', Bool.not_eq_false', Bool.and_eq_true, Bool.or_eq_true, bne_eq_false_iff_eq] at c0
    refine den_seq ?_
    refine den_region TTok ?_
    intro K hK
    simp -implicitDefEqProofs (disch := first | decide | assumption | omega) only [go_sem, wrap_id]
    refine hK _ _ ?_
    clear hK K
    refine den_ret ?_
    simp (disch := decide) only [resP_1, puts_same, puts_ne]
    exact ⟨by first | rfl | trivial, eB⟩
  · try simp only [decide_eq_true_eq, decide_eq_false_iff_not, beq_iff_eq, beq_eq_false_iff_ne, bne_iff_ne, ne_eq, Bool.not_eq_true', Bool.not_eq_false', Bool.and_eq_true, Bool.or_eq_true, bne_eq_false_iff_eq] at c0
    have hMX := szC_ok' (by omega) (by omega) c0
    have hcnX := szC_cntA (by omega) (by omega) c0
    refine den_skip ?_
    refine den_seq ?_
    refine den_region TTok ?_
    intro K hK
    simp -implicitDefEqProofs (disch := first | decide | assumption | omega) only [go_sem, ld25, BoxAt.cell hb0_0, BoxAt.cell hb0_1, wrap_id]
    try simp -implicitDefEqProofs (disch := first | decide | assumption | omega) only [go_sem, BoxAt.cell hb0_0, BoxAt.cell hb0_1, wrap_id]
    refine CallA.mono (szC_ok _ Y _ _ ⟨_, _, rfl, (RdS.pres hdY (Ext.pres eB)), (RdS.pres hmY (Ext.pres eB))⟩ (by omega) (by omega)) ?_
    intro v_ h5_2
    rintro ⟨rfl, e5_2⟩
    replace hb0_0 := BoxAt.ext hb0_0 e5_2
    replace hb0_1 := BoxAt.ext hb0_1 e5_2
    have := Ext.size e5_2
    replace eB := Ext.trans eB e5_2
    have := szC_le Y (szC X (1048576 : Int)) (by omega)
    try simp -implicitDefEqProofs (disch := first | decide | assumption | omega) only [go_sem, BoxAt.cell hb0_0, BoxAt.cell hb0_1, wrap_id]
    refine hK _ _ ?_
    clear hK K
    refine den_seq ?_
    refine den_seq ?_
    refine den_region TTok ?_
    intro K hK
    simp -implicitDefEqProofs (disch := first | decide | assumption | omega) only [go_sem, BoxAt.cell hb0_0, BoxAt.cell hb0_1, wrap_id]
    refine hK _ _ ?_
    clear hK K
    refine den_cond rfl (fun c1 => ?_) (fun c1 => ?_)
    · try simp only [decide_eq_true_eq, decide_eq_false_iff_not, beq_iff_eq, beq_eq_false_iff_ne, bne_iff_ne, ne_eq, Bool.not_eq_true', Bool.not_eq_false', Bool.and_eq_true, Bool.or_eq_true, bne_eq_false_iff_eq] at c1
      refine den_seq ?_
      refine den_region TTok ?_
      intro K hK
      simp -implicitDefEqProofs (disch := first | decide | assumption | omega) only [go_sem, wrap_id]
      refine hK _ _ ?_
      clear hK K
      refine den_ret ?_
      simp (disch := decide) only [resP_1, puts_same, puts_ne]
      exact ⟨by first | rfl | trivial, eB⟩
    · try simp only [decide_eq_true_eq, decide_eq_false_iff_not, beq_iff_eq, beq_eq_false_iff_ne, bne_iff_ne, ne_eq, Bool.not_eq_true', Bool.not_eq_false', Bool.and_eq_true, Bool.or_eq_true, bne_eq_false_iff_eq] at c1
      have hMY := szC_ok' (by omega) (by omega) c1
      have hcnY := szC_cntA (by omega) (by omega) c1
      refine den_skip ?_
      refine den_seq ?_
      refine den_region TTok ?_
      intro K hK
      simp -implicitDefEqProofs (disch := first | decide | assumption | omega) only [go_sem, BoxAt.cell hb0_0, BoxAt.cell hb0_1, wrap_id]
      try simp -implicitDefEqProofs (disch := first | decide | assumption | omega) only [go_sem, BoxAt.cell hb0_0, BoxAt.cell hb0_1, wrap_id]
      refine CallA.pure (szSSS_ok _ f _ _ (RdS.pres rf (Ext.pres eB)) (by omega) (by omega)) ?_
      have := sz3_le f (szC Y (szC X (1048576 : Int))) (by omega)
      try simp -implicitDefEqProofs (disch := first | decide | assumption | omega) only [go_sem, BoxAt.cell hb0_0, BoxAt.cell hb0_1, wrap_id]
      refine hK _ _ ?_
      clear hK K
      refine den_seq ?_
      refine den_seq ?_
      refine den_region TTok ?_
      intro K hK
      simp -implicitDefEqProofs (disch := first | decide | assumption | omega) only [go_sem, BoxAt.cell hb0_0, BoxAt.cell hb0_1, wrap_id]
      refine hK _ _ ?_
      clear hK K
      refine den_cond rfl (fun c2 => ?_) (fun c2 => ?_)
      · try simp only [decide_eq_true_eq, decide_eq_false_iff_not, beq_iff_eq, beq_eq_false_iff_ne, bne_iff_ne, ne_eq, Bool.not_eq_true', Bool.not_eq_false', Bool.and_eq_true, Bool.or_eq_true, bne_eq_false_iff_eq] at c2
        refine den_seq ?_
        refine den_region TTok ?_
        intro K hK
        simp -implicitDefEqProofs (disch := first | decide | assumption | omega) only [go_sem, wrap_id]
        refine hK _ _ ?_
        clear hK K
        refine den_ret ?_
        simp (disch := decide) only [resP_1, puts_same, puts_ne]
        exact ⟨by first | rfl | trivial, eB⟩
      · try simp only [decide_eq_true_eq, decide_eq_false_iff_not, beq_iff_eq, beq_eq_false_iff_ne, bne_iff_ne, ne_eq, Bool.not_eq_true', Bool.not_eq_false', Bool.and_eq_true, Bool.or_eq_true, bne_eq_false_iff_eq] at c2
        have hMf := sz3_ok (by omega) (by omega) c2
        have hcnf := sz3_cntA (by omega) (by omega) c2
        refine den_skip ?_
        refine den_seq ?_
        refine den_region TTok ?_
        intro K hK
        simp -implicitDefEqProofs (disch := first | decide | assumption | omega) only [go_sem, BoxAt.cell hb0_0, BoxAt.cell hb0_1, wrap_id]
        try simp -implicitDefEqProofs (disch := first | decide | assumption | omega) only [go_sem, BoxAt.cell hb0_0, BoxAt.cell hb0_1, wrap_id]
        refine CallA.pure (szSSS_ok _ g _ _ (RdS.pres rg (Ext.pres eB)) (by omega) (by omega)) ?_
        have := sz3_le g (sz3 f (szC Y (szC X (1048576 : Int)))) (by omega)
        try simp -implicitDefEqProofs (disch := first | decide | assumption | omega) only [go_sem, BoxAt.cell hb0_0, BoxAt.cell hb0_1, wrap_id]
        refine hK _ _ ?_
        clear hK K
        refine den_seq ?_
        refine den_seq ?_
        refine den_region TTok ?_
        intro K hK
        simp -implicitDefEqProofs (disch := first | decide | assumption | omega) only [go_sem, BoxAt.cell hb0_0, BoxAt.cell hb0_1, wrap_id]
        refine hK _ _ ?_
        clear hK K
        refine den_cond rfl (fun c3 => ?_) (fun c3 => ?_)
        · try simp only [decide_eq_true_eq, decide_eq_false_iff_not, beq_iff_eq, beq_eq_false_iff_ne, bne_iff_ne, ne_eq, Bool.not_eq_true', Bool.not_eq_false', Bool.and_eq_true, Bool.or_eq_true, bne_eq_false_iff_eq] at c3
          refine den_seq ?_
          refine den_region TTok ?_
          intro K hK
          simp -implicitDefEqProofs (disch := first | decide | assumption | omega) only [go_sem, wrap_id]
          refine hK _ _ ?_
          clear hK K
          refine den_ret ?_
          simp (disch := decide) only [resP_1, puts_same, puts_ne]
          exact ⟨by first | rfl | trivial, eB⟩
        · try simp only [decide_eq_true_eq, decide_eq_false_iff_not, beq_iff_eq, beq_eq_false_iff_ne, bne_iff_ne, ne_eq, Bool.not_eq_true', Bool.not_eq_false', Bool.and_eq_true, Bool.or_eq_true, bne_eq_false_iff_eq] at c3
          have hMg := sz3_ok (by omega) (by omega) c3
          have hcng := sz3_cntA (by omega) (by omega) c3
          refine den_skip ?_
          refine den_seq ?_
          refine den_region TTok ?_
          intro K hK
          simp -implicitDefEqProofs (disch := first | decide | assumption | omega) only [go_sem, BoxAt.cell hb0_0, BoxAt.cell hb0_1, wrap_id]
          try simp -implicitDefEqProofs (disch := first | decide | assumption | omega) only [go_sem, BoxAt.cell hb0_0, BoxAt.cell hb0_1, wrap_id]
          refine CallA.pure (szSSS_ok _ q _ _ (RdS.pres rq (Ext.pres eB)) (by omega) (by omega)) ?_
          have := sz3_le q (sz3 g (sz3 f (szC Y (szC X (1048576 : Int))))) (by omega)
          try simp -implicitDefEqProofs (disch := first | decide | assumption | omega) only [go_sem, BoxAt.cell hb0_0, BoxAt.cell hb0_1, wrap_id]
          refine hK _ _ ?_
          clear hK K
          refine den_seq ?_
          refine den_seq ?_
          refine den_region TTok ?_
          intro K hK
          simp -implicitDefEqProofs (disch := first | decide | assumption | omega) only [go_sem, BoxAt.cell hb0_0, BoxAt.cell hb0_1, wrap_id]
          refine hK _ _ ?_
          clear hK K
          refine den_cond rfl (fun c4 => ?_) (fun c4 => ?_)
          · try simp only [decide_eq_true_eq, decide_eq_false_iff_not, beq_iff_eq, beq_eq_false_iff_ne, bne_iff_ne, ne_eq, Bool.not_eq_true', Bool.not_eq_false', Bool.and_eq_true, Bool.or_eq_true, bne_eq_false_iff_eq] at c4
            refine den_seq ?_
            refine den_region TTok ?_
            intro K hK
            simp -implicitDefEqProofs (disch := first | decide | assumption | omega) only [go_sem, wrap_id]
            refine hK _ _ ?_
            clear hK K
            refine den_ret ?_
            simp (disch := decide) only [resP_1, puts_same, puts_ne]
            exact ⟨by first | rfl | trivial, eB⟩
          · try simp only [decide_eq_true_eq, decide_eq_false_iff_not, beq_iff_eq, beq_eq_false_iff_ne, bne_iff_ne, ne_eq, Bool.not_eq_true', Bool.not_eq_false', Bool.and_eq_true, Bool.or_eq_true, bne_eq_false_iff_eq] at c4
            have hMq := sz3_ok (by omega) (by omega) c4
            have hcnq := sz3_cntA (by omega) (by omega) c4
            refine den_skip ?_
            refine den_seq ?_
            refine den_draw TTok mixed [] [(0, true), (2, true), (4, true), (6, true), (8, true), (1, false), (3, false), (5, false), (7, false), (9, false), (10, false), (11, true), (12, true), (13, true), (14, true), (15, true)] (by kernel_rfl) ?_
            intro K hK
            simp -implicitDefEqProofs (disch := first | decide | assumption | omega) only [go_sem, ld25, BoxAt.cell hb0_0, BoxAt.cell hb0_1, wrap_id]
            try simp -implicitDefEqProofs (disch := first | decide | assumption | omega) only [go_sem, BoxAt.cell hb0_0, BoxAt.cell hb0_1, wrap_id]
            refine CallA.mono (toC_ok _ X _ ⟨_, _, rfl, (RdS.pres hdX (Ext.pres eB)), (RdS.pres hmX (Ext.pres eB))⟩ hMX) ?_
            intro v_ h17_1
            rintro ⟨vd17_1, vm17_1, fd17_1, fm17_1, rfl, hod17_1, hom17_1, hf17_1, e17_1⟩
            replace hb0_0 := BoxAt.ext hb0_0 e17_1
            replace hb0_1 := BoxAt.ext hb0_1 e17_1
            have := Ext.size e17_1
            replace eB := Ext.trans eB e17_1
            have hfd17_1 := hf17_1.left
            have hfm17_1 := hf17_1.right
            have hlhod17_1 := OS.lt hod17_1
            have hlhom17_1 := OS.lt hom17_1
            have ap1 : Apart fd17_1 fm17_1 := apart_nodup hf17_1
            try simp (disch := decide) only [outv_some, outv_none, put_puts]
            refine plK_pres (Ext.pres e17_1) ?_
            try simp -implicitDefEqProofs (disch := first | decide | assumption | omega) only [go_sem, BoxAt.cell hb0_0, BoxAt.cell hb0_1, wrap_id]
            try simp -implicitDefEqProofs (disch := first | decide | assumption | omega) only [go_sem, BoxAt.cell hb0_0, BoxAt.cell hb0_1, wrap_id]
            refine CallA.mono (toC_ok _ Y _ ⟨_, _, rfl, (RdS.pres hdY (Ext.pres eB)), (RdS.pres hmY (Ext.pres eB))⟩ hMY) ?_
            intro v_ h17_3
            rintro ⟨vd17_3, vm17_3, fd17_3, fm17_3, rfl, hod17_3, hom17_3, hf17_3, e17_3⟩
            replace hod17_1 := OS.ext hod17_1 e17_3
            replace hom17_1 := OS.ext hom17_1 e17_3
            replace hb0_0 := BoxAt.ext hb0_0 e17_3
            replace hb0_1 := BoxAt.ext hb0_1 e17_3
            have := Ext.size e17_3
            replace eB := Ext.trans eB e17_3
            have hfd17_3 := hf17_3.left
            have hfm17_3 := hf17_3.right
            have hlhod17_3 := OS.lt hod17_3
            have hlhom17_3 := OS.lt hom17_3
            have ap2 : Apart fd17_3 fm17_3 := apart_nodup hf17_3
            try simp (disch := decide) only [outv_some, outv_none, put_puts]
            refine plK_pres (Ext.pres e17_3) ?_
            try simp -implicitDefEqProofs (disch := first | decide | assumption | omega) only [go_sem, BoxAt.cell hb0_0, BoxAt.cell hb0_1, wrap_id]
            try simp -implicitDefEqProofs (disch := first | decide | assumption | omega) only [go_sem, BoxAt.cell hb0_0, BoxAt.cell hb0_1, wrap_id]
            refine CallA.mono (toSSS_ok _ f _ (RdS.pres rf (Ext.pres eB)) hMf) ?_
            intro v17_5 h17_5
            rintro ⟨f17_5, ho17_5, hf17_5, e17_5⟩
            replace hod17_1 := OS.ext hod17_1 e17_5
            replace hom17_1 := OS.ext hom17_1 e17_5
            replace hod17_3 := OS.ext hod17_3 e17_5
            replace hom17_3 := OS.ext hom17_3 e17_5
            replace hb0_0 := BoxAt.ext hb0_0 e17_5
            replace hb0_1 := BoxAt.ext hb0_1 e17_5
            have := Ext.size e17_5
            replace eB := Ext.trans eB e17_5
            have hlho17_5 := OS.lt ho17_5
            try simp (disch := decide) only [outv_some, outv_none, put_puts]
            refine plK_pres (Ext.pres e17_5) ?_
            try simp -implicitDefEqProofs (disch := first | decide | assumption | omega) only [go_sem, BoxAt.cell hb0_0, BoxAt.cell hb0_1, wrap_id]
            try simp -implicitDefEqProofs (disch := first | decide | assumption | omega) only [go_sem, BoxAt.cell hb0_0, BoxAt.cell hb0_1, wrap_id]
            refine CallA.mono (toSSS_ok _ g _ (RdS.pres rg (Ext.pres eB)) hMg) ?_
            intro v17_7 h17_7
            rintro ⟨f17_7, ho17_7, hf17_7, e17_7⟩
            replace hod17_1 := OS.ext hod17_1 e17_7
            replace hom17_1 := OS.ext hom17_1 e17_7
            replace hod17_3 := OS.ext hod17_3 e17_7
            replace hom17_3 := OS.ext hom17_3 e17_7
            replace ho17_5 := OS.ext ho17_5 e17_7
            replace hb0_0 := BoxAt.ext hb0_0 e17_7
            replace hb0_1 := BoxAt.ext hb0_1 e17_7
            have := Ext.size e17_7
            replace eB := Ext.trans eB e17_7
            have hlho17_7 := OS.lt ho17_7
            try simp (disch := decide) only [outv_some, outv_none, put_puts]
            refine plK_pres (Ext.pres e17_7) ?_
            try simp -implicitDefEqProofs (disch := first | decide | assumption | omega) only [go_sem, BoxAt.cell hb0_0, BoxAt.cell hb0_1, wrap_id]
            try simp -implicitDefEqProofs (disch := first | decide | assumption | omega) only [go_sem, BoxAt.cell hb0_0, BoxAt.cell hb0_1, wrap_id]
            refine CallA.mono (toSSS_ok _ q _ (RdS.pres rq (Ext.pres eB)) hMq) ?_
            intro v17_9 h17_9
            rintro ⟨f17_9, ho17_9, hf17_9, e17_9⟩
            replace hod17_1 := OS.ext hod17_1 e17_9
            replace hom17_1 := OS.ext hom17_1 e17_9
            replace hod17_3 := OS.ext hod17_3 e17_9
            replace hom17_3 := OS.ext hom17_3 e17_9
            replace ho17_5 := OS.ext ho17_5 e17_9
            replace ho17_7 := OS.ext ho17_7 e17_9
            replace hb0_0 := BoxAt.ext hb0_0 e17_9
            replace hb0_1 := BoxAt.ext hb0_1 e17_9
            have := Ext.size e17_9
            replace eB := Ext.trans eB e17_9
            have hlho17_9 := OS.lt ho17_9
            try simp (disch := decide) only [outv_some, outv_none, put_puts]
            refine plK_pres (Ext.pres e17_9) ?_
            try simp -implicitDefEqProofs (disch := first | decide | assumption | omega) only [go_sem, BoxAt.cell hb0_0, BoxAt.cell hb0_1, wrap_id]
            try simp -implicitDefEqProofs (disch := first | decide | assumption | omega) only [go_sem, BoxAt.cell hb0_0, BoxAt.cell hb0_1, wrap_id]
            refine CallA.mono (sHm_ok _ _ _ _ _ X Y f g q _ ⟨_, _, rfl, (OS.rd hod17_1), (OS.rd hom17_1)⟩ ⟨_, _, rfl, (OS.rd hod17_3), (OS.rd hom17_3)⟩ (OS.rd ho17_5) (OS.rd ho17_7) (OS.rd ho17_9) ) ?_
            intro v_ h17_10
            rintro ⟨rfl, e17_10⟩
            replace hod17_1 := OS.ext hod17_1 e17_10
            replace hom17_1 := OS.ext hom17_1 e17_10
            replace hod17_3 := OS.ext hod17_3 e17_10
            replace hom17_3 := OS.ext hom17_3 e17_10
            replace ho17_5 := OS.ext ho17_5 e17_10
            replace ho17_7 := OS.ext ho17_7 e17_10
            replace ho17_9 := OS.ext ho17_9 e17_10
            replace hb0_0 := BoxAt.ext hb0_0 e17_10
            replace hb0_1 := BoxAt.ext hb0_1 e17_10
            have := Ext.size e17_10
            replace eB := Ext.trans eB e17_10
            try simp (disch := decide) only [outv_some, outv_none, put_puts]
            refine plK_pres (Ext.pres e17_10) ?_
            try simp -implicitDefEqProofs (disch := first | decide | assumption | omega) only [go_sem, BoxAt.cell hb0_0, BoxAt.cell hb0_1, wrap_id]
            refine hK _ _ ?_
            clear hK K
            refine den_seq ?_
            refine den_region TTok ?_
            intro K hK
            simp -implicitDefEqProofs (disch := first | decide | assumption | omega) only [go_sem, ld25, BoxAt.cell hb0_0, BoxAt.cell hb0_1, wrap_id]
            try simp -implicitDefEqProofs (disch := first | decide | assumption | omega) only [go_sem, BoxAt.cell hb0_0, BoxAt.cell hb0_1, wrap_id]
            refine CallA.mono (toC_ok _ X _ ⟨_, _, rfl, (RdS.pres hdX (Ext.pres eB)), (RdS.pres hmX (Ext.pres eB))⟩ hMX) ?_
            intro v_ h18_1
            rintro ⟨vd18_1, vm18_1, fd18_1, fm18_1, rfl, hod18_1, hom18_1, hf18_1, e18_1⟩
            replace hb0_0 := BoxAt.ext hb0_0 e18_1
            replace hb0_1 := BoxAt.ext hb0_1 e18_1
            have := Ext.size e18_1
            replace eB := Ext.trans eB e18_1
            have hfd18_1 := hf18_1.left
            have hfm18_1 := hf18_1.right
            have hlhod18_1 := OS.lt hod18_1
            have hlhom18_1 := OS.lt hom18_1
            have ap3 : Apart fd18_1 fm18_1 := apart_nodup hf18_1
            try simp -implicitDefEqProofs (disch := first | decide | assumption | omega) only [go_sem, BoxAt.cell hb0_0, BoxAt.cell hb0_1, wrap_id]
            refine op_alloc (cs := #[.int .i64 0, .slice none 0 0, .slice none 0 0]) (by kernel_rfl) ?_
            intro h18_2 e18_2 hb18_2 z18_2
            replace hod18_1 := OS.ext hod18_1 e18_2
            replace hom18_1 := OS.ext hom18_1 e18_2
            replace hb0_0 := BoxAt.ext hb0_0 e18_2
            replace hb0_1 := BoxAt.ext hb0_1 e18_2
            have := Ext.size e18_2
            replace eB := Ext.trans eB e18_2
            have hfhb18_2 : Fresh h18_1.size [h18_1.size] := Fresh.one _
            have hlhb18_2 := one_lt (show h18_1.size < h18_2.size by omega)
            try simp -implicitDefEqProofs (disch := first | decide | assumption | omega) only [go_sem, BoxAt.cell hb0_0, BoxAt.cell hb0_1, BoxAt.cell hb18_2, wrap_id]
            refine op_storeB (cs' := #[.int .i64 (X.p), vd18_1, vm18_1]) st30 hb18_2 rfl rfl rfl (by simp) (allOne_mem (l := [.int .i64 (X.p), vd18_1, vm18_1]) ⟨rfl, (OS.one hod18_1).1, (OS.one hom18_1).1, trivial⟩) rfl ?_
            intro h18_3 hb18_2 c18_3
            replace hod18_1 := OS.chg hod18_1 c18_3 (apart_lt hlhod18_1 hfhb18_2 (by omega))
            replace hom18_1 := OS.chg hom18_1 c18_3 (apart_lt hlhom18_1 hfhb18_2 (by omega))
            replace hb0_0 := BoxAt.chgA hb0_0 c18_3 (apart_lt hlhb0_0 hfhb18_2 (by omega))
            replace hb0_1 := BoxAt.chgA hb0_1 c18_3 (apart_lt hlhb0_1 hfhb18_2 (by omega))
            have := c18_3.size
            replace eB := Ext.then eB c18_3 (ge_of hfhb18_2 (by omega))
            try simp -implicitDefEqProofs (disch := first | decide | assumption | omega) only [go_sem, BoxAt.cell hb0_0, BoxAt.cell hb0_1, BoxAt.cell hb18_2, wrap_id]
            refine hK _ _ ?_
            clear hK K
            refine den_seq ?_
            refine den_region TTok ?_
            intro K hK
            simp -implicitDefEqProofs (disch := first | decide | assumption | omega) only [go_sem, ld25, BoxAt.cell hb0_0, BoxAt.cell hb0_1, BoxAt.cell hb18_2, wrap_id]
            try simp -implicitDefEqProofs (disch := first | decide | assumption | omega) only [go_sem, BoxAt.cell hb0_0, BoxAt.cell hb0_1, BoxAt.cell hb18_2, wrap_id]
            refine CallA.mono (toC_ok _ Y _ ⟨_, _, rfl, (RdS.pres hdY (Ext.pres eB)), (RdS.pres hmY (Ext.pres eB))⟩ hMY) ?_
            intro v_ h19_1
            rintro ⟨vd19_1, vm19_1, fd19_1, fm19_1, rfl, hod19_1, hom19_1, hf19_1, e19_1⟩
            replace hod18_1 := OS.ext hod18_1 e19_1
            replace hom18_1 := OS.ext hom18_1 e19_1
            replace hb0_0 := BoxAt.ext hb0_0 e19_1
            replace hb0_1 := BoxAt.ext hb0_1 e19_1
            replace hb18_2 := BoxAt.ext hb18_2 e19_1
            have := Ext.size e19_1
            replace eB := Ext.trans eB e19_1
            have hfd19_1 := hf19_1.left
            have hfm19_1 := hf19_1.right
            have hlhod19_1 := OS.lt hod19_1
            have hlhom19_1 := OS.lt hom19_1
            have ap4 : Apart fd19_1 fm19_1 := apart_nodup hf19_1
            try simp -implicitDefEqProofs (disch := first | decide | assumption | omega) only [go_sem, BoxAt.cell hb0_0, BoxAt.cell hb0_1, BoxAt.cell hb18_2, wrap_id]
            refine op_alloc (cs := #[.int .i64 0, .slice none 0 0, .slice none 0 0]) (by kernel_rfl) ?_
            intro h19_2 e19_2 hb19_2 z19_2
            replace hod18_1 := OS.ext hod18_1 e19_2
            replace hom18_1 := OS.ext hom18_1 e19_2
            replace hod19_1 := OS.ext hod19_1 e19_2
            replace hom19_1 := OS.ext hom19_1 e19_2
            replace hb0_0 := BoxAt.ext hb0_0 e19_2
            replace hb0_1 := BoxAt.ext hb0_1 e19_2
            replace hb18_2 := BoxAt.ext hb18_2 e19_2
            have := Ext.size e19_2
            replace eB := Ext.trans eB e19_2
            have hfhb19_2 : Fresh h19_1.size [h19_1.size] := Fresh.one _
            have hlhb19_2 := one_lt (show h19_1.size < h19_2.size by omega)
            try simp -implicitDefEqProofs (disch := first | decide | assumption | omega) only [go_sem, BoxAt.cell hb0_0, BoxAt.cell hb0_1, BoxAt.cell hb18_2, BoxAt.cell hb19_2, wrap_id]
            refine op_storeB (cs' := #[.int .i64 (Y.p), vd19_1, vm19_1]) st30 hb19_2 rfl rfl rfl (by simp) (allOne_mem (l := [.int .i64 (Y.p), vd19_1, vm19_1]) ⟨rfl, (OS.one hod19_1).1, (OS.one hom19_1).1, trivial⟩) rfl ?_
            intro h19_3 hb19_2 c19_3
            replace hod18_1 := OS.chg hod18_1 c19_3 (apart_lt hlhod18_1 hfhb19_2 (by omega))
            replace hom18_1 := OS.chg hom18_1 c19_3 (apart_lt hlhom18_1 hfhb19_2 (by omega))
            replace hod19_1 := OS.chg hod19_1 c19_3 (apart_lt hlhod19_1 hfhb19_2 (by omega))
            replace hom19_1 := OS.chg hom19_1 c19_3 (apart_lt hlhom19_1 hfhb19_2 (by omega))
            replace hb0_0 := BoxAt.chgA hb0_0 c19_3 (apart_lt hlhb0_0 hfhb19_2 (by omega))
            replace hb0_1 := BoxAt.chgA hb0_1 c19_3 (apart_lt hlhb0_1 hfhb19_2 (by omega))
            replace hb18_2 := BoxAt.chgA hb18_2 c19_3 (apart_lt hlhb18_2 hfhb19_2 (by omega))
            have := c19_3.size
            replace eB := Ext.then eB c19_3 (ge_of hfhb19_2 (by omega))
            try simp -implicitDefEqProofs (disch := first | decide | assumption | omega) only [go_sem, BoxAt.cell hb0_0, BoxAt.cell hb0_1, BoxAt.cell hb18_2, BoxAt.cell hb19_2, wrap_id]
            refine hK _ _ ?_
            clear hK K
            refine den_seq ?_
            refine den_region TTok ?_
            intro K hK
            simp -implicitDefEqProofs (disch := first | decide | assumption | omega) only [go_sem, BoxAt.cell hb0_0, BoxAt.cell hb0_1, BoxAt.cell hb18_2, BoxAt.cell hb19_2, wrap_id]
            try simp -implicitDefEqProofs (disch := first | decide | assumption | omega) only [go_sem, BoxAt.cell hb0_0, BoxAt.cell hb0_1, BoxAt.cell hb18_2, BoxAt.cell hb19_2, wrap_id]
            refine CallA.mono (toSSS_ok _ f _ (RdS.pres rf (Ext.pres eB)) hMf) ?_
            intro v20_1 h20_1
            rintro ⟨f20_1, ho20_1, hf20_1, e20_1⟩
            replace hod18_1 := OS.ext hod18_1 e20_1
            replace hom18_1 := OS.ext hom18_1 e20_1
            replace hod19_1 := OS.ext hod19_1 e20_1
            replace hom19_1 := OS.ext hom19_1 e20_1
            replace hb0_0 := BoxAt.ext hb0_0 e20_1
            replace hb0_1 := BoxAt.ext hb0_1 e20_1
            replace hb18_2 := BoxAt.ext hb18_2 e20_1
            replace hb19_2 := BoxAt.ext hb19_2 e20_1
            have := Ext.size e20_1
            replace eB := Ext.trans eB e20_1
            have hlho20_1 := OS.lt ho20_1
            try simp -implicitDefEqProofs (disch := first | decide | assumption | omega) only [go_sem, BoxAt.cell hb0_0, BoxAt.cell hb0_1, BoxAt.cell hb18_2, BoxAt.cell hb19_2, wrap_id]
            refine hK _ _ ?_
            clear hK K
            refine den_seq ?_
            refine den_region TTok ?_
            intro K hK
            simp -implicitDefEqProofs (disch := first | decide | assumption | omega) only [go_sem, BoxAt.cell hb0_0, BoxAt.cell hb0_1, BoxAt.cell hb18_2, BoxAt.cell hb19_2, wrap_id]
            try simp -implicitDefEqProofs (disch := first | decide | assumption | omega) only [go_sem, BoxAt.cell hb0_0, BoxAt.cell hb0_1, BoxAt.cell hb18_2, BoxAt.cell hb19_2, wrap_id]
            refine CallA.mono (toSSS_ok _ g _ (RdS.pres rg (Ext.pres eB)) hMg) ?_
            intro v21_1 h21_1
            rintro ⟨f21_1, ho21_1, hf21_1, e21_1⟩
            replace hod18_1 := OS.ext hod18_1 e21_1
            replace hom18_1 := OS.ext hom18_1 e21_1
            replace hod19_1 := OS.ext hod19_1 e21_1
            replace hom19_1 := OS.ext hom19_1 e21_1
            replace ho20_1 := OS.ext ho20_1 e21_1
            replace hb0_0 := BoxAt.ext hb0_0 e21_1
            replace hb0_1 := BoxAt.ext hb0_1 e21_1
            replace hb18_2 := BoxAt.ext hb18_2 e21_1
            replace hb19_2 := BoxAt.ext hb19_2 e21_1
            have := Ext.size e21_1
            replace eB := Ext.trans eB e21_1
            have hlho21_1 := OS.lt ho21_1
            try simp -implicitDefEqProofs (disch := first | decide | assumption | omega) only [go_sem, BoxAt.cell hb0_0, BoxAt.cell hb0_1, BoxAt.cell hb18_2, BoxAt.cell hb19_2, wrap_id]
            refine hK _ _ ?_
            clear hK K
            refine den_seq ?_
            refine den_region TTok ?_
            intro K hK
            simp -implicitDefEqProofs (disch := first | decide | assumption | omega) only [go_sem, BoxAt.cell hb0_0, BoxAt.cell hb0_1, BoxAt.cell hb18_2, BoxAt.cell hb19_2, wrap_id]
            try simp -implicitDefEqProofs (disch := first | decide | assumption | omega) only [go_sem, BoxAt.cell hb0_0, BoxAt.cell hb0_1, BoxAt.cell hb18_2, BoxAt.cell hb19_2, wrap_id]
            refine CallA.mono (toSSS_ok _ q _ (RdS.pres rq (Ext.pres eB)) hMq) ?_
            intro v22_1 h22_1
            rintro ⟨f22_1, ho22_1, hf22_1, e22_1⟩
            replace hod18_1 := OS.ext hod18_1 e22_1
            replace hom18_1 := OS.ext hom18_1 e22_1
            replace hod19_1 := OS.ext hod19_1 e22_1
            replace hom19_1 := OS.ext hom19_1 e22_1
            replace ho20_1 := OS.ext ho20_1 e22_1
            replace ho21_1 := OS.ext ho21_1 e22_1
            replace hb0_0 := BoxAt.ext hb0_0 e22_1
            replace hb0_1 := BoxAt.ext hb0_1 e22_1
            replace hb18_2 := BoxAt.ext hb18_2 e22_1
            replace hb19_2 := BoxAt.ext hb19_2 e22_1
            have := Ext.size e22_1
            replace eB := Ext.trans eB e22_1
            have hlho22_1 := OS.lt ho22_1
            try simp -implicitDefEqProofs (disch := first | decide | assumption | omega) only [go_sem, BoxAt.cell hb0_0, BoxAt.cell hb0_1, BoxAt.cell hb18_2, BoxAt.cell hb19_2, wrap_id]
            refine hK _ _ ?_
            clear hK K
            refine den_seq ?_
            refine den_region TTok ?_
            intro K hK
            simp -implicitDefEqProofs (disch := first | decide | assumption | omega) only [go_sem, ld30, BoxAt.cell hb0_0, BoxAt.cell hb0_1, BoxAt.cell hb18_2, BoxAt.cell hb19_2, wrap_id]
            try simp -implicitDefEqProofs (disch := first | decide | assumption | omega) only [go_sem, BoxAt.cell hb0_0, BoxAt.cell hb0_1, BoxAt.cell hb18_2, BoxAt.cell hb19_2, wrap_id]
            refine CallA.mono (iHm_ok _ _ _ _ _ X Y f g q _ ⟨_, _, rfl, (OS.rd hod18_1), (OS.rd hom18_1)⟩ ⟨_, _, rfl, (OS.rd hod19_1), (OS.rd hom19_1)⟩ (OS.rd ho20_1) (OS.rd ho21_1) (OS.rd ho22_1) ) ?_
            intro v_ h23_5
            rintro ⟨rfl, e23_5⟩
            replace hod18_1 := OS.ext hod18_1 e23_5
            replace hom18_1 := OS.ext hom18_1 e23_5
            replace hod19_1 := OS.ext hod19_1 e23_5
            replace hom19_1 := OS.ext hom19_1 e23_5
            replace ho20_1 := OS.ext ho20_1 e23_5
            replace ho21_1 := OS.ext ho21_1 e23_5
            replace ho22_1 := OS.ext ho22_1 e23_5
            replace hb0_0 := BoxAt.ext hb0_0 e23_5
            replace hb0_1 := BoxAt.ext hb0_1 e23_5
            replace hb18_2 := BoxAt.ext hb18_2 e23_5
            replace hb19_2 := BoxAt.ext hb19_2 e23_5
            have := Ext.size e23_5
            replace eB := Ext.trans eB e23_5
            try simp -implicitDefEqProofs (disch := first | decide | assumption | omega) only [go_sem, BoxAt.cell hb0_0, BoxAt.cell hb0_1, BoxAt.cell hb18_2, BoxAt.cell hb19_2, wrap_id]
            refine hK _ _ ?_
            clear hK K
            refine den_seq ?_
            refine den_seq ?_
            refine den_mergeH [(86, .bool (((!(((hmP X Y f g q).1) == ((hmP X Y f g q).1))) || (((hmP X Y f g q).2) != ((hmP X Y f g q).2)))))] [2, 3, 4, 5, 6, 14, 15, 16, 17, 18] ?_ ?_
              -- a way
            · refine den_region TTok ?_
              intro K hK
              simp -implicitDefEqProofs (disch := first | decide | assumption | (simp (disch := decide) only [slotOf_zero, slotOf_succ, Option.map_some, puts_same, puts_ne, gv_bool, gv_undef, tt, tf, ft, ff, eq_self, if_true, if_false, Bool.false_eq_true, Bool.not_true, Bool.not_false]; done) | omega) only [go_sem, BoxAt.cell hb0_0, BoxAt.cell hb0_1, BoxAt.cell hb18_2, BoxAt.cell hb19_2, wrap_id]
              refine opsP_F (by simp (disch := decide) only [slotOf_zero, slotOf_succ, Option.map_some, puts_same, puts_ne, gv_bool, gv_undef, tt, tf, ft, ff, eq_self, if_true, if_false, Bool.false_eq_true, Bool.not_true, Bool.not_false]; rfl) (fun g5 => ?_) (fun g5 => ?_)
              · try simp -implicitDefEqProofs (disch := first | decide | assumption | (simp (disch := decide) only [slotOf_zero, slotOf_succ, Option.map_some, puts_same, puts_ne, gv_bool, gv_undef, tt, tf, ft, ff, eq_self, if_true, if_false, Bool.false_eq_true, Bool.not_true, Bool.not_false, g5]; done) | omega) only [go_sem, BoxAt.cell hb0_0, BoxAt.cell hb0_1, BoxAt.cell hb18_2, BoxAt.cell hb19_2, wrap_id, g5, eq_self, if_true, if_false, Bool.false_eq_true]
                refine hK _ _ ?_
                clear hK K
                refine den_stop ?_
                refine ⟨?_, rfl⟩
                first | (simp (disch := decide) only [go_sem, g5, eq_self, Bool.true_and, Bool.and_true, Bool.false_and, Bool.and_false, Bool.true_or, Bool.or_true, Bool.false_or, Bool.or_false, if_true, if_false, Bool.false_eq_true]; done) | simp [HasL, sel, puts_at, g5]
              · try simp -implicitDefEqProofs (disch := first | decide | assumption | (simp (disch := decide) only [slotOf_zero, slotOf_succ, Option.map_some, puts_same, puts_ne, gv_bool, gv_undef, tt, tf, ft, ff, eq_self, if_true, if_false, Bool.false_eq_true, Bool.not_true, Bool.not_false, g5]; done) | omega) only [go_sem, BoxAt.cell hb0_0, BoxAt.cell hb0_1, BoxAt.cell hb18_2, BoxAt.cell hb19_2, wrap_id, g5, eq_self, if_true, if_false, Bool.false_eq_true]
                refine hK _ _ ?_
                clear hK K
                refine den_stop ?_
                refine ⟨?_, rfl⟩
                first | (simp (disch := decide) only [go_sem, g5, eq_self, Bool.true_and, Bool.and_true, Bool.false_and, Bool.and_false, Bool.true_or, Bool.or_true, Bool.false_or, Bool.or_false, if_true, if_false, Bool.false_eq_true]; done) | simp [HasL, sel, puts_at, g5]
            intro en6
            simp (disch := decide) only [go_sem]
            refine den_cond rfl (fun c5 => ?_) (fun c5 => ?_)
            · try simp only [decide_eq_true_eq, decide_eq_false_iff_not, beq_iff_eq, beq_eq_false_iff_ne, bne_iff_ne, ne_eq, Bool.not_eq_true', Bool.not_eq_false', Bool.and_eq_true, Bool.or_eq_true, bne_eq_false_iff_eq] at c5
              refine den_seq ?_
              refine den_region TTok ?_
              intro K hK
              simp -implicitDefEqProofs (disch := first | decide | assumption | omega) only [go_sem, wrap_id]
              refine hK _ _ ?_
              clear hK K
              refine den_ret ?_
              simp (disch := decide) only [resP_1, puts_same, puts_ne]
              exact absurd c5 (by first | (simp; done) | (simp; omega) | omega | (simp [eqC_self]; done))
            · try simp only [decide_eq_true_eq, decide_eq_false_iff_not, beq_iff_eq, beq_eq_false_iff_ne, bne_iff_ne, ne_eq, Bool.not_eq_true', Bool.not_eq_false', Bool.and_eq_true, Bool.or_eq_true, bne_eq_false_iff_eq] at c5
              refine den_skip ?_
              refine den_seq ?_
              refine den_seq ?_
              refine den_draw TTok mixed [] [(0, true), (1, true), (2, false), (3, false), (4, true)] (by kernel_rfl) ?_
              intro K hK
              simp -implicitDefEqProofs (disch := first | decide | assumption | omega) only [go_sem, ld30, ld25, BoxAt.cell hb0_0, BoxAt.cell hb0_1, BoxAt.cell hb18_2, BoxAt.cell hb19_2, wrap_id]
              try simp -implicitDefEqProofs (disch := first | decide | assumption | omega) only [go_sem, BoxAt.cell hb0_0, BoxAt.cell hb0_1, BoxAt.cell hb18_2, BoxAt.cell hb19_2, wrap_id]
              refine CallA.mono (toC_ok _ X _ ⟨_, _, rfl, (RdS.pres hdX (Ext.pres eB)), (RdS.pres hmX (Ext.pres eB))⟩ hMX) ?_
              intro v_ h26_2
              rintro ⟨vd26_2, vm26_2, fd26_2, fm26_2, rfl, hod26_2, hom26_2, hf26_2, e26_2⟩
              replace hod18_1 := OS.ext hod18_1 e26_2
              replace hom18_1 := OS.ext hom18_1 e26_2
              replace hod19_1 := OS.ext hod19_1 e26_2
              replace hom19_1 := OS.ext hom19_1 e26_2
              replace ho20_1 := OS.ext ho20_1 e26_2
              replace ho21_1 := OS.ext ho21_1 e26_2
              replace ho22_1 := OS.ext ho22_1 e26_2
              replace hb0_0 := BoxAt.ext hb0_0 e26_2
              replace hb0_1 := BoxAt.ext hb0_1 e26_2
              replace hb18_2 := BoxAt.ext hb18_2 e26_2
              replace hb19_2 := BoxAt.ext hb19_2 e26_2
              have := Ext.size e26_2
              replace eB := Ext.trans eB e26_2
              have hfd26_2 := hf26_2.left
              have hfm26_2 := hf26_2.right
              have hlhod26_2 := OS.lt hod26_2
              have hlhom26_2 := OS.lt hom26_2
              have ap9 : Apart fd26_2 fm26_2 := apart_nodup hf26_2
              try simp (disch := decide) only [outv_some, outv_none, put_puts]
              refine plK_pres (Ext.pres e26_2) ?_
              try simp -implicitDefEqProofs (disch := first | decide | assumption | omega) only [go_sem, BoxAt.cell hb0_0, BoxAt.cell hb0_1, BoxAt.cell hb18_2, BoxAt.cell hb19_2, wrap_id]
              try simp -implicitDefEqProofs (disch := first | decide | assumption | omega) only [go_sem, BoxAt.cell hb0_0, BoxAt.cell hb0_1, BoxAt.cell hb18_2, BoxAt.cell hb19_2, wrap_id]
              refine CallA.mono (eqC_same _ _ X _ ⟨_, _, rfl, (OS.rd hod18_1), (OS.rd hom18_1)⟩ ⟨_, _, rfl, (OS.rd hod26_2), (OS.rd hom26_2)⟩) ?_
              intro v_ h26_3
              rintro ⟨rfl, e26_3⟩
              replace hod18_1 := OS.ext hod18_1 e26_3
              replace hom18_1 := OS.ext hom18_1 e26_3
              replace hod19_1 := OS.ext hod19_1 e26_3
              replace hom19_1 := OS.ext hom19_1 e26_3
              replace ho20_1 := OS.ext ho20_1 e26_3
              replace ho21_1 := OS.ext ho21_1 e26_3
              replace ho22_1 := OS.ext ho22_1 e26_3
              replace hod26_2 := OS.ext hod26_2 e26_3
              replace hom26_2 := OS.ext hom26_2 e26_3
              replace hb0_0 := BoxAt.ext hb0_0 e26_3
              replace hb0_1 := BoxAt.ext hb0_1 e26_3
              replace hb18_2 := BoxAt.ext hb18_2 e26_3
              replace hb19_2 := BoxAt.ext hb19_2 e26_3
              have := Ext.size e26_3
              replace eB := Ext.trans eB e26_3
              try simp (disch := decide) only [outv_some, outv_none, put_puts]
              refine plK_pres (Ext.pres e26_3) ?_
              try simp -implicitDefEqProofs (disch := first | decide | assumption | omega) only [go_sem, BoxAt.cell hb0_0, BoxAt.cell hb0_1, BoxAt.cell hb18_2, BoxAt.cell hb19_2, wrap_id]
              refine hK _ _ ?_
              clear hK K
              refine den_cond rfl (fun c6 => ?_) (fun c6 => ?_)
              · try simp only [decide_eq_true_eq, decide_eq_false_iff_not, beq_iff_eq, beq_eq_false_iff_ne, bne_iff_ne, ne_eq, Bool.not_eq_true', Bool.not_eq_false', Bool.and_eq_true, Bool.or_eq_true, bne_eq_false_iff_eq] at c6
                refine den_seq ?_
                refine den_region TTok ?_
                intro K hK
                simp -implicitDefEqProofs (disch := first | decide | assumption | omega) only [go_sem, wrap_id]
                refine hK _ _ ?_
                clear hK K
                refine den_ret ?_
                simp (disch := decide) only [resP_1, puts_same, puts_ne]
                exact absurd c6 (by first | (simp; done) | (simp; omega) | omega | (simp [eqC_self]; done))
              · try simp only [decide_eq_true_eq, decide_eq_false_iff_not, beq_iff_eq, beq_eq_false_iff_ne, bne_iff_ne, ne_eq, Bool.not_eq_true', Bool.not_eq_false', Bool.and_eq_true, Bool.or_eq_true, bne_eq_false_iff_eq] at c6
                refine den_skip ?_
                refine den_seq ?_
                refine den_seq ?_
                refine den_draw TTok mixed [] [(0, true), (1, true), (2, false), (3, false), (4, true)] (by kernel_rfl) ?_
                intro K hK
                simp -implicitDefEqProofs (disch := first | decide | assumption | omega) only [go_sem, ld30, ld25, BoxAt.cell hb0_1, BoxAt.cell hb19_2, wrap_id]
                try simp -implicitDefEqProofs (disch := first | decide | assumption | omega) only [go_sem, BoxAt.cell hb0_1, BoxAt.cell hb19_2, wrap_id]
                refine CallA.mono (toC_ok _ Y _ ⟨_, _, rfl, (RdS.pres hdY (Ext.pres eB)), (RdS.pres hmY (Ext.pres eB))⟩ hMY) ?_
                intro v_ h28_2
                rintro ⟨vd28_2, vm28_2, fd28_2, fm28_2, rfl, hod28_2, hom28_2, hf28_2, e28_2⟩
                replace hod19_1 := OS.ext hod19_1 e28_2
                replace hom19_1 := OS.ext hom19_1 e28_2
                replace ho20_1 := OS.ext ho20_1 e28_2
                replace ho21_1 := OS.ext ho21_1 e28_2
                replace ho22_1 := OS.ext ho22_1 e28_2
                replace hb0_1 := BoxAt.ext hb0_1 e28_2
                replace hb19_2 := BoxAt.ext hb19_2 e28_2
                have := Ext.size e28_2
                replace eB := Ext.trans eB e28_2
                have hfd28_2 := hf28_2.left
                have hfm28_2 := hf28_2.right
                have hlhod28_2 := OS.lt hod28_2
                have hlhom28_2 := OS.lt hom28_2
                have ap10 : Apart fd28_2 fm28_2 := apart_nodup hf28_2
                try simp (disch := decide) only [outv_some, outv_none, put_puts]
                refine plK_pres (Ext.pres e28_2) ?_
                try simp -implicitDefEqProofs (disch := first | decide | assumption | omega) only [go_sem, BoxAt.cell hb0_1, BoxAt.cell hb19_2, wrap_id]
                try simp -implicitDefEqProofs (disch := first | decide | assumption | omega) only [go_sem, BoxAt.cell hb0_1, BoxAt.cell hb19_2, wrap_id]
                refine CallA.mono (eqC_same _ _ Y _ ⟨_, _, rfl, (OS.rd hod19_1), (OS.rd hom19_1)⟩ ⟨_, _, rfl, (OS.rd hod28_2), (OS.rd hom28_2)⟩) ?_
                intro v_ h28_3
                rintro ⟨rfl, e28_3⟩
                replace hod19_1 := OS.ext hod19_1 e28_3
                replace hom19_1 := OS.ext hom19_1 e28_3
                replace ho20_1 := OS.ext ho20_1 e28_3
                replace ho21_1 := OS.ext ho21_1 e28_3
                replace ho22_1 := OS.ext ho22_1 e28_3
                replace hod28_2 := OS.ext hod28_2 e28_3
                replace hom28_2 := OS.ext hom28_2 e28_3
                replace hb0_1 := BoxAt.ext hb0_1 e28_3
                replace hb19_2 := BoxAt.ext hb19_2 e28_3
                have := Ext.size e28_3
                replace eB := Ext.trans eB e28_3
                try simp (disch := decide) only [outv_some, outv_none, put_puts]
                refine plK_pres (Ext.pres e28_3) ?_
                try simp -implicitDefEqProofs (disch := first | decide | assumption | omega) only [go_sem, BoxAt.cell hb0_1, BoxAt.cell hb19_2, wrap_id]
                refine hK _ _ ?_
                clear hK K
                refine den_cond rfl (fun c7 => ?_) (fun c7 => ?_)
                · try simp only [decide_eq_true_eq, decide_eq_false_iff_not, beq_iff_eq, beq_eq_false_iff_ne, bne_iff_ne, ne_eq, Bool.not_eq_true', Bool.not_eq_false', Bool.and_eq_true, Bool.or_eq_true, bne_eq_false_iff_eq] at c7
                  refine den_seq ?_
                  refine den_region TTok ?_
                  intro K hK
                  simp -implicitDefEqProofs (disch := first | decide | assumption | omega) only [go_sem, wrap_id]
                  refine hK _ _ ?_
                  clear hK K
                  refine den_ret ?_
                  simp (disch := decide) only [resP_1, puts_same, puts_ne]
                  exact absurd c7 (by first | (simp; done) | (simp; omega) | omega | (simp [eqC_self]; done))
                · try simp only [decide_eq_true_eq, decide_eq_false_iff_not, beq_iff_eq, beq_eq_false_iff_ne, bne_iff_ne, ne_eq, Bool.not_eq_true', Bool.not_eq_false', Bool.and_eq_true, Bool.or_eq_true, bne_eq_false_iff_eq] at c7
                  refine den_skip ?_
                  refine den_seq ?_
                  refine den_seq ?_
                  refine den_region TTok ?_
                  intro K hK
                  simp -implicitDefEqProofs (disch := first | decide | assumption | omega) only [go_sem, wrap_id]
                  try simp -implicitDefEqProofs (disch := first | decide | assumption | omega) only [go_sem, wrap_id]
                  refine CallA.mono (toSSS_ok _ f _ (RdS.pres rf (Ext.pres eB)) hMf) ?_
                  intro v30_2 h30_2
                  rintro ⟨f30_2, ho30_2, hf30_2, e30_2⟩
                  replace ho20_1 := OS.ext ho20_1 e30_2
                  replace ho21_1 := OS.ext ho21_1 e30_2
                  replace ho22_1 := OS.ext ho22_1 e30_2
                  have := Ext.size e30_2
                  replace eB := Ext.trans eB e30_2
                  have hlho30_2 := OS.lt ho30_2
                  try simp -implicitDefEqProofs (disch := first | decide | assumption | omega) only [go_sem, wrap_id]
                  try simp -implicitDefEqProofs (disch := first | decide | assumption | omega) only [go_sem, wrap_id]
                  refine CallA.pure (eqSSS_same _ _ _ _ (OS.rd ho20_1) (OS.rd ho30_2)) ?_
                  try simp -implicitDefEqProofs (disch := first | decide | assumption | omega) only [go_sem, wrap_id]
                  refine hK _ _ ?_
                  clear hK K
                  refine den_cond rfl (fun c8 => ?_) (fun c8 => ?_)
                  · try simp only [decide_eq_true_eq, decide_eq_false_iff_not, beq_iff_eq, beq_eq_false_iff_ne, bne_iff_ne, ne_eq, Bool.not_eq_true', Bool.not_eq_false', Bool.and_eq_true, Bool.or_eq_true, bne_eq_false_iff_eq] at c8
                    refine den_seq ?_
                    refine den_region TTok ?_
                    intro K hK
                    simp -implicitDefEqProofs (disch := first | decide | assumption | omega) only [go_sem, wrap_id]
                    refine hK _ _ ?_
                    clear hK K
                    refine den_ret ?_
                    simp (disch := decide) only [resP_1, puts_same, puts_ne]
                    exact absurd c8 (by first | (simp; done) | (simp; omega) | omega | (simp [eqC_self]; done))
                  · try simp only [decide_eq_true_eq, decide_eq_false_iff_not, beq_iff_eq, beq_eq_false_iff_ne, bne_iff_ne, ne_eq, Bool.not_eq_true', Bool.not_eq_false', Bool.and_eq_true, Bool.or_eq_true, bne_eq_false_iff_eq] at c8
                    refine den_skip ?_
                    refine den_seq ?_
                    refine den_seq ?_
                    refine den_region TTok ?_
                    intro K hK
                    simp -implicitDefEqProofs (disch := first | decide | assumption | omega) only [go_sem, wrap_id]
                    try simp -implicitDefEqProofs (disch := first | decide | assumption | omega) only [go_sem, wrap_id]
                    refine CallA.mono (toSSS_ok _ g _ (RdS.pres rg (Ext.pres eB)) hMg) ?_
                    intro v32_2 h32_2
                    rintro ⟨f32_2, ho32_2, hf32_2, e32_2⟩
                    replace ho21_1 := OS.ext ho21_1 e32_2
                    replace ho22_1 := OS.ext ho22_1 e32_2
                    have := Ext.size e32_2
                    replace eB := Ext.trans eB e32_2
                    have hlho32_2 := OS.lt ho32_2
                    try simp -implicitDefEqProofs (disch := first | decide | assumption | omega) only [go_sem, wrap_id]
                    try simp -implicitDefEqProofs (disch := first | decide | assumption | omega) only [go_sem, wrap_id]
                    refine CallA.pure (eqSSS_same _ _ _ _ (OS.rd ho21_1) (OS.rd ho32_2)) ?_
                    try simp -implicitDefEqProofs (disch := first | decide | assumption | omega) only [go_sem, wrap_id]
                    refine hK _ _ ?_
                    clear hK K
                    refine den_cond rfl (fun c9 => ?_) (fun c9 => ?_)
                    · try simp only [decide_eq_true_eq, decide_eq_false_iff_not, beq_iff_eq, beq_eq_false_iff_ne, bne_iff_ne, ne_eq, Bool.not_eq_true', Bool.not_eq_false', Bool.and_eq_true, Bool.or_eq_true, bne_eq_false_iff_eq] at c9
                      refine den_seq ?_
                      refine den_region TTok ?_
                      intro K hK
                      simp -implicitDefEqProofs (disch := first | decide | assumption | omega) only [go_sem, wrap_id]
                      refine hK _ _ ?_
                      clear hK K
                      refine den_ret ?_
                      simp (disch := decide) only [resP_1, puts_same, puts_ne]
                      exact absurd c9 (by first | (simp; done) | (simp; omega) | omega | (simp [eqC_self]; done))
                    · try simp only [decide_eq_true_eq, decide_eq_false_iff_not, beq_iff_eq, beq_eq_false_iff_ne, bne_iff_ne, ne_eq, Bool.not_eq_true', Bool.not_eq_false', Bool.and_eq_true, Bool.or_eq_true, bne_eq_false_iff_eq] at c9
                      refine den_skip ?_
                      refine den_seq ?_
                      refine den_seq ?_
                      refine den_region TTok ?_
                      intro K hK
                      simp -implicitDefEqProofs (disch := first | decide | assumption | omega) only [go_sem, wrap_id]
                      try simp -implicitDefEqProofs (disch := first | decide | assumption | omega) only [go_sem, wrap_id]
                      refine CallA.mono (toSSS_ok _ q _ (RdS.pres rq (Ext.pres eB)) hMq) ?_
                      intro v34_2 h34_2
                      rintro ⟨f34_2, ho34_2, hf34_2, e34_2⟩
                      replace ho22_1 := OS.ext ho22_1 e34_2
                      have := Ext.size e34_2
                      replace eB := Ext.trans eB e34_2
                      have hlho34_2 := OS.lt ho34_2
                      try simp -implicitDefEqProofs (disch := first | decide | assumption | omega) only [go_sem, wrap_id]
                      try simp -implicitDefEqProofs (disch := first | decide | assumption | omega) only [go_sem, wrap_id]
                      refine CallA.pure (eqSSS_same _ _ _ _ (OS.rd ho22_1) (OS.rd ho34_2)) ?_
                      try simp -implicitDefEqProofs (disch := first | decide | assumption | omega) only [go_sem, wrap_id]
                      refine hK _ _ ?_
                      clear hK K
                      refine den_cond rfl (fun c10 => ?_) (fun c10 => ?_)
                      · try simp only [decide_eq_true_eq, decide_eq_false_iff_not, beq_iff_eq, beq_eq_false_iff_ne, bne_iff_ne, ne_eq, Bool.not_eq_true', Bool.not_eq_false', Bool.and_eq_true, Bool.or_eq_true, bne_eq_false_iff_eq] at c10
                        refine den_seq ?_
                        refine den_region TTok ?_
                        intro K hK
                        simp -implicitDefEqProofs (disch := first | decide | assumption | omega) only [go_sem, wrap_id]
                        refine hK _ _ ?_
                        clear hK K
                        refine den_ret ?_
                        simp (disch := decide) only [resP_1, puts_same, puts_ne]
                        exact absurd c10 (by first | (simp; done) | (simp; omega) | omega | (simp [eqC_self]; done))
                      · try simp only [decide_eq_true_eq, decide_eq_false_iff_not, beq_iff_eq, beq_eq_false_iff_ne, bne_iff_ne, ne_eq, Bool.not_eq_true', Bool.not_eq_false', Bool.and_eq_true, Bool.or_eq_true, bne_eq_false_iff_eq] at c10
                        refine den_skip ?_
                        refine den_seq ?_
                        refine den_region TTok ?_
                        intro K hK
                        simp -implicitDefEqProofs (disch := first | decide | assumption | omega) only [go_sem, wrap_id]
                        refine hK _ _ ?_
                        clear hK K
                        refine den_ret ?_
                        simp (disch := decide) only [resP_1, puts_same, puts_ne]
                        exact ⟨by first | rfl | trivial, eB⟩
end Go.Proofs.Ytffggocjkhcgeaa
