/-
  What the statement FnExactInducedRank uses of the walks, part 5.
  Conditions: each theorem's own.
-/
import Derived.Test.YtbplnadngahgaaaG16
import Derived.Test.YtbplnadngahgaaaG17
import Derived.Test.YtbplnadngahgaaaG14
import Derived.Test.YtbplnadngahgaaaG13
import Derived.Test.YtbplnadngahgaaaG15
import Derived.Test.YtbplnadngahgaaaG18
import Derived.Test.YtbplnadngahgaaaG19
import Derived.Test.YtbplnadngahgaaaZInducedRank1
import Derived.Test.YtbplnadngahgaaaZInducedRank2
import Derived.Test.YtbplnadngahgaaaZInducedRank3
import Derived.Test.YtbplnadngahgaaaZInducedRank4
set_option linter.unusedVariables false
set_option linter.unusedSimpArgs false
namespace Go.Proofs.Ytbplnadngahgaaa
open Go
set_option maxRecDepth 100000 in
theorem iIR_ok (vX vY vf : Value) (X : Cx) (Y : Cx) (f : List (List (List Int))) (n : Int) (h : Heap) (rX : RC h vX X) (rY : RC h vY Y) (rf : R3 h vf f)  : CallA Try.prog 51 #[vX, vY, vf, .int .i64 n] h fun v' h' => v' = .tuple #[.int .i64 ((irR X Y f n).1), .int .i64 ((irR X Y f n).2)] ∧ Ext h h' := by
  obtain ⟨vdX, vmX, rfl, hdX, hmX⟩ := rX
  have hledX := RdS.le hdX
  have hlemX := RdS.le hmX
  obtain ⟨vdY, vmY, rfl, hdY, hmY⟩ := rY
  have hledY := RdS.le hdY
  have hlemY := RdS.le hmY
  have hlef := RdS.le rf
  refine callA_intro TTok (args := [_, _, _, _]) Try.func51 (by kernel_rfl) rfl 42 rfl (by simp) [.tmp 8, .tmp 9] rfl ?_
  simp only [idxs, Nat.reduceAdd]
  refine den_seq ?_
  refine den_region TTok ?_
  intro K hK
  simp -implicitDefEqProofs (disch := first | decide | assumption | omega) only [go_sem, RdS.len hdX sl22, RdS.idx hdX sl22, R1.intB hdX (HPres.refl _), RdS.cells hdX, RdS.len hmX sl23, RdS.idx hmX sl23, RdS.cellB hmX (HPres.refl _), RdS.cells hmX, RdS.len hdY sl22, RdS.idx hdY sl22, R1.intB hdY (HPres.refl _), RdS.cells hdY, RdS.len hmY sl23, RdS.idx hmY sl23, RdS.cellB hmY (HPres.refl _), RdS.cells hmY, RdS.len rf sl23, RdS.idx rf sl23, RdS.cellB rf (HPres.refl _), RdS.cells rf, wrap_id]
  refine op_box (cs := #[.int .i64 (X.p), vdX, vmX]) rfl ?_
  intro h0_0 e0_0 hb0_0 z0_0
  have := Ext.size e0_0
  have eB := e0_0
  have hfhb0_0 : Fresh h.size [h.size] := Fresh.one _
  have hlhb0_0 := one_lt (show h.size < h0_0.size by omega)
  try simp -implicitDefEqProofs (disch := first | decide | assumption | omega) only [go_sem, RdS.len hdX sl22, RdS.idx hdX sl22, R1.intB hdX (Ext.pres eB), RdS.cells hdX, RdS.len hmX sl23, RdS.idx hmX sl23, RdS.cellB hmX (Ext.pres eB), RdS.cells hmX, RdS.len hdY sl22, RdS.idx hdY sl22, R1.intB hdY (Ext.pres eB), RdS.cells hdY, RdS.len hmY sl23, RdS.idx hmY sl23, RdS.cellB hmY (Ext.pres eB), RdS.cells hmY, RdS.len rf sl23, RdS.idx rf sl23, RdS.cellB rf (Ext.pres eB), RdS.cells rf, BoxAt.cell hb0_0, wrap_id]
  refine op_box (cs := #[.int .i64 (Y.p), vdY, vmY]) rfl ?_
  intro h0_1 e0_1 hb0_1 z0_1
  replace hb0_0 := BoxAt.ext hb0_0 e0_1
  have := Ext.size e0_1
  replace eB := Ext.trans eB e0_1
  have hfhb0_1 : Fresh h0_0.size [h0_0.size] := Fresh.one _
  have hlhb0_1 := one_lt (show h0_0.size < h0_1.size by omega)
  try simp -implicitDefEqProofs (disch := first | decide | assumption | omega) only [go_sem, RdS.len hdX sl22, RdS.idx hdX sl22, R1.intB hdX (Ext.pres eB), RdS.cells hdX, RdS.len hmX sl23, RdS.idx hmX sl23, RdS.cellB hmX (Ext.pres eB), RdS.cells hmX, RdS.len hdY sl22, RdS.idx hdY sl22, R1.intB hdY (Ext.pres eB), RdS.cells hdY, RdS.len hmY sl23, RdS.idx hmY sl23, RdS.cellB hmY (Ext.pres eB), RdS.cells hmY, RdS.len rf sl23, RdS.idx rf sl23, RdS.cellB rf (Ext.pres eB), RdS.cells rf, BoxAt.cell hb0_0, BoxAt.cell hb0_1, wrap_id]
  refine hK _ _ ?_
  clear hK K
  refine den_seq ?_
  refine den_region TTok ?_
  intro K hK
  simp -implicitDefEqProofs (disch := first | decide | assumption | omega) only [go_sem, ld30, RdS.len hdX sl22, RdS.idx hdX sl22, R1.intB hdX (Ext.pres eB), RdS.cells hdX, RdS.len hmX sl23, RdS.idx hmX sl23, RdS.cellB hmX (Ext.pres eB), RdS.cells hmX, RdS.len hdY sl22, RdS.idx hdY sl22, R1.intB hdY (Ext.pres eB), RdS.cells hdY, RdS.len hmY sl23, RdS.idx hmY sl23, RdS.cellB hmY (Ext.pres eB), RdS.cells hmY, RdS.len rf sl23, RdS.idx rf sl23, RdS.cellB rf (Ext.pres eB), RdS.cells rf, BoxAt.cell hb0_0, BoxAt.cell hb0_1, wrap_id]
  refine op_bs1F (RdS.pres rf (Ext.pres eB)) ?_
  intro v1_3 h1_3 ho1_3 e1_3
  replace hb0_0 := BoxAt.ext hb0_0 e1_3
  replace hb0_1 := BoxAt.ext hb0_1 e1_3
  have := Ext.size e1_3
  replace eB := Ext.trans eB e1_3
  have xr1 := Ext.refl h1_3
  try simp -implicitDefEqProofs (disch := first | decide | assumption | omega) only [go_sem, RdS.len hdX sl22, RdS.idx hdX sl22, R1.intB hdX (Ext.pres eB), RdS.cells hdX, RdS.len hmX sl23, RdS.idx hmX sl23, RdS.cellB hmX (Ext.pres eB), RdS.cells hmX, RdS.len hdY sl22, RdS.idx hdY sl22, R1.intB hdY (Ext.pres eB), RdS.cells hdY, RdS.len hmY sl23, RdS.idx hmY sl23, RdS.cellB hmY (Ext.pres eB), RdS.cells hmY, RdS.len rf sl23, RdS.idx rf sl23, RdS.cellB rf (Ext.pres eB), RdS.cells rf, BoxAt.cell hb0_0, BoxAt.cell hb0_1, RdS.len ho1_3 sl88, RdS.idx ho1_3 sl88, RdS.cellB ho1_3 (Ext.pres xr1), RdS.cells ho1_3, wrap_id]
  try simp -implicitDefEqProofs (disch := first | decide | assumption | omega) only [go_sem, RdS.len hdX sl22, RdS.idx hdX sl22, R1.intB hdX (Ext.pres eB), RdS.cells hdX, RdS.len hmX sl23, RdS.idx hmX sl23, RdS.cellB hmX (Ext.pres eB), RdS.cells hmX, RdS.len hdY sl22, RdS.idx hdY sl22, R1.intB hdY (Ext.pres eB), RdS.cells hdY, RdS.len hmY sl23, RdS.idx hmY sl23, RdS.cellB hmY (Ext.pres eB), RdS.cells hmY, RdS.len rf sl23, RdS.idx rf sl23, RdS.cellB rf (Ext.pres eB), RdS.cells rf, BoxAt.cell hb0_0, BoxAt.cell hb0_1, RdS.len ho1_3 sl88, RdS.idx ho1_3 sl88, RdS.cellB ho1_3 (Ext.pres xr1), RdS.cells ho1_3, wrap_id]
  refine CallA.mono (iFamC_ok _ _ _ X Y ([f]) _ ⟨_, _, rfl, (RdS.pres hdX (Ext.pres eB)), (RdS.pres hmX (Ext.pres eB))⟩ ⟨_, _, rfl, (RdS.pres hdY (Ext.pres eB)), (RdS.pres hmY (Ext.pres eB))⟩ (RdS.pres ho1_3 (Ext.pres xr1)) ) ?_
  intro v_ h1_4
  rintro ⟨rfl, e1_4⟩
  replace hb0_0 := BoxAt.ext hb0_0 e1_4
  replace hb0_1 := BoxAt.ext hb0_1 e1_4
  have := Ext.size e1_4
  replace eB := Ext.trans eB e1_4
  replace xr1 := Ext.trans xr1 e1_4
  try simp -implicitDefEqProofs (disch := first | decide | assumption | omega) only [go_sem, RdS.len hdX sl22, RdS.idx hdX sl22, R1.intB hdX (Ext.pres eB), RdS.cells hdX, RdS.len hmX sl23, RdS.idx hmX sl23, RdS.cellB hmX (Ext.pres eB), RdS.cells hmX, RdS.len hdY sl22, RdS.idx hdY sl22, R1.intB hdY (Ext.pres eB), RdS.cells hdY, RdS.len hmY sl23, RdS.idx hmY sl23, RdS.cellB hmY (Ext.pres eB), RdS.cells hmY, RdS.len rf sl23, RdS.idx rf sl23, RdS.cellB rf (Ext.pres eB), RdS.cells rf, BoxAt.cell hb0_0, BoxAt.cell hb0_1, RdS.len ho1_3 sl88, RdS.idx ho1_3 sl88, RdS.cellB ho1_3 (Ext.pres xr1), RdS.cells ho1_3, wrap_id]
  refine hK _ _ ?_
  clear hK K
  refine den_seq ?_
  refine den_seq ?_
  refine den_merge [(24, .bool ((((famC X Y ([f])) == (0 : Int)) && (!((in3 n (0 : Int) (((X.dims).length : Int) - 1)))))))] [2, 3, 4, 5, 10] (fun H => Ext h1_4 H) ?_ ?_
    -- a way
  · refine den_region TTok ?_
    intro K hK
    simp -implicitDefEqProofs (disch := first | decide | assumption | (simp (disch := decide) only [slotOf_zero, slotOf_succ, Option.map_some, puts_same, puts_ne, gv_bool, gv_undef, tt, tf, ft, ff, eq_self, if_true, if_false, Bool.false_eq_true, Bool.not_true, Bool.not_false]; done) | omega) only [go_sem, RdS.len hdX sl22, RdS.idx hdX sl22, R1.intB hdX (Ext.pres eB), RdS.cells hdX, RdS.len hmX sl23, RdS.idx hmX sl23, RdS.cellB hmX (Ext.pres eB), RdS.cells hmX, RdS.len hdY sl22, RdS.idx hdY sl22, R1.intB hdY (Ext.pres eB), RdS.cells hdY, RdS.len hmY sl23, RdS.idx hmY sl23, RdS.cellB hmY (Ext.pres eB), RdS.cells hmY, RdS.len rf sl23, RdS.idx rf sl23, RdS.cellB rf (Ext.pres eB), RdS.cells rf, BoxAt.cell hb0_0, BoxAt.cell hb0_1, RdS.len ho1_3 sl88, RdS.idx ho1_3 sl88, RdS.cellB ho1_3 (Ext.pres xr1), RdS.cells ho1_3, wrap_id]
    refine opsP_T (by simp (disch := decide) only [slotOf_zero, slotOf_succ, Option.map_some, puts_same, puts_ne, gv_bool, gv_undef, tt, tf, ft, ff, eq_self, if_true, if_false, Bool.false_eq_true, Bool.not_true, Bool.not_false]; rfl) (fun g2 => ?_) (fun g2 => ?_)
    · try simp -implicitDefEqProofs (disch := first | decide | assumption | (simp (disch := decide) only [slotOf_zero, slotOf_succ, Option.map_some, puts_same, puts_ne, gv_bool, gv_undef, tt, tf, ft, ff, eq_self, if_true, if_false, Bool.false_eq_true, Bool.not_true, Bool.not_false, g2]; done) | omega) only [go_sem, ld30, RdS.len hdX sl22, RdS.idx hdX sl22, R1.intB hdX (Ext.pres eB), RdS.cells hdX, RdS.len hmX sl23, RdS.idx hmX sl23, RdS.cellB hmX (Ext.pres eB), RdS.cells hmX, RdS.len hdY sl22, RdS.idx hdY sl22, R1.intB hdY (Ext.pres eB), RdS.cells hdY, RdS.len hmY sl23, RdS.idx hmY sl23, RdS.cellB hmY (Ext.pres eB), RdS.cells hmY, RdS.len rf sl23, RdS.idx rf sl23, RdS.cellB rf (Ext.pres eB), RdS.cells rf, BoxAt.cell hb0_0, BoxAt.cell hb0_1, RdS.len ho1_3 sl88, RdS.idx ho1_3 sl88, RdS.cellB ho1_3 (Ext.pres xr1), RdS.cells ho1_3, wrap_id, g2, eq_self, if_true, if_false, Bool.false_eq_true]
      try simp -implicitDefEqProofs (disch := first | decide | assumption | omega) only [go_sem, RdS.len hdX sl22, RdS.idx hdX sl22, R1.intB hdX (Ext.pres eB), RdS.cells hdX, RdS.len hmX sl23, RdS.idx hmX sl23, RdS.cellB hmX (Ext.pres eB), RdS.cells hmX, RdS.len hdY sl22, RdS.idx hdY sl22, R1.intB hdY (Ext.pres eB), RdS.cells hdY, RdS.len hmY sl23, RdS.idx hmY sl23, RdS.cellB hmY (Ext.pres eB), RdS.cells hmY, RdS.len rf sl23, RdS.idx rf sl23, RdS.cellB rf (Ext.pres eB), RdS.cells rf, BoxAt.cell hb0_0, BoxAt.cell hb0_1, RdS.len ho1_3 sl88, RdS.idx ho1_3 sl88, RdS.cellB ho1_3 (Ext.pres xr1), RdS.cells ho1_3, wrap_id]
      refine CallA.mono (top_ok _ X _ ⟨_, _, rfl, (RdS.pres hdX (Ext.pres eB)), (RdS.pres hmX (Ext.pres eB))⟩) ?_
      intro v_ h2_5
      rintro ⟨rfl, e2_5⟩
      replace hb0_0 := BoxAt.ext hb0_0 e2_5
      replace hb0_1 := BoxAt.ext hb0_1 e2_5
      have := Ext.size e2_5
      replace eB := Ext.trans eB e2_5
      replace xr1 := Ext.trans xr1 e2_5
      try simp -implicitDefEqProofs (disch := first | decide | assumption | (simp (disch := decide) only [slotOf_zero, slotOf_succ, Option.map_some, puts_same, puts_ne, gv_bool, gv_undef, tt, tf, ft, ff, eq_self, if_true, if_false, Bool.false_eq_true, Bool.not_true, Bool.not_false, g2]; done) | omega) only [go_sem, RdS.len hdX sl22, RdS.idx hdX sl22, R1.intB hdX (Ext.pres eB), RdS.cells hdX, RdS.len hmX sl23, RdS.idx hmX sl23, RdS.cellB hmX (Ext.pres eB), RdS.cells hmX, RdS.len hdY sl22, RdS.idx hdY sl22, R1.intB hdY (Ext.pres eB), RdS.cells hdY, RdS.len hmY sl23, RdS.idx hmY sl23, RdS.cellB hmY (Ext.pres eB), RdS.cells hmY, RdS.len rf sl23, RdS.idx rf sl23, RdS.cellB rf (Ext.pres eB), RdS.cells rf, BoxAt.cell hb0_0, BoxAt.cell hb0_1, RdS.len ho1_3 sl88, RdS.idx ho1_3 sl88, RdS.cellB ho1_3 (Ext.pres xr1), RdS.cells ho1_3, wrap_id, g2, eq_self, if_true, if_false, Bool.false_eq_true]
      try simp -implicitDefEqProofs (disch := first | decide | assumption | omega) only [go_sem, RdS.len hdX sl22, RdS.idx hdX sl22, R1.intB hdX (Ext.pres eB), RdS.cells hdX, RdS.len hmX sl23, RdS.idx hmX sl23, RdS.cellB hmX (Ext.pres eB), RdS.cells hmX, RdS.len hdY sl22, RdS.idx hdY sl22, R1.intB hdY (Ext.pres eB), RdS.cells hdY, RdS.len hmY sl23, RdS.idx hmY sl23, RdS.cellB hmY (Ext.pres eB), RdS.cells hmY, RdS.len rf sl23, RdS.idx rf sl23, RdS.cellB rf (Ext.pres eB), RdS.cells rf, BoxAt.cell hb0_0, BoxAt.cell hb0_1, RdS.len ho1_3 sl88, RdS.idx ho1_3 sl88, RdS.cellB ho1_3 (Ext.pres xr1), RdS.cells ho1_3, wrap_id]
      refine CallA.pure (iIn_ok _ _ _ _) ?_
      try simp -implicitDefEqProofs (disch := first | decide | assumption | (simp (disch := decide) only [slotOf_zero, slotOf_succ, Option.map_some, puts_same, puts_ne, gv_bool, gv_undef, tt, tf, ft, ff, eq_self, if_true, if_false, Bool.false_eq_true, Bool.not_true, Bool.not_false, g2]; done) | omega) only [go_sem, RdS.len hdX sl22, RdS.idx hdX sl22, R1.intB hdX (Ext.pres eB), RdS.cells hdX, RdS.len hmX sl23, RdS.idx hmX sl23, RdS.cellB hmX (Ext.pres eB), RdS.cells hmX, RdS.len hdY sl22, RdS.idx hdY sl22, R1.intB hdY (Ext.pres eB), RdS.cells hdY, RdS.len hmY sl23, RdS.idx hmY sl23, RdS.cellB hmY (Ext.pres eB), RdS.cells hmY, RdS.len rf sl23, RdS.idx rf sl23, RdS.cellB rf (Ext.pres eB), RdS.cells rf, BoxAt.cell hb0_0, BoxAt.cell hb0_1, RdS.len ho1_3 sl88, RdS.idx ho1_3 sl88, RdS.cellB ho1_3 (Ext.pres xr1), RdS.cells ho1_3, wrap_id, g2, eq_self, if_true, if_false, Bool.false_eq_true]
      refine hK _ _ ?_
      clear hK K
      refine den_stop ?_
      refine ⟨?_, e2_5⟩
      first | (simp (disch := decide) only [go_sem, g2, eq_self, Bool.true_and, Bool.and_true, Bool.false_and, Bool.and_false, Bool.true_or, Bool.or_true, Bool.false_or, Bool.or_false, if_true, if_false, Bool.false_eq_true]; done) | simp [HasL, sel, puts_at, g2]
    · try simp -implicitDefEqProofs (disch := first | decide | assumption | (simp (disch := decide) only [slotOf_zero, slotOf_succ, Option.map_some, puts_same, puts_ne, gv_bool, gv_undef, tt, tf, ft, ff, eq_self, if_true, if_false, Bool.false_eq_true, Bool.not_true, Bool.not_false, g2]; done) | omega) only [go_sem, RdS.len hdX sl22, RdS.idx hdX sl22, R1.intB hdX (Ext.pres eB), RdS.cells hdX, RdS.len hmX sl23, RdS.idx hmX sl23, RdS.cellB hmX (Ext.pres eB), RdS.cells hmX, RdS.len hdY sl22, RdS.idx hdY sl22, R1.intB hdY (Ext.pres eB), RdS.cells hdY, RdS.len hmY sl23, RdS.idx hmY sl23, RdS.cellB hmY (Ext.pres eB), RdS.cells hmY, RdS.len rf sl23, RdS.idx rf sl23, RdS.cellB rf (Ext.pres eB), RdS.cells rf, BoxAt.cell hb0_0, BoxAt.cell hb0_1, RdS.len ho1_3 sl88, RdS.idx ho1_3 sl88, RdS.cellB ho1_3 (Ext.pres xr1), RdS.cells ho1_3, wrap_id, g2, eq_self, if_true, if_false, Bool.false_eq_true]
      refine hK _ _ ?_
      clear hK K
      refine den_stop ?_
      refine ⟨?_, Ext.refl _⟩
      first | (simp (disch := decide) only [go_sem, g2, eq_self, Bool.true_and, Bool.and_true, Bool.false_and, Bool.and_false, Bool.true_or, Bool.or_true, Bool.false_or, Bool.or_false, if_true, if_false, Bool.false_eq_true]; done) | simp [HasL, sel, puts_at, g2]
  intro en3 h4 e5
  replace hb0_0 := BoxAt.ext hb0_0 e5
  replace hb0_1 := BoxAt.ext hb0_1 e5
  have := Ext.size e5
  replace eB := Ext.trans eB e5
  replace xr1 := Ext.trans xr1 e5
  simp (disch := decide) only [go_sem]
  refine den_mergeH [(10, .int .i64 ((cadd (famC X Y ([f])) (2 : Int) (!((in3 n (0 : Int) (((X.dims).length : Int) - 1)))))))] [2, 3, 4, 5] ?_ ?_
  · refine den_cond rfl (fun c0 => ?_) (fun c0 => ?_)
    · refine den_region TTok ?_
      intro K hK
      simp -implicitDefEqProofs (disch := first | decide | assumption | omega) only [go_sem, RdS.len hdX sl22, RdS.idx hdX sl22, R1.intB hdX (Ext.pres eB), RdS.cells hdX, RdS.len hmX sl23, RdS.idx hmX sl23, RdS.cellB hmX (Ext.pres eB), RdS.cells hmX, RdS.len hdY sl22, RdS.idx hdY sl22, R1.intB hdY (Ext.pres eB), RdS.cells hdY, RdS.len hmY sl23, RdS.idx hmY sl23, RdS.cellB hmY (Ext.pres eB), RdS.cells hmY, RdS.len rf sl23, RdS.idx rf sl23, RdS.cellB rf (Ext.pres eB), RdS.cells rf, BoxAt.cell hb0_0, BoxAt.cell hb0_1, RdS.len ho1_3 sl88, RdS.idx ho1_3 sl88, RdS.cellB ho1_3 (Ext.pres xr1), RdS.cells ho1_3, wrap_id]
      refine hK _ _ ?_
      clear hK K
      refine den_stop ?_
      refine ⟨?_, rfl⟩; simp (disch := decide) only [go_sem, c0, caddT c0, eq_self, if_true, if_false, Bool.false_eq_true, reduceCtorEq]
    · refine den_skip ?_
      refine den_stop ?_
      refine ⟨?_, rfl⟩; simp (disch := decide) only [go_sem, c0, caddF c0, eq_self, if_true, if_false, Bool.false_eq_true, reduceCtorEq]
  intro en6
  simp (disch := decide) only [go_sem]
  refine den_seq ?_
  refine den_seq ?_
  refine den_merge [(33, .bool ((((cadd (famC X Y ([f])) (2 : Int) (!((in3 n (0 : Int) (((X.dims).length : Int) - 1))))) == (0 : Int)) && (!((chnP X Y f))))))] [2, 3, 4, 5, 10] (fun H => Ext h4 H) ?_ ?_
    -- a way
  · refine den_region TTok ?_
    intro K hK
    simp -implicitDefEqProofs (disch := first | decide | assumption | (simp (disch := decide) only [slotOf_zero, slotOf_succ, Option.map_some, puts_same, puts_ne, gv_bool, gv_undef, tt, tf, ft, ff, eq_self, if_true, if_false, Bool.false_eq_true, Bool.not_true, Bool.not_false]; done) | omega) only [go_sem, RdS.len hdX sl22, RdS.idx hdX sl22, R1.intB hdX (Ext.pres eB), RdS.cells hdX, RdS.len hmX sl23, RdS.idx hmX sl23, RdS.cellB hmX (Ext.pres eB), RdS.cells hmX, RdS.len hdY sl22, RdS.idx hdY sl22, R1.intB hdY (Ext.pres eB), RdS.cells hdY, RdS.len hmY sl23, RdS.idx hmY sl23, RdS.cellB hmY (Ext.pres eB), RdS.cells hmY, RdS.len rf sl23, RdS.idx rf sl23, RdS.cellB rf (Ext.pres eB), RdS.cells rf, BoxAt.cell hb0_0, BoxAt.cell hb0_1, RdS.len ho1_3 sl88, RdS.idx ho1_3 sl88, RdS.cellB ho1_3 (Ext.pres xr1), RdS.cells ho1_3, wrap_id]
    refine opsP_T (by simp (disch := decide) only [slotOf_zero, slotOf_succ, Option.map_some, puts_same, puts_ne, gv_bool, gv_undef, tt, tf, ft, ff, eq_self, if_true, if_false, Bool.false_eq_true, Bool.not_true, Bool.not_false]; rfl) (fun g7 => ?_) (fun g7 => ?_)
    · obtain ⟨h1_, _⟩ := (cadd_0 (by decide)).1 (b0 g7)
      obtain ⟨h0_, hL_⟩ := famC_0 h1_
      obtain ⟨hX, hY, hpp, hll⟩ := pairC_0 h0_
      have hF := hL_ f (by simp)
      try simp -implicitDefEqProofs (disch := first | decide | assumption | (simp (disch := decide) only [slotOf_zero, slotOf_succ, Option.map_some, puts_same, puts_ne, gv_bool, gv_undef, tt, tf, ft, ff, eq_self, if_true, if_false, Bool.false_eq_true, Bool.not_true, Bool.not_false, g7]; done) | omega) only [go_sem, ld30, RdS.len hdX sl22, RdS.idx hdX sl22, R1.intB hdX (Ext.pres eB), RdS.cells hdX, RdS.len hmX sl23, RdS.idx hmX sl23, RdS.cellB hmX (Ext.pres eB), RdS.cells hmX, RdS.len hdY sl22, RdS.idx hdY sl22, R1.intB hdY (Ext.pres eB), RdS.cells hdY, RdS.len hmY sl23, RdS.idx hmY sl23, RdS.cellB hmY (Ext.pres eB), RdS.cells hmY, RdS.len rf sl23, RdS.idx rf sl23, RdS.cellB rf (Ext.pres eB), RdS.cells rf, BoxAt.cell hb0_0, BoxAt.cell hb0_1, RdS.len ho1_3 sl88, RdS.idx ho1_3 sl88, RdS.cellB ho1_3 (Ext.pres xr1), RdS.cells ho1_3, wrap_id, g7, eq_self, if_true, if_false, Bool.false_eq_true]
      try simp -implicitDefEqProofs (disch := first | decide | assumption | omega) only [go_sem, RdS.len hdX sl22, RdS.idx hdX sl22, R1.intB hdX (Ext.pres eB), RdS.cells hdX, RdS.len hmX sl23, RdS.idx hmX sl23, RdS.cellB hmX (Ext.pres eB), RdS.cells hmX, RdS.len hdY sl22, RdS.idx hdY sl22, R1.intB hdY (Ext.pres eB), RdS.cells hdY, RdS.len hmY sl23, RdS.idx hmY sl23, RdS.cellB hmY (Ext.pres eB), RdS.cells hmY, RdS.len rf sl23, RdS.idx rf sl23, RdS.cellB rf (Ext.pres eB), RdS.cells rf, BoxAt.cell hb0_0, BoxAt.cell hb0_1, RdS.len ho1_3 sl88, RdS.idx ho1_3 sl88, RdS.cellB ho1_3 (Ext.pres xr1), RdS.cells ho1_3, wrap_id]
      refine CallA.mono (iChn_ok _ _ _ X Y f _ ⟨_, _, rfl, (RdS.pres hdX (Ext.pres eB)), (RdS.pres hmX (Ext.pres eB))⟩ ⟨_, _, rfl, (RdS.pres hdY (Ext.pres eB)), (RdS.pres hmY (Ext.pres eB))⟩ (RdS.pres rf (Ext.pres eB)) hX hY hF hpp hll) ?_
      intro v_ h4_6
      rintro ⟨rfl, e4_6⟩
      replace hb0_0 := BoxAt.ext hb0_0 e4_6
      replace hb0_1 := BoxAt.ext hb0_1 e4_6
      have := Ext.size e4_6
      replace eB := Ext.trans eB e4_6
      replace xr1 := Ext.trans xr1 e4_6
      try simp -implicitDefEqProofs (disch := first | decide | assumption | (simp (disch := decide) only [slotOf_zero, slotOf_succ, Option.map_some, puts_same, puts_ne, gv_bool, gv_undef, tt, tf, ft, ff, eq_self, if_true, if_false, Bool.false_eq_true, Bool.not_true, Bool.not_false, g7]; done) | omega) only [go_sem, RdS.len hdX sl22, RdS.idx hdX sl22, R1.intB hdX (Ext.pres eB), RdS.cells hdX, RdS.len hmX sl23, RdS.idx hmX sl23, RdS.cellB hmX (Ext.pres eB), RdS.cells hmX, RdS.len hdY sl22, RdS.idx hdY sl22, R1.intB hdY (Ext.pres eB), RdS.cells hdY, RdS.len hmY sl23, RdS.idx hmY sl23, RdS.cellB hmY (Ext.pres eB), RdS.cells hmY, RdS.len rf sl23, RdS.idx rf sl23, RdS.cellB rf (Ext.pres eB), RdS.cells rf, BoxAt.cell hb0_0, BoxAt.cell hb0_1, RdS.len ho1_3 sl88, RdS.idx ho1_3 sl88, RdS.cellB ho1_3 (Ext.pres xr1), RdS.cells ho1_3, wrap_id, g7, eq_self, if_true, if_false, Bool.false_eq_true]
      refine hK _ _ ?_
      clear hK K
      refine den_stop ?_
      refine ⟨?_, e4_6⟩
      first | (simp (disch := decide) only [go_sem, g7, eq_self, Bool.true_and, Bool.and_true, Bool.false_and, Bool.and_false, Bool.true_or, Bool.or_true, Bool.false_or, Bool.or_false, if_true, if_false, Bool.false_eq_true]; done) | simp [HasL, sel, puts_at, g7]
    · try simp -implicitDefEqProofs (disch := first | decide | assumption | (simp (disch := decide) only [slotOf_zero, slotOf_succ, Option.map_some, puts_same, puts_ne, gv_bool, gv_undef, tt, tf, ft, ff, eq_self, if_true, if_false, Bool.false_eq_true, Bool.not_true, Bool.not_false, g7]; done) | omega) only [go_sem, RdS.len hdX sl22, RdS.idx hdX sl22, R1.intB hdX (Ext.pres eB), RdS.cells hdX, RdS.len hmX sl23, RdS.idx hmX sl23, RdS.cellB hmX (Ext.pres eB), RdS.cells hmX, RdS.len hdY sl22, RdS.idx hdY sl22, R1.intB hdY (Ext.pres eB), RdS.cells hdY, RdS.len hmY sl23, RdS.idx hmY sl23, RdS.cellB hmY (Ext.pres eB), RdS.cells hmY, RdS.len rf sl23, RdS.idx rf sl23, RdS.cellB rf (Ext.pres eB), RdS.cells rf, BoxAt.cell hb0_0, BoxAt.cell hb0_1, RdS.len ho1_3 sl88, RdS.idx ho1_3 sl88, RdS.cellB ho1_3 (Ext.pres xr1), RdS.cells ho1_3, wrap_id, g7, eq_self, if_true, if_false, Bool.false_eq_true]
      refine hK _ _ ?_
      clear hK K
      refine den_stop ?_
      refine ⟨?_, Ext.refl _⟩
      first | (simp (disch := decide) only [go_sem, g7, eq_self, Bool.true_and, Bool.and_true, Bool.false_and, Bool.and_false, Bool.true_or, Bool.or_true, Bool.false_or, Bool.or_false, if_true, if_false, Bool.false_eq_true]; done) | simp [HasL, sel, puts_at, g7]
  intro en8 h9 e10
  replace hb0_0 := BoxAt.ext hb0_0 e10
  replace hb0_1 := BoxAt.ext hb0_1 e10
  have := Ext.size e10
  replace eB := Ext.trans eB e10
  replace xr1 := Ext.trans xr1 e10
  simp (disch := decide) only [go_sem]
  refine den_mergeH [(10, .int .i64 ((cadd (cadd (famC X Y ([f])) (2 : Int) (!((in3 n (0 : Int) (((X.dims).length : Int) - 1))))) (5 : Int) (!((chnP X Y f))))))] [2, 3, 4, 5] ?_ ?_
  · refine den_cond rfl (fun c1 => ?_) (fun c1 => ?_)
    · refine den_region TTok ?_
      intro K hK
      simp -implicitDefEqProofs (disch := first | decide | assumption | omega) only [go_sem, RdS.len hdX sl22, RdS.idx hdX sl22, R1.intB hdX (Ext.pres eB), RdS.cells hdX, RdS.len hmX sl23, RdS.idx hmX sl23, RdS.cellB hmX (Ext.pres eB), RdS.cells hmX, RdS.len hdY sl22, RdS.idx hdY sl22, R1.intB hdY (Ext.pres eB), RdS.cells hdY, RdS.len hmY sl23, RdS.idx hmY sl23, RdS.cellB hmY (Ext.pres eB), RdS.cells hmY, RdS.len rf sl23, RdS.idx rf sl23, RdS.cellB rf (Ext.pres eB), RdS.cells rf, BoxAt.cell hb0_0, BoxAt.cell hb0_1, RdS.len ho1_3 sl88, RdS.idx ho1_3 sl88, RdS.cellB ho1_3 (Ext.pres xr1), RdS.cells ho1_3, wrap_id]
      refine hK _ _ ?_
      clear hK K
      refine den_stop ?_
      refine ⟨?_, rfl⟩; simp (disch := decide) only [go_sem, c1, caddT c1, eq_self, if_true, if_false, Bool.false_eq_true, reduceCtorEq]
    · refine den_skip ?_
      refine den_stop ?_
      refine ⟨?_, rfl⟩; simp (disch := decide) only [go_sem, c1, caddF c1, eq_self, if_true, if_false, Bool.false_eq_true, reduceCtorEq]
  intro en11
  simp (disch := decide) only [go_sem]
  refine den_seq ?_
  refine den_seq ?_
  refine den_region TTok ?_
  intro K hK
  simp -implicitDefEqProofs (disch := first | decide | assumption | omega) only [go_sem, RdS.len hdX sl22, RdS.idx hdX sl22, R1.intB hdX (Ext.pres eB), RdS.cells hdX, RdS.len hmX sl23, RdS.idx hmX sl23, RdS.cellB hmX (Ext.pres eB), RdS.cells hmX, RdS.len hdY sl22, RdS.idx hdY sl22, R1.intB hdY (Ext.pres eB), RdS.cells hdY, RdS.len hmY sl23, RdS.idx hmY sl23, RdS.cellB hmY (Ext.pres eB), RdS.cells hmY, RdS.len rf sl23, RdS.idx rf sl23, RdS.cellB rf (Ext.pres eB), RdS.cells rf, BoxAt.cell hb0_0, BoxAt.cell hb0_1, RdS.len ho1_3 sl88, RdS.idx ho1_3 sl88, RdS.cellB ho1_3 (Ext.pres xr1), RdS.cells ho1_3, wrap_id]
  refine hK _ _ ?_
  clear hK K
  refine den_cond rfl (fun c2 => ?_) (fun c2 => ?_)
  · try simp only [decide_eq_true_eq, decide_eq_false_iff_not, beq_iff_eq, beq_eq_false_iff_ne, bne_iff_ne, ne_eq, Bool.not_eq_true', Bool.not_eq_false', Bool.and_eq_true, Bool.or_eq_true, bne_eq_false_iff_eq] at c2
    refine den_seq ?_
    refine den_region TTok ?_
    intro K hK
    simp -implicitDefEqProofs (disch := first | decide | assumption | omega) only [go_sem, RdS.len hdX sl22, RdS.idx hdX sl22, R1.intB hdX (Ext.pres eB), RdS.cells hdX, RdS.len hmX sl23, RdS.idx hmX sl23, RdS.cellB hmX (Ext.pres eB), RdS.cells hmX, RdS.len hdY sl22, RdS.idx hdY sl22, R1.intB hdY (Ext.pres eB), RdS.cells hdY, RdS.len hmY sl23, RdS.idx hmY sl23, RdS.cellB hmY (Ext.pres eB), RdS.cells hmY, RdS.len rf sl23, RdS.idx rf sl23, RdS.cellB rf (Ext.pres eB), RdS.cells rf, RdS.len ho1_3 sl88, RdS.idx ho1_3 sl88, RdS.cellB ho1_3 (Ext.pres xr1), RdS.cells ho1_3, wrap_id]
    refine hK _ _ ?_
    clear hK K
    refine den_ret ?_
    simp (disch := decide) only [resP_2, puts_same, puts_ne]
    have hz : irR X Y f n = (0, irC X Y f n) := by rw [irR, if_neg (show ¬ irC X Y f n = 0 from c2)]
    rw [hz]
    exact ⟨by first | rfl | trivial, eB⟩
  · try simp only [decide_eq_true_eq, decide_eq_false_iff_not, beq_iff_eq, beq_eq_false_iff_ne, bne_iff_ne, ne_eq, Bool.not_eq_true', Bool.not_eq_false', Bool.and_eq_true, Bool.or_eq_true, bne_eq_false_iff_eq] at c2
    have hrk := irC_0 (show irC X Y f n = 0 from c2)
    refine den_skip ?_
    refine den_seq ?_
    refine den_region TTok ?_
    intro K hK
    simp -implicitDefEqProofs (disch := first | decide | assumption | omega) only [go_sem, ld30, RdS.len hdX sl22, RdS.idx hdX sl22, R1.intB hdX (Ext.pres eB), RdS.cells hdX, RdS.len hmX sl23, RdS.idx hmX sl23, RdS.cellB hmX (Ext.pres eB), RdS.cells hmX, RdS.len hdY sl22, RdS.idx hdY sl22, R1.intB hdY (Ext.pres eB), RdS.cells hdY, RdS.len hmY sl23, RdS.idx hmY sl23, RdS.cellB hmY (Ext.pres eB), RdS.cells hmY, RdS.len rf sl23, RdS.idx rf sl23, RdS.cellB rf (Ext.pres eB), RdS.cells rf, BoxAt.cell hb0_0, BoxAt.cell hb0_1, RdS.len ho1_3 sl88, RdS.idx ho1_3 sl88, RdS.cellB ho1_3 (Ext.pres xr1), RdS.cells ho1_3, wrap_id]
    try simp -implicitDefEqProofs (disch := first | decide | assumption | omega) only [go_sem, RdS.len hdX sl22, RdS.idx hdX sl22, R1.intB hdX (Ext.pres eB), RdS.cells hdX, RdS.len hmX sl23, RdS.idx hmX sl23, RdS.cellB hmX (Ext.pres eB), RdS.cells hmX, RdS.len hdY sl22, RdS.idx hdY sl22, R1.intB hdY (Ext.pres eB), RdS.cells hdY, RdS.len hmY sl23, RdS.idx hmY sl23, RdS.cellB hmY (Ext.pres eB), RdS.cells hmY, RdS.len rf sl23, RdS.idx rf sl23, RdS.cellB rf (Ext.pres eB), RdS.cells rf, BoxAt.cell hb0_0, BoxAt.cell hb0_1, RdS.len ho1_3 sl88, RdS.idx ho1_3 sl88, RdS.cellB ho1_3 (Ext.pres xr1), RdS.cells ho1_3, wrap_id]
    refine CallA.mono (iRk_ok _ _ _ X Y f n _ ⟨_, _, rfl, (RdS.pres hdX (Ext.pres eB)), (RdS.pres hmX (Ext.pres eB))⟩ ⟨_, _, rfl, (RdS.pres hdY (Ext.pres eB)), (RdS.pres hmY (Ext.pres eB))⟩ (RdS.pres rf (Ext.pres eB)) hrk) ?_
    intro v_ h8_4
    rintro ⟨rfl, e8_4⟩
    replace hb0_0 := BoxAt.ext hb0_0 e8_4
    replace hb0_1 := BoxAt.ext hb0_1 e8_4
    have := Ext.size e8_4
    replace eB := Ext.trans eB e8_4
    replace xr1 := Ext.trans xr1 e8_4
    try simp -implicitDefEqProofs (disch := first | decide | assumption | omega) only [go_sem, RdS.len hdX sl22, RdS.idx hdX sl22, R1.intB hdX (Ext.pres eB), RdS.cells hdX, RdS.len hmX sl23, RdS.idx hmX sl23, RdS.cellB hmX (Ext.pres eB), RdS.cells hmX, RdS.len hdY sl22, RdS.idx hdY sl22, R1.intB hdY (Ext.pres eB), RdS.cells hdY, RdS.len hmY sl23, RdS.idx hmY sl23, RdS.cellB hmY (Ext.pres eB), RdS.cells hmY, RdS.len rf sl23, RdS.idx rf sl23, RdS.cellB rf (Ext.pres eB), RdS.cells rf, BoxAt.cell hb0_0, BoxAt.cell hb0_1, RdS.len ho1_3 sl88, RdS.idx ho1_3 sl88, RdS.cellB ho1_3 (Ext.pres xr1), RdS.cells ho1_3, wrap_id]
    refine hK _ _ ?_
    clear hK K
    refine den_ret ?_
    simp (disch := decide) only [resP_2, puts_same, puts_ne]
    have hz : irR X Y f n = (rkP X Y f n, 0) := by rw [irR, if_pos (show irC X Y f n = 0 from c2)]
    rw [hz]
    exact ⟨by first | rfl | trivial, eB⟩

set_option maxRecDepth 100000 in
theorem sIR_ok (vX vY vf : Value) (X : Cx) (Y : Cx) (f : List (List (List Int))) (n : Int) (h : Heap) (rX : RC h vX X) (rY : RC h vY Y) (rf : R3 h vf f)  : CallA Try.prog 50 #[vX, vY, vf, .int .i64 n] h fun v' h' => v' = .tuple #[.int .i64 ((irR X Y f n).1), .int .i64 ((irR X Y f n).2)] ∧ Ext h h' := by
  obtain ⟨vdX, vmX, rfl, hdX, hmX⟩ := rX
  have hledX := RdS.le hdX
  have hlemX := RdS.le hmX
  obtain ⟨vdY, vmY, rfl, hdY, hmY⟩ := rY
  have hledY := RdS.le hdY
  have hlemY := RdS.le hmY
  have hlef := RdS.le rf
  refine callA_intro TTok (args := [_, _, _, _]) Try.func50 (by kernel_rfl) rfl 42 rfl (by simp) [.tmp 8, .tmp 9] rfl ?_
  simp only [idxs, Nat.reduceAdd]
  refine den_seq ?_
  refine den_region TTok ?_
  intro K hK
  simp -implicitDefEqProofs (disch := first | decide | assumption | omega) only [go_sem, RdS.len hdX sl22, RdS.idx hdX sl22, R1.intB hdX (HPres.refl _), RdS.cells hdX, RdS.len hmX sl23, RdS.idx hmX sl23, RdS.cellB hmX (HPres.refl _), RdS.cells hmX, RdS.len hdY sl22, RdS.idx hdY sl22, R1.intB hdY (HPres.refl _), RdS.cells hdY, RdS.len hmY sl23, RdS.idx hmY sl23, RdS.cellB hmY (HPres.refl _), RdS.cells hmY, RdS.len rf sl23, RdS.idx rf sl23, RdS.cellB rf (HPres.refl _), RdS.cells rf, wrap_id]
  refine op_box (cs := #[.int .i64 (X.p), vdX, vmX]) rfl ?_
  intro h0_0 e0_0 hb0_0 z0_0
  have := Ext.size e0_0
  have eB := e0_0
  have hfhb0_0 : Fresh h.size [h.size] := Fresh.one _
  have hlhb0_0 := one_lt (show h.size < h0_0.size by omega)
  try simp -implicitDefEqProofs (disch := first | decide | assumption | omega) only [go_sem, RdS.len hdX sl22, RdS.idx hdX sl22, R1.intB hdX (Ext.pres eB), RdS.cells hdX, RdS.len hmX sl23, RdS.idx hmX sl23, RdS.cellB hmX (Ext.pres eB), RdS.cells hmX, RdS.len hdY sl22, RdS.idx hdY sl22, R1.intB hdY (Ext.pres eB), RdS.cells hdY, RdS.len hmY sl23, RdS.idx hmY sl23, RdS.cellB hmY (Ext.pres eB), RdS.cells hmY, RdS.len rf sl23, RdS.idx rf sl23, RdS.cellB rf (Ext.pres eB), RdS.cells rf, BoxAt.cell hb0_0, wrap_id]
  refine op_box (cs := #[.int .i64 (Y.p), vdY, vmY]) rfl ?_
  intro h0_1 e0_1 hb0_1 z0_1
  replace hb0_0 := BoxAt.ext hb0_0 e0_1
  have := Ext.size e0_1
  replace eB := Ext.trans eB e0_1
  have hfhb0_1 : Fresh h0_0.size [h0_0.size] := Fresh.one _
  have hlhb0_1 := one_lt (show h0_0.size < h0_1.size by omega)
  try simp -implicitDefEqProofs (disch := first | decide | assumption | omega) only [go_sem, RdS.len hdX sl22, RdS.idx hdX sl22, R1.intB hdX (Ext.pres eB), RdS.cells hdX, RdS.len hmX sl23, RdS.idx hmX sl23, RdS.cellB hmX (Ext.pres eB), RdS.cells hmX, RdS.len hdY sl22, RdS.idx hdY sl22, R1.intB hdY (Ext.pres eB), RdS.cells hdY, RdS.len hmY sl23, RdS.idx hmY sl23, RdS.cellB hmY (Ext.pres eB), RdS.cells hmY, RdS.len rf sl23, RdS.idx rf sl23, RdS.cellB rf (Ext.pres eB), RdS.cells rf, BoxAt.cell hb0_0, BoxAt.cell hb0_1, wrap_id]
  refine hK _ _ ?_
  clear hK K
  refine den_seq ?_
  refine den_region TTok ?_
  intro K hK
  simp -implicitDefEqProofs (disch := first | decide | assumption | omega) only [go_sem, ld30, RdS.len hdX sl22, RdS.idx hdX sl22, R1.intB hdX (Ext.pres eB), RdS.cells hdX, RdS.len hmX sl23, RdS.idx hmX sl23, RdS.cellB hmX (Ext.pres eB), RdS.cells hmX, RdS.len hdY sl22, RdS.idx hdY sl22, R1.intB hdY (Ext.pres eB), RdS.cells hdY, RdS.len hmY sl23, RdS.idx hmY sl23, RdS.cellB hmY (Ext.pres eB), RdS.cells hmY, RdS.len rf sl23, RdS.idx rf sl23, RdS.cellB rf (Ext.pres eB), RdS.cells rf, BoxAt.cell hb0_0, BoxAt.cell hb0_1, wrap_id]
  refine op_bs1F (RdS.pres rf (Ext.pres eB)) ?_
  intro v1_3 h1_3 ho1_3 e1_3
  replace hb0_0 := BoxAt.ext hb0_0 e1_3
  replace hb0_1 := BoxAt.ext hb0_1 e1_3
  have := Ext.size e1_3
  replace eB := Ext.trans eB e1_3
  have xr1 := Ext.refl h1_3
  try simp -implicitDefEqProofs (disch := first | decide | assumption | omega) only [go_sem, RdS.len hdX sl22, RdS.idx hdX sl22, R1.intB hdX (Ext.pres eB), RdS.cells hdX, RdS.len hmX sl23, RdS.idx hmX sl23, RdS.cellB hmX (Ext.pres eB), RdS.cells hmX, RdS.len hdY sl22, RdS.idx hdY sl22, R1.intB hdY (Ext.pres eB), RdS.cells hdY, RdS.len hmY sl23, RdS.idx hmY sl23, RdS.cellB hmY (Ext.pres eB), RdS.cells hmY, RdS.len rf sl23, RdS.idx rf sl23, RdS.cellB rf (Ext.pres eB), RdS.cells rf, BoxAt.cell hb0_0, BoxAt.cell hb0_1, RdS.len ho1_3 sl88, RdS.idx ho1_3 sl88, RdS.cellB ho1_3 (Ext.pres xr1), RdS.cells ho1_3, wrap_id]
  try simp -implicitDefEqProofs (disch := first | decide | assumption | omega) only [go_sem, RdS.len hdX sl22, RdS.idx hdX sl22, R1.intB hdX (Ext.pres eB), RdS.cells hdX, RdS.len hmX sl23, RdS.idx hmX sl23, RdS.cellB hmX (Ext.pres eB), RdS.cells hmX, RdS.len hdY sl22, RdS.idx hdY sl22, R1.intB hdY (Ext.pres eB), RdS.cells hdY, RdS.len hmY sl23, RdS.idx hmY sl23, RdS.cellB hmY (Ext.pres eB), RdS.cells hmY, RdS.len rf sl23, RdS.idx rf sl23, RdS.cellB rf (Ext.pres eB), RdS.cells rf, BoxAt.cell hb0_0, BoxAt.cell hb0_1, RdS.len ho1_3 sl88, RdS.idx ho1_3 sl88, RdS.cellB ho1_3 (Ext.pres xr1), RdS.cells ho1_3, wrap_id]
  refine CallA.mono (sFamC_ok _ _ _ X Y ([f]) _ ⟨_, _, rfl, (RdS.pres hdX (Ext.pres eB)), (RdS.pres hmX (Ext.pres eB))⟩ ⟨_, _, rfl, (RdS.pres hdY (Ext.pres eB)), (RdS.pres hmY (Ext.pres eB))⟩ (RdS.pres ho1_3 (Ext.pres xr1)) ) ?_
  intro v_ h1_4
  rintro ⟨rfl, e1_4⟩
  replace hb0_0 := BoxAt.ext hb0_0 e1_4
  replace hb0_1 := BoxAt.ext hb0_1 e1_4
  have := Ext.size e1_4
  replace eB := Ext.trans eB e1_4
  replace xr1 := Ext.trans xr1 e1_4
  try simp -implicitDefEqProofs (disch := first | decide | assumption | omega) only [go_sem, RdS.len hdX sl22, RdS.idx hdX sl22, R1.intB hdX (Ext.pres eB), RdS.cells hdX, RdS.len hmX sl23, RdS.idx hmX sl23, RdS.cellB hmX (Ext.pres eB), RdS.cells hmX, RdS.len hdY sl22, RdS.idx hdY sl22, R1.intB hdY (Ext.pres eB), RdS.cells hdY, RdS.len hmY sl23, RdS.idx hmY sl23, RdS.cellB hmY (Ext.pres eB), RdS.cells hmY, RdS.len rf sl23, RdS.idx rf sl23, RdS.cellB rf (Ext.pres eB), RdS.cells rf, BoxAt.cell hb0_0, BoxAt.cell hb0_1, RdS.len ho1_3 sl88, RdS.idx ho1_3 sl88, RdS.cellB ho1_3 (Ext.pres xr1), RdS.cells ho1_3, wrap_id]
  refine hK _ _ ?_
  clear hK K
  refine den_seq ?_
  refine den_seq ?_
  refine den_mergeH [(26, .bool ((((famC X Y ([f])) == (0 : Int)) && (!((in3 n (0 : Int) (((X.dims).length : Int) - (1 : Int))))))))] [2, 3, 4, 5, 10] ?_ ?_
    -- a way
  · refine den_region TTok ?_
    intro K hK
    simp -implicitDefEqProofs (disch := first | decide | assumption | (simp (disch := decide) only [slotOf_zero, slotOf_succ, Option.map_some, puts_same, puts_ne, gv_bool, gv_undef, tt, tf, ft, ff, eq_self, if_true, if_false, Bool.false_eq_true, Bool.not_true, Bool.not_false]; done) | omega) only [go_sem, RdS.len hdX sl22, RdS.idx hdX sl22, R1.intB hdX (Ext.pres eB), RdS.cells hdX, RdS.len hmX sl23, RdS.idx hmX sl23, RdS.cellB hmX (Ext.pres eB), RdS.cells hmX, RdS.len hdY sl22, RdS.idx hdY sl22, R1.intB hdY (Ext.pres eB), RdS.cells hdY, RdS.len hmY sl23, RdS.idx hmY sl23, RdS.cellB hmY (Ext.pres eB), RdS.cells hmY, RdS.len rf sl23, RdS.idx rf sl23, RdS.cellB rf (Ext.pres eB), RdS.cells rf, BoxAt.cell hb0_0, BoxAt.cell hb0_1, RdS.len ho1_3 sl88, RdS.idx ho1_3 sl88, RdS.cellB ho1_3 (Ext.pres xr1), RdS.cells ho1_3, wrap_id]
    refine opsP_T (by simp (disch := decide) only [slotOf_zero, slotOf_succ, Option.map_some, puts_same, puts_ne, gv_bool, gv_undef, tt, tf, ft, ff, eq_self, if_true, if_false, Bool.false_eq_true, Bool.not_true, Bool.not_false]; rfl) (fun g2 => ?_) (fun g2 => ?_)
    · try simp -implicitDefEqProofs (disch := first | decide | assumption | (simp (disch := decide) only [slotOf_zero, slotOf_succ, Option.map_some, puts_same, puts_ne, gv_bool, gv_undef, tt, tf, ft, ff, eq_self, if_true, if_false, Bool.false_eq_true, Bool.not_true, Bool.not_false, g2]; done) | omega) only [go_sem, fa30_1, ld22, RdS.len hdX sl22, RdS.idx hdX sl22, R1.intB hdX (Ext.pres eB), RdS.cells hdX, RdS.len hmX sl23, RdS.idx hmX sl23, RdS.cellB hmX (Ext.pres eB), RdS.cells hmX, RdS.len hdY sl22, RdS.idx hdY sl22, R1.intB hdY (Ext.pres eB), RdS.cells hdY, RdS.len hmY sl23, RdS.idx hmY sl23, RdS.cellB hmY (Ext.pres eB), RdS.cells hmY, RdS.len rf sl23, RdS.idx rf sl23, RdS.cellB rf (Ext.pres eB), RdS.cells rf, BoxAt.cell hb0_0, BoxAt.cell hb0_1, RdS.len ho1_3 sl88, RdS.idx ho1_3 sl88, RdS.cellB ho1_3 (Ext.pres xr1), RdS.cells ho1_3, wrap_id, g2, eq_self, if_true, if_false, Bool.false_eq_true]
      try simp -implicitDefEqProofs (disch := first | decide | assumption | omega) only [go_sem, RdS.len hdX sl22, RdS.idx hdX sl22, R1.intB hdX (Ext.pres eB), RdS.cells hdX, RdS.len hmX sl23, RdS.idx hmX sl23, RdS.cellB hmX (Ext.pres eB), RdS.cells hmX, RdS.len hdY sl22, RdS.idx hdY sl22, R1.intB hdY (Ext.pres eB), RdS.cells hdY, RdS.len hmY sl23, RdS.idx hmY sl23, RdS.cellB hmY (Ext.pres eB), RdS.cells hmY, RdS.len rf sl23, RdS.idx rf sl23, RdS.cellB rf (Ext.pres eB), RdS.cells rf, BoxAt.cell hb0_0, BoxAt.cell hb0_1, RdS.len ho1_3 sl88, RdS.idx ho1_3 sl88, RdS.cellB ho1_3 (Ext.pres xr1), RdS.cells ho1_3, wrap_id]
      refine CallA.pure (sIn_ok _ _ _ _) ?_
      try simp -implicitDefEqProofs (disch := first | decide | assumption | (simp (disch := decide) only [slotOf_zero, slotOf_succ, Option.map_some, puts_same, puts_ne, gv_bool, gv_undef, tt, tf, ft, ff, eq_self, if_true, if_false, Bool.false_eq_true, Bool.not_true, Bool.not_false, g2]; done) | omega) only [go_sem, RdS.len hdX sl22, RdS.idx hdX sl22, R1.intB hdX (Ext.pres eB), RdS.cells hdX, RdS.len hmX sl23, RdS.idx hmX sl23, RdS.cellB hmX (Ext.pres eB), RdS.cells hmX, RdS.len hdY sl22, RdS.idx hdY sl22, R1.intB hdY (Ext.pres eB), RdS.cells hdY, RdS.len hmY sl23, RdS.idx hmY sl23, RdS.cellB hmY (Ext.pres eB), RdS.cells hmY, RdS.len rf sl23, RdS.idx rf sl23, RdS.cellB rf (Ext.pres eB), RdS.cells rf, BoxAt.cell hb0_0, BoxAt.cell hb0_1, RdS.len ho1_3 sl88, RdS.idx ho1_3 sl88, RdS.cellB ho1_3 (Ext.pres xr1), RdS.cells ho1_3, wrap_id, g2, eq_self, if_true, if_false, Bool.false_eq_true]
      refine hK _ _ ?_
      clear hK K
      refine den_stop ?_
      refine ⟨?_, rfl⟩
      first | (simp (disch := decide) only [go_sem, g2, eq_self, Bool.true_and, Bool.and_true, Bool.false_and, Bool.and_false, Bool.true_or, Bool.or_true, Bool.false_or, Bool.or_false, if_true, if_false, Bool.false_eq_true]; done) | simp [HasL, sel, puts_at, g2]
    · try simp -implicitDefEqProofs (disch := first | decide | assumption | (simp (disch := decide) only [slotOf_zero, slotOf_succ, Option.map_some, puts_same, puts_ne, gv_bool, gv_undef, tt, tf, ft, ff, eq_self, if_true, if_false, Bool.false_eq_true, Bool.not_true, Bool.not_false, g2]; done) | omega) only [go_sem, RdS.len hdX sl22, RdS.idx hdX sl22, R1.intB hdX (Ext.pres eB), RdS.cells hdX, RdS.len hmX sl23, RdS.idx hmX sl23, RdS.cellB hmX (Ext.pres eB), RdS.cells hmX, RdS.len hdY sl22, RdS.idx hdY sl22, R1.intB hdY (Ext.pres eB), RdS.cells hdY, RdS.len hmY sl23, RdS.idx hmY sl23, RdS.cellB hmY (Ext.pres eB), RdS.cells hmY, RdS.len rf sl23, RdS.idx rf sl23, RdS.cellB rf (Ext.pres eB), RdS.cells rf, BoxAt.cell hb0_0, BoxAt.cell hb0_1, RdS.len ho1_3 sl88, RdS.idx ho1_3 sl88, RdS.cellB ho1_3 (Ext.pres xr1), RdS.cells ho1_3, wrap_id, g2, eq_self, if_true, if_false, Bool.false_eq_true]
      refine hK _ _ ?_
      clear hK K
      refine den_stop ?_
      refine ⟨?_, rfl⟩
      first | (simp (disch := decide) only [go_sem, g2, eq_self, Bool.true_and, Bool.and_true, Bool.false_and, Bool.and_false, Bool.true_or, Bool.or_true, Bool.false_or, Bool.or_false, if_true, if_false, Bool.false_eq_true]; done) | simp [HasL, sel, puts_at, g2]
  intro en3
  simp (disch := decide) only [go_sem]
  refine den_mergeH [(10, .int .i64 ((cadd (famC X Y ([f])) (2 : Int) (!((in3 n (0 : Int) (((X.dims).length : Int) - (1 : Int))))))))] [2, 3, 4, 5] ?_ ?_
  · refine den_cond rfl (fun c0 => ?_) (fun c0 => ?_)
    · refine den_region TTok ?_
      intro K hK
      simp -implicitDefEqProofs (disch := first | decide | assumption | omega) only [go_sem, RdS.len hdX sl22, RdS.idx hdX sl22, R1.intB hdX (Ext.pres eB), RdS.cells hdX, RdS.len hmX sl23, RdS.idx hmX sl23, RdS.cellB hmX (Ext.pres eB), RdS.cells hmX, RdS.len hdY sl22, RdS.idx hdY sl22, R1.intB hdY (Ext.pres eB), RdS.cells hdY, RdS.len hmY sl23, RdS.idx hmY sl23, RdS.cellB hmY (Ext.pres eB), RdS.cells hmY, RdS.len rf sl23, RdS.idx rf sl23, RdS.cellB rf (Ext.pres eB), RdS.cells rf, BoxAt.cell hb0_0, BoxAt.cell hb0_1, RdS.len ho1_3 sl88, RdS.idx ho1_3 sl88, RdS.cellB ho1_3 (Ext.pres xr1), RdS.cells ho1_3, wrap_id]
      refine hK _ _ ?_
      clear hK K
      refine den_stop ?_
      refine ⟨?_, rfl⟩; simp (disch := decide) only [go_sem, c0, caddT c0, eq_self, if_true, if_false, Bool.false_eq_true, reduceCtorEq]
    · refine den_skip ?_
      refine den_stop ?_
      refine ⟨?_, rfl⟩; simp (disch := decide) only [go_sem, c0, caddF c0, eq_self, if_true, if_false, Bool.false_eq_true, reduceCtorEq]
  intro en6
  simp (disch := decide) only [go_sem]
  refine den_seq ?_
  refine den_seq ?_
  refine den_region TTok ?_
  intro K hK
  simp -implicitDefEqProofs (disch := first | decide | assumption | omega) only [go_sem, RdS.len hdX sl22, RdS.idx hdX sl22, R1.intB hdX (Ext.pres eB), RdS.cells hdX, RdS.len hmX sl23, RdS.idx hmX sl23, RdS.cellB hmX (Ext.pres eB), RdS.cells hmX, RdS.len hdY sl22, RdS.idx hdY sl22, R1.intB hdY (Ext.pres eB), RdS.cells hdY, RdS.len hmY sl23, RdS.idx hmY sl23, RdS.cellB hmY (Ext.pres eB), RdS.cells hmY, RdS.len rf sl23, RdS.idx rf sl23, RdS.cellB rf (Ext.pres eB), RdS.cells rf, BoxAt.cell hb0_0, BoxAt.cell hb0_1, RdS.len ho1_3 sl88, RdS.idx ho1_3 sl88, RdS.cellB ho1_3 (Ext.pres xr1), RdS.cells ho1_3, wrap_id]
  refine hK _ _ ?_
  clear hK K
  refine den_cond rfl (fun c1 => ?_) (fun c1 => ?_)
  · try simp only [decide_eq_true_eq, decide_eq_false_iff_not, beq_iff_eq, beq_eq_false_iff_ne, bne_iff_ne, ne_eq, Bool.not_eq_true', Bool.not_eq_false', Bool.and_eq_true, Bool.or_eq_true, bne_eq_false_iff_eq] at c1
    refine den_region TTok ?_
    intro K hK
    simp -implicitDefEqProofs (disch := first | decide | assumption | omega) only [go_sem, ld30, RdS.len hdX sl22, RdS.idx hdX sl22, R1.intB hdX (Ext.pres eB), RdS.cells hdX, RdS.len hmX sl23, RdS.idx hmX sl23, RdS.cellB hmX (Ext.pres eB), RdS.cells hmX, RdS.len hdY sl22, RdS.idx hdY sl22, R1.intB hdY (Ext.pres eB), RdS.cells hdY, RdS.len hmY sl23, RdS.idx hmY sl23, RdS.cellB hmY (Ext.pres eB), RdS.cells hmY, RdS.len rf sl23, RdS.idx rf sl23, RdS.cellB rf (Ext.pres eB), RdS.cells rf, BoxAt.cell hb0_0, BoxAt.cell hb0_1, RdS.len ho1_3 sl88, RdS.idx ho1_3 sl88, RdS.cellB ho1_3 (Ext.pres xr1), RdS.cells ho1_3, wrap_id]
    refine op_bs1F (RdS.pres rf (Ext.pres eB)) ?_
    intro v5_3 h5_3 ho5_3 e5_3
    replace hb0_0 := BoxAt.ext hb0_0 e5_3
    replace hb0_1 := BoxAt.ext hb0_1 e5_3
    have := Ext.size e5_3
    replace eB := Ext.trans eB e5_3
    replace xr1 := Ext.trans xr1 e5_3
    have xr7 := Ext.refl h5_3
    try simp -implicitDefEqProofs (disch := first | decide | assumption | omega) only [go_sem, RdS.len hdX sl22, RdS.idx hdX sl22, R1.intB hdX (Ext.pres eB), RdS.cells hdX, RdS.len hmX sl23, RdS.idx hmX sl23, RdS.cellB hmX (Ext.pres eB), RdS.cells hmX, RdS.len hdY sl22, RdS.idx hdY sl22, R1.intB hdY (Ext.pres eB), RdS.cells hdY, RdS.len hmY sl23, RdS.idx hmY sl23, RdS.cellB hmY (Ext.pres eB), RdS.cells hmY, RdS.len rf sl23, RdS.idx rf sl23, RdS.cellB rf (Ext.pres eB), RdS.cells rf, BoxAt.cell hb0_0, BoxAt.cell hb0_1, RdS.len ho1_3 sl88, RdS.idx ho1_3 sl88, RdS.cellB ho1_3 (Ext.pres xr1), RdS.cells ho1_3, RdS.len ho5_3 sl88, RdS.idx ho5_3 sl88, RdS.cellB ho5_3 (Ext.pres xr7), RdS.cells ho5_3, wrap_id]
    try simp -implicitDefEqProofs (disch := first | decide | assumption | omega) only [go_sem, RdS.len hdX sl22, RdS.idx hdX sl22, R1.intB hdX (Ext.pres eB), RdS.cells hdX, RdS.len hmX sl23, RdS.idx hmX sl23, RdS.cellB hmX (Ext.pres eB), RdS.cells hmX, RdS.len hdY sl22, RdS.idx hdY sl22, R1.intB hdY (Ext.pres eB), RdS.cells hdY, RdS.len hmY sl23, RdS.idx hmY sl23, RdS.cellB hmY (Ext.pres eB), RdS.cells hmY, RdS.len rf sl23, RdS.idx rf sl23, RdS.cellB rf (Ext.pres eB), RdS.cells rf, BoxAt.cell hb0_0, BoxAt.cell hb0_1, RdS.len ho1_3 sl88, RdS.idx ho1_3 sl88, RdS.cellB ho1_3 (Ext.pres xr1), RdS.cells ho1_3, RdS.len ho5_3 sl88, RdS.idx ho5_3 sl88, RdS.cellB ho5_3 (Ext.pres xr7), RdS.cells ho5_3, wrap_id]
    refine CallA.mono (sChnC_ok _ _ _ X Y ([f]) _ ⟨_, _, rfl, (RdS.pres hdX (Ext.pres eB)), (RdS.pres hmX (Ext.pres eB))⟩ ⟨_, _, rfl, (RdS.pres hdY (Ext.pres eB)), (RdS.pres hmY (Ext.pres eB))⟩ (RdS.pres ho5_3 (Ext.pres xr7)) ) ?_
    intro v_ h5_4
    rintro ⟨rfl, e5_4⟩
    replace hb0_0 := BoxAt.ext hb0_0 e5_4
    replace hb0_1 := BoxAt.ext hb0_1 e5_4
    have := Ext.size e5_4
    replace eB := Ext.trans eB e5_4
    replace xr1 := Ext.trans xr1 e5_4
    replace xr7 := Ext.trans xr7 e5_4
    try simp -implicitDefEqProofs (disch := first | decide | assumption | omega) only [go_sem, RdS.len hdX sl22, RdS.idx hdX sl22, R1.intB hdX (Ext.pres eB), RdS.cells hdX, RdS.len hmX sl23, RdS.idx hmX sl23, RdS.cellB hmX (Ext.pres eB), RdS.cells hmX, RdS.len hdY sl22, RdS.idx hdY sl22, R1.intB hdY (Ext.pres eB), RdS.cells hdY, RdS.len hmY sl23, RdS.idx hmY sl23, RdS.cellB hmY (Ext.pres eB), RdS.cells hmY, RdS.len rf sl23, RdS.idx rf sl23, RdS.cellB rf (Ext.pres eB), RdS.cells rf, BoxAt.cell hb0_0, BoxAt.cell hb0_1, RdS.len ho1_3 sl88, RdS.idx ho1_3 sl88, RdS.cellB ho1_3 (Ext.pres xr1), RdS.cells ho1_3, RdS.len ho5_3 sl88, RdS.idx ho5_3 sl88, RdS.cellB ho5_3 (Ext.pres xr7), RdS.cells ho5_3, wrap_id]
    refine hK _ _ ?_
    clear hK K
    refine den_seq ?_
    refine den_seq ?_
    refine den_region TTok ?_
    intro K hK
    simp -implicitDefEqProofs (disch := first | decide | assumption | omega) only [go_sem, RdS.len hdX sl22, RdS.idx hdX sl22, R1.intB hdX (Ext.pres eB), RdS.cells hdX, RdS.len hmX sl23, RdS.idx hmX sl23, RdS.cellB hmX (Ext.pres eB), RdS.cells hmX, RdS.len hdY sl22, RdS.idx hdY sl22, R1.intB hdY (Ext.pres eB), RdS.cells hdY, RdS.len hmY sl23, RdS.idx hmY sl23, RdS.cellB hmY (Ext.pres eB), RdS.cells hmY, RdS.len rf sl23, RdS.idx rf sl23, RdS.cellB rf (Ext.pres eB), RdS.cells rf, BoxAt.cell hb0_0, BoxAt.cell hb0_1, RdS.len ho1_3 sl88, RdS.idx ho1_3 sl88, RdS.cellB ho1_3 (Ext.pres xr1), RdS.cells ho1_3, RdS.len ho5_3 sl88, RdS.idx ho5_3 sl88, RdS.cellB ho5_3 (Ext.pres xr7), RdS.cells ho5_3, wrap_id]
    refine hK _ _ ?_
    clear hK K
    refine den_cond rfl (fun c2 => ?_) (fun c2 => ?_)
    · try simp only [decide_eq_true_eq, decide_eq_false_iff_not, beq_iff_eq, beq_eq_false_iff_ne, bne_iff_ne, ne_eq, Bool.not_eq_true', Bool.not_eq_false', Bool.and_eq_true, Bool.or_eq_true, bne_eq_false_iff_eq] at c2
      refine den_seq ?_
      refine den_region TTok ?_
      intro K hK
      simp -implicitDefEqProofs (disch := first | decide | assumption | omega) only [go_sem, RdS.len hdX sl22, RdS.idx hdX sl22, R1.intB hdX (Ext.pres eB), RdS.cells hdX, RdS.len hmX sl23, RdS.idx hmX sl23, RdS.cellB hmX (Ext.pres eB), RdS.cells hmX, RdS.len hdY sl22, RdS.idx hdY sl22, R1.intB hdY (Ext.pres eB), RdS.cells hdY, RdS.len hmY sl23, RdS.idx hmY sl23, RdS.cellB hmY (Ext.pres eB), RdS.cells hmY, RdS.len rf sl23, RdS.idx rf sl23, RdS.cellB rf (Ext.pres eB), RdS.cells rf, RdS.len ho1_3 sl88, RdS.idx ho1_3 sl88, RdS.cellB ho1_3 (Ext.pres xr1), RdS.cells ho1_3, RdS.len ho5_3 sl88, RdS.idx ho5_3 sl88, RdS.cellB ho5_3 (Ext.pres xr7), RdS.cells ho5_3, wrap_id]
      refine hK _ _ ?_
      clear hK K
      refine den_ret ?_
      simp (disch := decide) only [resP_2, puts_same, puts_ne]
      have e := irC_spec c1
      have hz : irR X Y f n = (0, chnC X Y [f]) := by rw [irR, if_neg (by rw [e]; exact c2), e]
      rw [hz]
      exact ⟨by first | rfl | trivial, eB⟩
    · try simp only [decide_eq_true_eq, decide_eq_false_iff_not, beq_iff_eq, beq_eq_false_iff_ne, bne_iff_ne, ne_eq, Bool.not_eq_true', Bool.not_eq_false', Bool.and_eq_true, Bool.or_eq_true, bne_eq_false_iff_eq] at c2
      have hrk := irC_0 ((irC_spec c1).trans c2)
      refine den_skip ?_
      refine den_seq ?_
      refine den_region TTok ?_
      intro K hK
      simp -implicitDefEqProofs (disch := first | decide | assumption | omega) only [go_sem, ld30, RdS.len hdX sl22, RdS.idx hdX sl22, R1.intB hdX (Ext.pres eB), RdS.cells hdX, RdS.len hmX sl23, RdS.idx hmX sl23, RdS.cellB hmX (Ext.pres eB), RdS.cells hmX, RdS.len hdY sl22, RdS.idx hdY sl22, R1.intB hdY (Ext.pres eB), RdS.cells hdY, RdS.len hmY sl23, RdS.idx hmY sl23, RdS.cellB hmY (Ext.pres eB), RdS.cells hmY, RdS.len rf sl23, RdS.idx rf sl23, RdS.cellB rf (Ext.pres eB), RdS.cells rf, BoxAt.cell hb0_0, BoxAt.cell hb0_1, RdS.len ho1_3 sl88, RdS.idx ho1_3 sl88, RdS.cellB ho1_3 (Ext.pres xr1), RdS.cells ho1_3, RdS.len ho5_3 sl88, RdS.idx ho5_3 sl88, RdS.cellB ho5_3 (Ext.pres xr7), RdS.cells ho5_3, wrap_id]
      try simp -implicitDefEqProofs (disch := first | decide | assumption | omega) only [go_sem, RdS.len hdX sl22, RdS.idx hdX sl22, R1.intB hdX (Ext.pres eB), RdS.cells hdX, RdS.len hmX sl23, RdS.idx hmX sl23, RdS.cellB hmX (Ext.pres eB), RdS.cells hmX, RdS.len hdY sl22, RdS.idx hdY sl22, R1.intB hdY (Ext.pres eB), RdS.cells hdY, RdS.len hmY sl23, RdS.idx hmY sl23, RdS.cellB hmY (Ext.pres eB), RdS.cells hmY, RdS.len rf sl23, RdS.idx rf sl23, RdS.cellB rf (Ext.pres eB), RdS.cells rf, BoxAt.cell hb0_0, BoxAt.cell hb0_1, RdS.len ho1_3 sl88, RdS.idx ho1_3 sl88, RdS.cellB ho1_3 (Ext.pres xr1), RdS.cells ho1_3, RdS.len ho5_3 sl88, RdS.idx ho5_3 sl88, RdS.cellB ho5_3 (Ext.pres xr7), RdS.cells ho5_3, wrap_id]
      refine CallA.mono (sRk_ok _ _ _ X Y f n _ ⟨_, _, rfl, (RdS.pres hdX (Ext.pres eB)), (RdS.pres hmX (Ext.pres eB))⟩ ⟨_, _, rfl, (RdS.pres hdY (Ext.pres eB)), (RdS.pres hmY (Ext.pres eB))⟩ (RdS.pres rf (Ext.pres eB)) hrk) ?_
      intro v_ h8_4
      rintro ⟨rfl, e8_4⟩
      replace hb0_0 := BoxAt.ext hb0_0 e8_4
      replace hb0_1 := BoxAt.ext hb0_1 e8_4
      have := Ext.size e8_4
      replace eB := Ext.trans eB e8_4
      replace xr1 := Ext.trans xr1 e8_4
      replace xr7 := Ext.trans xr7 e8_4
      try simp -implicitDefEqProofs (disch := first | decide | assumption | omega) only [go_sem, RdS.len hdX sl22, RdS.idx hdX sl22, R1.intB hdX (Ext.pres eB), RdS.cells hdX, RdS.len hmX sl23, RdS.idx hmX sl23, RdS.cellB hmX (Ext.pres eB), RdS.cells hmX, RdS.len hdY sl22, RdS.idx hdY sl22, R1.intB hdY (Ext.pres eB), RdS.cells hdY, RdS.len hmY sl23, RdS.idx hmY sl23, RdS.cellB hmY (Ext.pres eB), RdS.cells hmY, RdS.len rf sl23, RdS.idx rf sl23, RdS.cellB rf (Ext.pres eB), RdS.cells rf, BoxAt.cell hb0_0, BoxAt.cell hb0_1, RdS.len ho1_3 sl88, RdS.idx ho1_3 sl88, RdS.cellB ho1_3 (Ext.pres xr1), RdS.cells ho1_3, RdS.len ho5_3 sl88, RdS.idx ho5_3 sl88, RdS.cellB ho5_3 (Ext.pres xr7), RdS.cells ho5_3, wrap_id]
      refine hK _ _ ?_
      clear hK K
      refine den_ret ?_
      simp (disch := decide) only [resP_2, puts_same, puts_ne]
      have hz : irR X Y f n = (rkP X Y f n, 0) := by rw [irR, if_pos ((irC_spec c1).trans c2)]
      rw [hz]
      exact ⟨by first | rfl | trivial, eB⟩
  · try simp only [decide_eq_true_eq, decide_eq_false_iff_not, beq_iff_eq, beq_eq_false_iff_ne, bne_iff_ne, ne_eq, Bool.not_eq_true', Bool.not_eq_false', Bool.and_eq_true, Bool.or_eq_true, bne_eq_false_iff_eq] at c1
    refine den_skip ?_
    refine den_seq ?_
    refine den_seq ?_
    refine den_region TTok ?_
    intro K hK
    simp -implicitDefEqProofs (disch := first | decide | assumption | omega) only [go_sem, RdS.len hdX sl22, RdS.idx hdX sl22, R1.intB hdX (Ext.pres eB), RdS.cells hdX, RdS.len hmX sl23, RdS.idx hmX sl23, RdS.cellB hmX (Ext.pres eB), RdS.cells hmX, RdS.len hdY sl22, RdS.idx hdY sl22, R1.intB hdY (Ext.pres eB), RdS.cells hdY, RdS.len hmY sl23, RdS.idx hmY sl23, RdS.cellB hmY (Ext.pres eB), RdS.cells hmY, RdS.len rf sl23, RdS.idx rf sl23, RdS.cellB rf (Ext.pres eB), RdS.cells rf, BoxAt.cell hb0_0, BoxAt.cell hb0_1, RdS.len ho1_3 sl88, RdS.idx ho1_3 sl88, RdS.cellB ho1_3 (Ext.pres xr1), RdS.cells ho1_3, wrap_id]
    refine hK _ _ ?_
    clear hK K
    refine den_cond rfl (fun c3 => ?_) (fun c3 => ?_)
    · try simp only [decide_eq_true_eq, decide_eq_false_iff_not, beq_iff_eq, beq_eq_false_iff_ne, bne_iff_ne, ne_eq, Bool.not_eq_true', Bool.not_eq_false', Bool.and_eq_true, Bool.or_eq_true, bne_eq_false_iff_eq] at c3
      refine den_seq ?_
      refine den_region TTok ?_
      intro K hK
      simp -implicitDefEqProofs (disch := first | decide | assumption | omega) only [go_sem, RdS.len hdX sl22, RdS.idx hdX sl22, R1.intB hdX (Ext.pres eB), RdS.cells hdX, RdS.len hmX sl23, RdS.idx hmX sl23, RdS.cellB hmX (Ext.pres eB), RdS.cells hmX, RdS.len hdY sl22, RdS.idx hdY sl22, R1.intB hdY (Ext.pres eB), RdS.cells hdY, RdS.len hmY sl23, RdS.idx hmY sl23, RdS.cellB hmY (Ext.pres eB), RdS.cells hmY, RdS.len rf sl23, RdS.idx rf sl23, RdS.cellB rf (Ext.pres eB), RdS.cells rf, RdS.len ho1_3 sl88, RdS.idx ho1_3 sl88, RdS.cellB ho1_3 (Ext.pres xr1), RdS.cells ho1_3, wrap_id]
      refine hK _ _ ?_
      clear hK K
      refine den_ret ?_
      simp (disch := decide) only [resP_2, puts_same, puts_ne]
      have e : irC X Y f n = cadd (famC X Y [f]) 2 (!(in3 n 0 ((X.dims.length : Int) - 1))) := cadd_n c1
      have hz : irR X Y f n = (0, cadd (famC X Y [f]) 2 (!(in3 n 0 ((X.dims.length : Int) - 1)))) := by rw [irR, if_neg (by rw [e]; exact c1), e]
      rw [hz]
      exact ⟨by first | rfl | trivial, eB⟩
    · try simp only [decide_eq_true_eq, decide_eq_false_iff_not, beq_iff_eq, beq_eq_false_iff_ne, bne_iff_ne, ne_eq, Bool.not_eq_true', Bool.not_eq_false', Bool.and_eq_true, Bool.or_eq_true, bne_eq_false_iff_eq] at c3
      exact absurd c3 c1
end Go.Proofs.Ytbplnadngahgaaa

namespace Go.Proofs.Ytbplnadngahgaaa
open Go
set_option maxRecDepth 100000 in
set_option maxHeartbeats 4000000 in
theorem exactInducedRank_law (vX vY vf : Value) (X : Cx) (Y : Cx) (f : List (List (List Int))) (n : Int) (h : Heap) (rX : RC h vX X) (rY : RC h vY Y) (rf : R3 h vf f)  : CallA Try.prog 13 #[vX, vY, vf, .int .i64 n] h fun v' h' => v' = .bool (true) ∧ Ext h h' := by
  obtain ⟨vdX, vmX, rfl, hdX, hmX⟩ := rX
  have hledX := RdS.le hdX
  have hlemX := RdS.le hmX
  obtain ⟨vdY, vmY, rfl, hdY, hmY⟩ := rY
  have hledY := RdS.le hdY
  have hlemY := RdS.le hmY
  have hlef := RdS.le rf
  refine callA_intro TTok (args := [_, _, _, _]) Try.func13 (by kernel_rfl) rfl 80 rfl (by simp) [.tmp 8] rfl ?_
  simp only [idxs, Nat.reduceAdd]
  refine den_seq ?_
  refine den_region TTok ?_
  intro K hK
  simp -implicitDefEqProofs (disch := first | decide | assumption | omega) only [go_sem, wrap_id]
  refine op_box (cs := #[.int .i64 (X.p), vdX, vmX]) rfl ?_
  intro h0_0 e0_0 hb0_0 z0_0
  have := Ext.size e0_0
  have eB := e0_0
  have hfhb0_0 : Fresh h.size [h.size] := Fresh.one _
  have hlhb0_0 := one_lt (show h.size < h0_0.size by omega)
  try simp -implicitDefEqProofs (disch := first | decide | assumption | omega) only [go_sem, BoxAt.cell hb0_0, wrap_id]
  refine op_box (cs := #[.int .i64 (Y.p), vdY, vmY]) rfl ?_
  intro h0_1 e0_1 hb0_1 z0_1
  replace hb0_0 := BoxAt.ext hb0_0 e0_1
  have := Ext.size e0_1
  replace eB := Ext.trans eB e0_1
  have hfhb0_1 : Fresh h0_0.size [h0_0.size] := Fresh.one _
  have hlhb0_1 := one_lt (show h0_0.size < h0_1.size by omega)
  try simp -implicitDefEqProofs (disch := first | decide | assumption | omega) only [go_sem, BoxAt.cell hb0_0, BoxAt.cell hb0_1, wrap_id]
  refine hK _ _ ?_
  clear hK K
  refine den_seq ?_
  refine den_region TTok ?_
  intro K hK
  simp -implicitDefEqProofs (disch := first | decide | assumption | omega) only [go_sem, BoxAt.cell hb0_0, BoxAt.cell hb0_1, wrap_id]
  refine hK _ _ ?_
  clear hK K
  refine den_seq ?_
  refine den_region TTok ?_
  intro K hK
  simp -implicitDefEqProofs (disch := first | decide | assumption | omega) only [go_sem, ld25, BoxAt.cell hb0_0, BoxAt.cell hb0_1, wrap_id]
  try simp -implicitDefEqProofs (disch := first | decide | assumption | omega) only [go_sem, BoxAt.cell hb0_0, BoxAt.cell hb0_1, wrap_id]
  refine CallA.mono (szC_ok _ X _ _ ⟨_, _, rfl, (RdS.pres hdX (Ext.pres eB)), (RdS.pres hmX (Ext.pres eB))⟩ (by omega) (by omega)) ?_
  intro v_ h2_2
  rintro ⟨rfl, e2_2⟩
  replace hb0_0 := BoxAt.ext hb0_0 e2_2
  replace hb0_1 := BoxAt.ext hb0_1 e2_2
  have := Ext.size e2_2
  replace eB := Ext.trans eB e2_2
  have := szC_le X (1048576 : Int) (by omega)
  try simp -implicitDefEqProofs (disch := first | decide | assumption | omega) only [go_sem, BoxAt.cell hb0_0, BoxAt.cell hb0_1, wrap_id]
  refine hK _ _ ?_
  clear hK K
  refine den_seq ?_
  refine den_seq ?_
  refine den_region TTok ?_
  intro K hK
  simp -implicitDefEqProofs (disch := first | decide | assumption | omega) only [go_sem, BoxAt.cell hb0_0, BoxAt.cell hb0_1, wrap_id]
  refine hK _ _ ?_
  clear hK K
  refine den_cond rfl (fun c0 => ?_) (fun c0 => ?_)
  · try simp only [decide_eq_true_eq, decide_eq_false_iff_not, beq_iff_eq, beq_eq_false_iff_ne, bne_iff_ne, ne_eq, Bool.not_eq_true', Bool.not_eq_false', Bool.and_eq_true, Bool.or_eq_true, bne_eq_false_iff_eq] at c0
    refine den_seq ?_
    refine den_region TTok ?_
    intro K hK
    simp -implicitDefEqProofs (disch := first | decide | assumption | omega) only [go_sem, wrap_id]
    refine hK _ _ ?_
    clear hK K
    refine den_ret ?_
    simp (disch := decide) only [resP_1, puts_same, puts_ne]
    exact ⟨by first | rfl | trivial, eB⟩
  · try simp only [decide_eq_true_eq, decide_eq_false_iff_not, beq_iff_eq, beq_eq_false_iff_ne, bne_iff_ne, ne_eq, Bool.not_eq_true', Bool.not_eq_false', Bool.and_eq_true, Bool.or_eq_true, bne_eq_false_iff_eq] at c0
    have hMX := szC_ok' (by omega) (by omega) c0
    have hcnX := szC_cntA (by omega) (by omega) c0
    refine den_skip ?_
    refine den_seq ?_
    refine den_region TTok ?_
    intro K hK
    simp -implicitDefEqProofs (disch := first | decide | assumption | omega) only [go_sem, ld25, BoxAt.cell hb0_0, BoxAt.cell hb0_1, wrap_id]
    try simp -implicitDefEqProofs (disch := first | decide | assumption | omega) only [go_sem, BoxAt.cell hb0_0, BoxAt.cell hb0_1, wrap_id]
    refine CallA.mono (szC_ok _ Y _ _ ⟨_, _, rfl, (RdS.pres hdY (Ext.pres eB)), (RdS.pres hmY (Ext.pres eB))⟩ (by omega) (by omega)) ?_
    intro v_ h5_2
    rintro ⟨rfl, e5_2⟩
    replace hb0_0 := BoxAt.ext hb0_0 e5_2
    replace hb0_1 := BoxAt.ext hb0_1 e5_2
    have := Ext.size e5_2
    replace eB := Ext.trans eB e5_2
    have := szC_le Y (szC X (1048576 : Int)) (by omega)
    try simp -implicitDefEqProofs (disch := first | decide | assumption | omega) only [go_sem, BoxAt.cell hb0_0, BoxAt.cell hb0_1, wrap_id]
    refine hK _ _ ?_
    clear hK K
    refine den_seq ?_
    refine den_seq ?_
    refine den_region TTok ?_
    intro K hK
    simp -implicitDefEqProofs (disch := first | decide | assumption | omega) only [go_sem, BoxAt.cell hb0_0, BoxAt.cell hb0_1, wrap_id]
    refine hK _ _ ?_
    clear hK K
    refine den_cond rfl (fun c1 => ?_) (fun c1 => ?_)
    · try simp only [decide_eq_true_eq, decide_eq_false_iff_not, beq_iff_eq, beq_eq_false_iff_ne, bne_iff_ne, ne_eq, Bool.not_eq_true', Bool.not_eq_false', Bool.and_eq_true, Bool.or_eq_true, bne_eq_false_iff_eq] at c1
      refine den_seq ?_
      refine den_region TTok ?_
      intro K hK
      simp -implicitDefEqProofs (disch := first | decide | assumption | omega) only [go_sem, wrap_id]
      refine hK _ _ ?_
      clear hK K
      refine den_ret ?_
      simp (disch := decide) only [resP_1, puts_same, puts_ne]
      exact ⟨by first | rfl | trivial, eB⟩
    · try simp only [decide_eq_true_eq, decide_eq_false_iff_not, beq_iff_eq, beq_eq_false_iff_ne, bne_iff_ne, ne_eq, Bool.not_eq_true', Bool.not_eq_false', Bool.and_eq_true, Bool.or_eq_true, bne_eq_false_iff_eq] at c1
      have hMY := szC_ok' (by omega) (by omega) c1
      have hcnY := szC_cntA (by omega) (by omega) c1
      refine den_skip ?_
      refine den_seq ?_
      refine den_region TTok ?_
      intro K hK
      simp -implicitDefEqProofs (disch := first | decide | assumption | omega) only [go_sem, BoxAt.cell hb0_0, BoxAt.cell hb0_1, wrap_id]
      try simp -implicitDefEqProofs (disch := first | decide | assumption | omega) only [go_sem, BoxAt.cell hb0_0, BoxAt.cell hb0_1, wrap_id]
      refine CallA.pure (szSSS_ok _ f _ _ (RdS.pres rf (Ext.pres eB)) (by omega) (by omega)) ?_
      have := sz3_le f (szC Y (szC X (1048576 : Int))) (by omega)
      try simp -implicitDefEqProofs (disch := first | decide | assumption | omega) only [go_sem, BoxAt.cell hb0_0, BoxAt.cell hb0_1, wrap_id]
      refine hK _ _ ?_
      clear hK K
      refine den_seq ?_
      refine den_seq ?_
      refine den_region TTok ?_
      intro K hK
      simp -implicitDefEqProofs (disch := first | decide | assumption | omega) only [go_sem, BoxAt.cell hb0_0, BoxAt.cell hb0_1, wrap_id]
      refine hK _ _ ?_
      clear hK K
      refine den_cond rfl (fun c2 => ?_) (fun c2 => ?_)
      · try simp only [decide_eq_true_eq, decide_eq_false_iff_not, beq_iff_eq, beq_eq_false_iff_ne, bne_iff_ne, ne_eq, Bool.not_eq_true', Bool.not_eq_false', Bool.and_eq_true, Bool.or_eq_true, bne_eq_false_iff_eq] at c2
        refine den_seq ?_
        refine den_region TTok ?_
        intro K hK
        simp -implicitDefEqProofs (disch := first | decide | assumption | omega) only [go_sem, wrap_id]
        refine hK _ _ ?_
        clear hK K
        refine den_ret ?_
        simp (disch := decide) only [resP_1, puts_same, puts_ne]
        exact ⟨by first | rfl | trivial, eB⟩
      · try simp only [decide_eq_true_eq, decide_eq_false_iff_not, beq_iff_eq, beq_eq_false_iff_ne, bne_iff_ne, ne_eq, Bool.not_eq_true', Bool.not_eq_false', Bool.and_eq_true, Bool.or_eq_true, bne_eq_false_iff_eq] at c2
        have hMf := sz3_ok (by omega) (by omega) c2
        have hcnf := sz3_cntA (by omega) (by omega) c2
        refine den_skip ?_
        refine den_seq ?_
        refine den_draw TTok mixed [] [(0, true), (2, true), (4, true), (6, true), (1, false), (3, false), (5, false), (7, false), (8, true), (9, true), (10, true), (11, true), (12, true)] (by kernel_rfl) ?_
        intro K hK
        simp -implicitDefEqProofs (disch := first | decide | assumption | omega) only [go_sem, ld25, BoxAt.cell hb0_0, BoxAt.cell hb0_1, wrap_id]
        try simp -implicitDefEqProofs (disch := first | decide | assumption | omega) only [go_sem, BoxAt.cell hb0_0, BoxAt.cell hb0_1, wrap_id]
        refine CallA.mono (toC_ok _ X _ ⟨_, _, rfl, (RdS.pres hdX (Ext.pres eB)), (RdS.pres hmX (Ext.pres eB))⟩ hMX) ?_
        intro v_ h11_1
        rintro ⟨vd11_1, vm11_1, fd11_1, fm11_1, rfl, hod11_1, hom11_1, hf11_1, e11_1⟩
        replace hb0_0 := BoxAt.ext hb0_0 e11_1
        replace hb0_1 := BoxAt.ext hb0_1 e11_1
        have := Ext.size e11_1
        replace eB := Ext.trans eB e11_1
        have hfd11_1 := hf11_1.left
        have hfm11_1 := hf11_1.right
        have hlhod11_1 := OS.lt hod11_1
        have hlhom11_1 := OS.lt hom11_1
        have ap1 : Apart fd11_1 fm11_1 := apart_nodup hf11_1
        try simp (disch := decide) only [outv_some, outv_none, put_puts]
        refine plK_pres (Ext.pres e11_1) ?_
        try simp -implicitDefEqProofs (disch := first | decide | assumption | omega) only [go_sem, BoxAt.cell hb0_0, BoxAt.cell hb0_1, wrap_id]
        try simp -implicitDefEqProofs (disch := first | decide | assumption | omega) only [go_sem, BoxAt.cell hb0_0, BoxAt.cell hb0_1, wrap_id]
        refine CallA.mono (toC_ok _ Y _ ⟨_, _, rfl, (RdS.pres hdY (Ext.pres eB)), (RdS.pres hmY (Ext.pres eB))⟩ hMY) ?_
        intro v_ h11_3
        rintro ⟨vd11_3, vm11_3, fd11_3, fm11_3, rfl, hod11_3, hom11_3, hf11_3, e11_3⟩
        replace hod11_1 := OS.ext hod11_1 e11_3
        replace hom11_1 := OS.ext hom11_1 e11_3
        replace hb0_0 := BoxAt.ext hb0_0 e11_3
        replace hb0_1 := BoxAt.ext hb0_1 e11_3
        have := Ext.size e11_3
        replace eB := Ext.trans eB e11_3
        have hfd11_3 := hf11_3.left
        have hfm11_3 := hf11_3.right
        have hlhod11_3 := OS.lt hod11_3
        have hlhom11_3 := OS.lt hom11_3
        have ap2 : Apart fd11_3 fm11_3 := apart_nodup hf11_3
        try simp (disch := decide) only [outv_some, outv_none, put_puts]
        refine plK_pres (Ext.pres e11_3) ?_
        try simp -implicitDefEqProofs (disch := first | decide | assumption | omega) only [go_sem, BoxAt.cell hb0_0, BoxAt.cell hb0_1, wrap_id]
        try simp -implicitDefEqProofs (disch := first | decide | assumption | omega) only [go_sem, BoxAt.cell hb0_0, BoxAt.cell hb0_1, wrap_id]
        refine CallA.mono (toSSS_ok _ f _ (RdS.pres rf (Ext.pres eB)) hMf) ?_
        intro v11_5 h11_5
        rintro ⟨f11_5, ho11_5, hf11_5, e11_5⟩
        replace hod11_1 := OS.ext hod11_1 e11_5
        replace hom11_1 := OS.ext hom11_1 e11_5
        replace hod11_3 := OS.ext hod11_3 e11_5
        replace hom11_3 := OS.ext hom11_3 e11_5
        replace hb0_0 := BoxAt.ext hb0_0 e11_5
        replace hb0_1 := BoxAt.ext hb0_1 e11_5
        have := Ext.size e11_5
        replace eB := Ext.trans eB e11_5
        have hlho11_5 := OS.lt ho11_5
        try simp (disch := decide) only [outv_some, outv_none, put_puts]
        refine plK_pres (Ext.pres e11_5) ?_
        try simp -implicitDefEqProofs (disch := first | decide | assumption | omega) only [go_sem, BoxAt.cell hb0_0, BoxAt.cell hb0_1, wrap_id]
        try simp -implicitDefEqProofs (disch := first | decide | assumption | omega) only [go_sem, BoxAt.cell hb0_0, BoxAt.cell hb0_1, wrap_id]
        refine CallA.mono (sIR_ok _ _ _ X Y f n _ ⟨_, _, rfl, (OS.rd hod11_1), (OS.rd hom11_1)⟩ ⟨_, _, rfl, (OS.rd hod11_3), (OS.rd hom11_3)⟩ (OS.rd ho11_5) ) ?_
        intro v_ h11_7
        rintro ⟨rfl, e11_7⟩
        replace hod11_1 := OS.ext hod11_1 e11_7
        replace hom11_1 := OS.ext hom11_1 e11_7
        replace hod11_3 := OS.ext hod11_3 e11_7
        replace hom11_3 := OS.ext hom11_3 e11_7
        replace ho11_5 := OS.ext ho11_5 e11_7
        replace hb0_0 := BoxAt.ext hb0_0 e11_7
        replace hb0_1 := BoxAt.ext hb0_1 e11_7
        have := Ext.size e11_7
        replace eB := Ext.trans eB e11_7
        try simp (disch := decide) only [outv_some, outv_none, put_puts]
        refine plK_pres (Ext.pres e11_7) ?_
        try simp -implicitDefEqProofs (disch := first | decide | assumption | omega) only [go_sem, BoxAt.cell hb0_0, BoxAt.cell hb0_1, wrap_id]
        refine hK _ _ ?_
        clear hK K
        refine den_seq ?_
        refine den_region TTok ?_
        intro K hK
        simp -implicitDefEqProofs (disch := first | decide | assumption | omega) only [go_sem, ld25, BoxAt.cell hb0_0, BoxAt.cell hb0_1, wrap_id]
        try simp -implicitDefEqProofs (disch := first | decide | assumption | omega) only [go_sem, BoxAt.cell hb0_0, BoxAt.cell hb0_1, wrap_id]
        refine CallA.mono (toC_ok _ X _ ⟨_, _, rfl, (RdS.pres hdX (Ext.pres eB)), (RdS.pres hmX (Ext.pres eB))⟩ hMX) ?_
        intro v_ h12_1
        rintro ⟨vd12_1, vm12_1, fd12_1, fm12_1, rfl, hod12_1, hom12_1, hf12_1, e12_1⟩
        replace hb0_0 := BoxAt.ext hb0_0 e12_1
        replace hb0_1 := BoxAt.ext hb0_1 e12_1
        have := Ext.size e12_1
        replace eB := Ext.trans eB e12_1
        have hfd12_1 := hf12_1.left
        have hfm12_1 := hf12_1.right
        have hlhod12_1 := OS.lt hod12_1
        have hlhom12_1 := OS.lt hom12_1
        have ap3 : Apart fd12_1 fm12_1 := apart_nodup hf12_1
        try simp -implicitDefEqProofs (disch := first | decide | assumption | omega) only [go_sem, BoxAt.cell hb0_0, BoxAt.cell hb0_1, wrap_id]
        refine op_alloc (cs := #[.int .i64 0, .slice none 0 0, .slice none 0 0]) (by kernel_rfl) ?_
        intro h12_2 e12_2 hb12_2 z12_2
        replace hod12_1 := OS.ext hod12_1 e12_2
        replace hom12_1 := OS.ext hom12_1 e12_2
        replace hb0_0 := BoxAt.ext hb0_0 e12_2
        replace hb0_1 := BoxAt.ext hb0_1 e12_2
        have := Ext.size e12_2
        replace eB := Ext.trans eB e12_2
        have hfhb12_2 : Fresh h12_1.size [h12_1.size] := Fresh.one _
        have hlhb12_2 := one_lt (show h12_1.size < h12_2.size by omega)
        try simp -implicitDefEqProofs (disch := first | decide | assumption | omega) only [go_sem, BoxAt.cell hb0_0, BoxAt.cell hb0_1, BoxAt.cell hb12_2, wrap_id]
        refine op_storeB (cs' := #[.int .i64 (X.p), vd12_1, vm12_1]) st30 hb12_2 rfl rfl rfl (by simp) (allOne_mem (l := [.int .i64 (X.p), vd12_1, vm12_1]) ⟨rfl, (OS.one hod12_1).1, (OS.one hom12_1).1, trivial⟩) rfl ?_
        intro h12_3 hb12_2 c12_3
        replace hod12_1 := OS.chg hod12_1 c12_3 (apart_lt hlhod12_1 hfhb12_2 (by omega))
        replace hom12_1 := OS.chg hom12_1 c12_3 (apart_lt hlhom12_1 hfhb12_2 (by omega))
        replace hb0_0 := BoxAt.chgA hb0_0 c12_3 (apart_lt hlhb0_0 hfhb12_2 (by omega))
        replace hb0_1 := BoxAt.chgA hb0_1 c12_3 (apart_lt hlhb0_1 hfhb12_2 (by omega))
        have := c12_3.size
        replace eB := Ext.then eB c12_3 (ge_of hfhb12_2 (by omega))
        try simp -implicitDefEqProofs (disch := first | decide | assumption | omega) only [go_sem, BoxAt.cell hb0_0, BoxAt.cell hb0_1, BoxAt.cell hb12_2, wrap_id]
        refine hK _ _ ?_
        clear hK K
        refine den_seq ?_
        refine den_region TTok ?_
        intro K hK
        simp -implicitDefEqProofs (disch := first | decide | assumption | omega) only [go_sem, ld25, BoxAt.cell hb0_0, BoxAt.cell hb0_1, BoxAt.cell hb12_2, wrap_id]
        try simp -implicitDefEqProofs (disch := first | decide | assumption | omega) only [go_sem, BoxAt.cell hb0_0, BoxAt.cell hb0_1, BoxAt.cell hb12_2, wrap_id]
        refine CallA.mono (toC_ok _ Y _ ⟨_, _, rfl, (RdS.pres hdY (Ext.pres eB)), (RdS.pres hmY (Ext.pres eB))⟩ hMY) ?_
        intro v_ h13_1
        rintro ⟨vd13_1, vm13_1, fd13_1, fm13_1, rfl, hod13_1, hom13_1, hf13_1, e13_1⟩
        replace hod12_1 := OS.ext hod12_1 e13_1
        replace hom12_1 := OS.ext hom12_1 e13_1
        replace hb0_0 := BoxAt.ext hb0_0 e13_1
        replace hb0_1 := BoxAt.ext hb0_1 e13_1
        replace hb12_2 := BoxAt.ext hb12_2 e13_1
        have := Ext.size e13_1
        replace eB := Ext.trans eB e13_1
        have hfd13_1 := hf13_1.left
        have hfm13_1 := hf13_1.right
        have hlhod13_1 := OS.lt hod13_1
        have hlhom13_1 := OS.lt hom13_1
        have ap4 : Apart fd13_1 fm13_1 := apart_nodup hf13_1
        try simp -implicitDefEqProofs (disch := first | decide | assumption | omega) only [go_sem, BoxAt.cell hb0_0, BoxAt.cell hb0_1, BoxAt.cell hb12_2, wrap_id]
        refine op_alloc (cs := #[.int .i64 0, .slice none 0 0, .slice none 0 0]) (by kernel_rfl) ?_
        intro h13_2 e13_2 hb13_2 z13_2
        replace hod12_1 := OS.ext hod12_1 e13_2
        replace hom12_1 := OS.ext hom12_1 e13_2
        replace hod13_1 := OS.ext hod13_1 e13_2
        replace hom13_1 := OS.ext hom13_1 e13_2
        replace hb0_0 := BoxAt.ext hb0_0 e13_2
        replace hb0_1 := BoxAt.ext hb0_1 e13_2
        replace hb12_2 := BoxAt.ext hb12_2 e13_2
        have := Ext.size e13_2
        replace eB := Ext.trans eB e13_2
        have hfhb13_2 : Fresh h13_1.size [h13_1.size] := Fresh.one _
        have hlhb13_2 := one_lt (show h13_1.size < h13_2.size by omega)
        try simp -implicitDefEqProofs (disch := first | decide | assumption | omega) only [go_sem, BoxAt.cell hb0_0, BoxAt.cell hb0_1, BoxAt.cell hb12_2, BoxAt.cell hb13_2, wrap_id]
        refine op_storeB (cs' := #[.int .i64 (Y.p), vd13_1, vm13_1]) st30 hb13_2 rfl rfl rfl (by simp) (allOne_mem (l := [.int .i64 (Y.p), vd13_1, vm13_1]) ⟨rfl, (OS.one hod13_1).1, (OS.one hom13_1).1, trivial⟩) rfl ?_
        intro h13_3 hb13_2 c13_3
        replace hod12_1 := OS.chg hod12_1 c13_3 (apart_lt hlhod12_1 hfhb13_2 (by omega))
        replace hom12_1 := OS.chg hom12_1 c13_3 (apart_lt hlhom12_1 hfhb13_2 (by omega))
        replace hod13_1 := OS.chg hod13_1 c13_3 (apart_lt hlhod13_1 hfhb13_2 (by omega))
        replace hom13_1 := OS.chg hom13_1 c13_3 (apart_lt hlhom13_1 hfhb13_2 (by omega))
        replace hb0_0 := BoxAt.chgA hb0_0 c13_3 (apart_lt hlhb0_0 hfhb13_2 (by omega))
        replace hb0_1 := BoxAt.chgA hb0_1 c13_3 (apart_lt hlhb0_1 hfhb13_2 (by omega))
        replace hb12_2 := BoxAt.chgA hb12_2 c13_3 (apart_lt hlhb12_2 hfhb13_2 (by omega))
        have := c13_3.size
        replace eB := Ext.then eB c13_3 (ge_of hfhb13_2 (by omega))
        try simp -implicitDefEqProofs (disch := first | decide | assumption | omega) only [go_sem, BoxAt.cell hb0_0, BoxAt.cell hb0_1, BoxAt.cell hb12_2, BoxAt.cell hb13_2, wrap_id]
        refine hK _ _ ?_
        clear hK K
        refine den_seq ?_
        refine den_region TTok ?_
        intro K hK
        simp -implicitDefEqProofs (disch := first | decide | assumption | omega) only [go_sem, BoxAt.cell hb0_0, BoxAt.cell hb0_1, BoxAt.cell hb12_2, BoxAt.cell hb13_2, wrap_id]
        try simp -implicitDefEqProofs (disch := first | decide | assumption | omega) only [go_sem, BoxAt.cell hb0_0, BoxAt.cell hb0_1, BoxAt.cell hb12_2, BoxAt.cell hb13_2, wrap_id]
        refine CallA.mono (toSSS_ok _ f _ (RdS.pres rf (Ext.pres eB)) hMf) ?_
        intro v14_1 h14_1
        rintro ⟨f14_1, ho14_1, hf14_1, e14_1⟩
        replace hod12_1 := OS.ext hod12_1 e14_1
        replace hom12_1 := OS.ext hom12_1 e14_1
        replace hod13_1 := OS.ext hod13_1 e14_1
        replace hom13_1 := OS.ext hom13_1 e14_1
        replace hb0_0 := BoxAt.ext hb0_0 e14_1
        replace hb0_1 := BoxAt.ext hb0_1 e14_1
        replace hb12_2 := BoxAt.ext hb12_2 e14_1
        replace hb13_2 := BoxAt.ext hb13_2 e14_1
        have := Ext.size e14_1
        replace eB := Ext.trans eB e14_1
        have hlho14_1 := OS.lt ho14_1
        try simp -implicitDefEqProofs (disch := first | decide | assumption | omega) only [go_sem, BoxAt.cell hb0_0, BoxAt.cell hb0_1, BoxAt.cell hb12_2, BoxAt.cell hb13_2, wrap_id]
        refine hK _ _ ?_
        clear hK K
        refine den_seq ?_
        refine den_region TTok ?_
        intro K hK
        simp -implicitDefEqProofs (disch := first | decide | assumption | omega) only [go_sem, ld30, BoxAt.cell hb0_0, BoxAt.cell hb0_1, BoxAt.cell hb12_2, BoxAt.cell hb13_2, wrap_id]
        try simp -implicitDefEqProofs (disch := first | decide | assumption | omega) only [go_sem, BoxAt.cell hb0_0, BoxAt.cell hb0_1, BoxAt.cell hb12_2, BoxAt.cell hb13_2, wrap_id]
        refine CallA.mono (iIR_ok _ _ _ X Y f n _ ⟨_, _, rfl, (OS.rd hod12_1), (OS.rd hom12_1)⟩ ⟨_, _, rfl, (OS.rd hod13_1), (OS.rd hom13_1)⟩ (OS.rd ho14_1) ) ?_
        intro v_ h15_4
        rintro ⟨rfl, e15_4⟩
        replace hod12_1 := OS.ext hod12_1 e15_4
        replace hom12_1 := OS.ext hom12_1 e15_4
        replace hod13_1 := OS.ext hod13_1 e15_4
        replace hom13_1 := OS.ext hom13_1 e15_4
        replace ho14_1 := OS.ext ho14_1 e15_4
        replace hb0_0 := BoxAt.ext hb0_0 e15_4
        replace hb0_1 := BoxAt.ext hb0_1 e15_4
        replace hb12_2 := BoxAt.ext hb12_2 e15_4
        replace hb13_2 := BoxAt.ext hb13_2 e15_4
        have := Ext.size e15_4
        replace eB := Ext.trans eB e15_4
        try simp -implicitDefEqProofs (disch := first | decide | assumption | omega) only [go_sem, BoxAt.cell hb0_0, BoxAt.cell hb0_1, BoxAt.cell hb12_2, BoxAt.cell hb13_2, wrap_id]
        refine hK _ _ ?_
        clear hK K
        refine den_seq ?_
        refine den_seq ?_
        refine den_mergeH [(64, .bool (((((irR X Y f n).1) != ((irR X Y f n).1)) || (((irR X Y f n).2) != ((irR X Y f n).2)))))] [2, 4, 5, 12, 13, 14] ?_ ?_
          -- a way
        · refine den_region TTok ?_
          intro K hK
          simp -implicitDefEqProofs (disch := first | decide | assumption | (simp (disch := decide) only [slotOf_zero, slotOf_succ, Option.map_some, puts_same, puts_ne, gv_bool, gv_undef, tt, tf, ft, ff, eq_self, if_true, if_false, Bool.false_eq_true, Bool.not_true, Bool.not_false]; done) | omega) only [go_sem, BoxAt.cell hb0_0, BoxAt.cell hb0_1, BoxAt.cell hb12_2, BoxAt.cell hb13_2, wrap_id]
          refine opsP_F (by simp (disch := decide) only [slotOf_zero, slotOf_succ, Option.map_some, puts_same, puts_ne, gv_bool, gv_undef, tt, tf, ft, ff, eq_self, if_true, if_false, Bool.false_eq_true, Bool.not_true, Bool.not_false]; rfl) (fun g5 => ?_) (fun g5 => ?_)
          · try simp -implicitDefEqProofs (disch := first | decide | assumption | (simp (disch := decide) only [slotOf_zero, slotOf_succ, Option.map_some, puts_same, puts_ne, gv_bool, gv_undef, tt, tf, ft, ff, eq_self, if_true, if_false, Bool.false_eq_true, Bool.not_true, Bool.not_false, g5]; done) | omega) only [go_sem, BoxAt.cell hb0_0, BoxAt.cell hb0_1, BoxAt.cell hb12_2, BoxAt.cell hb13_2, wrap_id, g5, eq_self, if_true, if_false, Bool.false_eq_true]
            refine hK _ _ ?_
            clear hK K
            refine den_stop ?_
            refine ⟨?_, rfl⟩
            first | (simp (disch := decide) only [go_sem, g5, eq_self, Bool.true_and, Bool.and_true, Bool.false_and, Bool.and_false, Bool.true_or, Bool.or_true, Bool.false_or, Bool.or_false, if_true, if_false, Bool.false_eq_true]; done) | simp [HasL, sel, puts_at, g5]
          · try simp -implicitDefEqProofs (disch := first | decide | assumption | (simp (disch := decide) only [slotOf_zero, slotOf_succ, Option.map_some, puts_same, puts_ne, gv_bool, gv_undef, tt, tf, ft, ff, eq_self, if_true, if_false, Bool.false_eq_true, Bool.not_true, Bool.not_false, g5]; done) | omega) only [go_sem, BoxAt.cell hb0_0, BoxAt.cell hb0_1, BoxAt.cell hb12_2, BoxAt.cell hb13_2, wrap_id, g5, eq_self, if_true, if_false, Bool.false_eq_true]
            refine hK _ _ ?_
            clear hK K
            refine den_stop ?_
            refine ⟨?_, rfl⟩
            first | (simp (disch := decide) only [go_sem, g5, eq_self, Bool.true_and, Bool.and_true, Bool.false_and, Bool.and_false, Bool.true_or, Bool.or_true, Bool.false_or, Bool.or_false, if_true, if_false, Bool.false_eq_true]; done) | simp [HasL, sel, puts_at, g5]
        intro en6
        simp (disch := decide) only [go_sem]
        refine den_cond rfl (fun c3 => ?_) (fun c3 => ?_)
        · try simp only [decide_eq_true_eq, decide_eq_false_iff_not, beq_iff_eq, beq_eq_false_iff_ne, bne_iff_ne, ne_eq, Bool.not_eq_true', Bool.not_eq_false', Bool.and_eq_true, Bool.or_eq_true, bne_eq_false_iff_eq] at c3
          refine den_seq ?_
          refine den_region TTok ?_
          intro K hK
          simp -implicitDefEqProofs (disch := first | decide | assumption | omega) only [go_sem, wrap_id]
          refine hK _ _ ?_
          clear hK K
          refine den_ret ?_
          simp (disch := decide) only [resP_1, puts_same, puts_ne]
          exact absurd c3 (by first | (simp; done) | (simp; omega) | omega | (simp [eqC_self]; done))
        · try simp only [decide_eq_true_eq, decide_eq_false_iff_not, beq_iff_eq, beq_eq_false_iff_ne, bne_iff_ne, ne_eq, Bool.not_eq_true', Bool.not_eq_false', Bool.and_eq_true, Bool.or_eq_true, bne_eq_false_iff_eq] at c3
          refine den_skip ?_
          refine den_seq ?_
          refine den_seq ?_
          refine den_draw TTok mixed [] [(0, true), (1, true), (2, false), (3, false), (4, true)] (by kernel_rfl) ?_
          intro K hK
          simp -implicitDefEqProofs (disch := first | decide | assumption | omega) only [go_sem, ld30, ld25, BoxAt.cell hb0_0, BoxAt.cell hb0_1, BoxAt.cell hb12_2, BoxAt.cell hb13_2, wrap_id]
          try simp -implicitDefEqProofs (disch := first | decide | assumption | omega) only [go_sem, BoxAt.cell hb0_0, BoxAt.cell hb0_1, BoxAt.cell hb12_2, BoxAt.cell hb13_2, wrap_id]
          refine CallA.mono (toC_ok _ X _ ⟨_, _, rfl, (RdS.pres hdX (Ext.pres eB)), (RdS.pres hmX (Ext.pres eB))⟩ hMX) ?_
          intro v_ h18_2
          rintro ⟨vd18_2, vm18_2, fd18_2, fm18_2, rfl, hod18_2, hom18_2, hf18_2, e18_2⟩
          replace hod12_1 := OS.ext hod12_1 e18_2
          replace hom12_1 := OS.ext hom12_1 e18_2
          replace hod13_1 := OS.ext hod13_1 e18_2
          replace hom13_1 := OS.ext hom13_1 e18_2
          replace ho14_1 := OS.ext ho14_1 e18_2
          replace hb0_0 := BoxAt.ext hb0_0 e18_2
          replace hb0_1 := BoxAt.ext hb0_1 e18_2
          replace hb12_2 := BoxAt.ext hb12_2 e18_2
          replace hb13_2 := BoxAt.ext hb13_2 e18_2
          have := Ext.size e18_2
          replace eB := Ext.trans eB e18_2
          have hfd18_2 := hf18_2.left
          have hfm18_2 := hf18_2.right
          have hlhod18_2 := OS.lt hod18_2
          have hlhom18_2 := OS.lt hom18_2
          have ap9 : Apart fd18_2 fm18_2 := apart_nodup hf18_2
          try simp (disch := decide) only [outv_some, outv_none, put_puts]
          refine plK_pres (Ext.pres e18_2) ?_
          try simp -implicitDefEqProofs (disch := first | decide | assumption | omega) only [go_sem, BoxAt.cell hb0_0, BoxAt.cell hb0_1, BoxAt.cell hb12_2, BoxAt.cell hb13_2, wrap_id]
          try simp -implicitDefEqProofs (disch := first | decide | assumption | omega) only [go_sem, BoxAt.cell hb0_0, BoxAt.cell hb0_1, BoxAt.cell hb12_2, BoxAt.cell hb13_2, wrap_id]
          refine CallA.mono (eqC_same _ _ X _ ⟨_, _, rfl, (OS.rd hod12_1), (OS.rd hom12_1)⟩ ⟨_, _, rfl, (OS.rd hod18_2), (OS.rd hom18_2)⟩) ?_
          intro v_ h18_3
          rintro ⟨rfl, e18_3⟩
          replace hod12_1 := OS.ext hod12_1 e18_3
          replace hom12_1 := OS.ext hom12_1 e18_3
          replace hod13_1 := OS.ext hod13_1 e18_3
          replace hom13_1 := OS.ext hom13_1 e18_3
          replace ho14_1 := OS.ext ho14_1 e18_3
          replace hod18_2 := OS.ext hod18_2 e18_3
          replace hom18_2 := OS.ext hom18_2 e18_3
          replace hb0_0 := BoxAt.ext hb0_0 e18_3
          replace hb0_1 := BoxAt.ext hb0_1 e18_3
          replace hb12_2 := BoxAt.ext hb12_2 e18_3
          replace hb13_2 := BoxAt.ext hb13_2 e18_3
          have := Ext.size e18_3
          replace eB := Ext.trans eB e18_3
          try simp (disch := decide) only [outv_some, outv_none, put_puts]
          refine plK_pres (Ext.pres e18_3) ?_
          try simp -implicitDefEqProofs (disch := first | decide | assumption | omega) only [go_sem, BoxAt.cell hb0_0, BoxAt.cell hb0_1, BoxAt.cell hb12_2, BoxAt.cell hb13_2, wrap_id]
          refine hK _ _ ?_
          clear hK K
          refine den_cond rfl (fun c4 => ?_) (fun c4 => ?_)
          · try simp only [decide_eq_true_eq, decide_eq_false_iff_not, beq_iff_eq, beq_eq_false_iff_ne, bne_iff_ne, ne_eq, Bool.not_eq_true', Bool.not_eq_false', Bool.and_eq_true, Bool.or_eq_true, bne_eq_false_iff_eq] at c4
            refine den_seq ?_
            refine den_region TTok ?_
            intro K hK
            simp -implicitDefEqProofs (disch := first | decide | assumption | omega) only [go_sem, wrap_id]
            refine hK _ _ ?_
            clear hK K
            refine den_ret ?_
            simp (disch := decide) only [resP_1, puts_same, puts_ne]
            exact absurd c4 (by first | (simp; done) | (simp; omega) | omega | (simp [eqC_self]; done))
          · try simp only [decide_eq_true_eq, decide_eq_false_iff_not, beq_iff_eq, beq_eq_false_iff_ne, bne_iff_ne, ne_eq, Bool.not_eq_true', Bool.not_eq_false', Bool.and_eq_true, Bool.or_eq_true, bne_eq_false_iff_eq] at c4
            refine den_skip ?_
            refine den_seq ?_
            refine den_seq ?_
            refine den_draw TTok mixed [] [(0, true), (1, true), (2, false), (3, false), (4, true)] (by kernel_rfl) ?_
            intro K hK
            simp -implicitDefEqProofs (disch := first | decide | assumption | omega) only [go_sem, ld30, ld25, BoxAt.cell hb0_1, BoxAt.cell hb13_2, wrap_id]
            try simp -implicitDefEqProofs (disch := first | decide | assumption | omega) only [go_sem, BoxAt.cell hb0_1, BoxAt.cell hb13_2, wrap_id]
            refine CallA.mono (toC_ok _ Y _ ⟨_, _, rfl, (RdS.pres hdY (Ext.pres eB)), (RdS.pres hmY (Ext.pres eB))⟩ hMY) ?_
            intro v_ h20_2
            rintro ⟨vd20_2, vm20_2, fd20_2, fm20_2, rfl, hod20_2, hom20_2, hf20_2, e20_2⟩
            replace hod13_1 := OS.ext hod13_1 e20_2
            replace hom13_1 := OS.ext hom13_1 e20_2
            replace ho14_1 := OS.ext ho14_1 e20_2
            replace hb0_1 := BoxAt.ext hb0_1 e20_2
            replace hb13_2 := BoxAt.ext hb13_2 e20_2
            have := Ext.size e20_2
            replace eB := Ext.trans eB e20_2
            have hfd20_2 := hf20_2.left
            have hfm20_2 := hf20_2.right
            have hlhod20_2 := OS.lt hod20_2
            have hlhom20_2 := OS.lt hom20_2
            have ap10 : Apart fd20_2 fm20_2 := apart_nodup hf20_2
            try simp (disch := decide) only [outv_some, outv_none, put_puts]
            refine plK_pres (Ext.pres e20_2) ?_
            try simp -implicitDefEqProofs (disch := first | decide | assumption | omega) only [go_sem, BoxAt.cell hb0_1, BoxAt.cell hb13_2, wrap_id]
            try simp -implicitDefEqProofs (disch := first | decide | assumption | omega) only [go_sem, BoxAt.cell hb0_1, BoxAt.cell hb13_2, wrap_id]
            refine CallA.mono (eqC_same _ _ Y _ ⟨_, _, rfl, (OS.rd hod13_1), (OS.rd hom13_1)⟩ ⟨_, _, rfl, (OS.rd hod20_2), (OS.rd hom20_2)⟩) ?_
            intro v_ h20_3
            rintro ⟨rfl, e20_3⟩
            replace hod13_1 := OS.ext hod13_1 e20_3
            replace hom13_1 := OS.ext hom13_1 e20_3
            replace ho14_1 := OS.ext ho14_1 e20_3
            replace hod20_2 := OS.ext hod20_2 e20_3
            replace hom20_2 := OS.ext hom20_2 e20_3
            replace hb0_1 := BoxAt.ext hb0_1 e20_3
            replace hb13_2 := BoxAt.ext hb13_2 e20_3
            have := Ext.size e20_3
            replace eB := Ext.trans eB e20_3
            try simp (disch := decide) only [outv_some, outv_none, put_puts]
            refine plK_pres (Ext.pres e20_3) ?_
            try simp -implicitDefEqProofs (disch := first | decide | assumption | omega) only [go_sem, BoxAt.cell hb0_1, BoxAt.cell hb13_2, wrap_id]
            refine hK _ _ ?_
            clear hK K
            refine den_cond rfl (fun c5 => ?_) (fun c5 => ?_)
            · try simp only [decide_eq_true_eq, decide_eq_false_iff_not, beq_iff_eq, beq_eq_false_iff_ne, bne_iff_ne, ne_eq, Bool.not_eq_true', Bool.not_eq_false', Bool.and_eq_true, Bool.or_eq_true, bne_eq_false_iff_eq] at c5
              refine den_seq ?_
              refine den_region TTok ?_
              intro K hK
              simp -implicitDefEqProofs (disch := first | decide | assumption | omega) only [go_sem, wrap_id]
              refine hK _ _ ?_
              clear hK K
              refine den_ret ?_
              simp (disch := decide) only [resP_1, puts_same, puts_ne]
              exact absurd c5 (by first | (simp; done) | (simp; omega) | omega | (simp [eqC_self]; done))
            · try simp only [decide_eq_true_eq, decide_eq_false_iff_not, beq_iff_eq, beq_eq_false_iff_ne, bne_iff_ne, ne_eq, Bool.not_eq_true', Bool.not_eq_false', Bool.and_eq_true, Bool.or_eq_true, bne_eq_false_iff_eq] at c5
              refine den_skip ?_
              refine den_seq ?_
              refine den_seq ?_
              refine den_region TTok ?_
              intro K hK
              simp -implicitDefEqProofs (disch := first | decide | assumption | omega) only [go_sem, wrap_id]
              try simp -implicitDefEqProofs (disch := first | decide | assumption | omega) only [go_sem, wrap_id]
              refine CallA.mono (toSSS_ok _ f _ (RdS.pres rf (Ext.pres eB)) hMf) ?_
              intro v22_2 h22_2
              rintro ⟨f22_2, ho22_2, hf22_2, e22_2⟩
              replace ho14_1 := OS.ext ho14_1 e22_2
              have := Ext.size e22_2
              replace eB := Ext.trans eB e22_2
              have hlho22_2 := OS.lt ho22_2
              try simp -implicitDefEqProofs (disch := first | decide | assumption | omega) only [go_sem, wrap_id]
              try simp -implicitDefEqProofs (disch := first | decide | assumption | omega) only [go_sem, wrap_id]
              refine CallA.pure (eqSSS_same _ _ _ _ (OS.rd ho14_1) (OS.rd ho22_2)) ?_
              try simp -implicitDefEqProofs (disch := first | decide | assumption | omega) only [go_sem, wrap_id]
              refine hK _ _ ?_
              clear hK K
              refine den_cond rfl (fun c6 => ?_) (fun c6 => ?_)
              · try simp only [decide_eq_true_eq, decide_eq_false_iff_not, beq_iff_eq, beq_eq_false_iff_ne, bne_iff_ne, ne_eq, Bool.not_eq_true', Bool.not_eq_false', Bool.and_eq_true, Bool.or_eq_true, bne_eq_false_iff_eq] at c6
                refine den_seq ?_
                refine den_region TTok ?_
                intro K hK
                simp -implicitDefEqProofs (disch := first | decide | assumption | omega) only [go_sem, wrap_id]
                refine hK _ _ ?_
                clear hK K
                refine den_ret ?_
                simp (disch := decide) only [resP_1, puts_same, puts_ne]
                exact absurd c6 (by first | (simp; done) | (simp; omega) | omega | (simp [eqC_self]; done))
              · try simp only [decide_eq_true_eq, decide_eq_false_iff_not, beq_iff_eq, beq_eq_false_iff_ne, bne_iff_ne, ne_eq, Bool.not_eq_true', Bool.not_eq_false', Bool.and_eq_true, Bool.or_eq_true, bne_eq_false_iff_eq] at c6
                refine den_skip ?_
                refine den_seq ?_
                refine den_region TTok ?_
                intro K hK
                simp -implicitDefEqProofs (disch := first | decide | assumption | omega) only [go_sem, wrap_id]
                refine hK _ _ ?_
                clear hK K
                refine den_ret ?_
                simp (disch := decide) only [resP_1, puts_same, puts_ne]
                exact ⟨by first | rfl | trivial, eB⟩
end Go.Proofs.Ytbplnadngahgaaa
