/-
  What the statement FnExactProductFamily uses of the walks, part 5.
  Conditions: each theorem's own.
-/
import Derived.Test.YtjjjgllbocgkbaaG16
import Derived.Test.YtjjjgllbocgkbaaG17
import Derived.Test.YtjjjgllbocgkbaaG14
import Derived.Test.YtjjjgllbocgkbaaG13
import Derived.Test.YtjjjgllbocgkbaaG15
import Derived.Test.YtjjjgllbocgkbaaG18
import Derived.Test.YtjjjgllbocgkbaaG21
import Derived.Test.YtjjjgllbocgkbaaZProductFamily1
import Derived.Test.YtjjjgllbocgkbaaZProductFamily2
import Derived.Test.YtjjjgllbocgkbaaZProductFamily3
import Derived.Test.YtjjjgllbocgkbaaZProductFamily4
set_option linter.unusedVariables false
set_option linter.unusedSimpArgs false
namespace Go.Proofs.Ytjjjgllbocgkbaa
open Go
theorem pri_ok {X U Y V : Cx} {f g : M3} (h : cadd (sameP [X, U, Y, V]) 2 (prB X U f Y V g (famP X U f 0) (famP Y V g 0)) = 0) : PrOk X U f Y V g := by
 obtain ⟨h1, h2⟩ := (cadd_0 (by decide)).1 h
 obtain ⟨hX, hU, hY, hV, p1, p2, p3⟩ := same4_0 h1
 unfold prB at h2
 simp only [Bool.or_eq_false_iff, Bool.not_eq_false', bne_eq_false_iff_eq] at h2
 obtain ⟨⟨⟨l1, l2⟩, f1⟩, f2⟩ := h2
 exact ⟨hX, hU, hY, hV, p1.symm, by omega, by omega, by omega, p2.symm, pdec_t.1 f1, pdec_t.1 f2⟩

set_option maxRecDepth 100000 in
set_option maxHeartbeats 4000000 in
theorem iPr_ok (vX vU vf vY vV vg : Value) (X : Cx) (U : Cx) (f : List (List (List Int))) (Y : Cx) (V : Cx) (g : List (List (List Int))) (h : Heap) (rX : RC h vX X) (rU : RC h vU U) (rf : R3 h vf f) (rY : RC h vY Y) (rV : RC h vV V) (rg : R3 h vg g)  : CallA Try.prog 63 #[vX, vU, vf, vY, vV, vg] h fun v' h' => ∃ w0 f0, v' = .tuple #[w0, .int .i64 ((prP X U f Y V g).2)] ∧ O3 h' w0 ((prP X U f Y V g).1) f0 ∧ Fresh h.size f0 ∧ Ext h h' := by
 obtain ⟨vdX, vmX, rfl, hdX, hmX⟩ := rX
 have hledX := RdS.le hdX
 have hlemX := RdS.le hmX
 obtain ⟨vdU, vmU, rfl, hdU, hmU⟩ := rU
 have hledU := RdS.le hdU
 have hlemU := RdS.le hmU
 have hlef := RdS.le rf
 obtain ⟨vdY, vmY, rfl, hdY, hmY⟩ := rY
 have hledY := RdS.le hdY
 have hlemY := RdS.le hmY
 obtain ⟨vdV, vmV, rfl, hdV, hmV⟩ := rV
 have hledV := RdS.le hdV
 have hlemV := RdS.le hmV
 have hleg := RdS.le rg
 refine callA_intro TTok (args := [_, _, _, _, _, _]) Try.func63 (by kernel_rfl) rfl 100 rfl (by simp) [.tmp 12, .tmp 13] rfl ?_
 simp only [idxs, Nat.reduceAdd]
 refine den_seq ?_
 refine den_region TTok ?_
 intro K hK
 simp -implicitDefEqProofs (disch := first | decide | assumption | omega) only [go_sem, wrap_id]
 refine op_box (cs := #[.int .i64 (X.p), vdX, vmX]) rfl ?_
 intro h0_0 e0_0 hb0_0 z0_0
 have := Ext.size e0_0
 have eB := e0_0
 have hfhb0_0 : Fresh h.size [h.size] := Fresh.one _
 have hlhb0_0 := one_lt (show h.size < h0_0.size by omega)
 try simp -implicitDefEqProofs (disch := first | decide | assumption | omega) only [go_sem, wrap_id]
 refine op_box (cs := #[.int .i64 (U.p), vdU, vmU]) rfl ?_
 intro h0_1 e0_1 hb0_1 z0_1
 replace hb0_0 := BoxAt.ext hb0_0 e0_1
 have := Ext.size e0_1
 replace eB := Ext.trans eB e0_1
 have hfhb0_1 : Fresh h0_0.size [h0_0.size] := Fresh.one _
 have hlhb0_1 := one_lt (show h0_0.size < h0_1.size by omega)
 try simp -implicitDefEqProofs (disch := first | decide | assumption | omega) only [go_sem, wrap_id]
 refine op_box (cs := #[vf]) (RdS.cells rf) ?_
 intro h0_2 e0_2 hb0_2 z0_2
 replace hb0_0 := BoxAt.ext hb0_0 e0_2
 replace hb0_1 := BoxAt.ext hb0_1 e0_2
 have := Ext.size e0_2
 replace eB := Ext.trans eB e0_2
 have hfhb0_2 : Fresh h0_1.size [h0_1.size] := Fresh.one _
 have hlhb0_2 := one_lt (show h0_1.size < h0_2.size by omega)
 try simp -implicitDefEqProofs (disch := first | decide | assumption | omega) only [go_sem, wrap_id]
 refine op_box (cs := #[.int .i64 (Y.p), vdY, vmY]) rfl ?_
 intro h0_3 e0_3 hb0_3 z0_3
 replace hb0_0 := BoxAt.ext hb0_0 e0_3
 replace hb0_1 := BoxAt.ext hb0_1 e0_3
 replace hb0_2 := BoxAt.ext hb0_2 e0_3
 have := Ext.size e0_3
 replace eB := Ext.trans eB e0_3
 have hfhb0_3 : Fresh h0_2.size [h0_2.size] := Fresh.one _
 have hlhb0_3 := one_lt (show h0_2.size < h0_3.size by omega)
 try simp -implicitDefEqProofs (disch := first | decide | assumption | omega) only [go_sem, wrap_id]
 refine op_box (cs := #[.int .i64 (V.p), vdV, vmV]) rfl ?_
 intro h0_4 e0_4 hb0_4 z0_4
 replace hb0_0 := BoxAt.ext hb0_0 e0_4
 replace hb0_1 := BoxAt.ext hb0_1 e0_4
 replace hb0_2 := BoxAt.ext hb0_2 e0_4
 replace hb0_3 := BoxAt.ext hb0_3 e0_4
 have := Ext.size e0_4
 replace eB := Ext.trans eB e0_4
 have hfhb0_4 : Fresh h0_3.size [h0_3.size] := Fresh.one _
 have hlhb0_4 := one_lt (show h0_3.size < h0_4.size by omega)
 try simp -implicitDefEqProofs (disch := first | decide | assumption | omega) only [go_sem, wrap_id]
 refine op_box (cs := #[vg]) (RdS.cells rg) ?_
 intro h0_5 e0_5 hb0_5 z0_5
 replace hb0_0 := BoxAt.ext hb0_0 e0_5
 replace hb0_1 := BoxAt.ext hb0_1 e0_5
 replace hb0_2 := BoxAt.ext hb0_2 e0_5
 replace hb0_3 := BoxAt.ext hb0_3 e0_5
 replace hb0_4 := BoxAt.ext hb0_4 e0_5
 have := Ext.size e0_5
 replace eB := Ext.trans eB e0_5
 have hfhb0_5 : Fresh h0_4.size [h0_4.size] := Fresh.one _
 have hlhb0_5 := one_lt (show h0_4.size < h0_5.size by omega)
 try simp -implicitDefEqProofs (disch := first | decide | assumption | omega) only [go_sem, wrap_id]
 refine hK _ _ ?_
 clear hK K
 refine den_seq ?_
 refine den_region TTok ?_
 intro K hK
 simp -implicitDefEqProofs (disch := first | decide | assumption | omega) only [go_sem, ld31, RdS.len hdX sl22, RdS.idx hdX sl22, R1.intB hdX (Ext.pres eB), RdS.cells hdX, RdS.len hmX sl23, RdS.idx hmX sl23, RdS.cellB hmX (Ext.pres eB), RdS.cells hmX, RdS.len hdU sl22, RdS.idx hdU sl22, R1.intB hdU (Ext.pres eB), RdS.cells hdU, RdS.len hmU sl23, RdS.idx hmU sl23, RdS.cellB hmU (Ext.pres eB), RdS.cells hmU, RdS.len hdY sl22, RdS.idx hdY sl22, R1.intB hdY (Ext.pres eB), RdS.cells hdY, RdS.len hmY sl23, RdS.idx hmY sl23, RdS.cellB hmY (Ext.pres eB), RdS.cells hmY, RdS.len hdV sl22, RdS.idx hdV sl22, R1.intB hdV (Ext.pres eB), RdS.cells hdV, RdS.len hmV sl23, RdS.idx hmV sl23, RdS.cellB hmV (Ext.pres eB), RdS.cells hmV, BoxAt.cell hb0_0, BoxAt.cell hb0_1, BoxAt.cell hb0_3, BoxAt.cell hb0_4, wrap_id]
 refine op_bs4C (X := X) (Y := U) (Z := Y) (W := V) ⟨_, _, rfl, (RdS.pres hdX (Ext.pres eB)), (RdS.pres hmX (Ext.pres eB))⟩ ⟨_, _, rfl, (RdS.pres hdU (Ext.pres eB)), (RdS.pres hmU (Ext.pres eB))⟩ ⟨_, _, rfl, (RdS.pres hdY (Ext.pres eB)), (RdS.pres hmY (Ext.pres eB))⟩ ⟨_, _, rfl, (RdS.pres hdV (Ext.pres eB)), (RdS.pres hmV (Ext.pres eB))⟩ ?_
 intro v1_4 h1_4 ho1_4 e1_4
 replace hb0_0 := BoxAt.ext hb0_0 e1_4
 replace hb0_1 := BoxAt.ext hb0_1 e1_4
 replace hb0_2 := BoxAt.ext hb0_2 e1_4
 replace hb0_3 := BoxAt.ext hb0_3 e1_4
 replace hb0_4 := BoxAt.ext hb0_4 e1_4
 replace hb0_5 := BoxAt.ext hb0_5 e1_4
 have := Ext.size e1_4
 replace eB := Ext.trans eB e1_4
 try simp -implicitDefEqProofs (disch := first | decide | assumption | omega) only [go_sem, wrap_id]
 try simp -implicitDefEqProofs (disch := first | decide | assumption | omega) only [go_sem, wrap_id]
 refine CallA.mono (same_ok _ _ _ ho1_4) ?_
 intro v_ h1_5
 rintro ⟨rfl, e1_5⟩
 replace hb0_0 := BoxAt.ext hb0_0 e1_5
 replace hb0_1 := BoxAt.ext hb0_1 e1_5
 replace hb0_2 := BoxAt.ext hb0_2 e1_5
 replace hb0_3 := BoxAt.ext hb0_3 e1_5
 replace hb0_4 := BoxAt.ext hb0_4 e1_5
 replace hb0_5 := BoxAt.ext hb0_5 e1_5
 replace ho1_4 := RdA.pres ho1_4 (Ext.pres e1_5)
 have := Ext.size e1_5
 replace eB := Ext.trans eB e1_5
 try simp -implicitDefEqProofs (disch := first | decide | assumption | omega) only [go_sem, wrap_id]
 refine hK _ _ ?_
 clear hK K
 refine den_seq ?_
 refine den_seq ?_
 refine den_merge [(58, .bool ((((sameP [X, U, Y, V]) == (0 : Int)) && ((((((X.dims).length : Int) != ((U.dims).length : Int)) || (((Y.dims).length : Int) != ((V.dims).length : Int))) || (!((famP X U f (0 : Int))))) || (!((famP Y V g (0 : Int))))))))] [6, 7, 8, 9, 10, 11, 14] (fun H => Ext h1_5 H) ?_ ?_
  -- a way
 ·refine den_region TTok ?_
  intro K hK
  simp -implicitDefEqProofs (disch := first | decide | assumption | (simp (disch := decide) only [slotOf_zero, slotOf_succ, Option.map_some, puts_same, puts_ne, gv_bool, gv_undef, tt, tf, ft, ff, eq_self, if_true, if_false, Bool.false_eq_true, Bool.not_true, Bool.not_false]; done) | omega) only [go_sem, wrap_id]
  refine opsP_T (by simp (disch := decide) only [slotOf_zero, slotOf_succ, Option.map_some, puts_same, puts_ne, gv_bool, gv_undef, tt, tf, ft, ff, eq_self, if_true, if_false, Bool.false_eq_true, Bool.not_true, Bool.not_false]; rfl) (fun g1 => ?_) (fun g1 => ?_)
  ·obtain ⟨hX, hU, hY, hV, hp1, hp2, hp3⟩ := same4_0 (b0 g1)
   try simp -implicitDefEqProofs (disch := first | decide | assumption | (simp (disch := decide) only [slotOf_zero, slotOf_succ, Option.map_some, puts_same, puts_ne, gv_bool, gv_undef, tt, tf, ft, ff, eq_self, if_true, if_false, Bool.false_eq_true, Bool.not_true, Bool.not_false, g1]; done) | omega) only [go_sem, fa31_1, ld22, RdS.len hdX sl22, RdS.idx hdX sl22, R1.intB hdX (Ext.pres eB), RdS.cells hdX, RdS.len hmX sl23, RdS.idx hmX sl23, RdS.cellB hmX (Ext.pres eB), RdS.cells hmX, RdS.len hdU sl22, RdS.idx hdU sl22, R1.intB hdU (Ext.pres eB), RdS.cells hdU, RdS.len hmU sl23, RdS.idx hmU sl23, RdS.cellB hmU (Ext.pres eB), RdS.cells hmU, BoxAt.cell hb0_0, BoxAt.cell hb0_1, wrap_id, g1, eq_self, if_true, if_false, Bool.false_eq_true]
   refine opsP_F (by simp (disch := decide) only [slotOf_zero, slotOf_succ, Option.map_some, puts_same, puts_ne, gv_bool, gv_undef, tt, tf, ft, ff, eq_self, if_true, if_false, Bool.false_eq_true, Bool.not_true, Bool.not_false, g1]; rfl) (fun g2 => ?_) (fun g2 => ?_)
   ·try simp -implicitDefEqProofs (disch := first | decide | assumption | (simp (disch := decide) only [slotOf_zero, slotOf_succ, Option.map_some, puts_same, puts_ne, gv_bool, gv_undef, tt, tf, ft, ff, eq_self, if_true, if_false, Bool.false_eq_true, Bool.not_true, Bool.not_false, g1, g2]; done) | omega) only [go_sem, fa31_1, ld22, RdS.len hdY sl22, RdS.idx hdY sl22, R1.intB hdY (Ext.pres eB), RdS.cells hdY, RdS.len hmY sl23, RdS.idx hmY sl23, RdS.cellB hmY (Ext.pres eB), RdS.cells hmY, RdS.len hdV sl22, RdS.idx hdV sl22, R1.intB hdV (Ext.pres eB), RdS.cells hdV, RdS.len hmV sl23, RdS.idx hmV sl23, RdS.cellB hmV (Ext.pres eB), RdS.cells hmV, BoxAt.cell hb0_3, BoxAt.cell hb0_4, wrap_id, g1, g2, eq_self, if_true, if_false, Bool.false_eq_true]
    refine opsP_F (by simp (disch := decide) only [slotOf_zero, slotOf_succ, Option.map_some, puts_same, puts_ne, gv_bool, gv_undef, tt, tf, ft, ff, eq_self, if_true, if_false, Bool.false_eq_true, Bool.not_true, Bool.not_false, g1, g2]; rfl) (fun g3 => ?_) (fun g3 => ?_)
    ·try simp -implicitDefEqProofs (disch := first | decide | assumption | (simp (disch := decide) only [slotOf_zero, slotOf_succ, Option.map_some, puts_same, puts_ne, gv_bool, gv_undef, tt, tf, ft, ff, eq_self, if_true, if_false, Bool.false_eq_true, Bool.not_true, Bool.not_false, g1, g2, g3]; done) | omega) only [go_sem, ld23, ld31, RdS.len hdX sl22, RdS.idx hdX sl22, R1.intB hdX (Ext.pres eB), RdS.cells hdX, RdS.len hmX sl23, RdS.idx hmX sl23, RdS.cellB hmX (Ext.pres eB), RdS.cells hmX, RdS.len hdU sl22, RdS.idx hdU sl22, R1.intB hdU (Ext.pres eB), RdS.cells hdU, RdS.len hmU sl23, RdS.idx hmU sl23, RdS.cellB hmU (Ext.pres eB), RdS.cells hmU, RdS.len rf sl23, RdS.idx rf sl23, RdS.cellB rf (Ext.pres eB), RdS.cells rf, BoxAt.cell hb0_0, BoxAt.cell hb0_1, BoxAt.cell hb0_2, wrap_id, g1, g2, g3, eq_self, if_true, if_false, Bool.false_eq_true]
     try simp -implicitDefEqProofs (disch := first | decide | assumption | omega) only [go_sem, wrap_id]
     refine CallA.mono (iFam_ok _ _ _ X U f (0 : Int) _ ⟨_, _, rfl, (RdS.pres hdX (Ext.pres eB)), (RdS.pres hmX (Ext.pres eB))⟩ ⟨_, _, rfl, (RdS.pres hdU (Ext.pres eB)), (RdS.pres hmU (Ext.pres eB))⟩ (RdS.pres rf (Ext.pres eB)) hX (by omega)) ?_
     intro v_ h2_23
     rintro ⟨rfl, e2_23⟩
     replace hb0_0 := BoxAt.ext hb0_0 e2_23
     replace hb0_1 := BoxAt.ext hb0_1 e2_23
     replace hb0_2 := BoxAt.ext hb0_2 e2_23
     replace hb0_3 := BoxAt.ext hb0_3 e2_23
     replace hb0_4 := BoxAt.ext hb0_4 e2_23
     replace hb0_5 := BoxAt.ext hb0_5 e2_23
     replace ho1_4 := RdA.pres ho1_4 (Ext.pres e2_23)
     have := Ext.size e2_23
     replace eB := Ext.trans eB e2_23
     try simp -implicitDefEqProofs (disch := first | decide | assumption | (simp (disch := decide) only [slotOf_zero, slotOf_succ, Option.map_some, puts_same, puts_ne, gv_bool, gv_undef, tt, tf, ft, ff, eq_self, if_true, if_false, Bool.false_eq_true, Bool.not_true, Bool.not_false, g1, g2, g3]; done) | omega) only [go_sem, wrap_id, g1, g2, g3, eq_self, if_true, if_false, Bool.false_eq_true]
     refine opsP_F (by simp (disch := decide) only [slotOf_zero, slotOf_succ, Option.map_some, puts_same, puts_ne, gv_bool, gv_undef, tt, tf, ft, ff, eq_self, if_true, if_false, Bool.false_eq_true, Bool.not_true, Bool.not_false, g1, g2, g3]; rfl) (fun g4 => ?_) (fun g4 => ?_)
     ·try simp -implicitDefEqProofs (disch := first | decide | assumption | (simp (disch := decide) only [slotOf_zero, slotOf_succ, Option.map_some, puts_same, puts_ne, gv_bool, gv_undef, tt, tf, ft, ff, eq_self, if_true, if_false, Bool.false_eq_true, Bool.not_true, Bool.not_false, g1, g2, g3, g4]; done) | omega) only [go_sem, ld23, ld31, RdS.len hdY sl22, RdS.idx hdY sl22, R1.intB hdY (Ext.pres eB), RdS.cells hdY, RdS.len hmY sl23, RdS.idx hmY sl23, RdS.cellB hmY (Ext.pres eB), RdS.cells hmY, RdS.len hdV sl22, RdS.idx hdV sl22, R1.intB hdV (Ext.pres eB), RdS.cells hdV, RdS.len hmV sl23, RdS.idx hmV sl23, RdS.cellB hmV (Ext.pres eB), RdS.cells hmV, RdS.len rg sl23, RdS.idx rg sl23, RdS.cellB rg (Ext.pres eB), RdS.cells rg, BoxAt.cell hb0_3, BoxAt.cell hb0_4, BoxAt.cell hb0_5, wrap_id, g1, g2, g3, g4, eq_self, if_true, if_false, Bool.false_eq_true]
      try simp -implicitDefEqProofs (disch := first | decide | assumption | omega) only [go_sem, wrap_id]
      refine CallA.mono (iFam_ok _ _ _ Y V g (0 : Int) _ ⟨_, _, rfl, (RdS.pres hdY (Ext.pres eB)), (RdS.pres hmY (Ext.pres eB))⟩ ⟨_, _, rfl, (RdS.pres hdV (Ext.pres eB)), (RdS.pres hmV (Ext.pres eB))⟩ (RdS.pres rg (Ext.pres eB)) hY (by omega)) ?_
      intro v_ h2_30
      rintro ⟨rfl, e2_30⟩
      replace hb0_0 := BoxAt.ext hb0_0 e2_30
      replace hb0_1 := BoxAt.ext hb0_1 e2_30
      replace hb0_2 := BoxAt.ext hb0_2 e2_30
      replace hb0_3 := BoxAt.ext hb0_3 e2_30
      replace hb0_4 := BoxAt.ext hb0_4 e2_30
      replace hb0_5 := BoxAt.ext hb0_5 e2_30
      replace ho1_4 := RdA.pres ho1_4 (Ext.pres e2_30)
      have := Ext.size e2_30
      replace eB := Ext.trans eB e2_30
      try simp -implicitDefEqProofs (disch := first | decide | assumption | (simp (disch := decide) only [slotOf_zero, slotOf_succ, Option.map_some, puts_same, puts_ne, gv_bool, gv_undef, tt, tf, ft, ff, eq_self, if_true, if_false, Bool.false_eq_true, Bool.not_true, Bool.not_false, g1, g2, g3, g4]; done) | omega) only [go_sem, wrap_id, g1, g2, g3, g4, eq_self, if_true, if_false, Bool.false_eq_true]
      refine hK _ _ ?_
      clear hK K
      refine den_stop ?_
      refine ⟨?_, (Ext.trans e2_23 e2_30)⟩
      first | (simp (disch := decide) only [go_sem, g1, g2, g3, g4, eq_self, Bool.true_and, Bool.and_true, Bool.false_and, Bool.and_false, Bool.true_or, Bool.or_true, Bool.false_or, Bool.or_false, if_true, if_false, Bool.false_eq_true]; done) | simp [HasL, sel, puts_at, g1, g2, g3, g4]
     ·try simp -implicitDefEqProofs (disch := first | decide | assumption | (simp (disch := decide) only [slotOf_zero, slotOf_succ, Option.map_some, puts_same, puts_ne, gv_bool, gv_undef, tt, tf, ft, ff, eq_self, if_true, if_false, Bool.false_eq_true, Bool.not_true, Bool.not_false, g1, g2, g3, g4]; done) | omega) only [go_sem, wrap_id, g1, g2, g3, g4, eq_self, if_true, if_false, Bool.false_eq_true]
      refine hK _ _ ?_
      clear hK K
      refine den_stop ?_
      refine ⟨?_, e2_23⟩
      first | (simp (disch := decide) only [go_sem, g1, g2, g3, g4, eq_self, Bool.true_and, Bool.and_true, Bool.false_and, Bool.and_false, Bool.true_or, Bool.or_true, Bool.false_or, Bool.or_false, if_true, if_false, Bool.false_eq_true]; done) | simp [HasL, sel, puts_at, g1, g2, g3, g4]
    ·try simp -implicitDefEqProofs (disch := first | decide | assumption | (simp (disch := decide) only [slotOf_zero, slotOf_succ, Option.map_some, puts_same, puts_ne, gv_bool, gv_undef, tt, tf, ft, ff, eq_self, if_true, if_false, Bool.false_eq_true, Bool.not_true, Bool.not_false, g1, g2, g3]; done) | omega) only [go_sem, wrap_id, g1, g2, g3, eq_self, if_true, if_false, Bool.false_eq_true]
     try simp -implicitDefEqProofs (disch := first | decide | assumption | (simp (disch := decide) only [slotOf_zero, slotOf_succ, Option.map_some, puts_same, puts_ne, gv_bool, gv_undef, tt, tf, ft, ff, eq_self, if_true, if_false, Bool.false_eq_true, Bool.not_true, Bool.not_false, g1, g2, g3]; done) | omega) only [go_sem, wrap_id, g1, g2, g3, eq_self, if_true, if_false, Bool.false_eq_true]
     refine hK _ _ ?_
     clear hK K
     refine den_stop ?_
     refine ⟨?_, Ext.refl _⟩
     first | (simp (disch := decide) only [go_sem, g1, g2, g3, eq_self, Bool.true_and, Bool.and_true, Bool.false_and, Bool.and_false, Bool.true_or, Bool.or_true, Bool.false_or, Bool.or_false, if_true, if_false, Bool.false_eq_true]; done) | simp [HasL, sel, puts_at, g1, g2, g3]
   ·try simp -implicitDefEqProofs (disch := first | decide | assumption | (simp (disch := decide) only [slotOf_zero, slotOf_succ, Option.map_some, puts_same, puts_ne, gv_bool, gv_undef, tt, tf, ft, ff, eq_self, if_true, if_false, Bool.false_eq_true, Bool.not_true, Bool.not_false, g1, g2]; done) | omega) only [go_sem, wrap_id, g1, g2, eq_self, if_true, if_false, Bool.false_eq_true]
    try simp -implicitDefEqProofs (disch := first | decide | assumption | (simp (disch := decide) only [slotOf_zero, slotOf_succ, Option.map_some, puts_same, puts_ne, gv_bool, gv_undef, tt, tf, ft, ff, eq_self, if_true, if_false, Bool.false_eq_true, Bool.not_true, Bool.not_false, g1, g2]; done) | omega) only [go_sem, wrap_id, g1, g2, eq_self, if_true, if_false, Bool.false_eq_true]
    try simp -implicitDefEqProofs (disch := first | decide | assumption | (simp (disch := decide) only [slotOf_zero, slotOf_succ, Option.map_some, puts_same, puts_ne, gv_bool, gv_undef, tt, tf, ft, ff, eq_self, if_true, if_false, Bool.false_eq_true, Bool.not_true, Bool.not_false, g1, g2]; done) | omega) only [go_sem, wrap_id, g1, g2, eq_self, if_true, if_false, Bool.false_eq_true]
    refine hK _ _ ?_
    clear hK K
    refine den_stop ?_
    refine ⟨?_, Ext.refl _⟩
    first | (simp (disch := decide) only [go_sem, g1, g2, eq_self, Bool.true_and, Bool.and_true, Bool.false_and, Bool.and_false, Bool.true_or, Bool.or_true, Bool.false_or, Bool.or_false, if_true, if_false, Bool.false_eq_true]; done) | simp [HasL, sel, puts_at, g1, g2]
  ·try simp -implicitDefEqProofs (disch := first | decide | assumption | (simp (disch := decide) only [slotOf_zero, slotOf_succ, Option.map_some, puts_same, puts_ne, gv_bool, gv_undef, tt, tf, ft, ff, eq_self, if_true, if_false, Bool.false_eq_true, Bool.not_true, Bool.not_false, g1]; done) | omega) only [go_sem, wrap_id, g1, eq_self, if_true, if_false, Bool.false_eq_true]
   try simp -implicitDefEqProofs (disch := first | decide | assumption | (simp (disch := decide) only [slotOf_zero, slotOf_succ, Option.map_some, puts_same, puts_ne, gv_bool, gv_undef, tt, tf, ft, ff, eq_self, if_true, if_false, Bool.false_eq_true, Bool.not_true, Bool.not_false, g1]; done) | omega) only [go_sem, wrap_id, g1, eq_self, if_true, if_false, Bool.false_eq_true]
   try simp -implicitDefEqProofs (disch := first | decide | assumption | (simp (disch := decide) only [slotOf_zero, slotOf_succ, Option.map_some, puts_same, puts_ne, gv_bool, gv_undef, tt, tf, ft, ff, eq_self, if_true, if_false, Bool.false_eq_true, Bool.not_true, Bool.not_false, g1]; done) | omega) only [go_sem, wrap_id, g1, eq_self, if_true, if_false, Bool.false_eq_true]
   try simp -implicitDefEqProofs (disch := first | decide | assumption | (simp (disch := decide) only [slotOf_zero, slotOf_succ, Option.map_some, puts_same, puts_ne, gv_bool, gv_undef, tt, tf, ft, ff, eq_self, if_true, if_false, Bool.false_eq_true, Bool.not_true, Bool.not_false, g1]; done) | omega) only [go_sem, wrap_id, g1, eq_self, if_true, if_false, Bool.false_eq_true]
   refine hK _ _ ?_
   clear hK K
   refine den_stop ?_
   refine ⟨?_, Ext.refl _⟩
   first | (simp (disch := decide) only [go_sem, g1, eq_self, Bool.true_and, Bool.and_true, Bool.false_and, Bool.and_false, Bool.true_or, Bool.or_true, Bool.false_or, Bool.or_false, if_true, if_false, Bool.false_eq_true]; done) | simp [HasL, sel, puts_at, g1]
 intro en5 h6 e7
 replace hb0_0 := BoxAt.ext hb0_0 e7
 replace hb0_1 := BoxAt.ext hb0_1 e7
 replace hb0_2 := BoxAt.ext hb0_2 e7
 replace hb0_3 := BoxAt.ext hb0_3 e7
 replace hb0_4 := BoxAt.ext hb0_4 e7
 replace hb0_5 := BoxAt.ext hb0_5 e7
 replace ho1_4 := RdA.pres ho1_4 (Ext.pres e7)
 have := Ext.size e7
 replace eB := Ext.trans eB e7
 simp (disch := decide) only [go_sem]
 refine den_mergeH [(14, .int .i64 ((cadd (sameP [X, U, Y, V]) (2 : Int) ((((((X.dims).length : Int) != ((U.dims).length : Int)) || (((Y.dims).length : Int) != ((V.dims).length : Int))) || (!((famP X U f (0 : Int))))) || (!((famP Y V g (0 : Int))))))))] [6, 7, 8, 9, 10, 11] ?_ ?_
 ·refine den_cond rfl (fun c0 => ?_) (fun c0 => ?_)
  ·refine den_region TTok ?_
   intro K hK
   simp -implicitDefEqProofs (disch := first | decide | assumption | omega) only [go_sem, wrap_id]
   refine hK _ _ ?_
   clear hK K
   refine den_stop ?_
   refine ⟨?_, rfl⟩; simp (disch := decide) only [go_sem, c0, caddT c0, eq_self, if_true, if_false, Bool.false_eq_true, reduceCtorEq]
  ·refine den_skip ?_
   refine den_stop ?_
   refine ⟨?_, rfl⟩; simp (disch := decide) only [go_sem, c0, caddF c0, eq_self, if_true, if_false, Bool.false_eq_true, reduceCtorEq]
 intro en8
 simp (disch := decide) only [go_sem]
 refine den_seq ?_
 refine den_seq ?_
 refine den_merge [(74, .bool ((((cadd (sameP [X, U, Y, V]) (2 : Int) ((((((X.dims).length : Int) != ((U.dims).length : Int)) || (((Y.dims).length : Int) != ((V.dims).length : Int))) || (!((famP X U f (0 : Int))))) || (!((famP Y V g (0 : Int)))))) == (0 : Int)) && ((!((chnP X U f))) || (!((chnP Y V g)))))))] [6, 7, 8, 9, 10, 11, 14] (fun H => Ext h6 H) ?_ ?_
  -- a way
 ·refine den_region TTok ?_
  intro K hK
  simp -implicitDefEqProofs (disch := first | decide | assumption | (simp (disch := decide) only [slotOf_zero, slotOf_succ, Option.map_some, puts_same, puts_ne, gv_bool, gv_undef, tt, tf, ft, ff, eq_self, if_true, if_false, Bool.false_eq_true, Bool.not_true, Bool.not_false]; done) | omega) only [go_sem, wrap_id]
  refine opsP_T (by simp (disch := decide) only [slotOf_zero, slotOf_succ, Option.map_some, puts_same, puts_ne, gv_bool, gv_undef, tt, tf, ft, ff, eq_self, if_true, if_false, Bool.false_eq_true, Bool.not_true, Bool.not_false]; rfl) (fun g9 => ?_) (fun g9 => ?_)
  ·have hk := pri_ok (show cadd (sameP [X, U, Y, V]) 2 (prB X U f Y V g (famP X U f 0) (famP Y V g 0)) = 0 from b0 g9)
   try simp -implicitDefEqProofs (disch := first | decide | assumption | (simp (disch := decide) only [slotOf_zero, slotOf_succ, Option.map_some, puts_same, puts_ne, gv_bool, gv_undef, tt, tf, ft, ff, eq_self, if_true, if_false, Bool.false_eq_true, Bool.not_true, Bool.not_false, g9]; done) | omega) only [go_sem, ld23, ld31, RdS.len hdX sl22, RdS.idx hdX sl22, R1.intB hdX (Ext.pres eB), RdS.cells hdX, RdS.len hmX sl23, RdS.idx hmX sl23, RdS.cellB hmX (Ext.pres eB), RdS.cells hmX, RdS.len hdU sl22, RdS.idx hdU sl22, R1.intB hdU (Ext.pres eB), RdS.cells hdU, RdS.len hmU sl23, RdS.idx hmU sl23, RdS.cellB hmU (Ext.pres eB), RdS.cells hmU, RdS.len rf sl23, RdS.idx rf sl23, RdS.cellB rf (Ext.pres eB), RdS.cells rf, BoxAt.cell hb0_0, BoxAt.cell hb0_1, BoxAt.cell hb0_2, wrap_id, g9, eq_self, if_true, if_false, Bool.false_eq_true]
   try simp -implicitDefEqProofs (disch := first | decide | assumption | omega) only [go_sem, wrap_id]
   refine CallA.mono (iChn_ok _ _ _ X U f _ ⟨_, _, rfl, (RdS.pres hdX (Ext.pres eB)), (RdS.pres hmX (Ext.pres eB))⟩ ⟨_, _, rfl, (RdS.pres hdU (Ext.pres eB)), (RdS.pres hmU (Ext.pres eB))⟩ (RdS.pres rf (Ext.pres eB)) hk.cX hk.cU hk.fF hk.px hk.lx) ?_
   intro v_ h4_6
   rintro ⟨rfl, e4_6⟩
   replace hb0_0 := BoxAt.ext hb0_0 e4_6
   replace hb0_1 := BoxAt.ext hb0_1 e4_6
   replace hb0_2 := BoxAt.ext hb0_2 e4_6
   replace hb0_3 := BoxAt.ext hb0_3 e4_6
   replace hb0_4 := BoxAt.ext hb0_4 e4_6
   replace hb0_5 := BoxAt.ext hb0_5 e4_6
   replace ho1_4 := RdA.pres ho1_4 (Ext.pres e4_6)
   have := Ext.size e4_6
   replace eB := Ext.trans eB e4_6
   try simp -implicitDefEqProofs (disch := first | decide | assumption | (simp (disch := decide) only [slotOf_zero, slotOf_succ, Option.map_some, puts_same, puts_ne, gv_bool, gv_undef, tt, tf, ft, ff, eq_self, if_true, if_false, Bool.false_eq_true, Bool.not_true, Bool.not_false, g9]; done) | omega) only [go_sem, wrap_id, g9, eq_self, if_true, if_false, Bool.false_eq_true]
   refine opsP_F (by simp (disch := decide) only [slotOf_zero, slotOf_succ, Option.map_some, puts_same, puts_ne, gv_bool, gv_undef, tt, tf, ft, ff, eq_self, if_true, if_false, Bool.false_eq_true, Bool.not_true, Bool.not_false, g9]; rfl) (fun g10 => ?_) (fun g10 => ?_)
   ·try simp -implicitDefEqProofs (disch := first | decide | assumption | (simp (disch := decide) only [slotOf_zero, slotOf_succ, Option.map_some, puts_same, puts_ne, gv_bool, gv_undef, tt, tf, ft, ff, eq_self, if_true, if_false, Bool.false_eq_true, Bool.not_true, Bool.not_false, g9, g10]; done) | omega) only [go_sem, ld23, ld31, RdS.len hdY sl22, RdS.idx hdY sl22, R1.intB hdY (Ext.pres eB), RdS.cells hdY, RdS.len hmY sl23, RdS.idx hmY sl23, RdS.cellB hmY (Ext.pres eB), RdS.cells hmY, RdS.len hdV sl22, RdS.idx hdV sl22, R1.intB hdV (Ext.pres eB), RdS.cells hdV, RdS.len hmV sl23, RdS.idx hmV sl23, RdS.cellB hmV (Ext.pres eB), RdS.cells hmV, RdS.len rg sl23, RdS.idx rg sl23, RdS.cellB rg (Ext.pres eB), RdS.cells rg, BoxAt.cell hb0_3, BoxAt.cell hb0_4, BoxAt.cell hb0_5, wrap_id, g9, g10, eq_self, if_true, if_false, Bool.false_eq_true]
    try simp -implicitDefEqProofs (disch := first | decide | assumption | omega) only [go_sem, wrap_id]
    refine CallA.mono (iChn_ok _ _ _ Y V g _ ⟨_, _, rfl, (RdS.pres hdY (Ext.pres eB)), (RdS.pres hmY (Ext.pres eB))⟩ ⟨_, _, rfl, (RdS.pres hdV (Ext.pres eB)), (RdS.pres hmV (Ext.pres eB))⟩ (RdS.pres rg (Ext.pres eB)) hk.cY hk.cV hk.fG hk.py hk.ly) ?_
    intro v_ h4_12
    rintro ⟨rfl, e4_12⟩
    replace hb0_0 := BoxAt.ext hb0_0 e4_12
    replace hb0_1 := BoxAt.ext hb0_1 e4_12
    replace hb0_2 := BoxAt.ext hb0_2 e4_12
    replace hb0_3 := BoxAt.ext hb0_3 e4_12
    replace hb0_4 := BoxAt.ext hb0_4 e4_12
    replace hb0_5 := BoxAt.ext hb0_5 e4_12
    replace ho1_4 := RdA.pres ho1_4 (Ext.pres e4_12)
    have := Ext.size e4_12
    replace eB := Ext.trans eB e4_12
    try simp -implicitDefEqProofs (disch := first | decide | assumption | (simp (disch := decide) only [slotOf_zero, slotOf_succ, Option.map_some, puts_same, puts_ne, gv_bool, gv_undef, tt, tf, ft, ff, eq_self, if_true, if_false, Bool.false_eq_true, Bool.not_true, Bool.not_false, g9, g10]; done) | omega) only [go_sem, wrap_id, g9, g10, eq_self, if_true, if_false, Bool.false_eq_true]
    refine hK _ _ ?_
    clear hK K
    refine den_stop ?_
    refine ⟨?_, (Ext.trans e4_6 e4_12)⟩
    first | (simp (disch := decide) only [go_sem, g9, g10, eq_self, Bool.true_and, Bool.and_true, Bool.false_and, Bool.and_false, Bool.true_or, Bool.or_true, Bool.false_or, Bool.or_false, if_true, if_false, Bool.false_eq_true]; done) | simp [HasL, sel, puts_at, g9, g10]
   ·try simp -implicitDefEqProofs (disch := first | decide | assumption | (simp (disch := decide) only [slotOf_zero, slotOf_succ, Option.map_some, puts_same, puts_ne, gv_bool, gv_undef, tt, tf, ft, ff, eq_self, if_true, if_false, Bool.false_eq_true, Bool.not_true, Bool.not_false, g9, g10]; done) | omega) only [go_sem, wrap_id, g9, g10, eq_self, if_true, if_false, Bool.false_eq_true]
    refine hK _ _ ?_
    clear hK K
    refine den_stop ?_
    refine ⟨?_, e4_6⟩
    first | (simp (disch := decide) only [go_sem, g9, g10, eq_self, Bool.true_and, Bool.and_true, Bool.false_and, Bool.and_false, Bool.true_or, Bool.or_true, Bool.false_or, Bool.or_false, if_true, if_false, Bool.false_eq_true]; done) | simp [HasL, sel, puts_at, g9, g10]
  ·try simp -implicitDefEqProofs (disch := first | decide | assumption | (simp (disch := decide) only [slotOf_zero, slotOf_succ, Option.map_some, puts_same, puts_ne, gv_bool, gv_undef, tt, tf, ft, ff, eq_self, if_true, if_false, Bool.false_eq_true, Bool.not_true, Bool.not_false, g9]; done) | omega) only [go_sem, wrap_id, g9, eq_self, if_true, if_false, Bool.false_eq_true]
   try simp -implicitDefEqProofs (disch := first | decide | assumption | (simp (disch := decide) only [slotOf_zero, slotOf_succ, Option.map_some, puts_same, puts_ne, gv_bool, gv_undef, tt, tf, ft, ff, eq_self, if_true, if_false, Bool.false_eq_true, Bool.not_true, Bool.not_false, g9]; done) | omega) only [go_sem, wrap_id, g9, eq_self, if_true, if_false, Bool.false_eq_true]
   refine hK _ _ ?_
   clear hK K
   refine den_stop ?_
   refine ⟨?_, Ext.refl _⟩
   first | (simp (disch := decide) only [go_sem, g9, eq_self, Bool.true_and, Bool.and_true, Bool.false_and, Bool.and_false, Bool.true_or, Bool.or_true, Bool.false_or, Bool.or_false, if_true, if_false, Bool.false_eq_true]; done) | simp [HasL, sel, puts_at, g9]
 intro en11 h12 e13
 replace hb0_0 := BoxAt.ext hb0_0 e13
 replace hb0_1 := BoxAt.ext hb0_1 e13
 replace hb0_2 := BoxAt.ext hb0_2 e13
 replace hb0_3 := BoxAt.ext hb0_3 e13
 replace hb0_4 := BoxAt.ext hb0_4 e13
 replace hb0_5 := BoxAt.ext hb0_5 e13
 replace ho1_4 := RdA.pres ho1_4 (Ext.pres e13)
 have := Ext.size e13
 replace eB := Ext.trans eB e13
 simp (disch := decide) only [go_sem]
 refine den_mergeH [(14, .int .i64 ((cadd (cadd (sameP [X, U, Y, V]) (2 : Int) ((((((X.dims).length : Int) != ((U.dims).length : Int)) || (((Y.dims).length : Int) != ((V.dims).length : Int))) || (!((famP X U f (0 : Int))))) || (!((famP Y V g (0 : Int)))))) (5 : Int) ((!((chnP X U f))) || (!((chnP Y V g)))))))] [6, 7, 8, 9, 10, 11] ?_ ?_
 ·refine den_cond rfl (fun c1 => ?_) (fun c1 => ?_)
  ·refine den_region TTok ?_
   intro K hK
   simp -implicitDefEqProofs (disch := first | decide | assumption | omega) only [go_sem, wrap_id]
   refine hK _ _ ?_
   clear hK K
   refine den_stop ?_
   refine ⟨?_, rfl⟩; simp (disch := decide) only [go_sem, c1, caddT c1, eq_self, if_true, if_false, Bool.false_eq_true, reduceCtorEq]
  ·refine den_skip ?_
   refine den_stop ?_
   refine ⟨?_, rfl⟩; simp (disch := decide) only [go_sem, c1, caddF c1, eq_self, if_true, if_false, Bool.false_eq_true, reduceCtorEq]
 intro en14
 simp (disch := decide) only [go_sem]
 refine den_seq ?_
 refine den_seq ?_
 refine den_region TTok ?_
 intro K hK
 simp -implicitDefEqProofs (disch := first | decide | assumption | omega) only [go_sem, wrap_id]
 refine hK _ _ ?_
 clear hK K
 refine den_cond rfl (fun c2 => ?_) (fun c2 => ?_)
 ·try simp only [decide_eq_true_eq, decide_eq_false_iff_not, beq_iff_eq, beq_eq_false_iff_ne, bne_iff_ne, ne_eq, Bool.not_eq_true', Bool.not_eq_false', Bool.and_eq_true, Bool.or_eq_true, bne_eq_false_iff_eq, Bool.or_eq_false_iff, Bool.and_eq_false_iff] at c2
  refine den_seq ?_
  refine den_region TTok ?_
  intro K hK
  simp -implicitDefEqProofs (disch := first | decide | assumption | omega) only [go_sem, wrap_id]
  refine hK _ _ ?_
  clear hK K
  refine den_ret ?_
  simp (disch := decide) only [resP_2, puts_same, puts_ne]
  have hn : ¬ prC X U f Y V g = 0 := by rw [← pri_eq]; exact c2
  have hz : prP X U f Y V g = ([], prC X U f Y V g) := by rw [prP, if_neg hn]
  rw [hz, ← pri_eq]
  exact ⟨.slice none 0 0, [], rfl, OS.nil, Fresh.nil _, eB⟩
 ·try simp only [decide_eq_true_eq, decide_eq_false_iff_not, beq_iff_eq, beq_eq_false_iff_ne, bne_iff_ne, ne_eq, Bool.not_eq_true', Bool.not_eq_false', Bool.and_eq_true, Bool.or_eq_true, bne_eq_false_iff_eq, Bool.or_eq_false_iff, Bool.and_eq_false_iff] at c2
  have hk0 : prC X U f Y V g = 0 := by rw [← pri_eq]; exact c2
  have hk := prC_0 hk0
  have hX := hk.cX
  have hY := hk.cY
  have hU := hk.cU
  have hV := hk.cV
  have hpx := hk.px
  have hlx := hk.lx
  have hly := hk.ly
  have hlX := hX.len
  have hlY := hY.len
  have hpb := isP_bnd hX.p
  have htl := tdP_len X Y
  have htl2 := tdP_len U V
  have hpp := hk.pp
  have hpy := hk.py
  refine den_skip ?_
  refine den_seq ?_
  refine den_region TTok ?_
  intro K hK
  simp -implicitDefEqProofs (disch := first | decide | assumption | omega) only [go_sem, ld31, RdS.len hdX sl22, RdS.idx hdX sl22, R1.intB hdX (Ext.pres eB), RdS.cells hdX, RdS.len hmX sl23, RdS.idx hmX sl23, RdS.cellB hmX (Ext.pres eB), RdS.cells hmX, RdS.len hdY sl22, RdS.idx hdY sl22, R1.intB hdY (Ext.pres eB), RdS.cells hdY, RdS.len hmY sl23, RdS.idx hmY sl23, RdS.cellB hmY (Ext.pres eB), RdS.cells hmY, BoxAt.cell hb0_0, BoxAt.cell hb0_3, wrap_id]
  try simp -implicitDefEqProofs (disch := first | decide | assumption | omega) only [go_sem, wrap_id]
  refine CallA.mono (iTns_ok _ _ X Y _ ⟨_, _, rfl, (RdS.pres hdX (Ext.pres eB)), (RdS.pres hmX (Ext.pres eB))⟩ ⟨_, _, rfl, (RdS.pres hdY (Ext.pres eB)), (RdS.pres hmY (Ext.pres eB))⟩ hX hY (by omega)) ?_
  intro v_ h8_2
  rintro ⟨vd8_2_0, vm8_2_0, fd8_2_0, fm8_2_0, rfl, hod8_2_0, hom8_2_0, hf8_2_0, e8_2⟩
  replace hb0_0 := BoxAt.ext hb0_0 e8_2
  replace hb0_1 := BoxAt.ext hb0_1 e8_2
  replace hb0_2 := BoxAt.ext hb0_2 e8_2
  replace hb0_3 := BoxAt.ext hb0_3 e8_2
  replace hb0_4 := BoxAt.ext hb0_4 e8_2
  replace hb0_5 := BoxAt.ext hb0_5 e8_2
  replace ho1_4 := RdA.pres ho1_4 (Ext.pres e8_2)
  have := Ext.size e8_2
  replace eB := Ext.trans eB e8_2
  have hfd8_2_0 := hf8_2_0.left
  have hfm8_2_0 := hf8_2_0.right
  have hlhod8_2_0 := OS.lt hod8_2_0
  have hlhom8_2_0 := OS.lt hom8_2_0
  have ap15 : Apart fd8_2_0 fm8_2_0 := apart_nodup hf8_2_0
  try simp -implicitDefEqProofs (disch := first | decide | assumption | omega) only [go_sem, RdS.len (OS.rd hod8_2_0) sl22, RdS.idx (OS.rd hod8_2_0) sl22, R1.intN (OS.rd hod8_2_0), RdS.cells (OS.rd hod8_2_0), RdS.len (OS.rd hom8_2_0) sl23, RdS.idx (OS.rd hom8_2_0) sl23, RdS.cellN (OS.rd hom8_2_0), RdS.cells (OS.rd hom8_2_0), wrap_id]
  refine op_alloc (cs := #[.int .i64 0, .slice none 0 0, .slice none 0 0]) (by kernel_rfl) ?_
  intro h8_6 e8_6 hb8_6 z8_6
  replace hod8_2_0 := OS.ext hod8_2_0 e8_6
  replace hom8_2_0 := OS.ext hom8_2_0 e8_6
  replace hb0_0 := BoxAt.ext hb0_0 e8_6
  replace hb0_1 := BoxAt.ext hb0_1 e8_6
  replace hb0_2 := BoxAt.ext hb0_2 e8_6
  replace hb0_3 := BoxAt.ext hb0_3 e8_6
  replace hb0_4 := BoxAt.ext hb0_4 e8_6
  replace hb0_5 := BoxAt.ext hb0_5 e8_6
  replace ho1_4 := RdA.pres ho1_4 (Ext.pres e8_6)
  have := Ext.size e8_6
  replace eB := Ext.trans eB e8_6
  have hfhb8_6 : Fresh h8_2.size [h8_2.size] := Fresh.one _
  have hlhb8_6 := one_lt (show h8_2.size < h8_6.size by omega)
  try simp -implicitDefEqProofs (disch := first | decide | assumption | omega) only [go_sem, wrap_id]
  refine op_storeB (cs' := #[.int .i64 ((((teP X Y).1).p)), vd8_2_0, vm8_2_0]) st31 hb8_6 rfl rfl rfl (by simp) (allOne_mem (l := [.int .i64 ((((teP X Y).1).p)), vd8_2_0, vm8_2_0]) ⟨rfl, (OS.one hod8_2_0).1, (OS.one hom8_2_0).1, trivial⟩) rfl ?_
  intro h8_7 hb8_6 c8_7
  replace hod8_2_0 := OS.chg hod8_2_0 c8_7 (apart_lt hlhod8_2_0 hfhb8_6 (by omega))
  replace hom8_2_0 := OS.chg hom8_2_0 c8_7 (apart_lt hlhom8_2_0 hfhb8_6 (by omega))
  replace hb0_0 := BoxAt.chgA hb0_0 c8_7 (apart_lt hlhb0_0 hfhb8_6 (by omega))
  replace hb0_1 := BoxAt.chgA hb0_1 c8_7 (apart_lt hlhb0_1 hfhb8_6 (by omega))
  replace hb0_2 := BoxAt.chgA hb0_2 c8_7 (apart_lt hlhb0_2 hfhb8_6 (by omega))
  replace hb0_3 := BoxAt.chgA hb0_3 c8_7 (apart_lt hlhb0_3 hfhb8_6 (by omega))
  replace hb0_4 := BoxAt.chgA hb0_4 c8_7 (apart_lt hlhb0_4 hfhb8_6 (by omega))
  replace hb0_5 := BoxAt.chgA hb0_5 c8_7 (apart_lt hlhb0_5 hfhb8_6 (by omega))
  have := c8_7.size
  replace eB := Ext.then eB c8_7 (ge_of hfhb8_6 (by omega))
  try simp -implicitDefEqProofs (disch := first | decide | assumption | omega) only [go_sem, wrap_id]
  refine hK _ _ ?_
  clear hK K
  refine den_seq ?_
  refine den_region TTok ?_
  intro K hK
  simp -implicitDefEqProofs (disch := first | decide | assumption | omega) only [go_sem, ld31, RdS.len hdU sl22, RdS.idx hdU sl22, R1.intB hdU (Ext.pres eB), RdS.cells hdU, RdS.len hmU sl23, RdS.idx hmU sl23, RdS.cellB hmU (Ext.pres eB), RdS.cells hmU, RdS.len hdV sl22, RdS.idx hdV sl22, R1.intB hdV (Ext.pres eB), RdS.cells hdV, RdS.len hmV sl23, RdS.idx hmV sl23, RdS.cellB hmV (Ext.pres eB), RdS.cells hmV, BoxAt.cell hb0_1, BoxAt.cell hb0_4, wrap_id]
  try simp -implicitDefEqProofs (disch := first | decide | assumption | omega) only [go_sem, wrap_id]
  refine CallA.mono (iTns_ok _ _ U V _ ⟨_, _, rfl, (RdS.pres hdU (Ext.pres eB)), (RdS.pres hmU (Ext.pres eB))⟩ ⟨_, _, rfl, (RdS.pres hdV (Ext.pres eB)), (RdS.pres hmV (Ext.pres eB))⟩ hU hV (by omega)) ?_
  intro v_ h9_2
  rintro ⟨vd9_2_0, vm9_2_0, fd9_2_0, fm9_2_0, rfl, hod9_2_0, hom9_2_0, hf9_2_0, e9_2⟩
  replace hb0_0 := BoxAt.ext hb0_0 e9_2
  replace hb0_1 := BoxAt.ext hb0_1 e9_2
  replace hb0_2 := BoxAt.ext hb0_2 e9_2
  replace hb0_3 := BoxAt.ext hb0_3 e9_2
  replace hb0_4 := BoxAt.ext hb0_4 e9_2
  replace hb0_5 := BoxAt.ext hb0_5 e9_2
  have := Ext.size e9_2
  replace eB := Ext.trans eB e9_2
  have hfd9_2_0 := hf9_2_0.left
  have hfm9_2_0 := hf9_2_0.right
  have hlhod9_2_0 := OS.lt hod9_2_0
  have hlhom9_2_0 := OS.lt hom9_2_0
  have ap16 : Apart fd9_2_0 fm9_2_0 := apart_nodup hf9_2_0
  try simp -implicitDefEqProofs (disch := first | decide | assumption | omega) only [go_sem, RdS.len (OS.rd hod9_2_0) sl22, RdS.idx (OS.rd hod9_2_0) sl22, R1.intN (OS.rd hod9_2_0), RdS.cells (OS.rd hod9_2_0), RdS.len (OS.rd hom9_2_0) sl23, RdS.idx (OS.rd hom9_2_0) sl23, RdS.cellN (OS.rd hom9_2_0), RdS.cells (OS.rd hom9_2_0), wrap_id]
  refine op_alloc (cs := #[.int .i64 0, .slice none 0 0, .slice none 0 0]) (by kernel_rfl) ?_
  intro h9_6 e9_6 hb9_6 z9_6
  replace hod9_2_0 := OS.ext hod9_2_0 e9_6
  replace hom9_2_0 := OS.ext hom9_2_0 e9_6
  replace hb0_0 := BoxAt.ext hb0_0 e9_6
  replace hb0_1 := BoxAt.ext hb0_1 e9_6
  replace hb0_2 := BoxAt.ext hb0_2 e9_6
  replace hb0_3 := BoxAt.ext hb0_3 e9_6
  replace hb0_4 := BoxAt.ext hb0_4 e9_6
  replace hb0_5 := BoxAt.ext hb0_5 e9_6
  have := Ext.size e9_6
  replace eB := Ext.trans eB e9_6
  have hfhb9_6 : Fresh h9_2.size [h9_2.size] := Fresh.one _
  have hlhb9_6 := one_lt (show h9_2.size < h9_6.size by omega)
  try simp -implicitDefEqProofs (disch := first | decide | assumption | omega) only [go_sem, wrap_id]
  refine op_storeB (cs' := #[.int .i64 ((((teP U V).1).p)), vd9_2_0, vm9_2_0]) st31 hb9_6 rfl rfl rfl (by simp) (allOne_mem (l := [.int .i64 ((((teP U V).1).p)), vd9_2_0, vm9_2_0]) ⟨rfl, (OS.one hod9_2_0).1, (OS.one hom9_2_0).1, trivial⟩) rfl ?_
  intro h9_7 hb9_6 c9_7
  replace hod9_2_0 := OS.chg hod9_2_0 c9_7 (apart_lt hlhod9_2_0 hfhb9_6 (by omega))
  replace hom9_2_0 := OS.chg hom9_2_0 c9_7 (apart_lt hlhom9_2_0 hfhb9_6 (by omega))
  replace hb0_0 := BoxAt.chgA hb0_0 c9_7 (apart_lt hlhb0_0 hfhb9_6 (by omega))
  replace hb0_1 := BoxAt.chgA hb0_1 c9_7 (apart_lt hlhb0_1 hfhb9_6 (by omega))
  replace hb0_2 := BoxAt.chgA hb0_2 c9_7 (apart_lt hlhb0_2 hfhb9_6 (by omega))
  replace hb0_3 := BoxAt.chgA hb0_3 c9_7 (apart_lt hlhb0_3 hfhb9_6 (by omega))
  replace hb0_4 := BoxAt.chgA hb0_4 c9_7 (apart_lt hlhb0_4 hfhb9_6 (by omega))
  replace hb0_5 := BoxAt.chgA hb0_5 c9_7 (apart_lt hlhb0_5 hfhb9_6 (by omega))
  have := c9_7.size
  replace eB := Ext.then eB c9_7 (ge_of hfhb9_6 (by omega))
  try simp -implicitDefEqProofs (disch := first | decide | assumption | omega) only [go_sem, wrap_id]
  refine hK _ _ ?_
  clear hK K
  refine den_seq ?_
  refine den_seq ?_
  refine den_mergeH [(95, .bool (((((teP X Y).2) != (0 : Int)) || (((teP U V).2) != (0 : Int)))))] [6, 7, 8, 9, 10, 11] ?_ ?_
   -- a way
  ·refine den_region TTok ?_
   intro K hK
   simp -implicitDefEqProofs (disch := first | decide | assumption | (simp (disch := decide) only [slotOf_zero, slotOf_succ, Option.map_some, puts_same, puts_ne, gv_bool, gv_undef, tt, tf, ft, ff, eq_self, if_true, if_false, Bool.false_eq_true, Bool.not_true, Bool.not_false]; done) | omega) only [go_sem, wrap_id]
   refine opsP_F (by simp (disch := decide) only [slotOf_zero, slotOf_succ, Option.map_some, puts_same, puts_ne, gv_bool, gv_undef, tt, tf, ft, ff, eq_self, if_true, if_false, Bool.false_eq_true, Bool.not_true, Bool.not_false]; rfl) (fun g17 => ?_) (fun g17 => ?_)
   ·try simp -implicitDefEqProofs (disch := first | decide | assumption | (simp (disch := decide) only [slotOf_zero, slotOf_succ, Option.map_some, puts_same, puts_ne, gv_bool, gv_undef, tt, tf, ft, ff, eq_self, if_true, if_false, Bool.false_eq_true, Bool.not_true, Bool.not_false, g17]; done) | omega) only [go_sem, wrap_id, g17, eq_self, if_true, if_false, Bool.false_eq_true]
    refine hK _ _ ?_
    clear hK K
    refine den_stop ?_
    refine ⟨?_, rfl⟩
    first | (simp (disch := decide) only [go_sem, g17, eq_self, Bool.true_and, Bool.and_true, Bool.false_and, Bool.and_false, Bool.true_or, Bool.or_true, Bool.false_or, Bool.or_false, if_true, if_false, Bool.false_eq_true]; done) | simp [HasL, sel, puts_at, g17]
   ·try simp -implicitDefEqProofs (disch := first | decide | assumption | (simp (disch := decide) only [slotOf_zero, slotOf_succ, Option.map_some, puts_same, puts_ne, gv_bool, gv_undef, tt, tf, ft, ff, eq_self, if_true, if_false, Bool.false_eq_true, Bool.not_true, Bool.not_false, g17]; done) | omega) only [go_sem, wrap_id, g17, eq_self, if_true, if_false, Bool.false_eq_true]
    refine hK _ _ ?_
    clear hK K
    refine den_stop ?_
    refine ⟨?_, rfl⟩
    first | (simp (disch := decide) only [go_sem, g17, eq_self, Bool.true_and, Bool.and_true, Bool.false_and, Bool.and_false, Bool.true_or, Bool.or_true, Bool.false_or, Bool.or_false, if_true, if_false, Bool.false_eq_true]; done) | simp [HasL, sel, puts_at, g17]
  intro en18
  simp (disch := decide) only [go_sem]
  refine den_cond rfl (fun c3 => ?_) (fun c3 => ?_)
  ·try simp only [decide_eq_true_eq, decide_eq_false_iff_not, beq_iff_eq, beq_eq_false_iff_ne, bne_iff_ne, ne_eq, Bool.not_eq_true', Bool.not_eq_false', Bool.and_eq_true, Bool.or_eq_true, bne_eq_false_iff_eq, Bool.or_eq_false_iff, Bool.and_eq_false_iff] at c3
   refine den_seq ?_
   refine den_region TTok ?_
   intro K hK
   simp -implicitDefEqProofs (disch := first | decide | assumption | omega) only [go_sem, wrap_id]
   refine hK _ _ ?_
   clear hK K
   refine den_ret ?_
   simp (disch := decide) only [resP_2, puts_same, puts_ne]
   have hz : prP X U f Y V g = ([], 3) := by rw [prP, if_pos hk0, if_neg (fun h => c3.elim (fun q => q (by rw [teP, if_pos h.1])) (fun q => q (by rw [teP, if_pos h.2])))]
   rw [hz]
   exact ⟨.slice none 0 0, [], rfl, OS.nil, Fresh.nil _, eB⟩
  ·try simp only [decide_eq_true_eq, decide_eq_false_iff_not, beq_iff_eq, beq_eq_false_iff_ne, bne_iff_ne, ne_eq, Bool.not_eq_true', Bool.not_eq_false', Bool.and_eq_true, Bool.or_eq_true, bne_eq_false_iff_eq, Bool.or_eq_false_iff, Bool.and_eq_false_iff] at c3
   refine den_skip ?_
   refine den_seq ?_
   refine den_region TTok ?_
   intro K hK
   simp -implicitDefEqProofs (disch := first | decide | assumption | omega) only [go_sem, ld31, RdS.len hdX sl22, RdS.idx hdX sl22, R1.intB hdX (Ext.pres eB), RdS.cells hdX, RdS.len hmX sl23, RdS.idx hmX sl23, RdS.cellB hmX (Ext.pres eB), RdS.cells hmX, RdS.len hdU sl22, RdS.idx hdU sl22, R1.intB hdU (Ext.pres eB), RdS.cells hdU, RdS.len hmU sl23, RdS.idx hmU sl23, RdS.cellB hmU (Ext.pres eB), RdS.cells hmU, RdS.len rf sl23, RdS.idx rf sl23, RdS.cellB rf (Ext.pres eB), RdS.cells rf, RdS.len hdY sl22, RdS.idx hdY sl22, R1.intB hdY (Ext.pres eB), RdS.cells hdY, RdS.len hmY sl23, RdS.idx hmY sl23, RdS.cellB hmY (Ext.pres eB), RdS.cells hmY, RdS.len hdV sl22, RdS.idx hdV sl22, R1.intB hdV (Ext.pres eB), RdS.cells hdV, RdS.len hmV sl23, RdS.idx hmV sl23, RdS.cellB hmV (Ext.pres eB), RdS.cells hmV, RdS.len rg sl23, RdS.idx rg sl23, RdS.cellB rg (Ext.pres eB), RdS.cells rg, BoxAt.cell hb0_0, BoxAt.cell hb0_1, BoxAt.cell hb0_2, BoxAt.cell hb0_3, BoxAt.cell hb0_4, BoxAt.cell hb0_5, wrap_id]
   try simp -implicitDefEqProofs (disch := first | decide | assumption | omega) only [go_sem, wrap_id]
   refine CallA.mono (pairFam_ok X Y vdX vmX vdY vmY (prRow U V f g) _ _ _ (RdS.pres hdX (Ext.pres eB)) (RdS.pres hmX (Ext.pres eB)) (RdS.pres hdY (Ext.pres eB)) (RdS.pres hmY (Ext.pres eB)) hX hY (fun i a b j ha hb hj h' e => by
  obtain ⟨m, rfl⟩ := Int.eq_ofNat_of_zero_le hj
  simp only [List.append_toArray, List.cons_append, List.nil_append]
  exact prC1_ok X U Y V f g vdU vmU vdV vmV vf vg i a m b _ _ _ _ h h' hdU hmU hdV hmV rf rg (Ext.trans eB e) (BoxAt.ext hb0_1 e) (BoxAt.ext hb0_4 e) (BoxAt.ext hb0_2 e) (BoxAt.ext hb0_5 e) hk ha hb)) ?_
   intro vw12_3 h12_3
   rintro ⟨fw12_3, how12_3, hfw12_3, e12_3⟩
   replace hb0_0 := BoxAt.ext hb0_0 e12_3
   replace hb0_1 := BoxAt.ext hb0_1 e12_3
   replace hb0_2 := BoxAt.ext hb0_2 e12_3
   replace hb0_3 := BoxAt.ext hb0_3 e12_3
   replace hb0_4 := BoxAt.ext hb0_4 e12_3
   replace hb0_5 := BoxAt.ext hb0_5 e12_3
   have := Ext.size e12_3
   replace eB := Ext.trans eB e12_3
   have hlhow12_3 := OS.lt how12_3
   try simp -implicitDefEqProofs (disch := first | decide | assumption | omega) only [go_sem, RdS.len (OS.rd how12_3) sl23, RdS.idx (OS.rd how12_3) sl23, RdS.cellN (OS.rd how12_3), RdS.cells (OS.rd how12_3), wrap_id]
   refine hK _ _ ?_
   clear hK K
   refine den_ret ?_
   simp (disch := decide) only [resP_2, puts_same, puts_ne]
   have hft : fitP (tdP X Y) = true ∧ fitP (tdP U V) = true := ⟨te_0 c3.1, te_0 c3.2⟩
   have hz : prP X U f Y V g = (pfam X Y (prRow U V f g), 0) := by rw [prP, if_pos hk0, if_pos hft]
   rw [hz]
   exact ⟨_, _, rfl, how12_3, hfw12_3.mono (by omega), eB⟩
end Go.Proofs.Ytjjjgllbocgkbaa

namespace Go.Proofs.Ytjjjgllbocgkbaa
open Go
set_option maxRecDepth 100000 in
set_option maxHeartbeats 4000000 in
theorem exactProductFamily_law (vX vU vf vY vV vg : Value) (X : Cx) (U : Cx) (f : List (List (List Int))) (Y : Cx) (V : Cx) (g : List (List (List Int))) (h : Heap) (rX : RC h vX X) (rU : RC h vU U) (rf : R3 h vf f) (rY : RC h vY Y) (rV : RC h vV V) (rg : R3 h vg g)  : CallA Try.prog 14 #[vX, vU, vf, vY, vV, vg] h fun v' h' => v' = .bool (true) ∧ Ext h h' := by
 obtain ⟨vdX, vmX, rfl, hdX, hmX⟩ := rX
 have hledX := RdS.le hdX
 have hlemX := RdS.le hmX
 obtain ⟨vdU, vmU, rfl, hdU, hmU⟩ := rU
 have hledU := RdS.le hdU
 have hlemU := RdS.le hmU
 have hlef := RdS.le rf
 obtain ⟨vdY, vmY, rfl, hdY, hmY⟩ := rY
 have hledY := RdS.le hdY
 have hlemY := RdS.le hmY
 obtain ⟨vdV, vmV, rfl, hdV, hmV⟩ := rV
 have hledV := RdS.le hdV
 have hlemV := RdS.le hmV
 have hleg := RdS.le rg
 refine callA_intro TTok (args := [_, _, _, _, _, _]) Try.func14 (by kernel_rfl) rfl 211 rfl (by simp) [.tmp 12] rfl ?_
 simp only [idxs, Nat.reduceAdd]
 refine den_seq ?_
 refine den_region TTok ?_
 intro K hK
 simp -implicitDefEqProofs (disch := first | decide | assumption | omega) only [go_sem, wrap_id]
 refine op_box (cs := #[.int .i64 (X.p), vdX, vmX]) rfl ?_
 intro h0_0 e0_0 hb0_0 z0_0
 have := Ext.size e0_0
 have eB := e0_0
 have hfhb0_0 : Fresh h.size [h.size] := Fresh.one _
 have hlhb0_0 := one_lt (show h.size < h0_0.size by omega)
 try simp -implicitDefEqProofs (disch := first | decide | assumption | omega) only [go_sem, wrap_id]
 refine op_box (cs := #[.int .i64 (U.p), vdU, vmU]) rfl ?_
 intro h0_1 e0_1 hb0_1 z0_1
 replace hb0_0 := BoxAt.ext hb0_0 e0_1
 have := Ext.size e0_1
 replace eB := Ext.trans eB e0_1
 have hfhb0_1 : Fresh h0_0.size [h0_0.size] := Fresh.one _
 have hlhb0_1 := one_lt (show h0_0.size < h0_1.size by omega)
 try simp -implicitDefEqProofs (disch := first | decide | assumption | omega) only [go_sem, wrap_id]
 refine op_box (cs := #[.int .i64 (Y.p), vdY, vmY]) rfl ?_
 intro h0_2 e0_2 hb0_2 z0_2
 replace hb0_0 := BoxAt.ext hb0_0 e0_2
 replace hb0_1 := BoxAt.ext hb0_1 e0_2
 have := Ext.size e0_2
 replace eB := Ext.trans eB e0_2
 have hfhb0_2 : Fresh h0_1.size [h0_1.size] := Fresh.one _
 have hlhb0_2 := one_lt (show h0_1.size < h0_2.size by omega)
 try simp -implicitDefEqProofs (disch := first | decide | assumption | omega) only [go_sem, wrap_id]
 refine op_box (cs := #[.int .i64 (V.p), vdV, vmV]) rfl ?_
 intro h0_3 e0_3 hb0_3 z0_3
 replace hb0_0 := BoxAt.ext hb0_0 e0_3
 replace hb0_1 := BoxAt.ext hb0_1 e0_3
 replace hb0_2 := BoxAt.ext hb0_2 e0_3
 have := Ext.size e0_3
 replace eB := Ext.trans eB e0_3
 have hfhb0_3 : Fresh h0_2.size [h0_2.size] := Fresh.one _
 have hlhb0_3 := one_lt (show h0_2.size < h0_3.size by omega)
 try simp -implicitDefEqProofs (disch := first | decide | assumption | omega) only [go_sem, wrap_id]
 refine hK _ _ ?_
 clear hK K
 refine den_seq ?_
 refine den_region TTok ?_
 intro K hK
 simp -implicitDefEqProofs (disch := first | decide | assumption | omega) only [go_sem, wrap_id]
 refine hK _ _ ?_
 clear hK K
 refine den_seq ?_
 refine den_region TTok ?_
 intro K hK
 simp -implicitDefEqProofs (disch := first | decide | assumption | omega) only [go_sem, ld25, BoxAt.cell hb0_0, wrap_id]
 try simp -implicitDefEqProofs (disch := first | decide | assumption | omega) only [go_sem, wrap_id]
 refine CallA.mono (szC_ok _ X _ _ ⟨_, _, rfl, (RdS.pres hdX (Ext.pres eB)), (RdS.pres hmX (Ext.pres eB))⟩ (by omega) (by omega)) ?_
 intro v_ h2_2
 rintro ⟨rfl, e2_2⟩
 replace hb0_0 := BoxAt.ext hb0_0 e2_2
 replace hb0_1 := BoxAt.ext hb0_1 e2_2
 replace hb0_2 := BoxAt.ext hb0_2 e2_2
 replace hb0_3 := BoxAt.ext hb0_3 e2_2
 have := Ext.size e2_2
 replace eB := Ext.trans eB e2_2
 have := szC_le X (1048576 : Int) (by omega)
 try simp -implicitDefEqProofs (disch := first | decide | assumption | omega) only [go_sem, wrap_id]
 refine hK _ _ ?_
 clear hK K
 refine den_seq ?_
 refine den_seq ?_
 refine den_region TTok ?_
 intro K hK
 simp -implicitDefEqProofs (disch := first | decide | assumption | omega) only [go_sem, wrap_id]
 refine hK _ _ ?_
 clear hK K
 refine den_cond rfl (fun c0 => ?_) (fun c0 => ?_)
 ·try simp only [decide_eq_true_eq, decide_eq_false_iff_not, beq_iff_eq, beq_eq_false_iff_ne, bne_iff_ne, ne_eq, Bool.not_eq_true', Bool.not_eq_false', Bool.and_eq_true, Bool.or_eq_true, bne_eq_false_iff_eq] at c0
  refine den_seq ?_
  refine den_region TTok ?_
  intro K hK
  simp -implicitDefEqProofs (disch := first | decide | assumption | omega) only [go_sem, wrap_id]
  refine hK _ _ ?_
  clear hK K
  refine den_ret ?_
  simp (disch := decide) only [resP_1, puts_same, puts_ne]
  exact ⟨by first | rfl | trivial, eB⟩
 ·try simp only [decide_eq_true_eq, decide_eq_false_iff_not, beq_iff_eq, beq_eq_false_iff_ne, bne_iff_ne, ne_eq, Bool.not_eq_true', Bool.not_eq_false', Bool.and_eq_true, Bool.or_eq_true, bne_eq_false_iff_eq] at c0
  have hMX := szC_ok' (by omega) (by omega) c0
  have hcnX := szC_cntA (by omega) (by omega) c0
  refine den_skip ?_
  refine den_seq ?_
  refine den_region TTok ?_
  intro K hK
  simp -implicitDefEqProofs (disch := first | decide | assumption | omega) only [go_sem, ld25, BoxAt.cell hb0_1, wrap_id]
  try simp -implicitDefEqProofs (disch := first | decide | assumption | omega) only [go_sem, wrap_id]
  refine CallA.mono (szC_ok _ U _ _ ⟨_, _, rfl, (RdS.pres hdU (Ext.pres eB)), (RdS.pres hmU (Ext.pres eB))⟩ (by omega) (by omega)) ?_
  intro v_ h5_2
  rintro ⟨rfl, e5_2⟩
  replace hb0_0 := BoxAt.ext hb0_0 e5_2
  replace hb0_1 := BoxAt.ext hb0_1 e5_2
  replace hb0_2 := BoxAt.ext hb0_2 e5_2
  replace hb0_3 := BoxAt.ext hb0_3 e5_2
  have := Ext.size e5_2
  replace eB := Ext.trans eB e5_2
  have := szC_le U (szC X (1048576 : Int)) (by omega)
  try simp -implicitDefEqProofs (disch := first | decide | assumption | omega) only [go_sem, wrap_id]
  refine hK _ _ ?_
  clear hK K
  refine den_seq ?_
  refine den_seq ?_
  refine den_region TTok ?_
  intro K hK
  simp -implicitDefEqProofs (disch := first | decide | assumption | omega) only [go_sem, wrap_id]
  refine hK _ _ ?_
  clear hK K
  refine den_cond rfl (fun c1 => ?_) (fun c1 => ?_)
  ·try simp only [decide_eq_true_eq, decide_eq_false_iff_not, beq_iff_eq, beq_eq_false_iff_ne, bne_iff_ne, ne_eq, Bool.not_eq_true', Bool.not_eq_false', Bool.and_eq_true, Bool.or_eq_true, bne_eq_false_iff_eq] at c1
   refine den_seq ?_
   refine den_region TTok ?_
   intro K hK
   simp -implicitDefEqProofs (disch := first | decide | assumption | omega) only [go_sem, wrap_id]
   refine hK _ _ ?_
   clear hK K
   refine den_ret ?_
   simp (disch := decide) only [resP_1, puts_same, puts_ne]
   exact ⟨by first | rfl | trivial, eB⟩
  ·try simp only [decide_eq_true_eq, decide_eq_false_iff_not, beq_iff_eq, beq_eq_false_iff_ne, bne_iff_ne, ne_eq, Bool.not_eq_true', Bool.not_eq_false', Bool.and_eq_true, Bool.or_eq_true, bne_eq_false_iff_eq] at c1
   have hMU := szC_ok' (by omega) (by omega) c1
   have hcnU := szC_cntA (by omega) (by omega) c1
   refine den_skip ?_
   refine den_seq ?_
   refine den_region TTok ?_
   intro K hK
   simp -implicitDefEqProofs (disch := first | decide | assumption | omega) only [go_sem, wrap_id]
   try simp -implicitDefEqProofs (disch := first | decide | assumption | omega) only [go_sem, wrap_id]
   refine CallA.pure (szSSS_ok _ f _ _ (RdS.pres rf (Ext.pres eB)) (by omega) (by omega)) ?_
   have := sz3_le f (szC U (szC X (1048576 : Int))) (by omega)
   try simp -implicitDefEqProofs (disch := first | decide | assumption | omega) only [go_sem, wrap_id]
   refine hK _ _ ?_
   clear hK K
   refine den_seq ?_
   refine den_seq ?_
   refine den_region TTok ?_
   intro K hK
   simp -implicitDefEqProofs (disch := first | decide | assumption | omega) only [go_sem, wrap_id]
   refine hK _ _ ?_
   clear hK K
   refine den_cond rfl (fun c2 => ?_) (fun c2 => ?_)
   ·try simp only [decide_eq_true_eq, decide_eq_false_iff_not, beq_iff_eq, beq_eq_false_iff_ne, bne_iff_ne, ne_eq, Bool.not_eq_true', Bool.not_eq_false', Bool.and_eq_true, Bool.or_eq_true, bne_eq_false_iff_eq] at c2
    refine den_seq ?_
    refine den_region TTok ?_
    intro K hK
    simp -implicitDefEqProofs (disch := first | decide | assumption | omega) only [go_sem, wrap_id]
    refine hK _ _ ?_
    clear hK K
    refine den_ret ?_
    simp (disch := decide) only [resP_1, puts_same, puts_ne]
    exact ⟨by first | rfl | trivial, eB⟩
   ·try simp only [decide_eq_true_eq, decide_eq_false_iff_not, beq_iff_eq, beq_eq_false_iff_ne, bne_iff_ne, ne_eq, Bool.not_eq_true', Bool.not_eq_false', Bool.and_eq_true, Bool.or_eq_true, bne_eq_false_iff_eq] at c2
    have hMf := sz3_ok (by omega) (by omega) c2
    have hcnf := sz3_cntA (by omega) (by omega) c2
    refine den_skip ?_
    refine den_seq ?_
    refine den_region TTok ?_
    intro K hK
    simp -implicitDefEqProofs (disch := first | decide | assumption | omega) only [go_sem, ld25, BoxAt.cell hb0_2, wrap_id]
    try simp -implicitDefEqProofs (disch := first | decide | assumption | omega) only [go_sem, wrap_id]
    refine CallA.mono (szC_ok _ Y _ _ ⟨_, _, rfl, (RdS.pres hdY (Ext.pres eB)), (RdS.pres hmY (Ext.pres eB))⟩ (by omega) (by omega)) ?_
    intro v_ h11_2
    rintro ⟨rfl, e11_2⟩
    replace hb0_0 := BoxAt.ext hb0_0 e11_2
    replace hb0_1 := BoxAt.ext hb0_1 e11_2
    replace hb0_2 := BoxAt.ext hb0_2 e11_2
    replace hb0_3 := BoxAt.ext hb0_3 e11_2
    have := Ext.size e11_2
    replace eB := Ext.trans eB e11_2
    have := szC_le Y (sz3 f (szC U (szC X (1048576 : Int)))) (by omega)
    try simp -implicitDefEqProofs (disch := first | decide | assumption | omega) only [go_sem, wrap_id]
    refine hK _ _ ?_
    clear hK K
    refine den_seq ?_
    refine den_seq ?_
    refine den_region TTok ?_
    intro K hK
    simp -implicitDefEqProofs (disch := first | decide | assumption | omega) only [go_sem, wrap_id]
    refine hK _ _ ?_
    clear hK K
    refine den_cond rfl (fun c3 => ?_) (fun c3 => ?_)
    ·try simp only [decide_eq_true_eq, decide_eq_false_iff_not, beq_iff_eq, beq_eq_false_iff_ne, bne_iff_ne, ne_eq, Bool.not_eq_true', Bool.not_eq_false', Bool.and_eq_true, Bool.or_eq_true, bne_eq_false_iff_eq] at c3
     refine den_seq ?_
     refine den_region TTok ?_
     intro K hK
     simp -implicitDefEqProofs (disch := first | decide | assumption | omega) only [go_sem, wrap_id]
     refine hK _ _ ?_
     clear hK K
     refine den_ret ?_
     simp (disch := decide) only [resP_1, puts_same, puts_ne]
     exact ⟨by first | rfl | trivial, eB⟩
    ·try simp only [decide_eq_true_eq, decide_eq_false_iff_not, beq_iff_eq, beq_eq_false_iff_ne, bne_iff_ne, ne_eq, Bool.not_eq_true', Bool.not_eq_false', Bool.and_eq_true, Bool.or_eq_true, bne_eq_false_iff_eq] at c3
     have hMY := szC_ok' (by omega) (by omega) c3
     have hcnY := szC_cntA (by omega) (by omega) c3
     refine den_skip ?_
     refine den_seq ?_
     refine den_region TTok ?_
     intro K hK
     simp -implicitDefEqProofs (disch := first | decide | assumption | omega) only [go_sem, ld25, BoxAt.cell hb0_3, wrap_id]
     try simp -implicitDefEqProofs (disch := first | decide | assumption | omega) only [go_sem, wrap_id]
     refine CallA.mono (szC_ok _ V _ _ ⟨_, _, rfl, (RdS.pres hdV (Ext.pres eB)), (RdS.pres hmV (Ext.pres eB))⟩ (by omega) (by omega)) ?_
     intro v_ h14_2
     rintro ⟨rfl, e14_2⟩
     replace hb0_0 := BoxAt.ext hb0_0 e14_2
     replace hb0_1 := BoxAt.ext hb0_1 e14_2
     replace hb0_2 := BoxAt.ext hb0_2 e14_2
     replace hb0_3 := BoxAt.ext hb0_3 e14_2
     have := Ext.size e14_2
     replace eB := Ext.trans eB e14_2
     have := szC_le V (szC Y (sz3 f (szC U (szC X (1048576 : Int))))) (by omega)
     try simp -implicitDefEqProofs (disch := first | decide | assumption | omega) only [go_sem, wrap_id]
     refine hK _ _ ?_
     clear hK K
     refine den_seq ?_
     refine den_seq ?_
     refine den_region TTok ?_
     intro K hK
     simp -implicitDefEqProofs (disch := first | decide | assumption | omega) only [go_sem, wrap_id]
     refine hK _ _ ?_
     clear hK K
     refine den_cond rfl (fun c4 => ?_) (fun c4 => ?_)
     ·try simp only [decide_eq_true_eq, decide_eq_false_iff_not, beq_iff_eq, beq_eq_false_iff_ne, bne_iff_ne, ne_eq, Bool.not_eq_true', Bool.not_eq_false', Bool.and_eq_true, Bool.or_eq_true, bne_eq_false_iff_eq] at c4
      refine den_seq ?_
      refine den_region TTok ?_
      intro K hK
      simp -implicitDefEqProofs (disch := first | decide | assumption | omega) only [go_sem, wrap_id]
      refine hK _ _ ?_
      clear hK K
      refine den_ret ?_
      simp (disch := decide) only [resP_1, puts_same, puts_ne]
      exact ⟨by first | rfl | trivial, eB⟩
     ·try simp only [decide_eq_true_eq, decide_eq_false_iff_not, beq_iff_eq, beq_eq_false_iff_ne, bne_iff_ne, ne_eq, Bool.not_eq_true', Bool.not_eq_false', Bool.and_eq_true, Bool.or_eq_true, bne_eq_false_iff_eq] at c4
      have hMV := szC_ok' (by omega) (by omega) c4
      have hcnV := szC_cntA (by omega) (by omega) c4
      refine den_skip ?_
      refine den_seq ?_
      refine den_region TTok ?_
      intro K hK
      simp -implicitDefEqProofs (disch := first | decide | assumption | omega) only [go_sem, wrap_id]
      try simp -implicitDefEqProofs (disch := first | decide | assumption | omega) only [go_sem, wrap_id]
      refine CallA.pure (szSSS_ok _ g _ _ (RdS.pres rg (Ext.pres eB)) (by omega) (by omega)) ?_
      have := sz3_le g (szC V (szC Y (sz3 f (szC U (szC X (1048576 : Int)))))) (by omega)
      try simp -implicitDefEqProofs (disch := first | decide | assumption | omega) only [go_sem, wrap_id]
      refine hK _ _ ?_
      clear hK K
      refine den_seq ?_
      refine den_seq ?_
      refine den_region TTok ?_
      intro K hK
      simp -implicitDefEqProofs (disch := first | decide | assumption | omega) only [go_sem, wrap_id]
      refine hK _ _ ?_
      clear hK K
      refine den_cond rfl (fun c5 => ?_) (fun c5 => ?_)
      ·try simp only [decide_eq_true_eq, decide_eq_false_iff_not, beq_iff_eq, beq_eq_false_iff_ne, bne_iff_ne, ne_eq, Bool.not_eq_true', Bool.not_eq_false', Bool.and_eq_true, Bool.or_eq_true, bne_eq_false_iff_eq] at c5
       refine den_seq ?_
       refine den_region TTok ?_
       intro K hK
       simp -implicitDefEqProofs (disch := first | decide | assumption | omega) only [go_sem, wrap_id]
       refine hK _ _ ?_
       clear hK K
       refine den_ret ?_
       simp (disch := decide) only [resP_1, puts_same, puts_ne]
       exact ⟨by first | rfl | trivial, eB⟩
      ·try simp only [decide_eq_true_eq, decide_eq_false_iff_not, beq_iff_eq, beq_eq_false_iff_ne, bne_iff_ne, ne_eq, Bool.not_eq_true', Bool.not_eq_false', Bool.and_eq_true, Bool.or_eq_true, bne_eq_false_iff_eq] at c5
       have hMg := sz3_ok (by omega) (by omega) c5
       have hcng := sz3_cntA (by omega) (by omega) c5
       have hci := cnt_pr X U f Y V g
       refine den_skip ?_
       refine den_seq ?_
       refine den_draw TTok mixed [] [(0, true), (2, true), (4, true), (6, true), (8, true), (10, true), (1, false), (3, false), (5, false), (7, false), (9, false), (11, false), (12, false), (13, true), (14, true), (15, true), (16, true), (17, true)] (by kernel_rfl) ?_
       intro K hK
       simp -implicitDefEqProofs (disch := first | decide | assumption | omega) only [go_sem, ld25, BoxAt.cell hb0_0, BoxAt.cell hb0_1, BoxAt.cell hb0_2, BoxAt.cell hb0_3, wrap_id]
       try simp -implicitDefEqProofs (disch := first | decide | assumption | omega) only [go_sem, wrap_id]
       refine CallA.mono (toC_ok _ X _ ⟨_, _, rfl, (RdS.pres hdX (Ext.pres eB)), (RdS.pres hmX (Ext.pres eB))⟩ hMX) ?_
       intro v_ h20_1
       rintro ⟨vd20_1, vm20_1, fd20_1, fm20_1, rfl, hod20_1, hom20_1, hf20_1, e20_1⟩
       replace hb0_0 := BoxAt.ext hb0_0 e20_1
       replace hb0_1 := BoxAt.ext hb0_1 e20_1
       replace hb0_2 := BoxAt.ext hb0_2 e20_1
       replace hb0_3 := BoxAt.ext hb0_3 e20_1
       have := Ext.size e20_1
       replace eB := Ext.trans eB e20_1
       have hfd20_1 := hf20_1.left
       have hfm20_1 := hf20_1.right
       have hlhod20_1 := OS.lt hod20_1
       have hlhom20_1 := OS.lt hom20_1
       have ap1 : Apart fd20_1 fm20_1 := apart_nodup hf20_1
       try simp (disch := decide) only [outv_some, outv_none, put_puts]
       refine plK_pres (Ext.pres e20_1) ?_
       try simp -implicitDefEqProofs (disch := first | decide | assumption | omega) only [go_sem, wrap_id]
       try simp -implicitDefEqProofs (disch := first | decide | assumption | omega) only [go_sem, wrap_id]
       refine CallA.mono (toC_ok _ U _ ⟨_, _, rfl, (RdS.pres hdU (Ext.pres eB)), (RdS.pres hmU (Ext.pres eB))⟩ hMU) ?_
       intro v_ h20_3
       rintro ⟨vd20_3, vm20_3, fd20_3, fm20_3, rfl, hod20_3, hom20_3, hf20_3, e20_3⟩
       replace hod20_1 := OS.ext hod20_1 e20_3
       replace hom20_1 := OS.ext hom20_1 e20_3
       replace hb0_0 := BoxAt.ext hb0_0 e20_3
       replace hb0_1 := BoxAt.ext hb0_1 e20_3
       replace hb0_2 := BoxAt.ext hb0_2 e20_3
       replace hb0_3 := BoxAt.ext hb0_3 e20_3
       have := Ext.size e20_3
       replace eB := Ext.trans eB e20_3
       have hfd20_3 := hf20_3.left
       have hfm20_3 := hf20_3.right
       have hlhod20_3 := OS.lt hod20_3
       have hlhom20_3 := OS.lt hom20_3
       have ap2 : Apart fd20_3 fm20_3 := apart_nodup hf20_3
       try simp (disch := decide) only [outv_some, outv_none, put_puts]
       refine plK_pres (Ext.pres e20_3) ?_
       try simp -implicitDefEqProofs (disch := first | decide | assumption | omega) only [go_sem, wrap_id]
       try simp -implicitDefEqProofs (disch := first | decide | assumption | omega) only [go_sem, wrap_id]
       refine CallA.mono (toSSS_ok _ f _ (RdS.pres rf (Ext.pres eB)) hMf) ?_
       intro v20_5 h20_5
       rintro ⟨f20_5, ho20_5, hf20_5, e20_5⟩
       replace hod20_1 := OS.ext hod20_1 e20_5
       replace hom20_1 := OS.ext hom20_1 e20_5
       replace hod20_3 := OS.ext hod20_3 e20_5
       replace hom20_3 := OS.ext hom20_3 e20_5
       replace hb0_0 := BoxAt.ext hb0_0 e20_5
       replace hb0_1 := BoxAt.ext hb0_1 e20_5
       replace hb0_2 := BoxAt.ext hb0_2 e20_5
       replace hb0_3 := BoxAt.ext hb0_3 e20_5
       have := Ext.size e20_5
       replace eB := Ext.trans eB e20_5
       have hlho20_5 := OS.lt ho20_5
       try simp (disch := decide) only [outv_some, outv_none, put_puts]
       refine plK_pres (Ext.pres e20_5) ?_
       try simp -implicitDefEqProofs (disch := first | decide | assumption | omega) only [go_sem, wrap_id]
       try simp -implicitDefEqProofs (disch := first | decide | assumption | omega) only [go_sem, wrap_id]
       refine CallA.mono (toC_ok _ Y _ ⟨_, _, rfl, (RdS.pres hdY (Ext.pres eB)), (RdS.pres hmY (Ext.pres eB))⟩ hMY) ?_
       intro v_ h20_7
       rintro ⟨vd20_7, vm20_7, fd20_7, fm20_7, rfl, hod20_7, hom20_7, hf20_7, e20_7⟩
       replace hod20_1 := OS.ext hod20_1 e20_7
       replace hom20_1 := OS.ext hom20_1 e20_7
       replace hod20_3 := OS.ext hod20_3 e20_7
       replace hom20_3 := OS.ext hom20_3 e20_7
       replace ho20_5 := OS.ext ho20_5 e20_7
       replace hb0_0 := BoxAt.ext hb0_0 e20_7
       replace hb0_1 := BoxAt.ext hb0_1 e20_7
       replace hb0_2 := BoxAt.ext hb0_2 e20_7
       replace hb0_3 := BoxAt.ext hb0_3 e20_7
       have := Ext.size e20_7
       replace eB := Ext.trans eB e20_7
       have hfd20_7 := hf20_7.left
       have hfm20_7 := hf20_7.right
       have hlhod20_7 := OS.lt hod20_7
       have hlhom20_7 := OS.lt hom20_7
       have ap3 : Apart fd20_7 fm20_7 := apart_nodup hf20_7
       try simp (disch := decide) only [outv_some, outv_none, put_puts]
       refine plK_pres (Ext.pres e20_7) ?_
       try simp -implicitDefEqProofs (disch := first | decide | assumption | omega) only [go_sem, wrap_id]
       try simp -implicitDefEqProofs (disch := first | decide | assumption | omega) only [go_sem, wrap_id]
       refine CallA.mono (toC_ok _ V _ ⟨_, _, rfl, (RdS.pres hdV (Ext.pres eB)), (RdS.pres hmV (Ext.pres eB))⟩ hMV) ?_
       intro v_ h20_9
       rintro ⟨vd20_9, vm20_9, fd20_9, fm20_9, rfl, hod20_9, hom20_9, hf20_9, e20_9⟩
       replace hod20_1 := OS.ext hod20_1 e20_9
       replace hom20_1 := OS.ext hom20_1 e20_9
       replace hod20_3 := OS.ext hod20_3 e20_9
       replace hom20_3 := OS.ext hom20_3 e20_9
       replace ho20_5 := OS.ext ho20_5 e20_9
       replace hod20_7 := OS.ext hod20_7 e20_9
       replace hom20_7 := OS.ext hom20_7 e20_9
       replace hb0_0 := BoxAt.ext hb0_0 e20_9
       replace hb0_1 := BoxAt.ext hb0_1 e20_9
       replace hb0_2 := BoxAt.ext hb0_2 e20_9
       replace hb0_3 := BoxAt.ext hb0_3 e20_9
       have := Ext.size e20_9
       replace eB := Ext.trans eB e20_9
       have hfd20_9 := hf20_9.left
       have hfm20_9 := hf20_9.right
       have hlhod20_9 := OS.lt hod20_9
       have hlhom20_9 := OS.lt hom20_9
       have ap4 : Apart fd20_9 fm20_9 := apart_nodup hf20_9
       try simp (disch := decide) only [outv_some, outv_none, put_puts]
       refine plK_pres (Ext.pres e20_9) ?_
       try simp -implicitDefEqProofs (disch := first | decide | assumption | omega) only [go_sem, wrap_id]
       try simp -implicitDefEqProofs (disch := first | decide | assumption | omega) only [go_sem, wrap_id]
       refine CallA.mono (toSSS_ok _ g _ (RdS.pres rg (Ext.pres eB)) hMg) ?_
       intro v20_11 h20_11
       rintro ⟨f20_11, ho20_11, hf20_11, e20_11⟩
       replace hod20_1 := OS.ext hod20_1 e20_11
       replace hom20_1 := OS.ext hom20_1 e20_11
       replace hod20_3 := OS.ext hod20_3 e20_11
       replace hom20_3 := OS.ext hom20_3 e20_11
       replace ho20_5 := OS.ext ho20_5 e20_11
       replace hod20_7 := OS.ext hod20_7 e20_11
       replace hom20_7 := OS.ext hom20_7 e20_11
       replace hod20_9 := OS.ext hod20_9 e20_11
       replace hom20_9 := OS.ext hom20_9 e20_11
       replace hb0_0 := BoxAt.ext hb0_0 e20_11
       replace hb0_1 := BoxAt.ext hb0_1 e20_11
       replace hb0_2 := BoxAt.ext hb0_2 e20_11
       replace hb0_3 := BoxAt.ext hb0_3 e20_11
       have := Ext.size e20_11
       replace eB := Ext.trans eB e20_11
       have hlho20_11 := OS.lt ho20_11
       try simp (disch := decide) only [outv_some, outv_none, put_puts]
       refine plK_pres (Ext.pres e20_11) ?_
       try simp -implicitDefEqProofs (disch := first | decide | assumption | omega) only [go_sem, wrap_id]
       try simp -implicitDefEqProofs (disch := first | decide | assumption | omega) only [go_sem, wrap_id]
       refine CallA.mono (sPr_ok _ _ _ _ _ _ X U f Y V g _ ⟨_, _, rfl, (OS.rd hod20_1), (OS.rd hom20_1)⟩ ⟨_, _, rfl, (OS.rd hod20_3), (OS.rd hom20_3)⟩ (OS.rd ho20_5) ⟨_, _, rfl, (OS.rd hod20_7), (OS.rd hom20_7)⟩ ⟨_, _, rfl, (OS.rd hod20_9), (OS.rd hom20_9)⟩ (OS.rd ho20_11) ) ?_
       intro v_ h20_12
       rintro ⟨vw20_12_0, fw20_12_0, rfl, how20_12_0, hfw20_12_0, e20_12⟩
       replace hod20_1 := OS.ext hod20_1 e20_12
       replace hom20_1 := OS.ext hom20_1 e20_12
       replace hod20_3 := OS.ext hod20_3 e20_12
       replace hom20_3 := OS.ext hom20_3 e20_12
       replace ho20_5 := OS.ext ho20_5 e20_12
       replace hod20_7 := OS.ext hod20_7 e20_12
       replace hom20_7 := OS.ext hom20_7 e20_12
       replace hod20_9 := OS.ext hod20_9 e20_12
       replace hom20_9 := OS.ext hom20_9 e20_12
       replace ho20_11 := OS.ext ho20_11 e20_12
       replace hb0_0 := BoxAt.ext hb0_0 e20_12
       replace hb0_1 := BoxAt.ext hb0_1 e20_12
       replace hb0_2 := BoxAt.ext hb0_2 e20_12
       replace hb0_3 := BoxAt.ext hb0_3 e20_12
       have := Ext.size e20_12
       replace eB := Ext.trans eB e20_12
       have hlhow20_12_0 := OS.lt how20_12_0
       try simp (disch := decide) only [outv_some, outv_none, put_puts]
       refine plK_pres (Ext.pres e20_12) ?_
       try simp -implicitDefEqProofs (disch := first | decide | assumption | omega) only [go_sem, wrap_id]
       refine hK _ _ ?_
       clear hK K
       refine den_seq ?_
       refine den_region TTok ?_
       intro K hK
       simp -implicitDefEqProofs (disch := first | decide | assumption | omega) only [go_sem, ld25, BoxAt.cell hb0_0, wrap_id]
       try simp -implicitDefEqProofs (disch := first | decide | assumption | omega) only [go_sem, wrap_id]
       refine CallA.mono (toC_ok _ X _ ⟨_, _, rfl, (RdS.pres hdX (Ext.pres eB)), (RdS.pres hmX (Ext.pres eB))⟩ hMX) ?_
       intro v_ h21_1
       rintro ⟨vd21_1, vm21_1, fd21_1, fm21_1, rfl, hod21_1, hom21_1, hf21_1, e21_1⟩
       replace how20_12_0 := OS.ext how20_12_0 e21_1
       replace hb0_0 := BoxAt.ext hb0_0 e21_1
       replace hb0_1 := BoxAt.ext hb0_1 e21_1
       replace hb0_2 := BoxAt.ext hb0_2 e21_1
       replace hb0_3 := BoxAt.ext hb0_3 e21_1
       have := Ext.size e21_1
       replace eB := Ext.trans eB e21_1
       have hfd21_1 := hf21_1.left
       have hfm21_1 := hf21_1.right
       have hlhod21_1 := OS.lt hod21_1
       have hlhom21_1 := OS.lt hom21_1
       have ap5 : Apart fd21_1 fm21_1 := apart_nodup hf21_1
       try simp -implicitDefEqProofs (disch := first | decide | assumption | omega) only [go_sem, wrap_id]
       refine op_alloc (cs := #[.int .i64 0, .slice none 0 0, .slice none 0 0]) (by kernel_rfl) ?_
       intro h21_2 e21_2 hb21_2 z21_2
       replace how20_12_0 := OS.ext how20_12_0 e21_2
       replace hod21_1 := OS.ext hod21_1 e21_2
       replace hom21_1 := OS.ext hom21_1 e21_2
       replace hb0_0 := BoxAt.ext hb0_0 e21_2
       replace hb0_1 := BoxAt.ext hb0_1 e21_2
       replace hb0_2 := BoxAt.ext hb0_2 e21_2
       replace hb0_3 := BoxAt.ext hb0_3 e21_2
       have := Ext.size e21_2
       replace eB := Ext.trans eB e21_2
       have hfhb21_2 : Fresh h21_1.size [h21_1.size] := Fresh.one _
       have hlhb21_2 := one_lt (show h21_1.size < h21_2.size by omega)
       try simp -implicitDefEqProofs (disch := first | decide | assumption | omega) only [go_sem, wrap_id]
       refine op_storeB (cs' := #[.int .i64 (X.p), vd21_1, vm21_1]) st31 hb21_2 rfl rfl rfl (by simp) (allOne_mem (l := [.int .i64 (X.p), vd21_1, vm21_1]) ⟨rfl, (OS.one hod21_1).1, (OS.one hom21_1).1, trivial⟩) rfl ?_
       intro h21_3 hb21_2 c21_3
       replace how20_12_0 := OS.chg how20_12_0 c21_3 (apart_lt hlhow20_12_0 hfhb21_2 (by omega))
       replace hod21_1 := OS.chg hod21_1 c21_3 (apart_lt hlhod21_1 hfhb21_2 (by omega))
       replace hom21_1 := OS.chg hom21_1 c21_3 (apart_lt hlhom21_1 hfhb21_2 (by omega))
       replace hb0_0 := BoxAt.chgA hb0_0 c21_3 (apart_lt hlhb0_0 hfhb21_2 (by omega))
       replace hb0_1 := BoxAt.chgA hb0_1 c21_3 (apart_lt hlhb0_1 hfhb21_2 (by omega))
       replace hb0_2 := BoxAt.chgA hb0_2 c21_3 (apart_lt hlhb0_2 hfhb21_2 (by omega))
       replace hb0_3 := BoxAt.chgA hb0_3 c21_3 (apart_lt hlhb0_3 hfhb21_2 (by omega))
       have := c21_3.size
       replace eB := Ext.then eB c21_3 (ge_of hfhb21_2 (by omega))
       try simp -implicitDefEqProofs (disch := first | decide | assumption | omega) only [go_sem, wrap_id]
       refine hK _ _ ?_
       clear hK K
       refine den_seq ?_
       refine den_region TTok ?_
       intro K hK
       simp -implicitDefEqProofs (disch := first | decide | assumption | omega) only [go_sem, ld25, BoxAt.cell hb0_1, wrap_id]
       try simp -implicitDefEqProofs (disch := first | decide | assumption | omega) only [go_sem, wrap_id]
       refine CallA.mono (toC_ok _ U _ ⟨_, _, rfl, (RdS.pres hdU (Ext.pres eB)), (RdS.pres hmU (Ext.pres eB))⟩ hMU) ?_
       intro v_ h22_1
       rintro ⟨vd22_1, vm22_1, fd22_1, fm22_1, rfl, hod22_1, hom22_1, hf22_1, e22_1⟩
       replace how20_12_0 := OS.ext how20_12_0 e22_1
       replace hod21_1 := OS.ext hod21_1 e22_1
       replace hom21_1 := OS.ext hom21_1 e22_1
       replace hb0_0 := BoxAt.ext hb0_0 e22_1
       replace hb0_1 := BoxAt.ext hb0_1 e22_1
       replace hb0_2 := BoxAt.ext hb0_2 e22_1
       replace hb0_3 := BoxAt.ext hb0_3 e22_1
       replace hb21_2 := BoxAt.ext hb21_2 e22_1
       have := Ext.size e22_1
       replace eB := Ext.trans eB e22_1
       have hfd22_1 := hf22_1.left
       have hfm22_1 := hf22_1.right
       have hlhod22_1 := OS.lt hod22_1
       have hlhom22_1 := OS.lt hom22_1
       have ap6 : Apart fd22_1 fm22_1 := apart_nodup hf22_1
       try simp -implicitDefEqProofs (disch := first | decide | assumption | omega) only [go_sem, wrap_id]
       refine op_alloc (cs := #[.int .i64 0, .slice none 0 0, .slice none 0 0]) (by kernel_rfl) ?_
       intro h22_2 e22_2 hb22_2 z22_2
       replace how20_12_0 := OS.ext how20_12_0 e22_2
       replace hod21_1 := OS.ext hod21_1 e22_2
       replace hom21_1 := OS.ext hom21_1 e22_2
       replace hod22_1 := OS.ext hod22_1 e22_2
       replace hom22_1 := OS.ext hom22_1 e22_2
       replace hb0_0 := BoxAt.ext hb0_0 e22_2
       replace hb0_1 := BoxAt.ext hb0_1 e22_2
       replace hb0_2 := BoxAt.ext hb0_2 e22_2
       replace hb0_3 := BoxAt.ext hb0_3 e22_2
       replace hb21_2 := BoxAt.ext hb21_2 e22_2
       have := Ext.size e22_2
       replace eB := Ext.trans eB e22_2
       have hfhb22_2 : Fresh h22_1.size [h22_1.size] := Fresh.one _
       have hlhb22_2 := one_lt (show h22_1.size < h22_2.size by omega)
       try simp -implicitDefEqProofs (disch := first | decide | assumption | omega) only [go_sem, wrap_id]
       refine op_storeB (cs' := #[.int .i64 (U.p), vd22_1, vm22_1]) st31 hb22_2 rfl rfl rfl (by simp) (allOne_mem (l := [.int .i64 (U.p), vd22_1, vm22_1]) ⟨rfl, (OS.one hod22_1).1, (OS.one hom22_1).1, trivial⟩) rfl ?_
       intro h22_3 hb22_2 c22_3
       replace how20_12_0 := OS.chg how20_12_0 c22_3 (apart_lt hlhow20_12_0 hfhb22_2 (by omega))
       replace hod21_1 := OS.chg hod21_1 c22_3 (apart_lt hlhod21_1 hfhb22_2 (by omega))
       replace hom21_1 := OS.chg hom21_1 c22_3 (apart_lt hlhom21_1 hfhb22_2 (by omega))
       replace hod22_1 := OS.chg hod22_1 c22_3 (apart_lt hlhod22_1 hfhb22_2 (by omega))
       replace hom22_1 := OS.chg hom22_1 c22_3 (apart_lt hlhom22_1 hfhb22_2 (by omega))
       replace hb0_0 := BoxAt.chgA hb0_0 c22_3 (apart_lt hlhb0_0 hfhb22_2 (by omega))
       replace hb0_1 := BoxAt.chgA hb0_1 c22_3 (apart_lt hlhb0_1 hfhb22_2 (by omega))
       replace hb0_2 := BoxAt.chgA hb0_2 c22_3 (apart_lt hlhb0_2 hfhb22_2 (by omega))
       replace hb0_3 := BoxAt.chgA hb0_3 c22_3 (apart_lt hlhb0_3 hfhb22_2 (by omega))
       replace hb21_2 := BoxAt.chgA hb21_2 c22_3 (apart_lt hlhb21_2 hfhb22_2 (by omega))
       have := c22_3.size
       replace eB := Ext.then eB c22_3 (ge_of hfhb22_2 (by omega))
       try simp -implicitDefEqProofs (disch := first | decide | assumption | omega) only [go_sem, wrap_id]
       refine hK _ _ ?_
       clear hK K
       refine den_seq ?_
       refine den_region TTok ?_
       intro K hK
       simp -implicitDefEqProofs (disch := first | decide | assumption | omega) only [go_sem, wrap_id]
       try simp -implicitDefEqProofs (disch := first | decide | assumption | omega) only [go_sem, wrap_id]
       refine CallA.mono (toSSS_ok _ f _ (RdS.pres rf (Ext.pres eB)) hMf) ?_
       intro v23_1 h23_1
       rintro ⟨f23_1, ho23_1, hf23_1, e23_1⟩
       replace how20_12_0 := OS.ext how20_12_0 e23_1
       replace hod21_1 := OS.ext hod21_1 e23_1
       replace hom21_1 := OS.ext hom21_1 e23_1
       replace hod22_1 := OS.ext hod22_1 e23_1
       replace hom22_1 := OS.ext hom22_1 e23_1
       replace hb0_0 := BoxAt.ext hb0_0 e23_1
       replace hb0_1 := BoxAt.ext hb0_1 e23_1
       replace hb0_2 := BoxAt.ext hb0_2 e23_1
       replace hb0_3 := BoxAt.ext hb0_3 e23_1
       replace hb21_2 := BoxAt.ext hb21_2 e23_1
       replace hb22_2 := BoxAt.ext hb22_2 e23_1
       have := Ext.size e23_1
       replace eB := Ext.trans eB e23_1
       have hlho23_1 := OS.lt ho23_1
       try simp -implicitDefEqProofs (disch := first | decide | assumption | omega) only [go_sem, wrap_id]
       refine hK _ _ ?_
       clear hK K
       refine den_seq ?_
       refine den_region TTok ?_
       intro K hK
       simp -implicitDefEqProofs (disch := first | decide | assumption | omega) only [go_sem, ld25, BoxAt.cell hb0_2, wrap_id]
       try simp -implicitDefEqProofs (disch := first | decide | assumption | omega) only [go_sem, wrap_id]
       refine CallA.mono (toC_ok _ Y _ ⟨_, _, rfl, (RdS.pres hdY (Ext.pres eB)), (RdS.pres hmY (Ext.pres eB))⟩ hMY) ?_
       intro v_ h24_1
       rintro ⟨vd24_1, vm24_1, fd24_1, fm24_1, rfl, hod24_1, hom24_1, hf24_1, e24_1⟩
       replace how20_12_0 := OS.ext how20_12_0 e24_1
       replace hod21_1 := OS.ext hod21_1 e24_1
       replace hom21_1 := OS.ext hom21_1 e24_1
       replace hod22_1 := OS.ext hod22_1 e24_1
       replace hom22_1 := OS.ext hom22_1 e24_1
       replace ho23_1 := OS.ext ho23_1 e24_1
       replace hb0_0 := BoxAt.ext hb0_0 e24_1
       replace hb0_1 := BoxAt.ext hb0_1 e24_1
       replace hb0_2 := BoxAt.ext hb0_2 e24_1
       replace hb0_3 := BoxAt.ext hb0_3 e24_1
       replace hb21_2 := BoxAt.ext hb21_2 e24_1
       replace hb22_2 := BoxAt.ext hb22_2 e24_1
       have := Ext.size e24_1
       replace eB := Ext.trans eB e24_1
       have hfd24_1 := hf24_1.left
       have hfm24_1 := hf24_1.right
       have hlhod24_1 := OS.lt hod24_1
       have hlhom24_1 := OS.lt hom24_1
       have ap7 : Apart fd24_1 fm24_1 := apart_nodup hf24_1
       try simp -implicitDefEqProofs (disch := first | decide | assumption | omega) only [go_sem, wrap_id]
       refine op_alloc (cs := #[.int .i64 0, .slice none 0 0, .slice none 0 0]) (by kernel_rfl) ?_
       intro h24_2 e24_2 hb24_2 z24_2
       replace how20_12_0 := OS.ext how20_12_0 e24_2
       replace hod21_1 := OS.ext hod21_1 e24_2
       replace hom21_1 := OS.ext hom21_1 e24_2
       replace hod22_1 := OS.ext hod22_1 e24_2
       replace hom22_1 := OS.ext hom22_1 e24_2
       replace ho23_1 := OS.ext ho23_1 e24_2
       replace hod24_1 := OS.ext hod24_1 e24_2
       replace hom24_1 := OS.ext hom24_1 e24_2
       replace hb0_0 := BoxAt.ext hb0_0 e24_2
       replace hb0_1 := BoxAt.ext hb0_1 e24_2
       replace hb0_2 := BoxAt.ext hb0_2 e24_2
       replace hb0_3 := BoxAt.ext hb0_3 e24_2
       replace hb21_2 := BoxAt.ext hb21_2 e24_2
       replace hb22_2 := BoxAt.ext hb22_2 e24_2
       have := Ext.size e24_2
       replace eB := Ext.trans eB e24_2
       have hfhb24_2 : Fresh h24_1.size [h24_1.size] := Fresh.one _
       have hlhb24_2 := one_lt (show h24_1.size < h24_2.size by omega)
       try simp -implicitDefEqProofs (disch := first | decide | assumption | omega) only [go_sem, wrap_id]
       refine op_storeB (cs' := #[.int .i64 (Y.p), vd24_1, vm24_1]) st31 hb24_2 rfl rfl rfl (by simp) (allOne_mem (l := [.int .i64 (Y.p), vd24_1, vm24_1]) ⟨rfl, (OS.one hod24_1).1, (OS.one hom24_1).1, trivial⟩) rfl ?_
       intro h24_3 hb24_2 c24_3
       replace how20_12_0 := OS.chg how20_12_0 c24_3 (apart_lt hlhow20_12_0 hfhb24_2 (by omega))
       replace hod21_1 := OS.chg hod21_1 c24_3 (apart_lt hlhod21_1 hfhb24_2 (by omega))
       replace hom21_1 := OS.chg hom21_1 c24_3 (apart_lt hlhom21_1 hfhb24_2 (by omega))
       replace hod22_1 := OS.chg hod22_1 c24_3 (apart_lt hlhod22_1 hfhb24_2 (by omega))
       replace hom22_1 := OS.chg hom22_1 c24_3 (apart_lt hlhom22_1 hfhb24_2 (by omega))
       replace ho23_1 := OS.chg ho23_1 c24_3 (apart_lt hlho23_1 hfhb24_2 (by omega))
       replace hod24_1 := OS.chg hod24_1 c24_3 (apart_lt hlhod24_1 hfhb24_2 (by omega))
       replace hom24_1 := OS.chg hom24_1 c24_3 (apart_lt hlhom24_1 hfhb24_2 (by omega))
       replace hb0_0 := BoxAt.chgA hb0_0 c24_3 (apart_lt hlhb0_0 hfhb24_2 (by omega))
       replace hb0_1 := BoxAt.chgA hb0_1 c24_3 (apart_lt hlhb0_1 hfhb24_2 (by omega))
       replace hb0_2 := BoxAt.chgA hb0_2 c24_3 (apart_lt hlhb0_2 hfhb24_2 (by omega))
       replace hb0_3 := BoxAt.chgA hb0_3 c24_3 (apart_lt hlhb0_3 hfhb24_2 (by omega))
       replace hb21_2 := BoxAt.chgA hb21_2 c24_3 (apart_lt hlhb21_2 hfhb24_2 (by omega))
       replace hb22_2 := BoxAt.chgA hb22_2 c24_3 (apart_lt hlhb22_2 hfhb24_2 (by omega))
       have := c24_3.size
       replace eB := Ext.then eB c24_3 (ge_of hfhb24_2 (by omega))
       try simp -implicitDefEqProofs (disch := first | decide | assumption | omega) only [go_sem, wrap_id]
       refine hK _ _ ?_
       clear hK K
       refine den_seq ?_
       refine den_region TTok ?_
       intro K hK
       simp -implicitDefEqProofs (disch := first | decide | assumption | omega) only [go_sem, ld25, BoxAt.cell hb0_3, wrap_id]
       try simp -implicitDefEqProofs (disch := first | decide | assumption | omega) only [go_sem, wrap_id]
       refine CallA.mono (toC_ok _ V _ ⟨_, _, rfl, (RdS.pres hdV (Ext.pres eB)), (RdS.pres hmV (Ext.pres eB))⟩ hMV) ?_
       intro v_ h25_1
       rintro ⟨vd25_1, vm25_1, fd25_1, fm25_1, rfl, hod25_1, hom25_1, hf25_1, e25_1⟩
       replace how20_12_0 := OS.ext how20_12_0 e25_1
       replace hod21_1 := OS.ext hod21_1 e25_1
       replace hom21_1 := OS.ext hom21_1 e25_1
       replace hod22_1 := OS.ext hod22_1 e25_1
       replace hom22_1 := OS.ext hom22_1 e25_1
       replace ho23_1 := OS.ext ho23_1 e25_1
       replace hod24_1 := OS.ext hod24_1 e25_1
       replace hom24_1 := OS.ext hom24_1 e25_1
       replace hb0_0 := BoxAt.ext hb0_0 e25_1
       replace hb0_1 := BoxAt.ext hb0_1 e25_1
       replace hb0_2 := BoxAt.ext hb0_2 e25_1
       replace hb0_3 := BoxAt.ext hb0_3 e25_1
       replace hb21_2 := BoxAt.ext hb21_2 e25_1
       replace hb22_2 := BoxAt.ext hb22_2 e25_1
       replace hb24_2 := BoxAt.ext hb24_2 e25_1
       have := Ext.size e25_1
       replace eB := Ext.trans eB e25_1
       have hfd25_1 := hf25_1.left
       have hfm25_1 := hf25_1.right
       have hlhod25_1 := OS.lt hod25_1
       have hlhom25_1 := OS.lt hom25_1
       have ap8 : Apart fd25_1 fm25_1 := apart_nodup hf25_1
       try simp -implicitDefEqProofs (disch := first | decide | assumption | omega) only [go_sem, wrap_id]
       refine op_alloc (cs := #[.int .i64 0, .slice none 0 0, .slice none 0 0]) (by kernel_rfl) ?_
       intro h25_2 e25_2 hb25_2 z25_2
       replace how20_12_0 := OS.ext how20_12_0 e25_2
       replace hod21_1 := OS.ext hod21_1 e25_2
       replace hom21_1 := OS.ext hom21_1 e25_2
       replace hod22_1 := OS.ext hod22_1 e25_2
       replace hom22_1 := OS.ext hom22_1 e25_2
       replace ho23_1 := OS.ext ho23_1 e25_2
       replace hod24_1 := OS.ext hod24_1 e25_2
       replace hom24_1 := OS.ext hom24_1 e25_2
       replace hod25_1 := OS.ext hod25_1 e25_2
       replace hom25_1 := OS.ext hom25_1 e25_2
       replace hb0_0 := BoxAt.ext hb0_0 e25_2
       replace hb0_1 := BoxAt.ext hb0_1 e25_2
       replace hb0_2 := BoxAt.ext hb0_2 e25_2
       replace hb0_3 := BoxAt.ext hb0_3 e25_2
       replace hb21_2 := BoxAt.ext hb21_2 e25_2
       replace hb22_2 := BoxAt.ext hb22_2 e25_2
       replace hb24_2 := BoxAt.ext hb24_2 e25_2
       have := Ext.size e25_2
       replace eB := Ext.trans eB e25_2
       have hfhb25_2 : Fresh h25_1.size [h25_1.size] := Fresh.one _
       have hlhb25_2 := one_lt (show h25_1.size < h25_2.size by omega)
       try simp -implicitDefEqProofs (disch := first | decide | assumption | omega) only [go_sem, wrap_id]
       refine op_storeB (cs' := #[.int .i64 (V.p), vd25_1, vm25_1]) st31 hb25_2 rfl rfl rfl (by simp) (allOne_mem (l := [.int .i64 (V.p), vd25_1, vm25_1]) ⟨rfl, (OS.one hod25_1).1, (OS.one hom25_1).1, trivial⟩) rfl ?_
       intro h25_3 hb25_2 c25_3
       replace how20_12_0 := OS.chg how20_12_0 c25_3 (apart_lt hlhow20_12_0 hfhb25_2 (by omega))
       replace hod21_1 := OS.chg hod21_1 c25_3 (apart_lt hlhod21_1 hfhb25_2 (by omega))
       replace hom21_1 := OS.chg hom21_1 c25_3 (apart_lt hlhom21_1 hfhb25_2 (by omega))
       replace hod22_1 := OS.chg hod22_1 c25_3 (apart_lt hlhod22_1 hfhb25_2 (by omega))
       replace hom22_1 := OS.chg hom22_1 c25_3 (apart_lt hlhom22_1 hfhb25_2 (by omega))
       replace ho23_1 := OS.chg ho23_1 c25_3 (apart_lt hlho23_1 hfhb25_2 (by omega))
       replace hod24_1 := OS.chg hod24_1 c25_3 (apart_lt hlhod24_1 hfhb25_2 (by omega))
       replace hom24_1 := OS.chg hom24_1 c25_3 (apart_lt hlhom24_1 hfhb25_2 (by omega))
       replace hod25_1 := OS.chg hod25_1 c25_3 (apart_lt hlhod25_1 hfhb25_2 (by omega))
       replace hom25_1 := OS.chg hom25_1 c25_3 (apart_lt hlhom25_1 hfhb25_2 (by omega))
       replace hb0_0 := BoxAt.chgA hb0_0 c25_3 (apart_lt hlhb0_0 hfhb25_2 (by omega))
       replace hb0_1 := BoxAt.chgA hb0_1 c25_3 (apart_lt hlhb0_1 hfhb25_2 (by omega))
       replace hb0_2 := BoxAt.chgA hb0_2 c25_3 (apart_lt hlhb0_2 hfhb25_2 (by omega))
       replace hb0_3 := BoxAt.chgA hb0_3 c25_3 (apart_lt hlhb0_3 hfhb25_2 (by omega))
       replace hb21_2 := BoxAt.chgA hb21_2 c25_3 (apart_lt hlhb21_2 hfhb25_2 (by omega))
       replace hb22_2 := BoxAt.chgA hb22_2 c25_3 (apart_lt hlhb22_2 hfhb25_2 (by omega))
       replace hb24_2 := BoxAt.chgA hb24_2 c25_3 (apart_lt hlhb24_2 hfhb25_2 (by omega))
       have := c25_3.size
       replace eB := Ext.then eB c25_3 (ge_of hfhb25_2 (by omega))
       try simp -implicitDefEqProofs (disch := first | decide | assumption | omega) only [go_sem, wrap_id]
       refine hK _ _ ?_
       clear hK K
       refine den_seq ?_
       refine den_region TTok ?_
       intro K hK
       simp -implicitDefEqProofs (disch := first | decide | assumption | omega) only [go_sem, wrap_id]
       try simp -implicitDefEqProofs (disch := first | decide | assumption | omega) only [go_sem, wrap_id]
       refine CallA.mono (toSSS_ok _ g _ (RdS.pres rg (Ext.pres eB)) hMg) ?_
       intro v26_1 h26_1
       rintro ⟨f26_1, ho26_1, hf26_1, e26_1⟩
       replace how20_12_0 := OS.ext how20_12_0 e26_1
       replace hod21_1 := OS.ext hod21_1 e26_1
       replace hom21_1 := OS.ext hom21_1 e26_1
       replace hod22_1 := OS.ext hod22_1 e26_1
       replace hom22_1 := OS.ext hom22_1 e26_1
       replace ho23_1 := OS.ext ho23_1 e26_1
       replace hod24_1 := OS.ext hod24_1 e26_1
       replace hom24_1 := OS.ext hom24_1 e26_1
       replace hod25_1 := OS.ext hod25_1 e26_1
       replace hom25_1 := OS.ext hom25_1 e26_1
       replace hb0_0 := BoxAt.ext hb0_0 e26_1
       replace hb0_1 := BoxAt.ext hb0_1 e26_1
       replace hb0_2 := BoxAt.ext hb0_2 e26_1
       replace hb0_3 := BoxAt.ext hb0_3 e26_1
       replace hb21_2 := BoxAt.ext hb21_2 e26_1
       replace hb22_2 := BoxAt.ext hb22_2 e26_1
       replace hb24_2 := BoxAt.ext hb24_2 e26_1
       replace hb25_2 := BoxAt.ext hb25_2 e26_1
       have := Ext.size e26_1
       replace eB := Ext.trans eB e26_1
       have hlho26_1 := OS.lt ho26_1
       try simp -implicitDefEqProofs (disch := first | decide | assumption | omega) only [go_sem, wrap_id]
       refine hK _ _ ?_
       clear hK K
       refine den_seq ?_
       refine den_region TTok ?_
       intro K hK
       simp -implicitDefEqProofs (disch := first | decide | assumption | omega) only [go_sem, ld31, BoxAt.cell hb21_2, BoxAt.cell hb22_2, BoxAt.cell hb24_2, BoxAt.cell hb25_2, wrap_id]
       try simp -implicitDefEqProofs (disch := first | decide | assumption | omega) only [go_sem, wrap_id]
       refine CallA.mono (iPr_ok _ _ _ _ _ _ X U f Y V g _ ⟨_, _, rfl, (OS.rd hod21_1), (OS.rd hom21_1)⟩ ⟨_, _, rfl, (OS.rd hod22_1), (OS.rd hom22_1)⟩ (OS.rd ho23_1) ⟨_, _, rfl, (OS.rd hod24_1), (OS.rd hom24_1)⟩ ⟨_, _, rfl, (OS.rd hod25_1), (OS.rd hom25_1)⟩ (OS.rd ho26_1) ) ?_
       intro v_ h27_6
       rintro ⟨vw27_6_0, fw27_6_0, rfl, how27_6_0, hfw27_6_0, e27_6⟩
       replace how20_12_0 := OS.ext how20_12_0 e27_6
       replace hod21_1 := OS.ext hod21_1 e27_6
       replace hom21_1 := OS.ext hom21_1 e27_6
       replace hod22_1 := OS.ext hod22_1 e27_6
       replace hom22_1 := OS.ext hom22_1 e27_6
       replace ho23_1 := OS.ext ho23_1 e27_6
       replace hod24_1 := OS.ext hod24_1 e27_6
       replace hom24_1 := OS.ext hom24_1 e27_6
       replace hod25_1 := OS.ext hod25_1 e27_6
       replace hom25_1 := OS.ext hom25_1 e27_6
       replace ho26_1 := OS.ext ho26_1 e27_6
       replace hb0_0 := BoxAt.ext hb0_0 e27_6
       replace hb0_1 := BoxAt.ext hb0_1 e27_6
       replace hb0_2 := BoxAt.ext hb0_2 e27_6
       replace hb0_3 := BoxAt.ext hb0_3 e27_6
       replace hb21_2 := BoxAt.ext hb21_2 e27_6
       replace hb22_2 := BoxAt.ext hb22_2 e27_6
       replace hb24_2 := BoxAt.ext hb24_2 e27_6
       replace hb25_2 := BoxAt.ext hb25_2 e27_6
       have := Ext.size e27_6
       replace eB := Ext.trans eB e27_6
       have hlhow27_6_0 := OS.lt how27_6_0
       try simp -implicitDefEqProofs (disch := first | decide | assumption | omega) only [go_sem, wrap_id]
       refine hK _ _ ?_
       clear hK K
       refine den_seq ?_
       refine den_seq ?_
       refine den_mergeH [(105, .bool (((!(true)) || (((prP X U f Y V g).2) != ((prP X U f Y V g).2)))))] [2, 5, 6, 7, 9, 10, 14, 15, 16, 17, 18, 19, 20, 21, 22, 23] ?_ ?_
        -- a way
       ·refine den_region TTok ?_
        intro K hK
        simp -implicitDefEqProofs (disch := first | decide | assumption | (simp (disch := decide) only [slotOf_zero, slotOf_succ, Option.map_some, puts_same, puts_ne, gv_bool, gv_undef, tt, tf, ft, ff, eq_self, if_true, if_false, Bool.false_eq_true, Bool.not_true, Bool.not_false]; done) | omega) only [go_sem, wrap_id]
        try simp -implicitDefEqProofs (disch := first | decide | assumption | omega) only [go_sem, wrap_id]
        refine CallA.pure (eqSSS_same _ _ _ _ (OS.rd how27_6_0) (OS.rd how20_12_0)) ?_
        try simp -implicitDefEqProofs (disch := first | decide | assumption | (simp (disch := decide) only [slotOf_zero, slotOf_succ, Option.map_some, puts_same, puts_ne, gv_bool, gv_undef, tt, tf, ft, ff, eq_self, if_true, if_false, Bool.false_eq_true, Bool.not_true, Bool.not_false]; done) | omega) only [go_sem, wrap_id]
        try simp -implicitDefEqProofs (disch := first | decide | assumption | (simp (disch := decide) only [slotOf_zero, slotOf_succ, Option.map_some, puts_same, puts_ne, gv_bool, gv_undef, tt, tf, ft, ff, eq_self, if_true, if_false, Bool.false_eq_true, Bool.not_true, Bool.not_false]; done) | omega) only [go_sem, wrap_id]
        refine hK _ _ ?_
        clear hK K
        refine den_stop ?_
        refine ⟨?_, rfl⟩
        first | (simp (disch := decide) only [go_sem, eq_self, Bool.true_and, Bool.and_true, Bool.false_and, Bool.and_false, Bool.true_or, Bool.or_true, Bool.false_or, Bool.or_false, if_true, if_false, Bool.false_eq_true]; done) | simp [HasL, sel, puts_at]
       intro en9
       simp (disch := decide) only [go_sem]
       refine den_cond rfl (fun c6 => ?_) (fun c6 => ?_)
       ·try simp only [decide_eq_true_eq, decide_eq_false_iff_not, beq_iff_eq, beq_eq_false_iff_ne, bne_iff_ne, ne_eq, Bool.not_eq_true', Bool.not_eq_false', Bool.and_eq_true, Bool.or_eq_true, bne_eq_false_iff_eq] at c6
        refine den_seq ?_
        refine den_region TTok ?_
        intro K hK
        simp -implicitDefEqProofs (disch := first | decide | assumption | omega) only [go_sem, wrap_id]
        refine hK _ _ ?_
        clear hK K
        refine den_ret ?_
        simp (disch := decide) only [resP_1, puts_same, puts_ne]
        exact absurd c6 (by first | (simp; done) | (simp; omega) | omega | (simp [eqC_self]; done))
       ·try simp only [decide_eq_true_eq, decide_eq_false_iff_not, beq_iff_eq, beq_eq_false_iff_ne, bne_iff_ne, ne_eq, Bool.not_eq_true', Bool.not_eq_false', Bool.and_eq_true, Bool.or_eq_true, bne_eq_false_iff_eq] at c6
        refine den_skip ?_
        refine den_seq ?_
        refine den_seq ?_
        refine den_draw TTok mixed [] [(0, true), (1, true), (2, false), (3, false), (4, true)] (by kernel_rfl) ?_
        intro K hK
        simp -implicitDefEqProofs (disch := first | decide | assumption | omega) only [go_sem, ld31, ld25, BoxAt.cell hb0_0, BoxAt.cell hb21_2, wrap_id]
        try simp -implicitDefEqProofs (disch := first | decide | assumption | omega) only [go_sem, wrap_id]
        refine CallA.mono (toC_ok _ X _ ⟨_, _, rfl, (RdS.pres hdX (Ext.pres eB)), (RdS.pres hmX (Ext.pres eB))⟩ hMX) ?_
        intro v_ h30_2
        rintro ⟨vd30_2, vm30_2, fd30_2, fm30_2, rfl, hod30_2, hom30_2, hf30_2, e30_2⟩
        replace how20_12_0 := OS.ext how20_12_0 e30_2
        replace hod21_1 := OS.ext hod21_1 e30_2
        replace hom21_1 := OS.ext hom21_1 e30_2
        replace hod22_1 := OS.ext hod22_1 e30_2
        replace hom22_1 := OS.ext hom22_1 e30_2
        replace ho23_1 := OS.ext ho23_1 e30_2
        replace hod24_1 := OS.ext hod24_1 e30_2
        replace hom24_1 := OS.ext hom24_1 e30_2
        replace hod25_1 := OS.ext hod25_1 e30_2
        replace hom25_1 := OS.ext hom25_1 e30_2
        replace ho26_1 := OS.ext ho26_1 e30_2
        replace how27_6_0 := OS.ext how27_6_0 e30_2
        replace hb0_0 := BoxAt.ext hb0_0 e30_2
        replace hb0_1 := BoxAt.ext hb0_1 e30_2
        replace hb0_2 := BoxAt.ext hb0_2 e30_2
        replace hb0_3 := BoxAt.ext hb0_3 e30_2
        replace hb21_2 := BoxAt.ext hb21_2 e30_2
        replace hb22_2 := BoxAt.ext hb22_2 e30_2
        replace hb24_2 := BoxAt.ext hb24_2 e30_2
        replace hb25_2 := BoxAt.ext hb25_2 e30_2
        have := Ext.size e30_2
        replace eB := Ext.trans eB e30_2
        have hfd30_2 := hf30_2.left
        have hfm30_2 := hf30_2.right
        have hlhod30_2 := OS.lt hod30_2
        have hlhom30_2 := OS.lt hom30_2
        have ap12 : Apart fd30_2 fm30_2 := apart_nodup hf30_2
        try simp (disch := decide) only [outv_some, outv_none, put_puts]
        refine plK_pres (Ext.pres e30_2) ?_
        try simp -implicitDefEqProofs (disch := first | decide | assumption | omega) only [go_sem, wrap_id]
        try simp -implicitDefEqProofs (disch := first | decide | assumption | omega) only [go_sem, wrap_id]
        refine CallA.mono (eqC_same _ _ X _ ⟨_, _, rfl, (OS.rd hod21_1), (OS.rd hom21_1)⟩ ⟨_, _, rfl, (OS.rd hod30_2), (OS.rd hom30_2)⟩) ?_
        intro v_ h30_3
        rintro ⟨rfl, e30_3⟩
        replace how20_12_0 := OS.ext how20_12_0 e30_3
        replace hod21_1 := OS.ext hod21_1 e30_3
        replace hom21_1 := OS.ext hom21_1 e30_3
        replace hod22_1 := OS.ext hod22_1 e30_3
        replace hom22_1 := OS.ext hom22_1 e30_3
        replace ho23_1 := OS.ext ho23_1 e30_3
        replace hod24_1 := OS.ext hod24_1 e30_3
        replace hom24_1 := OS.ext hom24_1 e30_3
        replace hod25_1 := OS.ext hod25_1 e30_3
        replace hom25_1 := OS.ext hom25_1 e30_3
        replace ho26_1 := OS.ext ho26_1 e30_3
        replace how27_6_0 := OS.ext how27_6_0 e30_3
        replace hod30_2 := OS.ext hod30_2 e30_3
        replace hom30_2 := OS.ext hom30_2 e30_3
        replace hb0_0 := BoxAt.ext hb0_0 e30_3
        replace hb0_1 := BoxAt.ext hb0_1 e30_3
        replace hb0_2 := BoxAt.ext hb0_2 e30_3
        replace hb0_3 := BoxAt.ext hb0_3 e30_3
        replace hb21_2 := BoxAt.ext hb21_2 e30_3
        replace hb22_2 := BoxAt.ext hb22_2 e30_3
        replace hb24_2 := BoxAt.ext hb24_2 e30_3
        replace hb25_2 := BoxAt.ext hb25_2 e30_3
        have := Ext.size e30_3
        replace eB := Ext.trans eB e30_3
        try simp (disch := decide) only [outv_some, outv_none, put_puts]
        refine plK_pres (Ext.pres e30_3) ?_
        try simp -implicitDefEqProofs (disch := first | decide | assumption | omega) only [go_sem, wrap_id]
        refine hK _ _ ?_
        clear hK K
        refine den_cond rfl (fun c7 => ?_) (fun c7 => ?_)
        ·try simp only [decide_eq_true_eq, decide_eq_false_iff_not, beq_iff_eq, beq_eq_false_iff_ne, bne_iff_ne, ne_eq, Bool.not_eq_true', Bool.not_eq_false', Bool.and_eq_true, Bool.or_eq_true, bne_eq_false_iff_eq] at c7
         refine den_seq ?_
         refine den_region TTok ?_
         intro K hK
         simp -implicitDefEqProofs (disch := first | decide | assumption | omega) only [go_sem, wrap_id]
         refine hK _ _ ?_
         clear hK K
         refine den_ret ?_
         simp (disch := decide) only [resP_1, puts_same, puts_ne]
         exact absurd c7 (by first | (simp; done) | (simp; omega) | omega | (simp [eqC_self]; done))
        ·try simp only [decide_eq_true_eq, decide_eq_false_iff_not, beq_iff_eq, beq_eq_false_iff_ne, bne_iff_ne, ne_eq, Bool.not_eq_true', Bool.not_eq_false', Bool.and_eq_true, Bool.or_eq_true, bne_eq_false_iff_eq] at c7
         refine den_skip ?_
         refine den_seq ?_
         refine den_seq ?_
         refine den_draw TTok mixed [] [(0, true), (1, true), (2, false), (3, false), (4, true)] (by kernel_rfl) ?_
         intro K hK
         simp -implicitDefEqProofs (disch := first | decide | assumption | omega) only [go_sem, ld31, ld25, BoxAt.cell hb0_1, BoxAt.cell hb22_2, wrap_id]
         try simp -implicitDefEqProofs (disch := first | decide | assumption | omega) only [go_sem, wrap_id]
         refine CallA.mono (toC_ok _ U _ ⟨_, _, rfl, (RdS.pres hdU (Ext.pres eB)), (RdS.pres hmU (Ext.pres eB))⟩ hMU) ?_
         intro v_ h32_2
         rintro ⟨vd32_2, vm32_2, fd32_2, fm32_2, rfl, hod32_2, hom32_2, hf32_2, e32_2⟩
         replace how20_12_0 := OS.ext how20_12_0 e32_2
         replace hod21_1 := OS.ext hod21_1 e32_2
         replace hom21_1 := OS.ext hom21_1 e32_2
         replace hod22_1 := OS.ext hod22_1 e32_2
         replace hom22_1 := OS.ext hom22_1 e32_2
         replace ho23_1 := OS.ext ho23_1 e32_2
         replace hod24_1 := OS.ext hod24_1 e32_2
         replace hom24_1 := OS.ext hom24_1 e32_2
         replace hod25_1 := OS.ext hod25_1 e32_2
         replace hom25_1 := OS.ext hom25_1 e32_2
         replace ho26_1 := OS.ext ho26_1 e32_2
         replace how27_6_0 := OS.ext how27_6_0 e32_2
         replace hb0_0 := BoxAt.ext hb0_0 e32_2
         replace hb0_1 := BoxAt.ext hb0_1 e32_2
         replace hb0_2 := BoxAt.ext hb0_2 e32_2
         replace hb0_3 := BoxAt.ext hb0_3 e32_2
         replace hb21_2 := BoxAt.ext hb21_2 e32_2
         replace hb22_2 := BoxAt.ext hb22_2 e32_2
         replace hb24_2 := BoxAt.ext hb24_2 e32_2
         replace hb25_2 := BoxAt.ext hb25_2 e32_2
         have := Ext.size e32_2
         replace eB := Ext.trans eB e32_2
         have hfd32_2 := hf32_2.left
         have hfm32_2 := hf32_2.right
         have hlhod32_2 := OS.lt hod32_2
         have hlhom32_2 := OS.lt hom32_2
         have ap13 : Apart fd32_2 fm32_2 := apart_nodup hf32_2
         try simp (disch := decide) only [outv_some, outv_none, put_puts]
         refine plK_pres (Ext.pres e32_2) ?_
         try simp -implicitDefEqProofs (disch := first | decide | assumption | omega) only [go_sem, wrap_id]
         try simp -implicitDefEqProofs (disch := first | decide | assumption | omega) only [go_sem, wrap_id]
         refine CallA.mono (eqC_same _ _ U _ ⟨_, _, rfl, (OS.rd hod22_1), (OS.rd hom22_1)⟩ ⟨_, _, rfl, (OS.rd hod32_2), (OS.rd hom32_2)⟩) ?_
         intro v_ h32_3
         rintro ⟨rfl, e32_3⟩
         replace how20_12_0 := OS.ext how20_12_0 e32_3
         replace hod21_1 := OS.ext hod21_1 e32_3
         replace hom21_1 := OS.ext hom21_1 e32_3
         replace hod22_1 := OS.ext hod22_1 e32_3
         replace hom22_1 := OS.ext hom22_1 e32_3
         replace ho23_1 := OS.ext ho23_1 e32_3
         replace hod24_1 := OS.ext hod24_1 e32_3
         replace hom24_1 := OS.ext hom24_1 e32_3
         replace hod25_1 := OS.ext hod25_1 e32_3
         replace hom25_1 := OS.ext hom25_1 e32_3
         replace ho26_1 := OS.ext ho26_1 e32_3
         replace how27_6_0 := OS.ext how27_6_0 e32_3
         replace hod32_2 := OS.ext hod32_2 e32_3
         replace hom32_2 := OS.ext hom32_2 e32_3
         replace hb0_0 := BoxAt.ext hb0_0 e32_3
         replace hb0_1 := BoxAt.ext hb0_1 e32_3
         replace hb0_2 := BoxAt.ext hb0_2 e32_3
         replace hb0_3 := BoxAt.ext hb0_3 e32_3
         replace hb21_2 := BoxAt.ext hb21_2 e32_3
         replace hb22_2 := BoxAt.ext hb22_2 e32_3
         replace hb24_2 := BoxAt.ext hb24_2 e32_3
         replace hb25_2 := BoxAt.ext hb25_2 e32_3
         have := Ext.size e32_3
         replace eB := Ext.trans eB e32_3
         try simp (disch := decide) only [outv_some, outv_none, put_puts]
         refine plK_pres (Ext.pres e32_3) ?_
         try simp -implicitDefEqProofs (disch := first | decide | assumption | omega) only [go_sem, wrap_id]
         refine hK _ _ ?_
         clear hK K
         refine den_cond rfl (fun c8 => ?_) (fun c8 => ?_)
         ·try simp only [decide_eq_true_eq, decide_eq_false_iff_not, beq_iff_eq, beq_eq_false_iff_ne, bne_iff_ne, ne_eq, Bool.not_eq_true', Bool.not_eq_false', Bool.and_eq_true, Bool.or_eq_true, bne_eq_false_iff_eq] at c8
          refine den_seq ?_
          refine den_region TTok ?_
          intro K hK
          simp -implicitDefEqProofs (disch := first | decide | assumption | omega) only [go_sem, wrap_id]
          refine hK _ _ ?_
          clear hK K
          refine den_ret ?_
          simp (disch := decide) only [resP_1, puts_same, puts_ne]
          exact absurd c8 (by first | (simp; done) | (simp; omega) | omega | (simp [eqC_self]; done))
         ·try simp only [decide_eq_true_eq, decide_eq_false_iff_not, beq_iff_eq, beq_eq_false_iff_ne, bne_iff_ne, ne_eq, Bool.not_eq_true', Bool.not_eq_false', Bool.and_eq_true, Bool.or_eq_true, bne_eq_false_iff_eq] at c8
          refine den_skip ?_
          refine den_seq ?_
          refine den_seq ?_
          refine den_region TTok ?_
          intro K hK
          simp -implicitDefEqProofs (disch := first | decide | assumption | omega) only [go_sem, wrap_id]
          try simp -implicitDefEqProofs (disch := first | decide | assumption | omega) only [go_sem, wrap_id]
          refine CallA.mono (toSSS_ok _ f _ (RdS.pres rf (Ext.pres eB)) hMf) ?_
          intro v34_2 h34_2
          rintro ⟨f34_2, ho34_2, hf34_2, e34_2⟩
          replace how20_12_0 := OS.ext how20_12_0 e34_2
          replace hod21_1 := OS.ext hod21_1 e34_2
          replace hom21_1 := OS.ext hom21_1 e34_2
          replace hod22_1 := OS.ext hod22_1 e34_2
          replace hom22_1 := OS.ext hom22_1 e34_2
          replace ho23_1 := OS.ext ho23_1 e34_2
          replace hod24_1 := OS.ext hod24_1 e34_2
          replace hom24_1 := OS.ext hom24_1 e34_2
          replace hod25_1 := OS.ext hod25_1 e34_2
          replace hom25_1 := OS.ext hom25_1 e34_2
          replace ho26_1 := OS.ext ho26_1 e34_2
          replace how27_6_0 := OS.ext how27_6_0 e34_2
          replace hb0_0 := BoxAt.ext hb0_0 e34_2
          replace hb0_1 := BoxAt.ext hb0_1 e34_2
          replace hb0_2 := BoxAt.ext hb0_2 e34_2
          replace hb0_3 := BoxAt.ext hb0_3 e34_2
          replace hb21_2 := BoxAt.ext hb21_2 e34_2
          replace hb22_2 := BoxAt.ext hb22_2 e34_2
          replace hb24_2 := BoxAt.ext hb24_2 e34_2
          replace hb25_2 := BoxAt.ext hb25_2 e34_2
          have := Ext.size e34_2
          replace eB := Ext.trans eB e34_2
          have hlho34_2 := OS.lt ho34_2
          try simp -implicitDefEqProofs (disch := first | decide | assumption | omega) only [go_sem, wrap_id]
          try simp -implicitDefEqProofs (disch := first | decide | assumption | omega) only [go_sem, wrap_id]
          refine CallA.pure (eqSSS_same _ _ _ _ (OS.rd ho23_1) (OS.rd ho34_2)) ?_
          try simp -implicitDefEqProofs (disch := first | decide | assumption | omega) only [go_sem, wrap_id]
          refine hK _ _ ?_
          clear hK K
          refine den_cond rfl (fun c9 => ?_) (fun c9 => ?_)
          ·try simp only [decide_eq_true_eq, decide_eq_false_iff_not, beq_iff_eq, beq_eq_false_iff_ne, bne_iff_ne, ne_eq, Bool.not_eq_true', Bool.not_eq_false', Bool.and_eq_true, Bool.or_eq_true, bne_eq_false_iff_eq] at c9
           refine den_seq ?_
           refine den_region TTok ?_
           intro K hK
           simp -implicitDefEqProofs (disch := first | decide | assumption | omega) only [go_sem, wrap_id]
           refine hK _ _ ?_
           clear hK K
           refine den_ret ?_
           simp (disch := decide) only [resP_1, puts_same, puts_ne]
           exact absurd c9 (by first | (simp; done) | (simp; omega) | omega | (simp [eqC_self]; done))
          ·try simp only [decide_eq_true_eq, decide_eq_false_iff_not, beq_iff_eq, beq_eq_false_iff_ne, bne_iff_ne, ne_eq, Bool.not_eq_true', Bool.not_eq_false', Bool.and_eq_true, Bool.or_eq_true, bne_eq_false_iff_eq] at c9
           refine den_skip ?_
           refine den_seq ?_
           refine den_seq ?_
           refine den_draw TTok mixed [] [(0, true), (1, true), (2, false), (3, false), (4, true)] (by kernel_rfl) ?_
           intro K hK
           simp -implicitDefEqProofs (disch := first | decide | assumption | omega) only [go_sem, ld31, ld25, BoxAt.cell hb0_2, BoxAt.cell hb24_2, wrap_id]
           try simp -implicitDefEqProofs (disch := first | decide | assumption | omega) only [go_sem, wrap_id]
           refine CallA.mono (toC_ok _ Y _ ⟨_, _, rfl, (RdS.pres hdY (Ext.pres eB)), (RdS.pres hmY (Ext.pres eB))⟩ hMY) ?_
           intro v_ h36_2
           rintro ⟨vd36_2, vm36_2, fd36_2, fm36_2, rfl, hod36_2, hom36_2, hf36_2, e36_2⟩
           replace how20_12_0 := OS.ext how20_12_0 e36_2
           replace hod21_1 := OS.ext hod21_1 e36_2
           replace hom21_1 := OS.ext hom21_1 e36_2
           replace hod22_1 := OS.ext hod22_1 e36_2
           replace hom22_1 := OS.ext hom22_1 e36_2
           replace ho23_1 := OS.ext ho23_1 e36_2
           replace hod24_1 := OS.ext hod24_1 e36_2
           replace hom24_1 := OS.ext hom24_1 e36_2
           replace hod25_1 := OS.ext hod25_1 e36_2
           replace hom25_1 := OS.ext hom25_1 e36_2
           replace ho26_1 := OS.ext ho26_1 e36_2
           replace how27_6_0 := OS.ext how27_6_0 e36_2
           replace hb0_0 := BoxAt.ext hb0_0 e36_2
           replace hb0_1 := BoxAt.ext hb0_1 e36_2
           replace hb0_2 := BoxAt.ext hb0_2 e36_2
           replace hb0_3 := BoxAt.ext hb0_3 e36_2
           replace hb21_2 := BoxAt.ext hb21_2 e36_2
           replace hb22_2 := BoxAt.ext hb22_2 e36_2
           replace hb24_2 := BoxAt.ext hb24_2 e36_2
           replace hb25_2 := BoxAt.ext hb25_2 e36_2
           have := Ext.size e36_2
           replace eB := Ext.trans eB e36_2
           have hfd36_2 := hf36_2.left
           have hfm36_2 := hf36_2.right
           have hlhod36_2 := OS.lt hod36_2
           have hlhom36_2 := OS.lt hom36_2
           have ap14 : Apart fd36_2 fm36_2 := apart_nodup hf36_2
           try simp (disch := decide) only [outv_some, outv_none, put_puts]
           refine plK_pres (Ext.pres e36_2) ?_
           try simp -implicitDefEqProofs (disch := first | decide | assumption | omega) only [go_sem, wrap_id]
           try simp -implicitDefEqProofs (disch := first | decide | assumption | omega) only [go_sem, wrap_id]
           refine CallA.mono (eqC_same _ _ Y _ ⟨_, _, rfl, (OS.rd hod24_1), (OS.rd hom24_1)⟩ ⟨_, _, rfl, (OS.rd hod36_2), (OS.rd hom36_2)⟩) ?_
           intro v_ h36_3
           rintro ⟨rfl, e36_3⟩
           replace how20_12_0 := OS.ext how20_12_0 e36_3
           replace hod21_1 := OS.ext hod21_1 e36_3
           replace hom21_1 := OS.ext hom21_1 e36_3
           replace hod22_1 := OS.ext hod22_1 e36_3
           replace hom22_1 := OS.ext hom22_1 e36_3
           replace ho23_1 := OS.ext ho23_1 e36_3
           replace hod24_1 := OS.ext hod24_1 e36_3
           replace hom24_1 := OS.ext hom24_1 e36_3
           replace hod25_1 := OS.ext hod25_1 e36_3
           replace hom25_1 := OS.ext hom25_1 e36_3
           replace ho26_1 := OS.ext ho26_1 e36_3
           replace how27_6_0 := OS.ext how27_6_0 e36_3
           replace hod36_2 := OS.ext hod36_2 e36_3
           replace hom36_2 := OS.ext hom36_2 e36_3
           replace hb0_0 := BoxAt.ext hb0_0 e36_3
           replace hb0_1 := BoxAt.ext hb0_1 e36_3
           replace hb0_2 := BoxAt.ext hb0_2 e36_3
           replace hb0_3 := BoxAt.ext hb0_3 e36_3
           replace hb21_2 := BoxAt.ext hb21_2 e36_3
           replace hb22_2 := BoxAt.ext hb22_2 e36_3
           replace hb24_2 := BoxAt.ext hb24_2 e36_3
           replace hb25_2 := BoxAt.ext hb25_2 e36_3
           have := Ext.size e36_3
           replace eB := Ext.trans eB e36_3
           try simp (disch := decide) only [outv_some, outv_none, put_puts]
           refine plK_pres (Ext.pres e36_3) ?_
           try simp -implicitDefEqProofs (disch := first | decide | assumption | omega) only [go_sem, wrap_id]
           refine hK _ _ ?_
           clear hK K
           refine den_cond rfl (fun c10 => ?_) (fun c10 => ?_)
           ·try simp only [decide_eq_true_eq, decide_eq_false_iff_not, beq_iff_eq, beq_eq_false_iff_ne, bne_iff_ne, ne_eq, Bool.not_eq_true', Bool.not_eq_false', Bool.and_eq_true, Bool.or_eq_true, bne_eq_false_iff_eq] at c10
            refine den_seq ?_
            refine den_region TTok ?_
            intro K hK
            simp -implicitDefEqProofs (disch := first | decide | assumption | omega) only [go_sem, wrap_id]
            refine hK _ _ ?_
            clear hK K
            refine den_ret ?_
            simp (disch := decide) only [resP_1, puts_same, puts_ne]
            exact absurd c10 (by first | (simp; done) | (simp; omega) | omega | (simp [eqC_self]; done))
           ·try simp only [decide_eq_true_eq, decide_eq_false_iff_not, beq_iff_eq, beq_eq_false_iff_ne, bne_iff_ne, ne_eq, Bool.not_eq_true', Bool.not_eq_false', Bool.and_eq_true, Bool.or_eq_true, bne_eq_false_iff_eq] at c10
            refine den_skip ?_
            refine den_seq ?_
            refine den_seq ?_
            refine den_draw TTok mixed [] [(0, true), (1, true), (2, false), (3, false), (4, true)] (by kernel_rfl) ?_
            intro K hK
            simp -implicitDefEqProofs (disch := first | decide | assumption | omega) only [go_sem, ld31, ld25, BoxAt.cell hb0_3, BoxAt.cell hb25_2, wrap_id]
            try simp -implicitDefEqProofs (disch := first | decide | assumption | omega) only [go_sem, wrap_id]
            refine CallA.mono (toC_ok _ V _ ⟨_, _, rfl, (RdS.pres hdV (Ext.pres eB)), (RdS.pres hmV (Ext.pres eB))⟩ hMV) ?_
            intro v_ h38_2
            rintro ⟨vd38_2, vm38_2, fd38_2, fm38_2, rfl, hod38_2, hom38_2, hf38_2, e38_2⟩
            replace how20_12_0 := OS.ext how20_12_0 e38_2
            replace hod21_1 := OS.ext hod21_1 e38_2
            replace hom21_1 := OS.ext hom21_1 e38_2
            replace hod22_1 := OS.ext hod22_1 e38_2
            replace hom22_1 := OS.ext hom22_1 e38_2
            replace ho23_1 := OS.ext ho23_1 e38_2
            replace hod24_1 := OS.ext hod24_1 e38_2
            replace hom24_1 := OS.ext hom24_1 e38_2
            replace hod25_1 := OS.ext hod25_1 e38_2
            replace hom25_1 := OS.ext hom25_1 e38_2
            replace ho26_1 := OS.ext ho26_1 e38_2
            replace how27_6_0 := OS.ext how27_6_0 e38_2
            replace hb0_0 := BoxAt.ext hb0_0 e38_2
            replace hb0_1 := BoxAt.ext hb0_1 e38_2
            replace hb0_2 := BoxAt.ext hb0_2 e38_2
            replace hb0_3 := BoxAt.ext hb0_3 e38_2
            replace hb21_2 := BoxAt.ext hb21_2 e38_2
            replace hb22_2 := BoxAt.ext hb22_2 e38_2
            replace hb24_2 := BoxAt.ext hb24_2 e38_2
            replace hb25_2 := BoxAt.ext hb25_2 e38_2
            have := Ext.size e38_2
            replace eB := Ext.trans eB e38_2
            have hfd38_2 := hf38_2.left
            have hfm38_2 := hf38_2.right
            have hlhod38_2 := OS.lt hod38_2
            have hlhom38_2 := OS.lt hom38_2
            have ap15 : Apart fd38_2 fm38_2 := apart_nodup hf38_2
            try simp (disch := decide) only [outv_some, outv_none, put_puts]
            refine plK_pres (Ext.pres e38_2) ?_
            try simp -implicitDefEqProofs (disch := first | decide | assumption | omega) only [go_sem, wrap_id]
            try simp -implicitDefEqProofs (disch := first | decide | assumption | omega) only [go_sem, wrap_id]
            refine CallA.mono (eqC_same _ _ V _ ⟨_, _, rfl, (OS.rd hod25_1), (OS.rd hom25_1)⟩ ⟨_, _, rfl, (OS.rd hod38_2), (OS.rd hom38_2)⟩) ?_
            intro v_ h38_3
            rintro ⟨rfl, e38_3⟩
            replace how20_12_0 := OS.ext how20_12_0 e38_3
            replace hod21_1 := OS.ext hod21_1 e38_3
            replace hom21_1 := OS.ext hom21_1 e38_3
            replace hod22_1 := OS.ext hod22_1 e38_3
            replace hom22_1 := OS.ext hom22_1 e38_3
            replace ho23_1 := OS.ext ho23_1 e38_3
            replace hod24_1 := OS.ext hod24_1 e38_3
            replace hom24_1 := OS.ext hom24_1 e38_3
            replace hod25_1 := OS.ext hod25_1 e38_3
            replace hom25_1 := OS.ext hom25_1 e38_3
            replace ho26_1 := OS.ext ho26_1 e38_3
            replace how27_6_0 := OS.ext how27_6_0 e38_3
            replace hod38_2 := OS.ext hod38_2 e38_3
            replace hom38_2 := OS.ext hom38_2 e38_3
            replace hb0_0 := BoxAt.ext hb0_0 e38_3
            replace hb0_1 := BoxAt.ext hb0_1 e38_3
            replace hb0_2 := BoxAt.ext hb0_2 e38_3
            replace hb0_3 := BoxAt.ext hb0_3 e38_3
            replace hb21_2 := BoxAt.ext hb21_2 e38_3
            replace hb22_2 := BoxAt.ext hb22_2 e38_3
            replace hb24_2 := BoxAt.ext hb24_2 e38_3
            replace hb25_2 := BoxAt.ext hb25_2 e38_3
            have := Ext.size e38_3
            replace eB := Ext.trans eB e38_3
            try simp (disch := decide) only [outv_some, outv_none, put_puts]
            refine plK_pres (Ext.pres e38_3) ?_
            try simp -implicitDefEqProofs (disch := first | decide | assumption | omega) only [go_sem, wrap_id]
            refine hK _ _ ?_
            clear hK K
            refine den_cond rfl (fun c11 => ?_) (fun c11 => ?_)
            ·try simp only [decide_eq_true_eq, decide_eq_false_iff_not, beq_iff_eq, beq_eq_false_iff_ne, bne_iff_ne, ne_eq, Bool.not_eq_true', Bool.not_eq_false', Bool.and_eq_true, Bool.or_eq_true, bne_eq_false_iff_eq] at c11
             refine den_seq ?_
             refine den_region TTok ?_
             intro K hK
             simp -implicitDefEqProofs (disch := first | decide | assumption | omega) only [go_sem, wrap_id]
             refine hK _ _ ?_
             clear hK K
             refine den_ret ?_
             simp (disch := decide) only [resP_1, puts_same, puts_ne]
             exact absurd c11 (by first | (simp; done) | (simp; omega) | omega | (simp [eqC_self]; done))
            ·try simp only [decide_eq_true_eq, decide_eq_false_iff_not, beq_iff_eq, beq_eq_false_iff_ne, bne_iff_ne, ne_eq, Bool.not_eq_true', Bool.not_eq_false', Bool.and_eq_true, Bool.or_eq_true, bne_eq_false_iff_eq] at c11
             refine den_skip ?_
             refine den_seq ?_
             refine den_seq ?_
             refine den_region TTok ?_
             intro K hK
             simp -implicitDefEqProofs (disch := first | decide | assumption | omega) only [go_sem, wrap_id]
             try simp -implicitDefEqProofs (disch := first | decide | assumption | omega) only [go_sem, wrap_id]
             refine CallA.mono (toSSS_ok _ g _ (RdS.pres rg (Ext.pres eB)) hMg) ?_
             intro v40_2 h40_2
             rintro ⟨f40_2, ho40_2, hf40_2, e40_2⟩
             replace how20_12_0 := OS.ext how20_12_0 e40_2
             replace hod21_1 := OS.ext hod21_1 e40_2
             replace hom21_1 := OS.ext hom21_1 e40_2
             replace hod22_1 := OS.ext hod22_1 e40_2
             replace hom22_1 := OS.ext hom22_1 e40_2
             replace ho23_1 := OS.ext ho23_1 e40_2
             replace hod24_1 := OS.ext hod24_1 e40_2
             replace hom24_1 := OS.ext hom24_1 e40_2
             replace hod25_1 := OS.ext hod25_1 e40_2
             replace hom25_1 := OS.ext hom25_1 e40_2
             replace ho26_1 := OS.ext ho26_1 e40_2
             replace how27_6_0 := OS.ext how27_6_0 e40_2
             replace hb0_0 := BoxAt.ext hb0_0 e40_2
             replace hb0_1 := BoxAt.ext hb0_1 e40_2
             replace hb0_2 := BoxAt.ext hb0_2 e40_2
             replace hb0_3 := BoxAt.ext hb0_3 e40_2
             replace hb21_2 := BoxAt.ext hb21_2 e40_2
             replace hb22_2 := BoxAt.ext hb22_2 e40_2
             replace hb24_2 := BoxAt.ext hb24_2 e40_2
             replace hb25_2 := BoxAt.ext hb25_2 e40_2
             have := Ext.size e40_2
             replace eB := Ext.trans eB e40_2
             have hlho40_2 := OS.lt ho40_2
             try simp -implicitDefEqProofs (disch := first | decide | assumption | omega) only [go_sem, wrap_id]
             try simp -implicitDefEqProofs (disch := first | decide | assumption | omega) only [go_sem, wrap_id]
             refine CallA.pure (eqSSS_same _ _ _ _ (OS.rd ho26_1) (OS.rd ho40_2)) ?_
             try simp -implicitDefEqProofs (disch := first | decide | assumption | omega) only [go_sem, wrap_id]
             refine hK _ _ ?_
             clear hK K
             refine den_cond rfl (fun c12 => ?_) (fun c12 => ?_)
             ·try simp only [decide_eq_true_eq, decide_eq_false_iff_not, beq_iff_eq, beq_eq_false_iff_ne, bne_iff_ne, ne_eq, Bool.not_eq_true', Bool.not_eq_false', Bool.and_eq_true, Bool.or_eq_true, bne_eq_false_iff_eq] at c12
              refine den_seq ?_
              refine den_region TTok ?_
              intro K hK
              simp -implicitDefEqProofs (disch := first | decide | assumption | omega) only [go_sem, wrap_id]
              refine hK _ _ ?_
              clear hK K
              refine den_ret ?_
              simp (disch := decide) only [resP_1, puts_same, puts_ne]
              exact absurd c12 (by first | (simp; done) | (simp; omega) | omega | (simp [eqC_self]; done))
             ·try simp only [decide_eq_true_eq, decide_eq_false_iff_not, beq_iff_eq, beq_eq_false_iff_ne, bne_iff_ne, ne_eq, Bool.not_eq_true', Bool.not_eq_false', Bool.and_eq_true, Bool.or_eq_true, bne_eq_false_iff_eq] at c12
              refine den_skip ?_
              refine den_seq ?_
              refine den_region TTok ?_
              intro K hK
              simp -implicitDefEqProofs (disch := first | decide | assumption | omega) only [go_sem, wrap_id]
              refine hK _ _ ?_
              clear hK K
              refine den_seq ?_
              refine den_region TTok ?_
              intro K hK
              simp -implicitDefEqProofs (disch := first | decide | assumption | omega) only [go_sem, ld31, BoxAt.cell hb21_2, wrap_id]
              try simp -implicitDefEqProofs (disch := first | decide | assumption | omega) only [go_sem, wrap_id]
              refine CallA.mono (markCx_ok _ _ X (1 : Int) _ _ _ hod21_1 hom21_1 (List.nodup_append.2 ⟨hfd21_1.nodup, hfm21_1.nodup, fun b hb c hc e => ap5 b hb (e ▸ hc)⟩) (by omega)) ?_
              intro v_ h43_2
              rintro ⟨rfl, hogd43_2, hogm43_2, cg43_2⟩
              replace how20_12_0 := OS.chg how20_12_0 cg43_2 (Apart.app (apart_lt hlhow20_12_0 hfd21_1 (by omega)) (apart_lt hlhow20_12_0 hfm21_1 (by omega)))
              replace hod22_1 := OS.chg hod22_1 cg43_2 (Apart.app (apart_gt hfd22_1 hlhod21_1 (by omega)) (apart_gt hfd22_1 hlhom21_1 (by omega)))
              replace hom22_1 := OS.chg hom22_1 cg43_2 (Apart.app (apart_gt hfm22_1 hlhod21_1 (by omega)) (apart_gt hfm22_1 hlhom21_1 (by omega)))
              replace ho23_1 := OS.chg ho23_1 cg43_2 (Apart.app (apart_gt hf23_1 hlhod21_1 (by omega)) (apart_gt hf23_1 hlhom21_1 (by omega)))
              replace hod24_1 := OS.chg hod24_1 cg43_2 (Apart.app (apart_gt hfd24_1 hlhod21_1 (by omega)) (apart_gt hfd24_1 hlhom21_1 (by omega)))
              replace hom24_1 := OS.chg hom24_1 cg43_2 (Apart.app (apart_gt hfm24_1 hlhod21_1 (by omega)) (apart_gt hfm24_1 hlhom21_1 (by omega)))
              replace hod25_1 := OS.chg hod25_1 cg43_2 (Apart.app (apart_gt hfd25_1 hlhod21_1 (by omega)) (apart_gt hfd25_1 hlhom21_1 (by omega)))
              replace hom25_1 := OS.chg hom25_1 cg43_2 (Apart.app (apart_gt hfm25_1 hlhod21_1 (by omega)) (apart_gt hfm25_1 hlhom21_1 (by omega)))
              replace ho26_1 := OS.chg ho26_1 cg43_2 (Apart.app (apart_gt hf26_1 hlhod21_1 (by omega)) (apart_gt hf26_1 hlhom21_1 (by omega)))
              replace how27_6_0 := OS.chg how27_6_0 cg43_2 (Apart.app (apart_gt hfw27_6_0 hlhod21_1 (by omega)) (apart_gt hfw27_6_0 hlhom21_1 (by omega)))
              replace hb0_0 := BoxAt.chgA hb0_0 cg43_2 (Apart.app (apart_lt hlhb0_0 hfd21_1 (by omega)) (apart_lt hlhb0_0 hfm21_1 (by omega)))
              replace hb0_1 := BoxAt.chgA hb0_1 cg43_2 (Apart.app (apart_lt hlhb0_1 hfd21_1 (by omega)) (apart_lt hlhb0_1 hfm21_1 (by omega)))
              replace hb0_2 := BoxAt.chgA hb0_2 cg43_2 (Apart.app (apart_lt hlhb0_2 hfd21_1 (by omega)) (apart_lt hlhb0_2 hfm21_1 (by omega)))
              replace hb0_3 := BoxAt.chgA hb0_3 cg43_2 (Apart.app (apart_lt hlhb0_3 hfd21_1 (by omega)) (apart_lt hlhb0_3 hfm21_1 (by omega)))
              replace hb21_2 := BoxAt.chgA hb21_2 cg43_2 (Apart.app (apart_gt hfhb21_2 hlhod21_1 (by omega)) (apart_gt hfhb21_2 hlhom21_1 (by omega)))
              replace hb22_2 := BoxAt.chgA hb22_2 cg43_2 (Apart.app (apart_gt hfhb22_2 hlhod21_1 (by omega)) (apart_gt hfhb22_2 hlhom21_1 (by omega)))
              replace hb24_2 := BoxAt.chgA hb24_2 cg43_2 (Apart.app (apart_gt hfhb24_2 hlhod21_1 (by omega)) (apart_gt hfhb24_2 hlhom21_1 (by omega)))
              replace hb25_2 := BoxAt.chgA hb25_2 cg43_2 (Apart.app (apart_gt hfhb25_2 hlhod21_1 (by omega)) (apart_gt hfhb25_2 hlhom21_1 (by omega)))
              have := cg43_2.size
              replace eB := Ext.then eB cg43_2 (ge_app (ge_of hfd21_1 (by omega)) (ge_of hfm21_1 (by omega)))
              have ap16 : Apart fm21_1 fd21_1 := (Apart.symm ap5)
              have hlhogd43_2 := hlhod21_1
              have ap17 : Apart fd21_1 fm21_1 := (Apart.symm ap16)
              have hlhogm43_2 := hlhom21_1
              try simp -implicitDefEqProofs (disch := first | decide | assumption | omega) only [go_sem, wrap_id]
              refine hK _ _ ?_
              clear hK K
              refine den_seq ?_
              refine den_region TTok ?_
              intro K hK
              simp -implicitDefEqProofs (disch := first | decide | assumption | omega) only [go_sem, ld31, BoxAt.cell hb22_2, wrap_id]
              try simp -implicitDefEqProofs (disch := first | decide | assumption | omega) only [go_sem, wrap_id]
              refine CallA.mono (markCx_ok _ _ U ((1 : Int) + cnt1 X.dims + cntL cnt2 X.maps) _ _ _ hod22_1 hom22_1 (List.nodup_append.2 ⟨hfd22_1.nodup, hfm22_1.nodup, fun b hb c hc e => ap6 b hb (e ▸ hc)⟩) (by omega)) ?_
              intro v_ h44_2
              rintro ⟨rfl, hogd44_2, hogm44_2, cg44_2⟩
              replace how20_12_0 := OS.chg how20_12_0 cg44_2 (Apart.app (apart_lt hlhow20_12_0 hfd22_1 (by omega)) (apart_lt hlhow20_12_0 hfm22_1 (by omega)))
              replace ho23_1 := OS.chg ho23_1 cg44_2 (Apart.app (apart_gt hf23_1 hlhod22_1 (by omega)) (apart_gt hf23_1 hlhom22_1 (by omega)))
              replace hod24_1 := OS.chg hod24_1 cg44_2 (Apart.app (apart_gt hfd24_1 hlhod22_1 (by omega)) (apart_gt hfd24_1 hlhom22_1 (by omega)))
              replace hom24_1 := OS.chg hom24_1 cg44_2 (Apart.app (apart_gt hfm24_1 hlhod22_1 (by omega)) (apart_gt hfm24_1 hlhom22_1 (by omega)))
              replace hod25_1 := OS.chg hod25_1 cg44_2 (Apart.app (apart_gt hfd25_1 hlhod22_1 (by omega)) (apart_gt hfd25_1 hlhom22_1 (by omega)))
              replace hom25_1 := OS.chg hom25_1 cg44_2 (Apart.app (apart_gt hfm25_1 hlhod22_1 (by omega)) (apart_gt hfm25_1 hlhom22_1 (by omega)))
              replace ho26_1 := OS.chg ho26_1 cg44_2 (Apart.app (apart_gt hf26_1 hlhod22_1 (by omega)) (apart_gt hf26_1 hlhom22_1 (by omega)))
              replace how27_6_0 := OS.chg how27_6_0 cg44_2 (Apart.app (apart_gt hfw27_6_0 hlhod22_1 (by omega)) (apart_gt hfw27_6_0 hlhom22_1 (by omega)))
              replace hb0_0 := BoxAt.chgA hb0_0 cg44_2 (Apart.app (apart_lt hlhb0_0 hfd22_1 (by omega)) (apart_lt hlhb0_0 hfm22_1 (by omega)))
              replace hb0_1 := BoxAt.chgA hb0_1 cg44_2 (Apart.app (apart_lt hlhb0_1 hfd22_1 (by omega)) (apart_lt hlhb0_1 hfm22_1 (by omega)))
              replace hb0_2 := BoxAt.chgA hb0_2 cg44_2 (Apart.app (apart_lt hlhb0_2 hfd22_1 (by omega)) (apart_lt hlhb0_2 hfm22_1 (by omega)))
              replace hb0_3 := BoxAt.chgA hb0_3 cg44_2 (Apart.app (apart_lt hlhb0_3 hfd22_1 (by omega)) (apart_lt hlhb0_3 hfm22_1 (by omega)))
              replace hb22_2 := BoxAt.chgA hb22_2 cg44_2 (Apart.app (apart_gt hfhb22_2 hlhod22_1 (by omega)) (apart_gt hfhb22_2 hlhom22_1 (by omega)))
              replace hb24_2 := BoxAt.chgA hb24_2 cg44_2 (Apart.app (apart_gt hfhb24_2 hlhod22_1 (by omega)) (apart_gt hfhb24_2 hlhom22_1 (by omega)))
              replace hb25_2 := BoxAt.chgA hb25_2 cg44_2 (Apart.app (apart_gt hfhb25_2 hlhod22_1 (by omega)) (apart_gt hfhb25_2 hlhom22_1 (by omega)))
              have := cg44_2.size
              replace eB := Ext.then eB cg44_2 (ge_app (ge_of hfd22_1 (by omega)) (ge_of hfm22_1 (by omega)))
              have ap18 : Apart fm22_1 fd22_1 := (Apart.symm ap6)
              have hlhogd44_2 := hlhod22_1
              have ap19 : Apart fd22_1 fm22_1 := (Apart.symm ap18)
              have hlhogm44_2 := hlhom22_1
              try simp -implicitDefEqProofs (disch := first | decide | assumption | omega) only [go_sem, wrap_id]
              refine hK _ _ ?_
              clear hK K
              refine den_seq ?_
              refine den_region TTok ?_
              intro K hK
              simp -implicitDefEqProofs (disch := first | decide | assumption | omega) only [go_sem, wrap_id]
              try simp -implicitDefEqProofs (disch := first | decide | assumption | omega) only [go_sem, wrap_id]
              refine CallA.mono (markSSS_ok _ f (((1 : Int) + cnt1 X.dims + cntL cnt2 X.maps) + cnt1 U.dims + cntL cnt2 U.maps) _ _ ho23_1 hf23_1.nodup (by omega)) ?_
              intro v_ h45_2
              rintro ⟨rfl, hog45_2, cg45_2⟩
              replace how20_12_0 := OS.chg how20_12_0 cg45_2 (apart_lt hlhow20_12_0 hf23_1 (by omega))
              replace hod24_1 := OS.chg hod24_1 cg45_2 (apart_gt hfd24_1 hlho23_1 (by omega))
              replace hom24_1 := OS.chg hom24_1 cg45_2 (apart_gt hfm24_1 hlho23_1 (by omega))
              replace hod25_1 := OS.chg hod25_1 cg45_2 (apart_gt hfd25_1 hlho23_1 (by omega))
              replace hom25_1 := OS.chg hom25_1 cg45_2 (apart_gt hfm25_1 hlho23_1 (by omega))
              replace ho26_1 := OS.chg ho26_1 cg45_2 (apart_gt hf26_1 hlho23_1 (by omega))
              replace how27_6_0 := OS.chg how27_6_0 cg45_2 (apart_gt hfw27_6_0 hlho23_1 (by omega))
              replace hb0_0 := BoxAt.chgA hb0_0 cg45_2 (apart_lt hlhb0_0 hf23_1 (by omega))
              replace hb0_1 := BoxAt.chgA hb0_1 cg45_2 (apart_lt hlhb0_1 hf23_1 (by omega))
              replace hb0_2 := BoxAt.chgA hb0_2 cg45_2 (apart_lt hlhb0_2 hf23_1 (by omega))
              replace hb0_3 := BoxAt.chgA hb0_3 cg45_2 (apart_lt hlhb0_3 hf23_1 (by omega))
              replace hb24_2 := BoxAt.chgA hb24_2 cg45_2 (apart_gt hfhb24_2 hlho23_1 (by omega))
              replace hb25_2 := BoxAt.chgA hb25_2 cg45_2 (apart_gt hfhb25_2 hlho23_1 (by omega))
              have := cg45_2.size
              replace eB := Ext.then eB cg45_2 (ge_of hf23_1 (by omega))
              have hlhog45_2 := hlho23_1
              try simp -implicitDefEqProofs (disch := first | decide | assumption | omega) only [go_sem, wrap_id]
              refine hK _ _ ?_
              clear hK K
              refine den_seq ?_
              refine den_region TTok ?_
              intro K hK
              simp -implicitDefEqProofs (disch := first | decide | assumption | omega) only [go_sem, ld31, BoxAt.cell hb24_2, wrap_id]
              try simp -implicitDefEqProofs (disch := first | decide | assumption | omega) only [go_sem, wrap_id]
              refine CallA.mono (markCx_ok _ _ Y ((((1 : Int) + cnt1 X.dims + cntL cnt2 X.maps) + cnt1 U.dims + cntL cnt2 U.maps) + cntL cnt2 f) _ _ _ hod24_1 hom24_1 (List.nodup_append.2 ⟨hfd24_1.nodup, hfm24_1.nodup, fun b hb c hc e => ap7 b hb (e ▸ hc)⟩) (by omega)) ?_
              intro v_ h46_2
              rintro ⟨rfl, hogd46_2, hogm46_2, cg46_2⟩
              replace how20_12_0 := OS.chg how20_12_0 cg46_2 (Apart.app (apart_lt hlhow20_12_0 hfd24_1 (by omega)) (apart_lt hlhow20_12_0 hfm24_1 (by omega)))
              replace hod25_1 := OS.chg hod25_1 cg46_2 (Apart.app (apart_gt hfd25_1 hlhod24_1 (by omega)) (apart_gt hfd25_1 hlhom24_1 (by omega)))
              replace hom25_1 := OS.chg hom25_1 cg46_2 (Apart.app (apart_gt hfm25_1 hlhod24_1 (by omega)) (apart_gt hfm25_1 hlhom24_1 (by omega)))
              replace ho26_1 := OS.chg ho26_1 cg46_2 (Apart.app (apart_gt hf26_1 hlhod24_1 (by omega)) (apart_gt hf26_1 hlhom24_1 (by omega)))
              replace how27_6_0 := OS.chg how27_6_0 cg46_2 (Apart.app (apart_gt hfw27_6_0 hlhod24_1 (by omega)) (apart_gt hfw27_6_0 hlhom24_1 (by omega)))
              replace hb0_0 := BoxAt.chgA hb0_0 cg46_2 (Apart.app (apart_lt hlhb0_0 hfd24_1 (by omega)) (apart_lt hlhb0_0 hfm24_1 (by omega)))
              replace hb0_1 := BoxAt.chgA hb0_1 cg46_2 (Apart.app (apart_lt hlhb0_1 hfd24_1 (by omega)) (apart_lt hlhb0_1 hfm24_1 (by omega)))
              replace hb0_2 := BoxAt.chgA hb0_2 cg46_2 (Apart.app (apart_lt hlhb0_2 hfd24_1 (by omega)) (apart_lt hlhb0_2 hfm24_1 (by omega)))
              replace hb0_3 := BoxAt.chgA hb0_3 cg46_2 (Apart.app (apart_lt hlhb0_3 hfd24_1 (by omega)) (apart_lt hlhb0_3 hfm24_1 (by omega)))
              replace hb24_2 := BoxAt.chgA hb24_2 cg46_2 (Apart.app (apart_gt hfhb24_2 hlhod24_1 (by omega)) (apart_gt hfhb24_2 hlhom24_1 (by omega)))
              replace hb25_2 := BoxAt.chgA hb25_2 cg46_2 (Apart.app (apart_gt hfhb25_2 hlhod24_1 (by omega)) (apart_gt hfhb25_2 hlhom24_1 (by omega)))
              have := cg46_2.size
              replace eB := Ext.then eB cg46_2 (ge_app (ge_of hfd24_1 (by omega)) (ge_of hfm24_1 (by omega)))
              have ap20 : Apart fm24_1 fd24_1 := (Apart.symm ap7)
              have hlhogd46_2 := hlhod24_1
              have ap21 : Apart fd24_1 fm24_1 := (Apart.symm ap20)
              have hlhogm46_2 := hlhom24_1
              try simp -implicitDefEqProofs (disch := first | decide | assumption | omega) only [go_sem, wrap_id]
              refine hK _ _ ?_
              clear hK K
              refine den_seq ?_
              refine den_region TTok ?_
              intro K hK
              simp -implicitDefEqProofs (disch := first | decide | assumption | omega) only [go_sem, ld31, BoxAt.cell hb25_2, wrap_id]
              try simp -implicitDefEqProofs (disch := first | decide | assumption | omega) only [go_sem, wrap_id]
              refine CallA.mono (markCx_ok _ _ V (((((1 : Int) + cnt1 X.dims + cntL cnt2 X.maps) + cnt1 U.dims + cntL cnt2 U.maps) + cntL cnt2 f) + cnt1 Y.dims + cntL cnt2 Y.maps) _ _ _ hod25_1 hom25_1 (List.nodup_append.2 ⟨hfd25_1.nodup, hfm25_1.nodup, fun b hb c hc e => ap8 b hb (e ▸ hc)⟩) (by omega)) ?_
              intro v_ h47_2
              rintro ⟨rfl, hogd47_2, hogm47_2, cg47_2⟩
              replace how20_12_0 := OS.chg how20_12_0 cg47_2 (Apart.app (apart_lt hlhow20_12_0 hfd25_1 (by omega)) (apart_lt hlhow20_12_0 hfm25_1 (by omega)))
              replace ho26_1 := OS.chg ho26_1 cg47_2 (Apart.app (apart_gt hf26_1 hlhod25_1 (by omega)) (apart_gt hf26_1 hlhom25_1 (by omega)))
              replace how27_6_0 := OS.chg how27_6_0 cg47_2 (Apart.app (apart_gt hfw27_6_0 hlhod25_1 (by omega)) (apart_gt hfw27_6_0 hlhom25_1 (by omega)))
              replace hb0_0 := BoxAt.chgA hb0_0 cg47_2 (Apart.app (apart_lt hlhb0_0 hfd25_1 (by omega)) (apart_lt hlhb0_0 hfm25_1 (by omega)))
              replace hb0_1 := BoxAt.chgA hb0_1 cg47_2 (Apart.app (apart_lt hlhb0_1 hfd25_1 (by omega)) (apart_lt hlhb0_1 hfm25_1 (by omega)))
              replace hb0_2 := BoxAt.chgA hb0_2 cg47_2 (Apart.app (apart_lt hlhb0_2 hfd25_1 (by omega)) (apart_lt hlhb0_2 hfm25_1 (by omega)))
              replace hb0_3 := BoxAt.chgA hb0_3 cg47_2 (Apart.app (apart_lt hlhb0_3 hfd25_1 (by omega)) (apart_lt hlhb0_3 hfm25_1 (by omega)))
              replace hb25_2 := BoxAt.chgA hb25_2 cg47_2 (Apart.app (apart_gt hfhb25_2 hlhod25_1 (by omega)) (apart_gt hfhb25_2 hlhom25_1 (by omega)))
              have := cg47_2.size
              replace eB := Ext.then eB cg47_2 (ge_app (ge_of hfd25_1 (by omega)) (ge_of hfm25_1 (by omega)))
              have ap22 : Apart fm25_1 fd25_1 := (Apart.symm ap8)
              have hlhogd47_2 := hlhod25_1
              have ap23 : Apart fd25_1 fm25_1 := (Apart.symm ap22)
              have hlhogm47_2 := hlhom25_1
              try simp -implicitDefEqProofs (disch := first | decide | assumption | omega) only [go_sem, wrap_id]
              refine hK _ _ ?_
              clear hK K
              refine den_seq ?_
              refine den_region TTok ?_
              intro K hK
              simp -implicitDefEqProofs (disch := first | decide | assumption | omega) only [go_sem, wrap_id]
              try simp -implicitDefEqProofs (disch := first | decide | assumption | omega) only [go_sem, wrap_id]
              refine CallA.mono (markSSS_ok _ g ((((((1 : Int) + cnt1 X.dims + cntL cnt2 X.maps) + cnt1 U.dims + cntL cnt2 U.maps) + cntL cnt2 f) + cnt1 Y.dims + cntL cnt2 Y.maps) + cnt1 V.dims + cntL cnt2 V.maps) _ _ ho26_1 hf26_1.nodup (by omega)) ?_
              intro v_ h48_2
              rintro ⟨rfl, hog48_2, cg48_2⟩
              replace how20_12_0 := OS.chg how20_12_0 cg48_2 (apart_lt hlhow20_12_0 hf26_1 (by omega))
              replace how27_6_0 := OS.chg how27_6_0 cg48_2 (apart_gt hfw27_6_0 hlho26_1 (by omega))
              replace hb0_0 := BoxAt.chgA hb0_0 cg48_2 (apart_lt hlhb0_0 hf26_1 (by omega))
              replace hb0_1 := BoxAt.chgA hb0_1 cg48_2 (apart_lt hlhb0_1 hf26_1 (by omega))
              replace hb0_2 := BoxAt.chgA hb0_2 cg48_2 (apart_lt hlhb0_2 hf26_1 (by omega))
              replace hb0_3 := BoxAt.chgA hb0_3 cg48_2 (apart_lt hlhb0_3 hf26_1 (by omega))
              have := cg48_2.size
              replace eB := Ext.then eB cg48_2 (ge_of hf26_1 (by omega))
              have hlhog48_2 := hlho26_1
              try simp -implicitDefEqProofs (disch := first | decide | assumption | omega) only [go_sem, wrap_id]
              refine hK _ _ ?_
              clear hK K
              refine den_seq ?_
              refine den_seq ?_
              refine den_mergeH [(166, .bool ((((decide ((((((((1 : Int) + cnt1 X.dims + cntL cnt2 X.maps) + cnt1 U.dims + cntL cnt2 U.maps) + cntL cnt2 f) + cnt1 Y.dims + cntL cnt2 Y.maps) + cnt1 V.dims + cntL cnt2 V.maps) + cntL cnt2 g) < (0 : Int))) || (!(true))) || (((prP X U f Y V g).2) != ((prP X U f Y V g).2)))))] [2, 5, 6, 7, 9, 10, 14, 15, 22] ?_ ?_
               -- a way
              ·refine den_region TTok ?_
               intro K hK
               simp -implicitDefEqProofs (disch := first | decide | assumption | (simp (disch := decide) only [slotOf_zero, slotOf_succ, Option.map_some, puts_same, puts_ne, gv_bool, gv_undef, tt, tf, ft, ff, eq_self, if_true, if_false, Bool.false_eq_true, Bool.not_true, Bool.not_false]; done) | omega) only [go_sem, wrap_id]
               refine opsP_F (by simp (disch := decide) only [slotOf_zero, slotOf_succ, Option.map_some, puts_same, puts_ne, gv_bool, gv_undef, tt, tf, ft, ff, eq_self, if_true, if_false, Bool.false_eq_true, Bool.not_true, Bool.not_false]; rfl) (fun g24 => ?_) (fun g24 => ?_)
               ·try simp -implicitDefEqProofs (disch := first | decide | assumption | (simp (disch := decide) only [slotOf_zero, slotOf_succ, Option.map_some, puts_same, puts_ne, gv_bool, gv_undef, tt, tf, ft, ff, eq_self, if_true, if_false, Bool.false_eq_true, Bool.not_true, Bool.not_false, g24]; done) | omega) only [go_sem, wrap_id, g24, eq_self, if_true, if_false, Bool.false_eq_true]
                try simp -implicitDefEqProofs (disch := first | decide | assumption | omega) only [go_sem, wrap_id]
                refine CallA.pure (eqSSS_same _ _ _ _ (OS.rd how27_6_0) (OS.rd how20_12_0)) ?_
                try simp -implicitDefEqProofs (disch := first | decide | assumption | (simp (disch := decide) only [slotOf_zero, slotOf_succ, Option.map_some, puts_same, puts_ne, gv_bool, gv_undef, tt, tf, ft, ff, eq_self, if_true, if_false, Bool.false_eq_true, Bool.not_true, Bool.not_false, g24]; done) | omega) only [go_sem, wrap_id, g24, eq_self, if_true, if_false, Bool.false_eq_true]
                try simp -implicitDefEqProofs (disch := first | decide | assumption | (simp (disch := decide) only [slotOf_zero, slotOf_succ, Option.map_some, puts_same, puts_ne, gv_bool, gv_undef, tt, tf, ft, ff, eq_self, if_true, if_false, Bool.false_eq_true, Bool.not_true, Bool.not_false, g24]; done) | omega) only [go_sem, wrap_id, g24, eq_self, if_true, if_false, Bool.false_eq_true]
                refine hK _ _ ?_
                clear hK K
                refine den_stop ?_
                refine ⟨?_, rfl⟩
                first | (simp (disch := decide) only [go_sem, g24, eq_self, Bool.true_and, Bool.and_true, Bool.false_and, Bool.and_false, Bool.true_or, Bool.or_true, Bool.false_or, Bool.or_false, if_true, if_false, Bool.false_eq_true]; done) | simp [HasL, sel, puts_at, g24]
               ·try simp -implicitDefEqProofs (disch := first | decide | assumption | (simp (disch := decide) only [slotOf_zero, slotOf_succ, Option.map_some, puts_same, puts_ne, gv_bool, gv_undef, tt, tf, ft, ff, eq_self, if_true, if_false, Bool.false_eq_true, Bool.not_true, Bool.not_false, g24]; done) | omega) only [go_sem, wrap_id, g24, eq_self, if_true, if_false, Bool.false_eq_true]
                try simp -implicitDefEqProofs (disch := first | decide | assumption | (simp (disch := decide) only [slotOf_zero, slotOf_succ, Option.map_some, puts_same, puts_ne, gv_bool, gv_undef, tt, tf, ft, ff, eq_self, if_true, if_false, Bool.false_eq_true, Bool.not_true, Bool.not_false, g24]; done) | omega) only [go_sem, wrap_id, g24, eq_self, if_true, if_false, Bool.false_eq_true]
                refine hK _ _ ?_
                clear hK K
                refine den_stop ?_
                refine ⟨?_, rfl⟩
                first | (simp (disch := decide) only [go_sem, g24, eq_self, Bool.true_and, Bool.and_true, Bool.false_and, Bool.and_false, Bool.true_or, Bool.or_true, Bool.false_or, Bool.or_false, if_true, if_false, Bool.false_eq_true]; done) | simp [HasL, sel, puts_at, g24]
              intro en25
              simp (disch := decide) only [go_sem]
              refine den_cond rfl (fun c13 => ?_) (fun c13 => ?_)
              ·try simp only [decide_eq_true_eq, decide_eq_false_iff_not, beq_iff_eq, beq_eq_false_iff_ne, bne_iff_ne, ne_eq, Bool.not_eq_true', Bool.not_eq_false', Bool.and_eq_true, Bool.or_eq_true, bne_eq_false_iff_eq] at c13
               refine den_seq ?_
               refine den_region TTok ?_
               intro K hK
               simp -implicitDefEqProofs (disch := first | decide | assumption | omega) only [go_sem, wrap_id]
               refine hK _ _ ?_
               clear hK K
               refine den_ret ?_
               simp (disch := decide) only [resP_1, puts_same, puts_ne]
               exact absurd c13 (by first | (simp; done) | (simp; omega) | omega | (simp [eqC_self]; done))
              ·try simp only [decide_eq_true_eq, decide_eq_false_iff_not, beq_iff_eq, beq_eq_false_iff_ne, bne_iff_ne, ne_eq, Bool.not_eq_true', Bool.not_eq_false', Bool.and_eq_true, Bool.or_eq_true, bne_eq_false_iff_eq] at c13
               refine den_skip ?_
               refine den_seq ?_
               refine den_region TTok ?_
               intro K hK
               simp -implicitDefEqProofs (disch := first | decide | assumption | omega) only [go_sem, wrap_id]
               refine hK _ _ ?_
               clear hK K
               refine den_seq ?_
               refine den_region TTok ?_
               intro K hK
               simp -implicitDefEqProofs (disch := first | decide | assumption | omega) only [go_sem, wrap_id]
               try simp -implicitDefEqProofs (disch := first | decide | assumption | omega) only [go_sem, wrap_id]
               refine CallA.mono (markSSS_ok _ ((prP X U f Y V g).1) (1 : Int) _ _ how27_6_0 hfw27_6_0.nodup (by omega)) ?_
               intro v_ h52_2
               rintro ⟨rfl, hog52_2, cg52_2⟩
               replace how20_12_0 := OS.chg how20_12_0 cg52_2 (apart_lt hlhow20_12_0 hfw27_6_0 (by omega))
               replace hb0_0 := BoxAt.chgA hb0_0 cg52_2 (apart_lt hlhb0_0 hfw27_6_0 (by omega))
               replace hb0_1 := BoxAt.chgA hb0_1 cg52_2 (apart_lt hlhb0_1 hfw27_6_0 (by omega))
               replace hb0_2 := BoxAt.chgA hb0_2 cg52_2 (apart_lt hlhb0_2 hfw27_6_0 (by omega))
               replace hb0_3 := BoxAt.chgA hb0_3 cg52_2 (apart_lt hlhb0_3 hfw27_6_0 (by omega))
               have := cg52_2.size
               replace eB := Ext.then eB cg52_2 (ge_of hfw27_6_0 (by omega))
               have hlhog52_2 := hlhow27_6_0
               try simp -implicitDefEqProofs (disch := first | decide | assumption | omega) only [go_sem, wrap_id]
               refine hK _ _ ?_
               clear hK K
               refine den_seq ?_
               refine den_region TTok ?_
               intro K hK
               simp -implicitDefEqProofs (disch := first | decide | assumption | omega) only [go_sem, wrap_id]
               refine hK _ _ ?_
               clear hK K
               refine den_seq ?_
               refine den_region TTok ?_
               intro K hK
               simp -implicitDefEqProofs (disch := first | decide | assumption | omega) only [go_sem, wrap_id]
               try simp -implicitDefEqProofs (disch := first | decide | assumption | omega) only [go_sem, wrap_id]
               refine CallA.pure (heldSSS_ok _ ((prP X U f Y V g).1) (1 : Int) _ (OS.rd hog52_2) (by omega)) ?_
               try simp -implicitDefEqProofs (disch := first | decide | assumption | omega) only [go_sem, wrap_id]
               refine hK _ _ ?_
               clear hK K
               refine den_seq ?_
               refine den_seq ?_
               refine den_region TTok ?_
               intro K hK
               simp -implicitDefEqProofs (disch := first | decide | assumption | omega) only [go_sem, wrap_id]
               refine hK _ _ ?_
               clear hK K
               refine den_cond rfl (fun c14 => ?_) (fun c14 => ?_)
               ·try simp only [decide_eq_true_eq, decide_eq_false_iff_not, beq_iff_eq, beq_eq_false_iff_ne, bne_iff_ne, ne_eq, Bool.not_eq_true', Bool.not_eq_false', Bool.and_eq_true, Bool.or_eq_true, bne_eq_false_iff_eq] at c14
                refine den_seq ?_
                refine den_region TTok ?_
                intro K hK
                simp -implicitDefEqProofs (disch := first | decide | assumption | omega) only [go_sem, wrap_id]
                refine hK _ _ ?_
                clear hK K
                refine den_ret ?_
                simp (disch := decide) only [resP_1, puts_same, puts_ne]
                exact absurd c14 (by first | (simp; done) | (simp; omega) | omega | (simp [eqC_self]; done))
               ·try simp only [decide_eq_true_eq, decide_eq_false_iff_not, beq_iff_eq, beq_eq_false_iff_ne, bne_iff_ne, ne_eq, Bool.not_eq_true', Bool.not_eq_false', Bool.and_eq_true, Bool.or_eq_true, bne_eq_false_iff_eq] at c14
                refine den_skip ?_
                refine den_seq ?_
                refine den_seq ?_
                refine den_region TTok ?_
                intro K hK
                simp -implicitDefEqProofs (disch := first | decide | assumption | omega) only [go_sem, wrap_id]
                refine hK _ _ ?_
                clear hK K
                refine den_cond rfl (fun c15 => ?_) (fun c15 => ?_)
                ·try simp only [decide_eq_true_eq, decide_eq_false_iff_not, beq_iff_eq, beq_eq_false_iff_ne, bne_iff_ne, ne_eq, Bool.not_eq_true', Bool.not_eq_false', Bool.and_eq_true, Bool.or_eq_true, bne_eq_false_iff_eq] at c15
                 refine den_seq ?_
                 refine den_region TTok ?_
                 intro K hK
                 simp -implicitDefEqProofs (disch := first | decide | assumption | omega) only [go_sem, wrap_id]
                 refine hK _ _ ?_
                 clear hK K
                 refine den_ret ?_
                 simp (disch := decide) only [resP_1, puts_same, puts_ne]
                 exact absurd c15 (by first | (simp; done) | (simp; omega) | omega | (simp [eqC_self]; done))
                ·try simp only [decide_eq_true_eq, decide_eq_false_iff_not, beq_iff_eq, beq_eq_false_iff_ne, bne_iff_ne, ne_eq, Bool.not_eq_true', Bool.not_eq_false', Bool.and_eq_true, Bool.or_eq_true, bne_eq_false_iff_eq] at c15
                 refine den_skip ?_
                 refine den_seq ?_
                 refine den_draw TTok mixed [] [(0, true), (2, true), (4, true), (6, true), (8, true), (10, true), (1, false), (3, false), (5, false), (7, false), (9, false), (11, false), (12, false), (13, true), (14, true), (15, true), (16, true), (17, true)] (by kernel_rfl) ?_
                 intro K hK
                 simp -implicitDefEqProofs (disch := first | decide | assumption | omega) only [go_sem, ld25, BoxAt.cell hb0_0, BoxAt.cell hb0_1, BoxAt.cell hb0_2, BoxAt.cell hb0_3, wrap_id]
                 try simp -implicitDefEqProofs (disch := first | decide | assumption | omega) only [go_sem, wrap_id]
                 refine CallA.mono (toC_ok _ X _ ⟨_, _, rfl, (RdS.pres hdX (Ext.pres eB)), (RdS.pres hmX (Ext.pres eB))⟩ hMX) ?_
                 intro v_ h59_1
                 rintro ⟨vd59_1, vm59_1, fd59_1, fm59_1, rfl, hod59_1, hom59_1, hf59_1, e59_1⟩
                 replace how20_12_0 := OS.ext how20_12_0 e59_1
                 replace hog52_2 := OS.ext hog52_2 e59_1
                 replace hb0_0 := BoxAt.ext hb0_0 e59_1
                 replace hb0_1 := BoxAt.ext hb0_1 e59_1
                 replace hb0_2 := BoxAt.ext hb0_2 e59_1
                 replace hb0_3 := BoxAt.ext hb0_3 e59_1
                 have := Ext.size e59_1
                 replace eB := Ext.trans eB e59_1
                 have hfd59_1 := hf59_1.left
                 have hfm59_1 := hf59_1.right
                 have hlhod59_1 := OS.lt hod59_1
                 have hlhom59_1 := OS.lt hom59_1
                 have ap28 : Apart fd59_1 fm59_1 := apart_nodup hf59_1
                 try simp (disch := decide) only [outv_some, outv_none, put_puts]
                 refine plK_pres (Ext.pres e59_1) ?_
                 try simp -implicitDefEqProofs (disch := first | decide | assumption | omega) only [go_sem, wrap_id]
                 try simp -implicitDefEqProofs (disch := first | decide | assumption | omega) only [go_sem, wrap_id]
                 refine CallA.mono (toC_ok _ U _ ⟨_, _, rfl, (RdS.pres hdU (Ext.pres eB)), (RdS.pres hmU (Ext.pres eB))⟩ hMU) ?_
                 intro v_ h59_3
                 rintro ⟨vd59_3, vm59_3, fd59_3, fm59_3, rfl, hod59_3, hom59_3, hf59_3, e59_3⟩
                 replace how20_12_0 := OS.ext how20_12_0 e59_3
                 replace hog52_2 := OS.ext hog52_2 e59_3
                 replace hod59_1 := OS.ext hod59_1 e59_3
                 replace hom59_1 := OS.ext hom59_1 e59_3
                 replace hb0_0 := BoxAt.ext hb0_0 e59_3
                 replace hb0_1 := BoxAt.ext hb0_1 e59_3
                 replace hb0_2 := BoxAt.ext hb0_2 e59_3
                 replace hb0_3 := BoxAt.ext hb0_3 e59_3
                 have := Ext.size e59_3
                 replace eB := Ext.trans eB e59_3
                 have hfd59_3 := hf59_3.left
                 have hfm59_3 := hf59_3.right
                 have hlhod59_3 := OS.lt hod59_3
                 have hlhom59_3 := OS.lt hom59_3
                 have ap29 : Apart fd59_3 fm59_3 := apart_nodup hf59_3
                 try simp (disch := decide) only [outv_some, outv_none, put_puts]
                 refine plK_pres (Ext.pres e59_3) ?_
                 try simp -implicitDefEqProofs (disch := first | decide | assumption | omega) only [go_sem, wrap_id]
                 try simp -implicitDefEqProofs (disch := first | decide | assumption | omega) only [go_sem, wrap_id]
                 refine CallA.mono (toSSS_ok _ f _ (RdS.pres rf (Ext.pres eB)) hMf) ?_
                 intro v59_5 h59_5
                 rintro ⟨f59_5, ho59_5, hf59_5, e59_5⟩
                 replace how20_12_0 := OS.ext how20_12_0 e59_5
                 replace hog52_2 := OS.ext hog52_2 e59_5
                 replace hod59_1 := OS.ext hod59_1 e59_5
                 replace hom59_1 := OS.ext hom59_1 e59_5
                 replace hod59_3 := OS.ext hod59_3 e59_5
                 replace hom59_3 := OS.ext hom59_3 e59_5
                 replace hb0_0 := BoxAt.ext hb0_0 e59_5
                 replace hb0_1 := BoxAt.ext hb0_1 e59_5
                 replace hb0_2 := BoxAt.ext hb0_2 e59_5
                 replace hb0_3 := BoxAt.ext hb0_3 e59_5
                 have := Ext.size e59_5
                 replace eB := Ext.trans eB e59_5
                 have hlho59_5 := OS.lt ho59_5
                 try simp (disch := decide) only [outv_some, outv_none, put_puts]
                 refine plK_pres (Ext.pres e59_5) ?_
                 try simp -implicitDefEqProofs (disch := first | decide | assumption | omega) only [go_sem, wrap_id]
                 try simp -implicitDefEqProofs (disch := first | decide | assumption | omega) only [go_sem, wrap_id]
                 refine CallA.mono (toC_ok _ Y _ ⟨_, _, rfl, (RdS.pres hdY (Ext.pres eB)), (RdS.pres hmY (Ext.pres eB))⟩ hMY) ?_
                 intro v_ h59_7
                 rintro ⟨vd59_7, vm59_7, fd59_7, fm59_7, rfl, hod59_7, hom59_7, hf59_7, e59_7⟩
                 replace how20_12_0 := OS.ext how20_12_0 e59_7
                 replace hog52_2 := OS.ext hog52_2 e59_7
                 replace hod59_1 := OS.ext hod59_1 e59_7
                 replace hom59_1 := OS.ext hom59_1 e59_7
                 replace hod59_3 := OS.ext hod59_3 e59_7
                 replace hom59_3 := OS.ext hom59_3 e59_7
                 replace ho59_5 := OS.ext ho59_5 e59_7
                 replace hb0_0 := BoxAt.ext hb0_0 e59_7
                 replace hb0_1 := BoxAt.ext hb0_1 e59_7
                 replace hb0_2 := BoxAt.ext hb0_2 e59_7
                 replace hb0_3 := BoxAt.ext hb0_3 e59_7
                 have := Ext.size e59_7
                 replace eB := Ext.trans eB e59_7
                 have hfd59_7 := hf59_7.left
                 have hfm59_7 := hf59_7.right
                 have hlhod59_7 := OS.lt hod59_7
                 have hlhom59_7 := OS.lt hom59_7
                 have ap30 : Apart fd59_7 fm59_7 := apart_nodup hf59_7
                 try simp (disch := decide) only [outv_some, outv_none, put_puts]
                 refine plK_pres (Ext.pres e59_7) ?_
                 try simp -implicitDefEqProofs (disch := first | decide | assumption | omega) only [go_sem, wrap_id]
                 try simp -implicitDefEqProofs (disch := first | decide | assumption | omega) only [go_sem, wrap_id]
                 refine CallA.mono (toC_ok _ V _ ⟨_, _, rfl, (RdS.pres hdV (Ext.pres eB)), (RdS.pres hmV (Ext.pres eB))⟩ hMV) ?_
                 intro v_ h59_9
                 rintro ⟨vd59_9, vm59_9, fd59_9, fm59_9, rfl, hod59_9, hom59_9, hf59_9, e59_9⟩
                 replace how20_12_0 := OS.ext how20_12_0 e59_9
                 replace hog52_2 := OS.ext hog52_2 e59_9
                 replace hod59_1 := OS.ext hod59_1 e59_9
                 replace hom59_1 := OS.ext hom59_1 e59_9
                 replace hod59_3 := OS.ext hod59_3 e59_9
                 replace hom59_3 := OS.ext hom59_3 e59_9
                 replace ho59_5 := OS.ext ho59_5 e59_9
                 replace hod59_7 := OS.ext hod59_7 e59_9
                 replace hom59_7 := OS.ext hom59_7 e59_9
                 replace hb0_0 := BoxAt.ext hb0_0 e59_9
                 replace hb0_1 := BoxAt.ext hb0_1 e59_9
                 replace hb0_2 := BoxAt.ext hb0_2 e59_9
                 replace hb0_3 := BoxAt.ext hb0_3 e59_9
                 have := Ext.size e59_9
                 replace eB := Ext.trans eB e59_9
                 have hfd59_9 := hf59_9.left
                 have hfm59_9 := hf59_9.right
                 have hlhod59_9 := OS.lt hod59_9
                 have hlhom59_9 := OS.lt hom59_9
                 have ap31 : Apart fd59_9 fm59_9 := apart_nodup hf59_9
                 try simp (disch := decide) only [outv_some, outv_none, put_puts]
                 refine plK_pres (Ext.pres e59_9) ?_
                 try simp -implicitDefEqProofs (disch := first | decide | assumption | omega) only [go_sem, wrap_id]
                 try simp -implicitDefEqProofs (disch := first | decide | assumption | omega) only [go_sem, wrap_id]
                 refine CallA.mono (toSSS_ok _ g _ (RdS.pres rg (Ext.pres eB)) hMg) ?_
                 intro v59_11 h59_11
                 rintro ⟨f59_11, ho59_11, hf59_11, e59_11⟩
                 replace how20_12_0 := OS.ext how20_12_0 e59_11
                 replace hog52_2 := OS.ext hog52_2 e59_11
                 replace hod59_1 := OS.ext hod59_1 e59_11
                 replace hom59_1 := OS.ext hom59_1 e59_11
                 replace hod59_3 := OS.ext hod59_3 e59_11
                 replace hom59_3 := OS.ext hom59_3 e59_11
                 replace ho59_5 := OS.ext ho59_5 e59_11
                 replace hod59_7 := OS.ext hod59_7 e59_11
                 replace hom59_7 := OS.ext hom59_7 e59_11
                 replace hod59_9 := OS.ext hod59_9 e59_11
                 replace hom59_9 := OS.ext hom59_9 e59_11
                 replace hb0_0 := BoxAt.ext hb0_0 e59_11
                 replace hb0_1 := BoxAt.ext hb0_1 e59_11
                 replace hb0_2 := BoxAt.ext hb0_2 e59_11
                 replace hb0_3 := BoxAt.ext hb0_3 e59_11
                 have := Ext.size e59_11
                 replace eB := Ext.trans eB e59_11
                 have hlho59_11 := OS.lt ho59_11
                 try simp (disch := decide) only [outv_some, outv_none, put_puts]
                 refine plK_pres (Ext.pres e59_11) ?_
                 try simp -implicitDefEqProofs (disch := first | decide | assumption | omega) only [go_sem, wrap_id]
                 try simp -implicitDefEqProofs (disch := first | decide | assumption | omega) only [go_sem, wrap_id]
                 refine CallA.mono (iPr_ok _ _ _ _ _ _ X U f Y V g _ ⟨_, _, rfl, (OS.rd hod59_1), (OS.rd hom59_1)⟩ ⟨_, _, rfl, (OS.rd hod59_3), (OS.rd hom59_3)⟩ (OS.rd ho59_5) ⟨_, _, rfl, (OS.rd hod59_7), (OS.rd hom59_7)⟩ ⟨_, _, rfl, (OS.rd hod59_9), (OS.rd hom59_9)⟩ (OS.rd ho59_11) ) ?_
                 intro v_ h59_12
                 rintro ⟨vw59_12_0, fw59_12_0, rfl, how59_12_0, hfw59_12_0, e59_12⟩
                 replace how20_12_0 := OS.ext how20_12_0 e59_12
                 replace hog52_2 := OS.ext hog52_2 e59_12
                 replace hod59_1 := OS.ext hod59_1 e59_12
                 replace hom59_1 := OS.ext hom59_1 e59_12
                 replace hod59_3 := OS.ext hod59_3 e59_12
                 replace hom59_3 := OS.ext hom59_3 e59_12
                 replace ho59_5 := OS.ext ho59_5 e59_12
                 replace hod59_7 := OS.ext hod59_7 e59_12
                 replace hom59_7 := OS.ext hom59_7 e59_12
                 replace hod59_9 := OS.ext hod59_9 e59_12
                 replace hom59_9 := OS.ext hom59_9 e59_12
                 replace ho59_11 := OS.ext ho59_11 e59_12
                 replace hb0_0 := BoxAt.ext hb0_0 e59_12
                 replace hb0_1 := BoxAt.ext hb0_1 e59_12
                 replace hb0_2 := BoxAt.ext hb0_2 e59_12
                 replace hb0_3 := BoxAt.ext hb0_3 e59_12
                 have := Ext.size e59_12
                 replace eB := Ext.trans eB e59_12
                 have hlhow59_12_0 := OS.lt how59_12_0
                 try simp (disch := decide) only [outv_some, outv_none, put_puts]
                 refine plK_pres (Ext.pres e59_12) ?_
                 try simp -implicitDefEqProofs (disch := first | decide | assumption | omega) only [go_sem, wrap_id]
                 refine hK _ _ ?_
                 clear hK K
                 refine den_seq ?_
                 refine den_seq ?_
                 refine den_mergeH [(202, .bool (((!(true)) || (((prP X U f Y V g).2) != ((prP X U f Y V g).2)))))] [22, 25] ?_ ?_
                  -- a way
                 ·refine den_region TTok ?_
                  intro K hK
                  simp -implicitDefEqProofs (disch := first | decide | assumption | (simp (disch := decide) only [slotOf_zero, slotOf_succ, Option.map_some, puts_same, puts_ne, gv_bool, gv_undef, tt, tf, ft, ff, eq_self, if_true, if_false, Bool.false_eq_true, Bool.not_true, Bool.not_false]; done) | omega) only [go_sem, wrap_id]
                  try simp -implicitDefEqProofs (disch := first | decide | assumption | omega) only [go_sem, wrap_id]
                  refine CallA.pure (eqSSS_same _ _ _ _ (OS.rd how59_12_0) (OS.rd how20_12_0)) ?_
                  try simp -implicitDefEqProofs (disch := first | decide | assumption | (simp (disch := decide) only [slotOf_zero, slotOf_succ, Option.map_some, puts_same, puts_ne, gv_bool, gv_undef, tt, tf, ft, ff, eq_self, if_true, if_false, Bool.false_eq_true, Bool.not_true, Bool.not_false]; done) | omega) only [go_sem, wrap_id]
                  try simp -implicitDefEqProofs (disch := first | decide | assumption | (simp (disch := decide) only [slotOf_zero, slotOf_succ, Option.map_some, puts_same, puts_ne, gv_bool, gv_undef, tt, tf, ft, ff, eq_self, if_true, if_false, Bool.false_eq_true, Bool.not_true, Bool.not_false]; done) | omega) only [go_sem, wrap_id]
                  refine hK _ _ ?_
                  clear hK K
                  refine den_stop ?_
                  refine ⟨?_, rfl⟩
                  first | (simp (disch := decide) only [go_sem, eq_self, Bool.true_and, Bool.and_true, Bool.false_and, Bool.and_false, Bool.true_or, Bool.or_true, Bool.false_or, Bool.or_false, if_true, if_false, Bool.false_eq_true]; done) | simp [HasL, sel, puts_at]
                 intro en32
                 simp (disch := decide) only [go_sem]
                 refine den_cond rfl (fun c16 => ?_) (fun c16 => ?_)
                 ·try simp only [decide_eq_true_eq, decide_eq_false_iff_not, beq_iff_eq, beq_eq_false_iff_ne, bne_iff_ne, ne_eq, Bool.not_eq_true', Bool.not_eq_false', Bool.and_eq_true, Bool.or_eq_true, bne_eq_false_iff_eq] at c16
                  refine den_seq ?_
                  refine den_region TTok ?_
                  intro K hK
                  simp -implicitDefEqProofs (disch := first | decide | assumption | omega) only [go_sem, wrap_id]
                  refine hK _ _ ?_
                  clear hK K
                  refine den_ret ?_
                  simp (disch := decide) only [resP_1, puts_same, puts_ne]
                  exact absurd c16 (by first | (simp; done) | (simp; omega) | omega | (simp [eqC_self]; done))
                 ·try simp only [decide_eq_true_eq, decide_eq_false_iff_not, beq_iff_eq, beq_eq_false_iff_ne, bne_iff_ne, ne_eq, Bool.not_eq_true', Bool.not_eq_false', Bool.and_eq_true, Bool.or_eq_true, bne_eq_false_iff_eq] at c16
                  refine den_skip ?_
                  refine den_seq ?_
                  refine den_region TTok ?_
                  intro K hK
                  simp -implicitDefEqProofs (disch := first | decide | assumption | omega) only [go_sem, wrap_id]
                  refine hK _ _ ?_
                  clear hK K
                  refine den_seq ?_
                  refine den_region TTok ?_
                  intro K hK
                  simp -implicitDefEqProofs (disch := first | decide | assumption | omega) only [go_sem, wrap_id]
                  try simp -implicitDefEqProofs (disch := first | decide | assumption | omega) only [go_sem, wrap_id]
                  refine CallA.pure (heldSSS_ok _ ((prP X U f Y V g).1) (1 : Int) _ (OS.rd hog52_2) (by omega)) ?_
                  try simp -implicitDefEqProofs (disch := first | decide | assumption | omega) only [go_sem, wrap_id]
                  refine hK _ _ ?_
                  clear hK K
                  refine den_seq ?_
                  refine den_seq ?_
                  refine den_region TTok ?_
                  intro K hK
                  simp -implicitDefEqProofs (disch := first | decide | assumption | omega) only [go_sem, wrap_id]
                  refine hK _ _ ?_
                  clear hK K
                  refine den_cond rfl (fun c17 => ?_) (fun c17 => ?_)
                  ·try simp only [decide_eq_true_eq, decide_eq_false_iff_not, beq_iff_eq, beq_eq_false_iff_ne, bne_iff_ne, ne_eq, Bool.not_eq_true', Bool.not_eq_false', Bool.and_eq_true, Bool.or_eq_true, bne_eq_false_iff_eq] at c17
                   refine den_seq ?_
                   refine den_region TTok ?_
                   intro K hK
                   simp -implicitDefEqProofs (disch := first | decide | assumption | omega) only [go_sem, wrap_id]
                   refine hK _ _ ?_
                   clear hK K
                   refine den_ret ?_
                   simp (disch := decide) only [resP_1, puts_same, puts_ne]
                   exact absurd c17 (by first | (simp; done) | (simp; omega) | omega | (simp [eqC_self]; done))
                  ·try simp only [decide_eq_true_eq, decide_eq_false_iff_not, beq_iff_eq, beq_eq_false_iff_ne, bne_iff_ne, ne_eq, Bool.not_eq_true', Bool.not_eq_false', Bool.and_eq_true, Bool.or_eq_true, bne_eq_false_iff_eq] at c17
                   refine den_skip ?_
                   refine den_seq ?_
                   refine den_seq ?_
                   refine den_region TTok ?_
                   intro K hK
                   simp -implicitDefEqProofs (disch := first | decide | assumption | omega) only [go_sem, wrap_id]
                   refine hK _ _ ?_
                   clear hK K
                   refine den_cond rfl (fun c18 => ?_) (fun c18 => ?_)
                   ·try simp only [decide_eq_true_eq, decide_eq_false_iff_not, beq_iff_eq, beq_eq_false_iff_ne, bne_iff_ne, ne_eq, Bool.not_eq_true', Bool.not_eq_false', Bool.and_eq_true, Bool.or_eq_true, bne_eq_false_iff_eq] at c18
                    refine den_seq ?_
                    refine den_region TTok ?_
                    intro K hK
                    simp -implicitDefEqProofs (disch := first | decide | assumption | omega) only [go_sem, wrap_id]
                    refine hK _ _ ?_
                    clear hK K
                    refine den_ret ?_
                    simp (disch := decide) only [resP_1, puts_same, puts_ne]
                    exact absurd c18 (by first | (simp; done) | (simp; omega) | omega | (simp [eqC_self]; done))
                   ·try simp only [decide_eq_true_eq, decide_eq_false_iff_not, beq_iff_eq, beq_eq_false_iff_ne, bne_iff_ne, ne_eq, Bool.not_eq_true', Bool.not_eq_false', Bool.and_eq_true, Bool.or_eq_true, bne_eq_false_iff_eq] at c18
                    refine den_skip ?_
                    refine den_seq ?_
                    refine den_region TTok ?_
                    intro K hK
                    simp -implicitDefEqProofs (disch := first | decide | assumption | omega) only [go_sem, wrap_id]
                    refine hK _ _ ?_
                    clear hK K
                    refine den_ret ?_
                    simp (disch := decide) only [resP_1, puts_same, puts_ne]
                    exact ⟨by first | rfl | trivial, eB⟩
end Go.Proofs.Ytjjjgllbocgkbaa
