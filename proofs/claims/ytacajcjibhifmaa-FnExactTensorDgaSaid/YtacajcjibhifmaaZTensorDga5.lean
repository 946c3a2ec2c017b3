/-
  What the statement FnExactTensorDga uses of the walks, part 5.
  Conditions: each theorem's own.
-/
import Derived.Test.YtacajcjibhifmaaG16
import Derived.Test.YtacajcjibhifmaaG17
import Derived.Test.YtacajcjibhifmaaG14
import Derived.Test.YtacajcjibhifmaaG13
import Derived.Test.YtacajcjibhifmaaG15
import Derived.Test.YtacajcjibhifmaaG18
import Derived.Test.YtacajcjibhifmaaG22
import Derived.Test.YtacajcjibhifmaaZTensorDga1
import Derived.Test.YtacajcjibhifmaaZTensorDga2
import Derived.Test.YtacajcjibhifmaaZTensorDga3
import Derived.Test.YtacajcjibhifmaaZTensorDga4
set_option linter.unusedVariables false
set_option linter.unusedSimpArgs false
namespace Go.Proofs.Ytacajcjibhifmaa
open Go
attribute [local irreducible] el8A el88A in8A dgA
set_option maxRecDepth 100000 in
set_option maxHeartbeats 4000000 in
theorem exactTensorDga_law (X Y : Dg) (h : Heap) (hBX : DgB X) (hBY : DgB Y) : CallA Try.prog 6 #[.agg (dgA X), .agg (dgA Y)] h fun v' h' => v' = .bool true ∧ Ext h h' := by
 refine callA_intro TTok (args := [_, _]) Try.func6 (by kernel_rfl) rfl 34 rfl (by simp) [.tmp 4] rfl ?_
 simp only [idxs, Nat.reduceAdd]
 refine den_seq ?_
 refine den_region TTok ?_
 intro K hK
 simp -implicitDefEqProofs (disch := first | decide | assumption | omega) only [go_sem, wrap_id, cv_u8, cv_i64, Nat.zero_add, wrap_u8, eq_el, ne_el, build_el, Int.toNat_zero]
 refine op_box (cs := dgA X) rfl ?_
 intro h0_0 e0_0 hb0_0 z0_0
 have := Ext.size e0_0
 have eB := e0_0
 have hfhb0_0 : Fresh h.size [h.size] := Fresh.one _
 have hlhb0_0 := one_lt (show h.size < h0_0.size by omega)
 try simp -implicitDefEqProofs (disch := first | decide | assumption | omega) only [go_sem, wrap_id, cv_u8, cv_i64, Nat.zero_add, wrap_u8, eq_el, ne_el, build_el, Int.toNat_zero]
 refine op_box (cs := dgA Y) rfl ?_
 intro h0_1 e0_1 hb0_1 z0_1
 replace hb0_0 := BoxAt.ext hb0_0 e0_1
 have := Ext.size e0_1
 replace eB := Ext.trans eB e0_1
 have hfhb0_1 : Fresh h0_0.size [h0_0.size] := Fresh.one _
 have hlhb0_1 := one_lt (show h0_0.size < h0_1.size by omega)
 try simp -implicitDefEqProofs (disch := first | decide | assumption | omega) only [go_sem, wrap_id, cv_u8, cv_i64, Nat.zero_add, wrap_u8, eq_el, ne_el, build_el, Int.toNat_zero]
 refine hK _ _ ?_
 clear hK K
 refine den_seq ?_
 refine den_sel [2, 3] ?_
 intro env_1
 simp only [go_sem]
 refine den_drawTJ (σ := Nat) TTok (fun st_ => [(5, .pointer (some ⟨st_, 0, none⟩)), (6, .int .i64 (((tnP X Y).2)))]) (fun st_ H => (BoxAt H st_ (dgA ((tnP X Y).1)) 34) ∧ (Fresh h0_1.size [st_]) ∧ (Ext h0_1 H)) mixed [9] [(0, true), (2, true)] (.fork 1 [] (.fork 3 [] (.fork 4 [(5, true), (6, true)] (.fork 7 [(8, false), (9, false), (10, true)] .fin 8 [] (.fork 7 [(9, false), (10, true)] .fin 9 [(7, true), (10, true)] .fin)) 8 [(4, false), (5, true), (6, true)] (.fork 7 [(9, false), (10, true)] .fin 9 [(7, true), (10, true)] .fin)) 8 [(3, false), (4, false), (5, true), (6, true)] (.fork 7 [(9, false), (10, true)] .fin 9 [(7, true), (10, true)] .fin)) 8 [(1, false), (3, false), (4, false), (5, true), (6, true)] (.fork 7 [(9, false), (10, true)] .fin 9 [(7, true), (10, true)] .fin)) (by kernel_rfl) ?_ ?_
 ·intro K hK
  have cJ2 := Ext.refl h0_1
  simp -implicitDefEqProofs (disch := first | decide | assumption | omega) only [go_sem, BoxAt.dgL hb0_0, BoxAt.dgP hb0_0, BoxAt.dgS hb0_0, BoxAt.dgDeg hb0_0, BoxAt.dgLev hb0_0, BoxAt.dgDeg0 hb0_0, BoxAt.dgLev0 hb0_0, BoxAt.dgDifL hb0_0, BoxAt.dgTabL hb0_0, BoxAt.dgTabL0 hb0_0, BoxAt.dgTabL1 hb0_0, BoxAt.dgTabL1' hb0_0, BoxAt.dgDifB hb0_0, BoxAt.dgTabB hb0_0, BoxAt.dgLL hb0_0, BoxAt.dgDegL hb0_0, BoxAt.dgLevL hb0_0, BoxAt.dgDifA hb0_0, BoxAt.dgTabA hb0_0, BoxAt.dgDifE hb0_0, BoxAt.dgTabE hb0_0, BoxAt.dgL hb0_1, BoxAt.dgP hb0_1, BoxAt.dgS hb0_1, BoxAt.dgDeg hb0_1, BoxAt.dgLev hb0_1, BoxAt.dgDeg0 hb0_1, BoxAt.dgLev0 hb0_1, BoxAt.dgDifL hb0_1, BoxAt.dgTabL hb0_1, BoxAt.dgTabL0 hb0_1, BoxAt.dgTabL1 hb0_1, BoxAt.dgTabL1' hb0_1, BoxAt.dgDifB hb0_1, BoxAt.dgTabB hb0_1, BoxAt.dgLL hb0_1, BoxAt.dgDegL hb0_1, BoxAt.dgLevL hb0_1, BoxAt.dgDifA hb0_1, BoxAt.dgTabA hb0_1, BoxAt.dgDifE hb0_1, BoxAt.dgTabE hb0_1, wrap_id, cv_u8, cv_i64, Nat.zero_add, wrap_u8, eq_el, ne_el, build_el, Int.toNat_zero]
  refine And.intro ?_ ?_
  ·simp -implicitDefEqProofs (disch := first | decide | assumption | omega) only [go_sem, wrap_id, cv_u8, cv_i64, Nat.zero_add, wrap_u8, eq_el, ne_el, build_el, Int.toNat_zero]
   try simp -implicitDefEqProofs (disch := first | decide | assumption | omega) only [go_sem, wrap_id, cv_u8, cv_i64, Nat.zero_add, wrap_u8, eq_el, ne_el, build_el, Int.toNat_zero]
   refine CallA.mono (toDg_ok  X _  ) ?_
   intro v_ h1_1
   rintro ⟨rfl, e1_1⟩
   replace hb0_0 := BoxAt.ext hb0_0 e1_1
   replace hb0_1 := BoxAt.ext hb0_1 e1_1
   have := Ext.size e1_1
   replace eB := Ext.trans eB e1_1
   replace cJ2 := Ext.trans cJ2 e1_1
   try simp (disch := decide) only [outv_some, outv_none, put_puts]
   refine plK_pres (Ext.pres e1_1) ?_
   try simp -implicitDefEqProofs (disch := first | decide | assumption | omega) only [go_sem, wrap_id, cv_u8, cv_i64, Nat.zero_add, wrap_u8, eq_el, ne_el, build_el, Int.toNat_zero]
   refine And.intro ?_ ?_
   ·simp -implicitDefEqProofs (disch := first | decide | assumption | omega) only [go_sem, wrap_id, cv_u8, cv_i64, Nat.zero_add, wrap_u8, eq_el, ne_el, build_el, Int.toNat_zero]
    try simp -implicitDefEqProofs (disch := first | decide | assumption | omega) only [go_sem, wrap_id, cv_u8, cv_i64, Nat.zero_add, wrap_u8, eq_el, ne_el, build_el, Int.toNat_zero]
    refine CallA.mono (toDg_ok  Y _  ) ?_
    intro v_ h1_3
    rintro ⟨rfl, e1_3⟩
    replace hb0_0 := BoxAt.ext hb0_0 e1_3
    replace hb0_1 := BoxAt.ext hb0_1 e1_3
    have := Ext.size e1_3
    replace eB := Ext.trans eB e1_3
    replace cJ2 := Ext.trans cJ2 e1_3
    try simp (disch := decide) only [outv_some, outv_none, put_puts]
    refine plK_pres (Ext.pres e1_3) ?_
    try simp -implicitDefEqProofs (disch := first | decide | assumption | omega) only [go_sem, wrap_id, cv_u8, cv_i64, Nat.zero_add, wrap_u8, eq_el, ne_el, build_el, Int.toNat_zero]
    refine And.intro ?_ ?_
    ·simp -implicitDefEqProofs (disch := first | decide | assumption | omega) only [go_sem, wrap_id, cv_u8, cv_i64, Nat.zero_add, wrap_u8, eq_el, ne_el, build_el, Int.toNat_zero]
     try simp -implicitDefEqProofs (disch := first | decide | assumption | omega) only [go_sem, wrap_id, cv_u8, cv_i64, Nat.zero_add, wrap_u8, eq_el, ne_el, build_el, Int.toNat_zero]
     refine CallA.mono (sTn_ok  X Y _  hBX hBY) ?_
     intro v_ h1_4
     rintro ⟨rfl, e1_4⟩
     replace hb0_0 := BoxAt.ext hb0_0 e1_4
     replace hb0_1 := BoxAt.ext hb0_1 e1_4
     have := Ext.size e1_4
     replace eB := Ext.trans eB e1_4
     replace cJ2 := Ext.trans cJ2 e1_4
     try simp (disch := decide) only [outv_some, outv_none, put_puts]
     refine plK_pres (Ext.pres e1_4) ?_
     try simp -implicitDefEqProofs (disch := first | decide | assumption | omega) only [go_sem, wrap_id, cv_u8, cv_i64, Nat.zero_add, wrap_u8, eq_el, ne_el, build_el, Int.toNat_zero]
     refine And.intro ?_ ?_
     ·simp -implicitDefEqProofs (disch := first | decide | assumption | omega) only [go_sem, wrap_id, cv_u8, cv_i64, Nat.zero_add, wrap_u8, eq_el, ne_el, build_el, Int.toNat_zero]
      refine op_alloc (cs := dgA dgZ) (by kernel_rfl) ?_
      intro h1_8 e1_8 hb1_8 z1_8
      replace hb0_0 := BoxAt.ext hb0_0 e1_8
      replace hb0_1 := BoxAt.ext hb0_1 e1_8
      have := Ext.size e1_8
      replace eB := Ext.trans eB e1_8
      replace cJ2 := Ext.trans cJ2 e1_8
      have hfhb1_8 : Fresh h1_4.size [h1_4.size] := Fresh.one _
      have hlhb1_8 := one_lt (show h1_4.size < h1_8.size by omega)
      try simp (disch := decide) only [outv_some, outv_none, put_puts]
      refine plK_pres (Ext.pres e1_8) ?_
      try simp -implicitDefEqProofs (disch := first | decide | assumption | omega) only [go_sem, wrap_id, cv_u8, cv_i64, Nat.zero_add, wrap_u8, eq_el, ne_el, build_el, Int.toNat_zero]
      generalize hDA1_9 : dgA ((tnP X Y).1) = DA1_9
      refine op_storeB (o := 0) (vs := DA1_9) (cs' := DA1_9) st34 hb1_8 rfl rfl (by rw [← hDA1_9]; exact dgA_sz _) (by rw [dgA_sz]; decide) (by rw [← hDA1_9]; exact dgA_one) (by rw [← hDA1_9]; exact dgA_all) ?_
      intro h1_9 hb1_8 c1_9
      subst hDA1_9
      replace hb0_0 := BoxAt.chgA hb0_0 c1_9 (apart_lt hlhb0_0 hfhb1_8 (by omega))
      replace hb0_1 := BoxAt.chgA hb0_1 c1_9 (apart_lt hlhb0_1 hfhb1_8 (by omega))
      have := c1_9.size
      replace eB := Ext.then eB c1_9 (ge_of hfhb1_8 (by omega))
      replace cJ2 := Ext.then cJ2 c1_9 (ge_of hfhb1_8 (by omega))
      try simp (disch := decide) only [outv_some, outv_none, put_puts]
      refine plK_last (by decide) ?_
      try simp -implicitDefEqProofs (disch := first | decide | assumption | omega) only [go_sem, wrap_id, cv_u8, cv_i64, Nat.zero_add, wrap_u8, eq_el, ne_el, build_el, Int.toNat_zero]
      exact hK h1_4.size _ _ (by simp [HasL, puts_at]) ⟨hb1_8, (hfhb1_8.mono (by omega)), cJ2⟩
     ·simp -implicitDefEqProofs (disch := first | decide | assumption | omega) only [go_sem, wrap_id, cv_u8, cv_i64, Nat.zero_add, wrap_u8, eq_el, ne_el, build_el, Int.toNat_zero]
      refine op_alloc (cs := dgA dgZ) (by kernel_rfl) ?_
      intro h1_8 e1_8 hb1_8 z1_8
      replace hb0_0 := BoxAt.ext hb0_0 e1_8
      replace hb0_1 := BoxAt.ext hb0_1 e1_8
      have := Ext.size e1_8
      replace eB := Ext.trans eB e1_8
      replace cJ2 := Ext.trans cJ2 e1_8
      have hfhb1_8 : Fresh h1_4.size [h1_4.size] := Fresh.one _
      have hlhb1_8 := one_lt (show h1_4.size < h1_8.size by omega)
      try simp (disch := decide) only [outv_some, outv_none, put_puts]
      refine plK_pres (Ext.pres e1_8) ?_
      try simp -implicitDefEqProofs (disch := first | decide | assumption | omega) only [go_sem, wrap_id, cv_u8, cv_i64, Nat.zero_add, wrap_u8, eq_el, ne_el, build_el, Int.toNat_zero]
      refine And.intro ?_ ?_
      ·simp -implicitDefEqProofs (disch := first | decide | assumption | omega) only [go_sem, wrap_id, cv_u8, cv_i64, Nat.zero_add, wrap_u8, eq_el, ne_el, build_el, Int.toNat_zero]
       generalize hDA1_9 : dgA ((tnP X Y).1) = DA1_9
       refine op_storeB (o := 0) (vs := DA1_9) (cs' := DA1_9) st34 hb1_8 rfl rfl (by rw [← hDA1_9]; exact dgA_sz _) (by rw [dgA_sz]; decide) (by rw [← hDA1_9]; exact dgA_one) (by rw [← hDA1_9]; exact dgA_all) ?_
       intro h1_9 hb1_8 c1_9
       subst hDA1_9
       replace hb0_0 := BoxAt.chgA hb0_0 c1_9 (apart_lt hlhb0_0 hfhb1_8 (by omega))
       replace hb0_1 := BoxAt.chgA hb0_1 c1_9 (apart_lt hlhb0_1 hfhb1_8 (by omega))
       have := c1_9.size
       replace eB := Ext.then eB c1_9 (ge_of hfhb1_8 (by omega))
       replace cJ2 := Ext.then cJ2 c1_9 (ge_of hfhb1_8 (by omega))
       try simp (disch := decide) only [outv_some, outv_none, put_puts]
       refine plK_last (by decide) ?_
       try simp -implicitDefEqProofs (disch := first | decide | assumption | omega) only [go_sem, wrap_id, cv_u8, cv_i64, Nat.zero_add, wrap_u8, eq_el, ne_el, build_el, Int.toNat_zero]
       exact hK h1_4.size _ _ (by simp [HasL, puts_at]) ⟨hb1_8, (hfhb1_8.mono (by omega)), cJ2⟩
      ·simp -implicitDefEqProofs (disch := first | decide | assumption | omega) only [go_sem, wrap_id, cv_u8, cv_i64, Nat.zero_add, wrap_u8, eq_el, ne_el, build_el, Int.toNat_zero]
       generalize hDA1_9 : dgA ((tnP X Y).1) = DA1_9
       refine op_storeB (o := 0) (vs := DA1_9) (cs' := DA1_9) st34 hb1_8 rfl rfl (by rw [← hDA1_9]; exact dgA_sz _) (by rw [dgA_sz]; decide) (by rw [← hDA1_9]; exact dgA_one) (by rw [← hDA1_9]; exact dgA_all) ?_
       intro h1_9 hb1_8 c1_9
       subst hDA1_9
       replace hb0_0 := BoxAt.chgA hb0_0 c1_9 (apart_lt hlhb0_0 hfhb1_8 (by omega))
       replace hb0_1 := BoxAt.chgA hb0_1 c1_9 (apart_lt hlhb0_1 hfhb1_8 (by omega))
       have := c1_9.size
       replace eB := Ext.then eB c1_9 (ge_of hfhb1_8 (by omega))
       replace cJ2 := Ext.then cJ2 c1_9 (ge_of hfhb1_8 (by omega))
       try simp (disch := decide) only [outv_some, outv_none, put_puts]
       refine plK_last (by decide) ?_
       try simp -implicitDefEqProofs (disch := first | decide | assumption | omega) only [go_sem, wrap_id, cv_u8, cv_i64, Nat.zero_add, wrap_u8, eq_el, ne_el, build_el, Int.toNat_zero]
       exact hK h1_4.size _ _ (by simp [HasL, puts_at]) ⟨hb1_8, (hfhb1_8.mono (by omega)), cJ2⟩
    ·simp -implicitDefEqProofs (disch := first | decide | assumption | omega) only [go_sem, wrap_id, cv_u8, cv_i64, Nat.zero_add, wrap_u8, eq_el, ne_el, build_el, Int.toNat_zero]
     refine op_alloc (cs := dgA dgZ) (by kernel_rfl) ?_
     intro h1_8 e1_8 hb1_8 z1_8
     replace hb0_0 := BoxAt.ext hb0_0 e1_8
     replace hb0_1 := BoxAt.ext hb0_1 e1_8
     have := Ext.size e1_8
     replace eB := Ext.trans eB e1_8
     replace cJ2 := Ext.trans cJ2 e1_8
     have hfhb1_8 : Fresh h1_3.size [h1_3.size] := Fresh.one _
     have hlhb1_8 := one_lt (show h1_3.size < h1_8.size by omega)
     try simp (disch := decide) only [outv_some, outv_none, put_puts]
     refine plK_pres (Ext.pres e1_8) ?_
     try simp -implicitDefEqProofs (disch := first | decide | assumption | omega) only [go_sem, wrap_id, cv_u8, cv_i64, Nat.zero_add, wrap_u8, eq_el, ne_el, build_el, Int.toNat_zero]
     try simp -implicitDefEqProofs (disch := first | decide | assumption | omega) only [go_sem, wrap_id, cv_u8, cv_i64, Nat.zero_add, wrap_u8, eq_el, ne_el, build_el, Int.toNat_zero]
     refine CallA.mono (sTn_ok  X Y _  hBX hBY) ?_
     intro v_ h1_4
     rintro ⟨rfl, e1_4⟩
     replace hb0_0 := BoxAt.ext hb0_0 e1_4
     replace hb0_1 := BoxAt.ext hb0_1 e1_4
     replace hb1_8 := BoxAt.ext hb1_8 e1_4
     have := Ext.size e1_4
     replace eB := Ext.trans eB e1_4
     replace cJ2 := Ext.trans cJ2 e1_4
     try simp (disch := decide) only [outv_some, outv_none, put_puts]
     refine plK_pres (Ext.pres e1_4) ?_
     try simp -implicitDefEqProofs (disch := first | decide | assumption | omega) only [go_sem, wrap_id, cv_u8, cv_i64, Nat.zero_add, wrap_u8, eq_el, ne_el, build_el, Int.toNat_zero]
     refine And.intro ?_ ?_
     ·simp -implicitDefEqProofs (disch := first | decide | assumption | omega) only [go_sem, wrap_id, cv_u8, cv_i64, Nat.zero_add, wrap_u8, eq_el, ne_el, build_el, Int.toNat_zero]
      generalize hDA1_9 : dgA ((tnP X Y).1) = DA1_9
      refine op_storeB (o := 0) (vs := DA1_9) (cs' := DA1_9) st34 hb1_8 rfl rfl (by rw [← hDA1_9]; exact dgA_sz _) (by rw [dgA_sz]; decide) (by rw [← hDA1_9]; exact dgA_one) (by rw [← hDA1_9]; exact dgA_all) ?_
      intro h1_9 hb1_8 c1_9
      subst hDA1_9
      replace hb0_0 := BoxAt.chgA hb0_0 c1_9 (apart_lt hlhb0_0 hfhb1_8 (by omega))
      replace hb0_1 := BoxAt.chgA hb0_1 c1_9 (apart_lt hlhb0_1 hfhb1_8 (by omega))
      have := c1_9.size
      replace eB := Ext.then eB c1_9 (ge_of hfhb1_8 (by omega))
      replace cJ2 := Ext.then cJ2 c1_9 (ge_of hfhb1_8 (by omega))
      try simp (disch := decide) only [outv_some, outv_none, put_puts]
      refine plK_last (by decide) ?_
      try simp -implicitDefEqProofs (disch := first | decide | assumption | omega) only [go_sem, wrap_id, cv_u8, cv_i64, Nat.zero_add, wrap_u8, eq_el, ne_el, build_el, Int.toNat_zero]
      exact hK h1_3.size _ _ (by simp [HasL, puts_at]) ⟨hb1_8, (hfhb1_8.mono (by omega)), cJ2⟩
     ·simp -implicitDefEqProofs (disch := first | decide | assumption | omega) only [go_sem, wrap_id, cv_u8, cv_i64, Nat.zero_add, wrap_u8, eq_el, ne_el, build_el, Int.toNat_zero]
      generalize hDA1_9 : dgA ((tnP X Y).1) = DA1_9
      refine op_storeB (o := 0) (vs := DA1_9) (cs' := DA1_9) st34 hb1_8 rfl rfl (by rw [← hDA1_9]; exact dgA_sz _) (by rw [dgA_sz]; decide) (by rw [← hDA1_9]; exact dgA_one) (by rw [← hDA1_9]; exact dgA_all) ?_
      intro h1_9 hb1_8 c1_9
      subst hDA1_9
      replace hb0_0 := BoxAt.chgA hb0_0 c1_9 (apart_lt hlhb0_0 hfhb1_8 (by omega))
      replace hb0_1 := BoxAt.chgA hb0_1 c1_9 (apart_lt hlhb0_1 hfhb1_8 (by omega))
      have := c1_9.size
      replace eB := Ext.then eB c1_9 (ge_of hfhb1_8 (by omega))
      replace cJ2 := Ext.then cJ2 c1_9 (ge_of hfhb1_8 (by omega))
      try simp (disch := decide) only [outv_some, outv_none, put_puts]
      refine plK_last (by decide) ?_
      try simp -implicitDefEqProofs (disch := first | decide | assumption | omega) only [go_sem, wrap_id, cv_u8, cv_i64, Nat.zero_add, wrap_u8, eq_el, ne_el, build_el, Int.toNat_zero]
      exact hK h1_3.size _ _ (by simp [HasL, puts_at]) ⟨hb1_8, (hfhb1_8.mono (by omega)), cJ2⟩
   ·simp -implicitDefEqProofs (disch := first | decide | assumption | omega) only [go_sem, wrap_id, cv_u8, cv_i64, Nat.zero_add, wrap_u8, eq_el, ne_el, build_el, Int.toNat_zero]
    refine op_alloc (cs := dgA dgZ) (by kernel_rfl) ?_
    intro h1_8 e1_8 hb1_8 z1_8
    replace hb0_0 := BoxAt.ext hb0_0 e1_8
    replace hb0_1 := BoxAt.ext hb0_1 e1_8
    have := Ext.size e1_8
    replace eB := Ext.trans eB e1_8
    replace cJ2 := Ext.trans cJ2 e1_8
    have hfhb1_8 : Fresh h1_1.size [h1_1.size] := Fresh.one _
    have hlhb1_8 := one_lt (show h1_1.size < h1_8.size by omega)
    try simp (disch := decide) only [outv_some, outv_none, put_puts]
    refine plK_pres (Ext.pres e1_8) ?_
    try simp -implicitDefEqProofs (disch := first | decide | assumption | omega) only [go_sem, wrap_id, cv_u8, cv_i64, Nat.zero_add, wrap_u8, eq_el, ne_el, build_el, Int.toNat_zero]
    try simp -implicitDefEqProofs (disch := first | decide | assumption | omega) only [go_sem, wrap_id, cv_u8, cv_i64, Nat.zero_add, wrap_u8, eq_el, ne_el, build_el, Int.toNat_zero]
    refine CallA.mono (toDg_ok  Y _  ) ?_
    intro v_ h1_3
    rintro ⟨rfl, e1_3⟩
    replace hb0_0 := BoxAt.ext hb0_0 e1_3
    replace hb0_1 := BoxAt.ext hb0_1 e1_3
    replace hb1_8 := BoxAt.ext hb1_8 e1_3
    have := Ext.size e1_3
    replace eB := Ext.trans eB e1_3
    replace cJ2 := Ext.trans cJ2 e1_3
    try simp (disch := decide) only [outv_some, outv_none, put_puts]
    refine plK_pres (Ext.pres e1_3) ?_
    try simp -implicitDefEqProofs (disch := first | decide | assumption | omega) only [go_sem, wrap_id, cv_u8, cv_i64, Nat.zero_add, wrap_u8, eq_el, ne_el, build_el, Int.toNat_zero]
    try simp -implicitDefEqProofs (disch := first | decide | assumption | omega) only [go_sem, wrap_id, cv_u8, cv_i64, Nat.zero_add, wrap_u8, eq_el, ne_el, build_el, Int.toNat_zero]
    refine CallA.mono (sTn_ok  X Y _  hBX hBY) ?_
    intro v_ h1_4
    rintro ⟨rfl, e1_4⟩
    replace hb0_0 := BoxAt.ext hb0_0 e1_4
    replace hb0_1 := BoxAt.ext hb0_1 e1_4
    replace hb1_8 := BoxAt.ext hb1_8 e1_4
    have := Ext.size e1_4
    replace eB := Ext.trans eB e1_4
    replace cJ2 := Ext.trans cJ2 e1_4
    try simp (disch := decide) only [outv_some, outv_none, put_puts]
    refine plK_pres (Ext.pres e1_4) ?_
    try simp -implicitDefEqProofs (disch := first | decide | assumption | omega) only [go_sem, wrap_id, cv_u8, cv_i64, Nat.zero_add, wrap_u8, eq_el, ne_el, build_el, Int.toNat_zero]
    refine And.intro ?_ ?_
    ·simp -implicitDefEqProofs (disch := first | decide | assumption | omega) only [go_sem, wrap_id, cv_u8, cv_i64, Nat.zero_add, wrap_u8, eq_el, ne_el, build_el, Int.toNat_zero]
     generalize hDA1_9 : dgA ((tnP X Y).1) = DA1_9
     refine op_storeB (o := 0) (vs := DA1_9) (cs' := DA1_9) st34 hb1_8 rfl rfl (by rw [← hDA1_9]; exact dgA_sz _) (by rw [dgA_sz]; decide) (by rw [← hDA1_9]; exact dgA_one) (by rw [← hDA1_9]; exact dgA_all) ?_
     intro h1_9 hb1_8 c1_9
     subst hDA1_9
     replace hb0_0 := BoxAt.chgA hb0_0 c1_9 (apart_lt hlhb0_0 hfhb1_8 (by omega))
     replace hb0_1 := BoxAt.chgA hb0_1 c1_9 (apart_lt hlhb0_1 hfhb1_8 (by omega))
     have := c1_9.size
     replace eB := Ext.then eB c1_9 (ge_of hfhb1_8 (by omega))
     replace cJ2 := Ext.then cJ2 c1_9 (ge_of hfhb1_8 (by omega))
     try simp (disch := decide) only [outv_some, outv_none, put_puts]
     refine plK_last (by decide) ?_
     try simp -implicitDefEqProofs (disch := first | decide | assumption | omega) only [go_sem, wrap_id, cv_u8, cv_i64, Nat.zero_add, wrap_u8, eq_el, ne_el, build_el, Int.toNat_zero]
     exact hK h1_1.size _ _ (by simp [HasL, puts_at]) ⟨hb1_8, (hfhb1_8.mono (by omega)), cJ2⟩
    ·simp -implicitDefEqProofs (disch := first | decide | assumption | omega) only [go_sem, wrap_id, cv_u8, cv_i64, Nat.zero_add, wrap_u8, eq_el, ne_el, build_el, Int.toNat_zero]
     generalize hDA1_9 : dgA ((tnP X Y).1) = DA1_9
     refine op_storeB (o := 0) (vs := DA1_9) (cs' := DA1_9) st34 hb1_8 rfl rfl (by rw [← hDA1_9]; exact dgA_sz _) (by rw [dgA_sz]; decide) (by rw [← hDA1_9]; exact dgA_one) (by rw [← hDA1_9]; exact dgA_all) ?_
     intro h1_9 hb1_8 c1_9
     subst hDA1_9
     replace hb0_0 := BoxAt.chgA hb0_0 c1_9 (apart_lt hlhb0_0 hfhb1_8 (by omega))
     replace hb0_1 := BoxAt.chgA hb0_1 c1_9 (apart_lt hlhb0_1 hfhb1_8 (by omega))
     have := c1_9.size
     replace eB := Ext.then eB c1_9 (ge_of hfhb1_8 (by omega))
     replace cJ2 := Ext.then cJ2 c1_9 (ge_of hfhb1_8 (by omega))
     try simp (disch := decide) only [outv_some, outv_none, put_puts]
     refine plK_last (by decide) ?_
     try simp -implicitDefEqProofs (disch := first | decide | assumption | omega) only [go_sem, wrap_id, cv_u8, cv_i64, Nat.zero_add, wrap_u8, eq_el, ne_el, build_el, Int.toNat_zero]
     exact hK h1_1.size _ _ (by simp [HasL, puts_at]) ⟨hb1_8, (hfhb1_8.mono (by omega)), cJ2⟩
  ·simp -implicitDefEqProofs (disch := first | decide | assumption | omega) only [go_sem, wrap_id, cv_u8, cv_i64, Nat.zero_add, wrap_u8, eq_el, ne_el, build_el, Int.toNat_zero]
   refine op_alloc (cs := dgA dgZ) (by kernel_rfl) ?_
   intro h1_8 e1_8 hb1_8 z1_8
   replace hb0_0 := BoxAt.ext hb0_0 e1_8
   replace hb0_1 := BoxAt.ext hb0_1 e1_8
   have := Ext.size e1_8
   replace eB := Ext.trans eB e1_8
   replace cJ2 := Ext.trans cJ2 e1_8
   have hfhb1_8 : Fresh h0_1.size [h0_1.size] := Fresh.one _
   have hlhb1_8 := one_lt (show h0_1.size < h1_8.size by omega)
   try simp (disch := decide) only [outv_some, outv_none, put_puts]
   refine plK_pres (Ext.pres e1_8) ?_
   try simp -implicitDefEqProofs (disch := first | decide | assumption | omega) only [go_sem, wrap_id, cv_u8, cv_i64, Nat.zero_add, wrap_u8, eq_el, ne_el, build_el, Int.toNat_zero]
   try simp -implicitDefEqProofs (disch := first | decide | assumption | omega) only [go_sem, wrap_id, cv_u8, cv_i64, Nat.zero_add, wrap_u8, eq_el, ne_el, build_el, Int.toNat_zero]
   refine CallA.mono (toDg_ok  X _  ) ?_
   intro v_ h1_1
   rintro ⟨rfl, e1_1⟩
   replace hb0_0 := BoxAt.ext hb0_0 e1_1
   replace hb0_1 := BoxAt.ext hb0_1 e1_1
   replace hb1_8 := BoxAt.ext hb1_8 e1_1
   have := Ext.size e1_1
   replace eB := Ext.trans eB e1_1
   replace cJ2 := Ext.trans cJ2 e1_1
   try simp (disch := decide) only [outv_some, outv_none, put_puts]
   refine plK_pres (Ext.pres e1_1) ?_
   try simp -implicitDefEqProofs (disch := first | decide | assumption | omega) only [go_sem, wrap_id, cv_u8, cv_i64, Nat.zero_add, wrap_u8, eq_el, ne_el, build_el, Int.toNat_zero]
   try simp -implicitDefEqProofs (disch := first | decide | assumption | omega) only [go_sem, wrap_id, cv_u8, cv_i64, Nat.zero_add, wrap_u8, eq_el, ne_el, build_el, Int.toNat_zero]
   refine CallA.mono (toDg_ok  Y _  ) ?_
   intro v_ h1_3
   rintro ⟨rfl, e1_3⟩
   replace hb0_0 := BoxAt.ext hb0_0 e1_3
   replace hb0_1 := BoxAt.ext hb0_1 e1_3
   replace hb1_8 := BoxAt.ext hb1_8 e1_3
   have := Ext.size e1_3
   replace eB := Ext.trans eB e1_3
   replace cJ2 := Ext.trans cJ2 e1_3
   try simp (disch := decide) only [outv_some, outv_none, put_puts]
   refine plK_pres (Ext.pres e1_3) ?_
   try simp -implicitDefEqProofs (disch := first | decide | assumption | omega) only [go_sem, wrap_id, cv_u8, cv_i64, Nat.zero_add, wrap_u8, eq_el, ne_el, build_el, Int.toNat_zero]
   try simp -implicitDefEqProofs (disch := first | decide | assumption | omega) only [go_sem, wrap_id, cv_u8, cv_i64, Nat.zero_add, wrap_u8, eq_el, ne_el, build_el, Int.toNat_zero]
   refine CallA.mono (sTn_ok  X Y _  hBX hBY) ?_
   intro v_ h1_4
   rintro ⟨rfl, e1_4⟩
   replace hb0_0 := BoxAt.ext hb0_0 e1_4
   replace hb0_1 := BoxAt.ext hb0_1 e1_4
   replace hb1_8 := BoxAt.ext hb1_8 e1_4
   have := Ext.size e1_4
   replace eB := Ext.trans eB e1_4
   replace cJ2 := Ext.trans cJ2 e1_4
   try simp (disch := decide) only [outv_some, outv_none, put_puts]
   refine plK_pres (Ext.pres e1_4) ?_
   try simp -implicitDefEqProofs (disch := first | decide | assumption | omega) only [go_sem, wrap_id, cv_u8, cv_i64, Nat.zero_add, wrap_u8, eq_el, ne_el, build_el, Int.toNat_zero]
   refine And.intro ?_ ?_
   ·simp -implicitDefEqProofs (disch := first | decide | assumption | omega) only [go_sem, wrap_id, cv_u8, cv_i64, Nat.zero_add, wrap_u8, eq_el, ne_el, build_el, Int.toNat_zero]
    generalize hDA1_9 : dgA ((tnP X Y).1) = DA1_9
    refine op_storeB (o := 0) (vs := DA1_9) (cs' := DA1_9) st34 hb1_8 rfl rfl (by rw [← hDA1_9]; exact dgA_sz _) (by rw [dgA_sz]; decide) (by rw [← hDA1_9]; exact dgA_one) (by rw [← hDA1_9]; exact dgA_all) ?_
    intro h1_9 hb1_8 c1_9
    subst hDA1_9
    replace hb0_0 := BoxAt.chgA hb0_0 c1_9 (apart_lt hlhb0_0 hfhb1_8 (by omega))
    replace hb0_1 := BoxAt.chgA hb0_1 c1_9 (apart_lt hlhb0_1 hfhb1_8 (by omega))
    have := c1_9.size
    replace eB := Ext.then eB c1_9 (ge_of hfhb1_8 (by omega))
    replace cJ2 := Ext.then cJ2 c1_9 (ge_of hfhb1_8 (by omega))
    try simp (disch := decide) only [outv_some, outv_none, put_puts]
    refine plK_last (by decide) ?_
    try simp -implicitDefEqProofs (disch := first | decide | assumption | omega) only [go_sem, wrap_id, cv_u8, cv_i64, Nat.zero_add, wrap_u8, eq_el, ne_el, build_el, Int.toNat_zero]
    exact hK h0_1.size _ _ (by simp [HasL, puts_at]) ⟨hb1_8, (hfhb1_8.mono (by omega)), cJ2⟩
   ·simp -implicitDefEqProofs (disch := first | decide | assumption | omega) only [go_sem, wrap_id, cv_u8, cv_i64, Nat.zero_add, wrap_u8, eq_el, ne_el, build_el, Int.toNat_zero]
    generalize hDA1_9 : dgA ((tnP X Y).1) = DA1_9
    refine op_storeB (o := 0) (vs := DA1_9) (cs' := DA1_9) st34 hb1_8 rfl rfl (by rw [← hDA1_9]; exact dgA_sz _) (by rw [dgA_sz]; decide) (by rw [← hDA1_9]; exact dgA_one) (by rw [← hDA1_9]; exact dgA_all) ?_
    intro h1_9 hb1_8 c1_9
    subst hDA1_9
    replace hb0_0 := BoxAt.chgA hb0_0 c1_9 (apart_lt hlhb0_0 hfhb1_8 (by omega))
    replace hb0_1 := BoxAt.chgA hb0_1 c1_9 (apart_lt hlhb0_1 hfhb1_8 (by omega))
    have := c1_9.size
    replace eB := Ext.then eB c1_9 (ge_of hfhb1_8 (by omega))
    replace cJ2 := Ext.then cJ2 c1_9 (ge_of hfhb1_8 (by omega))
    try simp (disch := decide) only [outv_some, outv_none, put_puts]
    refine plK_last (by decide) ?_
    try simp -implicitDefEqProofs (disch := first | decide | assumption | omega) only [go_sem, wrap_id, cv_u8, cv_i64, Nat.zero_add, wrap_u8, eq_el, ne_el, build_el, Int.toNat_zero]
    exact hK h0_1.size _ _ (by simp [HasL, puts_at]) ⟨hb1_8, (hfhb1_8.mono (by omega)), cJ2⟩
 ·rintro bJhb1_8 hj3 ee5 ⟨hb1_8, hfhb1_8, eJ4⟩
  replace hb0_0 := BoxAt.ext hb0_0 eJ4
  replace hb0_1 := BoxAt.ext hb0_1 eJ4
  have := Ext.size eJ4
  replace eB := Ext.trans eB eJ4
  have hlhb1_8 := one_lt hb1_8.lt
  simp only [List.cons_append, List.nil_append]
  refine den_seq ?_
  refine den_sel [2, 3, 5, 6] ?_
  intro env_6
  simp only [go_sem]
  refine den_drawTJ (σ := Nat) TTok (fun st_ => [(7, .pointer (some ⟨st_, 0, none⟩)), (8, .int .i64 (((tnP X Y).2)))]) (fun st_ H => (BoxAt H st_ (dgA ((tnP X Y).1)) 34) ∧ (Fresh hj3.size [st_]) ∧ (Ext hj3 H)) mixed [9] [(0, true), (2, true)] (.fork 1 [] (.fork 3 [] (.fork 4 [(5, true), (6, true)] (.fork 7 [(8, false), (9, false), (10, true)] .fin 8 [] (.fork 7 [(9, false), (10, true)] .fin 9 [(7, true), (10, true)] .fin)) 8 [(4, false), (5, true), (6, true)] (.fork 7 [(9, false), (10, true)] .fin 9 [(7, true), (10, true)] .fin)) 8 [(3, false), (4, false), (5, true), (6, true)] (.fork 7 [(9, false), (10, true)] .fin 9 [(7, true), (10, true)] .fin)) 8 [(1, false), (3, false), (4, false), (5, true), (6, true)] (.fork 7 [(9, false), (10, true)] .fin 9 [(7, true), (10, true)] .fin)) (by kernel_rfl) ?_ ?_
  ·intro K hK
   have cJ7 := Ext.refl hj3
   simp -implicitDefEqProofs (disch := first | decide | assumption | omega) only [go_sem, BoxAt.dgL hb0_0, BoxAt.dgP hb0_0, BoxAt.dgS hb0_0, BoxAt.dgDeg hb0_0, BoxAt.dgLev hb0_0, BoxAt.dgDeg0 hb0_0, BoxAt.dgLev0 hb0_0, BoxAt.dgDifL hb0_0, BoxAt.dgTabL hb0_0, BoxAt.dgTabL0 hb0_0, BoxAt.dgTabL1 hb0_0, BoxAt.dgTabL1' hb0_0, BoxAt.dgDifB hb0_0, BoxAt.dgTabB hb0_0, BoxAt.dgLL hb0_0, BoxAt.dgDegL hb0_0, BoxAt.dgLevL hb0_0, BoxAt.dgDifA hb0_0, BoxAt.dgTabA hb0_0, BoxAt.dgDifE hb0_0, BoxAt.dgTabE hb0_0, BoxAt.dgL hb0_1, BoxAt.dgP hb0_1, BoxAt.dgS hb0_1, BoxAt.dgDeg hb0_1, BoxAt.dgLev hb0_1, BoxAt.dgDeg0 hb0_1, BoxAt.dgLev0 hb0_1, BoxAt.dgDifL hb0_1, BoxAt.dgTabL hb0_1, BoxAt.dgTabL0 hb0_1, BoxAt.dgTabL1 hb0_1, BoxAt.dgTabL1' hb0_1, BoxAt.dgDifB hb0_1, BoxAt.dgTabB hb0_1, BoxAt.dgLL hb0_1, BoxAt.dgDegL hb0_1, BoxAt.dgLevL hb0_1, BoxAt.dgDifA hb0_1, BoxAt.dgTabA hb0_1, BoxAt.dgDifE hb0_1, BoxAt.dgTabE hb0_1, wrap_id, cv_u8, cv_i64, Nat.zero_add, wrap_u8, eq_el, ne_el, build_el, Int.toNat_zero]
   refine And.intro ?_ ?_
   ·simp -implicitDefEqProofs (disch := first | decide | assumption | omega) only [go_sem, wrap_id, cv_u8, cv_i64, Nat.zero_add, wrap_u8, eq_el, ne_el, build_el, Int.toNat_zero]
    try simp -implicitDefEqProofs (disch := first | decide | assumption | omega) only [go_sem, wrap_id, cv_u8, cv_i64, Nat.zero_add, wrap_u8, eq_el, ne_el, build_el, Int.toNat_zero]
    refine CallA.mono (toDg_ok  X _  ) ?_
    intro v_ h2_1
    rintro ⟨rfl, e2_1⟩
    replace hb0_0 := BoxAt.ext hb0_0 e2_1
    replace hb0_1 := BoxAt.ext hb0_1 e2_1
    replace hb1_8 := BoxAt.ext hb1_8 e2_1
    have := Ext.size e2_1
    replace eB := Ext.trans eB e2_1
    replace cJ7 := Ext.trans cJ7 e2_1
    try simp (disch := decide) only [outv_some, outv_none, put_puts]
    refine plK_pres (Ext.pres e2_1) ?_
    try simp -implicitDefEqProofs (disch := first | decide | assumption | omega) only [go_sem, wrap_id, cv_u8, cv_i64, Nat.zero_add, wrap_u8, eq_el, ne_el, build_el, Int.toNat_zero]
    refine And.intro ?_ ?_
    ·simp -implicitDefEqProofs (disch := first | decide | assumption | omega) only [go_sem, wrap_id, cv_u8, cv_i64, Nat.zero_add, wrap_u8, eq_el, ne_el, build_el, Int.toNat_zero]
     try simp -implicitDefEqProofs (disch := first | decide | assumption | omega) only [go_sem, wrap_id, cv_u8, cv_i64, Nat.zero_add, wrap_u8, eq_el, ne_el, build_el, Int.toNat_zero]
     refine CallA.mono (toDg_ok  Y _  ) ?_
     intro v_ h2_3
     rintro ⟨rfl, e2_3⟩
     replace hb0_0 := BoxAt.ext hb0_0 e2_3
     replace hb0_1 := BoxAt.ext hb0_1 e2_3
     replace hb1_8 := BoxAt.ext hb1_8 e2_3
     have := Ext.size e2_3
     replace eB := Ext.trans eB e2_3
     replace cJ7 := Ext.trans cJ7 e2_3
     try simp (disch := decide) only [outv_some, outv_none, put_puts]
     refine plK_pres (Ext.pres e2_3) ?_
     try simp -implicitDefEqProofs (disch := first | decide | assumption | omega) only [go_sem, wrap_id, cv_u8, cv_i64, Nat.zero_add, wrap_u8, eq_el, ne_el, build_el, Int.toNat_zero]
     refine And.intro ?_ ?_
     ·simp -implicitDefEqProofs (disch := first | decide | assumption | omega) only [go_sem, wrap_id, cv_u8, cv_i64, Nat.zero_add, wrap_u8, eq_el, ne_el, build_el, Int.toNat_zero]
      try simp -implicitDefEqProofs (disch := first | decide | assumption | omega) only [go_sem, wrap_id, cv_u8, cv_i64, Nat.zero_add, wrap_u8, eq_el, ne_el, build_el, Int.toNat_zero]
      refine CallA.mono (iTn_ok  X Y _  hBX hBY) ?_
      intro v_ h2_4
      rintro ⟨rfl, e2_4⟩
      replace hb0_0 := BoxAt.ext hb0_0 e2_4
      replace hb0_1 := BoxAt.ext hb0_1 e2_4
      replace hb1_8 := BoxAt.ext hb1_8 e2_4
      have := Ext.size e2_4
      replace eB := Ext.trans eB e2_4
      replace cJ7 := Ext.trans cJ7 e2_4
      try simp (disch := decide) only [outv_some, outv_none, put_puts]
      refine plK_pres (Ext.pres e2_4) ?_
      try simp -implicitDefEqProofs (disch := first | decide | assumption | omega) only [go_sem, wrap_id, cv_u8, cv_i64, Nat.zero_add, wrap_u8, eq_el, ne_el, build_el, Int.toNat_zero]
      refine And.intro ?_ ?_
      ·simp -implicitDefEqProofs (disch := first | decide | assumption | omega) only [go_sem, wrap_id, cv_u8, cv_i64, Nat.zero_add, wrap_u8, eq_el, ne_el, build_el, Int.toNat_zero]
       refine op_alloc (cs := dgA dgZ) (by kernel_rfl) ?_
       intro h2_8 e2_8 hb2_8 z2_8
       replace hb0_0 := BoxAt.ext hb0_0 e2_8
       replace hb0_1 := BoxAt.ext hb0_1 e2_8
       replace hb1_8 := BoxAt.ext hb1_8 e2_8
       have := Ext.size e2_8
       replace eB := Ext.trans eB e2_8
       replace cJ7 := Ext.trans cJ7 e2_8
       have hfhb2_8 : Fresh h2_4.size [h2_4.size] := Fresh.one _
       have hlhb2_8 := one_lt (show h2_4.size < h2_8.size by omega)
       try simp (disch := decide) only [outv_some, outv_none, put_puts]
       refine plK_pres (Ext.pres e2_8) ?_
       try simp -implicitDefEqProofs (disch := first | decide | assumption | omega) only [go_sem, wrap_id, cv_u8, cv_i64, Nat.zero_add, wrap_u8, eq_el, ne_el, build_el, Int.toNat_zero]
       generalize hDA2_9 : dgA ((tnP X Y).1) = DA2_9
       refine op_storeB (o := 0) (vs := DA2_9) (cs' := DA2_9) st34 hb2_8 rfl rfl (by rw [← hDA2_9]; exact dgA_sz _) (by rw [dgA_sz]; decide) (by rw [← hDA2_9]; exact dgA_one) (by rw [← hDA2_9]; exact dgA_all) ?_
       intro h2_9 hb2_8 c2_9
       subst hDA2_9
       replace hb0_0 := BoxAt.chgA hb0_0 c2_9 (apart_lt hlhb0_0 hfhb2_8 (by omega))
       replace hb0_1 := BoxAt.chgA hb0_1 c2_9 (apart_lt hlhb0_1 hfhb2_8 (by omega))
       replace hb1_8 := BoxAt.chgA hb1_8 c2_9 (apart_lt hlhb1_8 hfhb2_8 (by omega))
       have := c2_9.size
       replace eB := Ext.then eB c2_9 (ge_of hfhb2_8 (by omega))
       replace cJ7 := Ext.then cJ7 c2_9 (ge_of hfhb2_8 (by omega))
       try simp (disch := decide) only [outv_some, outv_none, put_puts]
       refine plK_last (by decide) ?_
       try simp -implicitDefEqProofs (disch := first | decide | assumption | omega) only [go_sem, wrap_id, cv_u8, cv_i64, Nat.zero_add, wrap_u8, eq_el, ne_el, build_el, Int.toNat_zero]
       exact hK h2_4.size _ _ (by simp [HasL, puts_at]) ⟨hb2_8, (hfhb2_8.mono (by omega)), cJ7⟩
      ·simp -implicitDefEqProofs (disch := first | decide | assumption | omega) only [go_sem, wrap_id, cv_u8, cv_i64, Nat.zero_add, wrap_u8, eq_el, ne_el, build_el, Int.toNat_zero]
       refine op_alloc (cs := dgA dgZ) (by kernel_rfl) ?_
       intro h2_8 e2_8 hb2_8 z2_8
       replace hb0_0 := BoxAt.ext hb0_0 e2_8
       replace hb0_1 := BoxAt.ext hb0_1 e2_8
       replace hb1_8 := BoxAt.ext hb1_8 e2_8
       have := Ext.size e2_8
       replace eB := Ext.trans eB e2_8
       replace cJ7 := Ext.trans cJ7 e2_8
       have hfhb2_8 : Fresh h2_4.size [h2_4.size] := Fresh.one _
       have hlhb2_8 := one_lt (show h2_4.size < h2_8.size by omega)
       try simp (disch := decide) only [outv_some, outv_none, put_puts]
       refine plK_pres (Ext.pres e2_8) ?_
       try simp -implicitDefEqProofs (disch := first | decide | assumption | omega) only [go_sem, wrap_id, cv_u8, cv_i64, Nat.zero_add, wrap_u8, eq_el, ne_el, build_el, Int.toNat_zero]
       refine And.intro ?_ ?_
       ·simp -implicitDefEqProofs (disch := first | decide | assumption | omega) only [go_sem, wrap_id, cv_u8, cv_i64, Nat.zero_add, wrap_u8, eq_el, ne_el, build_el, Int.toNat_zero]
        generalize hDA2_9 : dgA ((tnP X Y).1) = DA2_9
        refine op_storeB (o := 0) (vs := DA2_9) (cs' := DA2_9) st34 hb2_8 rfl rfl (by rw [← hDA2_9]; exact dgA_sz _) (by rw [dgA_sz]; decide) (by rw [← hDA2_9]; exact dgA_one) (by rw [← hDA2_9]; exact dgA_all) ?_
        intro h2_9 hb2_8 c2_9
        subst hDA2_9
        replace hb0_0 := BoxAt.chgA hb0_0 c2_9 (apart_lt hlhb0_0 hfhb2_8 (by omega))
        replace hb0_1 := BoxAt.chgA hb0_1 c2_9 (apart_lt hlhb0_1 hfhb2_8 (by omega))
        replace hb1_8 := BoxAt.chgA hb1_8 c2_9 (apart_lt hlhb1_8 hfhb2_8 (by omega))
        have := c2_9.size
        replace eB := Ext.then eB c2_9 (ge_of hfhb2_8 (by omega))
        replace cJ7 := Ext.then cJ7 c2_9 (ge_of hfhb2_8 (by omega))
        try simp (disch := decide) only [outv_some, outv_none, put_puts]
        refine plK_last (by decide) ?_
        try simp -implicitDefEqProofs (disch := first | decide | assumption | omega) only [go_sem, wrap_id, cv_u8, cv_i64, Nat.zero_add, wrap_u8, eq_el, ne_el, build_el, Int.toNat_zero]
        exact hK h2_4.size _ _ (by simp [HasL, puts_at]) ⟨hb2_8, (hfhb2_8.mono (by omega)), cJ7⟩
       ·simp -implicitDefEqProofs (disch := first | decide | assumption | omega) only [go_sem, wrap_id, cv_u8, cv_i64, Nat.zero_add, wrap_u8, eq_el, ne_el, build_el, Int.toNat_zero]
        generalize hDA2_9 : dgA ((tnP X Y).1) = DA2_9
        refine op_storeB (o := 0) (vs := DA2_9) (cs' := DA2_9) st34 hb2_8 rfl rfl (by rw [← hDA2_9]; exact dgA_sz _) (by rw [dgA_sz]; decide) (by rw [← hDA2_9]; exact dgA_one) (by rw [← hDA2_9]; exact dgA_all) ?_
        intro h2_9 hb2_8 c2_9
        subst hDA2_9
        replace hb0_0 := BoxAt.chgA hb0_0 c2_9 (apart_lt hlhb0_0 hfhb2_8 (by omega))
        replace hb0_1 := BoxAt.chgA hb0_1 c2_9 (apart_lt hlhb0_1 hfhb2_8 (by omega))
        replace hb1_8 := BoxAt.chgA hb1_8 c2_9 (apart_lt hlhb1_8 hfhb2_8 (by omega))
        have := c2_9.size
        replace eB := Ext.then eB c2_9 (ge_of hfhb2_8 (by omega))
        replace cJ7 := Ext.then cJ7 c2_9 (ge_of hfhb2_8 (by omega))
        try simp (disch := decide) only [outv_some, outv_none, put_puts]
        refine plK_last (by decide) ?_
        try simp -implicitDefEqProofs (disch := first | decide | assumption | omega) only [go_sem, wrap_id, cv_u8, cv_i64, Nat.zero_add, wrap_u8, eq_el, ne_el, build_el, Int.toNat_zero]
        exact hK h2_4.size _ _ (by simp [HasL, puts_at]) ⟨hb2_8, (hfhb2_8.mono (by omega)), cJ7⟩
     ·simp -implicitDefEqProofs (disch := first | decide | assumption | omega) only [go_sem, wrap_id, cv_u8, cv_i64, Nat.zero_add, wrap_u8, eq_el, ne_el, build_el, Int.toNat_zero]
      refine op_alloc (cs := dgA dgZ) (by kernel_rfl) ?_
      intro h2_8 e2_8 hb2_8 z2_8
      replace hb0_0 := BoxAt.ext hb0_0 e2_8
      replace hb0_1 := BoxAt.ext hb0_1 e2_8
      replace hb1_8 := BoxAt.ext hb1_8 e2_8
      have := Ext.size e2_8
      replace eB := Ext.trans eB e2_8
      replace cJ7 := Ext.trans cJ7 e2_8
      have hfhb2_8 : Fresh h2_3.size [h2_3.size] := Fresh.one _
      have hlhb2_8 := one_lt (show h2_3.size < h2_8.size by omega)
      try simp (disch := decide) only [outv_some, outv_none, put_puts]
      refine plK_pres (Ext.pres e2_8) ?_
      try simp -implicitDefEqProofs (disch := first | decide | assumption | omega) only [go_sem, wrap_id, cv_u8, cv_i64, Nat.zero_add, wrap_u8, eq_el, ne_el, build_el, Int.toNat_zero]
      try simp -implicitDefEqProofs (disch := first | decide | assumption | omega) only [go_sem, wrap_id, cv_u8, cv_i64, Nat.zero_add, wrap_u8, eq_el, ne_el, build_el, Int.toNat_zero]
      refine CallA.mono (iTn_ok  X Y _  hBX hBY) ?_
      intro v_ h2_4
      rintro ⟨rfl, e2_4⟩
      replace hb0_0 := BoxAt.ext hb0_0 e2_4
      replace hb0_1 := BoxAt.ext hb0_1 e2_4
      replace hb1_8 := BoxAt.ext hb1_8 e2_4
      replace hb2_8 := BoxAt.ext hb2_8 e2_4
      have := Ext.size e2_4
      replace eB := Ext.trans eB e2_4
      replace cJ7 := Ext.trans cJ7 e2_4
      try simp (disch := decide) only [outv_some, outv_none, put_puts]
      refine plK_pres (Ext.pres e2_4) ?_
      try simp -implicitDefEqProofs (disch := first | decide | assumption | omega) only [go_sem, wrap_id, cv_u8, cv_i64, Nat.zero_add, wrap_u8, eq_el, ne_el, build_el, Int.toNat_zero]
      refine And.intro ?_ ?_
      ·simp -implicitDefEqProofs (disch := first | decide | assumption | omega) only [go_sem, wrap_id, cv_u8, cv_i64, Nat.zero_add, wrap_u8, eq_el, ne_el, build_el, Int.toNat_zero]
       generalize hDA2_9 : dgA ((tnP X Y).1) = DA2_9
       refine op_storeB (o := 0) (vs := DA2_9) (cs' := DA2_9) st34 hb2_8 rfl rfl (by rw [← hDA2_9]; exact dgA_sz _) (by rw [dgA_sz]; decide) (by rw [← hDA2_9]; exact dgA_one) (by rw [← hDA2_9]; exact dgA_all) ?_
       intro h2_9 hb2_8 c2_9
       subst hDA2_9
       replace hb0_0 := BoxAt.chgA hb0_0 c2_9 (apart_lt hlhb0_0 hfhb2_8 (by omega))
       replace hb0_1 := BoxAt.chgA hb0_1 c2_9 (apart_lt hlhb0_1 hfhb2_8 (by omega))
       replace hb1_8 := BoxAt.chgA hb1_8 c2_9 (apart_lt hlhb1_8 hfhb2_8 (by omega))
       have := c2_9.size
       replace eB := Ext.then eB c2_9 (ge_of hfhb2_8 (by omega))
       replace cJ7 := Ext.then cJ7 c2_9 (ge_of hfhb2_8 (by omega))
       try simp (disch := decide) only [outv_some, outv_none, put_puts]
       refine plK_last (by decide) ?_
       try simp -implicitDefEqProofs (disch := first | decide | assumption | omega) only [go_sem, wrap_id, cv_u8, cv_i64, Nat.zero_add, wrap_u8, eq_el, ne_el, build_el, Int.toNat_zero]
       exact hK h2_3.size _ _ (by simp [HasL, puts_at]) ⟨hb2_8, (hfhb2_8.mono (by omega)), cJ7⟩
      ·simp -implicitDefEqProofs (disch := first | decide | assumption | omega) only [go_sem, wrap_id, cv_u8, cv_i64, Nat.zero_add, wrap_u8, eq_el, ne_el, build_el, Int.toNat_zero]
       generalize hDA2_9 : dgA ((tnP X Y).1) = DA2_9
       refine op_storeB (o := 0) (vs := DA2_9) (cs' := DA2_9) st34 hb2_8 rfl rfl (by rw [← hDA2_9]; exact dgA_sz _) (by rw [dgA_sz]; decide) (by rw [← hDA2_9]; exact dgA_one) (by rw [← hDA2_9]; exact dgA_all) ?_
       intro h2_9 hb2_8 c2_9
       subst hDA2_9
       replace hb0_0 := BoxAt.chgA hb0_0 c2_9 (apart_lt hlhb0_0 hfhb2_8 (by omega))
       replace hb0_1 := BoxAt.chgA hb0_1 c2_9 (apart_lt hlhb0_1 hfhb2_8 (by omega))
       replace hb1_8 := BoxAt.chgA hb1_8 c2_9 (apart_lt hlhb1_8 hfhb2_8 (by omega))
       have := c2_9.size
       replace eB := Ext.then eB c2_9 (ge_of hfhb2_8 (by omega))
       replace cJ7 := Ext.then cJ7 c2_9 (ge_of hfhb2_8 (by omega))
       try simp (disch := decide) only [outv_some, outv_none, put_puts]
       refine plK_last (by decide) ?_
       try simp -implicitDefEqProofs (disch := first | decide | assumption | omega) only [go_sem, wrap_id, cv_u8, cv_i64, Nat.zero_add, wrap_u8, eq_el, ne_el, build_el, Int.toNat_zero]
       exact hK h2_3.size _ _ (by simp [HasL, puts_at]) ⟨hb2_8, (hfhb2_8.mono (by omega)), cJ7⟩
    ·simp -implicitDefEqProofs (disch := first | decide | assumption | omega) only [go_sem, wrap_id, cv_u8, cv_i64, Nat.zero_add, wrap_u8, eq_el, ne_el, build_el, Int.toNat_zero]
     refine op_alloc (cs := dgA dgZ) (by kernel_rfl) ?_
     intro h2_8 e2_8 hb2_8 z2_8
     replace hb0_0 := BoxAt.ext hb0_0 e2_8
     replace hb0_1 := BoxAt.ext hb0_1 e2_8
     replace hb1_8 := BoxAt.ext hb1_8 e2_8
     have := Ext.size e2_8
     replace eB := Ext.trans eB e2_8
     replace cJ7 := Ext.trans cJ7 e2_8
     have hfhb2_8 : Fresh h2_1.size [h2_1.size] := Fresh.one _
     have hlhb2_8 := one_lt (show h2_1.size < h2_8.size by omega)
     try simp (disch := decide) only [outv_some, outv_none, put_puts]
     refine plK_pres (Ext.pres e2_8) ?_
     try simp -implicitDefEqProofs (disch := first | decide | assumption | omega) only [go_sem, wrap_id, cv_u8, cv_i64, Nat.zero_add, wrap_u8, eq_el, ne_el, build_el, Int.toNat_zero]
     try simp -implicitDefEqProofs (disch := first | decide | assumption | omega) only [go_sem, wrap_id, cv_u8, cv_i64, Nat.zero_add, wrap_u8, eq_el, ne_el, build_el, Int.toNat_zero]
     refine CallA.mono (toDg_ok  Y _  ) ?_
     intro v_ h2_3
     rintro ⟨rfl, e2_3⟩
     replace hb0_0 := BoxAt.ext hb0_0 e2_3
     replace hb0_1 := BoxAt.ext hb0_1 e2_3
     replace hb1_8 := BoxAt.ext hb1_8 e2_3
     replace hb2_8 := BoxAt.ext hb2_8 e2_3
     have := Ext.size e2_3
     replace eB := Ext.trans eB e2_3
     replace cJ7 := Ext.trans cJ7 e2_3
     try simp (disch := decide) only [outv_some, outv_none, put_puts]
     refine plK_pres (Ext.pres e2_3) ?_
     try simp -implicitDefEqProofs (disch := first | decide | assumption | omega) only [go_sem, wrap_id, cv_u8, cv_i64, Nat.zero_add, wrap_u8, eq_el, ne_el, build_el, Int.toNat_zero]
     try simp -implicitDefEqProofs (disch := first | decide | assumption | omega) only [go_sem, wrap_id, cv_u8, cv_i64, Nat.zero_add, wrap_u8, eq_el, ne_el, build_el, Int.toNat_zero]
     refine CallA.mono (iTn_ok  X Y _  hBX hBY) ?_
     intro v_ h2_4
     rintro ⟨rfl, e2_4⟩
     replace hb0_0 := BoxAt.ext hb0_0 e2_4
     replace hb0_1 := BoxAt.ext hb0_1 e2_4
     replace hb1_8 := BoxAt.ext hb1_8 e2_4
     replace hb2_8 := BoxAt.ext hb2_8 e2_4
     have := Ext.size e2_4
     replace eB := Ext.trans eB e2_4
     replace cJ7 := Ext.trans cJ7 e2_4
     try simp (disch := decide) only [outv_some, outv_none, put_puts]
     refine plK_pres (Ext.pres e2_4) ?_
     try simp -implicitDefEqProofs (disch := first | decide | assumption | omega) only [go_sem, wrap_id, cv_u8, cv_i64, Nat.zero_add, wrap_u8, eq_el, ne_el, build_el, Int.toNat_zero]
     refine And.intro ?_ ?_
     ·simp -implicitDefEqProofs (disch := first | decide | assumption | omega) only [go_sem, wrap_id, cv_u8, cv_i64, Nat.zero_add, wrap_u8, eq_el, ne_el, build_el, Int.toNat_zero]
      generalize hDA2_9 : dgA ((tnP X Y).1) = DA2_9
      refine op_storeB (o := 0) (vs := DA2_9) (cs' := DA2_9) st34 hb2_8 rfl rfl (by rw [← hDA2_9]; exact dgA_sz _) (by rw [dgA_sz]; decide) (by rw [← hDA2_9]; exact dgA_one) (by rw [← hDA2_9]; exact dgA_all) ?_
      intro h2_9 hb2_8 c2_9
      subst hDA2_9
      replace hb0_0 := BoxAt.chgA hb0_0 c2_9 (apart_lt hlhb0_0 hfhb2_8 (by omega))
      replace hb0_1 := BoxAt.chgA hb0_1 c2_9 (apart_lt hlhb0_1 hfhb2_8 (by omega))
      replace hb1_8 := BoxAt.chgA hb1_8 c2_9 (apart_lt hlhb1_8 hfhb2_8 (by omega))
      have := c2_9.size
      replace eB := Ext.then eB c2_9 (ge_of hfhb2_8 (by omega))
      replace cJ7 := Ext.then cJ7 c2_9 (ge_of hfhb2_8 (by omega))
      try simp (disch := decide) only [outv_some, outv_none, put_puts]
      refine plK_last (by decide) ?_
      try simp -implicitDefEqProofs (disch := first | decide | assumption | omega) only [go_sem, wrap_id, cv_u8, cv_i64, Nat.zero_add, wrap_u8, eq_el, ne_el, build_el, Int.toNat_zero]
      exact hK h2_1.size _ _ (by simp [HasL, puts_at]) ⟨hb2_8, (hfhb2_8.mono (by omega)), cJ7⟩
     ·simp -implicitDefEqProofs (disch := first | decide | assumption | omega) only [go_sem, wrap_id, cv_u8, cv_i64, Nat.zero_add, wrap_u8, eq_el, ne_el, build_el, Int.toNat_zero]
      generalize hDA2_9 : dgA ((tnP X Y).1) = DA2_9
      refine op_storeB (o := 0) (vs := DA2_9) (cs' := DA2_9) st34 hb2_8 rfl rfl (by rw [← hDA2_9]; exact dgA_sz _) (by rw [dgA_sz]; decide) (by rw [← hDA2_9]; exact dgA_one) (by rw [← hDA2_9]; exact dgA_all) ?_
      intro h2_9 hb2_8 c2_9
      subst hDA2_9
      replace hb0_0 := BoxAt.chgA hb0_0 c2_9 (apart_lt hlhb0_0 hfhb2_8 (by omega))
      replace hb0_1 := BoxAt.chgA hb0_1 c2_9 (apart_lt hlhb0_1 hfhb2_8 (by omega))
      replace hb1_8 := BoxAt.chgA hb1_8 c2_9 (apart_lt hlhb1_8 hfhb2_8 (by omega))
      have := c2_9.size
      replace eB := Ext.then eB c2_9 (ge_of hfhb2_8 (by omega))
      replace cJ7 := Ext.then cJ7 c2_9 (ge_of hfhb2_8 (by omega))
      try simp (disch := decide) only [outv_some, outv_none, put_puts]
      refine plK_last (by decide) ?_
      try simp -implicitDefEqProofs (disch := first | decide | assumption | omega) only [go_sem, wrap_id, cv_u8, cv_i64, Nat.zero_add, wrap_u8, eq_el, ne_el, build_el, Int.toNat_zero]
      exact hK h2_1.size _ _ (by simp [HasL, puts_at]) ⟨hb2_8, (hfhb2_8.mono (by omega)), cJ7⟩
   ·simp -implicitDefEqProofs (disch := first | decide | assumption | omega) only [go_sem, wrap_id, cv_u8, cv_i64, Nat.zero_add, wrap_u8, eq_el, ne_el, build_el, Int.toNat_zero]
    refine op_alloc (cs := dgA dgZ) (by kernel_rfl) ?_
    intro h2_8 e2_8 hb2_8 z2_8
    replace hb0_0 := BoxAt.ext hb0_0 e2_8
    replace hb0_1 := BoxAt.ext hb0_1 e2_8
    replace hb1_8 := BoxAt.ext hb1_8 e2_8
    have := Ext.size e2_8
    replace eB := Ext.trans eB e2_8
    replace cJ7 := Ext.trans cJ7 e2_8
    have hfhb2_8 : Fresh hj3.size [hj3.size] := Fresh.one _
    have hlhb2_8 := one_lt (show hj3.size < h2_8.size by omega)
    try simp (disch := decide) only [outv_some, outv_none, put_puts]
    refine plK_pres (Ext.pres e2_8) ?_
    try simp -implicitDefEqProofs (disch := first | decide | assumption | omega) only [go_sem, wrap_id, cv_u8, cv_i64, Nat.zero_add, wrap_u8, eq_el, ne_el, build_el, Int.toNat_zero]
    try simp -implicitDefEqProofs (disch := first | decide | assumption | omega) only [go_sem, wrap_id, cv_u8, cv_i64, Nat.zero_add, wrap_u8, eq_el, ne_el, build_el, Int.toNat_zero]
    refine CallA.mono (toDg_ok  X _  ) ?_
    intro v_ h2_1
    rintro ⟨rfl, e2_1⟩
    replace hb0_0 := BoxAt.ext hb0_0 e2_1
    replace hb0_1 := BoxAt.ext hb0_1 e2_1
    replace hb1_8 := BoxAt.ext hb1_8 e2_1
    replace hb2_8 := BoxAt.ext hb2_8 e2_1
    have := Ext.size e2_1
    replace eB := Ext.trans eB e2_1
    replace cJ7 := Ext.trans cJ7 e2_1
    try simp (disch := decide) only [outv_some, outv_none, put_puts]
    refine plK_pres (Ext.pres e2_1) ?_
    try simp -implicitDefEqProofs (disch := first | decide | assumption | omega) only [go_sem, wrap_id, cv_u8, cv_i64, Nat.zero_add, wrap_u8, eq_el, ne_el, build_el, Int.toNat_zero]
    try simp -implicitDefEqProofs (disch := first | decide | assumption | omega) only [go_sem, wrap_id, cv_u8, cv_i64, Nat.zero_add, wrap_u8, eq_el, ne_el, build_el, Int.toNat_zero]
    refine CallA.mono (toDg_ok  Y _  ) ?_
    intro v_ h2_3
    rintro ⟨rfl, e2_3⟩
    replace hb0_0 := BoxAt.ext hb0_0 e2_3
    replace hb0_1 := BoxAt.ext hb0_1 e2_3
    replace hb1_8 := BoxAt.ext hb1_8 e2_3
    replace hb2_8 := BoxAt.ext hb2_8 e2_3
    have := Ext.size e2_3
    replace eB := Ext.trans eB e2_3
    replace cJ7 := Ext.trans cJ7 e2_3
    try simp (disch := decide) only [outv_some, outv_none, put_puts]
    refine plK_pres (Ext.pres e2_3) ?_
    try simp -implicitDefEqProofs (disch := first | decide | assumption | omega) only [go_sem, wrap_id, cv_u8, cv_i64, Nat.zero_add, wrap_u8, eq_el, ne_el, build_el, Int.toNat_zero]
    try simp -implicitDefEqProofs (disch := first | decide | assumption | omega) only [go_sem, wrap_id, cv_u8, cv_i64, Nat.zero_add, wrap_u8, eq_el, ne_el, build_el, Int.toNat_zero]
    refine CallA.mono (iTn_ok  X Y _  hBX hBY) ?_
    intro v_ h2_4
    rintro ⟨rfl, e2_4⟩
    replace hb0_0 := BoxAt.ext hb0_0 e2_4
    replace hb0_1 := BoxAt.ext hb0_1 e2_4
    replace hb1_8 := BoxAt.ext hb1_8 e2_4
    replace hb2_8 := BoxAt.ext hb2_8 e2_4
    have := Ext.size e2_4
    replace eB := Ext.trans eB e2_4
    replace cJ7 := Ext.trans cJ7 e2_4
    try simp (disch := decide) only [outv_some, outv_none, put_puts]
    refine plK_pres (Ext.pres e2_4) ?_
    try simp -implicitDefEqProofs (disch := first | decide | assumption | omega) only [go_sem, wrap_id, cv_u8, cv_i64, Nat.zero_add, wrap_u8, eq_el, ne_el, build_el, Int.toNat_zero]
    refine And.intro ?_ ?_
    ·simp -implicitDefEqProofs (disch := first | decide | assumption | omega) only [go_sem, wrap_id, cv_u8, cv_i64, Nat.zero_add, wrap_u8, eq_el, ne_el, build_el, Int.toNat_zero]
     generalize hDA2_9 : dgA ((tnP X Y).1) = DA2_9
     refine op_storeB (o := 0) (vs := DA2_9) (cs' := DA2_9) st34 hb2_8 rfl rfl (by rw [← hDA2_9]; exact dgA_sz _) (by rw [dgA_sz]; decide) (by rw [← hDA2_9]; exact dgA_one) (by rw [← hDA2_9]; exact dgA_all) ?_
     intro h2_9 hb2_8 c2_9
     subst hDA2_9
     replace hb0_0 := BoxAt.chgA hb0_0 c2_9 (apart_lt hlhb0_0 hfhb2_8 (by omega))
     replace hb0_1 := BoxAt.chgA hb0_1 c2_9 (apart_lt hlhb0_1 hfhb2_8 (by omega))
     replace hb1_8 := BoxAt.chgA hb1_8 c2_9 (apart_lt hlhb1_8 hfhb2_8 (by omega))
     have := c2_9.size
     replace eB := Ext.then eB c2_9 (ge_of hfhb2_8 (by omega))
     replace cJ7 := Ext.then cJ7 c2_9 (ge_of hfhb2_8 (by omega))
     try simp (disch := decide) only [outv_some, outv_none, put_puts]
     refine plK_last (by decide) ?_
     try simp -implicitDefEqProofs (disch := first | decide | assumption | omega) only [go_sem, wrap_id, cv_u8, cv_i64, Nat.zero_add, wrap_u8, eq_el, ne_el, build_el, Int.toNat_zero]
     exact hK hj3.size _ _ (by simp [HasL, puts_at]) ⟨hb2_8, (hfhb2_8.mono (by omega)), cJ7⟩
    ·simp -implicitDefEqProofs (disch := first | decide | assumption | omega) only [go_sem, wrap_id, cv_u8, cv_i64, Nat.zero_add, wrap_u8, eq_el, ne_el, build_el, Int.toNat_zero]
     generalize hDA2_9 : dgA ((tnP X Y).1) = DA2_9
     refine op_storeB (o := 0) (vs := DA2_9) (cs' := DA2_9) st34 hb2_8 rfl rfl (by rw [← hDA2_9]; exact dgA_sz _) (by rw [dgA_sz]; decide) (by rw [← hDA2_9]; exact dgA_one) (by rw [← hDA2_9]; exact dgA_all) ?_
     intro h2_9 hb2_8 c2_9
     subst hDA2_9
     replace hb0_0 := BoxAt.chgA hb0_0 c2_9 (apart_lt hlhb0_0 hfhb2_8 (by omega))
     replace hb0_1 := BoxAt.chgA hb0_1 c2_9 (apart_lt hlhb0_1 hfhb2_8 (by omega))
     replace hb1_8 := BoxAt.chgA hb1_8 c2_9 (apart_lt hlhb1_8 hfhb2_8 (by omega))
     have := c2_9.size
     replace eB := Ext.then eB c2_9 (ge_of hfhb2_8 (by omega))
     replace cJ7 := Ext.then cJ7 c2_9 (ge_of hfhb2_8 (by omega))
     try simp (disch := decide) only [outv_some, outv_none, put_puts]
     refine plK_last (by decide) ?_
     try simp -implicitDefEqProofs (disch := first | decide | assumption | omega) only [go_sem, wrap_id, cv_u8, cv_i64, Nat.zero_add, wrap_u8, eq_el, ne_el, build_el, Int.toNat_zero]
     exact hK hj3.size _ _ (by simp [HasL, puts_at]) ⟨hb2_8, (hfhb2_8.mono (by omega)), cJ7⟩
  ·rintro bJhb2_8 hj8 ee10 ⟨hb2_8, hfhb2_8, eJ9⟩
   replace hb0_0 := BoxAt.ext hb0_0 eJ9
   replace hb0_1 := BoxAt.ext hb0_1 eJ9
   replace hb1_8 := BoxAt.ext hb1_8 eJ9
   have := Ext.size eJ9
   replace eB := Ext.trans eB eJ9
   have hlhb2_8 := one_lt hb2_8.lt
   simp only [List.cons_append, List.nil_append]
   refine den_seq ?_
   refine den_seq ?_
   refine den_merge [(33, .bool (((!(true)) || (((tnP X Y).2) != ((tnP X Y).2)))))] [] (fun H => Ext hj8 H) ?_ ?_
    -- a way
   ·refine den_region TTok ?_
    intro K hK
    simp -implicitDefEqProofs (disch := first | decide | assumption | (simp (disch := decide) only [slotOf_zero, slotOf_succ, Option.map_some, puts_same, puts_ne, gv_bool, gv_undef, tt, tf, ft, ff, eq_self, if_true, if_false, Bool.false_eq_true, Bool.not_true, Bool.not_false]; done) | omega) only [go_sem, BoxAt.dgL hb1_8, BoxAt.dgP hb1_8, BoxAt.dgS hb1_8, BoxAt.dgDeg hb1_8, BoxAt.dgLev hb1_8, BoxAt.dgDeg0 hb1_8, BoxAt.dgLev0 hb1_8, BoxAt.dgDifL hb1_8, BoxAt.dgTabL hb1_8, BoxAt.dgTabL0 hb1_8, BoxAt.dgTabL1 hb1_8, BoxAt.dgTabL1' hb1_8, BoxAt.dgDifB hb1_8, BoxAt.dgTabB hb1_8, BoxAt.dgLL hb1_8, BoxAt.dgDegL hb1_8, BoxAt.dgLevL hb1_8, BoxAt.dgDifA hb1_8, BoxAt.dgTabA hb1_8, BoxAt.dgDifE hb1_8, BoxAt.dgTabE hb1_8, BoxAt.dgL hb2_8, BoxAt.dgP hb2_8, BoxAt.dgS hb2_8, BoxAt.dgDeg hb2_8, BoxAt.dgLev hb2_8, BoxAt.dgDeg0 hb2_8, BoxAt.dgLev0 hb2_8, BoxAt.dgDifL hb2_8, BoxAt.dgTabL hb2_8, BoxAt.dgTabL0 hb2_8, BoxAt.dgTabL1 hb2_8, BoxAt.dgTabL1' hb2_8, BoxAt.dgDifB hb2_8, BoxAt.dgTabB hb2_8, BoxAt.dgLL hb2_8, BoxAt.dgDegL hb2_8, BoxAt.dgLevL hb2_8, BoxAt.dgDifA hb2_8, BoxAt.dgTabA hb2_8, BoxAt.dgDifE hb2_8, BoxAt.dgTabE hb2_8, wrap_id, cv_u8, cv_i64, Nat.zero_add, wrap_u8, eq_el, ne_el, build_el, Int.toNat_zero]
    try simp -implicitDefEqProofs (disch := first | decide | assumption | omega) only [go_sem, wrap_id, cv_u8, cv_i64, Nat.zero_add, wrap_u8, eq_el, ne_el, build_el, Int.toNat_zero]
    refine CallA.mono (eqDg_same ((tnP X Y).1) _) ?_
    intro v_ h3_2
    rintro ⟨rfl, e3_2⟩
    replace hb1_8 := BoxAt.ext hb1_8 e3_2
    replace hb2_8 := BoxAt.ext hb2_8 e3_2
    have := Ext.size e3_2
    replace eB := Ext.trans eB e3_2
    try simp -implicitDefEqProofs (disch := first | decide | assumption | (simp (disch := decide) only [slotOf_zero, slotOf_succ, Option.map_some, puts_same, puts_ne, gv_bool, gv_undef, tt, tf, ft, ff, eq_self, if_true, if_false, Bool.false_eq_true, Bool.not_true, Bool.not_false]; done) | omega) only [go_sem, wrap_id, cv_u8, cv_i64, Nat.zero_add, wrap_u8, eq_el, ne_el, build_el, Int.toNat_zero]
    try simp -implicitDefEqProofs (disch := first | decide | assumption | (simp (disch := decide) only [slotOf_zero, slotOf_succ, Option.map_some, puts_same, puts_ne, gv_bool, gv_undef, tt, tf, ft, ff, eq_self, if_true, if_false, Bool.false_eq_true, Bool.not_true, Bool.not_false]; done) | omega) only [go_sem, wrap_id, cv_u8, cv_i64, Nat.zero_add, wrap_u8, eq_el, ne_el, build_el, Int.toNat_zero]
    refine hK _ _ ?_
    clear hK K
    refine den_stop ?_
    refine ⟨?_, e3_2⟩
    first | (simp (disch := decide) only [go_sem, eq_self, Bool.true_and, Bool.and_true, Bool.false_and, Bool.and_false, Bool.true_or, Bool.or_true, Bool.false_or, Bool.or_false, if_true, if_false, Bool.false_eq_true]; done) | simp [HasL, sel, puts_at]
   intro en11 h12 e13
   replace hb1_8 := BoxAt.ext hb1_8 e13
   replace hb2_8 := BoxAt.ext hb2_8 e13
   have := Ext.size e13
   replace eB := Ext.trans eB e13
   simp (disch := decide) only [go_sem]
   refine den_cond rfl (fun c0 => ?_) (fun c0 => ?_)
   ·try simp only [decide_eq_true_eq, decide_eq_false_iff_not, beq_iff_eq, beq_eq_false_iff_ne, bne_iff_ne, ne_eq, Bool.not_eq_true', Bool.not_eq_false', Bool.and_eq_true, Bool.or_eq_true, bne_eq_false_iff_eq] at c0
    exact absurd c0 (by simp)
   ·try simp only [decide_eq_true_eq, decide_eq_false_iff_not, beq_iff_eq, beq_eq_false_iff_ne, bne_iff_ne, ne_eq, Bool.not_eq_true', Bool.not_eq_false', Bool.and_eq_true, Bool.or_eq_true, bne_eq_false_iff_eq] at c0
    refine den_skip ?_
    refine den_seq ?_
    refine den_region TTok ?_
    intro K hK
    simp -implicitDefEqProofs (disch := first | decide | assumption | omega) only [go_sem, wrap_id, cv_u8, cv_i64, Nat.zero_add, wrap_u8, eq_el, ne_el, build_el, Int.toNat_zero]
    refine hK _ _ ?_
    clear hK K
    refine den_ret ?_
    simp (disch := decide) only [resP_1, puts_same, puts_ne]
    exact ⟨by first | rfl | trivial, eB⟩
end Go.Proofs.Ytacajcjibhifmaa
