/-
  What the statement FnDgas uses of the walks, part 5.
  Conditions: each theorem's own.
-/
import Derived.OrdersHeld
import Derived.WalkKit
import Derived.KernelRfl
import Derived.Deep.LoopGhost
import Derived.Laws.BytesString
import Derived.Test.YtacajcjibhifmaaProg
import Derived.ProofKit
import Derived.OpenShut
import Derived.ShutString
import Derived.ChangeOld
import Derived.Below
import Derived.SizedLaws
import Derived.Lib.SmallJoins
import Derived.Test.YtacajcjibhifmaaZDgas1
import Derived.Test.YtacajcjibhifmaaZDgas2
import Derived.Test.YtacajcjibhifmaaZDgas3
import Derived.Test.YtacajcjibhifmaaZDgas4
set_option linter.unusedVariables false
set_option linter.unusedSimpArgs false
namespace Go.Proofs.Ytacajcjibhifmaa
open Go
theorem tn1 : Int.toNat 1 = 1 := rfl
theorem tn2 : Int.toNat 2 = 2 := rfl
theorem tn3 : Int.toNat 3 = 3 := rfl
theorem tn7 : Int.toNat 7 = 7 := rfl
theorem nmS_s (p s : Int) (deg lev : Nat → Int) (n : Nat) : (nmS p s deg lev n).s = s := rfl
theorem nmS_stp (p s : Int) (deg lev : Nat → Int) (n : Nat) : (⟨p, s, deg, lev, z64, updF (updF (unT n) 0 (updF (unT n 0) n (e8 n))) n (updF (updF (unT n) 0 (updF (unT n 0) n (e8 n)) n) 0 (e8 n))⟩ : Dg) = nmS p s deg lev (n + 1) := by rw [unT_step]; rfl

set_option maxRecDepth 100000 in
set_option maxHeartbeats 4000000 in
theorem sNam_ok (name : List UInt8) (p : Int) (h : Heap)  (hp : 0 < p ∧ p ≤ 7) : CallA Try.prog 61 #[sV name, .int .i64 p] h fun v' h' => v' = .tuple #[.agg (dgA (nmL name p)), .bool (nmB name)] ∧ Ext h h' := by
 refine callA_intro TTok (args := [_, _]) Try.func61 (by kernel_rfl) rfl 79 rfl (by simp) [.cell 4 34, .tmp 5] rfl ?_
 simp only [idxs, Nat.reduceAdd]
 refine den_seq ?_
 refine den_region TTok ?_
 intro K hK
 simp -implicitDefEqProofs (disch := first | decide | assumption | omega) only [go_sem]
 refine op_alloc (cs := dgA dgZ) (by kernel_rfl) ?_
 intro h0_0 e0_0 hb0_0 z0_0
 have := Ext.size e0_0
 have eB := e0_0
 have hfhb0_0 : Fresh h.size [h.size] := Fresh.one _
 have hlhb0_0 := one_lt (show h.size < h0_0.size by omega)
 try simp -implicitDefEqProofs (disch := first | decide | assumption | omega) only [go_sem]
 refine hK _ _ ?_
 clear hK K
 refine den_seq ?_
 refine den_region TTok ?_
 intro K hK
 simp -implicitDefEqProofs (disch := first | decide | assumption | omega) only [go_sem, build_dgN]
 refine op_alloc (cs := dgA dgZ) (by kernel_rfl) ?_
 intro h1_2 e1_2 hb1_2 z1_2
 replace hb0_0 := BoxAt.ext hb0_0 e1_2
 have := Ext.size e1_2
 replace eB := Ext.trans eB e1_2
 have hfhb1_2 : Fresh h0_0.size [h0_0.size] := Fresh.one _
 have hlhb1_2 := one_lt (show h0_0.size < h1_2.size by omega)
 try simp -implicitDefEqProofs (disch := first | decide | assumption | omega) only [go_sem]
 generalize hDA1_3 : dgA (dgN p (4 : Int)) = DA1_3
 refine op_storeB (o := 0) (vs := DA1_3) (cs' := DA1_3) st34 hb1_2 rfl rfl (by rw [← hDA1_3]; exact dgA_sz _) (by rw [dgA_sz]; decide) (by rw [← hDA1_3]; exact dgA_one) (by rw [← hDA1_3]; exact dgA_all) ?_
 intro h1_3 hb1_2 c1_3
 subst hDA1_3
 replace hb0_0 := BoxAt.chgA hb0_0 c1_3 (apart_lt hlhb0_0 hfhb1_2 (by omega))
 have := c1_3.size
 replace eB := Ext.then eB c1_3 (ge_of hfhb1_2 (by omega))
 try simp -implicitDefEqProofs (disch := first | decide | assumption | omega) only [go_sem]
 refine hK _ _ ?_
 clear hK K
 refine den_seq ?_
 refine den_seq ?_
 refine den_region TTok ?_
 intro K hK
 simp -implicitDefEqProofs (disch := first | decide | assumption | omega) only [go_sem]
 refine hK _ _ ?_
 clear hK K
 refine den_block ?_
 refine den_seq ?_
 refine den_region TTok ?_
 intro K hK
 simp -implicitDefEqProofs (disch := first | decide | assumption | omega) only [go_sem, bin_seq, sV_p]
 refine hK _ _ ?_
 clear hK K
 refine den_cond rfl (fun c0 => ?_) (fun c0 => ?_)
 ·try simp only [beq_iff_eq] at c0
  refine den_region TTok ?_
  intro K hK
  simp -implicitDefEqProofs (disch := first | decide | assumption | omega) only [go_sem, fa34_1, Nat.zero_add]
  refine op_storeB (o := 1) (vs := #[.int .i64 (1 : Int)]) (cs' := dgA ({ dgN p (4 : Int) with s := (1 : Int) })) st2 hb1_2 rfl rfl rfl (by rw [dgA_sz]; decide) i64_one dg_s ?_
  intro h5_1 hb1_2 c5_1
  obtain ⟨DS5_1, hDS5_1⟩ : ∃ D : Dg, D = ({ dgN p (4 : Int) with s := (1 : Int) }) := ⟨_, rfl⟩
  rw [← hDS5_1] at hb1_2
  replace hb0_0 := BoxAt.chgA hb0_0 c5_1 (apart_lt hlhb0_0 hfhb1_2 (by omega))
  have := c5_1.size
  replace eB := Ext.then eB c5_1 (ge_of hfhb1_2 (by omega))
  try simp -implicitDefEqProofs (disch := first | decide | assumption | omega) only [go_sem]
  refine hK _ _ ?_
  clear hK K
  refine den_blk ?_
  refine den_seq ?_
  refine den_region TTok ?_
  intro K hK
  simp -implicitDefEqProofs (disch := first | decide | assumption | omega) only [go_sem, fa34_2, fa34_3, BoxAt.dgDegL hb1_2, Nat.zero_add]
  refine op_storeB (o := 10) (vs := in8A DS5_1.deg) (cs' := dgA ({ DS5_1 with lev := DS5_1.deg })) st22 hb1_2 rfl rfl (in8A_sz _) (by rw [dgA_sz]; decide) in8A_one dg_lev ?_
  intro h13_3 hb1_2 c13_3
  obtain ⟨DS13_3, hDS13_3⟩ : ∃ D : Dg, D = ({ DS5_1 with lev := DS5_1.deg }) := ⟨_, rfl⟩
  rw [← hDS13_3] at hb1_2
  replace hb0_0 := BoxAt.chgA hb0_0 c13_3 (apart_lt hlhb0_0 hfhb1_2 (by omega))
  have := c13_3.size
  replace eB := Ext.then eB c13_3 (ge_of hfhb1_2 (by omega))
  try simp -implicitDefEqProofs (disch := first | decide | assumption | omega) only [go_sem]
  refine hK _ _ ?_
  clear hK K
  refine den_seq ?_
  refine den_seq ?_
  refine den_region TTok ?_
  intro K hK
  simp -implicitDefEqProofs (disch := first | decide | assumption | omega) only [go_sem]
  refine hK _ _ ?_
  clear hK K
  refine den_block ?_
  have hQ0 : DS13_3 = nmS p 1 z8 z8 0 := by
   subst_vars
   unfold nmS dgN
   rw [unT_0]
   try rw [upd_l4]
  refine den_sel [7, 0, 1, 4, 6] ?_
  intro env_1
  simp only [go_sem]
  refine den_loopS (σ := Nat) (fun st_ => [(7, .int .i64 (st_ : Int))]) (fun st_ H => ((st_ : Int) ≤ 1) ∧ (BoxAt H (h0_0.size) (dgA (nmS p 1 z8 z8 st_)) 34) ∧ (Chg [h0_0.size] h13_3 H)) (fun st_ => 1 - st_) 0 ?_ ?_
  ·exact ⟨by first | (simp; done) | (dsimp only; omega) | (simp; omega), by rw [← hQ0]; exact hb1_2, Chg.refl _ _⟩
  ·rintro i h4 ee3 ⟨hi0, hbx6, cL2⟩
   replace hb0_0 := BoxAt.chgA hb0_0 cL2 (apart_lt hlhb0_0 hfhb1_2 (by omega))
   have := cL2.size
   replace eB := Ext.then eB cL2 (ge_of hfhb1_2 (by omega))
   have hfhbx6 := hfhb1_2
   have hlhbx6 := hlhb1_2
   simp only [List.cons_append, List.nil_append]
   refine den_seq ?_
   refine den_seq ?_
   refine den_region TTok ?_
   intro K hK
   simp -implicitDefEqProofs (disch := first | decide | assumption | omega) only [go_sem, fa34_1, ld2, BoxAt.dgS hbx6, Nat.zero_add, nmS_s]
   refine hK _ _ ?_
   clear hK K
   refine den_cond rfl (fun c1 => ?_) (fun c1 => ?_)
   ·try simp only [decide_eq_true_eq] at c1
    refine den_skip ?_
    refine den_seq ?_
    refine den_block ?_
    refine den_seq ?_
    refine den_region TTok ?_
    intro K hK
    simp -implicitDefEqProofs (disch := first | decide | assumption | omega) only [go_sem]
    refine CallA.mono (sUni_ok  (i : Int) _  (by omega)) ?_
    intro v_ h17_2
    rintro ⟨rfl, e17_2⟩
    replace hb0_0 := BoxAt.ext hb0_0 e17_2
    replace hbx6 := BoxAt.ext hbx6 e17_2
    have := Ext.size e17_2
    replace eB := Ext.trans eB e17_2
    replace cL2 := Chg.stepE cL2 e17_2
    try simp -implicitDefEqProofs (disch := first | decide | assumption | omega) only [go_sem, Int.toNat_zero, fa34_5, ia32, ia31, Nat.zero_add, Int.toNat_zero]
    generalize hEA17_6 : elA (e8 i) = EA17_6
    refine op_storeB (o := 82 + 0 * 64 + i * 8) (vs := EA17_6) (cs' := dgA ({ nmS p 1 z8 z8 i with tab := (updF ((nmS p 1 z8 z8 i).tab) 0 (updF ((nmS p 1 z8 z8 i).tab 0) i (e8 i))) })) st30 hbx6 rfl rfl (by rw [← hEA17_6]; exact elA_sz _) (by rw [dgA_sz]; omega) (by rw [← hEA17_6]; exact elA_one) (by rw [← hEA17_6]; exact dg_tabI (X := nmS p 1 z8 z8 i) (by omega) (by omega)) ?_
    intro h17_6 hbx6 c17_6
    subst hEA17_6
    obtain ⟨DS17_6, hDS17_6⟩ : ∃ D : Dg, D = ({ nmS p 1 z8 z8 i with tab := (updF ((nmS p 1 z8 z8 i).tab) 0 (updF ((nmS p 1 z8 z8 i).tab 0) i (e8 i))) }) := ⟨_, rfl⟩
    rw [← hDS17_6] at hbx6
    replace hb0_0 := BoxAt.chgA hb0_0 c17_6 (apart_lt hlhb0_0 hfhbx6 (by omega))
    have := c17_6.size
    replace eB := Ext.then eB c17_6 (ge_of hfhbx6 (by omega))
    replace cL2 := Chg.step cL2 c17_6 Sub.refl
    try simp -implicitDefEqProofs (disch := first | decide | assumption | omega) only [go_sem]
    refine hK _ _ ?_
    clear hK K
    refine den_draw TTok mixed [6] [(0, true), (1, true), (3, true), (4, true), (2, false), (5, true), (6, false)] (by kernel_rfl) ?_
    intro K hK
    simp -implicitDefEqProofs (disch := first | decide | assumption | omega) only [go_sem, fa34_5, ia32, Nat.zero_add]
    refine CallA.mono (sUni_ok  (i : Int) _  (by omega)) ?_
    intro v_ h18_2
    rintro ⟨rfl, e18_2⟩
    replace hb0_0 := BoxAt.ext hb0_0 e18_2
    replace hbx6 := BoxAt.ext hbx6 e18_2
    have := Ext.size e18_2
    replace eB := Ext.trans eB e18_2
    replace cL2 := Chg.stepE cL2 e18_2
    refine plK_pres (Ext.pres e18_2) ?_
    try simp -implicitDefEqProofs (disch := first | decide | assumption | omega) only [go_sem, Int.toNat_zero, ia31, Int.toNat_zero]
    generalize hEA18_6 : elA (e8 i) = EA18_6
    refine op_storeB (o := 82 + i * 64 + 0 * 8) (vs := EA18_6) (cs' := dgA ({ DS17_6 with tab := (updF DS17_6.tab i (updF (DS17_6.tab i) 0 (e8 i))) })) st30 hbx6 rfl rfl (by rw [← hEA18_6]; exact elA_sz _) (by rw [dgA_sz]; omega) (by rw [← hEA18_6]; exact elA_one) (by rw [← hEA18_6]; exact dg_tabI (X := DS17_6) (by omega) (by omega)) ?_
    intro h18_6 hbx6 c18_6
    subst hEA18_6
    obtain ⟨DS18_6, hDS18_6⟩ : ∃ D : Dg, D = ({ DS17_6 with tab := (updF DS17_6.tab i (updF (DS17_6.tab i) 0 (e8 i))) }) := ⟨_, rfl⟩
    rw [← hDS18_6] at hbx6
    replace hb0_0 := BoxAt.chgA hb0_0 c18_6 (apart_lt hlhb0_0 hfhbx6 (by omega))
    have := c18_6.size
    replace eB := Ext.then eB c18_6 (ge_of hfhbx6 (by omega))
    replace cL2 := Chg.step cL2 c18_6 Sub.refl
    try simp (disch := decide) only [outv_none]
    refine plK_last (by decide) ?_
    try simp -implicitDefEqProofs (disch := first | decide | assumption | omega) only [go_sem]
    refine hK _ _ ?_
    clear hK K
    refine den_blk ?_
    refine den_region TTok ?_
    intro K hK
    simp -implicitDefEqProofs (disch := first | decide | assumption | omega) only [go_sem, wrap_id]
    refine hK _ _ ?_
    clear hK K
    refine den_stop ?_
    have hQ1 : DS18_6 = nmS p 1 z8 z8 (i + 1) := by
     rw [← nmS_stp]
     subst_vars
     rfl
    rw [hQ1] at hbx6
    exact ⟨i + 1, by simp [HasL, puts_at], ⟨by first | omega | (dsimp only; omega), hbx6, cL2⟩, by first | omega | (dsimp only; omega)⟩
   ·try simp only [decide_eq_false_iff_not] at c1
    refine den_exit ?_
    refine denX_code ?_
    refine denX_stop ?_
    refine denX_hit ?_
    refine den_seq ?_
    refine den_seq ?_
    refine den_region TTok ?_
    intro K hK
    simp -implicitDefEqProofs (disch := first | decide | assumption | omega) only [go_sem]
    refine hK _ _ ?_
    clear hK K
    refine den_block ?_
    refine den_seq ?_
    refine den_region TTok ?_
    intro K hK
    simp -implicitDefEqProofs (disch := first | decide | assumption | omega) only [go_sem, bin_seq, sV_t]
    refine hK _ _ ?_
    clear hK K
    refine den_cond rfl (fun c2 => ?_) (fun c2 => ?_)
    ·try simp only [beq_iff_eq] at c2
     exact absurd (c0.symm.trans c2) (by decide)
    ·try simp only [beq_eq_false_iff_ne, ne_eq] at c2
     refine den_seq ?_
     refine den_region TTok ?_
     intro K hK
     simp -implicitDefEqProofs (disch := first | decide | assumption | omega) only [go_sem, bin_seq, sV_d]
     refine hK _ _ ?_
     clear hK K
     refine den_cond rfl (fun c3 => ?_) (fun c3 => ?_)
     ·try simp only [beq_iff_eq] at c3
      exact absurd (c0.symm.trans c3) (by decide)
     ·try simp only [beq_eq_false_iff_ne, ne_eq] at c3
      refine den_skip ?_
      refine den_blk ?_
      refine den_seq ?_
      refine den_region TTok ?_
      intro K hK
      simp -implicitDefEqProofs (disch := first | decide | assumption | omega) only [go_sem, BoxAt.dgL hbx6]
      generalize hDA28_1 : dgA (nmS p 1 z8 z8 i) = DA28_1
      refine op_storeB (o := 0) (vs := DA28_1) (cs' := DA28_1) st34 hb0_0 rfl rfl (by rw [← hDA28_1]; exact dgA_sz _) (by rw [dgA_sz]; decide) (by rw [← hDA28_1]; exact dgA_one) (by rw [← hDA28_1]; exact dgA_all) ?_
      intro h28_1 hb0_0 c28_1
      subst hDA28_1
      replace hbx6 := BoxAt.chgA hbx6 c28_1 (apart_gt hfhbx6 hlhb0_0 (by omega))
      have := c28_1.size
      replace eB := Ext.then eB c28_1 (ge_of hfhb0_0 (by omega))
      try simp -implicitDefEqProofs (disch := first | decide | assumption | omega) only [go_sem]
      refine hK _ _ ?_
      clear hK K
      refine den_ret ?_
      simp -implicitDefEqProofs (disch := first | decide | assumption | omega) only [go_sem, BoxAt.dgL hb0_0, resP_ct]
      have hi4 : i = 1 := by omega
      have hE : nmS p 1 z8 z8 i = nmL name p := by
       rw [nmL, if_pos c0]
       subst_vars
       rfl
      have hBv : true = nmB name := by rw [nmB, if_pos c0]
      rw [← hE, ← hBv]
      exact ⟨rfl, eB⟩
 ·try simp only [beq_eq_false_iff_ne, ne_eq] at c0
  refine den_seq ?_
  refine den_region TTok ?_
  intro K hK
  simp -implicitDefEqProofs (disch := first | decide | assumption | omega) only [go_sem, bin_seq, sV_c]
  refine hK _ _ ?_
  clear hK K
  refine den_cond rfl (fun c4 => ?_) (fun c4 => ?_)
  ·try simp only [beq_iff_eq] at c4
   refine den_seq ?_
   refine den_region TTok ?_
   intro K hK
   simp -implicitDefEqProofs (disch := first | decide | assumption | omega) only [go_sem, fa34_1, Nat.zero_add]
   refine op_storeB (o := 1) (vs := #[.int .i64 (2 : Int)]) (cs' := dgA ({ dgN p (4 : Int) with s := (2 : Int) })) st2 hb1_2 rfl rfl rfl (by rw [dgA_sz]; decide) i64_one dg_s ?_
   intro h7_1 hb1_2 c7_1
   obtain ⟨DS7_1, hDS7_1⟩ : ∃ D : Dg, D = ({ dgN p (4 : Int) with s := (2 : Int) }) := ⟨_, rfl⟩
   rw [← hDS7_1] at hb1_2
   replace hb0_0 := BoxAt.chgA hb0_0 c7_1 (apart_lt hlhb0_0 hfhb1_2 (by omega))
   have := c7_1.size
   replace eB := Ext.then eB c7_1 (ge_of hfhb1_2 (by omega))
   try simp -implicitDefEqProofs (disch := first | decide | assumption | omega) only [go_sem]
   refine hK _ _ ?_
   clear hK K
   refine den_region TTok ?_
   intro K hK
   simp -implicitDefEqProofs (disch := first | decide | assumption | omega) only [go_sem, fa34_2, ia22, Nat.zero_add, tn1]
   refine op_storeB (o := 2 + 1) (vs := #[.int .i64 (1 : Int)]) (cs' := dgA ({ DS7_1 with deg := (upd DS7_1.deg 1 (1 : Int)) })) st2 hb1_2 rfl rfl rfl (by rw [dgA_sz]; omega) i64_one (dg_degI (X := DS7_1) (by omega)) ?_
   intro h8_2 hb1_2 c8_2
   obtain ⟨DS8_2, hDS8_2⟩ : ∃ D : Dg, D = ({ DS7_1 with deg := (upd DS7_1.deg 1 (1 : Int)) }) := ⟨_, rfl⟩
   rw [← hDS8_2] at hb1_2
   replace hb0_0 := BoxAt.chgA hb0_0 c8_2 (apart_lt hlhb0_0 hfhb1_2 (by omega))
   have := c8_2.size
   replace eB := Ext.then eB c8_2 (ge_of hfhb1_2 (by omega))
   try simp -implicitDefEqProofs (disch := first | decide | assumption | omega) only [go_sem]
   refine hK _ _ ?_
   clear hK K
   refine den_blk ?_
   refine den_seq ?_
   refine den_region TTok ?_
   intro K hK
   simp -implicitDefEqProofs (disch := first | decide | assumption | omega) only [go_sem, fa34_2, fa34_3, BoxAt.dgDegL hb1_2, Nat.zero_add]
   refine op_storeB (o := 10) (vs := in8A DS8_2.deg) (cs' := dgA ({ DS8_2 with lev := DS8_2.deg })) st22 hb1_2 rfl rfl (in8A_sz _) (by rw [dgA_sz]; decide) in8A_one dg_lev ?_
   intro h13_3_1 hb1_2 c13_3_1
   obtain ⟨DS13_3_1, hDS13_3_1⟩ : ∃ D : Dg, D = ({ DS8_2 with lev := DS8_2.deg }) := ⟨_, rfl⟩
   rw [← hDS13_3_1] at hb1_2
   replace hb0_0 := BoxAt.chgA hb0_0 c13_3_1 (apart_lt hlhb0_0 hfhb1_2 (by omega))
   have := c13_3_1.size
   replace eB := Ext.then eB c13_3_1 (ge_of hfhb1_2 (by omega))
   try simp -implicitDefEqProofs (disch := first | decide | assumption | omega) only [go_sem]
   refine hK _ _ ?_
   clear hK K
   refine den_seq ?_
   refine den_seq ?_
   refine den_region TTok ?_
   intro K hK
   simp -implicitDefEqProofs (disch := first | decide | assumption | omega) only [go_sem]
   refine hK _ _ ?_
   clear hK K
   refine den_block ?_
   have hQ0 : DS13_3_1 = nmS p 2 (l4 0 1 0 0) (l4 0 1 0 0) 0 := by
    subst_vars
    unfold nmS dgN
    rw [unT_0]
    try rw [upd_l4]
   refine den_sel [7, 0, 1, 4, 6] ?_
   intro env_5
   simp only [go_sem]
   refine den_loopS (σ := Nat) (fun st_ => [(7, .int .i64 (st_ : Int))]) (fun st_ H => ((st_ : Int) ≤ 2) ∧ (BoxAt H (h0_0.size) (dgA (nmS p 2 (l4 0 1 0 0) (l4 0 1 0 0) st_)) 34) ∧ (Chg [h0_0.size] h13_3_1 H)) (fun st_ => 2 - st_) 0 ?_ ?_
   ·exact ⟨by first | (simp; done) | (dsimp only; omega) | (simp; omega), by rw [← hQ0]; exact hb1_2, Chg.refl _ _⟩
   ·rintro i h8 ee7 ⟨hi0, hbx6, cL6⟩
    replace hb0_0 := BoxAt.chgA hb0_0 cL6 (apart_lt hlhb0_0 hfhb1_2 (by omega))
    have := cL6.size
    replace eB := Ext.then eB cL6 (ge_of hfhb1_2 (by omega))
    have hfhbx6 := hfhb1_2
    have hlhbx6 := hlhb1_2
    simp only [List.cons_append, List.nil_append]
    refine den_seq ?_
    refine den_seq ?_
    refine den_region TTok ?_
    intro K hK
    simp -implicitDefEqProofs (disch := first | decide | assumption | omega) only [go_sem, fa34_1, ld2, BoxAt.dgS hbx6, Nat.zero_add, nmS_s]
    refine hK _ _ ?_
    clear hK K
    refine den_cond rfl (fun c5 => ?_) (fun c5 => ?_)
    ·try simp only [decide_eq_true_eq] at c5
     refine den_skip ?_
     refine den_seq ?_
     refine den_block ?_
     refine den_seq ?_
     refine den_region TTok ?_
     intro K hK
     simp -implicitDefEqProofs (disch := first | decide | assumption | omega) only [go_sem]
     refine CallA.mono (sUni_ok  (i : Int) _  (by omega)) ?_
     intro v_ h17_2_1
     rintro ⟨rfl, e17_2_1⟩
     replace hb0_0 := BoxAt.ext hb0_0 e17_2_1
     replace hbx6 := BoxAt.ext hbx6 e17_2_1
     have := Ext.size e17_2_1
     replace eB := Ext.trans eB e17_2_1
     replace cL6 := Chg.stepE cL6 e17_2_1
     try simp -implicitDefEqProofs (disch := first | decide | assumption | omega) only [go_sem, Int.toNat_zero, fa34_5, ia32, ia31, Nat.zero_add, Int.toNat_zero]
     generalize hEA17_6_1 : elA (e8 i) = EA17_6_1
     refine op_storeB (o := 82 + 0 * 64 + i * 8) (vs := EA17_6_1) (cs' := dgA ({ nmS p 2 (l4 0 1 0 0) (l4 0 1 0 0) i with tab := (updF ((nmS p 2 (l4 0 1 0 0) (l4 0 1 0 0) i).tab) 0 (updF ((nmS p 2 (l4 0 1 0 0) (l4 0 1 0 0) i).tab 0) i (e8 i))) })) st30 hbx6 rfl rfl (by rw [← hEA17_6_1]; exact elA_sz _) (by rw [dgA_sz]; omega) (by rw [← hEA17_6_1]; exact elA_one) (by rw [← hEA17_6_1]; exact dg_tabI (X := nmS p 2 (l4 0 1 0 0) (l4 0 1 0 0) i) (by omega) (by omega)) ?_
     intro h17_6_1 hbx6 c17_6_1
     subst hEA17_6_1
     obtain ⟨DS17_6_1, hDS17_6_1⟩ : ∃ D : Dg, D = ({ nmS p 2 (l4 0 1 0 0) (l4 0 1 0 0) i with tab := (updF ((nmS p 2 (l4 0 1 0 0) (l4 0 1 0 0) i).tab) 0 (updF ((nmS p 2 (l4 0 1 0 0) (l4 0 1 0 0) i).tab 0) i (e8 i))) }) := ⟨_, rfl⟩
     rw [← hDS17_6_1] at hbx6
     replace hb0_0 := BoxAt.chgA hb0_0 c17_6_1 (apart_lt hlhb0_0 hfhbx6 (by omega))
     have := c17_6_1.size
     replace eB := Ext.then eB c17_6_1 (ge_of hfhbx6 (by omega))
     replace cL6 := Chg.step cL6 c17_6_1 Sub.refl
     try simp -implicitDefEqProofs (disch := first | decide | assumption | omega) only [go_sem]
     refine hK _ _ ?_
     clear hK K
     refine den_draw TTok mixed [6] [(0, true), (1, true), (3, true), (4, true), (2, false), (5, true), (6, false)] (by kernel_rfl) ?_
     intro K hK
     simp -implicitDefEqProofs (disch := first | decide | assumption | omega) only [go_sem, fa34_5, ia32, Nat.zero_add]
     refine CallA.mono (sUni_ok  (i : Int) _  (by omega)) ?_
     intro v_ h18_2_1
     rintro ⟨rfl, e18_2_1⟩
     replace hb0_0 := BoxAt.ext hb0_0 e18_2_1
     replace hbx6 := BoxAt.ext hbx6 e18_2_1
     have := Ext.size e18_2_1
     replace eB := Ext.trans eB e18_2_1
     replace cL6 := Chg.stepE cL6 e18_2_1
     refine plK_pres (Ext.pres e18_2_1) ?_
     try simp -implicitDefEqProofs (disch := first | decide | assumption | omega) only [go_sem, Int.toNat_zero, ia31, Int.toNat_zero]
     generalize hEA18_6_1 : elA (e8 i) = EA18_6_1
     refine op_storeB (o := 82 + i * 64 + 0 * 8) (vs := EA18_6_1) (cs' := dgA ({ DS17_6_1 with tab := (updF DS17_6_1.tab i (updF (DS17_6_1.tab i) 0 (e8 i))) })) st30 hbx6 rfl rfl (by rw [← hEA18_6_1]; exact elA_sz _) (by rw [dgA_sz]; omega) (by rw [← hEA18_6_1]; exact elA_one) (by rw [← hEA18_6_1]; exact dg_tabI (X := DS17_6_1) (by omega) (by omega)) ?_
     intro h18_6_1 hbx6 c18_6_1
     subst hEA18_6_1
     obtain ⟨DS18_6_1, hDS18_6_1⟩ : ∃ D : Dg, D = ({ DS17_6_1 with tab := (updF DS17_6_1.tab i (updF (DS17_6_1.tab i) 0 (e8 i))) }) := ⟨_, rfl⟩
     rw [← hDS18_6_1] at hbx6
     replace hb0_0 := BoxAt.chgA hb0_0 c18_6_1 (apart_lt hlhb0_0 hfhbx6 (by omega))
     have := c18_6_1.size
     replace eB := Ext.then eB c18_6_1 (ge_of hfhbx6 (by omega))
     replace cL6 := Chg.step cL6 c18_6_1 Sub.refl
     try simp (disch := decide) only [outv_none]
     refine plK_last (by decide) ?_
     try simp -implicitDefEqProofs (disch := first | decide | assumption | omega) only [go_sem]
     refine hK _ _ ?_
     clear hK K
     refine den_blk ?_
     refine den_region TTok ?_
     intro K hK
     simp -implicitDefEqProofs (disch := first | decide | assumption | omega) only [go_sem, wrap_id]
     refine hK _ _ ?_
     clear hK K
     refine den_stop ?_
     have hQ1 : DS18_6_1 = nmS p 2 (l4 0 1 0 0) (l4 0 1 0 0) (i + 1) := by
      rw [← nmS_stp]
      subst_vars
      rfl
     rw [hQ1] at hbx6
     exact ⟨i + 1, by simp [HasL, puts_at], ⟨by first | omega | (dsimp only; omega), hbx6, cL6⟩, by first | omega | (dsimp only; omega)⟩
    ·try simp only [decide_eq_false_iff_not] at c5
     refine den_exit ?_
     refine denX_code ?_
     refine denX_stop ?_
     refine denX_hit ?_
     refine den_seq ?_
     refine den_seq ?_
     refine den_region TTok ?_
     intro K hK
     simp -implicitDefEqProofs (disch := first | decide | assumption | omega) only [go_sem]
     refine hK _ _ ?_
     clear hK K
     refine den_block ?_
     refine den_seq ?_
     refine den_region TTok ?_
     intro K hK
     simp -implicitDefEqProofs (disch := first | decide | assumption | omega) only [go_sem, bin_seq, sV_t]
     refine hK _ _ ?_
     clear hK K
     refine den_cond rfl (fun c6 => ?_) (fun c6 => ?_)
     ·try simp only [beq_iff_eq] at c6
      exact absurd (c4.symm.trans c6) (by decide)
     ·try simp only [beq_eq_false_iff_ne, ne_eq] at c6
      refine den_seq ?_
      refine den_region TTok ?_
      intro K hK
      simp -implicitDefEqProofs (disch := first | decide | assumption | omega) only [go_sem, bin_seq, sV_d]
      refine hK _ _ ?_
      clear hK K
      refine den_cond rfl (fun c7 => ?_) (fun c7 => ?_)
      ·try simp only [beq_iff_eq] at c7
       exact absurd (c4.symm.trans c7) (by decide)
      ·try simp only [beq_eq_false_iff_ne, ne_eq] at c7
       refine den_skip ?_
       refine den_blk ?_
       refine den_seq ?_
       refine den_region TTok ?_
       intro K hK
       simp -implicitDefEqProofs (disch := first | decide | assumption | omega) only [go_sem, BoxAt.dgL hbx6]
       generalize hDA28_1_1 : dgA (nmS p 2 (l4 0 1 0 0) (l4 0 1 0 0) i) = DA28_1_1
       refine op_storeB (o := 0) (vs := DA28_1_1) (cs' := DA28_1_1) st34 hb0_0 rfl rfl (by rw [← hDA28_1_1]; exact dgA_sz _) (by rw [dgA_sz]; decide) (by rw [← hDA28_1_1]; exact dgA_one) (by rw [← hDA28_1_1]; exact dgA_all) ?_
       intro h28_1_1 hb0_0 c28_1_1
       subst hDA28_1_1
       replace hbx6 := BoxAt.chgA hbx6 c28_1_1 (apart_gt hfhbx6 hlhb0_0 (by omega))
       have := c28_1_1.size
       replace eB := Ext.then eB c28_1_1 (ge_of hfhb0_0 (by omega))
       try simp -implicitDefEqProofs (disch := first | decide | assumption | omega) only [go_sem]
       refine hK _ _ ?_
       clear hK K
       refine den_ret ?_
       simp -implicitDefEqProofs (disch := first | decide | assumption | omega) only [go_sem, BoxAt.dgL hb0_0, resP_ct]
       have hi4 : i = 2 := by omega
       have hE : nmS p 2 (l4 0 1 0 0) (l4 0 1 0 0) i = nmL name p := by
        rw [nmL, if_neg c0, if_pos c4]
        subst_vars
        rfl
       have hBv : true = nmB name := by rw [nmB, if_neg c0, if_pos c4]
       rw [← hE, ← hBv]
       exact ⟨rfl, eB⟩
  ·try simp only [beq_eq_false_iff_ne, ne_eq] at c4
   refine den_seq ?_
   refine den_region TTok ?_
   intro K hK
   simp -implicitDefEqProofs (disch := first | decide | assumption | omega) only [go_sem, bin_seq, sV_t]
   refine hK _ _ ?_
   clear hK K
   refine den_cond rfl (fun c8 => ?_) (fun c8 => ?_)
   ·try simp only [beq_iff_eq] at c8
    refine den_region TTok ?_
    intro K hK
    simp -implicitDefEqProofs (disch := first | decide | assumption | omega) only [go_sem, fa34_2, Nat.zero_add, build_in8]
    refine op_storeB (o := 2) (vs := in8A (l4 (0 : Int) (1 : Int) (1 : Int) (2 : Int))) (cs' := dgA ({ dgN p (4 : Int) with deg := l4 (0 : Int) (1 : Int) (1 : Int) (2 : Int) })) st22 hb1_2 rfl rfl (in8A_sz _) (by rw [dgA_sz]; decide) in8A_one dg_deg ?_
    intro h10_2 hb1_2 c10_2
    obtain ⟨DS10_2, hDS10_2⟩ : ∃ D : Dg, D = ({ dgN p (4 : Int) with deg := l4 (0 : Int) (1 : Int) (1 : Int) (2 : Int) }) := ⟨_, rfl⟩
    rw [← hDS10_2] at hb1_2
    replace hb0_0 := BoxAt.chgA hb0_0 c10_2 (apart_lt hlhb0_0 hfhb1_2 (by omega))
    have := c10_2.size
    replace eB := Ext.then eB c10_2 (ge_of hfhb1_2 (by omega))
    try simp -implicitDefEqProofs (disch := first | decide | assumption | omega) only [go_sem]
    refine hK _ _ ?_
    clear hK K
    refine den_blk ?_
    refine den_seq ?_
    refine den_region TTok ?_
    intro K hK
    simp -implicitDefEqProofs (disch := first | decide | assumption | omega) only [go_sem, fa34_2, fa34_3, BoxAt.dgDegL hb1_2, Nat.zero_add]
    refine op_storeB (o := 10) (vs := in8A DS10_2.deg) (cs' := dgA ({ DS10_2 with lev := DS10_2.deg })) st22 hb1_2 rfl rfl (in8A_sz _) (by rw [dgA_sz]; decide) in8A_one dg_lev ?_
    intro h13_3_2 hb1_2 c13_3_2
    obtain ⟨DS13_3_2, hDS13_3_2⟩ : ∃ D : Dg, D = ({ DS10_2 with lev := DS10_2.deg }) := ⟨_, rfl⟩
    rw [← hDS13_3_2] at hb1_2
    replace hb0_0 := BoxAt.chgA hb0_0 c13_3_2 (apart_lt hlhb0_0 hfhb1_2 (by omega))
    have := c13_3_2.size
    replace eB := Ext.then eB c13_3_2 (ge_of hfhb1_2 (by omega))
    try simp -implicitDefEqProofs (disch := first | decide | assumption | omega) only [go_sem]
    refine hK _ _ ?_
    clear hK K
    refine den_seq ?_
    refine den_seq ?_
    refine den_region TTok ?_
    intro K hK
    simp -implicitDefEqProofs (disch := first | decide | assumption | omega) only [go_sem]
    refine hK _ _ ?_
    clear hK K
    refine den_block ?_
    have hQ0 : DS13_3_2 = nmS p 4 (l4 0 1 1 2) (l4 0 1 1 2) 0 := by
     subst_vars
     unfold nmS dgN
     rw [unT_0]
     try rw [upd_l4]
    refine den_sel [7, 0, 1, 4, 6] ?_
    intro env_9
    simp only [go_sem]
    refine den_loopS (σ := Nat) (fun st_ => [(7, .int .i64 (st_ : Int))]) (fun st_ H => ((st_ : Int) ≤ 4) ∧ (BoxAt H (h0_0.size) (dgA (nmS p 4 (l4 0 1 1 2) (l4 0 1 1 2) st_)) 34) ∧ (Chg [h0_0.size] h13_3_2 H)) (fun st_ => 4 - st_) 0 ?_ ?_
    ·exact ⟨by first | (simp; done) | (dsimp only; omega) | (simp; omega), by rw [← hQ0]; exact hb1_2, Chg.refl _ _⟩
    ·rintro i h12 ee11 ⟨hi0, hbx6, cL10⟩
     replace hb0_0 := BoxAt.chgA hb0_0 cL10 (apart_lt hlhb0_0 hfhb1_2 (by omega))
     have := cL10.size
     replace eB := Ext.then eB cL10 (ge_of hfhb1_2 (by omega))
     have hfhbx6 := hfhb1_2
     have hlhbx6 := hlhb1_2
     simp only [List.cons_append, List.nil_append]
     refine den_seq ?_
     refine den_seq ?_
     refine den_region TTok ?_
     intro K hK
     simp -implicitDefEqProofs (disch := first | decide | assumption | omega) only [go_sem, fa34_1, ld2, BoxAt.dgS hbx6, Nat.zero_add, nmS_s]
     refine hK _ _ ?_
     clear hK K
     refine den_cond rfl (fun c9 => ?_) (fun c9 => ?_)
     ·try simp only [decide_eq_true_eq] at c9
      refine den_skip ?_
      refine den_seq ?_
      refine den_block ?_
      refine den_seq ?_
      refine den_region TTok ?_
      intro K hK
      simp -implicitDefEqProofs (disch := first | decide | assumption | omega) only [go_sem]
      refine CallA.mono (sUni_ok  (i : Int) _  (by omega)) ?_
      intro v_ h17_2_2
      rintro ⟨rfl, e17_2_2⟩
      replace hb0_0 := BoxAt.ext hb0_0 e17_2_2
      replace hbx6 := BoxAt.ext hbx6 e17_2_2
      have := Ext.size e17_2_2
      replace eB := Ext.trans eB e17_2_2
      replace cL10 := Chg.stepE cL10 e17_2_2
      try simp -implicitDefEqProofs (disch := first | decide | assumption | omega) only [go_sem, Int.toNat_zero, fa34_5, ia32, ia31, Nat.zero_add, Int.toNat_zero]
      generalize hEA17_6_2 : elA (e8 i) = EA17_6_2
      refine op_storeB (o := 82 + 0 * 64 + i * 8) (vs := EA17_6_2) (cs' := dgA ({ nmS p 4 (l4 0 1 1 2) (l4 0 1 1 2) i with tab := (updF ((nmS p 4 (l4 0 1 1 2) (l4 0 1 1 2) i).tab) 0 (updF ((nmS p 4 (l4 0 1 1 2) (l4 0 1 1 2) i).tab 0) i (e8 i))) })) st30 hbx6 rfl rfl (by rw [← hEA17_6_2]; exact elA_sz _) (by rw [dgA_sz]; omega) (by rw [← hEA17_6_2]; exact elA_one) (by rw [← hEA17_6_2]; exact dg_tabI (X := nmS p 4 (l4 0 1 1 2) (l4 0 1 1 2) i) (by omega) (by omega)) ?_
      intro h17_6_2 hbx6 c17_6_2
      subst hEA17_6_2
      obtain ⟨DS17_6_2, hDS17_6_2⟩ : ∃ D : Dg, D = ({ nmS p 4 (l4 0 1 1 2) (l4 0 1 1 2) i with tab := (updF ((nmS p 4 (l4 0 1 1 2) (l4 0 1 1 2) i).tab) 0 (updF ((nmS p 4 (l4 0 1 1 2) (l4 0 1 1 2) i).tab 0) i (e8 i))) }) := ⟨_, rfl⟩
      rw [← hDS17_6_2] at hbx6
      replace hb0_0 := BoxAt.chgA hb0_0 c17_6_2 (apart_lt hlhb0_0 hfhbx6 (by omega))
      have := c17_6_2.size
      replace eB := Ext.then eB c17_6_2 (ge_of hfhbx6 (by omega))
      replace cL10 := Chg.step cL10 c17_6_2 Sub.refl
      try simp -implicitDefEqProofs (disch := first | decide | assumption | omega) only [go_sem]
      refine hK _ _ ?_
      clear hK K
      refine den_draw TTok mixed [6] [(0, true), (1, true), (3, true), (4, true), (2, false), (5, true), (6, false)] (by kernel_rfl) ?_
      intro K hK
      simp -implicitDefEqProofs (disch := first | decide | assumption | omega) only [go_sem, fa34_5, ia32, Nat.zero_add]
      refine CallA.mono (sUni_ok  (i : Int) _  (by omega)) ?_
      intro v_ h18_2_2
      rintro ⟨rfl, e18_2_2⟩
      replace hb0_0 := BoxAt.ext hb0_0 e18_2_2
      replace hbx6 := BoxAt.ext hbx6 e18_2_2
      have := Ext.size e18_2_2
      replace eB := Ext.trans eB e18_2_2
      replace cL10 := Chg.stepE cL10 e18_2_2
      refine plK_pres (Ext.pres e18_2_2) ?_
      try simp -implicitDefEqProofs (disch := first | decide | assumption | omega) only [go_sem, Int.toNat_zero, ia31, Int.toNat_zero]
      generalize hEA18_6_2 : elA (e8 i) = EA18_6_2
      refine op_storeB (o := 82 + i * 64 + 0 * 8) (vs := EA18_6_2) (cs' := dgA ({ DS17_6_2 with tab := (updF DS17_6_2.tab i (updF (DS17_6_2.tab i) 0 (e8 i))) })) st30 hbx6 rfl rfl (by rw [← hEA18_6_2]; exact elA_sz _) (by rw [dgA_sz]; omega) (by rw [← hEA18_6_2]; exact elA_one) (by rw [← hEA18_6_2]; exact dg_tabI (X := DS17_6_2) (by omega) (by omega)) ?_
      intro h18_6_2 hbx6 c18_6_2
      subst hEA18_6_2
      obtain ⟨DS18_6_2, hDS18_6_2⟩ : ∃ D : Dg, D = ({ DS17_6_2 with tab := (updF DS17_6_2.tab i (updF (DS17_6_2.tab i) 0 (e8 i))) }) := ⟨_, rfl⟩
      rw [← hDS18_6_2] at hbx6
      replace hb0_0 := BoxAt.chgA hb0_0 c18_6_2 (apart_lt hlhb0_0 hfhbx6 (by omega))
      have := c18_6_2.size
      replace eB := Ext.then eB c18_6_2 (ge_of hfhbx6 (by omega))
      replace cL10 := Chg.step cL10 c18_6_2 Sub.refl
      try simp (disch := decide) only [outv_none]
      refine plK_last (by decide) ?_
      try simp -implicitDefEqProofs (disch := first | decide | assumption | omega) only [go_sem]
      refine hK _ _ ?_
      clear hK K
      refine den_blk ?_
      refine den_region TTok ?_
      intro K hK
      simp -implicitDefEqProofs (disch := first | decide | assumption | omega) only [go_sem, wrap_id]
      refine hK _ _ ?_
      clear hK K
      refine den_stop ?_
      have hQ1 : DS18_6_2 = nmS p 4 (l4 0 1 1 2) (l4 0 1 1 2) (i + 1) := by
       rw [← nmS_stp]
       subst_vars
       rfl
      rw [hQ1] at hbx6
      exact ⟨i + 1, by simp [HasL, puts_at], ⟨by first | omega | (dsimp only; omega), hbx6, cL10⟩, by first | omega | (dsimp only; omega)⟩
     ·try simp only [decide_eq_false_iff_not] at c9
      refine den_exit ?_
      refine denX_code ?_
      refine denX_stop ?_
      refine denX_hit ?_
      refine den_seq ?_
      refine den_seq ?_
      refine den_region TTok ?_
      intro K hK
      simp -implicitDefEqProofs (disch := first | decide | assumption | omega) only [go_sem]
      refine hK _ _ ?_
      clear hK K
      refine den_block ?_
      refine den_seq ?_
      refine den_region TTok ?_
      intro K hK
      simp -implicitDefEqProofs (disch := first | decide | assumption | omega) only [go_sem, bin_seq, sV_t]
      refine hK _ _ ?_
      clear hK K
      refine den_cond rfl (fun c10 => ?_) (fun c10 => ?_)
      ·try simp only [beq_iff_eq] at c10
       refine den_seq ?_
       refine den_region TTok ?_
       intro K hK
       simp -implicitDefEqProofs (disch := first | decide | assumption | omega) only [go_sem]
       refine CallA.mono (sUni_ok  (3 : Int) _  (by omega)) ?_
       intro v_ h21_0
       rintro ⟨rfl, e21_0⟩
       replace hb0_0 := BoxAt.ext hb0_0 e21_0
       replace hbx6 := BoxAt.ext hbx6 e21_0
       have := Ext.size e21_0
       replace eB := Ext.trans eB e21_0
       try simp -implicitDefEqProofs (disch := first | decide | assumption | omega) only [go_sem, fa34_5, ia32, ia31, Nat.zero_add, tn1, tn2, tn3]
       generalize hEA21_4 : elA (e8 3) = EA21_4
       refine op_storeB (o := 82 + 1 * 64 + 2 * 8) (vs := EA21_4) (cs' := dgA ({ nmS p 4 (l4 0 1 1 2) (l4 0 1 1 2) i with tab := (updF ((nmS p 4 (l4 0 1 1 2) (l4 0 1 1 2) i).tab) 1 (updF ((nmS p 4 (l4 0 1 1 2) (l4 0 1 1 2) i).tab 1) 2 (e8 3))) })) st30 hbx6 rfl rfl (by rw [← hEA21_4]; exact elA_sz _) (by rw [dgA_sz]; omega) (by rw [← hEA21_4]; exact elA_one) (by rw [← hEA21_4]; exact dg_tabI (X := nmS p 4 (l4 0 1 1 2) (l4 0 1 1 2) i) (by omega) (by omega)) ?_
       intro h21_4 hbx6 c21_4
       subst hEA21_4
       obtain ⟨DS21_4, hDS21_4⟩ : ∃ D : Dg, D = ({ nmS p 4 (l4 0 1 1 2) (l4 0 1 1 2) i with tab := (updF ((nmS p 4 (l4 0 1 1 2) (l4 0 1 1 2) i).tab) 1 (updF ((nmS p 4 (l4 0 1 1 2) (l4 0 1 1 2) i).tab 1) 2 (e8 3))) }) := ⟨_, rfl⟩
       rw [← hDS21_4] at hbx6
       replace hb0_0 := BoxAt.chgA hb0_0 c21_4 (apart_lt hlhb0_0 hfhbx6 (by omega))
       have := c21_4.size
       replace eB := Ext.then eB c21_4 (ge_of hfhbx6 (by omega))
       try simp -implicitDefEqProofs (disch := first | decide | assumption | omega) only [go_sem]
       refine hK _ _ ?_
       clear hK K
       refine den_region TTok ?_
       intro K hK
       simp -implicitDefEqProofs (disch := first | decide | assumption | omega) only [go_sem, build_el]
       refine CallA.mono (sUni_ok  (3 : Int) _  (by omega)) ?_
       intro v_ h22_2
       rintro ⟨rfl, e22_2⟩
       replace hb0_0 := BoxAt.ext hb0_0 e22_2
       replace hbx6 := BoxAt.ext hbx6 e22_2
       have := Ext.size e22_2
       replace eB := Ext.trans eB e22_2
       try simp -implicitDefEqProofs (disch := first | decide | assumption | omega) only [go_sem, tn3]
       refine CallA.mono (sAdd8_ok  p z8 (e8 3) (-1 : Int) _  hp By.z8 (e8_by _) (by omega)) ?_
       intro v_ h22_3
       rintro ⟨rfl, e22_3⟩
       replace hb0_0 := BoxAt.ext hb0_0 e22_3
       replace hbx6 := BoxAt.ext hbx6 e22_3
       have := Ext.size e22_3
       replace eB := Ext.trans eB e22_3
       try simp -implicitDefEqProofs (disch := first | decide | assumption | omega) only [go_sem, fa34_5, ia32, ia31, Nat.zero_add, tn1, tn2]
       generalize hEA22_7 : elA (plusN p z8 (e8 3) (-1 : Int) 8) = EA22_7
       refine op_storeB (o := 82 + 2 * 64 + 1 * 8) (vs := EA22_7) (cs' := dgA ({ DS21_4 with tab := (updF DS21_4.tab 2 (updF (DS21_4.tab 2) 1 (plusN p z8 (e8 3) (-1 : Int) 8))) })) st30 hbx6 rfl rfl (by rw [← hEA22_7]; exact elA_sz _) (by rw [dgA_sz]; omega) (by rw [← hEA22_7]; exact elA_one) (by rw [← hEA22_7]; exact dg_tabI (X := DS21_4) (by omega) (by omega)) ?_
       intro h22_7 hbx6 c22_7
       subst hEA22_7
       obtain ⟨DS22_7, hDS22_7⟩ : ∃ D : Dg, D = ({ DS21_4 with tab := (updF DS21_4.tab 2 (updF (DS21_4.tab 2) 1 (plusN p z8 (e8 3) (-1 : Int) 8))) }) := ⟨_, rfl⟩
       rw [← hDS22_7] at hbx6
       replace hb0_0 := BoxAt.chgA hb0_0 c22_7 (apart_lt hlhb0_0 hfhbx6 (by omega))
       have := c22_7.size
       replace eB := Ext.then eB c22_7 (ge_of hfhbx6 (by omega))
       try simp -implicitDefEqProofs (disch := first | decide | assumption | omega) only [go_sem]
       refine hK _ _ ?_
       clear hK K
       refine den_blk ?_
       refine den_seq ?_
       refine den_region TTok ?_
       intro K hK
       simp -implicitDefEqProofs (disch := first | decide | assumption | omega) only [go_sem, BoxAt.dgL hbx6]
       generalize hDA28_1_2 : dgA DS22_7 = DA28_1_2
       refine op_storeB (o := 0) (vs := DA28_1_2) (cs' := DA28_1_2) st34 hb0_0 rfl rfl (by rw [← hDA28_1_2]; exact dgA_sz _) (by rw [dgA_sz]; decide) (by rw [← hDA28_1_2]; exact dgA_one) (by rw [← hDA28_1_2]; exact dgA_all) ?_
       intro h28_1_2 hb0_0 c28_1_2
       subst hDA28_1_2
       replace hbx6 := BoxAt.chgA hbx6 c28_1_2 (apart_gt hfhbx6 hlhb0_0 (by omega))
       have := c28_1_2.size
       replace eB := Ext.then eB c28_1_2 (ge_of hfhb0_0 (by omega))
       try simp -implicitDefEqProofs (disch := first | decide | assumption | omega) only [go_sem]
       refine hK _ _ ?_
       clear hK K
       refine den_ret ?_
       simp -implicitDefEqProofs (disch := first | decide | assumption | omega) only [go_sem, BoxAt.dgL hb0_0, resP_ct]
       have hi4 : i = 4 := by omega
       have hE : DS22_7 = nmL name p := by
        rw [nmL, if_neg c0, if_neg c4, if_pos c8]
        subst_vars
        rfl
       have hBv : true = nmB name := by rw [nmB, if_neg c0, if_neg c4, if_pos c8]
       rw [← hE, ← hBv]
       exact ⟨rfl, eB⟩
      ·try simp only [beq_eq_false_iff_ne, ne_eq] at c10
       exact absurd c8 c10
   ·try simp only [beq_eq_false_iff_ne, ne_eq] at c8
    refine den_seq ?_
    refine den_region TTok ?_
    intro K hK
    simp -implicitDefEqProofs (disch := first | decide | assumption | omega) only [go_sem, bin_seq, sV_d]
    refine hK _ _ ?_
    clear hK K
    refine den_cond rfl (fun c11 => ?_) (fun c11 => ?_)
    ·try simp only [beq_iff_eq] at c11
     refine den_region TTok ?_
     intro K hK
     simp -implicitDefEqProofs (disch := first | decide | assumption | omega) only [go_sem, fa34_2, Nat.zero_add, build_in8]
     refine op_storeB (o := 2) (vs := in8A (l4 (0 : Int) (0 : Int) (1 : Int) (1 : Int))) (cs' := dgA ({ dgN p (4 : Int) with deg := l4 (0 : Int) (0 : Int) (1 : Int) (1 : Int) })) st22 hb1_2 rfl rfl (in8A_sz _) (by rw [dgA_sz]; decide) in8A_one dg_deg ?_
     intro h12_2 hb1_2 c12_2
     obtain ⟨DS12_2, hDS12_2⟩ : ∃ D : Dg, D = ({ dgN p (4 : Int) with deg := l4 (0 : Int) (0 : Int) (1 : Int) (1 : Int) }) := ⟨_, rfl⟩
     rw [← hDS12_2] at hb1_2
     replace hb0_0 := BoxAt.chgA hb0_0 c12_2 (apart_lt hlhb0_0 hfhb1_2 (by omega))
     have := c12_2.size
     replace eB := Ext.then eB c12_2 (ge_of hfhb1_2 (by omega))
     try simp -implicitDefEqProofs (disch := first | decide | assumption | omega) only [go_sem]
     refine hK _ _ ?_
     clear hK K
     refine den_blk ?_
     refine den_seq ?_
     refine den_region TTok ?_
     intro K hK
     simp -implicitDefEqProofs (disch := first | decide | assumption | omega) only [go_sem, fa34_2, fa34_3, BoxAt.dgDegL hb1_2, Nat.zero_add]
     refine op_storeB (o := 10) (vs := in8A DS12_2.deg) (cs' := dgA ({ DS12_2 with lev := DS12_2.deg })) st22 hb1_2 rfl rfl (in8A_sz _) (by rw [dgA_sz]; decide) in8A_one dg_lev ?_
     intro h13_3_3 hb1_2 c13_3_3
     obtain ⟨DS13_3_3, hDS13_3_3⟩ : ∃ D : Dg, D = ({ DS12_2 with lev := DS12_2.deg }) := ⟨_, rfl⟩
     rw [← hDS13_3_3] at hb1_2
     replace hb0_0 := BoxAt.chgA hb0_0 c13_3_3 (apart_lt hlhb0_0 hfhb1_2 (by omega))
     have := c13_3_3.size
     replace eB := Ext.then eB c13_3_3 (ge_of hfhb1_2 (by omega))
     try simp -implicitDefEqProofs (disch := first | decide | assumption | omega) only [go_sem]
     refine hK _ _ ?_
     clear hK K
     refine den_seq ?_
     refine den_seq ?_
     refine den_region TTok ?_
     intro K hK
     simp -implicitDefEqProofs (disch := first | decide | assumption | omega) only [go_sem]
     refine hK _ _ ?_
     clear hK K
     refine den_block ?_
     have hQ0 : DS13_3_3 = nmS p 4 (l4 0 0 1 1) (l4 0 0 1 1) 0 := by
      subst_vars
      unfold nmS dgN
      rw [unT_0]
      try rw [upd_l4]
     refine den_sel [7, 0, 1, 4, 6] ?_
     intro env_13
     simp only [go_sem]
     refine den_loopS (σ := Nat) (fun st_ => [(7, .int .i64 (st_ : Int))]) (fun st_ H => ((st_ : Int) ≤ 4) ∧ (BoxAt H (h0_0.size) (dgA (nmS p 4 (l4 0 0 1 1) (l4 0 0 1 1) st_)) 34) ∧ (Chg [h0_0.size] h13_3_3 H)) (fun st_ => 4 - st_) 0 ?_ ?_
     ·exact ⟨by first | (simp; done) | (dsimp only; omega) | (simp; omega), by rw [← hQ0]; exact hb1_2, Chg.refl _ _⟩
     ·rintro i h16 ee15 ⟨hi0, hbx6, cL14⟩
      replace hb0_0 := BoxAt.chgA hb0_0 cL14 (apart_lt hlhb0_0 hfhb1_2 (by omega))
      have := cL14.size
      replace eB := Ext.then eB cL14 (ge_of hfhb1_2 (by omega))
      have hfhbx6 := hfhb1_2
      have hlhbx6 := hlhb1_2
      simp only [List.cons_append, List.nil_append]
      refine den_seq ?_
      refine den_seq ?_
      refine den_region TTok ?_
      intro K hK
      simp -implicitDefEqProofs (disch := first | decide | assumption | omega) only [go_sem, fa34_1, ld2, BoxAt.dgS hbx6, Nat.zero_add, nmS_s]
      refine hK _ _ ?_
      clear hK K
      refine den_cond rfl (fun c12 => ?_) (fun c12 => ?_)
      ·try simp only [decide_eq_true_eq] at c12
       refine den_skip ?_
       refine den_seq ?_
       refine den_block ?_
       refine den_seq ?_
       refine den_region TTok ?_
       intro K hK
       simp -implicitDefEqProofs (disch := first | decide | assumption | omega) only [go_sem]
       refine CallA.mono (sUni_ok  (i : Int) _  (by omega)) ?_
       intro v_ h17_2_3
       rintro ⟨rfl, e17_2_3⟩
       replace hb0_0 := BoxAt.ext hb0_0 e17_2_3
       replace hbx6 := BoxAt.ext hbx6 e17_2_3
       have := Ext.size e17_2_3
       replace eB := Ext.trans eB e17_2_3
       replace cL14 := Chg.stepE cL14 e17_2_3
       try simp -implicitDefEqProofs (disch := first | decide | assumption | omega) only [go_sem, Int.toNat_zero, fa34_5, ia32, ia31, Nat.zero_add, Int.toNat_zero]
       generalize hEA17_6_3 : elA (e8 i) = EA17_6_3
       refine op_storeB (o := 82 + 0 * 64 + i * 8) (vs := EA17_6_3) (cs' := dgA ({ nmS p 4 (l4 0 0 1 1) (l4 0 0 1 1) i with tab := (updF ((nmS p 4 (l4 0 0 1 1) (l4 0 0 1 1) i).tab) 0 (updF ((nmS p 4 (l4 0 0 1 1) (l4 0 0 1 1) i).tab 0) i (e8 i))) })) st30 hbx6 rfl rfl (by rw [← hEA17_6_3]; exact elA_sz _) (by rw [dgA_sz]; omega) (by rw [← hEA17_6_3]; exact elA_one) (by rw [← hEA17_6_3]; exact dg_tabI (X := nmS p 4 (l4 0 0 1 1) (l4 0 0 1 1) i) (by omega) (by omega)) ?_
       intro h17_6_3 hbx6 c17_6_3
       subst hEA17_6_3
       obtain ⟨DS17_6_3, hDS17_6_3⟩ : ∃ D : Dg, D = ({ nmS p 4 (l4 0 0 1 1) (l4 0 0 1 1) i with tab := (updF ((nmS p 4 (l4 0 0 1 1) (l4 0 0 1 1) i).tab) 0 (updF ((nmS p 4 (l4 0 0 1 1) (l4 0 0 1 1) i).tab 0) i (e8 i))) }) := ⟨_, rfl⟩
       rw [← hDS17_6_3] at hbx6
       replace hb0_0 := BoxAt.chgA hb0_0 c17_6_3 (apart_lt hlhb0_0 hfhbx6 (by omega))
       have := c17_6_3.size
       replace eB := Ext.then eB c17_6_3 (ge_of hfhbx6 (by omega))
       replace cL14 := Chg.step cL14 c17_6_3 Sub.refl
       try simp -implicitDefEqProofs (disch := first | decide | assumption | omega) only [go_sem]
       refine hK _ _ ?_
       clear hK K
       refine den_draw TTok mixed [6] [(0, true), (1, true), (3, true), (4, true), (2, false), (5, true), (6, false)] (by kernel_rfl) ?_
       intro K hK
       simp -implicitDefEqProofs (disch := first | decide | assumption | omega) only [go_sem, fa34_5, ia32, Nat.zero_add]
       refine CallA.mono (sUni_ok  (i : Int) _  (by omega)) ?_
       intro v_ h18_2_3
       rintro ⟨rfl, e18_2_3⟩
       replace hb0_0 := BoxAt.ext hb0_0 e18_2_3
       replace hbx6 := BoxAt.ext hbx6 e18_2_3
       have := Ext.size e18_2_3
       replace eB := Ext.trans eB e18_2_3
       replace cL14 := Chg.stepE cL14 e18_2_3
       refine plK_pres (Ext.pres e18_2_3) ?_
       try simp -implicitDefEqProofs (disch := first | decide | assumption | omega) only [go_sem, Int.toNat_zero, ia31, Int.toNat_zero]
       generalize hEA18_6_3 : elA (e8 i) = EA18_6_3
       refine op_storeB (o := 82 + i * 64 + 0 * 8) (vs := EA18_6_3) (cs' := dgA ({ DS17_6_3 with tab := (updF DS17_6_3.tab i (updF (DS17_6_3.tab i) 0 (e8 i))) })) st30 hbx6 rfl rfl (by rw [← hEA18_6_3]; exact elA_sz _) (by rw [dgA_sz]; omega) (by rw [← hEA18_6_3]; exact elA_one) (by rw [← hEA18_6_3]; exact dg_tabI (X := DS17_6_3) (by omega) (by omega)) ?_
       intro h18_6_3 hbx6 c18_6_3
       subst hEA18_6_3
       obtain ⟨DS18_6_3, hDS18_6_3⟩ : ∃ D : Dg, D = ({ DS17_6_3 with tab := (updF DS17_6_3.tab i (updF (DS17_6_3.tab i) 0 (e8 i))) }) := ⟨_, rfl⟩
       rw [← hDS18_6_3] at hbx6
       replace hb0_0 := BoxAt.chgA hb0_0 c18_6_3 (apart_lt hlhb0_0 hfhbx6 (by omega))
       have := c18_6_3.size
       replace eB := Ext.then eB c18_6_3 (ge_of hfhbx6 (by omega))
       replace cL14 := Chg.step cL14 c18_6_3 Sub.refl
       try simp (disch := decide) only [outv_none]
       refine plK_last (by decide) ?_
       try simp -implicitDefEqProofs (disch := first | decide | assumption | omega) only [go_sem]
       refine hK _ _ ?_
       clear hK K
       refine den_blk ?_
       refine den_region TTok ?_
       intro K hK
       simp -implicitDefEqProofs (disch := first | decide | assumption | omega) only [go_sem, wrap_id]
       refine hK _ _ ?_
       clear hK K
       refine den_stop ?_
       have hQ1 : DS18_6_3 = nmS p 4 (l4 0 0 1 1) (l4 0 0 1 1) (i + 1) := by
        rw [← nmS_stp]
        subst_vars
        rfl
       rw [hQ1] at hbx6
       exact ⟨i + 1, by simp [HasL, puts_at], ⟨by first | omega | (dsimp only; omega), hbx6, cL14⟩, by first | omega | (dsimp only; omega)⟩
      ·try simp only [decide_eq_false_iff_not] at c12
       refine den_exit ?_
       refine denX_code ?_
       refine denX_stop ?_
       refine denX_hit ?_
       refine den_seq ?_
       refine den_seq ?_
       refine den_region TTok ?_
       intro K hK
       simp -implicitDefEqProofs (disch := first | decide | assumption | omega) only [go_sem]
       refine hK _ _ ?_
       clear hK K
       refine den_block ?_
       refine den_seq ?_
       refine den_region TTok ?_
       intro K hK
       simp -implicitDefEqProofs (disch := first | decide | assumption | omega) only [go_sem, bin_seq, sV_t]
       refine hK _ _ ?_
       clear hK K
       refine den_cond rfl (fun c13 => ?_) (fun c13 => ?_)
       ·try simp only [beq_iff_eq] at c13
        exact absurd (c11.symm.trans c13) (by decide)
       ·try simp only [beq_eq_false_iff_ne, ne_eq] at c13
        refine den_seq ?_
        refine den_region TTok ?_
        intro K hK
        simp -implicitDefEqProofs (disch := first | decide | assumption | omega) only [go_sem, bin_seq, sV_d]
        refine hK _ _ ?_
        clear hK K
        refine den_cond rfl (fun c14 => ?_) (fun c14 => ?_)
        ·try simp only [beq_iff_eq] at c14
         refine den_seq ?_
         refine den_region TTok ?_
         intro K hK
         simp -implicitDefEqProofs (disch := first | decide | assumption | omega) only [go_sem, fa34_3, Nat.zero_add, build_in8]
         refine op_storeB (o := 10) (vs := in8A (l4 (0 : Int) (1 : Int) (1 : Int) (2 : Int))) (cs' := dgA ({ nmS p 4 (l4 0 0 1 1) (l4 0 0 1 1) i with lev := l4 (0 : Int) (1 : Int) (1 : Int) (2 : Int) })) st22 hbx6 rfl rfl (in8A_sz _) (by rw [dgA_sz]; decide) in8A_one dg_lev ?_
         intro h24_2 hbx6 c24_2
         obtain ⟨DS24_2, hDS24_2⟩ : ∃ D : Dg, D = ({ nmS p 4 (l4 0 0 1 1) (l4 0 0 1 1) i with lev := l4 (0 : Int) (1 : Int) (1 : Int) (2 : Int) }) := ⟨_, rfl⟩
         rw [← hDS24_2] at hbx6
         replace hb0_0 := BoxAt.chgA hb0_0 c24_2 (apart_lt hlhb0_0 hfhbx6 (by omega))
         have := c24_2.size
         replace eB := Ext.then eB c24_2 (ge_of hfhbx6 (by omega))
         try simp -implicitDefEqProofs (disch := first | decide | assumption | omega) only [go_sem]
         refine hK _ _ ?_
         clear hK K
         refine den_seq ?_
         refine den_region TTok ?_
         intro K hK
         simp -implicitDefEqProofs (disch := first | decide | assumption | omega) only [go_sem]
         refine CallA.mono (sUni_ok  (3 : Int) _  (by omega)) ?_
         intro v_ h25_0
         rintro ⟨rfl, e25_0⟩
         replace hb0_0 := BoxAt.ext hb0_0 e25_0
         replace hbx6 := BoxAt.ext hbx6 e25_0
         have := Ext.size e25_0
         replace eB := Ext.trans eB e25_0
         try simp -implicitDefEqProofs (disch := first | decide | assumption | omega) only [go_sem, fa34_5, ia32, ia31, Nat.zero_add, tn1, tn2, tn3]
         generalize hEA25_4 : elA (e8 3) = EA25_4
         refine op_storeB (o := 82 + 1 * 64 + 2 * 8) (vs := EA25_4) (cs' := dgA ({ DS24_2 with tab := (updF DS24_2.tab 1 (updF (DS24_2.tab 1) 2 (e8 3))) })) st30 hbx6 rfl rfl (by rw [← hEA25_4]; exact elA_sz _) (by rw [dgA_sz]; omega) (by rw [← hEA25_4]; exact elA_one) (by rw [← hEA25_4]; exact dg_tabI (X := DS24_2) (by omega) (by omega)) ?_
         intro h25_4 hbx6 c25_4
         subst hEA25_4
         obtain ⟨DS25_4, hDS25_4⟩ : ∃ D : Dg, D = ({ DS24_2 with tab := (updF DS24_2.tab 1 (updF (DS24_2.tab 1) 2 (e8 3))) }) := ⟨_, rfl⟩
         rw [← hDS25_4] at hbx6
         replace hb0_0 := BoxAt.chgA hb0_0 c25_4 (apart_lt hlhb0_0 hfhbx6 (by omega))
         have := c25_4.size
         replace eB := Ext.then eB c25_4 (ge_of hfhbx6 (by omega))
         try simp -implicitDefEqProofs (disch := first | decide | assumption | omega) only [go_sem]
         refine hK _ _ ?_
         clear hK K
         refine den_seq ?_
         refine den_region TTok ?_
         intro K hK
         simp -implicitDefEqProofs (disch := first | decide | assumption | omega) only [go_sem]
         refine CallA.mono (sUni_ok  (3 : Int) _  (by omega)) ?_
         intro v_ h26_0
         rintro ⟨rfl, e26_0⟩
         replace hb0_0 := BoxAt.ext hb0_0 e26_0
         replace hbx6 := BoxAt.ext hbx6 e26_0
         have := Ext.size e26_0
         replace eB := Ext.trans eB e26_0
         try simp -implicitDefEqProofs (disch := first | decide | assumption | omega) only [go_sem, fa34_5, ia32, ia31, Nat.zero_add, tn1, tn2, tn3]
         generalize hEA26_4 : elA (e8 3) = EA26_4
         refine op_storeB (o := 82 + 2 * 64 + 1 * 8) (vs := EA26_4) (cs' := dgA ({ DS25_4 with tab := (updF DS25_4.tab 2 (updF (DS25_4.tab 2) 1 (e8 3))) })) st30 hbx6 rfl rfl (by rw [← hEA26_4]; exact elA_sz _) (by rw [dgA_sz]; omega) (by rw [← hEA26_4]; exact elA_one) (by rw [← hEA26_4]; exact dg_tabI (X := DS25_4) (by omega) (by omega)) ?_
         intro h26_4 hbx6 c26_4
         subst hEA26_4
         obtain ⟨DS26_4, hDS26_4⟩ : ∃ D : Dg, D = ({ DS25_4 with tab := (updF DS25_4.tab 2 (updF (DS25_4.tab 2) 1 (e8 3))) }) := ⟨_, rfl⟩
         rw [← hDS26_4] at hbx6
         replace hb0_0 := BoxAt.chgA hb0_0 c26_4 (apart_lt hlhb0_0 hfhbx6 (by omega))
         have := c26_4.size
         replace eB := Ext.then eB c26_4 (ge_of hfhbx6 (by omega))
         try simp -implicitDefEqProofs (disch := first | decide | assumption | omega) only [go_sem]
         refine hK _ _ ?_
         clear hK K
         refine den_region TTok ?_
         intro K hK
         simp -implicitDefEqProofs (disch := first | decide | assumption | omega) only [go_sem]
         refine CallA.mono (sUni_ok  (1 : Int) _  (by omega)) ?_
         intro v_ h27_0
         rintro ⟨rfl, e27_0⟩
         replace hb0_0 := BoxAt.ext hb0_0 e27_0
         replace hbx6 := BoxAt.ext hbx6 e27_0
         have := Ext.size e27_0
         replace eB := Ext.trans eB e27_0
         try simp -implicitDefEqProofs (disch := first | decide | assumption | omega) only [go_sem, fa34_4, ia31, Nat.zero_add, tn1, tn2]
         generalize hEA27_3 : elA (e8 1) = EA27_3
         refine op_storeB (o := 18 + 2 * 8) (vs := EA27_3) (cs' := dgA ({ DS26_4 with dif := (updF DS26_4.dif 2 (e8 1)) })) st30 hbx6 rfl rfl (by rw [← hEA27_3]; exact elA_sz _) (by rw [dgA_sz]; omega) (by rw [← hEA27_3]; exact elA_one) (by rw [← hEA27_3]; exact dg_difI (X := DS26_4) (by omega)) ?_
         intro h27_3 hbx6 c27_3
         subst hEA27_3
         obtain ⟨DS27_3, hDS27_3⟩ : ∃ D : Dg, D = ({ DS26_4 with dif := (updF DS26_4.dif 2 (e8 1)) }) := ⟨_, rfl⟩
         rw [← hDS27_3] at hbx6
         replace hb0_0 := BoxAt.chgA hb0_0 c27_3 (apart_lt hlhb0_0 hfhbx6 (by omega))
         have := c27_3.size
         replace eB := Ext.then eB c27_3 (ge_of hfhbx6 (by omega))
         try simp -implicitDefEqProofs (disch := first | decide | assumption | omega) only [go_sem]
         refine hK _ _ ?_
         clear hK K
         refine den_blk ?_
         refine den_seq ?_
         refine den_region TTok ?_
         intro K hK
         simp -implicitDefEqProofs (disch := first | decide | assumption | omega) only [go_sem, BoxAt.dgL hbx6]
         generalize hDA28_1_3 : dgA DS27_3 = DA28_1_3
         refine op_storeB (o := 0) (vs := DA28_1_3) (cs' := DA28_1_3) st34 hb0_0 rfl rfl (by rw [← hDA28_1_3]; exact dgA_sz _) (by rw [dgA_sz]; decide) (by rw [← hDA28_1_3]; exact dgA_one) (by rw [← hDA28_1_3]; exact dgA_all) ?_
         intro h28_1_3 hb0_0 c28_1_3
         subst hDA28_1_3
         replace hbx6 := BoxAt.chgA hbx6 c28_1_3 (apart_gt hfhbx6 hlhb0_0 (by omega))
         have := c28_1_3.size
         replace eB := Ext.then eB c28_1_3 (ge_of hfhb0_0 (by omega))
         try simp -implicitDefEqProofs (disch := first | decide | assumption | omega) only [go_sem]
         refine hK _ _ ?_
         clear hK K
         refine den_ret ?_
         simp -implicitDefEqProofs (disch := first | decide | assumption | omega) only [go_sem, BoxAt.dgL hb0_0, resP_ct]
         have hi4 : i = 4 := by omega
         have hE : DS27_3 = nmL name p := by
          rw [nmL, if_neg c0, if_neg c4, if_neg c8, if_pos c11]
          subst_vars
          rfl
         have hBv : true = nmB name := by rw [nmB, if_neg c0, if_neg c4, if_neg c8, if_pos c11]
         rw [← hE, ← hBv]
         exact ⟨rfl, eB⟩
        ·try simp only [beq_eq_false_iff_ne, ne_eq] at c14
         exact absurd c11 c14
    ·try simp only [beq_eq_false_iff_ne, ne_eq] at c11
     refine den_seq ?_
     refine den_region TTok ?_
     intro K hK
     simp -implicitDefEqProofs (disch := first | decide | assumption | omega) only [go_sem, BoxAt.dgL hb1_2]
     generalize hDA3_1 : dgA (dgN p (4 : Int)) = DA3_1
     refine op_storeB (o := 0) (vs := DA3_1) (cs' := DA3_1) st34 hb0_0 rfl rfl (by rw [← hDA3_1]; exact dgA_sz _) (by rw [dgA_sz]; decide) (by rw [← hDA3_1]; exact dgA_one) (by rw [← hDA3_1]; exact dgA_all) ?_
     intro h3_1 hb0_0 c3_1
     subst hDA3_1
     replace hb1_2 := BoxAt.chgA hb1_2 c3_1 (apart_gt hfhb1_2 hlhb0_0 (by omega))
     have := c3_1.size
     replace eB := Ext.then eB c3_1 (ge_of hfhb0_0 (by omega))
     try simp -implicitDefEqProofs (disch := first | decide | assumption | omega) only [go_sem]
     refine hK _ _ ?_
     clear hK K
     refine den_ret ?_
     simp -implicitDefEqProofs (disch := first | decide | assumption | omega) only [go_sem, BoxAt.dgL hb0_0, resP_ct]
     have hE : dgN p (4 : Int) = nmL name p := by
      rw [nmL, if_neg c0, if_neg c4, if_neg c8, if_neg c11]
     have hBv : false = nmB name := by rw [nmB, if_neg c0, if_neg c4, if_neg c8, if_neg c11]
     rw [← hE, ← hBv]
     exact ⟨rfl, eB⟩
end Go.Proofs.Ytacajcjibhifmaa

namespace Go.Proofs.Ytacajcjibhifmaa
open Go
theorem wu_step (p s : Int) (D L : List Int) (n : Nat) : (⟨p, s, upd (fun q => if q < n then D.getD q 0 else 0) n (D.getD n 0), upd (fun q => if q < n then L.getD q 0 else 0) n (L.getD n 0), z64, updF (updF (unT n) 0 (updF (unT n 0) n (e8 n))) n (updF (updF (unT n) 0 (updF (unT n 0) n (e8 n)) n) 0 (e8 n))⟩ : Dg) = wuS p s D L (n + 1) := by
 rw [unT_step, upd_get rfl, upd_get rfl]; rfl
theorem nm2_of (p : Int) : (⟨p, 4, (wuS p 4 [0, 1, 1, 2] [0, 1, 1, 2] 4).deg, (wuS p 4 [0, 1, 1, 2] [0, 1, 1, 2] 4).lev, z64, updF (updF (unT 4) 1 (updF (unT 4 1) 2 (e8 3))) 2 (updF (updF (unT 4) 1 (updF (unT 4 1) 2 (e8 3)) 2) 1 (plusN p z8 (e8 3) (-1) 8))⟩ : Dg) = nm2 p := by rw [wu_2]; rfl
theorem nm3_of (p : Int) : (⟨p, 4, (wuS p 4 [0, 0, 1, 1] [0, 1, 1, 2] 4).deg, (wuS p 4 [0, 0, 1, 1] [0, 1, 1, 2] 4).lev, updF z64 2 (e8 1), updF (updF (unT 4) 1 (updF (unT 4 1) 2 (e8 3))) 2 (updF (updF (unT 4) 1 (updF (unT 4 1) 2 (e8 3)) 2) 1 (e8 3))⟩ : Dg) = nm3 p := by rw [wu_2]; rfl

set_option maxRecDepth 100000 in
set_option maxHeartbeats 4000000 in
theorem iWu_ok (vG vL : Value) (p : Int) (G : List Int) (L : List Int) (h : Heap) (rG : R1 h vG G) (rL : R1 h vL L) (hD : G.length ≤ 8) (hL : L.length = G.length) : CallA Try.prog 59 #[.int .i64 p, vG, vL] h fun v' h' => v' = .agg (dgA (wuS p (G.length : Int) G L G.length)) ∧ Ext h h' := by
 have hleG := RdS.le rG
 have hleL := RdS.le rL
 refine callA_intro TTok (args := [_, _, _]) Try.func59 (by kernel_rfl) rfl 48 rfl (by simp) [.cell 6 34] rfl ?_
 simp only [idxs, Nat.reduceAdd]
 refine den_seq ?_
 refine den_region TTok ?_
 intro K hK
 simp -implicitDefEqProofs (disch := first | decide | assumption | omega) only [go_sem]
 refine op_alloc (cs := dgA dgZ) (by kernel_rfl) ?_
 intro h0_0 e0_0 hb0_0 z0_0
 have := Ext.size e0_0
 have eB := e0_0
 have hfhb0_0 : Fresh h.size [h.size] := Fresh.one _
 have hlhb0_0 := one_lt (show h.size < h0_0.size by omega)
 try simp -implicitDefEqProofs (disch := first | decide | assumption | omega) only [go_sem]
 refine hK _ _ ?_
 clear hK K
 refine den_seq ?_
 refine den_region TTok ?_
 intro K hK
 simp -implicitDefEqProofs (disch := first | decide | assumption | omega) only [go_sem]
 refine CallA.pure (size1_ok _ _ _ (RdS.pres rG (Ext.pres eB))) ?_
 try simp -implicitDefEqProofs (disch := first | decide | assumption | omega) only [go_sem, build_dgN]
 refine op_alloc (cs := dgA dgZ) (by kernel_rfl) ?_
 intro h1_4 e1_4 hb1_4 z1_4
 replace hb0_0 := BoxAt.ext hb0_0 e1_4
 have := Ext.size e1_4
 replace eB := Ext.trans eB e1_4
 have hfhb1_4 : Fresh h0_0.size [h0_0.size] := Fresh.one _
 have hlhb1_4 := one_lt (show h0_0.size < h1_4.size by omega)
 try simp -implicitDefEqProofs (disch := first | decide | assumption | omega) only [go_sem]
 generalize hDA1_5 : dgA (dgN p ((G).length : Int)) = DA1_5
 refine op_storeB (o := 0) (vs := DA1_5) (cs' := DA1_5) st34 hb1_4 rfl rfl (by rw [← hDA1_5]; exact dgA_sz _) (by rw [dgA_sz]; decide) (by rw [← hDA1_5]; exact dgA_one) (by rw [← hDA1_5]; exact dgA_all) ?_
 intro h1_5 hb1_4 c1_5
 subst hDA1_5
 replace hb0_0 := BoxAt.chgA hb0_0 c1_5 (apart_lt hlhb0_0 hfhb1_4 (by omega))
 have := c1_5.size
 replace eB := Ext.then eB c1_5 (ge_of hfhb1_4 (by omega))
 try simp -implicitDefEqProofs (disch := first | decide | assumption | omega) only [go_sem]
 refine hK _ _ ?_
 clear hK K
 refine den_seq ?_
 refine den_seq ?_
 refine den_region TTok ?_
 intro K hK
 simp -implicitDefEqProofs (disch := first | decide | assumption | omega) only [go_sem, RdS.len rG sl55]
 refine hK _ _ ?_
 clear hK K
 refine den_block ?_
 have hQ0 : dgN p ((G).length : Int) = wuS p (G.length : Int) G L 0 := by
  subst_vars
  rw [wu_start]
 refine den_sel [16, 2, 6, 7, 14, 15] ?_
 intro env_1
 simp only [go_sem]
 refine den_loopS (σ := Nat) (fun st_ => [(16, .int .i64 (st_ : Int))]) (fun st_ H => (st_ ≤ G.length) ∧ (BoxAt H (h0_0.size) (dgA (wuS p (G.length : Int) G L st_)) 34) ∧ (Chg [h0_0.size] h1_5 H)) (fun st_ => G.length - st_) 0 ?_ ?_
 ·exact ⟨by first | (simp; done) | (dsimp only; omega) | (simp; omega), by rw [← hQ0]; exact hb1_4, Chg.refl _ _⟩
 ·rintro i h4 ee3 ⟨hi0, hbx7, cL2⟩
  replace hb0_0 := BoxAt.chgA hb0_0 cL2 (apart_lt hlhb0_0 hfhb1_4 (by omega))
  have := cL2.size
  replace eB := Ext.then eB cL2 (ge_of hfhb1_4 (by omega))
  have hfhbx7 := hfhb1_4
  have hlhbx7 := hlhb1_4
  simp only [List.cons_append, List.nil_append]
  refine den_seq ?_
  refine den_region TTok ?_
  intro K hK
  simp -implicitDefEqProofs (disch := first | decide | assumption | omega) only [go_sem]
  refine hK _ _ ?_
  clear hK K
  refine den_seq ?_
  refine den_cond rfl (fun c0 => ?_) (fun c0 => ?_)
  ·try simp only [decide_eq_true_eq] at c0
   refine den_skip ?_
   refine den_seq ?_
   refine den_block ?_
   refine den_seq ?_
   refine den_region TTok ?_
   intro K hK
   simp -implicitDefEqProofs (disch := first | decide | assumption | omega) only [go_sem, ld2, RdS.idx rG sl55, R1.intB rG (Ext.pres eB)]
   refine hK _ _ ?_
   clear hK K
   refine den_seq ?_
   refine den_drawT TTok mixed [9, 12] [(0, true), (1, true), (2, true), (3, true), (4, true), (5, true), (7, true), (8, true), (10, true)] (.fork 6 [(9, false), (11, true), (12, false)] .fin 9 [(6, true), (11, true), (12, false)] .fin) (by kernel_rfl) ?_
   intro K hK
   simp -implicitDefEqProofs (disch := first | decide | assumption | omega) only [go_sem, fa34_2, fa34_3, ia22, RdS.idx rL sl55, Nat.zero_add]
   refine And.intro ?_ ?_
   ·simp -implicitDefEqProofs (disch := first | decide | assumption | omega) only [go_sem, ld2, R1.intB rL (Ext.pres eB)]
    refine op_storeB (o := 2 + i) (vs := #[.int .i64 ((G).getD i 0)]) (cs' := dgA ({ wuS p (G.length : Int) G L i with deg := (upd ((wuS p (G.length : Int) G L i).deg) i ((G).getD i 0)) })) st2 hbx7 rfl rfl rfl (by rw [dgA_sz]; omega) i64_one (dg_degI (X := wuS p (G.length : Int) G L i) (by omega)) ?_
    intro h5_9 hbx7 c5_9
    obtain ⟨DS5_9, hDS5_9⟩ : ∃ D : Dg, D = ({ wuS p (G.length : Int) G L i with deg := (upd ((wuS p (G.length : Int) G L i).deg) i ((G).getD i 0)) }) := ⟨_, rfl⟩
    rw [← hDS5_9] at hbx7
    replace hb0_0 := BoxAt.chgA hb0_0 c5_9 (apart_lt hlhb0_0 hfhbx7 (by omega))
    have := c5_9.size
    replace eB := Ext.then eB c5_9 (ge_of hfhbx7 (by omega))
    replace cL2 := Chg.step cL2 c5_9 Sub.refl
    try simp (disch := decide) only [outv_none]
    refine plK_last (by decide) ?_
    try simp -implicitDefEqProofs (disch := first | decide | assumption | omega) only [go_sem, ia22]
    refine op_storeB (o := 10 + i) (vs := #[.int .i64 ((L).getD i 0)]) (cs' := dgA ({ DS5_9 with lev := (upd DS5_9.lev i ((L).getD i 0)) })) st2 hbx7 rfl rfl rfl (by rw [dgA_sz]; omega) i64_one (dg_levI (X := DS5_9) (by omega)) ?_
    intro h5_12 hbx7 c5_12
    obtain ⟨DS5_12, hDS5_12⟩ : ∃ D : Dg, D = ({ DS5_9 with lev := (upd DS5_9.lev i ((L).getD i 0)) }) := ⟨_, rfl⟩
    rw [← hDS5_12] at hbx7
    replace hb0_0 := BoxAt.chgA hb0_0 c5_12 (apart_lt hlhb0_0 hfhbx7 (by omega))
    have := c5_12.size
    replace eB := Ext.then eB c5_12 (ge_of hfhbx7 (by omega))
    replace cL2 := Chg.step cL2 c5_12 Sub.refl
    try simp (disch := decide) only [outv_none]
    refine plK_last (by decide) ?_
    try simp -implicitDefEqProofs (disch := first | decide | assumption | omega) only [go_sem]
    refine hK _ _ ?_
    clear hK K
    refine den_draw TTok mixed [11, 15] [(0, true), (1, true), (2, true), (3, true), (5, true), (6, true), (8, true), (9, true), (12, true), (13, true), (4, false), (10, true), (7, false), (11, false), (14, true), (15, false)] (by kernel_rfl) ?_
    intro K hK
    simp -implicitDefEqProofs (disch := first | decide | assumption | omega) only [go_sem, Int.toNat_zero, fa34_5, ia32, BoxAt.dgL hbx7, Nat.zero_add, Int.toNat_zero]
    refine CallA.mono (iBas_ok  DS5_12 (i : Int) _  (by omega)) ?_
    intro v_ h6_4
    rintro ⟨rfl, e6_4⟩
    replace hb0_0 := BoxAt.ext hb0_0 e6_4
    replace hbx7 := BoxAt.ext hbx7 e6_4
    have := Ext.size e6_4
    replace eB := Ext.trans eB e6_4
    replace cL2 := Chg.stepE cL2 e6_4
    refine plK_pres (Ext.pres e6_4) ?_
    try simp -implicitDefEqProofs (disch := first | decide | assumption | omega) only [go_sem, ia31]
    refine CallA.mono (iBas_ok  DS5_12 (i : Int) _  (by omega)) ?_
    intro v_ h6_7
    rintro ⟨rfl, e6_7⟩
    replace hb0_0 := BoxAt.ext hb0_0 e6_7
    replace hbx7 := BoxAt.ext hbx7 e6_7
    have := Ext.size e6_7
    replace eB := Ext.trans eB e6_7
    replace cL2 := Chg.stepE cL2 e6_7
    refine plK_pres (Ext.pres e6_7) ?_
    try simp -implicitDefEqProofs (disch := first | decide | assumption | omega) only [go_sem]
    generalize hEA6_11 : elA (e8 i) = EA6_11
    refine op_storeB (o := 82 + 0 * 64 + i * 8) (vs := EA6_11) (cs' := dgA ({ DS5_12 with tab := (updF DS5_12.tab 0 (updF (DS5_12.tab 0) i (e8 i))) })) st30 hbx7 rfl rfl (by rw [← hEA6_11]; exact elA_sz _) (by rw [dgA_sz]; omega) (by rw [← hEA6_11]; exact elA_one) (by rw [← hEA6_11]; exact dg_tabI (X := DS5_12) (by omega) (by omega)) ?_
    intro h6_11 hbx7 c6_11
    subst hEA6_11
    obtain ⟨DS6_11, hDS6_11⟩ : ∃ D : Dg, D = ({ DS5_12 with tab := (updF DS5_12.tab 0 (updF (DS5_12.tab 0) i (e8 i))) }) := ⟨_, rfl⟩
    rw [← hDS6_11] at hbx7
    replace hb0_0 := BoxAt.chgA hb0_0 c6_11 (apart_lt hlhb0_0 hfhbx7 (by omega))
    have := c6_11.size
    replace eB := Ext.then eB c6_11 (ge_of hfhbx7 (by omega))
    replace cL2 := Chg.step cL2 c6_11 Sub.refl
    try simp (disch := decide) only [outv_none]
    refine plK_last (by decide) ?_
    try simp -implicitDefEqProofs (disch := first | decide | assumption | omega) only [go_sem, Int.toNat_zero, ia31, Int.toNat_zero]
    generalize hEA6_15 : elA (e8 i) = EA6_15
    refine op_storeB (o := 82 + i * 64 + 0 * 8) (vs := EA6_15) (cs' := dgA ({ DS6_11 with tab := (updF DS6_11.tab i (updF (DS6_11.tab i) 0 (e8 i))) })) st30 hbx7 rfl rfl (by rw [← hEA6_15]; exact elA_sz _) (by rw [dgA_sz]; omega) (by rw [← hEA6_15]; exact elA_one) (by rw [← hEA6_15]; exact dg_tabI (X := DS6_11) (by omega) (by omega)) ?_
    intro h6_15 hbx7 c6_15
    subst hEA6_15
    obtain ⟨DS6_15, hDS6_15⟩ : ∃ D : Dg, D = ({ DS6_11 with tab := (updF DS6_11.tab i (updF (DS6_11.tab i) 0 (e8 i))) }) := ⟨_, rfl⟩
    rw [← hDS6_15] at hbx7
    replace hb0_0 := BoxAt.chgA hb0_0 c6_15 (apart_lt hlhb0_0 hfhbx7 (by omega))
    have := c6_15.size
    replace eB := Ext.then eB c6_15 (ge_of hfhbx7 (by omega))
    replace cL2 := Chg.step cL2 c6_15 Sub.refl
    try simp (disch := decide) only [outv_none]
    refine plK_last (by decide) ?_
    try simp -implicitDefEqProofs (disch := first | decide | assumption | omega) only [go_sem]
    refine hK _ _ ?_
    clear hK K
    refine den_blk ?_
    refine den_region TTok ?_
    intro K hK
    simp -implicitDefEqProofs (disch := first | decide | assumption | omega) only [go_sem, wrap_id]
    refine hK _ _ ?_
    clear hK K
    refine den_stop ?_
    have hQ1 : DS6_15 = wuS p (G.length : Int) G L (i + 1) := by
     rw [← wu_step]
     subst_vars
     rfl
    rw [hQ1] at hbx7
    exact ⟨i + 1, by simp [HasL, puts_at], ⟨by first | omega | (dsimp only; omega), hbx7, cL2⟩, by first | omega | (dsimp only; omega)⟩
   ·simp -implicitDefEqProofs (disch := first | decide | assumption | omega) only [go_sem]
    refine op_storeB (o := 2 + i) (vs := #[.int .i64 ((G).getD i 0)]) (cs' := dgA ({ wuS p (G.length : Int) G L i with deg := (upd ((wuS p (G.length : Int) G L i).deg) i ((G).getD i 0)) })) st2 hbx7 rfl rfl rfl (by rw [dgA_sz]; omega) i64_one (dg_degI (X := wuS p (G.length : Int) G L i) (by omega)) ?_
    intro h5_9 hbx7 c5_9
    obtain ⟨DS5_9, hDS5_9⟩ : ∃ D : Dg, D = ({ wuS p (G.length : Int) G L i with deg := (upd ((wuS p (G.length : Int) G L i).deg) i ((G).getD i 0)) }) := ⟨_, rfl⟩
    rw [← hDS5_9] at hbx7
    replace hb0_0 := BoxAt.chgA hb0_0 c5_9 (apart_lt hlhb0_0 hfhbx7 (by omega))
    have := c5_9.size
    replace eB := Ext.then eB c5_9 (ge_of hfhbx7 (by omega))
    replace cL2 := Chg.step cL2 c5_9 Sub.refl
    try simp (disch := decide) only [outv_none]
    refine plK_last (by decide) ?_
    try simp -implicitDefEqProofs (disch := first | decide | assumption | omega) only [go_sem, ia22, ld2, R1.intB rL (Ext.pres eB)]
    refine op_storeB (o := 10 + i) (vs := #[.int .i64 ((L).getD i 0)]) (cs' := dgA ({ DS5_9 with lev := (upd DS5_9.lev i ((L).getD i 0)) })) st2 hbx7 rfl rfl rfl (by rw [dgA_sz]; omega) i64_one (dg_levI (X := DS5_9) (by omega)) ?_
    intro h5_12 hbx7 c5_12
    obtain ⟨DS5_12, hDS5_12⟩ : ∃ D : Dg, D = ({ DS5_9 with lev := (upd DS5_9.lev i ((L).getD i 0)) }) := ⟨_, rfl⟩
    rw [← hDS5_12] at hbx7
    replace hb0_0 := BoxAt.chgA hb0_0 c5_12 (apart_lt hlhb0_0 hfhbx7 (by omega))
    have := c5_12.size
    replace eB := Ext.then eB c5_12 (ge_of hfhbx7 (by omega))
    replace cL2 := Chg.step cL2 c5_12 Sub.refl
    try simp (disch := decide) only [outv_none]
    refine plK_last (by decide) ?_
    try simp -implicitDefEqProofs (disch := first | decide | assumption | omega) only [go_sem]
    refine hK _ _ ?_
    clear hK K
    refine den_draw TTok mixed [11, 15] [(0, true), (1, true), (2, true), (3, true), (5, true), (6, true), (8, true), (9, true), (12, true), (13, true), (4, false), (10, true), (7, false), (11, false), (14, true), (15, false)] (by kernel_rfl) ?_
    intro K hK
    simp -implicitDefEqProofs (disch := first | decide | assumption | omega) only [go_sem, Int.toNat_zero, fa34_5, ia32, BoxAt.dgL hbx7, Nat.zero_add, Int.toNat_zero]
    refine CallA.mono (iBas_ok  DS5_12 (i : Int) _  (by omega)) ?_
    intro v_ h6_4
    rintro ⟨rfl, e6_4⟩
    replace hb0_0 := BoxAt.ext hb0_0 e6_4
    replace hbx7 := BoxAt.ext hbx7 e6_4
    have := Ext.size e6_4
    replace eB := Ext.trans eB e6_4
    replace cL2 := Chg.stepE cL2 e6_4
    refine plK_pres (Ext.pres e6_4) ?_
    try simp -implicitDefEqProofs (disch := first | decide | assumption | omega) only [go_sem, ia31]
    refine CallA.mono (iBas_ok  DS5_12 (i : Int) _  (by omega)) ?_
    intro v_ h6_7
    rintro ⟨rfl, e6_7⟩
    replace hb0_0 := BoxAt.ext hb0_0 e6_7
    replace hbx7 := BoxAt.ext hbx7 e6_7
    have := Ext.size e6_7
    replace eB := Ext.trans eB e6_7
    replace cL2 := Chg.stepE cL2 e6_7
    refine plK_pres (Ext.pres e6_7) ?_
    try simp -implicitDefEqProofs (disch := first | decide | assumption | omega) only [go_sem]
    generalize hEA6_11 : elA (e8 i) = EA6_11
    refine op_storeB (o := 82 + 0 * 64 + i * 8) (vs := EA6_11) (cs' := dgA ({ DS5_12 with tab := (updF DS5_12.tab 0 (updF (DS5_12.tab 0) i (e8 i))) })) st30 hbx7 rfl rfl (by rw [← hEA6_11]; exact elA_sz _) (by rw [dgA_sz]; omega) (by rw [← hEA6_11]; exact elA_one) (by rw [← hEA6_11]; exact dg_tabI (X := DS5_12) (by omega) (by omega)) ?_
    intro h6_11 hbx7 c6_11
    subst hEA6_11
    obtain ⟨DS6_11, hDS6_11⟩ : ∃ D : Dg, D = ({ DS5_12 with tab := (updF DS5_12.tab 0 (updF (DS5_12.tab 0) i (e8 i))) }) := ⟨_, rfl⟩
    rw [← hDS6_11] at hbx7
    replace hb0_0 := BoxAt.chgA hb0_0 c6_11 (apart_lt hlhb0_0 hfhbx7 (by omega))
    have := c6_11.size
    replace eB := Ext.then eB c6_11 (ge_of hfhbx7 (by omega))
    replace cL2 := Chg.step cL2 c6_11 Sub.refl
    try simp (disch := decide) only [outv_none]
    refine plK_last (by decide) ?_
    try simp -implicitDefEqProofs (disch := first | decide | assumption | omega) only [go_sem, Int.toNat_zero, ia31, Int.toNat_zero]
    generalize hEA6_15 : elA (e8 i) = EA6_15
    refine op_storeB (o := 82 + i * 64 + 0 * 8) (vs := EA6_15) (cs' := dgA ({ DS6_11 with tab := (updF DS6_11.tab i (updF (DS6_11.tab i) 0 (e8 i))) })) st30 hbx7 rfl rfl (by rw [← hEA6_15]; exact elA_sz _) (by rw [dgA_sz]; omega) (by rw [← hEA6_15]; exact elA_one) (by rw [← hEA6_15]; exact dg_tabI (X := DS6_11) (by omega) (by omega)) ?_
    intro h6_15 hbx7 c6_15
    subst hEA6_15
    obtain ⟨DS6_15, hDS6_15⟩ : ∃ D : Dg, D = ({ DS6_11 with tab := (updF DS6_11.tab i (updF (DS6_11.tab i) 0 (e8 i))) }) := ⟨_, rfl⟩
    rw [← hDS6_15] at hbx7
    replace hb0_0 := BoxAt.chgA hb0_0 c6_15 (apart_lt hlhb0_0 hfhbx7 (by omega))
    have := c6_15.size
    replace eB := Ext.then eB c6_15 (ge_of hfhbx7 (by omega))
    replace cL2 := Chg.step cL2 c6_15 Sub.refl
    try simp (disch := decide) only [outv_none]
    refine plK_last (by decide) ?_
    try simp -implicitDefEqProofs (disch := first | decide | assumption | omega) only [go_sem]
    refine hK _ _ ?_
    clear hK K
    refine den_blk ?_
    refine den_region TTok ?_
    intro K hK
    simp -implicitDefEqProofs (disch := first | decide | assumption | omega) only [go_sem, wrap_id]
    refine hK _ _ ?_
    clear hK K
    refine den_stop ?_
    have hQ1 : DS6_15 = wuS p (G.length : Int) G L (i + 1) := by
     rw [← wu_step]
     subst_vars
     rfl
    rw [hQ1] at hbx7
    exact ⟨i + 1, by simp [HasL, puts_at], ⟨by first | omega | (dsimp only; omega), hbx7, cL2⟩, by first | omega | (dsimp only; omega)⟩
  ·try simp only [decide_eq_false_iff_not] at c0
   refine den_exit ?_
   refine denX_code ?_
   refine denX_stop ?_
   refine denX_hit ?_
   refine den_seq ?_
   refine den_region TTok ?_
   intro K hK
   simp -implicitDefEqProofs (disch := first | decide | assumption | omega) only [go_sem, BoxAt.dgL hbx7]
   generalize hDA8_1 : dgA (wuS p (G.length : Int) G L i) = DA8_1
   refine op_storeB (o := 0) (vs := DA8_1) (cs' := DA8_1) st34 hb0_0 rfl rfl (by rw [← hDA8_1]; exact dgA_sz _) (by rw [dgA_sz]; decide) (by rw [← hDA8_1]; exact dgA_one) (by rw [← hDA8_1]; exact dgA_all) ?_
   intro h8_1 hb0_0 c8_1
   subst hDA8_1
   replace hbx7 := BoxAt.chgA hbx7 c8_1 (apart_gt hfhbx7 hlhb0_0 (by omega))
   have := c8_1.size
   replace eB := Ext.then eB c8_1 (ge_of hfhb0_0 (by omega))
   try simp -implicitDefEqProofs (disch := first | decide | assumption | omega) only [go_sem]
   refine hK _ _ ?_
   clear hK K
   refine den_ret ?_
   simp -implicitDefEqProofs (disch := first | decide | assumption | omega) only [go_sem, BoxAt.dgL hb0_0, resP_c1]
   have hiD : i = G.length := by omega
   subst hiD
   exact ⟨by first | rfl | trivial, eB⟩

set_option maxRecDepth 100000 in
set_option maxHeartbeats 4000000 in
theorem iNd_ok (name : List UInt8) (p : Int) (h : Heap)   : CallA Try.prog 21 #[sV name, .int .i64 p] h fun v' h' => v' = .tuple #[.agg (dgA ((ndP name p).1)), .int .i64 ((ndP name p).2)] ∧ Ext h h' := by
 refine callA_intro TTok (args := [_, _]) Try.func21 (by kernel_rfl) rfl 67 rfl (by simp) [.cell 4 34, .tmp 5] rfl ?_
 simp only [idxs, Nat.reduceAdd]
 refine den_seq ?_
 refine den_region TTok ?_
 intro K hK
 simp -implicitDefEqProofs (disch := first | decide | assumption | omega) only [go_sem]
 refine op_alloc (cs := dgA dgZ) (by kernel_rfl) ?_
 intro h0_0 e0_0 hb0_0 z0_0
 have := Ext.size e0_0
 have eB := e0_0
 have hfhb0_0 : Fresh h.size [h.size] := Fresh.one _
 have hlhb0_0 := one_lt (show h.size < h0_0.size by omega)
 try simp -implicitDefEqProofs (disch := first | decide | assumption | omega) only [go_sem]
 refine hK _ _ ?_
 clear hK K
 refine den_seq ?_
 refine den_seq ?_
 refine den_region TTok ?_
 intro K hK
 simp -implicitDefEqProofs (disch := first | decide | assumption | omega) only [go_sem]
 refine CallA.pure (iPrime_ok _ _) ?_
 try simp -implicitDefEqProofs (disch := first | decide | assumption | omega) only [go_sem]
 refine hK _ _ ?_
 clear hK K
 refine den_cond rfl (fun c0 => ?_) (fun c0 => ?_)
 ·try simp only [Bool.not_eq_true'] at c0
  refine den_seq ?_
  refine den_region TTok ?_
  intro K hK
  simp -implicitDefEqProofs (disch := first | decide | assumption | omega) only [go_sem, build_dg0]
  refine op_storeB (o := 0) (vs := dgA dgZ) (cs' := dgA dgZ) st34 hb0_0 rfl rfl (dgA_sz _) (by rw [dgA_sz]; decide) dgA_one dgA_all ?_
  intro h2_1 hb0_0 c2_1
  have := c2_1.size
  replace eB := Ext.then eB c2_1 (ge_of hfhb0_0 (by omega))
  try simp -implicitDefEqProofs (disch := first | decide | assumption | omega) only [go_sem]
  refine hK _ _ ?_
  clear hK K
  refine den_ret ?_
  simp -implicitDefEqProofs (disch := first | decide | assumption | omega) only [go_sem, BoxAt.dgL hb0_0, resP_ct]
  rw [ndP_2 (by simpa using c0)]
  exact ⟨rfl, eB⟩
 ·try simp only [Bool.not_eq_false'] at c0
  have hpr : isP p = true := by simpa using c0
  have hp := isP_bnd hpr
  refine den_skip ?_
  refine den_seq ?_
  refine den_seq ?_
  refine den_region TTok ?_
  intro K hK
  simp -implicitDefEqProofs (disch := first | decide | assumption | omega) only [go_sem]
  refine hK _ _ ?_
  clear hK K
  refine den_block ?_
  refine den_seq ?_
  refine den_region TTok ?_
  intro K hK
  simp -implicitDefEqProofs (disch := first | decide | assumption | omega) only [go_sem, bin_seq, sV_p]
  refine hK _ _ ?_
  clear hK K
  refine den_cond rfl (fun c1 => ?_) (fun c1 => ?_)
  ·try simp only [beq_iff_eq] at c1
   refine den_seq ?_
   refine den_region TTok ?_
   intro K hK
   simp -implicitDefEqProofs (disch := first | decide | assumption | omega) only [go_sem]
   refine op_bsI1 (a0 := (0 : Int)) rfl ?_
   intro v5_1 h5_1 ho5_1 e5_1
   replace hb0_0 := BoxAt.ext hb0_0 e5_1
   have := Ext.size e5_1
   replace eB := Ext.trans eB e5_1
   have hfho5_1 : Fresh h0_0.size [h0_0.size] := Fresh.one _
   have hlho5_1 := OS.lt ho5_1
   try simp -implicitDefEqProofs (disch := first | decide | assumption | omega) only [go_sem]
   refine op_bsI1 (a0 := (0 : Int)) rfl ?_
   intro v5_2 h5_2 ho5_2 e5_2
   replace ho5_1 := OS.ext ho5_1 e5_2
   replace hb0_0 := BoxAt.ext hb0_0 e5_2
   have := Ext.size e5_2
   replace eB := Ext.trans eB e5_2
   have hfho5_2 : Fresh h5_1.size [h5_1.size] := Fresh.one _
   have hlho5_2 := OS.lt ho5_2
   try simp -implicitDefEqProofs (disch := first | decide | assumption | omega) only [go_sem]
   refine CallA.mono (iWu_ok _ _ p ([(0 : Int)]) ([(0 : Int)]) _ (OS.rd ho5_1) (OS.rd ho5_2) (by decide) rfl) ?_
   intro v_ h5_3
   rintro ⟨rfl, e5_3⟩
   replace ho5_1 := OS.ext ho5_1 e5_3
   replace ho5_2 := OS.ext ho5_2 e5_3
   replace hb0_0 := BoxAt.ext hb0_0 e5_3
   have := Ext.size e5_3
   replace eB := Ext.trans eB e5_3
   generalize hDA5_4 : dgA (wuS p (([(0 : Int)]).length : Int) ([(0 : Int)]) ([(0 : Int)]) ([(0 : Int)]).length) = DA5_4
   refine op_storeB (o := 0) (vs := DA5_4) (cs' := DA5_4) st34 hb0_0 rfl rfl (by rw [← hDA5_4]; exact dgA_sz _) (by rw [dgA_sz]; decide) (by rw [← hDA5_4]; exact dgA_one) (by rw [← hDA5_4]; exact dgA_all) ?_
   intro h5_4 hb0_0 c5_4
   subst hDA5_4
   replace ho5_1 := OS.chg ho5_1 c5_4 (apart_gt hfho5_1 hlhb0_0 (by omega))
   replace ho5_2 := OS.chg ho5_2 c5_4 (apart_gt hfho5_2 hlhb0_0 (by omega))
   have := c5_4.size
   replace eB := Ext.then eB c5_4 (ge_of hfhb0_0 (by omega))
   try simp -implicitDefEqProofs (disch := first | decide | assumption | omega) only [go_sem]
   refine hK _ _ ?_
   clear hK K
   refine den_ret ?_
   simp -implicitDefEqProofs (disch := first | decide | assumption | omega) only [go_sem, BoxAt.dgL hb0_0, resP_ct]
   have hE : wuS p (([(0 : Int)]).length : Int) ([(0 : Int)]) ([(0 : Int)]) ([(0 : Int)]).length = nmL name p := by
    rw [nmL, if_pos c1]
    subst_vars
    exact wu_0 _
   rw [ndP_0 hpr (by rw [nmB, if_pos c1])]
   dsimp only
   rw [← hE]
   exact ⟨rfl, eB⟩
  ·try simp only [beq_eq_false_iff_ne, ne_eq] at c1
   refine den_seq ?_
   refine den_region TTok ?_
   intro K hK
   simp -implicitDefEqProofs (disch := first | decide | assumption | omega) only [go_sem, bin_seq, sV_c]
   refine hK _ _ ?_
   clear hK K
   refine den_cond rfl (fun c2 => ?_) (fun c2 => ?_)
   ·try simp only [beq_iff_eq] at c2
    refine den_seq ?_
    refine den_region TTok ?_
    intro K hK
    simp -implicitDefEqProofs (disch := first | decide | assumption | omega) only [go_sem]
    refine op_bsI2 (a0 := (0 : Int)) (a1 := (1 : Int)) rfl rfl ?_
    intro v7_1 h7_1 ho7_1 e7_1
    replace hb0_0 := BoxAt.ext hb0_0 e7_1
    have := Ext.size e7_1
    replace eB := Ext.trans eB e7_1
    have hfho7_1 : Fresh h0_0.size [h0_0.size] := Fresh.one _
    have hlho7_1 := OS.lt ho7_1
    try simp -implicitDefEqProofs (disch := first | decide | assumption | omega) only [go_sem]
    refine op_bsI2 (a0 := (0 : Int)) (a1 := (1 : Int)) rfl rfl ?_
    intro v7_2 h7_2 ho7_2 e7_2
    replace ho7_1 := OS.ext ho7_1 e7_2
    replace hb0_0 := BoxAt.ext hb0_0 e7_2
    have := Ext.size e7_2
    replace eB := Ext.trans eB e7_2
    have hfho7_2 : Fresh h7_1.size [h7_1.size] := Fresh.one _
    have hlho7_2 := OS.lt ho7_2
    try simp -implicitDefEqProofs (disch := first | decide | assumption | omega) only [go_sem]
    refine CallA.mono (iWu_ok _ _ p ([(0 : Int), (1 : Int)]) ([(0 : Int), (1 : Int)]) _ (OS.rd ho7_1) (OS.rd ho7_2) (by decide) rfl) ?_
    intro v_ h7_3
    rintro ⟨rfl, e7_3⟩
    replace ho7_1 := OS.ext ho7_1 e7_3
    replace ho7_2 := OS.ext ho7_2 e7_3
    replace hb0_0 := BoxAt.ext hb0_0 e7_3
    have := Ext.size e7_3
    replace eB := Ext.trans eB e7_3
    generalize hDA7_4 : dgA (wuS p (([(0 : Int), (1 : Int)]).length : Int) ([(0 : Int), (1 : Int)]) ([(0 : Int), (1 : Int)]) ([(0 : Int), (1 : Int)]).length) = DA7_4
    refine op_storeB (o := 0) (vs := DA7_4) (cs' := DA7_4) st34 hb0_0 rfl rfl (by rw [← hDA7_4]; exact dgA_sz _) (by rw [dgA_sz]; decide) (by rw [← hDA7_4]; exact dgA_one) (by rw [← hDA7_4]; exact dgA_all) ?_
    intro h7_4 hb0_0 c7_4
    subst hDA7_4
    replace ho7_1 := OS.chg ho7_1 c7_4 (apart_gt hfho7_1 hlhb0_0 (by omega))
    replace ho7_2 := OS.chg ho7_2 c7_4 (apart_gt hfho7_2 hlhb0_0 (by omega))
    have := c7_4.size
    replace eB := Ext.then eB c7_4 (ge_of hfhb0_0 (by omega))
    try simp -implicitDefEqProofs (disch := first | decide | assumption | omega) only [go_sem]
    refine hK _ _ ?_
    clear hK K
    refine den_ret ?_
    simp -implicitDefEqProofs (disch := first | decide | assumption | omega) only [go_sem, BoxAt.dgL hb0_0, resP_ct]
    have hE : wuS p (([(0 : Int), (1 : Int)]).length : Int) ([(0 : Int), (1 : Int)]) ([(0 : Int), (1 : Int)]) ([(0 : Int), (1 : Int)]).length = nmL name p := by
     rw [nmL, if_neg c1, if_pos c2]
     subst_vars
     exact wu_1 _
    rw [ndP_0 hpr (by rw [nmB, if_neg c1, if_pos c2])]
    dsimp only
    rw [← hE]
    exact ⟨rfl, eB⟩
   ·try simp only [beq_eq_false_iff_ne, ne_eq] at c2
    refine den_seq ?_
    refine den_region TTok ?_
    intro K hK
    simp -implicitDefEqProofs (disch := first | decide | assumption | omega) only [go_sem, bin_seq, sV_t]
    refine hK _ _ ?_
    clear hK K
    refine den_cond rfl (fun c3 => ?_) (fun c3 => ?_)
    ·try simp only [beq_iff_eq] at c3
     refine den_seq ?_
     refine den_region TTok ?_
     intro K hK
     simp -implicitDefEqProofs (disch := first | decide | assumption | omega) only [go_sem]
     refine op_bsI4 (a0 := (0 : Int)) (a1 := (1 : Int)) (a2 := (1 : Int)) (a3 := (2 : Int)) rfl rfl rfl rfl ?_
     intro v9_1 h9_1 ho9_1 e9_1
     replace hb0_0 := BoxAt.ext hb0_0 e9_1
     have := Ext.size e9_1
     replace eB := Ext.trans eB e9_1
     have hfho9_1 : Fresh h0_0.size [h0_0.size] := Fresh.one _
     have hlho9_1 := OS.lt ho9_1
     try simp -implicitDefEqProofs (disch := first | decide | assumption | omega) only [go_sem]
     refine op_bsI4 (a0 := (0 : Int)) (a1 := (1 : Int)) (a2 := (1 : Int)) (a3 := (2 : Int)) rfl rfl rfl rfl ?_
     intro v9_2 h9_2 ho9_2 e9_2
     replace ho9_1 := OS.ext ho9_1 e9_2
     replace hb0_0 := BoxAt.ext hb0_0 e9_2
     have := Ext.size e9_2
     replace eB := Ext.trans eB e9_2
     have hfho9_2 : Fresh h9_1.size [h9_1.size] := Fresh.one _
     have hlho9_2 := OS.lt ho9_2
     try simp -implicitDefEqProofs (disch := first | decide | assumption | omega) only [go_sem]
     refine CallA.mono (iWu_ok _ _ p ([(0 : Int), (1 : Int), (1 : Int), (2 : Int)]) ([(0 : Int), (1 : Int), (1 : Int), (2 : Int)]) _ (OS.rd ho9_1) (OS.rd ho9_2) (by decide) rfl) ?_
     intro v_ h9_3
     rintro ⟨rfl, e9_3⟩
     replace ho9_1 := OS.ext ho9_1 e9_3
     replace ho9_2 := OS.ext ho9_2 e9_3
     replace hb0_0 := BoxAt.ext hb0_0 e9_3
     have := Ext.size e9_3
     replace eB := Ext.trans eB e9_3
     refine op_alloc (cs := dgA dgZ) (by kernel_rfl) ?_
     intro h9_4 e9_4 hb9_4 z9_4
     replace ho9_1 := OS.ext ho9_1 e9_4
     replace ho9_2 := OS.ext ho9_2 e9_4
     replace hb0_0 := BoxAt.ext hb0_0 e9_4
     have := Ext.size e9_4
     replace eB := Ext.trans eB e9_4
     have hfhb9_4 : Fresh h9_3.size [h9_3.size] := Fresh.one _
     have hlhb9_4 := one_lt (show h9_3.size < h9_4.size by omega)
     try simp -implicitDefEqProofs (disch := first | decide | assumption | omega) only [go_sem]
     generalize hDA9_5 : dgA (wuS p (([(0 : Int), (1 : Int), (1 : Int), (2 : Int)]).length : Int) ([(0 : Int), (1 : Int), (1 : Int), (2 : Int)]) ([(0 : Int), (1 : Int), (1 : Int), (2 : Int)]) ([(0 : Int), (1 : Int), (1 : Int), (2 : Int)]).length) = DA9_5
     refine op_storeB (o := 0) (vs := DA9_5) (cs' := DA9_5) st34 hb9_4 rfl rfl (by rw [← hDA9_5]; exact dgA_sz _) (by rw [dgA_sz]; decide) (by rw [← hDA9_5]; exact dgA_one) (by rw [← hDA9_5]; exact dgA_all) ?_
     intro h9_5 hb9_4 c9_5
     subst hDA9_5
     replace ho9_1 := OS.chg ho9_1 c9_5 (apart_lt hlho9_1 hfhb9_4 (by omega))
     replace ho9_2 := OS.chg ho9_2 c9_5 (apart_lt hlho9_2 hfhb9_4 (by omega))
     replace hb0_0 := BoxAt.chgA hb0_0 c9_5 (apart_lt hlhb0_0 hfhb9_4 (by omega))
     have := c9_5.size
     replace eB := Ext.then eB c9_5 (ge_of hfhb9_4 (by omega))
     try simp -implicitDefEqProofs (disch := first | decide | assumption | omega) only [go_sem]
     refine hK _ _ ?_
     clear hK K
     refine den_seq ?_
     refine den_region TTok ?_
     intro K hK
     simp -implicitDefEqProofs (disch := first | decide | assumption | omega) only [go_sem, BoxAt.dgL hb9_4]
     refine CallA.mono (iBas_ok  (wuS p (([(0 : Int), (1 : Int), (1 : Int), (2 : Int)]).length : Int) ([(0 : Int), (1 : Int), (1 : Int), (2 : Int)]) ([(0 : Int), (1 : Int), (1 : Int), (2 : Int)]) ([(0 : Int), (1 : Int), (1 : Int), (2 : Int)]).length) (3 : Int) _  (by omega)) ?_
     intro v_ h10_1
     rintro ⟨rfl, e10_1⟩
     replace hb0_0 := BoxAt.ext hb0_0 e10_1
     replace hb9_4 := BoxAt.ext hb9_4 e10_1
     have := Ext.size e10_1
     replace eB := Ext.trans eB e10_1
     try simp -implicitDefEqProofs (disch := first | decide | assumption | omega) only [go_sem, fa34_5, ia32, ia31, Nat.zero_add, tn1, tn2, tn3]
     generalize hEA10_5 : elA (e8 3) = EA10_5
     refine op_storeB (o := 82 + 1 * 64 + 2 * 8) (vs := EA10_5) (cs' := dgA ({ wuS p (([(0 : Int), (1 : Int), (1 : Int), (2 : Int)]).length : Int) ([(0 : Int), (1 : Int), (1 : Int), (2 : Int)]) ([(0 : Int), (1 : Int), (1 : Int), (2 : Int)]) ([(0 : Int), (1 : Int), (1 : Int), (2 : Int)]).length with tab := (updF ((wuS p (([(0 : Int), (1 : Int), (1 : Int), (2 : Int)]).length : Int) ([(0 : Int), (1 : Int), (1 : Int), (2 : Int)]) ([(0 : Int), (1 : Int), (1 : Int), (2 : Int)]) ([(0 : Int), (1 : Int), (1 : Int), (2 : Int)]).length).tab) 1 (updF ((wuS p (([(0 : Int), (1 : Int), (1 : Int), (2 : Int)]).length : Int) ([(0 : Int), (1 : Int), (1 : Int), (2 : Int)]) ([(0 : Int), (1 : Int), (1 : Int), (2 : Int)]) ([(0 : Int), (1 : Int), (1 : Int), (2 : Int)]).length).tab 1) 2 (e8 3))) })) st30 hb9_4 rfl rfl (by rw [← hEA10_5]; exact elA_sz _) (by rw [dgA_sz]; omega) (by rw [← hEA10_5]; exact elA_one) (by rw [← hEA10_5]; exact dg_tabI (X := wuS p (([(0 : Int), (1 : Int), (1 : Int), (2 : Int)]).length : Int) ([(0 : Int), (1 : Int), (1 : Int), (2 : Int)]) ([(0 : Int), (1 : Int), (1 : Int), (2 : Int)]) ([(0 : Int), (1 : Int), (1 : Int), (2 : Int)]).length) (by omega) (by omega)) ?_
     intro h10_5 hb9_4 c10_5
     subst hEA10_5
     obtain ⟨DS10_5, hDS10_5⟩ : ∃ D : Dg, D = ({ wuS p (([(0 : Int), (1 : Int), (1 : Int), (2 : Int)]).length : Int) ([(0 : Int), (1 : Int), (1 : Int), (2 : Int)]) ([(0 : Int), (1 : Int), (1 : Int), (2 : Int)]) ([(0 : Int), (1 : Int), (1 : Int), (2 : Int)]).length with tab := (updF ((wuS p (([(0 : Int), (1 : Int), (1 : Int), (2 : Int)]).length : Int) ([(0 : Int), (1 : Int), (1 : Int), (2 : Int)]) ([(0 : Int), (1 : Int), (1 : Int), (2 : Int)]) ([(0 : Int), (1 : Int), (1 : Int), (2 : Int)]).length).tab) 1 (updF ((wuS p (([(0 : Int), (1 : Int), (1 : Int), (2 : Int)]).length : Int) ([(0 : Int), (1 : Int), (1 : Int), (2 : Int)]) ([(0 : Int), (1 : Int), (1 : Int), (2 : Int)]) ([(0 : Int), (1 : Int), (1 : Int), (2 : Int)]).length).tab 1) 2 (e8 3))) }) := ⟨_, rfl⟩
     rw [← hDS10_5] at hb9_4
     replace hb0_0 := BoxAt.chgA hb0_0 c10_5 (apart_lt hlhb0_0 hfhb9_4 (by omega))
     have := c10_5.size
     replace eB := Ext.then eB c10_5 (ge_of hfhb9_4 (by omega))
     try simp -implicitDefEqProofs (disch := first | decide | assumption | omega) only [go_sem]
     refine hK _ _ ?_
     clear hK K
     refine den_seq ?_
     refine den_draw TTok mixed [8] [(0, true), (1, true), (2, true), (5, true), (6, true), (3, false), (4, false), (7, true), (8, false)] (by kernel_rfl) ?_
     intro K hK
     simp -implicitDefEqProofs (disch := first | decide | assumption | omega) only [go_sem, fa34_5, ia32, BoxAt.dgL hb9_4, Nat.zero_add, build_el, tn2]
     refine CallA.mono (iBas_ok  DS10_5 (3 : Int) _  (by omega)) ?_
     intro v_ h11_3
     rintro ⟨rfl, e11_3⟩
     replace hb0_0 := BoxAt.ext hb0_0 e11_3
     replace hb9_4 := BoxAt.ext hb9_4 e11_3
     have := Ext.size e11_3
     replace eB := Ext.trans eB e11_3
     refine plK_pres (Ext.pres e11_3) ?_
     try simp -implicitDefEqProofs (disch := first | decide | assumption | omega) only [go_sem, tn3]
     refine CallA.mono (iPls_ok  DS10_5 z8 (e8 3) (-1 : Int) _  (by subst_vars; exact hp) By.z8 (e8_by _) (by omega)) ?_
     intro v_ h11_4
     rintro ⟨rfl, e11_4⟩
     replace hb0_0 := BoxAt.ext hb0_0 e11_4
     replace hb9_4 := BoxAt.ext hb9_4 e11_4
     have := Ext.size e11_4
     replace eB := Ext.trans eB e11_4
     refine plK_pres (Ext.pres e11_4) ?_
     try simp -implicitDefEqProofs (disch := first | decide | assumption | omega) only [go_sem, ia31, tn1]
     generalize hEA11_8 : elA (plusN DS10_5.p z8 (e8 3) (-1 : Int) 8) = EA11_8
     refine op_storeB (o := 82 + 2 * 64 + 1 * 8) (vs := EA11_8) (cs' := dgA ({ DS10_5 with tab := (updF DS10_5.tab 2 (updF (DS10_5.tab 2) 1 (plusN DS10_5.p z8 (e8 3) (-1 : Int) 8))) })) st30 hb9_4 rfl rfl (by rw [← hEA11_8]; exact elA_sz _) (by rw [dgA_sz]; omega) (by rw [← hEA11_8]; exact elA_one) (by rw [← hEA11_8]; exact dg_tabI (X := DS10_5) (by omega) (by omega)) ?_
     intro h11_8 hb9_4 c11_8
     subst hEA11_8
     obtain ⟨DS11_8, hDS11_8⟩ : ∃ D : Dg, D = ({ DS10_5 with tab := (updF DS10_5.tab 2 (updF (DS10_5.tab 2) 1 (plusN DS10_5.p z8 (e8 3) (-1 : Int) 8))) }) := ⟨_, rfl⟩
     rw [← hDS11_8] at hb9_4
     replace hb0_0 := BoxAt.chgA hb0_0 c11_8 (apart_lt hlhb0_0 hfhb9_4 (by omega))
     have := c11_8.size
     replace eB := Ext.then eB c11_8 (ge_of hfhb9_4 (by omega))
     try simp (disch := decide) only [outv_none]
     refine plK_last (by decide) ?_
     try simp -implicitDefEqProofs (disch := first | decide | assumption | omega) only [go_sem]
     refine hK _ _ ?_
     clear hK K
     refine den_seq ?_
     refine den_region TTok ?_
     intro K hK
     simp -implicitDefEqProofs (disch := first | decide | assumption | omega) only [go_sem, BoxAt.dgL hb9_4]
     generalize hDA12_1 : dgA DS11_8 = DA12_1
     refine op_storeB (o := 0) (vs := DA12_1) (cs' := DA12_1) st34 hb0_0 rfl rfl (by rw [← hDA12_1]; exact dgA_sz _) (by rw [dgA_sz]; decide) (by rw [← hDA12_1]; exact dgA_one) (by rw [← hDA12_1]; exact dgA_all) ?_
     intro h12_1 hb0_0 c12_1
     subst hDA12_1
     replace hb9_4 := BoxAt.chgA hb9_4 c12_1 (apart_gt hfhb9_4 hlhb0_0 (by omega))
     have := c12_1.size
     replace eB := Ext.then eB c12_1 (ge_of hfhb0_0 (by omega))
     try simp -implicitDefEqProofs (disch := first | decide | assumption | omega) only [go_sem]
     refine hK _ _ ?_
     clear hK K
     refine den_ret ?_
     simp -implicitDefEqProofs (disch := first | decide | assumption | omega) only [go_sem, BoxAt.dgL hb0_0, resP_ct]
     have hE : DS11_8 = nmL name p := by
      rw [nmL, if_neg c1, if_neg c2, if_pos c3]
      subst_vars
      exact nm2_of _
     rw [ndP_0 hpr (by rw [nmB, if_neg c1, if_neg c2, if_pos c3])]
     dsimp only
     rw [← hE]
     exact ⟨rfl, eB⟩
    ·try simp only [beq_eq_false_iff_ne, ne_eq] at c3
     refine den_seq ?_
     refine den_region TTok ?_
     intro K hK
     simp -implicitDefEqProofs (disch := first | decide | assumption | omega) only [go_sem, bin_seq, sV_d]
     refine hK _ _ ?_
     clear hK K
     refine den_cond rfl (fun c4 => ?_) (fun c4 => ?_)
     ·try simp only [beq_iff_eq] at c4
      refine den_seq ?_
      refine den_region TTok ?_
      intro K hK
      simp -implicitDefEqProofs (disch := first | decide | assumption | omega) only [go_sem]
      refine op_bsI4 (a0 := (0 : Int)) (a1 := (0 : Int)) (a2 := (1 : Int)) (a3 := (1 : Int)) rfl rfl rfl rfl ?_
      intro v14_1 h14_1 ho14_1 e14_1
      replace hb0_0 := BoxAt.ext hb0_0 e14_1
      have := Ext.size e14_1
      replace eB := Ext.trans eB e14_1
      have hfho14_1 : Fresh h0_0.size [h0_0.size] := Fresh.one _
      have hlho14_1 := OS.lt ho14_1
      try simp -implicitDefEqProofs (disch := first | decide | assumption | omega) only [go_sem]
      refine op_bsI4 (a0 := (0 : Int)) (a1 := (1 : Int)) (a2 := (1 : Int)) (a3 := (2 : Int)) rfl rfl rfl rfl ?_
      intro v14_2 h14_2 ho14_2 e14_2
      replace ho14_1 := OS.ext ho14_1 e14_2
      replace hb0_0 := BoxAt.ext hb0_0 e14_2
      have := Ext.size e14_2
      replace eB := Ext.trans eB e14_2
      have hfho14_2 : Fresh h14_1.size [h14_1.size] := Fresh.one _
      have hlho14_2 := OS.lt ho14_2
      try simp -implicitDefEqProofs (disch := first | decide | assumption | omega) only [go_sem]
      refine CallA.mono (iWu_ok _ _ p ([(0 : Int), (0 : Int), (1 : Int), (1 : Int)]) ([(0 : Int), (1 : Int), (1 : Int), (2 : Int)]) _ (OS.rd ho14_1) (OS.rd ho14_2) (by decide) rfl) ?_
      intro v_ h14_3
      rintro ⟨rfl, e14_3⟩
      replace ho14_1 := OS.ext ho14_1 e14_3
      replace ho14_2 := OS.ext ho14_2 e14_3
      replace hb0_0 := BoxAt.ext hb0_0 e14_3
      have := Ext.size e14_3
      replace eB := Ext.trans eB e14_3
      refine op_alloc (cs := dgA dgZ) (by kernel_rfl) ?_
      intro h14_4 e14_4 hb14_4 z14_4
      replace ho14_1 := OS.ext ho14_1 e14_4
      replace ho14_2 := OS.ext ho14_2 e14_4
      replace hb0_0 := BoxAt.ext hb0_0 e14_4
      have := Ext.size e14_4
      replace eB := Ext.trans eB e14_4
      have hfhb14_4 : Fresh h14_3.size [h14_3.size] := Fresh.one _
      have hlhb14_4 := one_lt (show h14_3.size < h14_4.size by omega)
      try simp -implicitDefEqProofs (disch := first | decide | assumption | omega) only [go_sem]
      generalize hDA14_5 : dgA (wuS p (([(0 : Int), (0 : Int), (1 : Int), (1 : Int)]).length : Int) ([(0 : Int), (0 : Int), (1 : Int), (1 : Int)]) ([(0 : Int), (1 : Int), (1 : Int), (2 : Int)]) ([(0 : Int), (0 : Int), (1 : Int), (1 : Int)]).length) = DA14_5
      refine op_storeB (o := 0) (vs := DA14_5) (cs' := DA14_5) st34 hb14_4 rfl rfl (by rw [← hDA14_5]; exact dgA_sz _) (by rw [dgA_sz]; decide) (by rw [← hDA14_5]; exact dgA_one) (by rw [← hDA14_5]; exact dgA_all) ?_
      intro h14_5 hb14_4 c14_5
      subst hDA14_5
      replace ho14_1 := OS.chg ho14_1 c14_5 (apart_lt hlho14_1 hfhb14_4 (by omega))
      replace ho14_2 := OS.chg ho14_2 c14_5 (apart_lt hlho14_2 hfhb14_4 (by omega))
      replace hb0_0 := BoxAt.chgA hb0_0 c14_5 (apart_lt hlhb0_0 hfhb14_4 (by omega))
      have := c14_5.size
      replace eB := Ext.then eB c14_5 (ge_of hfhb14_4 (by omega))
      try simp -implicitDefEqProofs (disch := first | decide | assumption | omega) only [go_sem]
      refine hK _ _ ?_
      clear hK K
      refine den_seq ?_
      refine den_draw TTok mixed [7, 11] [(0, true), (2, true), (4, true), (5, true), (8, true), (9, true), (1, false), (6, true), (3, false), (7, false), (10, true), (11, false)] (by kernel_rfl) ?_
      intro K hK
      simp -implicitDefEqProofs (disch := first | decide | assumption | omega) only [go_sem, fa34_5, ia32, BoxAt.dgL hb14_4, Nat.zero_add, tn1, tn2]
      refine CallA.mono (iBas_ok  (wuS p (([(0 : Int), (0 : Int), (1 : Int), (1 : Int)]).length : Int) ([(0 : Int), (0 : Int), (1 : Int), (1 : Int)]) ([(0 : Int), (1 : Int), (1 : Int), (2 : Int)]) ([(0 : Int), (0 : Int), (1 : Int), (1 : Int)]).length) (3 : Int) _  (by omega)) ?_
      intro v_ h15_1
      rintro ⟨rfl, e15_1⟩
      replace hb0_0 := BoxAt.ext hb0_0 e15_1
      replace hb14_4 := BoxAt.ext hb14_4 e15_1
      have := Ext.size e15_1
      replace eB := Ext.trans eB e15_1
      refine plK_pres (Ext.pres e15_1) ?_
      try simp -implicitDefEqProofs (disch := first | decide | assumption | omega) only [go_sem, ia31, tn2, tn3]
      refine CallA.mono (iBas_ok  (wuS p (([(0 : Int), (0 : Int), (1 : Int), (1 : Int)]).length : Int) ([(0 : Int), (0 : Int), (1 : Int), (1 : Int)]) ([(0 : Int), (1 : Int), (1 : Int), (2 : Int)]) ([(0 : Int), (0 : Int), (1 : Int), (1 : Int)]).length) (3 : Int) _  (by omega)) ?_
      intro v_ h15_3
      rintro ⟨rfl, e15_3⟩
      replace hb0_0 := BoxAt.ext hb0_0 e15_3
      replace hb14_4 := BoxAt.ext hb14_4 e15_3
      have := Ext.size e15_3
      replace eB := Ext.trans eB e15_3
      refine plK_pres (Ext.pres e15_3) ?_
      try simp -implicitDefEqProofs (disch := first | decide | assumption | omega) only [go_sem, tn3]
      generalize hEA15_7 : elA (e8 3) = EA15_7
      refine op_storeB (o := 82 + 1 * 64 + 2 * 8) (vs := EA15_7) (cs' := dgA ({ wuS p (([(0 : Int), (0 : Int), (1 : Int), (1 : Int)]).length : Int) ([(0 : Int), (0 : Int), (1 : Int), (1 : Int)]) ([(0 : Int), (1 : Int), (1 : Int), (2 : Int)]) ([(0 : Int), (0 : Int), (1 : Int), (1 : Int)]).length with tab := (updF ((wuS p (([(0 : Int), (0 : Int), (1 : Int), (1 : Int)]).length : Int) ([(0 : Int), (0 : Int), (1 : Int), (1 : Int)]) ([(0 : Int), (1 : Int), (1 : Int), (2 : Int)]) ([(0 : Int), (0 : Int), (1 : Int), (1 : Int)]).length).tab) 1 (updF ((wuS p (([(0 : Int), (0 : Int), (1 : Int), (1 : Int)]).length : Int) ([(0 : Int), (0 : Int), (1 : Int), (1 : Int)]) ([(0 : Int), (1 : Int), (1 : Int), (2 : Int)]) ([(0 : Int), (0 : Int), (1 : Int), (1 : Int)]).length).tab 1) 2 (e8 3))) })) st30 hb14_4 rfl rfl (by rw [← hEA15_7]; exact elA_sz _) (by rw [dgA_sz]; omega) (by rw [← hEA15_7]; exact elA_one) (by rw [← hEA15_7]; exact dg_tabI (X := wuS p (([(0 : Int), (0 : Int), (1 : Int), (1 : Int)]).length : Int) ([(0 : Int), (0 : Int), (1 : Int), (1 : Int)]) ([(0 : Int), (1 : Int), (1 : Int), (2 : Int)]) ([(0 : Int), (0 : Int), (1 : Int), (1 : Int)]).length) (by omega) (by omega)) ?_
      intro h15_7 hb14_4 c15_7
      subst hEA15_7
      obtain ⟨DS15_7, hDS15_7⟩ : ∃ D : Dg, D = ({ wuS p (([(0 : Int), (0 : Int), (1 : Int), (1 : Int)]).length : Int) ([(0 : Int), (0 : Int), (1 : Int), (1 : Int)]) ([(0 : Int), (1 : Int), (1 : Int), (2 : Int)]) ([(0 : Int), (0 : Int), (1 : Int), (1 : Int)]).length with tab := (updF ((wuS p (([(0 : Int), (0 : Int), (1 : Int), (1 : Int)]).length : Int) ([(0 : Int), (0 : Int), (1 : Int), (1 : Int)]) ([(0 : Int), (1 : Int), (1 : Int), (2 : Int)]) ([(0 : Int), (0 : Int), (1 : Int), (1 : Int)]).length).tab) 1 (updF ((wuS p (([(0 : Int), (0 : Int), (1 : Int), (1 : Int)]).length : Int) ([(0 : Int), (0 : Int), (1 : Int), (1 : Int)]) ([(0 : Int), (1 : Int), (1 : Int), (2 : Int)]) ([(0 : Int), (0 : Int), (1 : Int), (1 : Int)]).length).tab 1) 2 (e8 3))) }) := ⟨_, rfl⟩
      rw [← hDS15_7] at hb14_4
      replace hb0_0 := BoxAt.chgA hb0_0 c15_7 (apart_lt hlhb0_0 hfhb14_4 (by omega))
      have := c15_7.size
      replace eB := Ext.then eB c15_7 (ge_of hfhb14_4 (by omega))
      try simp (disch := decide) only [outv_none]
      refine plK_last (by decide) ?_
      try simp -implicitDefEqProofs (disch := first | decide | assumption | omega) only [go_sem, ia31, tn1]
      generalize hEA15_11 : elA (e8 3) = EA15_11
      refine op_storeB (o := 82 + 2 * 64 + 1 * 8) (vs := EA15_11) (cs' := dgA ({ DS15_7 with tab := (updF DS15_7.tab 2 (updF (DS15_7.tab 2) 1 (e8 3))) })) st30 hb14_4 rfl rfl (by rw [← hEA15_11]; exact elA_sz _) (by rw [dgA_sz]; omega) (by rw [← hEA15_11]; exact elA_one) (by rw [← hEA15_11]; exact dg_tabI (X := DS15_7) (by omega) (by omega)) ?_
      intro h15_11 hb14_4 c15_11
      subst hEA15_11
      obtain ⟨DS15_11, hDS15_11⟩ : ∃ D : Dg, D = ({ DS15_7 with tab := (updF DS15_7.tab 2 (updF (DS15_7.tab 2) 1 (e8 3))) }) := ⟨_, rfl⟩
      rw [← hDS15_11] at hb14_4
      replace hb0_0 := BoxAt.chgA hb0_0 c15_11 (apart_lt hlhb0_0 hfhb14_4 (by omega))
      have := c15_11.size
      replace eB := Ext.then eB c15_11 (ge_of hfhb14_4 (by omega))
      try simp (disch := decide) only [outv_none]
      refine plK_last (by decide) ?_
      try simp -implicitDefEqProofs (disch := first | decide | assumption | omega) only [go_sem]
      refine hK _ _ ?_
      clear hK K
      refine den_seq ?_
      refine den_region TTok ?_
      intro K hK
      simp -implicitDefEqProofs (disch := first | decide | assumption | omega) only [go_sem, BoxAt.dgL hb14_4]
      refine CallA.mono (iBas_ok  DS15_11 (1 : Int) _  (by omega)) ?_
      intro v_ h16_1
      rintro ⟨rfl, e16_1⟩
      replace hb0_0 := BoxAt.ext hb0_0 e16_1
      replace hb14_4 := BoxAt.ext hb14_4 e16_1
      have := Ext.size e16_1
      replace eB := Ext.trans eB e16_1
      try simp -implicitDefEqProofs (disch := first | decide | assumption | omega) only [go_sem, fa34_4, ia31, Nat.zero_add, tn1, tn2]
      generalize hEA16_4 : elA (e8 1) = EA16_4
      refine op_storeB (o := 18 + 2 * 8) (vs := EA16_4) (cs' := dgA ({ DS15_11 with dif := (updF DS15_11.dif 2 (e8 1)) })) st30 hb14_4 rfl rfl (by rw [← hEA16_4]; exact elA_sz _) (by rw [dgA_sz]; omega) (by rw [← hEA16_4]; exact elA_one) (by rw [← hEA16_4]; exact dg_difI (X := DS15_11) (by omega)) ?_
      intro h16_4 hb14_4 c16_4
      subst hEA16_4
      obtain ⟨DS16_4, hDS16_4⟩ : ∃ D : Dg, D = ({ DS15_11 with dif := (updF DS15_11.dif 2 (e8 1)) }) := ⟨_, rfl⟩
      rw [← hDS16_4] at hb14_4
      replace hb0_0 := BoxAt.chgA hb0_0 c16_4 (apart_lt hlhb0_0 hfhb14_4 (by omega))
      have := c16_4.size
      replace eB := Ext.then eB c16_4 (ge_of hfhb14_4 (by omega))
      try simp -implicitDefEqProofs (disch := first | decide | assumption | omega) only [go_sem]
      refine hK _ _ ?_
      clear hK K
      refine den_seq ?_
      refine den_region TTok ?_
      intro K hK
      simp -implicitDefEqProofs (disch := first | decide | assumption | omega) only [go_sem, BoxAt.dgL hb14_4]
      generalize hDA17_1 : dgA DS16_4 = DA17_1
      refine op_storeB (o := 0) (vs := DA17_1) (cs' := DA17_1) st34 hb0_0 rfl rfl (by rw [← hDA17_1]; exact dgA_sz _) (by rw [dgA_sz]; decide) (by rw [← hDA17_1]; exact dgA_one) (by rw [← hDA17_1]; exact dgA_all) ?_
      intro h17_1 hb0_0 c17_1
      subst hDA17_1
      replace hb14_4 := BoxAt.chgA hb14_4 c17_1 (apart_gt hfhb14_4 hlhb0_0 (by omega))
      have := c17_1.size
      replace eB := Ext.then eB c17_1 (ge_of hfhb0_0 (by omega))
      try simp -implicitDefEqProofs (disch := first | decide | assumption | omega) only [go_sem]
      refine hK _ _ ?_
      clear hK K
      refine den_ret ?_
      simp -implicitDefEqProofs (disch := first | decide | assumption | omega) only [go_sem, BoxAt.dgL hb0_0, resP_ct]
      have hE : DS16_4 = nmL name p := by
       rw [nmL, if_neg c1, if_neg c2, if_neg c3, if_pos c4]
       subst_vars
       exact nm3_of _
      rw [ndP_0 hpr (by rw [nmB, if_neg c1, if_neg c2, if_neg c3, if_pos c4])]
      dsimp only
      rw [← hE]
      exact ⟨rfl, eB⟩
     ·try simp only [beq_eq_false_iff_ne, ne_eq] at c4
      refine den_skip ?_
      refine den_blk ?_
      refine den_seq ?_
      refine den_region TTok ?_
      intro K hK
      simp -implicitDefEqProofs (disch := first | decide | assumption | omega) only [go_sem, build_dg0]
      refine op_storeB (o := 0) (vs := dgA dgZ) (cs' := dgA dgZ) st34 hb0_0 rfl rfl (dgA_sz _) (by rw [dgA_sz]; decide) dgA_one dgA_all ?_
      intro h18_1 hb0_0 c18_1
      have := c18_1.size
      replace eB := Ext.then eB c18_1 (ge_of hfhb0_0 (by omega))
      try simp -implicitDefEqProofs (disch := first | decide | assumption | omega) only [go_sem]
      refine hK _ _ ?_
      clear hK K
      refine den_ret ?_
      simp -implicitDefEqProofs (disch := first | decide | assumption | omega) only [go_sem, BoxAt.dgL hb0_0, resP_ct]
      rw [ndP_4 hpr (by rw [nmB, if_neg c1, if_neg c2, if_neg c3, if_neg c4])]
      exact ⟨rfl, eB⟩

set_option maxRecDepth 100000 in
set_option maxHeartbeats 4000000 in
theorem sNd_ok (name : List UInt8) (p : Int) (h : Heap)   : CallA Try.prog 22 #[sV name, .int .i64 p] h fun v' h' => v' = .tuple #[.agg (dgA ((ndP name p).1)), .int .i64 ((ndP name p).2)] ∧ Ext h h' := by
 refine callA_intro TTok (args := [_, _]) Try.func22 (by kernel_rfl) rfl 22 rfl (by simp) [.cell 4 34, .tmp 5] rfl ?_
 simp only [idxs, Nat.reduceAdd]
 refine den_seq ?_
 refine den_region TTok ?_
 intro K hK
 simp -implicitDefEqProofs (disch := first | decide | assumption | omega) only [go_sem]
 refine op_alloc (cs := dgA dgZ) (by kernel_rfl) ?_
 intro h0_0 e0_0 hb0_0 z0_0
 have := Ext.size e0_0
 have eB := e0_0
 have hfhb0_0 : Fresh h.size [h.size] := Fresh.one _
 have hlhb0_0 := one_lt (show h.size < h0_0.size by omega)
 try simp -implicitDefEqProofs (disch := first | decide | assumption | omega) only [go_sem]
 refine hK _ _ ?_
 clear hK K
 refine den_seq ?_
 refine den_seq ?_
 refine den_region TTok ?_
 intro K hK
 simp -implicitDefEqProofs (disch := first | decide | assumption | omega) only [go_sem]
 refine CallA.pure (sPrime_ok _ _) ?_
 try simp -implicitDefEqProofs (disch := first | decide | assumption | omega) only [go_sem]
 refine hK _ _ ?_
 clear hK K
 refine den_cond rfl (fun c0 => ?_) (fun c0 => ?_)
 ·try simp only [Bool.not_eq_true'] at c0
  refine den_seq ?_
  refine den_region TTok ?_
  intro K hK
  simp -implicitDefEqProofs (disch := first | decide | assumption | omega) only [go_sem, build_dg0]
  refine op_storeB (o := 0) (vs := dgA dgZ) (cs' := dgA dgZ) st34 hb0_0 rfl rfl (dgA_sz _) (by rw [dgA_sz]; decide) dgA_one dgA_all ?_
  intro h2_1 hb0_0 c2_1
  have := c2_1.size
  replace eB := Ext.then eB c2_1 (ge_of hfhb0_0 (by omega))
  try simp -implicitDefEqProofs (disch := first | decide | assumption | omega) only [go_sem]
  refine hK _ _ ?_
  clear hK K
  refine den_ret ?_
  simp -implicitDefEqProofs (disch := first | decide | assumption | omega) only [go_sem, BoxAt.dgL hb0_0, resP_ct]
  rw [ndP_2 (by simpa using c0)]
  exact ⟨rfl, eB⟩
 ·try simp only [Bool.not_eq_false'] at c0
  have hpr : isP p = true := by simpa using c0
  have hp := isP_bnd hpr
  refine den_skip ?_
  refine den_seq ?_
  refine den_region TTok ?_
  intro K hK
  simp -implicitDefEqProofs (disch := first | decide | assumption | omega) only [go_sem]
  refine CallA.mono (sNam_ok  name p _  hp) ?_
  intro v_ h3_2
  rintro ⟨rfl, e3_2⟩
  replace hb0_0 := BoxAt.ext hb0_0 e3_2
  have := Ext.size e3_2
  replace eB := Ext.trans eB e3_2
  try simp -implicitDefEqProofs (disch := first | decide | assumption | omega) only [go_sem]
  refine op_alloc (cs := dgA dgZ) (by kernel_rfl) ?_
  intro h3_6 e3_6 hb3_6 z3_6
  replace hb0_0 := BoxAt.ext hb0_0 e3_6
  have := Ext.size e3_6
  replace eB := Ext.trans eB e3_6
  have hfhb3_6 : Fresh h3_2.size [h3_2.size] := Fresh.one _
  have hlhb3_6 := one_lt (show h3_2.size < h3_6.size by omega)
  try simp -implicitDefEqProofs (disch := first | decide | assumption | omega) only [go_sem]
  generalize hDA3_7 : dgA (nmL name p) = DA3_7
  refine op_storeB (o := 0) (vs := DA3_7) (cs' := DA3_7) st34 hb3_6 rfl rfl (by rw [← hDA3_7]; exact dgA_sz _) (by rw [dgA_sz]; decide) (by rw [← hDA3_7]; exact dgA_one) (by rw [← hDA3_7]; exact dgA_all) ?_
  intro h3_7 hb3_6 c3_7
  subst hDA3_7
  replace hb0_0 := BoxAt.chgA hb0_0 c3_7 (apart_lt hlhb0_0 hfhb3_6 (by omega))
  have := c3_7.size
  replace eB := Ext.then eB c3_7 (ge_of hfhb3_6 (by omega))
  try simp -implicitDefEqProofs (disch := first | decide | assumption | omega) only [go_sem]
  refine hK _ _ ?_
  clear hK K
  refine den_seq ?_
  refine den_seq ?_
  refine den_region TTok ?_
  intro K hK
  simp -implicitDefEqProofs (disch := first | decide | assumption | omega) only [go_sem]
  refine hK _ _ ?_
  clear hK K
  refine den_cond rfl (fun c1 => ?_) (fun c1 => ?_)
  ·try simp only [Bool.not_eq_true'] at c1
   refine den_seq ?_
   refine den_region TTok ?_
   intro K hK
   simp -implicitDefEqProofs (disch := first | decide | assumption | omega) only [go_sem, build_dg0]
   refine op_storeB (o := 0) (vs := dgA dgZ) (cs' := dgA dgZ) st34 hb0_0 rfl rfl (dgA_sz _) (by rw [dgA_sz]; decide) dgA_one dgA_all ?_
   intro h5_1 hb0_0 c5_1
   have := c5_1.size
   replace eB := Ext.then eB c5_1 (ge_of hfhb0_0 (by omega))
   try simp -implicitDefEqProofs (disch := first | decide | assumption | omega) only [go_sem]
   refine hK _ _ ?_
   clear hK K
   refine den_ret ?_
   simp -implicitDefEqProofs (disch := first | decide | assumption | omega) only [go_sem, BoxAt.dgL hb0_0, resP_ct]
   rw [ndP_4 hpr (by simpa using c1)]
   exact ⟨rfl, eB⟩
  ·try simp only [Bool.not_eq_false'] at c1
   refine den_skip ?_
   refine den_seq ?_
   refine den_region TTok ?_
   intro K hK
   simp -implicitDefEqProofs (disch := first | decide | assumption | omega) only [go_sem, BoxAt.dgL hb3_6]
   generalize hDA6_1 : dgA (nmL name p) = DA6_1
   refine op_storeB (o := 0) (vs := DA6_1) (cs' := DA6_1) st34 hb0_0 rfl rfl (by rw [← hDA6_1]; exact dgA_sz _) (by rw [dgA_sz]; decide) (by rw [← hDA6_1]; exact dgA_one) (by rw [← hDA6_1]; exact dgA_all) ?_
   intro h6_1 hb0_0 c6_1
   subst hDA6_1
   replace hb3_6 := BoxAt.chgA hb3_6 c6_1 (apart_gt hfhb3_6 hlhb0_0 (by omega))
   have := c6_1.size
   replace eB := Ext.then eB c6_1 (ge_of hfhb0_0 (by omega))
   try simp -implicitDefEqProofs (disch := first | decide | assumption | omega) only [go_sem]
   refine hK _ _ ?_
   clear hK K
   refine den_ret ?_
   simp -implicitDefEqProofs (disch := first | decide | assumption | omega) only [go_sem, BoxAt.dgL hb0_0, resP_ct]
   rw [ndP_0 hpr (by simpa using c1)]
   exact ⟨rfl, eB⟩
end Go.Proofs.Ytacajcjibhifmaa

namespace Go.Proofs.Ytacajcjibhifmaa
open Go
/-! Slices of elements that are read. -/
def REl (h : Heap) (v : Value) (us : List (Nat → Int)) : Prop := ∃ b, v = .slice (some ⟨b, 0, none⟩) us.length us.length ∧ ∀ j, j < us.length → ∀ q, q < 8 → hcell h ⟨b, 8 * j + q, none⟩ = some (.int .u8 (us.getD j z8 q))
theorem slEl : SlA TT 117 30 8 := by
 obtain ⟨i, hi, h⟩ := Option.map_eq_some_iff.1 (show (TT 117).map (fun i => slE i.desc) = some (some 30) by kernel_rfl)
 obtain ⟨j, hj, h2⟩ := Option.map_eq_some_iff.1 (show (TT 30).map (·.size) = some 8 by kernel_rfl)
 exact ⟨⟨i, j, hi, slE_some h, hj, h2⟩⟩
section
variable {h hc : Heap} {v : Value} {us : List (Nat → Int)}
theorem REl.pres (hv : REl h v us) (hp : HPres h hc) : REl hc v us := by
 obtain ⟨b, rfl, hr⟩ := hv
 exact ⟨b, rfl, fun j hj q hq => hp _ _ (hr j hj q hq)⟩
theorem REl.len (hv : REl h v us) : lenV TT 117 v = some (.int .i64 us.length) := by
 obtain ⟨b, rfl, hr⟩ := hv
 obtain ⟨i, j, h1, h2, _⟩ := slEl.out
 simp [lenV, h1, h2]
theorem REl.idx (hv : REl h v us) (k : IntKind) (i : Int) (h0 : 0 ≤ i) (h1 : i < us.length) : idxAddrV TT 117 v (.int k i) = some (.pointer (some ((sA v).add (8 * i.toNat)))) := by
 obtain ⟨b, rfl, hr⟩ := hv
 obtain ⟨q, j, e1, e2, e3, e4⟩ := slEl.out
 simp [idxAddrV, e1, e2, e3, e4, asI, h0, h1, sA, Nat.mul_comm]
theorem REl.ld (hv : REl h v us) (hp : HPres h hc) (j : Nat) (hj : j < us.length) : loadV TT hc 30 ((sA v).add (8 * j)) = some (.agg (elA (us.getD j z8))) := by
 obtain ⟨b, rfl, hr⟩ := hv
 have ha : (sA (.slice (some ⟨b, 0, none⟩) us.length us.length)).add (8 * j) = ⟨b, 8 * j, none⟩ := by simp only [sA]; rw [addr_add, Nat.zero_add]
 have e := fun q hq => hp _ _ (hr j hj q hq)
 rw [ha, ld30]
 have e0 := e 0 (by omega)
 have e1 := e 1 (by omega)
 have e2 := e 2 (by omega)
 have e3 := e 3 (by omega)
 have e4 := e 4 (by omega)
 have e5 := e 5 (by omega)
 have e6 := e 6 (by omega)
 have e7 := e 7 (by omega)
 rw [Nat.add_zero] at e0
 simp [hcells, addr_add, e0, e1, e2, e3, e4, e5, e6, e7, elA]
end
section
variable {P : Program} {n : Nat} {K : Env → Heap → Prop} {env : Env} {h : Heap} {d : Option Tmp} {ty : TypeId} {p : String} {a : Array Edge} {g : Option (Nat × Bool)}
theorem bs_E1 (h : Heap) (u0 : Nat → Int) : buildSliceV TT h 117 1 [(0, .agg (elA u0))] = some (.slice (some ⟨h.size, 0, none⟩) 1 1, h.push (.cells #[.int .u8 (u0 0), .int .u8 (u0 1), .int .u8 (u0 2), .int .u8 (u0 3), .int .u8 (u0 4), .int .u8 (u0 5), .int .u8 (u0 6), .int .u8 (u0 7)] 30)) := by kernel_rfl
theorem op_bsE1 {x0 : Operand} {u0 : Nat → Int} (e0 : ev env x0 = .agg (elA u0)) (hk : ∀ v' h', REl h' v' [u0] → Ext h h' → outv n ⟨d, .buildSlice 117 1 #[(0, x0)], ty, p, a, g⟩ K env h' v') : opP P TT n ⟨d, .buildSlice 117 1 #[(0, x0)], ty, p, a, g⟩ K env h := by
 rw [opP_buildSlice]
 have : (#[(0, x0)].map (fun (i, x) => (i, ev env x)) : Array (Nat × Value)).toList = [(0, .agg (elA u0))] := by simp [e0]
 rw [this, bs_E1 h, Bd_some]
 refine hk _ _ ⟨h.size, rfl, fun j hj q hq => ?_⟩ (Ext.push _ _)
 rw [(BoxAt.new h _ _).cell]
 have hj' : j < 1 := by simpa using hj
 have hc : j = 0 := by omega
 rcases hc with rfl <;> rcases nat8 hq with rfl | rfl | rfl | rfl | rfl | rfl | rfl | rfl <;> rfl
theorem bs_E2 (h : Heap) (u0 u1 : Nat → Int) : buildSliceV TT h 117 2 [(0, .agg (elA u0)), (1, .agg (elA u1))] = some (.slice (some ⟨h.size, 0, none⟩) 2 2, h.push (.cells #[.int .u8 (u0 0), .int .u8 (u0 1), .int .u8 (u0 2), .int .u8 (u0 3), .int .u8 (u0 4), .int .u8 (u0 5), .int .u8 (u0 6), .int .u8 (u0 7), .int .u8 (u1 0), .int .u8 (u1 1), .int .u8 (u1 2), .int .u8 (u1 3), .int .u8 (u1 4), .int .u8 (u1 5), .int .u8 (u1 6), .int .u8 (u1 7)] 30)) := by kernel_rfl
theorem op_bsE2 {x0 x1 : Operand} {u0 u1 : Nat → Int} (e0 : ev env x0 = .agg (elA u0)) (e1 : ev env x1 = .agg (elA u1)) (hk : ∀ v' h', REl h' v' [u0, u1] → Ext h h' → outv n ⟨d, .buildSlice 117 2 #[(0, x0), (1, x1)], ty, p, a, g⟩ K env h' v') : opP P TT n ⟨d, .buildSlice 117 2 #[(0, x0), (1, x1)], ty, p, a, g⟩ K env h := by
 rw [opP_buildSlice]
 have : (#[(0, x0), (1, x1)].map (fun (i, x) => (i, ev env x)) : Array (Nat × Value)).toList = [(0, .agg (elA u0)), (1, .agg (elA u1))] := by simp [e0, e1]
 rw [this, bs_E2 h, Bd_some]
 refine hk _ _ ⟨h.size, rfl, fun j hj q hq => ?_⟩ (Ext.push _ _)
 rw [(BoxAt.new h _ _).cell]
 have hj' : j < 2 := by simpa using hj
 have hc : j = 0 ∨ j = 1 := by omega
 rcases hc with rfl | rfl <;> rcases nat8 hq with rfl | rfl | rfl | rfl | rfl | rfl | rfl | rfl <;> rfl
end
/-- The code of an algebra and elements. -/
noncomputable def cdL (X : Dg) (us : List (Nat → Int)) : Int := @ite _ (dgB X = true ∧ ∀ j, j < us.length → isEl X.p X.s (us.getD j z8)) (Classical.propDecidable _) 0 1
theorem cdL_0 {X : Dg} {us : List (Nat → Int)} (h : dgB X = true) (h2 : ∀ j, j < us.length → isEl X.p X.s (us.getD j z8)) : cdL X us = 0 := @if_pos _ (Classical.propDecidable _) ⟨h, h2⟩ _ _ _
theorem cdL_1 {X : Dg} {us : List (Nat → Int)} (h : ¬ (dgB X = true ∧ ∀ j, j < us.length → isEl X.p X.s (us.getD j z8))) : cdL X us = 1 := @if_neg _ (Classical.propDecidable _) h _ _ _
theorem cdL_y {X : Dg} {us : List (Nat → Int)} (h : cdL X us = 0) : dgB X = true ∧ ∀ j, j < us.length → isEl X.p X.s (us.getD j z8) := by
 by_cases hh : dgB X = true ∧ ∀ j, j < us.length → isEl X.p X.s (us.getD j z8)
 ·exact hh
 ·rw [cdL_1 hh] at h; exact absurd h (by decide)
theorem cdL_n {X : Dg} {us : List (Nat → Int)} (h : ¬ cdL X us = 0) : ¬ (dgB X = true ∧ ∀ j, j < us.length → isEl X.p X.s (us.getD j z8)) := fun hh => h (cdL_0 hh.1 hh.2)
/-- What products and differentials are, and the code beside them. -/
noncomputable def mlP (X : Dg) (u v : Nat → Int) : (Nat → Int) × Int := @ite _ (dgB X = true ∧ isEl X.p X.s u ∧ isEl X.p X.s v) (Classical.propDecidable _) (timesP X.p X.tab u v 8, 0) (z8, 1)
noncomputable def diP (X : Dg) (u : Nat → Int) : (Nat → Int) × Int := @ite _ (dgB X = true ∧ isEl X.p X.s u) (Classical.propDecidable _) (dfI X.p X.dif u 8, 0) (z8, 1)
theorem mlP_y {X : Dg} {u v : Nat → Int} (h : dgB X = true ∧ isEl X.p X.s u ∧ isEl X.p X.s v) : mlP X u v = (timesP X.p X.tab u v 8, 0) := @if_pos _ (Classical.propDecidable _) h _ _ _
theorem mlP_n {X : Dg} {u v : Nat → Int} (h : ¬ (dgB X = true ∧ isEl X.p X.s u ∧ isEl X.p X.s v)) : mlP X u v = (z8, 1) := @if_neg _ (Classical.propDecidable _) h _ _ _
theorem diP_y {X : Dg} {u : Nat → Int} (h : dgB X = true ∧ isEl X.p X.s u) : diP X u = (dfI X.p X.dif u 8, 0) := @if_pos _ (Classical.propDecidable _) h _ _ _
theorem diP_n {X : Dg} {u : Nat → Int} (h : ¬ (dgB X = true ∧ isEl X.p X.s u)) : diP X u = (z8, 1) := @if_neg _ (Classical.propDecidable _) h _ _ _

set_option maxRecDepth 100000 in
theorem sCdL_ok (X : Dg) (vU : Value) (us : List (Nat → Int)) (h : Heap) (hBX : DgB X) (rU : REl h vU us) (hby : ∀ j, By (us.getD j z8)) (hlu : us.length ≤ 2) : CallA Try.prog 38 #[.agg (dgA X), vU] h fun v' h' => v' = .int .i64 (cdL X us) ∧ Ext h h' := by
 refine callA_intro TTok (args := [_, _]) Try.func38 (by kernel_rfl) rfl 25 rfl (by simp) [.tmp 4] rfl ?_
 simp only [idxs, Nat.reduceAdd]
 refine den_seq ?_
 refine den_region TTok ?_
 intro K hK
 simp -implicitDefEqProofs (disch := first | decide | assumption | omega) only [go_sem]
 refine op_box (cs := dgA X) rfl ?_
 intro h0_0 e0_0 hb0_0 z0_0
 have := Ext.size e0_0
 have eB := e0_0
 have hfhb0_0 : Fresh h.size [h.size] := Fresh.one _
 have hlhb0_0 := one_lt (show h.size < h0_0.size by omega)
 try simp -implicitDefEqProofs (disch := first | decide | assumption | omega) only [go_sem]
 refine hK _ _ ?_
 clear hK K
 refine den_seq ?_
 refine den_seq ?_
 refine den_region TTok ?_
 intro K hK
 simp -implicitDefEqProofs (disch := first | decide | assumption | omega) only [go_sem, BoxAt.dgL hb0_0]
 refine CallA.mono (sDg_ok  X _  hBX) ?_
 intro v_ h1_1
 rintro ⟨rfl, e1_1⟩
 replace hb0_0 := BoxAt.ext hb0_0 e1_1
 have := Ext.size e1_1
 replace eB := Ext.trans eB e1_1
 try simp -implicitDefEqProofs (disch := first | decide | assumption | omega) only [go_sem]
 refine hK _ _ ?_
 clear hK K
 refine den_cond rfl (fun c0 => ?_) (fun c0 => ?_)
 ·try simp only [Bool.not_eq_true'] at c0
  refine den_seq ?_
  refine den_region TTok ?_
  intro K hK
  simp -implicitDefEqProofs (disch := first | decide | assumption | omega) only [go_sem]
  refine hK _ _ ?_
  clear hK K
  refine den_ret ?_
  simp (disch := decide) only [resP_1, puts_same]
  rw [cdL_1 (fun hh => by rw [hh.1] at c0; cases c0)]
  exact ⟨rfl, eB⟩
 ·try simp only [Bool.not_eq_false'] at c0
  refine den_skip ?_
  refine den_seq ?_
  refine den_seq ?_
  refine den_region TTok ?_
  intro K hK
  simp -implicitDefEqProofs (disch := first | decide | assumption | omega) only [go_sem]
  refine hK _ _ ?_
  clear hK K
  refine den_block ?_
  refine den_sel [5, 1, 2] ?_
  intro env_1
  simp only [go_sem]
  refine den_loopS (σ := Nat) (fun st_ => [(5, .int .i64 (st_ : Int))]) (fun st_ H => (st_ ≤ us.length) ∧ (∀ j, j < st_ → isEl X.p X.s (us.getD j z8)) ∧ (Ext h1_1 H)) (fun st_ => us.length - st_) 0 ?_ ?_
  ·exact ⟨by omega, fun j h => by omega, Ext.refl _⟩
  ·rintro k h4 ee3 ⟨hk, hz, cL2⟩
   replace hb0_0 := BoxAt.ext hb0_0 cL2
   have := Ext.size cL2
   replace eB := Ext.trans eB cL2
   simp only [List.cons_append, List.nil_append]
   refine den_seq ?_
   refine den_seq ?_
   refine den_region TTok ?_
   intro K hK
   simp -implicitDefEqProofs (disch := first | decide | assumption | omega) only [go_sem, REl.len rU]
   refine hK _ _ ?_
   clear hK K
   refine den_cond rfl (fun c1 => ?_) (fun c1 => ?_)
   ·try simp only [decide_eq_true_eq] at c1
    refine den_skip ?_
    refine den_seq ?_
    refine den_block ?_
    refine den_seq ?_
    refine den_draw TTok mixed [] [(0, true), (1, true), (2, true), (3, true), (4, true), (5, true), (6, true), (7, true), (8, false), (9, true)] (by kernel_rfl) ?_
    intro K hK
    simp -implicitDefEqProofs (disch := first | decide | assumption | omega) only [go_sem, fa34_0, fa34_1, ld2, REl.idx rU, REl.ld rU (Ext.pres eB), BoxAt.dgP hb0_0, BoxAt.dgS hb0_0, Nat.zero_add]
    refine CallA.mono (sSm_ok  X.p X.s ((us).getD k z8) _  (hby _)) ?_
    intro v_ h6_8
    rintro ⟨rfl, e6_8⟩
    replace hb0_0 := BoxAt.ext hb0_0 e6_8
    have := Ext.size e6_8
    replace eB := Ext.trans eB e6_8
    replace cL2 := Ext.trans cL2 e6_8
    refine plK_pres (Ext.pres e6_8) ?_
    try simp -implicitDefEqProofs (disch := first | decide | assumption | omega) only [go_sem]
    refine hK _ _ ?_
    clear hK K
    refine den_cond rfl (fun c2 => ?_) (fun c2 => ?_)
    ·try simp only [Bool.not_eq_true'] at c2
     refine den_seq ?_
     refine den_region TTok ?_
     intro K hK
     simp -implicitDefEqProofs (disch := first | decide | assumption | omega) only [go_sem]
     refine hK _ _ ?_
     clear hK K
     refine den_ret ?_
     simp (disch := decide) only [resP_1, puts_same]
     rw [cdL_1 (fun hh => by have h2 := isElB_t.2 (hh.2 k (by omega)); have h3 := c2; rw [h2] at h3; cases h3)]
     exact ⟨rfl, eB⟩
    ·try simp only [Bool.not_eq_false'] at c2
     refine den_skip ?_
     refine den_blk ?_
     refine den_region TTok ?_
     intro K hK
     simp -implicitDefEqProofs (disch := first | decide | assumption | omega) only [go_sem, wrap_id]
     refine hK _ _ ?_
     clear hK K
     refine den_stop ?_
     exact ⟨k + 1, by simp [HasL, puts_at], ⟨by first | omega | (dsimp only; omega), fun j hj => by
 try dsimp only at hj
 by_cases hjk : j = k
 ·subst hjk; exact isElB_t.1 c2
 ·exact hz j (by omega), cL2⟩, by first | omega | (dsimp only; omega)⟩
   ·try simp only [decide_eq_false_iff_not] at c1
    refine den_exit ?_
    refine denX_code ?_
    refine denX_stop ?_
    refine denX_hit ?_
    refine den_seq ?_
    refine den_region TTok ?_
    intro K hK
    simp -implicitDefEqProofs (disch := first | decide | assumption | omega) only [go_sem]
    refine hK _ _ ?_
    clear hK K
    refine den_ret ?_
    simp (disch := decide) only [resP_1, puts_same]
    rw [cdL_0 c0 (fun j hj => hz j (by omega))]
    exact ⟨rfl, eB⟩
end Go.Proofs.Ytacajcjibhifmaa

namespace Go.Proofs.Ytacajcjibhifmaa
open Go
set_option maxRecDepth 100000 in
set_option maxHeartbeats 4000000 in
theorem iMl_ok (X : Dg) (u : Nat → Int) (v : Nat → Int) (h : Heap)  (hBX : DgB X) (hByu : By u) (hByv : By v) : CallA Try.prog 13 #[.agg (dgA X), .agg (elA u), .agg (elA v)] h fun v' h' => v' = .tuple #[.agg (elA ((mlP X u v).1)), .int .i64 ((mlP X u v).2)] ∧ Ext h h' := by
 refine callA_intro TTok (args := [_, _, _]) Try.func13 (by kernel_rfl) rfl 28 rfl (by simp) [.cell 6 30, .tmp 7] rfl ?_
 simp only [idxs, Nat.reduceAdd]
 refine den_seq ?_
 refine den_region TTok ?_
 intro K hK
 simp -implicitDefEqProofs (disch := first | decide | assumption | omega) only [go_sem]
 refine op_box (cs := dgA X) rfl ?_
 intro h0_0 e0_0 hb0_0 z0_0
 have := Ext.size e0_0
 have eB := e0_0
 have hfhb0_0 : Fresh h.size [h.size] := Fresh.one _
 have hlhb0_0 := one_lt (show h.size < h0_0.size by omega)
 try simp -implicitDefEqProofs (disch := first | decide | assumption | omega) only [go_sem]
 refine op_box (cs := elA u) rfl ?_
 intro h0_1 e0_1 hb0_1 z0_1
 replace hb0_0 := BoxAt.ext hb0_0 e0_1
 have := Ext.size e0_1
 replace eB := Ext.trans eB e0_1
 have hfhb0_1 : Fresh h0_0.size [h0_0.size] := Fresh.one _
 have hlhb0_1 := one_lt (show h0_0.size < h0_1.size by omega)
 try simp -implicitDefEqProofs (disch := first | decide | assumption | omega) only [go_sem]
 refine op_box (cs := elA v) rfl ?_
 intro h0_2 e0_2 hb0_2 z0_2
 replace hb0_0 := BoxAt.ext hb0_0 e0_2
 replace hb0_1 := BoxAt.ext hb0_1 e0_2
 have := Ext.size e0_2
 replace eB := Ext.trans eB e0_2
 have hfhb0_2 : Fresh h0_1.size [h0_1.size] := Fresh.one _
 have hlhb0_2 := one_lt (show h0_1.size < h0_2.size by omega)
 try simp -implicitDefEqProofs (disch := first | decide | assumption | omega) only [go_sem]
 refine op_alloc (cs := elA z8) (by kernel_rfl) ?_
 intro h0_3 e0_3 hb0_3 z0_3
 replace hb0_0 := BoxAt.ext hb0_0 e0_3
 replace hb0_1 := BoxAt.ext hb0_1 e0_3
 replace hb0_2 := BoxAt.ext hb0_2 e0_3
 have := Ext.size e0_3
 replace eB := Ext.trans eB e0_3
 have hfhb0_3 : Fresh h0_2.size [h0_2.size] := Fresh.one _
 have hlhb0_3 := one_lt (show h0_2.size < h0_3.size by omega)
 try simp -implicitDefEqProofs (disch := first | decide | assumption | omega) only [go_sem]
 refine hK _ _ ?_
 clear hK K
 refine den_seq ?_
 refine den_seq ?_
 refine den_merge [(22, .bool ((((!((dgB X))) || (!((isElB X.p X.s u)))) || (!((isElB X.p X.s v))))))] [3, 4, 5, 6] (fun H => Ext h0_3 H) ?_ ?_
  -- a way
 ·refine den_region TTok ?_
  intro K hK
  simp -implicitDefEqProofs (disch := first | decide | assumption | (simp (disch := decide) only [gvA, eq_self, if_true, if_false, Bool.false_eq_true]; done) | omega) only [go_sem, BoxAt.dgL hb0_0]
  refine CallA.mono (iDg_ok  X _  hBX) ?_
  intro v_ h1_1
  rintro ⟨rfl, e1_1⟩
  replace hb0_0 := BoxAt.ext hb0_0 e1_1
  replace hb0_1 := BoxAt.ext hb0_1 e1_1
  replace hb0_2 := BoxAt.ext hb0_2 e1_1
  replace hb0_3 := BoxAt.ext hb0_3 e1_1
  have := Ext.size e1_1
  replace eB := Ext.trans eB e1_1
  try simp -implicitDefEqProofs (disch := first | decide | assumption | (simp (disch := decide) only [gvA, eq_self, if_true, if_false, Bool.false_eq_true]; done) | omega) only [go_sem]
  refine opsP_F (by simp (disch := decide) only [slotOf_zero, slotOf_succ, Option.map_some, puts_same]; rfl) (fun g1 => ?_) (fun g1 => ?_)
  ·try simp -implicitDefEqProofs (disch := first | decide | assumption | (simp (disch := decide) only [gvA, eq_self, if_true, if_false, Bool.false_eq_true, g1]; done) | omega) only [go_sem, BoxAt.dgL hb0_0, BoxAt.elL hb0_1, g1, if_false, Bool.false_eq_true]
   refine CallA.mono (iEl_ok  X u _  hByu) ?_
   intro v_ h1_6
   rintro ⟨rfl, e1_6⟩
   replace hb0_0 := BoxAt.ext hb0_0 e1_6
   replace hb0_1 := BoxAt.ext hb0_1 e1_6
   replace hb0_2 := BoxAt.ext hb0_2 e1_6
   replace hb0_3 := BoxAt.ext hb0_3 e1_6
   have := Ext.size e1_6
   replace eB := Ext.trans eB e1_6
   try simp -implicitDefEqProofs (disch := first | decide | assumption | (simp (disch := decide) only [gvA, eq_self, if_true, if_false, Bool.false_eq_true, g1]; done) | omega) only [go_sem]
   refine opsP_F (by simp (disch := decide) only [slotOf_zero, slotOf_succ, Option.map_some, puts_same]; rfl) (fun g2 => ?_) (fun g2 => ?_)
   ·try simp -implicitDefEqProofs (disch := first | decide | assumption | (simp (disch := decide) only [gvA, eq_self, if_true, if_false, Bool.false_eq_true, g1, g2]; done) | omega) only [go_sem, BoxAt.dgL hb0_0, BoxAt.elL hb0_2, g2, if_false, Bool.false_eq_true]
    refine CallA.mono (iEl_ok  X v _  hByv) ?_
    intro v_ h1_12
    rintro ⟨rfl, e1_12⟩
    replace hb0_0 := BoxAt.ext hb0_0 e1_12
    replace hb0_1 := BoxAt.ext hb0_1 e1_12
    replace hb0_2 := BoxAt.ext hb0_2 e1_12
    replace hb0_3 := BoxAt.ext hb0_3 e1_12
    have := Ext.size e1_12
    replace eB := Ext.trans eB e1_12
    try simp -implicitDefEqProofs (disch := first | decide | assumption | (simp (disch := decide) only [gvA, eq_self, if_true, if_false, Bool.false_eq_true, g1, g2]; done) | omega) only [go_sem]
    refine hK _ _ ?_
    clear hK K
    refine den_stop ?_
    refine ⟨?_, (Ext.trans (Ext.trans e1_1 e1_6) e1_12)⟩
    first | (simp (disch := decide) only [go_sem, g1, g2, eq_self, Bool.false_or, Bool.or_false]; done) | simp [HasL, sel, puts_at, g1, g2]
   ·try simp -implicitDefEqProofs (disch := first | decide | assumption | (simp (disch := decide) only [gvA, eq_self, if_true, if_false, Bool.false_eq_true, g1, g2]; done) | omega) only [go_sem, g2, eq_self, if_true]
    refine hK _ _ ?_
    clear hK K
    refine den_stop ?_
    refine ⟨?_, (Ext.trans e1_1 e1_6)⟩
    first | (simp (disch := decide) only [go_sem, g1, g2, eq_self, Bool.true_or, Bool.or_true]; done) | simp [HasL, sel, puts_at, g1, g2]
  ·try simp -implicitDefEqProofs (disch := first | decide | assumption | (simp (disch := decide) only [gvA, eq_self, if_true, if_false, Bool.false_eq_true, g1]; done) | omega) only [go_sem, g1, eq_self, if_true]
   refine hK _ _ ?_
   clear hK K
   refine den_stop ?_
   refine ⟨?_, e1_1⟩
   first | (simp (disch := decide) only [go_sem, g1, eq_self, Bool.true_or]; done) | simp [HasL, sel, puts_at, g1]
 intro en3 h4 e5
 replace hb0_0 := BoxAt.ext hb0_0 e5
 replace hb0_1 := BoxAt.ext hb0_1 e5
 replace hb0_2 := BoxAt.ext hb0_2 e5
 replace hb0_3 := BoxAt.ext hb0_3 e5
 have := Ext.size e5
 replace eB := Ext.trans eB e5
 simp (disch := decide) only [go_sem]
 refine den_cond rfl (fun c0 => ?_) (fun c0 => ?_)
 ·try simp only [Bool.not_eq_true', Bool.or_eq_true] at c0
  refine den_seq ?_
  refine den_region TTok ?_
  intro K hK
  simp -implicitDefEqProofs (disch := first | decide | assumption | omega) only [go_sem, build_el]
  refine op_storeB (o := 0) (vs := elA z8) (cs' := elA z8) st30 hb0_3 rfl rfl (elA_sz _) (by rw [elA_sz]; decide) elA_one elA_all ?_
  intro h2_1 hb0_3 c2_1
  have := c2_1.size
  replace eB := Ext.then eB c2_1 (ge_of hfhb0_3 (by omega))
  try simp -implicitDefEqProofs (disch := first | decide | assumption | omega) only [go_sem]
  refine hK _ _ ?_
  clear hK K
  refine den_ret ?_
  simp -implicitDefEqProofs (disch := first | decide | assumption | omega) only [go_sem, BoxAt.elL hb0_3, resP_ct]
  rw [mlP_n (fun hh => by have h1 := hh.1; have h2 := isElB_t.2 hh.2.1; have h3 := isElB_t.2 hh.2.2; rw [h1, h2, h3] at c0; revert c0; simp)]
  exact ⟨rfl, eB⟩
 ·have hall : dgB X = true ∧ isElB X.p X.s u = true ∧ isElB X.p X.s v = true := by revert c0; cases dgB X <;> cases isElB X.p X.s u <;> cases isElB X.p X.s v <;> simp
  have hdg := hall.1
  have heu := isElB_t.1 hall.2.1
  have hev := isElB_t.1 hall.2.2
  have hfm := (dgB_t.1 hdg).fm
  have hpb := isP_bnd hfm.p
  have hpG : 0 < X.p ∧ X.p ≤ 7 := hpb
  have hs8 := hfm.s
  have hsG : 0 ≤ X.s ∧ X.s ≤ 8 := by omega
  refine den_skip ?_
  refine den_seq ?_
  refine den_region TTok ?_
  intro K hK
  simp -implicitDefEqProofs (disch := first | decide | assumption | omega) only [go_sem, BoxAt.dgL hb0_0, BoxAt.elL hb0_1, BoxAt.elL hb0_2]
  refine CallA.mono (iTms_ok  X u v _  hpG hByu hByv hBX.tab) ?_
  intro v_ h3_3
  rintro ⟨rfl, e3_3⟩
  replace hb0_0 := BoxAt.ext hb0_0 e3_3
  replace hb0_1 := BoxAt.ext hb0_1 e3_3
  replace hb0_2 := BoxAt.ext hb0_2 e3_3
  replace hb0_3 := BoxAt.ext hb0_3 e3_3
  have := Ext.size e3_3
  replace eB := Ext.trans eB e3_3
  refine op_storeB (o := 0) (vs := elA (timesP X.p X.tab u v 8)) (cs' := elA (timesP X.p X.tab u v 8)) st30 hb0_3 rfl rfl (elA_sz _) (by rw [elA_sz]; decide) elA_one elA_all ?_
  intro h3_4 hb0_3 c3_4
  replace hb0_0 := BoxAt.chgA hb0_0 c3_4 (apart_lt hlhb0_0 hfhb0_3 (by omega))
  replace hb0_1 := BoxAt.chgA hb0_1 c3_4 (apart_lt hlhb0_1 hfhb0_3 (by omega))
  replace hb0_2 := BoxAt.chgA hb0_2 c3_4 (apart_lt hlhb0_2 hfhb0_3 (by omega))
  have := c3_4.size
  replace eB := Ext.then eB c3_4 (ge_of hfhb0_3 (by omega))
  try simp -implicitDefEqProofs (disch := first | decide | assumption | omega) only [go_sem]
  refine hK _ _ ?_
  clear hK K
  refine den_ret ?_
  simp -implicitDefEqProofs (disch := first | decide | assumption | omega) only [go_sem, BoxAt.elL hb0_3, resP_ct]
  rw [mlP_y ⟨hdg, heu, hev⟩]
  exact ⟨rfl, eB⟩

set_option maxRecDepth 100000 in
set_option maxHeartbeats 4000000 in
theorem iDi_ok (X : Dg) (u : Nat → Int) (h : Heap)  (hBX : DgB X) (hByu : By u) : CallA Try.prog 18 #[.agg (dgA X), .agg (elA u)] h fun v' h' => v' = .tuple #[.agg (elA ((diP X u).1)), .int .i64 ((diP X u).2)] ∧ Ext h h' := by
 refine callA_intro TTok (args := [_, _]) Try.func18 (by kernel_rfl) rfl 19 rfl (by simp) [.cell 4 30, .tmp 5] rfl ?_
 simp only [idxs, Nat.reduceAdd]
 refine den_seq ?_
 refine den_region TTok ?_
 intro K hK
 simp -implicitDefEqProofs (disch := first | decide | assumption | omega) only [go_sem]
 refine op_box (cs := dgA X) rfl ?_
 intro h0_0 e0_0 hb0_0 z0_0
 have := Ext.size e0_0
 have eB := e0_0
 have hfhb0_0 : Fresh h.size [h.size] := Fresh.one _
 have hlhb0_0 := one_lt (show h.size < h0_0.size by omega)
 try simp -implicitDefEqProofs (disch := first | decide | assumption | omega) only [go_sem]
 refine op_box (cs := elA u) rfl ?_
 intro h0_1 e0_1 hb0_1 z0_1
 replace hb0_0 := BoxAt.ext hb0_0 e0_1
 have := Ext.size e0_1
 replace eB := Ext.trans eB e0_1
 have hfhb0_1 : Fresh h0_0.size [h0_0.size] := Fresh.one _
 have hlhb0_1 := one_lt (show h0_0.size < h0_1.size by omega)
 try simp -implicitDefEqProofs (disch := first | decide | assumption | omega) only [go_sem]
 refine op_alloc (cs := elA z8) (by kernel_rfl) ?_
 intro h0_2 e0_2 hb0_2 z0_2
 replace hb0_0 := BoxAt.ext hb0_0 e0_2
 replace hb0_1 := BoxAt.ext hb0_1 e0_2
 have := Ext.size e0_2
 replace eB := Ext.trans eB e0_2
 have hfhb0_2 : Fresh h0_1.size [h0_1.size] := Fresh.one _
 have hlhb0_2 := one_lt (show h0_1.size < h0_2.size by omega)
 try simp -implicitDefEqProofs (disch := first | decide | assumption | omega) only [go_sem]
 refine hK _ _ ?_
 clear hK K
 refine den_seq ?_
 refine den_seq ?_
 refine den_merge [(14, .bool (((!((dgB X))) || (!((isElB X.p X.s u))))))] [2, 3, 4] (fun H => Ext h0_2 H) ?_ ?_
  -- a way
 ·refine den_region TTok ?_
  intro K hK
  simp -implicitDefEqProofs (disch := first | decide | assumption | (simp (disch := decide) only [gvA, eq_self, if_true, if_false, Bool.false_eq_true]; done) | omega) only [go_sem, BoxAt.dgL hb0_0]
  refine CallA.mono (iDg_ok  X _  hBX) ?_
  intro v_ h1_1
  rintro ⟨rfl, e1_1⟩
  replace hb0_0 := BoxAt.ext hb0_0 e1_1
  replace hb0_1 := BoxAt.ext hb0_1 e1_1
  replace hb0_2 := BoxAt.ext hb0_2 e1_1
  have := Ext.size e1_1
  replace eB := Ext.trans eB e1_1
  try simp -implicitDefEqProofs (disch := first | decide | assumption | (simp (disch := decide) only [gvA, eq_self, if_true, if_false, Bool.false_eq_true]; done) | omega) only [go_sem]
  refine opsP_F (by simp (disch := decide) only [slotOf_zero, slotOf_succ, Option.map_some, puts_same]; rfl) (fun g1 => ?_) (fun g1 => ?_)
  ·try simp -implicitDefEqProofs (disch := first | decide | assumption | (simp (disch := decide) only [gvA, eq_self, if_true, if_false, Bool.false_eq_true, g1]; done) | omega) only [go_sem, BoxAt.dgL hb0_0, BoxAt.elL hb0_1, g1, if_false, Bool.false_eq_true]
   refine CallA.mono (iEl_ok  X u _  hByu) ?_
   intro v_ h1_6
   rintro ⟨rfl, e1_6⟩
   replace hb0_0 := BoxAt.ext hb0_0 e1_6
   replace hb0_1 := BoxAt.ext hb0_1 e1_6
   replace hb0_2 := BoxAt.ext hb0_2 e1_6
   have := Ext.size e1_6
   replace eB := Ext.trans eB e1_6
   try simp -implicitDefEqProofs (disch := first | decide | assumption | (simp (disch := decide) only [gvA, eq_self, if_true, if_false, Bool.false_eq_true, g1]; done) | omega) only [go_sem]
   refine hK _ _ ?_
   clear hK K
   refine den_stop ?_
   refine ⟨?_, (Ext.trans e1_1 e1_6)⟩
   first | (simp (disch := decide) only [go_sem, g1, eq_self, Bool.false_or]; done) | simp [HasL, sel, puts_at, g1]
  ·try simp -implicitDefEqProofs (disch := first | decide | assumption | (simp (disch := decide) only [gvA, eq_self, if_true, if_false, Bool.false_eq_true, g1]; done) | omega) only [go_sem, g1, eq_self, if_true]
   refine hK _ _ ?_
   clear hK K
   refine den_stop ?_
   refine ⟨?_, e1_1⟩
   first | (simp (disch := decide) only [go_sem, g1, eq_self, Bool.true_or]; done) | simp [HasL, sel, puts_at, g1]
 intro en2 h3 e4
 replace hb0_0 := BoxAt.ext hb0_0 e4
 replace hb0_1 := BoxAt.ext hb0_1 e4
 replace hb0_2 := BoxAt.ext hb0_2 e4
 have := Ext.size e4
 replace eB := Ext.trans eB e4
 simp (disch := decide) only [go_sem]
 refine den_cond rfl (fun c0 => ?_) (fun c0 => ?_)
 ·try simp only [Bool.not_eq_true', Bool.or_eq_true] at c0
  refine den_seq ?_
  refine den_region TTok ?_
  intro K hK
  simp -implicitDefEqProofs (disch := first | decide | assumption | omega) only [go_sem, build_el]
  refine op_storeB (o := 0) (vs := elA z8) (cs' := elA z8) st30 hb0_2 rfl rfl (elA_sz _) (by rw [elA_sz]; decide) elA_one elA_all ?_
  intro h2_1 hb0_2 c2_1
  have := c2_1.size
  replace eB := Ext.then eB c2_1 (ge_of hfhb0_2 (by omega))
  try simp -implicitDefEqProofs (disch := first | decide | assumption | omega) only [go_sem]
  refine hK _ _ ?_
  clear hK K
  refine den_ret ?_
  simp -implicitDefEqProofs (disch := first | decide | assumption | omega) only [go_sem, BoxAt.elL hb0_2, resP_ct]
  rw [diP_n (fun hh => by have h1 := hh.1; have h2 := isElB_t.2 hh.2; rw [h1, h2] at c0; revert c0; simp)]
  exact ⟨rfl, eB⟩
 ·have hall : dgB X = true ∧ isElB X.p X.s u = true := by revert c0; cases dgB X <;> cases isElB X.p X.s u <;> simp
  have hdg := hall.1
  have heu := isElB_t.1 hall.2
  have hfm := (dgB_t.1 hdg).fm
  have hpb := isP_bnd hfm.p
  have hpG : 0 < X.p ∧ X.p ≤ 7 := hpb
  have hs8 := hfm.s
  have hsG : 0 ≤ X.s ∧ X.s ≤ 8 := by omega
  refine den_skip ?_
  refine den_seq ?_
  refine den_region TTok ?_
  intro K hK
  simp -implicitDefEqProofs (disch := first | decide | assumption | omega) only [go_sem, BoxAt.dgL hb0_0, BoxAt.elL hb0_1]
  refine CallA.mono (iDif_ok  X u _  hpG hByu hBX.dif) ?_
  intro v_ h3_2
  rintro ⟨rfl, e3_2⟩
  replace hb0_0 := BoxAt.ext hb0_0 e3_2
  replace hb0_1 := BoxAt.ext hb0_1 e3_2
  replace hb0_2 := BoxAt.ext hb0_2 e3_2
  have := Ext.size e3_2
  replace eB := Ext.trans eB e3_2
  refine op_storeB (o := 0) (vs := elA (dfI X.p X.dif u 8)) (cs' := elA (dfI X.p X.dif u 8)) st30 hb0_2 rfl rfl (elA_sz _) (by rw [elA_sz]; decide) elA_one elA_all ?_
  intro h3_3 hb0_2 c3_3
  replace hb0_0 := BoxAt.chgA hb0_0 c3_3 (apart_lt hlhb0_0 hfhb0_2 (by omega))
  replace hb0_1 := BoxAt.chgA hb0_1 c3_3 (apart_lt hlhb0_1 hfhb0_2 (by omega))
  have := c3_3.size
  replace eB := Ext.then eB c3_3 (ge_of hfhb0_2 (by omega))
  try simp -implicitDefEqProofs (disch := first | decide | assumption | omega) only [go_sem]
  refine hK _ _ ?_
  clear hK K
  refine den_ret ?_
  simp -implicitDefEqProofs (disch := first | decide | assumption | omega) only [go_sem, BoxAt.elL hb0_2, resP_ct]
  rw [diP_y ⟨hdg, heu⟩]
  exact ⟨rfl, eB⟩

set_option maxRecDepth 100000 in
set_option maxHeartbeats 4000000 in
theorem sMl_ok (X : Dg) (u : Nat → Int) (v : Nat → Int) (h : Heap)  (hBX : DgB X) (hByu : By u) (hByv : By v) : CallA Try.prog 14 #[.agg (dgA X), .agg (elA u), .agg (elA v)] h fun v' h' => v' = .tuple #[.agg (elA ((mlP X u v).1)), .int .i64 ((mlP X u v).2)] ∧ Ext h h' := by
 refine callA_intro TTok (args := [_, _, _]) Try.func14 (by kernel_rfl) rfl 22 rfl (by simp) [.cell 6 30, .tmp 7] rfl ?_
 simp only [idxs, Nat.reduceAdd]
 refine den_seq ?_
 refine den_region TTok ?_
 intro K hK
 simp -implicitDefEqProofs (disch := first | decide | assumption | omega) only [go_sem]
 refine op_box (cs := dgA X) rfl ?_
 intro h0_0 e0_0 hb0_0 z0_0
 have := Ext.size e0_0
 have eB := e0_0
 have hfhb0_0 : Fresh h.size [h.size] := Fresh.one _
 have hlhb0_0 := one_lt (show h.size < h0_0.size by omega)
 try simp -implicitDefEqProofs (disch := first | decide | assumption | omega) only [go_sem]
 refine op_box (cs := elA u) rfl ?_
 intro h0_1 e0_1 hb0_1 z0_1
 replace hb0_0 := BoxAt.ext hb0_0 e0_1
 have := Ext.size e0_1
 replace eB := Ext.trans eB e0_1
 have hfhb0_1 : Fresh h0_0.size [h0_0.size] := Fresh.one _
 have hlhb0_1 := one_lt (show h0_0.size < h0_1.size by omega)
 try simp -implicitDefEqProofs (disch := first | decide | assumption | omega) only [go_sem]
 refine op_box (cs := elA v) rfl ?_
 intro h0_2 e0_2 hb0_2 z0_2
 replace hb0_0 := BoxAt.ext hb0_0 e0_2
 replace hb0_1 := BoxAt.ext hb0_1 e0_2
 have := Ext.size e0_2
 replace eB := Ext.trans eB e0_2
 have hfhb0_2 : Fresh h0_1.size [h0_1.size] := Fresh.one _
 have hlhb0_2 := one_lt (show h0_1.size < h0_2.size by omega)
 try simp -implicitDefEqProofs (disch := first | decide | assumption | omega) only [go_sem]
 refine op_alloc (cs := elA z8) (by kernel_rfl) ?_
 intro h0_3 e0_3 hb0_3 z0_3
 replace hb0_0 := BoxAt.ext hb0_0 e0_3
 replace hb0_1 := BoxAt.ext hb0_1 e0_3
 replace hb0_2 := BoxAt.ext hb0_2 e0_3
 have := Ext.size e0_3
 replace eB := Ext.trans eB e0_3
 have hfhb0_3 : Fresh h0_2.size [h0_2.size] := Fresh.one _
 have hlhb0_3 := one_lt (show h0_2.size < h0_3.size by omega)
 try simp -implicitDefEqProofs (disch := first | decide | assumption | omega) only [go_sem]
 refine hK _ _ ?_
 clear hK K
 refine den_seq ?_
 refine den_seq ?_
 refine den_region TTok ?_
 intro K hK
 simp -implicitDefEqProofs (disch := first | decide | assumption | omega) only [go_sem, BoxAt.dgL hb0_0, BoxAt.elL hb0_1, BoxAt.elL hb0_2]
 refine op_bsE2 (u0 := u) (u1 := v) rfl rfl ?_
 intro v1_3 h1_3 ho1_3 e1_3
 replace hb0_0 := BoxAt.ext hb0_0 e1_3
 replace hb0_1 := BoxAt.ext hb0_1 e1_3
 replace hb0_2 := BoxAt.ext hb0_2 e1_3
 replace hb0_3 := BoxAt.ext hb0_3 e1_3
 have := Ext.size e1_3
 replace eB := Ext.trans eB e1_3
 have xr1 := Ext.refl h1_3
 try simp -implicitDefEqProofs (disch := first | decide | assumption | omega) only [go_sem]
 refine CallA.mono (sCdL_ok X _ [u, v] _ hBX (REl.pres ho1_3 (Ext.pres xr1)) (by intro j; match j with | 0 => exact (hByu) | 1 => exact (hByv) | _ + 2 => exact By.z8) (by simp)) ?_
 intro v_ h1_4
 rintro ⟨rfl, e1_4⟩
 replace hb0_0 := BoxAt.ext hb0_0 e1_4
 replace hb0_1 := BoxAt.ext hb0_1 e1_4
 replace hb0_2 := BoxAt.ext hb0_2 e1_4
 replace hb0_3 := BoxAt.ext hb0_3 e1_4
 have := Ext.size e1_4
 replace eB := Ext.trans eB e1_4
 replace xr1 := Ext.trans xr1 e1_4
 refine hK _ _ ?_
 clear hK K
 refine den_seq ?_
 refine den_region TTok ?_
 intro K hK
 simp -implicitDefEqProofs (disch := first | decide | assumption | omega) only [go_sem]
 refine hK _ _ ?_
 clear hK K
 refine den_cond rfl (fun c0 => ?_) (fun c0 => ?_)
 ·try simp only [bne_iff_ne, ne_eq] at c0
  refine den_seq ?_
  refine den_region TTok ?_
  intro K hK
  simp -implicitDefEqProofs (disch := first | decide | assumption | omega) only [go_sem, build_el]
  refine op_storeB (o := 0) (vs := elA z8) (cs' := elA z8) st30 hb0_3 rfl rfl (elA_sz _) (by rw [elA_sz]; decide) elA_one elA_all ?_
  intro h3_2 hb0_3 c3_2
  have := c3_2.size
  replace eB := Ext.then eB c3_2 (ge_of hfhb0_3 (by omega))
  try simp -implicitDefEqProofs (disch := first | decide | assumption | omega) only [go_sem]
  refine hK _ _ ?_
  clear hK K
  refine den_ret ?_
  simp -implicitDefEqProofs (disch := first | decide | assumption | omega) only [go_sem, BoxAt.elL hb0_3, resP_ct]
  have hcn := cdL_n (X := X) (us := [u, v]) (by first | exact c0 | simpa using c0)
  rw [cdL_1 hcn, mlP_n (fun hh => hcn ⟨hh.1, fun j hj => by
   have h2 : j = 0 ∨ j = 1 := by simp at hj; omega
   rcases h2 with rfl | rfl
   ·exact hh.2.1
   ·exact hh.2.2⟩)]
  exact ⟨rfl, eB⟩
 ·try simp only [bne_eq_false_iff_eq] at c0
  have hcl := cdL_y (X := X) (us := [u, v]) (by first | exact c0 | simpa using c0)
  have hdg := hcl.1
  have heu : isEl X.p X.s u := hcl.2 0 (by simp)
  have hev : isEl X.p X.s v := hcl.2 1 (by simp)
  have hfm := (dgB_t.1 hdg).fm
  have hpb := isP_bnd hfm.p
  have hpG : 0 < X.p ∧ X.p ≤ 7 := hpb
  have hs8 := hfm.s
  have hsG : 0 ≤ X.s ∧ X.s ≤ 8 := by omega
  refine den_skip ?_
  refine den_seq ?_
  refine den_region TTok ?_
  intro K hK
  simp -implicitDefEqProofs (disch := first | decide | assumption | omega) only [go_sem, BoxAt.dgL hb0_0, BoxAt.elL hb0_1, BoxAt.elL hb0_2]
  refine CallA.mono (sTms_ok  X u v _  hpG hsG hByu hByv hBX.tab (fun i hi => (heu i hi).1) (fun i hi => (hev i hi).1)) ?_
  intro v_ h4_3
  rintro ⟨rfl, e4_3⟩
  replace hb0_0 := BoxAt.ext hb0_0 e4_3
  replace hb0_1 := BoxAt.ext hb0_1 e4_3
  replace hb0_2 := BoxAt.ext hb0_2 e4_3
  replace hb0_3 := BoxAt.ext hb0_3 e4_3
  have := Ext.size e4_3
  replace eB := Ext.trans eB e4_3
  replace xr1 := Ext.trans xr1 e4_3
  refine op_storeB (o := 0) (vs := elA (timesP X.p X.tab u v X.s.toNat)) (cs' := elA (timesP X.p X.tab u v X.s.toNat)) st30 hb0_3 rfl rfl (elA_sz _) (by rw [elA_sz]; decide) elA_one elA_all ?_
  intro h4_4 hb0_3 c4_4
  replace hb0_0 := BoxAt.chgA hb0_0 c4_4 (apart_lt hlhb0_0 hfhb0_3 (by omega))
  replace hb0_1 := BoxAt.chgA hb0_1 c4_4 (apart_lt hlhb0_1 hfhb0_3 (by omega))
  replace hb0_2 := BoxAt.chgA hb0_2 c4_4 (apart_lt hlhb0_2 hfhb0_3 (by omega))
  have := c4_4.size
  replace eB := Ext.then eB c4_4 (ge_of hfhb0_3 (by omega))
  try simp -implicitDefEqProofs (disch := first | decide | assumption | omega) only [go_sem]
  refine hK _ _ ?_
  clear hK K
  refine den_ret ?_
  simp -implicitDefEqProofs (disch := first | decide | assumption | omega) only [go_sem, BoxAt.elL hb0_3, resP_ct]
  rw [mlP_y ⟨hdg, heu, hev⟩, times_s hsG heu hev]
  exact ⟨rfl, eB⟩

set_option maxRecDepth 100000 in
set_option maxHeartbeats 4000000 in
theorem sDi_ok (X : Dg) (u : Nat → Int) (h : Heap)  (hBX : DgB X) (hByu : By u) : CallA Try.prog 19 #[.agg (dgA X), .agg (elA u)] h fun v' h' => v' = .tuple #[.agg (elA ((diP X u).1)), .int .i64 ((diP X u).2)] ∧ Ext h h' := by
 refine callA_intro TTok (args := [_, _]) Try.func19 (by kernel_rfl) rfl 18 rfl (by simp) [.cell 4 30, .tmp 5] rfl ?_
 simp only [idxs, Nat.reduceAdd]
 refine den_seq ?_
 refine den_region TTok ?_
 intro K hK
 simp -implicitDefEqProofs (disch := first | decide | assumption | omega) only [go_sem]
 refine op_box (cs := dgA X) rfl ?_
 intro h0_0 e0_0 hb0_0 z0_0
 have := Ext.size e0_0
 have eB := e0_0
 have hfhb0_0 : Fresh h.size [h.size] := Fresh.one _
 have hlhb0_0 := one_lt (show h.size < h0_0.size by omega)
 try simp -implicitDefEqProofs (disch := first | decide | assumption | omega) only [go_sem]
 refine op_box (cs := elA u) rfl ?_
 intro h0_1 e0_1 hb0_1 z0_1
 replace hb0_0 := BoxAt.ext hb0_0 e0_1
 have := Ext.size e0_1
 replace eB := Ext.trans eB e0_1
 have hfhb0_1 : Fresh h0_0.size [h0_0.size] := Fresh.one _
 have hlhb0_1 := one_lt (show h0_0.size < h0_1.size by omega)
 try simp -implicitDefEqProofs (disch := first | decide | assumption | omega) only [go_sem]
 refine op_alloc (cs := elA z8) (by kernel_rfl) ?_
 intro h0_2 e0_2 hb0_2 z0_2
 replace hb0_0 := BoxAt.ext hb0_0 e0_2
 replace hb0_1 := BoxAt.ext hb0_1 e0_2
 have := Ext.size e0_2
 replace eB := Ext.trans eB e0_2
 have hfhb0_2 : Fresh h0_1.size [h0_1.size] := Fresh.one _
 have hlhb0_2 := one_lt (show h0_1.size < h0_2.size by omega)
 try simp -implicitDefEqProofs (disch := first | decide | assumption | omega) only [go_sem]
 refine hK _ _ ?_
 clear hK K
 refine den_seq ?_
 refine den_seq ?_
 refine den_region TTok ?_
 intro K hK
 simp -implicitDefEqProofs (disch := first | decide | assumption | omega) only [go_sem, BoxAt.dgL hb0_0, BoxAt.elL hb0_1]
 refine op_bsE1 (u0 := u) rfl ?_
 intro v1_2 h1_2 ho1_2 e1_2
 replace hb0_0 := BoxAt.ext hb0_0 e1_2
 replace hb0_1 := BoxAt.ext hb0_1 e1_2
 replace hb0_2 := BoxAt.ext hb0_2 e1_2
 have := Ext.size e1_2
 replace eB := Ext.trans eB e1_2
 have xr1 := Ext.refl h1_2
 try simp -implicitDefEqProofs (disch := first | decide | assumption | omega) only [go_sem]
 refine CallA.mono (sCdL_ok X _ [u] _ hBX (REl.pres ho1_2 (Ext.pres xr1)) (by intro j; match j with | 0 => exact (hByu) | _ + 1 => exact By.z8) (by simp)) ?_
 intro v_ h1_3
 rintro ⟨rfl, e1_3⟩
 replace hb0_0 := BoxAt.ext hb0_0 e1_3
 replace hb0_1 := BoxAt.ext hb0_1 e1_3
 replace hb0_2 := BoxAt.ext hb0_2 e1_3
 have := Ext.size e1_3
 replace eB := Ext.trans eB e1_3
 replace xr1 := Ext.trans xr1 e1_3
 refine hK _ _ ?_
 clear hK K
 refine den_seq ?_
 refine den_region TTok ?_
 intro K hK
 simp -implicitDefEqProofs (disch := first | decide | assumption | omega) only [go_sem]
 refine hK _ _ ?_
 clear hK K
 refine den_cond rfl (fun c0 => ?_) (fun c0 => ?_)
 ·try simp only [bne_iff_ne, ne_eq] at c0
  refine den_seq ?_
  refine den_region TTok ?_
  intro K hK
  simp -implicitDefEqProofs (disch := first | decide | assumption | omega) only [go_sem, build_el]
  refine op_storeB (o := 0) (vs := elA z8) (cs' := elA z8) st30 hb0_2 rfl rfl (elA_sz _) (by rw [elA_sz]; decide) elA_one elA_all ?_
  intro h3_2 hb0_2 c3_2
  have := c3_2.size
  replace eB := Ext.then eB c3_2 (ge_of hfhb0_2 (by omega))
  try simp -implicitDefEqProofs (disch := first | decide | assumption | omega) only [go_sem]
  refine hK _ _ ?_
  clear hK K
  refine den_ret ?_
  simp -implicitDefEqProofs (disch := first | decide | assumption | omega) only [go_sem, BoxAt.elL hb0_2, resP_ct]
  have hcn := cdL_n (X := X) (us := [u]) (by first | exact c0 | simpa using c0)
  rw [cdL_1 hcn, diP_n (fun hh => hcn ⟨hh.1, fun j hj => by
   have h2 : j = 0 := by simp at hj; omega
   subst h2
   exact hh.2⟩)]
  exact ⟨rfl, eB⟩
 ·try simp only [bne_eq_false_iff_eq] at c0
  have hcl := cdL_y (X := X) (us := [u]) (by first | exact c0 | simpa using c0)
  have hdg := hcl.1
  have heu : isEl X.p X.s u := hcl.2 0 (by simp)
  have hfm := (dgB_t.1 hdg).fm
  have hpb := isP_bnd hfm.p
  have hpG : 0 < X.p ∧ X.p ≤ 7 := hpb
  have hs8 := hfm.s
  have hsG : 0 ≤ X.s ∧ X.s ≤ 8 := by omega
  refine den_skip ?_
  refine den_seq ?_
  refine den_region TTok ?_
  intro K hK
  simp -implicitDefEqProofs (disch := first | decide | assumption | omega) only [go_sem, BoxAt.dgL hb0_0, BoxAt.elL hb0_1]
  refine CallA.mono (sDif_ok  X u _  hpG hsG hByu hBX.dif) ?_
  intro v_ h4_2
  rintro ⟨rfl, e4_2⟩
  replace hb0_0 := BoxAt.ext hb0_0 e4_2
  replace hb0_1 := BoxAt.ext hb0_1 e4_2
  replace hb0_2 := BoxAt.ext hb0_2 e4_2
  have := Ext.size e4_2
  replace eB := Ext.trans eB e4_2
  replace xr1 := Ext.trans xr1 e4_2
  refine op_storeB (o := 0) (vs := elA (dfI X.p X.dif u X.s.toNat)) (cs' := elA (dfI X.p X.dif u X.s.toNat)) st30 hb0_2 rfl rfl (elA_sz _) (by rw [elA_sz]; decide) elA_one elA_all ?_
  intro h4_3 hb0_2 c4_3
  replace hb0_0 := BoxAt.chgA hb0_0 c4_3 (apart_lt hlhb0_0 hfhb0_2 (by omega))
  replace hb0_1 := BoxAt.chgA hb0_1 c4_3 (apart_lt hlhb0_1 hfhb0_2 (by omega))
  have := c4_3.size
  replace eB := Ext.then eB c4_3 (ge_of hfhb0_2 (by omega))
  try simp -implicitDefEqProofs (disch := first | decide | assumption | omega) only [go_sem]
  refine hK _ _ ?_
  clear hK K
  refine den_ret ?_
  simp -implicitDefEqProofs (disch := first | decide | assumption | omega) only [go_sem, BoxAt.elL hb0_2, resP_ct]
  rw [diP_y ⟨hdg, heu⟩, df_s hpG.1 hsG heu]
  exact ⟨rfl, eB⟩

set_option maxRecDepth 100000 in
theorem sId_ok (X : Dg) (h : Heap)  (hBX : DgB X) : CallA Try.prog 16 #[.agg (dgA X)] h fun v' h' => v' = .bool (dgB X) ∧ Ext h h' := by
 refine callA_intro TTok (args := [_]) Try.func16 (by kernel_rfl) rfl 5 rfl (by simp) [.tmp 2] rfl ?_
 simp only [idxs]
 refine den_seq ?_
 refine den_region TTok ?_
 intro K hK
 simp -implicitDefEqProofs (disch := first | decide | assumption | omega) only [go_sem]
 refine op_box (cs := dgA X) rfl ?_
 intro h0_0 e0_0 hb0_0 z0_0
 have := Ext.size e0_0
 have eB := e0_0
 have hfhb0_0 : Fresh h.size [h.size] := Fresh.one _
 have hlhb0_0 := one_lt (show h.size < h0_0.size by omega)
 try simp -implicitDefEqProofs (disch := first | decide | assumption | omega) only [go_sem]
 refine hK _ _ ?_
 clear hK K
 refine den_seq ?_
 refine den_region TTok ?_
 intro K hK
 simp -implicitDefEqProofs (disch := first | decide | assumption | omega) only [go_sem, BoxAt.dgL hb0_0]
 refine CallA.mono (sDg_ok  X _  hBX) ?_
 intro v_ h1_1
 rintro ⟨rfl, e1_1⟩
 replace hb0_0 := BoxAt.ext hb0_0 e1_1
 have := Ext.size e1_1
 replace eB := Ext.trans eB e1_1
 refine hK _ _ ?_
 clear hK K
 refine den_ret ?_
 simp (disch := decide) only [resP_1, puts_same]
 exact ⟨by first | rfl | trivial, eB⟩
end Go.Proofs.Ytacajcjibhifmaa

namespace Go.Proofs.Ytacajcjibhifmaa
open Go
theorem getD_memI {L : List Int} {i : Nat} (h : i < L.length) : L.getD i 0 ∈ L := by
 rw [List.getD_eq_getElem?_getD, List.getElem?_eq_getElem h]
 exact List.getElem_mem h

set_option maxRecDepth 100000 in
theorem sPick_ok (v : Value) (z : Sc) (L : List Int) (vL : Value) (fL : List Nat) (fp : List Nat) (h : Heap) (hS : OSr h v z fp) (hfr : Fresh z.h.size fp) (hL : O1 h vL L fL) (apL : Apart fL fp) (hL1 : 1 ≤ L.length) (hL2 : L.length ≤ 100) : CallA Try.prog 57 #[v, vL] h fun u h' => ∃ x : Int, u = .int .i64 x ∧ x ∈ L ∧ OSr h' v z fp ∧ Chg fp h h' := by
 have hzs := OSr.sz hS
 have hlhL := OS.lt hL
 refine callA_intro TTok (args := [_, _]) Try.func57 (by kernel_rfl) rfl 12 rfl (by simp) [.tmp 4] rfl ?_
 simp only [idxs, Nat.reduceAdd]
 have hlhS := OSr.lt hS
 have cA : Chg fp h h := Chg.refl _ _
 refine den_seq ?_
 refine den_region TTok ?_
 intro K hK
 simp -implicitDefEqProofs (disch := first | decide | assumption | omega) only [go_sem]
 refine hK _ _ ?_
 clear hK K
 refine den_seq ?_
 refine den_region TTok ?_
 intro K hK
 simp -implicitDefEqProofs (disch := first | decide | assumption | omega) only [go_sem, RdS.len (OS.rd hL) sl55]
 refine CallA.mono (sNext_ok _ _ ((L).length : Int) _ _ hS) ?_
 intro v_ h1_4
 rintro ⟨x1_4, rfl, hx1_4, ho1_4, c1_4⟩
 replace hx1_4 := hx1_4 (by first | omega | (simp; done))
 have hsz1_4 := c1_4.size
 replace hL := OS.chg hL c1_4 apL
 have := c1_4.size
 replace cA := Chg.step cA c1_4 Sub.refl
 have ap1 : Apart fL fp := apL
 have hlho1_4 := hlhS
 try simp -implicitDefEqProofs (disch := first | decide | assumption | omega) only [go_sem, ld2, RdS.idx (OS.rd hL) sl55, R1.intN (OS.rd hL)]
 refine hK _ _ ?_
 clear hK K
 refine den_ret ?_
 simp (disch := decide) only [resP_1, puts_same]
 exact ⟨_, rfl, getD_memI (by omega), ho1_4, cA⟩

set_option maxRecDepth 100000 in
theorem sFine_ok (p : Int) (h : Heap)   : CallA Try.prog 86 #[.int .i64 p] h fun v' h' => v' = .int .i64 (if isP p = true then p else 3) ∧ Ext h h' := by
 refine callA_intro TTok (args := [_]) Try.func86 (by kernel_rfl) rfl 6 rfl (by simp) [.tmp 2] rfl ?_
 simp only [idxs]
 refine den_seq ?_
 refine den_region TTok ?_
 intro K hK
 simp -implicitDefEqProofs (disch := first | decide | assumption | omega) only [go_sem]
 refine hK _ _ ?_
 clear hK K
 refine den_seq ?_
 refine den_seq ?_
 refine den_region TTok ?_
 intro K hK
 simp -implicitDefEqProofs (disch := first | decide | assumption | omega) only [go_sem]
 refine CallA.pure (sPrime_ok _ _) ?_
 refine hK _ _ ?_
 clear hK K
 refine den_cond rfl (fun c0 => ?_) (fun c0 => ?_)
 ·refine den_seq ?_
  refine den_region TTok ?_
  intro K hK
  simp -implicitDefEqProofs (disch := first | decide | assumption | omega) only [go_sem]
  refine hK _ _ ?_
  clear hK K
  refine den_ret ?_
  simp (disch := decide) only [resP_1, puts_same]
  rw [if_pos c0]
  exact ⟨by first | rfl | trivial, (Ext.refl _)⟩
 ·refine den_skip ?_
  refine den_seq ?_
  refine den_region TTok ?_
  intro K hK
  simp -implicitDefEqProofs (disch := first | decide | assumption | omega) only [go_sem]
  refine hK _ _ ?_
  clear hK K
  refine den_ret ?_
  simp (disch := decide) only [resP_1, puts_same]
  rw [if_neg (by rw [c0]; decide)]
  exact ⟨by first | rfl | trivial, (Ext.refl _)⟩
end Go.Proofs.Ytacajcjibhifmaa

namespace Go.Proofs.Ytacajcjibhifmaa
open Go
theorem dg_difB {X : Dg} {i k : Nat} {x : Int} (h : i < 8) (hk : k < 8) : ((dgA X).toList.take (18 + i * 8 + k) ++ (#[Value.int .u8 x] : Array Value).toList ++ (dgA X).toList.drop (18 + i * 8 + k + 1)).toArray = dgA { X with dif := updF X.dif i (upd (X.dif i) k x) } :=
 store_eq (dgA_sz _) (dgA_sz _) rfl (by omega) (fun q hq => dgA_at hq) (fun q hq => dgA_at hq) one_at (fun q hq hc => by
  by_cases h2 : q < 18
  ·exact dgF_low (X := X) (Y := { X with dif := updF X.dif i (upd (X.dif i) k x) }) rfl rfl rfl rfl h2
  ·by_cases h3 : q < 82
   ·rw [dgF_diff (by omega), dgF_diff (by omega)]
    show Value.int .u8 (updF X.dif i (upd (X.dif i) k x) ((q - 18) / 8) ((q - 18) % 8)) = _
    by_cases h4 : (q - 18) / 8 = i
    ·rw [updF, if_pos h4, upd, if_neg (by omega), h4]
    ·rw [updF, if_neg h4]
   ·rw [dgF_table (by omega), dgF_table (by omega)]) (fun q hq => by
  obtain rfl : q = 0 := by omega
  rw [show 18 + i * 8 + k + 0 = 18 + i * 8 + k from rfl, dgF_diff (by omega), show (18 + i * 8 + k - 18) / 8 = i by omega, show (18 + i * 8 + k - 18) % 8 = k by omega]
  show Value.int .u8 (updF X.dif i (upd (X.dif i) k x) i k) = _
  rw [updF, if_pos rfl, upd, if_pos rfl])
theorem dg_tabB {X : Dg} {i j k : Nat} {x : Int} (h : i < 8) (hj : j < 8) (hk : k < 8) : ((dgA X).toList.take (82 + i * 64 + j * 8 + k) ++ (#[Value.int .u8 x] : Array Value).toList ++ (dgA X).toList.drop (82 + i * 64 + j * 8 + k + 1)).toArray = dgA { X with tab := updF X.tab i (updF (X.tab i) j (upd (X.tab i j) k x)) } :=
 store_eq (dgA_sz _) (dgA_sz _) rfl (by omega) (fun q hq => dgA_at hq) (fun q hq => dgA_at hq) one_at (fun q hq hc => by
  by_cases h2 : q < 18
  ·exact dgF_low (X := X) (Y := { X with tab := updF X.tab i (updF (X.tab i) j (upd (X.tab i j) k x)) }) rfl rfl rfl rfl h2
  ·by_cases h3 : q < 82
   ·rw [dgF_diff (by omega), dgF_diff (by omega)]
   ·rw [dgF_table (by omega), dgF_table (by omega)]
    show Value.int .u8 (updF X.tab i (updF (X.tab i) j (upd (X.tab i j) k x)) ((q - 82) / 64) ((q - 82) / 8 % 8) ((q - 82) % 8)) = _
    by_cases h4 : (q - 82) / 64 = i
    ·by_cases h5 : (q - 82) / 8 % 8 = j
     ·rw [updF, if_pos h4, updF, if_pos h5, upd, if_neg (by omega), h4, h5]
     ·rw [updF, if_pos h4, updF, if_neg h5, h4]
    ·rw [updF, if_neg h4]) (fun q hq => by
  obtain rfl : q = 0 := by omega
  rw [show 82 + i * 64 + j * 8 + k + 0 = 82 + i * 64 + j * 8 + k from rfl, dgF_table (by omega), show (82 + i * 64 + j * 8 + k - 82) / 64 = i by omega, show (82 + i * 64 + j * 8 + k - 82) / 8 % 8 = j by omega, show (82 + i * 64 + j * 8 + k - 82) % 8 = k by omega]
  show Value.int .u8 (updF X.tab i (updF (X.tab i) j (upd (X.tab i j) k x)) i j k) = _
  rw [updF, if_pos rfl, updF, if_pos rfl, upd, if_pos rfl])
theorem upd_by {u : Nat → Int} {i : Nat} {x : Int} (hu : By u) (hx : 0 ≤ x ∧ x ≤ 255) : By (upd u i x) := fun k => by
 unfold upd
 split
 ·exact hx
 ·exact hu k
theorem fine_b (p : Int) : 1 ≤ (if isP p = true then p else 3) ∧ (if isP p = true then p else 3) ≤ 7 := by
 split
 ·have := isP_bnd (by assumption); omega
 ·omega
theorem db_tab {X : Dg} (h : DgB X) {i j k : Nat} {x : Int} (hx : 0 ≤ x ∧ x ≤ 255) : DgB { X with tab := updF X.tab i (updF (X.tab i) j (upd (X.tab i j) k x)) } := ⟨h.dif, updF2_by h.tab (updF_by (h.tab i) (upd_by (h.tab i j) hx)), h.deg, h.lev⟩
theorem db_dif {X : Dg} (h : DgB X) {i k : Nat} {x : Int} (hx : 0 ≤ x ∧ x ≤ 255) : DgB { X with dif := updF X.dif i (upd (X.dif i) k x) } := ⟨updF_by h.dif (upd_by (h.dif i) hx), h.tab, h.deg, h.lev⟩
theorem db_lev {X : Dg} (h : DgB X) {i : Nat} {x : Int} (hx : 0 ≤ x ∧ x ≤ 255) : DgB { X with lev := upd X.lev i x } := ⟨h.dif, h.tab, h.deg, fun k => by
 show -9223372036854775808 ≤ upd X.lev i x k ∧ upd X.lev i x k ≤ 9223372036854775807
 unfold upd
 split
 ·omega
 ·exact h.lev k⟩
theorem db_s {X : Dg} (h : DgB X) {x : Int} : DgB { X with s := x } := ⟨h.dif, h.tab, h.deg, h.lev⟩

set_option maxRecDepth 100000 in
set_option maxHeartbeats 4000000 in
theorem sDEl_ok (v : Value) (z : Sc) (X : Dg) (fp : List Nat) (h : Heap) (hS : OSr h v z fp) (hfr : Fresh z.h.size fp) : CallA Try.prog 47 #[v, .agg (dgA X)] h fun u h' => ∃ y : Nat → Int, u = .agg (elA y) ∧ By y ∧ OSr h' v z fp ∧ Chg fp h h' := by
 have hzs := OSr.sz hS
 have hfi := fine_b X.p
 refine callA_intro TTok (args := [_, _]) Try.func47 (by kernel_rfl) rfl 34 rfl (by simp) [.cell 4 30] rfl ?_
 simp only [idxs, Nat.reduceAdd]
 have hlhS := OSr.lt hS
 have cA : Chg fp h h := Chg.refl _ _
 refine den_seq ?_
 refine den_region TTok ?_
 intro K hK
 simp -implicitDefEqProofs (disch := first | decide | assumption | omega) only [go_sem]
 refine op_box (cs := dgA X) rfl ?_
 intro h0_0 e0_0 hb0_0 z0_0
 replace hS := OSr.ext hS e0_0
 have := Ext.size e0_0
 replace cA := Chg.stepE cA e0_0
 have hfhb0_0 : Fresh h.size [h.size] := Fresh.one _
 have hlhb0_0 := one_lt (show h.size < h0_0.size by omega)
 try simp -implicitDefEqProofs (disch := first | decide | assumption | omega) only [go_sem]
 refine op_alloc (cs := elA z8) (by kernel_rfl) ?_
 intro h0_1 e0_1 hb0_1 z0_1
 replace hS := OSr.ext hS e0_1
 replace hb0_0 := BoxAt.ext hb0_0 e0_1
 have := Ext.size e0_1
 replace cA := Chg.stepE cA e0_1
 have hfhb0_1 : Fresh h0_0.size [h0_0.size] := Fresh.one _
 have hlhb0_1 := one_lt (show h0_0.size < h0_1.size by omega)
 try simp -implicitDefEqProofs (disch := first | decide | assumption | omega) only [go_sem]
 refine hK _ _ ?_
 clear hK K
 refine den_seq ?_
 refine den_region TTok ?_
 intro K hK
 simp -implicitDefEqProofs (disch := first | decide | assumption | omega) only [go_sem, build_el]
 refine op_alloc (cs := elA z8) (by kernel_rfl) ?_
 intro h1_1 e1_1 hb1_1 z1_1
 replace hS := OSr.ext hS e1_1
 replace hb0_0 := BoxAt.ext hb0_0 e1_1
 replace hb0_1 := BoxAt.ext hb0_1 e1_1
 have := Ext.size e1_1
 replace cA := Chg.stepE cA e1_1
 have hfhb1_1 : Fresh h0_1.size [h0_1.size] := Fresh.one _
 have hlhb1_1 := one_lt (show h0_1.size < h1_1.size by omega)
 try simp -implicitDefEqProofs (disch := first | decide | assumption | omega) only [go_sem]
 refine op_storeB (o := 0) (vs := elA z8) (cs' := elA z8) st30 hb1_1 rfl rfl (elA_sz _) (by rw [elA_sz]; decide) elA_one elA_all ?_
 intro h1_2 hb1_1 c1_2
 replace hS := OSr.chg hS c1_2 (apart_lt hlhS hfhb1_1 (by omega)) (ge_of hfhb1_1 (by omega))
 replace hb0_0 := BoxAt.chgA hb0_0 c1_2 (apart_lt hlhb0_0 hfhb1_1 (by omega))
 replace hb0_1 := BoxAt.chgA hb0_1 c1_2 (apart_lt hlhb0_1 hfhb1_1 (by omega))
 have := c1_2.size
 replace cA := Chg.step cA c1_2 (Sub.fresh hfhb1_1 (by omega))
 try simp -implicitDefEqProofs (disch := first | decide | assumption | omega) only [go_sem]
 refine hK _ _ ?_
 clear hK K
 refine den_seq ?_
 refine den_seq ?_
 refine den_region TTok ?_
 intro K hK
 simp -implicitDefEqProofs (disch := first | decide | assumption | omega) only [go_sem]
 refine hK _ _ ?_
 clear hK K
 refine den_block ?_
 refine den_sel [6, 0, 3, 4, 5] ?_
 intro env_1
 simp only [go_sem]
 refine den_loopS (σ := Nat × (Nat → Int)) (fun st_ => [(6, .int .i64 (st_.1 : Int))]) (fun st_ H => (st_.1 ≤ 8) ∧ (By st_.2) ∧ (OSr H v (z) fp) ∧ (BoxAt H (h0_1.size) (elA st_.2) 30) ∧ (Apart fp [h0_1.size]) ∧ (Chg (fp ++ ([h0_1.size])) h1_2 H)) (fun st_ => 8 - st_.1) (0, z8) ?_ ?_
 ·exact ⟨by omega, By.z8, by simpa using hS, hb1_1, (apart_lt hlhS hfhb1_1 (by omega)), Chg.refl _ _⟩
 ·rintro ⟨i, y⟩ h4 ee3 ⟨hi, hby, hT, hbx5, ap_hT_hbx5, cL2⟩
  dsimp only at hi hby hT hbx5 ap_hT_hbx5 cL2
  replace hb0_0 := BoxAt.chgA hb0_0 cL2 (Apart.app (apart_gt hfhb0_0 hlhS (by omega)) (apart_lt hlhb0_0 hfhb1_1 (by omega)))
  replace hb0_1 := BoxAt.chgA hb0_1 cL2 (Apart.app (apart_gt hfhb0_1 hlhS (by omega)) (apart_lt hlhb0_1 hfhb1_1 (by omega)))
  have := cL2.size
  replace cA := Chg.step cA cL2 (Sub.app Sub.refl (Sub.fresh hfhb1_1 (by omega)))
  have sbhT : Sub (fp ++ ([h0_1.size])) h1_2.size fp := (Sub.left Sub.refl)
  have hfhT := hfr
  have sb5 : Sub fp h.size fp := Sub.trans sbhT (Sub.app Sub.refl (Sub.fresh hfhb1_1 (by omega))) (by omega)
  have hlhT := hlhS
  have hfhbx5 := hfhb1_1
  have hlhbx5 := hlhb1_1
  simp only [List.cons_append, List.nil_append]
  refine den_seq ?_
  refine den_seq ?_
  refine den_mergeH [(15, .bool (((decide ((i : Int) < X.s)) && (decide ((i : Int) < (8 : Int))))))] [0, 3, 4, 5, 6] ?_ ?_
   -- a way
  ·refine den_region TTok ?_
   intro K hK
   simp -implicitDefEqProofs (disch := first | decide | assumption | (simp (disch := decide) only [gvA, eq_self, if_true, if_false, Bool.false_eq_true]; done) | omega) only [go_sem, fa34_1, ld2, BoxAt.dgS hb0_0, Nat.zero_add]
   refine opsP_T (by simp (disch := decide) only [slotOf_zero, slotOf_succ, Option.map_some, puts_same]; rfl) (fun g6 => ?_) (fun g6 => ?_)
   ·try simp -implicitDefEqProofs (disch := first | decide | assumption | (simp (disch := decide) only [gvA, eq_self, if_true, if_false, Bool.false_eq_true, g6]; done) | omega) only [go_sem, g6, eq_self, if_true]
    refine hK _ _ ?_
    clear hK K
    refine den_stop ?_
    refine ⟨?_, rfl⟩
    first | (simp (disch := decide) only [go_sem, g6, eq_self, Bool.true_and]; done) | simp [HasL, sel, puts_at, g6]
   ·try simp -implicitDefEqProofs (disch := first | decide | assumption | (simp (disch := decide) only [gvA, eq_self, if_true, if_false, Bool.false_eq_true, g6]; done) | omega) only [go_sem, g6, if_false, Bool.false_eq_true]
    refine hK _ _ ?_
    clear hK K
    refine den_stop ?_
    refine ⟨?_, rfl⟩
    first | (simp (disch := decide) only [go_sem, g6, eq_self, Bool.false_and]; done) | simp [HasL, sel, puts_at, g6]
  intro en7
  simp (disch := decide) only [go_sem]
  refine den_cond rfl (fun c0 => ?_) (fun c0 => ?_)
  ·try simp only [decide_eq_true_eq, Bool.and_eq_true] at c0
   refine den_skip ?_
   refine den_seq ?_
   refine den_block ?_
   refine den_seq ?_
   refine den_region TTok ?_
   intro K hK
   simp -implicitDefEqProofs (disch := first | decide | assumption | omega) only [go_sem]
   refine CallA.mono (sNext_ok _ _ (2 : Int) _ _ hT) ?_
   intro v_ h5_1
   rintro ⟨x5_1, rfl, hx5_1, ho5_1, c5_1⟩
   replace hx5_1 := hx5_1 (by first | omega | (simp; done))
   have hsz5_1 := c5_1.size
   replace hb0_0 := BoxAt.chgA hb0_0 c5_1 (apart_gt hfhb0_0 hlhT (by omega))
   replace hb0_1 := BoxAt.chgA hb0_1 c5_1 (apart_gt hfhb0_1 hlhT (by omega))
   replace hbx5 := BoxAt.chgA hbx5 c5_1 (Apart.symm ap_hT_hbx5)
   have := c5_1.size
   replace cA := Chg.step cA c5_1 sb5
   replace cL2 := Chg.step cL2 c5_1 sbhT
   have ap10 : Apart [h.size] fp := (apart_gt hfhb0_0 hlhT (by omega))
   have ap11 : Apart [h0_0.size] fp := (apart_gt hfhb0_1 hlhT (by omega))
   have ap12 : Apart [h0_1.size] fp := (Apart.symm ap_hT_hbx5)
   have hlho5_1 := hlhT
   try simp -implicitDefEqProofs (disch := first | decide | assumption | omega) only [go_sem]
   refine hK _ _ ?_
   clear hK K
   refine den_cond rfl (fun c1 => ?_) (fun c1 => ?_)
   ·try simp only [beq_iff_eq] at c1
    refine den_region TTok ?_
    intro K hK
    simp -implicitDefEqProofs (disch := first | decide | assumption | omega) only [go_sem, fa34_0, ld2, BoxAt.dgP hb0_0]
    refine CallA.mono (sFine_ok  X.p _  ) ?_
    intro v_ h6_4
    rintro ⟨rfl, e6_4⟩
    replace ho5_1 := OSr.ext ho5_1 e6_4
    replace hb0_0 := BoxAt.ext hb0_0 e6_4
    replace hb0_1 := BoxAt.ext hb0_1 e6_4
    replace hbx5 := BoxAt.ext hbx5 e6_4
    have := Ext.size e6_4
    replace cA := Chg.stepE cA e6_4
    replace cL2 := Chg.stepE cL2 e6_4
    refine CallA.mono (sNext_ok _ _ (if isP X.p = true then X.p else 3) _ _ ho5_1) ?_
    intro v_ h6_5
    rintro ⟨x6_5, rfl, hx6_5, ho6_5, c6_5⟩
    replace hx6_5 := hx6_5 (by first | omega | (simp; done))
    have hsz6_5 := c6_5.size
    replace hb0_0 := BoxAt.chgA hb0_0 c6_5 ap10
    replace hb0_1 := BoxAt.chgA hb0_1 c6_5 ap11
    replace hbx5 := BoxAt.chgA hbx5 c6_5 ap12
    have := c6_5.size
    replace cA := Chg.step cA c6_5 sb5
    replace cL2 := Chg.step cL2 c6_5 sbhT
    have ap13 : Apart [h.size] fp := ap10
    have ap14 : Apart [h0_0.size] fp := ap11
    have ap15 : Apart [h0_1.size] fp := ap12
    have hlho6_5 := hlho5_1
    try simp -implicitDefEqProofs (disch := first | decide | assumption | omega) only [go_sem, ia30, cv_i64, Nat.zero_add, wrap_u8]
    refine op_storeB (o := i) (vs := #[.int .u8 x6_5]) (cs' := elA (upd y i x6_5)) st5 hbx5 rfl rfl rfl (by show _ + 1 ≤ 8; omega) u8_one (elA_upd (by omega)) ?_
    intro h6_8 hbx5 c6_8
    replace ho6_5 := OSr.chg ho6_5 c6_8 (Apart.symm ap15) (ge_of hfhbx5 (by omega))
    replace hb0_0 := BoxAt.chgA hb0_0 c6_8 (apart_lt hlhb0_0 hfhbx5 (by omega))
    replace hb0_1 := BoxAt.chgA hb0_1 c6_8 (apart_lt hlhb0_1 hfhbx5 (by omega))
    have := c6_8.size
    replace cA := Chg.step cA c6_8 (Sub.fresh hfhbx5 (by omega))
    replace cL2 := Chg.step cL2 c6_8 (Sub.right Sub.refl)
    try simp -implicitDefEqProofs (disch := first | decide | assumption | omega) only [go_sem]
    refine hK _ _ ?_
    clear hK K
    refine den_blk ?_
    refine den_region TTok ?_
    intro K hK
    simp -implicitDefEqProofs (disch := first | decide | assumption | omega) only [go_sem, wrap_id]
    refine hK _ _ ?_
    clear hK K
    refine den_stop ?_
    exact ⟨(i + 1, (upd y i x6_5)), by simp [puts_at], ⟨by first | omega | (dsimp only; omega), by first | exact hby | exact upd_by hby (by omega), ho6_5, hbx5, (Apart.symm ap15), cL2⟩, by first | omega | (dsimp only; omega)⟩
   ·try simp only [beq_eq_false_iff_ne, ne_eq] at c1
    refine den_skip ?_
    refine den_blk ?_
    refine den_region TTok ?_
    intro K hK
    simp -implicitDefEqProofs (disch := first | decide | assumption | omega) only [go_sem, wrap_id]
    refine hK _ _ ?_
    clear hK K
    refine den_stop ?_
    exact ⟨(i + 1, y), by simp [puts_at], ⟨by first | omega | (dsimp only; omega), by first | exact hby | exact upd_by hby (by omega), ho5_1, hbx5, (Apart.symm ap12), cL2⟩, by first | omega | (dsimp only; omega)⟩
  ·refine den_exit ?_
   refine denX_code ?_
   refine denX_stop ?_
   refine denX_hit ?_
   refine den_seq ?_
   refine den_seq ?_
   refine den_region TTok ?_
   intro K hK
   simp -implicitDefEqProofs (disch := first | decide | assumption | omega) only [go_sem]
   refine CallA.mono (sNext_ok _ _ (40 : Int) _ _ hT) ?_
   intro v_ h7_1
   rintro ⟨x7_1, rfl, hx7_1, ho7_1, c7_1⟩
   replace hx7_1 := hx7_1 (by first | omega | (simp; done))
   have hsz7_1 := c7_1.size
   replace hb0_1 := BoxAt.chgA hb0_1 c7_1 (apart_gt hfhb0_1 hlhT (by omega))
   replace hbx5 := BoxAt.chgA hbx5 c7_1 (Apart.symm ap_hT_hbx5)
   have := c7_1.size
   replace cA := Chg.step cA c7_1 sb5
   have ap16 : Apart [h0_0.size] fp := (apart_gt hfhb0_1 hlhT (by omega))
   have ap17 : Apart [h0_1.size] fp := (Apart.symm ap_hT_hbx5)
   have hlho7_1 := hlhT
   try simp -implicitDefEqProofs (disch := first | decide | assumption | omega) only [go_sem]
   refine hK _ _ ?_
   clear hK K
   refine den_cond rfl (fun c2 => ?_) (fun c2 => ?_)
   ·try simp only [beq_iff_eq] at c2
    refine den_region TTok ?_
    intro K hK
    simp -implicitDefEqProofs (disch := first | decide | assumption | omega) only [go_sem, ia30, tn7, Nat.zero_add]
    refine op_storeB (o := 7) (vs := #[.int .u8 (9 : Int)]) (cs' := elA (upd y 7 (9 : Int))) st5 hbx5 rfl rfl rfl (by show _ + 1 ≤ 8; omega) u8_one (elA_upd (by omega)) ?_
    intro h8_1 hbx5 c8_1
    replace ho7_1 := OSr.chg ho7_1 c8_1 (Apart.symm ap17) (ge_of hfhbx5 (by omega))
    replace hb0_1 := BoxAt.chgA hb0_1 c8_1 (apart_lt hlhb0_1 hfhbx5 (by omega))
    have := c8_1.size
    replace cA := Chg.step cA c8_1 (Sub.fresh hfhbx5 (by omega))
    try simp -implicitDefEqProofs (disch := first | decide | assumption | omega) only [go_sem]
    refine hK _ _ ?_
    clear hK K
    refine den_seq ?_
    refine den_region TTok ?_
    intro K hK
    simp -implicitDefEqProofs (disch := first | decide | assumption | omega) only [go_sem, BoxAt.elL hbx5]
    refine op_storeB (o := 0) (vs := elA (upd y 7 (9 : Int))) (cs' := elA (upd y 7 (9 : Int))) st30 hb0_1 rfl rfl (elA_sz _) (by rw [elA_sz]; decide) elA_one elA_all ?_
    intro h9_1 hb0_1 c9_1
    replace ho7_1 := OSr.chg ho7_1 c9_1 (Apart.symm ap16) (ge_of hfhb0_1 (by omega))
    replace hbx5 := BoxAt.chgA hbx5 c9_1 (apart_gt hfhbx5 hlhb0_1 (by omega))
    have := c9_1.size
    replace cA := Chg.step cA c9_1 (Sub.fresh hfhb0_1 (by omega))
    try simp -implicitDefEqProofs (disch := first | decide | assumption | omega) only [go_sem]
    refine hK _ _ ?_
    clear hK K
    refine den_ret ?_
    simp -implicitDefEqProofs (disch := first | decide | assumption | omega) only [go_sem, BoxAt.elL hb0_1, resP_c1]
    exact ⟨_, rfl, by first | exact hby | exact upd_by hby (by omega), ho7_1, cA⟩
   ·try simp only [beq_eq_false_iff_ne, ne_eq] at c2
    refine den_skip ?_
    refine den_seq ?_
    refine den_region TTok ?_
    intro K hK
    simp -implicitDefEqProofs (disch := first | decide | assumption | omega) only [go_sem, BoxAt.elL hbx5]
    refine op_storeB (o := 0) (vs := elA y) (cs' := elA y) st30 hb0_1 rfl rfl (elA_sz _) (by rw [elA_sz]; decide) elA_one elA_all ?_
    intro h9_1_1 hb0_1 c9_1_1
    replace ho7_1 := OSr.chg ho7_1 c9_1_1 (Apart.symm ap16) (ge_of hfhb0_1 (by omega))
    replace hbx5 := BoxAt.chgA hbx5 c9_1_1 (apart_gt hfhbx5 hlhb0_1 (by omega))
    have := c9_1_1.size
    replace cA := Chg.step cA c9_1_1 (Sub.fresh hfhb0_1 (by omega))
    try simp -implicitDefEqProofs (disch := first | decide | assumption | omega) only [go_sem]
    refine hK _ _ ?_
    clear hK K
    refine den_ret ?_
    simp -implicitDefEqProofs (disch := first | decide | assumption | omega) only [go_sem, BoxAt.elL hb0_1, resP_c1]
    exact ⟨_, rfl, by first | exact hby | exact upd_by hby (by omega), ho7_1, cA⟩
end Go.Proofs.Ytacajcjibhifmaa
