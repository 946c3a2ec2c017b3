/-
  What the statement FnExactPowerComplex uses of the walks, part 3.
  Conditions: each theorem's own.
-/
import Derived.Test.YtffggocjkhcgeaaG16
import Derived.Test.YtffggocjkhcgeaaG17
import Derived.Test.YtffggocjkhcgeaaG14
import Derived.Test.YtffggocjkhcgeaaG13
import Derived.Test.YtffggocjkhcgeaaG15
import Derived.Test.YtffggocjkhcgeaaG18
import Derived.Test.YtffggocjkhcgeaaG21
import Derived.Test.YtffggocjkhcgeaaZPowerComplex1
import Derived.Test.YtffggocjkhcgeaaZPowerComplex2
set_option linter.unusedVariables false
set_option linter.unusedSimpArgs false
namespace Go.Proofs.Ytffggocjkhcgeaa
open Go
/-- All of IsC but that the square is zero. -/
structure IsT (X : Cx) : Prop where
 p : isP X.p = true
 len : 1 ≤ X.dims.length ∧ X.dims.length ≤ 6
 ml : X.maps.length + 1 = X.dims.length
 dm : X.dims.all (fun x => in3 x 0 8) = true
 tb : ∀ k, k < X.maps.length → tbAt X k
theorem IsC.toT {X : Cx} (h : IsC X) : IsT X := ⟨h.p, h.len, h.ml, h.dm, h.tb⟩
open Go
theorem IsT.pre {X : Cx} (h : IsT X) : PreC X := ⟨isP_bnd h.p, h.ml, h.dm, h.tb⟩
open Go
theorem dimP_bndT {X : Cx} (hC : IsT X) (n : Int) : 0 ≤ dimP X n ∧ dimP X n ≤ 8 := by
 unfold dimP
 split
 ·rename_i h
  rw [in3_iff] at h
  exact dm_at hC.dm (by omega)
 ·omega
theorem sumP_bndT {X Y : Cx} (hX : IsT X) (hY : IsT Y) (s : Int) : ∀ k : Nat, 0 ≤ sumP X Y s k ∧ sumP X Y s k ≤ 64 * k
 | 0 => by simp [sumP]
 | k + 1 => by
  have h1 := sumP_bndT hX hY s k
  have h2 := mul64 (dimP_bndT hX k) (dimP_bndT hY (s - k))
  rw [sumP]; omega
set_option maxRecDepth 100000 in
theorem sPlace_okT (vx vy : Value) (X Y : Cx) (i a j b : Int) (h : Heap) (hx : RC h vx X) (hy : RC h vy Y) (hX : IsT X) (hY : IsT Y) (hi : 0 ≤ i ∧ i ≤ 5) (hj : 0 ≤ j ∧ j ≤ 5) (ha : 0 ≤ a ∧ a ≤ 8) (hb : 0 ≤ b ∧ b ≤ 8) : CallA Try.prog 102 #[vx, vy, .int .i64 i, .int .i64 a, .int .i64 j, .int .i64 b] h fun v' h' => v' = .int .i64 (placeP X Y i a j b) ∧ Ext h h' := by
 obtain ⟨vd, vm, rfl, hd, hm⟩ := hx
 obtain ⟨vdy, vmy, rfl, hdy, hmy⟩ := hy
 have hm2 := mul64 ha (dimP_bndT hY j)
 refine callA_intro TTok (args := [_, _, _, _, _, _]) Try.func102 (by kernel_rfl) rfl 42 rfl (by simp) [.tmp 12] rfl ?_
 simp only [idxs, Nat.reduceAdd]
 refine den_seq ?_
 refine den_region TTok ?_
 intro K hK
 simp -implicitDefEqProofs (disch := first | decide | assumption | omega) only [go_sem, RdS.len hd sl22, RdS.idx hd sl22, R1.intB hd (HPres.refl _), RdS.cells hd, RdS.len hm sl23, RdS.idx hm sl23, RdS.cellB hm (HPres.refl _), RdS.cells hm, RdS.len hdy sl22, RdS.idx hdy sl22, R1.intB hdy (HPres.refl _), RdS.cells hdy, RdS.len hmy sl23, RdS.idx hmy sl23, RdS.cellB hmy (HPres.refl _), RdS.cells hmy, wrap_id]
 refine op_box (cs := #[.int .i64 (X.p), vd, vm]) rfl ?_
 intro h0_0 e0_0 hb0_0 z0_0
 replace hd := RdS.pres hd (Ext.pres e0_0)
 replace hm := RdS.pres hm (Ext.pres e0_0)
 replace hdy := RdS.pres hdy (Ext.pres e0_0)
 replace hmy := RdS.pres hmy (Ext.pres e0_0)
 try simp -implicitDefEqProofs (disch := first | decide | assumption | omega) only [go_sem, RdS.len hd sl22, RdS.idx hd sl22, R1.intB hd (HPres.refl _), RdS.cells hd, RdS.len hm sl23, RdS.idx hm sl23, RdS.cellB hm (HPres.refl _), RdS.cells hm, RdS.len hdy sl22, RdS.idx hdy sl22, R1.intB hdy (HPres.refl _), RdS.cells hdy, RdS.len hmy sl23, RdS.idx hmy sl23, RdS.cellB hmy (HPres.refl _), RdS.cells hmy, BoxAt.cell hb0_0, wrap_id]
 refine op_box (cs := #[.int .i64 (Y.p), vdy, vmy]) rfl ?_
 intro h0_1 e0_1 hb0_1 z0_1
 replace hd := RdS.pres hd (Ext.pres e0_1)
 replace hm := RdS.pres hm (Ext.pres e0_1)
 replace hdy := RdS.pres hdy (Ext.pres e0_1)
 replace hmy := RdS.pres hmy (Ext.pres e0_1)
 replace hb0_0 := BoxAt.ext hb0_0 e0_1
 try simp -implicitDefEqProofs (disch := first | decide | assumption | omega) only [go_sem, RdS.len hd sl22, RdS.idx hd sl22, R1.intB hd (HPres.refl _), RdS.cells hd, RdS.len hm sl23, RdS.idx hm sl23, RdS.cellB hm (HPres.refl _), RdS.cells hm, RdS.len hdy sl22, RdS.idx hdy sl22, R1.intB hdy (HPres.refl _), RdS.cells hdy, RdS.len hmy sl23, RdS.idx hmy sl23, RdS.cellB hmy (HPres.refl _), RdS.cells hmy, BoxAt.cell hb0_0, BoxAt.cell hb0_1, wrap_id]
 refine hK _ _ ?_
 clear hK K
 refine den_seq ?_
 refine den_region TTok ?_
 intro K hK
 simp -implicitDefEqProofs (disch := first | decide | assumption | omega) only [go_sem, RdS.len hd sl22, RdS.idx hd sl22, R1.intB hd (HPres.refl _), RdS.cells hd, RdS.len hm sl23, RdS.idx hm sl23, RdS.cellB hm (HPres.refl _), RdS.cells hm, RdS.len hdy sl22, RdS.idx hdy sl22, R1.intB hdy (HPres.refl _), RdS.cells hdy, RdS.len hmy sl23, RdS.idx hmy sl23, RdS.cellB hmy (HPres.refl _), RdS.cells hmy, BoxAt.cell hb0_0, BoxAt.cell hb0_1, wrap_id]
 refine hK _ _ ?_
 clear hK K
 refine den_seq ?_
 refine den_seq ?_
 refine den_region TTok ?_
 intro K hK
 simp -implicitDefEqProofs (disch := first | decide | assumption | omega) only [go_sem, RdS.len hd sl22, RdS.idx hd sl22, R1.intB hd (HPres.refl _), RdS.cells hd, RdS.len hm sl23, RdS.idx hm sl23, RdS.cellB hm (HPres.refl _), RdS.cells hm, RdS.len hdy sl22, RdS.idx hdy sl22, R1.intB hdy (HPres.refl _), RdS.cells hdy, RdS.len hmy sl23, RdS.idx hmy sl23, RdS.cellB hmy (HPres.refl _), RdS.cells hmy, BoxAt.cell hb0_0, BoxAt.cell hb0_1, wrap_id]
 refine hK _ _ ?_
 clear hK K
 refine den_block ?_
 refine den_sel [13, 14, 2, 3, 4, 5, 6, 7] ?_
 intro env_1
 simp only [go_sem]
 refine den_loopS (σ := Nat × Int) (fun s => [(13, .int .i64 s.2), (14, .int .i64 (s.1 : Int))]) (fun s H => Ext h0_1 H ∧ (s.1 : Int) ≤ i ∧ s.2 = sumP X Y (i + j) s.1) (fun s => i.toNat - s.1) (0, 0) ?_ ?_
 ·exact ⟨Ext.refl _, by simp; omega, by simp [sumP]⟩
 ·rintro ⟨k, acc⟩ h4 ee3 ⟨eB, hk, hacc⟩
  simp only [List.cons_append, List.nil_append]
  have := Ext.size eB
  dsimp only at hk hacc
  have hs := sumP_bndT hX hY (i + j) k
  have hm1 := mul64 (dimP_bndT hX k) (dimP_bndT hY (i + j - k))
  refine den_seq ?_
  refine den_seq ?_
  refine den_region TTok ?_
  intro K hK
  simp -implicitDefEqProofs (disch := first | decide | assumption | omega) only [go_sem, RdS.len hd sl22, RdS.idx hd sl22, R1.intB hd (Ext.pres eB), RdS.cells hd, RdS.len hm sl23, RdS.idx hm sl23, RdS.cellB hm (Ext.pres eB), RdS.cells hm, RdS.len hdy sl22, RdS.idx hdy sl22, R1.intB hdy (Ext.pres eB), RdS.cells hdy, RdS.len hmy sl23, RdS.idx hmy sl23, RdS.cellB hmy (Ext.pres eB), RdS.cells hmy, BoxAt.cellB hb0_0 eB, BoxAt.cellB hb0_1 eB, wrap_id]
  refine hK _ _ ?_
  clear hK K
  refine den_cond rfl (fun c0 => ?_) (fun c0 => ?_)
  ·try simp only [decide_eq_true_eq, decide_eq_false_iff_not, beq_iff_eq, beq_eq_false_iff_ne, bne_iff_ne, ne_eq, Bool.not_eq_true', Bool.not_eq_false', Bool.and_eq_true, Bool.or_eq_true, bne_eq_false_iff_eq] at c0
   refine den_skip ?_
   refine den_seq ?_
   refine den_block ?_
   refine den_draw TTok mixed [] [(0, true), (1, true), (2, true), (4, true), (5, true), (6, true), (7, true), (8, true), (9, true), (3, false), (10, false), (11, true), (12, true), (13, true)] (by kernel_rfl) ?_
   intro K hK
   simp -implicitDefEqProofs (disch := first | decide | assumption | omega) only [go_sem, ld30, RdS.len hd sl22, RdS.idx hd sl22, R1.intB hd (Ext.pres eB), RdS.cells hd, RdS.len hm sl23, RdS.idx hm sl23, RdS.cellB hm (Ext.pres eB), RdS.cells hm, RdS.len hdy sl22, RdS.idx hdy sl22, R1.intB hdy (Ext.pres eB), RdS.cells hdy, RdS.len hmy sl23, RdS.idx hmy sl23, RdS.cellB hmy (Ext.pres eB), RdS.cells hmy, BoxAt.cellB hb0_0 eB, BoxAt.cellB hb0_1 eB, wrap_id]
   try simp -implicitDefEqProofs (disch := first | decide | assumption | omega) only [go_sem, RdS.len hd sl22, RdS.idx hd sl22, R1.intB hd (Ext.pres eB), RdS.cells hd, RdS.len hm sl23, RdS.idx hm sl23, RdS.cellB hm (Ext.pres eB), RdS.cells hm, RdS.len hdy sl22, RdS.idx hdy sl22, R1.intB hdy (Ext.pres eB), RdS.cells hdy, RdS.len hmy sl23, RdS.idx hmy sl23, RdS.cellB hmy (Ext.pres eB), RdS.cells hmy, BoxAt.cellB hb0_0 eB, BoxAt.cellB hb0_1 eB, wrap_id]
   refine CallA.mono (sDim_ok _ X _ _ ⟨_, _, rfl, (RdS.pres hd (Ext.pres eB)), (RdS.pres hm (Ext.pres eB))⟩) ?_
   intro v_ h5_3
   rintro ⟨rfl, e5_3⟩
   have := Ext.size e5_3
   replace eB := Ext.trans eB e5_3
   try simp (disch := decide) only [outv_some, outv_none, put_puts]
   refine plK_pres (Ext.pres e5_3) ?_
   try simp -implicitDefEqProofs (disch := first | decide | assumption | omega) only [go_sem, RdS.len hd sl22, RdS.idx hd sl22, R1.intB hd (Ext.pres eB), RdS.cells hd, RdS.len hm sl23, RdS.idx hm sl23, RdS.cellB hm (Ext.pres eB), RdS.cells hm, RdS.len hdy sl22, RdS.idx hdy sl22, R1.intB hdy (Ext.pres eB), RdS.cells hdy, RdS.len hmy sl23, RdS.idx hmy sl23, RdS.cellB hmy (Ext.pres eB), RdS.cells hmy, BoxAt.cellB hb0_0 eB, BoxAt.cellB hb0_1 eB, wrap_id]
   try simp -implicitDefEqProofs (disch := first | decide | assumption | omega) only [go_sem, RdS.len hd sl22, RdS.idx hd sl22, R1.intB hd (Ext.pres eB), RdS.cells hd, RdS.len hm sl23, RdS.idx hm sl23, RdS.cellB hm (Ext.pres eB), RdS.cells hm, RdS.len hdy sl22, RdS.idx hdy sl22, R1.intB hdy (Ext.pres eB), RdS.cells hdy, RdS.len hmy sl23, RdS.idx hmy sl23, RdS.cellB hmy (Ext.pres eB), RdS.cells hmy, BoxAt.cellB hb0_0 eB, BoxAt.cellB hb0_1 eB, wrap_id]
   refine CallA.mono (sDim_ok _ Y _ _ ⟨_, _, rfl, (RdS.pres hdy (Ext.pres eB)), (RdS.pres hmy (Ext.pres eB))⟩) ?_
   intro v_ h5_10
   rintro ⟨rfl, e5_10⟩
   have := Ext.size e5_10
   replace eB := Ext.trans eB e5_10
   try simp (disch := decide) only [outv_some, outv_none, put_puts]
   refine plK_pres (Ext.pres e5_10) ?_
   try simp -implicitDefEqProofs (disch := first | decide | assumption | omega) only [go_sem, RdS.len hd sl22, RdS.idx hd sl22, R1.intB hd (Ext.pres eB), RdS.cells hd, RdS.len hm sl23, RdS.idx hm sl23, RdS.cellB hm (Ext.pres eB), RdS.cells hm, RdS.len hdy sl22, RdS.idx hdy sl22, R1.intB hdy (Ext.pres eB), RdS.cells hdy, RdS.len hmy sl23, RdS.idx hmy sl23, RdS.cellB hmy (Ext.pres eB), RdS.cells hmy, BoxAt.cellB hb0_0 eB, BoxAt.cellB hb0_1 eB, wrap_id]
   refine hK _ _ ?_
   clear hK K
   refine den_blk ?_
   refine den_region TTok ?_
   intro K hK
   simp -implicitDefEqProofs (disch := first | decide | assumption | omega) only [go_sem, RdS.len hd sl22, RdS.idx hd sl22, R1.intB hd (Ext.pres eB), RdS.cells hd, RdS.len hm sl23, RdS.idx hm sl23, RdS.cellB hm (Ext.pres eB), RdS.cells hm, RdS.len hdy sl22, RdS.idx hdy sl22, R1.intB hdy (Ext.pres eB), RdS.cells hdy, RdS.len hmy sl23, RdS.idx hmy sl23, RdS.cellB hmy (Ext.pres eB), RdS.cells hmy, BoxAt.cellB hb0_0 eB, BoxAt.cellB hb0_1 eB, wrap_id]
   refine hK _ _ ?_
   clear hK K
   refine den_stop ?_
   exact ⟨(k + 1, acc + dimP X k * dimP Y (i + j - k)), by simp [HasL, puts_at], ⟨eB, by dsimp only; omega, by dsimp only; rw [sumP]; omega⟩, by dsimp only; omega⟩
  ·try simp only [decide_eq_true_eq, decide_eq_false_iff_not, beq_iff_eq, beq_eq_false_iff_ne, bne_iff_ne, ne_eq, Bool.not_eq_true', Bool.not_eq_false', Bool.and_eq_true, Bool.or_eq_true, bne_eq_false_iff_eq] at c0
   refine den_exit ?_
   refine denX_code ?_
   refine denX_stop ?_
   refine denX_hit ?_
   refine den_seq ?_
   refine den_region TTok ?_
   intro K hK
   simp -implicitDefEqProofs (disch := first | decide | assumption | omega) only [go_sem, ld30, RdS.len hd sl22, RdS.idx hd sl22, R1.intB hd (Ext.pres eB), RdS.cells hd, RdS.len hm sl23, RdS.idx hm sl23, RdS.cellB hm (Ext.pres eB), RdS.cells hm, RdS.len hdy sl22, RdS.idx hdy sl22, R1.intB hdy (Ext.pres eB), RdS.cells hdy, RdS.len hmy sl23, RdS.idx hmy sl23, RdS.cellB hmy (Ext.pres eB), RdS.cells hmy, BoxAt.cellB hb0_0 eB, BoxAt.cellB hb0_1 eB, wrap_id]
   try simp -implicitDefEqProofs (disch := first | decide | assumption | omega) only [go_sem, RdS.len hd sl22, RdS.idx hd sl22, R1.intB hd (Ext.pres eB), RdS.cells hd, RdS.len hm sl23, RdS.idx hm sl23, RdS.cellB hm (Ext.pres eB), RdS.cells hm, RdS.len hdy sl22, RdS.idx hdy sl22, R1.intB hdy (Ext.pres eB), RdS.cells hdy, RdS.len hmy sl23, RdS.idx hmy sl23, RdS.cellB hmy (Ext.pres eB), RdS.cells hmy, BoxAt.cellB hb0_0 eB, BoxAt.cellB hb0_1 eB, wrap_id]
   refine CallA.mono (sDim_ok _ Y _ _ ⟨_, _, rfl, (RdS.pres hdy (Ext.pres eB)), (RdS.pres hmy (Ext.pres eB))⟩) ?_
   intro v_ h6_4
   rintro ⟨rfl, e6_4⟩
   have := Ext.size e6_4
   replace eB := Ext.trans eB e6_4
   try simp -implicitDefEqProofs (disch := first | decide | assumption | omega) only [go_sem, RdS.len hd sl22, RdS.idx hd sl22, R1.intB hd (Ext.pres eB), RdS.cells hd, RdS.len hm sl23, RdS.idx hm sl23, RdS.cellB hm (Ext.pres eB), RdS.cells hm, RdS.len hdy sl22, RdS.idx hdy sl22, R1.intB hdy (Ext.pres eB), RdS.cells hdy, RdS.len hmy sl23, RdS.idx hmy sl23, RdS.cellB hmy (Ext.pres eB), RdS.cells hmy, BoxAt.cellB hb0_0 eB, BoxAt.cellB hb0_1 eB, wrap_id]
   refine hK _ _ ?_
   clear hK K
   refine den_ret ?_
   simp (disch := decide) only [resP_1, puts_same, puts_ne]
   have e : i.toNat = k := by omega
   exact ⟨vint (by rw [placeP, e]; omega), (Ext.trans (Ext.trans e0_0 e0_1) eB)⟩

set_option maxRecDepth 100000 in
theorem iPlace_okT (vx vy : Value) (X Y : Cx) (i a j b : Int) (h : Heap) (hx : RC h vx X) (hy : RC h vy Y) (hX : IsT X) (hY : IsT Y) (hi : 0 ≤ i ∧ i ≤ 5) (hj : 0 ≤ j ∧ j ≤ 5) (ha : 0 ≤ a ∧ a ≤ 8) (hb : 0 ≤ b ∧ b ≤ 8) : CallA Try.prog 107 #[vx, vy, .int .i64 i, .int .i64 a, .int .i64 j, .int .i64 b] h fun v' h' => v' = .int .i64 (placeP X Y i a j b) ∧ Ext h h' := by
 obtain ⟨vd, vm, rfl, hd, hm⟩ := hx
 obtain ⟨vdy, vmy, rfl, hdy, hmy⟩ := hy
 have hm2 := mul64 ha (dimP_bndT hY j)
 refine callA_intro TTok (args := [_, _, _, _, _, _]) Try.func107 (by kernel_rfl) rfl 41 rfl (by simp) [.tmp 12] rfl ?_
 simp only [idxs, Nat.reduceAdd]
 refine den_seq ?_
 refine den_region TTok ?_
 intro K hK
 simp -implicitDefEqProofs (disch := first | decide | assumption | omega) only [go_sem, RdS.len hd sl22, RdS.idx hd sl22, R1.intB hd (HPres.refl _), RdS.cells hd, RdS.len hm sl23, RdS.idx hm sl23, RdS.cellB hm (HPres.refl _), RdS.cells hm, RdS.len hdy sl22, RdS.idx hdy sl22, R1.intB hdy (HPres.refl _), RdS.cells hdy, RdS.len hmy sl23, RdS.idx hmy sl23, RdS.cellB hmy (HPres.refl _), RdS.cells hmy, wrap_id]
 refine op_box (cs := #[.int .i64 (X.p), vd, vm]) rfl ?_
 intro h0_0 e0_0 hb0_0 z0_0
 replace hd := RdS.pres hd (Ext.pres e0_0)
 replace hm := RdS.pres hm (Ext.pres e0_0)
 replace hdy := RdS.pres hdy (Ext.pres e0_0)
 replace hmy := RdS.pres hmy (Ext.pres e0_0)
 try simp -implicitDefEqProofs (disch := first | decide | assumption | omega) only [go_sem, RdS.len hd sl22, RdS.idx hd sl22, R1.intB hd (HPres.refl _), RdS.cells hd, RdS.len hm sl23, RdS.idx hm sl23, RdS.cellB hm (HPres.refl _), RdS.cells hm, RdS.len hdy sl22, RdS.idx hdy sl22, R1.intB hdy (HPres.refl _), RdS.cells hdy, RdS.len hmy sl23, RdS.idx hmy sl23, RdS.cellB hmy (HPres.refl _), RdS.cells hmy, BoxAt.cell hb0_0, wrap_id]
 refine op_box (cs := #[.int .i64 (Y.p), vdy, vmy]) rfl ?_
 intro h0_1 e0_1 hb0_1 z0_1
 replace hd := RdS.pres hd (Ext.pres e0_1)
 replace hm := RdS.pres hm (Ext.pres e0_1)
 replace hdy := RdS.pres hdy (Ext.pres e0_1)
 replace hmy := RdS.pres hmy (Ext.pres e0_1)
 replace hb0_0 := BoxAt.ext hb0_0 e0_1
 try simp -implicitDefEqProofs (disch := first | decide | assumption | omega) only [go_sem, RdS.len hd sl22, RdS.idx hd sl22, R1.intB hd (HPres.refl _), RdS.cells hd, RdS.len hm sl23, RdS.idx hm sl23, RdS.cellB hm (HPres.refl _), RdS.cells hm, RdS.len hdy sl22, RdS.idx hdy sl22, R1.intB hdy (HPres.refl _), RdS.cells hdy, RdS.len hmy sl23, RdS.idx hmy sl23, RdS.cellB hmy (HPres.refl _), RdS.cells hmy, BoxAt.cell hb0_0, BoxAt.cell hb0_1, wrap_id]
 refine hK _ _ ?_
 clear hK K
 refine den_seq ?_
 refine den_region TTok ?_
 intro K hK
 simp -implicitDefEqProofs (disch := first | decide | assumption | omega) only [go_sem, ld30, RdS.len hd sl22, RdS.idx hd sl22, R1.intB hd (HPres.refl _), RdS.cells hd, RdS.len hm sl23, RdS.idx hm sl23, RdS.cellB hm (HPres.refl _), RdS.cells hm, RdS.len hdy sl22, RdS.idx hdy sl22, R1.intB hdy (HPres.refl _), RdS.cells hdy, RdS.len hmy sl23, RdS.idx hmy sl23, RdS.cellB hmy (HPres.refl _), RdS.cells hmy, BoxAt.cell hb0_0, BoxAt.cell hb0_1, wrap_id]
 try simp -implicitDefEqProofs (disch := first | decide | assumption | omega) only [go_sem, RdS.len hd sl22, RdS.idx hd sl22, R1.intB hd (HPres.refl _), RdS.cells hd, RdS.len hm sl23, RdS.idx hm sl23, RdS.cellB hm (HPres.refl _), RdS.cells hm, RdS.len hdy sl22, RdS.idx hdy sl22, R1.intB hdy (HPres.refl _), RdS.cells hdy, RdS.len hmy sl23, RdS.idx hmy sl23, RdS.cellB hmy (HPres.refl _), RdS.cells hmy, BoxAt.cell hb0_0, BoxAt.cell hb0_1, wrap_id]
 refine CallA.mono (iDim_ok _ Y _ _ ⟨_, _, rfl, hdy, hmy⟩) ?_
 intro v_ h1_3
 rintro ⟨rfl, e1_3⟩
 have := Ext.size e1_3
 have eB := e1_3
 try simp -implicitDefEqProofs (disch := first | decide | assumption | omega) only [go_sem, RdS.len hd sl22, RdS.idx hd sl22, R1.intB hd (Ext.pres eB), RdS.cells hd, RdS.len hm sl23, RdS.idx hm sl23, RdS.cellB hm (Ext.pres eB), RdS.cells hm, RdS.len hdy sl22, RdS.idx hdy sl22, R1.intB hdy (Ext.pres eB), RdS.cells hdy, RdS.len hmy sl23, RdS.idx hmy sl23, RdS.cellB hmy (Ext.pres eB), RdS.cells hmy, BoxAt.cellB hb0_0 eB, BoxAt.cellB hb0_1 eB, wrap_id]
 refine hK _ _ ?_
 clear hK K
 refine den_seq ?_
 refine den_seq ?_
 refine den_region TTok ?_
 intro K hK
 simp -implicitDefEqProofs (disch := first | decide | assumption | omega) only [go_sem, RdS.len hd sl22, RdS.idx hd sl22, R1.intB hd (Ext.pres eB), RdS.cells hd, RdS.len hm sl23, RdS.idx hm sl23, RdS.cellB hm (Ext.pres eB), RdS.cells hm, RdS.len hdy sl22, RdS.idx hdy sl22, R1.intB hdy (Ext.pres eB), RdS.cells hdy, RdS.len hmy sl23, RdS.idx hmy sl23, RdS.cellB hmy (Ext.pres eB), RdS.cells hmy, BoxAt.cellB hb0_0 eB, BoxAt.cellB hb0_1 eB, wrap_id]
 refine hK _ _ ?_
 clear hK K
 refine den_block ?_
 refine den_sel [13, 23, 2, 4, 6, 7, 22] ?_
 intro env_1
 simp only [go_sem]
 refine den_loopS (σ := Nat × Int) (fun s => [(13, .int .i64 s.2), (23, .int .i64 (s.1 : Int))]) (fun s H => Ext h0_1 H ∧ (s.1 : Int) ≤ i ∧ s.2 = a * dimP Y j + b + sumP X Y (i + j) s.1) (fun s => i.toNat - s.1) (0, a * dimP Y j + b) ?_ ?_
 ·exact ⟨eB, by simp; omega, by simp [sumP]⟩
 ·rintro ⟨k, acc⟩ h4 ee3 ⟨eB, hk, hacc⟩
  simp only [List.cons_append, List.nil_append]
  have := Ext.size eB
  dsimp only at hk hacc
  have hs := sumP_bndT hX hY (i + j) k
  have hm1 := mul64 (dimP_bndT hX k) (dimP_bndT hY (i + j - k))
  refine den_seq ?_
  refine den_region TTok ?_
  intro K hK
  simp -implicitDefEqProofs (disch := first | decide | assumption | omega) only [go_sem, RdS.len hd sl22, RdS.idx hd sl22, R1.intB hd (Ext.pres eB), RdS.cells hd, RdS.len hm sl23, RdS.idx hm sl23, RdS.cellB hm (Ext.pres eB), RdS.cells hm, RdS.len hdy sl22, RdS.idx hdy sl22, R1.intB hdy (Ext.pres eB), RdS.cells hdy, RdS.len hmy sl23, RdS.idx hmy sl23, RdS.cellB hmy (Ext.pres eB), RdS.cells hmy, BoxAt.cellB hb0_0 eB, BoxAt.cellB hb0_1 eB, wrap_id]
  refine hK _ _ ?_
  clear hK K
  refine den_seq ?_
  refine den_cond rfl (fun c0 => ?_) (fun c0 => ?_)
  ·try simp only [decide_eq_true_eq, decide_eq_false_iff_not, beq_iff_eq, beq_eq_false_iff_ne, bne_iff_ne, ne_eq, Bool.not_eq_true', Bool.not_eq_false', Bool.and_eq_true, Bool.or_eq_true, bne_eq_false_iff_eq] at c0
   refine den_skip ?_
   refine den_seq ?_
   refine den_block ?_
   refine den_seq ?_
   refine den_region TTok ?_
   intro K hK
   simp -implicitDefEqProofs (disch := first | decide | assumption | omega) only [go_sem, RdS.len hd sl22, RdS.idx hd sl22, R1.intB hd (Ext.pres eB), RdS.cells hd, RdS.len hm sl23, RdS.idx hm sl23, RdS.cellB hm (Ext.pres eB), RdS.cells hm, RdS.len hdy sl22, RdS.idx hdy sl22, R1.intB hdy (Ext.pres eB), RdS.cells hdy, RdS.len hmy sl23, RdS.idx hmy sl23, RdS.cellB hmy (Ext.pres eB), RdS.cells hmy, BoxAt.cellB hb0_0 eB, BoxAt.cellB hb0_1 eB, wrap_id]
   refine hK _ _ ?_
   clear hK K
   refine den_draw TTok mixed [] [(0, true), (1, true), (2, true), (4, true), (5, true), (6, true), (7, true), (8, true), (9, true), (3, false), (10, false), (11, true), (12, true), (13, true)] (by kernel_rfl) ?_
   intro K hK
   simp -implicitDefEqProofs (disch := first | decide | assumption | omega) only [go_sem, ld30, RdS.len hd sl22, RdS.idx hd sl22, R1.intB hd (Ext.pres eB), RdS.cells hd, RdS.len hm sl23, RdS.idx hm sl23, RdS.cellB hm (Ext.pres eB), RdS.cells hm, RdS.len hdy sl22, RdS.idx hdy sl22, R1.intB hdy (Ext.pres eB), RdS.cells hdy, RdS.len hmy sl23, RdS.idx hmy sl23, RdS.cellB hmy (Ext.pres eB), RdS.cells hmy, BoxAt.cellB hb0_0 eB, BoxAt.cellB hb0_1 eB, wrap_id]
   try simp -implicitDefEqProofs (disch := first | decide | assumption | omega) only [go_sem, RdS.len hd sl22, RdS.idx hd sl22, R1.intB hd (Ext.pres eB), RdS.cells hd, RdS.len hm sl23, RdS.idx hm sl23, RdS.cellB hm (Ext.pres eB), RdS.cells hm, RdS.len hdy sl22, RdS.idx hdy sl22, R1.intB hdy (Ext.pres eB), RdS.cells hdy, RdS.len hmy sl23, RdS.idx hmy sl23, RdS.cellB hmy (Ext.pres eB), RdS.cells hmy, BoxAt.cellB hb0_0 eB, BoxAt.cellB hb0_1 eB, wrap_id]
   refine CallA.mono (iDim_ok _ X _ _ ⟨_, _, rfl, (RdS.pres hd (Ext.pres eB)), (RdS.pres hm (Ext.pres eB))⟩) ?_
   intro v_ h5_3
   rintro ⟨rfl, e5_3⟩
   have := Ext.size e5_3
   replace eB := Ext.trans eB e5_3
   try simp (disch := decide) only [outv_some, outv_none, put_puts]
   refine plK_pres (Ext.pres e5_3) ?_
   try simp -implicitDefEqProofs (disch := first | decide | assumption | omega) only [go_sem, RdS.len hd sl22, RdS.idx hd sl22, R1.intB hd (Ext.pres eB), RdS.cells hd, RdS.len hm sl23, RdS.idx hm sl23, RdS.cellB hm (Ext.pres eB), RdS.cells hm, RdS.len hdy sl22, RdS.idx hdy sl22, R1.intB hdy (Ext.pres eB), RdS.cells hdy, RdS.len hmy sl23, RdS.idx hmy sl23, RdS.cellB hmy (Ext.pres eB), RdS.cells hmy, BoxAt.cellB hb0_0 eB, BoxAt.cellB hb0_1 eB, wrap_id]
   try simp -implicitDefEqProofs (disch := first | decide | assumption | omega) only [go_sem, RdS.len hd sl22, RdS.idx hd sl22, R1.intB hd (Ext.pres eB), RdS.cells hd, RdS.len hm sl23, RdS.idx hm sl23, RdS.cellB hm (Ext.pres eB), RdS.cells hm, RdS.len hdy sl22, RdS.idx hdy sl22, R1.intB hdy (Ext.pres eB), RdS.cells hdy, RdS.len hmy sl23, RdS.idx hmy sl23, RdS.cellB hmy (Ext.pres eB), RdS.cells hmy, BoxAt.cellB hb0_0 eB, BoxAt.cellB hb0_1 eB, wrap_id]
   refine CallA.mono (iDim_ok _ Y _ _ ⟨_, _, rfl, (RdS.pres hdy (Ext.pres eB)), (RdS.pres hmy (Ext.pres eB))⟩) ?_
   intro v_ h5_10
   rintro ⟨rfl, e5_10⟩
   have := Ext.size e5_10
   replace eB := Ext.trans eB e5_10
   try simp (disch := decide) only [outv_some, outv_none, put_puts]
   refine plK_pres (Ext.pres e5_10) ?_
   try simp -implicitDefEqProofs (disch := first | decide | assumption | omega) only [go_sem, RdS.len hd sl22, RdS.idx hd sl22, R1.intB hd (Ext.pres eB), RdS.cells hd, RdS.len hm sl23, RdS.idx hm sl23, RdS.cellB hm (Ext.pres eB), RdS.cells hm, RdS.len hdy sl22, RdS.idx hdy sl22, R1.intB hdy (Ext.pres eB), RdS.cells hdy, RdS.len hmy sl23, RdS.idx hmy sl23, RdS.cellB hmy (Ext.pres eB), RdS.cells hmy, BoxAt.cellB hb0_0 eB, BoxAt.cellB hb0_1 eB, wrap_id]
   refine hK _ _ ?_
   clear hK K
   refine den_blk ?_
   refine den_region TTok ?_
   intro K hK
   simp -implicitDefEqProofs (disch := first | decide | assumption | omega) only [go_sem, RdS.len hd sl22, RdS.idx hd sl22, R1.intB hd (Ext.pres eB), RdS.cells hd, RdS.len hm sl23, RdS.idx hm sl23, RdS.cellB hm (Ext.pres eB), RdS.cells hm, RdS.len hdy sl22, RdS.idx hdy sl22, R1.intB hdy (Ext.pres eB), RdS.cells hdy, RdS.len hmy sl23, RdS.idx hmy sl23, RdS.cellB hmy (Ext.pres eB), RdS.cells hmy, BoxAt.cellB hb0_0 eB, BoxAt.cellB hb0_1 eB, wrap_id]
   refine hK _ _ ?_
   clear hK K
   refine den_stop ?_
   exact ⟨(k + 1, acc + dimP X k * dimP Y (i + j - k)), by simp [HasL, puts_at], ⟨eB, by dsimp only; omega, by dsimp only; rw [sumP]; omega⟩, by dsimp only; omega⟩
  ·try simp only [decide_eq_true_eq, decide_eq_false_iff_not, beq_iff_eq, beq_eq_false_iff_ne, bne_iff_ne, ne_eq, Bool.not_eq_true', Bool.not_eq_false', Bool.and_eq_true, Bool.or_eq_true, bne_eq_false_iff_eq] at c0
   refine den_exit ?_
   refine denX_code ?_
   refine denX_stop ?_
   refine denX_hit ?_
   refine den_seq ?_
   refine den_region TTok ?_
   intro K hK
   simp -implicitDefEqProofs (disch := first | decide | assumption | omega) only [go_sem, RdS.len hd sl22, RdS.idx hd sl22, R1.intB hd (Ext.pres eB), RdS.cells hd, RdS.len hm sl23, RdS.idx hm sl23, RdS.cellB hm (Ext.pres eB), RdS.cells hm, RdS.len hdy sl22, RdS.idx hdy sl22, R1.intB hdy (Ext.pres eB), RdS.cells hdy, RdS.len hmy sl23, RdS.idx hmy sl23, RdS.cellB hmy (Ext.pres eB), RdS.cells hmy, BoxAt.cellB hb0_0 eB, BoxAt.cellB hb0_1 eB, wrap_id]
   refine hK _ _ ?_
   clear hK K
   refine den_ret ?_
   simp (disch := decide) only [resP_1, puts_same, puts_ne]
   have e : i.toNat = k := by omega
   exact ⟨vint (by rw [placeP, e]; omega), (Ext.trans (Ext.trans e0_0 e0_1) eB)⟩
open Go
section
variable {U : UF} {τ : Nat → Nat → Nat → Nat × Nat × Nat} {ω : Nat → Nat → Nat → Int → Int}
end
/-- Number j of row i of map k. -/
theorem IsT.num {X : Cx} (hC : IsT X) {k i j : Nat} (hk : k < X.maps.length) (hi : i < (X.maps.getD k default).length) (hj : j < ((X.maps.getD k default).getD i default).length) : 0 ≤ ((X.maps.getD k default).getD i default).getD j 0 ∧ ((X.maps.getD k default).getD i default).getD j 0 < X.p := ((tableP_iff.1 (hC.tb k hk)).2.at hi).2.at hj
theorem IsT.lens {X : Cx} (hC : IsT X) {k : Nat} (hk : k < X.maps.length) : ((X.maps.getD k default).length : Int) = X.dims.getD (k + 1) 0 ∧ ∀ i, i < (X.maps.getD k default).length → (((X.maps.getD k default).getD i default).length : Int) = X.dims.getD k 0 := by
 have t := tableP_iff.1 (hC.tb k hk)
 rw [show ((k : Int) + 1).toNat = k + 1 by omega] at t
 exact ⟨t.1, fun i hi => (t.2.at hi).1⟩
open Go
theorem mapP_okT {X : Cx} (hC : IsT X) {n : Int} (h0 : 0 ≤ n) (h1 : n ≤ (X.dims.length : Int) - 1) : ((mapP X n).length : Int) = X.dims.getD n.toNat 0 ∧ Tbl X.p (dimP X (n - 1)) (mapP X n) := by
 by_cases hn : 1 ≤ n
 ·obtain ⟨d, l, t⟩ := hC.pre.app (n := n) (by omega) h1
  rw [mapP, if_pos (in3_iff.2 ⟨hn, h1⟩), dimP, if_pos (in3_iff.2 ⟨by omega, by omega⟩)]
  exact ⟨l, t⟩
 ·have e : n = 0 := by omega
  subst e
  have d := dimP_bndT hC 0
  have d0 : dimP X 0 = X.dims.getD (0 : Int).toNat 0 := by rw [dimP, if_pos (in3_iff.2 ⟨by omega, by omega⟩)]
  rw [mapP, if_neg (by rw [in3_iff]; omega), dimP_out (n := 0 - 1) (by omega)]
  refine ⟨by rw [List.length_replicate]; omega, fun r hr => ?_⟩
  rw [List.eq_of_mem_replicate hr]
  exact ⟨rfl, fun x hx => by cases hx⟩
theorem diff_specT {X : Cx} (hC : IsT X) {n : Int} (h0 : 0 ≤ n) (h1 : n ≤ (X.dims.length : Int) - 1) (v : List Int) : accP X.p v (mapP X n) (List.replicate (dimP X (n - 1)).toNat 0) = diffP X n v := by
 by_cases hn : 1 ≤ n
 ·rw [mapP, if_pos (in3_iff.2 ⟨hn, h1⟩), dimP, if_pos (in3_iff.2 ⟨by omega, by omega⟩), diffP, if_neg (by omega)]
 ·have e : n = 0 := by omega
  subst e
  rw [mapP, if_neg (by rw [in3_iff]; omega), dimP_out (n := 0 - 1) (by omega), diffP, if_pos (by omega)]
  exact accP_nil _ _ (fun r hr => List.eq_of_mem_replicate hr)
theorem diff_unitT {X : Cx} (hC : IsT X) {k i : Nat} (hk : (k : Int) + 1 ≤ (X.dims.length : Int) - 1) (hi : (i : Int) < X.dims.getD ((k : Int) + 1).toNat 0) : diffP X ((k : Int) + 1) (unitP (X.dims.getD ((k : Int) + 1).toNat 0).toNat i) = (X.maps.getD k default).getD i default := by
 obtain ⟨d, l, t⟩ := hC.pre.app (n := (k : Int) + 1) (by omega) hk
 rw [diffP, if_neg (by omega)]
 rw [Int.add_sub_cancel, Int.toNat_natCast] at *
 have e : (X.dims.getD ((k : Int) + 1).toNat 0).toNat = (X.maps.getD k default).length := by omega
 rw [e]
 exact accP_unit (isP_bnd hC.p).1 _ _ (by omega) (by rw [show (((X.dims.getD k 0).toNat : Nat) : Int) = X.dims.getD k 0 by omega]; exact t)

set_option maxRecDepth 100000 in
theorem sMap_okT (vX : Value) (X : Cx) (n : Int) (h : Heap) (rX : RC h vX X) (hC : IsT X) : CallA Try.prog 75 #[vX, .int .i64 n] h fun v' h' => ∃ w0, v' = w0 ∧ R2 h' w0 (mapP X n) ∧ Ext h h' := by
 obtain ⟨vdX, vmX, rfl, hdX, hmX⟩ := rX
 have hledX := RdS.le hdX
 have hlemX := RdS.le hmX
 have hml := hC.ml
 have hdb := dimP_bndT hC n
 refine callA_intro TTok (args := [_, _]) Try.func75 (by kernel_rfl) rfl 32 rfl (by simp) [.tmp 4] rfl ?_
 simp only [idxs, Nat.reduceAdd]
 refine den_seq ?_
 refine den_region TTok ?_
 intro K hK
 simp -implicitDefEqProofs (disch := first | decide | assumption | omega) only [go_sem, RdS.len hdX sl22, RdS.idx hdX sl22, R1.intB hdX (HPres.refl _), RdS.cells hdX, RdS.len hmX sl23, RdS.idx hmX sl23, RdS.cellB hmX (HPres.refl _), RdS.cells hmX, wrap_id]
 refine op_box (cs := #[.int .i64 (X.p), vdX, vmX]) rfl ?_
 intro h0_0 e0_0 hb0_0 z0_0
 have := Ext.size e0_0
 have eB := e0_0
 have hfhb0_0 : Fresh h.size [h.size] := Fresh.one _
 have hlhb0_0 := one_lt (show h.size < h0_0.size by omega)
 try simp -implicitDefEqProofs (disch := first | decide | assumption | omega) only [go_sem, RdS.len hdX sl22, RdS.idx hdX sl22, R1.intB hdX (Ext.pres eB), RdS.cells hdX, RdS.len hmX sl23, RdS.idx hmX sl23, RdS.cellB hmX (Ext.pres eB), RdS.cells hmX, BoxAt.cell hb0_0, wrap_id]
 refine hK _ _ ?_
 clear hK K
 refine den_seq ?_
 refine den_seq ?_
 refine den_region TTok ?_
 intro K hK
 simp -implicitDefEqProofs (disch := first | decide | assumption | omega) only [go_sem, fa30_1, ld22, RdS.len hdX sl22, RdS.idx hdX sl22, R1.intB hdX (Ext.pres eB), RdS.cells hdX, RdS.len hmX sl23, RdS.idx hmX sl23, RdS.cellB hmX (Ext.pres eB), RdS.cells hmX, BoxAt.cell hb0_0, wrap_id]
 try simp -implicitDefEqProofs (disch := first | decide | assumption | omega) only [go_sem, RdS.len hdX sl22, RdS.idx hdX sl22, R1.intB hdX (Ext.pres eB), RdS.cells hdX, RdS.len hmX sl23, RdS.idx hmX sl23, RdS.cellB hmX (Ext.pres eB), RdS.cells hmX, BoxAt.cell hb0_0, wrap_id]
 refine CallA.pure (sIn_ok _ _ _ _) ?_
 try simp -implicitDefEqProofs (disch := first | decide | assumption | omega) only [go_sem, RdS.len hdX sl22, RdS.idx hdX sl22, R1.intB hdX (Ext.pres eB), RdS.cells hdX, RdS.len hmX sl23, RdS.idx hmX sl23, RdS.cellB hmX (Ext.pres eB), RdS.cells hmX, BoxAt.cell hb0_0, wrap_id]
 refine hK _ _ ?_
 clear hK K
 refine den_cond rfl (fun c0 => ?_) (fun c0 => ?_)
 ·try simp only [decide_eq_true_eq, decide_eq_false_iff_not, beq_iff_eq, beq_eq_false_iff_ne, bne_iff_ne, ne_eq, Bool.not_eq_true', Bool.not_eq_false', Bool.and_eq_true, Bool.or_eq_true, bne_eq_false_iff_eq, in3_iff, in3_f] at c0
  refine den_seq ?_
  refine den_region TTok ?_
  intro K hK
  have hr1 := RdS.rowN hmX ((n - (1 : Int))).toNat (by omega)
  have hlhr1 := RdS.le hr1
  simp -implicitDefEqProofs (disch := first | decide | assumption | omega) only [go_sem, fa30_2, ld23, ld56, RdS.len hdX sl22, RdS.idx hdX sl22, R1.intB hdX (Ext.pres eB), RdS.cells hdX, RdS.len hmX sl23, RdS.idx hmX sl23, RdS.cellB hmX (Ext.pres eB), RdS.cells hmX, RdS.len hr1 sl56, RdS.idx hr1 sl56, RdS.cellB hr1 (Ext.pres eB), RdS.cells hr1, BoxAt.cell hb0_0, wrap_id]
  refine hK _ _ ?_
  clear hK K
  refine den_ret ?_
  simp (disch := decide) only [resP_1, puts_same, puts_ne]
  exact ⟨_, rfl, by rw [mapP, if_pos (in3_iff.2 c0)]; exact RdS.pres (RdS.rowN hmX _ (by omega)) (Ext.pres eB), eB⟩
 ·try simp only [decide_eq_true_eq, decide_eq_false_iff_not, beq_iff_eq, beq_eq_false_iff_ne, bne_iff_ne, ne_eq, Bool.not_eq_true', Bool.not_eq_false', Bool.and_eq_true, Bool.or_eq_true, bne_eq_false_iff_eq, in3_iff, in3_f] at c0
  refine den_skip ?_
  refine den_seq ?_
  refine den_region TTok ?_
  intro K hK
  simp -implicitDefEqProofs (disch := first | decide | assumption | omega) only [go_sem, RdS.len hdX sl22, RdS.idx hdX sl22, R1.intB hdX (Ext.pres eB), RdS.cells hdX, RdS.len hmX sl23, RdS.idx hmX sl23, RdS.cellB hmX (Ext.pres eB), RdS.cells hmX, BoxAt.cell hb0_0, wrap_id]
  refine op_bs0 sz56 O1 ?_
  intro v3_0 h3_0 ho3_0 e3_0
  replace hb0_0 := BoxAt.ext hb0_0 e3_0
  have := Ext.size e3_0
  replace eB := Ext.trans eB e3_0
  have hfho3_0 : Fresh h0_0.size [h0_0.size] := Fresh.one _
  have hlho3_0 := OS.lt ho3_0
  try simp -implicitDefEqProofs (disch := first | decide | assumption | omega) only [go_sem, RdS.len hdX sl22, RdS.idx hdX sl22, R1.intB hdX (Ext.pres eB), RdS.cells hdX, RdS.len hmX sl23, RdS.idx hmX sl23, RdS.cellB hmX (Ext.pres eB), RdS.cells hmX, RdS.len (OS.rd ho3_0) sl56, RdS.idx (OS.rd ho3_0) sl56, RdS.cellN (OS.rd ho3_0), RdS.cells (OS.rd ho3_0), BoxAt.cell hb0_0, wrap_id]
  refine hK _ _ ?_
  clear hK K
  refine den_seq ?_
  refine den_seq ?_
  refine den_region TTok ?_
  intro K hK
  simp -implicitDefEqProofs (disch := first | decide | assumption | omega) only [go_sem, RdS.len hdX sl22, RdS.idx hdX sl22, R1.intB hdX (Ext.pres eB), RdS.cells hdX, RdS.len hmX sl23, RdS.idx hmX sl23, RdS.cellB hmX (Ext.pres eB), RdS.cells hmX, RdS.len (OS.rd ho3_0) sl56, RdS.idx (OS.rd ho3_0) sl56, RdS.cellN (OS.rd ho3_0), RdS.cells (OS.rd ho3_0), BoxAt.cell hb0_0, wrap_id]
  refine hK _ _ ?_
  clear hK K
  refine den_block ?_
  refine den_sel [5, 6, 1, 2] ?_
  intro env_2
  simp only [go_sem]
  refine den_loopS (σ := Nat × Value × List Nat) (fun st_ => [(5, st_.2.1), (6, .int .i64 (st_.1 : Int))]) (fun st_ H => ((st_.1 : Int) ≤ dimP X n) ∧ (O2 H st_.2.1 (List.replicate st_.1 []) st_.2.2) ∧ (Fresh (h0_0.size) st_.2.2) ∧ (Sub [h0_0.size] h3_0.size st_.2.2) ∧ (Chg [h0_0.size] h3_0 H)) (fun st_ => (dimP X n).toNat - st_.1) (0, v3_0, [h0_0.size]) ?_ ?_
  ·exact ⟨by first | (simp; done) | (dsimp only; omega) | (simp; omega), by simpa using ho3_0, hfho3_0, Sub.refl, Chg.refl _ _⟩
  ·rintro ⟨k, vhI, fphI⟩ h5 ee4 ⟨hi0, hI, hfhI, sbhI, cL3⟩
   dsimp only at hi0 hI hfhI sbhI cL3
   replace hb0_0 := BoxAt.chgA hb0_0 cL3 (apart_lt hlhb0_0 hfho3_0 (by omega))
   have := cL3.size
   replace eB := Ext.then eB cL3 (ge_of hfho3_0 (by omega))
   have hlhI := OS.lt hI
   simp only [List.cons_append, List.nil_append]
   have hlr : (List.replicate k ([] : List Int)).length = k := List.length_replicate
   refine den_seq ?_
   refine den_seq ?_
   refine den_region TTok ?_
   intro K hK
   simp -implicitDefEqProofs (disch := first | decide | assumption | omega) only [go_sem, ld30, RdS.len hdX sl22, RdS.idx hdX sl22, R1.intB hdX (Ext.pres eB), RdS.cells hdX, RdS.len hmX sl23, RdS.idx hmX sl23, RdS.cellB hmX (Ext.pres eB), RdS.cells hmX, RdS.len (OS.rd hI) sl56, RdS.idx (OS.rd hI) sl56, RdS.cellN (OS.rd hI), RdS.cells (OS.rd hI), BoxAt.cell hb0_0, wrap_id]
   try simp -implicitDefEqProofs (disch := first | decide | assumption | omega) only [go_sem, RdS.len hdX sl22, RdS.idx hdX sl22, R1.intB hdX (Ext.pres eB), RdS.cells hdX, RdS.len hmX sl23, RdS.idx hmX sl23, RdS.cellB hmX (Ext.pres eB), RdS.cells hmX, RdS.len (OS.rd hI) sl56, RdS.idx (OS.rd hI) sl56, RdS.cellN (OS.rd hI), RdS.cells (OS.rd hI), BoxAt.cell hb0_0, wrap_id]
   refine CallA.mono (sDim_ok _ X _ _ ⟨_, _, rfl, (RdS.pres hdX (Ext.pres eB)), (RdS.pres hmX (Ext.pres eB))⟩) ?_
   intro v_ h5_3
   rintro ⟨rfl, e5_3⟩
   replace hI := OS.ext hI e5_3
   replace hb0_0 := BoxAt.ext hb0_0 e5_3
   have := Ext.size e5_3
   replace eB := Ext.trans eB e5_3
   replace cL3 := Chg.stepE cL3 e5_3
   try simp -implicitDefEqProofs (disch := first | decide | assumption | omega) only [go_sem, RdS.len hdX sl22, RdS.idx hdX sl22, R1.intB hdX (Ext.pres eB), RdS.cells hdX, RdS.len hmX sl23, RdS.idx hmX sl23, RdS.cellB hmX (Ext.pres eB), RdS.cells hmX, RdS.len (OS.rd hI) sl56, RdS.idx (OS.rd hI) sl56, RdS.cellN (OS.rd hI), RdS.cells (OS.rd hI), BoxAt.cell hb0_0, wrap_id]
   refine hK _ _ ?_
   clear hK K
   refine den_cond rfl (fun c1 => ?_) (fun c1 => ?_)
   ·try simp only [decide_eq_true_eq, decide_eq_false_iff_not, beq_iff_eq, beq_eq_false_iff_ne, bne_iff_ne, ne_eq, Bool.not_eq_true', Bool.not_eq_false', Bool.and_eq_true, Bool.or_eq_true, bne_eq_false_iff_eq, in3_iff, in3_f] at c1
    refine den_skip ?_
    refine den_seq ?_
    refine den_block ?_
    refine den_region TTok ?_
    intro K hK
    simp -implicitDefEqProofs (disch := first | decide | assumption | omega) only [go_sem, RdS.len hdX sl22, RdS.idx hdX sl22, R1.intB hdX (Ext.pres eB), RdS.cells hdX, RdS.len hmX sl23, RdS.idx hmX sl23, RdS.cellB hmX (Ext.pres eB), RdS.cells hmX, RdS.len (OS.rd hI) sl56, RdS.idx (OS.rd hI) sl56, RdS.cellN (OS.rd hI), RdS.cells (OS.rd hI), BoxAt.cell hb0_0, wrap_id]
    refine op_bs0 sz22 OI ?_
    intro v7_1 h7_1 ho7_1 e7_1
    replace hI := OS.ext hI e7_1
    replace hb0_0 := BoxAt.ext hb0_0 e7_1
    have := Ext.size e7_1
    replace eB := Ext.trans eB e7_1
    replace cL3 := Chg.stepE cL3 e7_1
    have hfho7_1 : Fresh h5_3.size [h5_3.size] := Fresh.one _
    have hlho7_1 := OS.lt ho7_1
    try simp -implicitDefEqProofs (disch := first | decide | assumption | omega) only [go_sem, RdS.len hdX sl22, RdS.idx hdX sl22, R1.intB hdX (Ext.pres eB), RdS.cells hdX, RdS.len hmX sl23, RdS.idx hmX sl23, RdS.cellB hmX (Ext.pres eB), RdS.cells hmX, RdS.len (OS.rd hI) sl56, RdS.idx (OS.rd hI) sl56, RdS.cellN (OS.rd hI), RdS.cells (OS.rd hI), RdS.len (OS.rd ho7_1) sl22, RdS.idx (OS.rd ho7_1) sl22, R1.intN (OS.rd ho7_1), RdS.cells (OS.rd ho7_1), BoxAt.cell hb0_0, wrap_id]
    refine op_bs1 sz56 rfl (OS.one ho7_1).2 ?_
    try simp -implicitDefEqProofs (disch := first | decide | assumption | omega) only [go_sem, RdS.len hdX sl22, RdS.idx hdX sl22, R1.intB hdX (Ext.pres eB), RdS.cells hdX, RdS.len hmX sl23, RdS.idx hmX sl23, RdS.cellB hmX (Ext.pres eB), RdS.cells hmX, RdS.len (OS.rd hI) sl56, RdS.idx (OS.rd hI) sl56, RdS.cellN (OS.rd hI), RdS.cells (OS.rd hI), RdS.len (OS.rd ho7_1) sl22, RdS.idx (OS.rd ho7_1) sl22, R1.intN (OS.rd ho7_1), RdS.cells (OS.rd ho7_1), BoxAt.cell hb0_0, wrap_id]
    refine op_append1 sz56 hI hfhI.nodup ho7_1 hfho7_1.nodup (apart_lt hlhI hfho7_1 (by omega)) (by first | omega | (simp; omega)) rfl rfl ?_
    intro v7_3 h7_3 fp7_3 ho7_3 hn7_3 hs7_3 c7_3
    have hsz7_3 := c7_3.size
    have hfho7_3 : Fresh h0_0.size fp7_3 := Fresh.appd hfhI hfho7_1 (by omega) (by omega) hn7_3 hs7_3
    have sb6 : Sub [h0_0.size] h3_0.size fp7_3 := Sub.grow sbhI (Sub.fresh hfho7_1 (by omega)) (by omega) hs7_3
    replace hb0_0 := BoxAt.chgA hb0_0 c7_3 (apart_lt hlhb0_0 hfhI (by omega))
    have := c7_3.size
    replace eB := Ext.then eB c7_3 (ge_of hfhI (by omega))
    replace cL3 := Chg.step cL3 c7_3 sbhI
    have hlho7_3 := OS.lt ho7_3
    try simp -implicitDefEqProofs (disch := first | decide | assumption | omega) only [go_sem, RdS.len hdX sl22, RdS.idx hdX sl22, R1.intB hdX (Ext.pres eB), RdS.cells hdX, RdS.len hmX sl23, RdS.idx hmX sl23, RdS.cellB hmX (Ext.pres eB), RdS.cells hmX, RdS.len (OS.rd ho7_3) sl56, RdS.idx (OS.rd ho7_3) sl56, RdS.cellN (OS.rd ho7_3), RdS.cells (OS.rd ho7_3), BoxAt.cell hb0_0, wrap_id]
    refine hK _ _ ?_
    clear hK K
    refine den_blk ?_
    refine den_region TTok ?_
    intro K hK
    simp -implicitDefEqProofs (disch := first | decide | assumption | omega) only [go_sem, RdS.len hdX sl22, RdS.idx hdX sl22, R1.intB hdX (Ext.pres eB), RdS.cells hdX, RdS.len hmX sl23, RdS.idx hmX sl23, RdS.cellB hmX (Ext.pres eB), RdS.cells hmX, RdS.len (OS.rd ho7_3) sl56, RdS.idx (OS.rd ho7_3) sl56, RdS.cellN (OS.rd ho7_3), RdS.cells (OS.rd ho7_3), BoxAt.cell hb0_0, wrap_id]
    refine hK _ _ ?_
    clear hK K
    refine den_stop ?_
    rw [← List.replicate_succ'] at ho7_3
    exact ⟨(k + 1, v7_3, fp7_3), by simp [HasL, puts_at], ⟨by first | omega | (dsimp only; omega), ho7_3, hfho7_3, sb6, cL3⟩, by first | omega | (dsimp only; omega)⟩
   ·try simp only [decide_eq_true_eq, decide_eq_false_iff_not, beq_iff_eq, beq_eq_false_iff_ne, bne_iff_ne, ne_eq, Bool.not_eq_true', Bool.not_eq_false', Bool.and_eq_true, Bool.or_eq_true, bne_eq_false_iff_eq, in3_iff, in3_f] at c1
    refine den_exit ?_
    refine denX_code ?_
    refine denX_stop ?_
    refine denX_hit ?_
    refine den_seq ?_
    refine den_region TTok ?_
    intro K hK
    simp -implicitDefEqProofs (disch := first | decide | assumption | omega) only [go_sem, RdS.len hdX sl22, RdS.idx hdX sl22, R1.intB hdX (Ext.pres eB), RdS.cells hdX, RdS.len hmX sl23, RdS.idx hmX sl23, RdS.cellB hmX (Ext.pres eB), RdS.cells hmX, RdS.len (OS.rd hI) sl56, RdS.idx (OS.rd hI) sl56, RdS.cellN (OS.rd hI), RdS.cells (OS.rd hI), wrap_id]
    refine hK _ _ ?_
    clear hK K
    refine den_ret ?_
    simp (disch := decide) only [resP_1, puts_same, puts_ne]
    have e : (dimP X n).toNat = k := by omega
    exact ⟨_, rfl, by rw [mapP, if_neg (by rw [in3_iff]; omega), e]; exact OS.rd hI, eB⟩
open Go
theorem dims_natT {X : Cx} (hC : IsT X) (q : Nat) : 0 ≤ X.dims.getD q 0 ∧ X.dims.getD q 0 ≤ 8 := by
 by_cases h : q < X.dims.length
 ·exact dm_at hC.dm h
 ·rw [gO (by omega)]; omega
theorem lens_natT {X : Cx} (hC : IsT X) (q : Nat) : (X.maps.getD q default).length = (X.dims.getD (q + 1) 0).toNat ∧ ∀ r, r < (X.maps.getD q default).length → ((X.maps.getD q default).getD r default).length = (X.dims.getD q 0).toNat := by
 have hm := hC.ml
 by_cases h : q < X.maps.length
 ·have l := hC.lens h
  exact ⟨by omega, fun r hr => by have := l.2 r hr; omega⟩
 ·rw [gO (show X.maps.length ≤ q by omega), gO (show X.dims.length ≤ q + 1 by omega)]
  exact ⟨rfl, fun r hr => by cases hr⟩
open Go
set_option maxRecDepth 100000 in
theorem sDims_okT (vX vY : Value) (X : Cx) (Y : Cx) (h : Heap) (rX : RC h vX X) (rY : RC h vY Y) (hX : IsT X) (hY : IsT Y) : CallA Try.prog 99 #[vX, vY] h fun v' h' => ∃ w0 f0, v' = w0 ∧ O1 h' w0 (tdP X Y) f0 ∧ Fresh h.size f0 ∧ Ext h h' := by
 obtain ⟨vdX, vmX, rfl, hdX, hmX⟩ := rX
 have hledX := RdS.le hdX
 have hlemX := RdS.le hmX
 obtain ⟨vdY, vmY, rfl, hdY, hmY⟩ := rY
 have hledY := RdS.le hdY
 have hlemY := RdS.le hmY
 have hlX := hX.len
 have hlY := hY.len
 refine callA_intro TTok (args := [_, _]) Try.func99 (by kernel_rfl) rfl 43 rfl (by simp) [.tmp 4] rfl ?_
 simp only [idxs, Nat.reduceAdd]
 refine den_seq ?_
 refine den_region TTok ?_
 intro K hK
 simp -implicitDefEqProofs (disch := first | decide | assumption | omega) only [go_sem, RdS.len hdX sl22, RdS.idx hdX sl22, R1.intB hdX (HPres.refl _), RdS.cells hdX, RdS.len hmX sl23, RdS.idx hmX sl23, RdS.cellB hmX (HPres.refl _), RdS.cells hmX, RdS.len hdY sl22, RdS.idx hdY sl22, R1.intB hdY (HPres.refl _), RdS.cells hdY, RdS.len hmY sl23, RdS.idx hmY sl23, RdS.cellB hmY (HPres.refl _), RdS.cells hmY, wrap_id]
 refine op_box (cs := #[.int .i64 (X.p), vdX, vmX]) rfl ?_
 intro h0_0 e0_0 hb0_0 z0_0
 have := Ext.size e0_0
 have eB := e0_0
 have hfhb0_0 : Fresh h.size [h.size] := Fresh.one _
 have hlhb0_0 := one_lt (show h.size < h0_0.size by omega)
 try simp -implicitDefEqProofs (disch := first | decide | assumption | omega) only [go_sem, RdS.len hdX sl22, RdS.idx hdX sl22, R1.intB hdX (Ext.pres eB), RdS.cells hdX, RdS.len hmX sl23, RdS.idx hmX sl23, RdS.cellB hmX (Ext.pres eB), RdS.cells hmX, RdS.len hdY sl22, RdS.idx hdY sl22, R1.intB hdY (Ext.pres eB), RdS.cells hdY, RdS.len hmY sl23, RdS.idx hmY sl23, RdS.cellB hmY (Ext.pres eB), RdS.cells hmY, BoxAt.cell hb0_0, wrap_id]
 refine op_box (cs := #[.int .i64 (Y.p), vdY, vmY]) rfl ?_
 intro h0_1 e0_1 hb0_1 z0_1
 replace hb0_0 := BoxAt.ext hb0_0 e0_1
 have := Ext.size e0_1
 replace eB := Ext.trans eB e0_1
 have hfhb0_1 : Fresh h0_0.size [h0_0.size] := Fresh.one _
 have hlhb0_1 := one_lt (show h0_0.size < h0_1.size by omega)
 try simp -implicitDefEqProofs (disch := first | decide | assumption | omega) only [go_sem, RdS.len hdX sl22, RdS.idx hdX sl22, R1.intB hdX (Ext.pres eB), RdS.cells hdX, RdS.len hmX sl23, RdS.idx hmX sl23, RdS.cellB hmX (Ext.pres eB), RdS.cells hmX, RdS.len hdY sl22, RdS.idx hdY sl22, R1.intB hdY (Ext.pres eB), RdS.cells hdY, RdS.len hmY sl23, RdS.idx hmY sl23, RdS.cellB hmY (Ext.pres eB), RdS.cells hmY, BoxAt.cell hb0_0, BoxAt.cell hb0_1, wrap_id]
 refine hK _ _ ?_
 clear hK K
 refine den_seq ?_
 refine den_region TTok ?_
 intro K hK
 simp -implicitDefEqProofs (disch := first | decide | assumption | omega) only [go_sem, RdS.len hdX sl22, RdS.idx hdX sl22, R1.intB hdX (Ext.pres eB), RdS.cells hdX, RdS.len hmX sl23, RdS.idx hmX sl23, RdS.cellB hmX (Ext.pres eB), RdS.cells hmX, RdS.len hdY sl22, RdS.idx hdY sl22, R1.intB hdY (Ext.pres eB), RdS.cells hdY, RdS.len hmY sl23, RdS.idx hmY sl23, RdS.cellB hmY (Ext.pres eB), RdS.cells hmY, BoxAt.cell hb0_0, BoxAt.cell hb0_1, wrap_id]
 refine op_bs0 sz22 OI ?_
 intro v1_0 h1_0 ho1_0 e1_0
 replace hb0_0 := BoxAt.ext hb0_0 e1_0
 replace hb0_1 := BoxAt.ext hb0_1 e1_0
 have := Ext.size e1_0
 replace eB := Ext.trans eB e1_0
 have hfho1_0 : Fresh h0_1.size [h0_1.size] := Fresh.one _
 have hlho1_0 := OS.lt ho1_0
 try simp -implicitDefEqProofs (disch := first | decide | assumption | omega) only [go_sem, RdS.len hdX sl22, RdS.idx hdX sl22, R1.intB hdX (Ext.pres eB), RdS.cells hdX, RdS.len hmX sl23, RdS.idx hmX sl23, RdS.cellB hmX (Ext.pres eB), RdS.cells hmX, RdS.len hdY sl22, RdS.idx hdY sl22, R1.intB hdY (Ext.pres eB), RdS.cells hdY, RdS.len hmY sl23, RdS.idx hmY sl23, RdS.cellB hmY (Ext.pres eB), RdS.cells hmY, RdS.len (OS.rd ho1_0) sl22, RdS.idx (OS.rd ho1_0) sl22, R1.intN (OS.rd ho1_0), RdS.cells (OS.rd ho1_0), BoxAt.cell hb0_0, BoxAt.cell hb0_1, wrap_id]
 refine hK _ _ ?_
 clear hK K
 refine den_seq ?_
 refine den_seq ?_
 refine den_region TTok ?_
 intro K hK
 simp -implicitDefEqProofs (disch := first | decide | assumption | omega) only [go_sem, RdS.len hdX sl22, RdS.idx hdX sl22, R1.intB hdX (Ext.pres eB), RdS.cells hdX, RdS.len hmX sl23, RdS.idx hmX sl23, RdS.cellB hmX (Ext.pres eB), RdS.cells hmX, RdS.len hdY sl22, RdS.idx hdY sl22, R1.intB hdY (Ext.pres eB), RdS.cells hdY, RdS.len hmY sl23, RdS.idx hmY sl23, RdS.cellB hmY (Ext.pres eB), RdS.cells hmY, RdS.len (OS.rd ho1_0) sl22, RdS.idx (OS.rd ho1_0) sl22, R1.intN (OS.rd ho1_0), RdS.cells (OS.rd ho1_0), BoxAt.cell hb0_0, BoxAt.cell hb0_1, wrap_id]
 refine hK _ _ ?_
 clear hK K
 refine den_block ?_
 refine den_sel [5, 6, 2, 3] ?_
 intro env_1
 simp only [go_sem]
 refine den_loopS (σ := Nat × Value × List Nat) (fun st_ => [(5, st_.2.1), (6, .int .i64 (st_.1 : Int))]) (fun st_ H => (st_.1 : Int) ≤ (X.dims.length : Int) + Y.dims.length - 1 ∧ O1 H st_.2.1 ((List.range st_.1).map fun q : Nat => sumP X Y (q : Int) (q + 1)) st_.2.2 ∧ Fresh (h0_1.size) st_.2.2 ∧ Sub [h0_1.size] h1_0.size st_.2.2 ∧ Chg [h0_1.size] h1_0 H) (fun st_ => X.dims.length + Y.dims.length - st_.1) (0, v1_0, [h0_1.size]) ?_ ?_
 ·exact ⟨by first | (simp; done) | (dsimp only; omega) | (simp; omega), by simpa using ho1_0, hfho1_0, Sub.refl, Chg.refl _ _⟩
 ·rintro ⟨n, vhO, fphO⟩ h4 ee3 ⟨hi0, hO, hfhO, sbhO, cL2⟩
  dsimp only at hi0 hO hfhO sbhO cL2
  replace hb0_0 := BoxAt.chgA hb0_0 cL2 (apart_lt hlhb0_0 hfho1_0 (by omega))
  replace hb0_1 := BoxAt.chgA hb0_1 cL2 (apart_lt hlhb0_1 hfho1_0 (by omega))
  have := cL2.size
  replace eB := Ext.then eB cL2 (ge_of hfho1_0 (by omega))
  have hlhO := OS.lt hO
  simp only [List.cons_append, List.nil_append]
  refine den_seq ?_
  refine den_seq ?_
  refine den_region TTok ?_
  intro K hK
  simp -implicitDefEqProofs (disch := first | decide | assumption | omega) only [go_sem, fa30_1, ld22, RdS.len hdX sl22, RdS.idx hdX sl22, R1.intB hdX (Ext.pres eB), RdS.cells hdX, RdS.len hmX sl23, RdS.idx hmX sl23, RdS.cellB hmX (Ext.pres eB), RdS.cells hmX, RdS.len hdY sl22, RdS.idx hdY sl22, R1.intB hdY (Ext.pres eB), RdS.cells hdY, RdS.len hmY sl23, RdS.idx hmY sl23, RdS.cellB hmY (Ext.pres eB), RdS.cells hmY, RdS.len (OS.rd hO) sl22, RdS.idx (OS.rd hO) sl22, R1.intN (OS.rd hO), RdS.cells (OS.rd hO), BoxAt.cell hb0_0, BoxAt.cell hb0_1, wrap_id]
  refine hK _ _ ?_
  clear hK K
  refine den_cond rfl (fun c0 => ?_) (fun c0 => ?_)
  ·try simp only [decide_eq_true_eq, decide_eq_false_iff_not, beq_iff_eq, beq_eq_false_iff_ne, bne_iff_ne, ne_eq, Bool.not_eq_true', Bool.not_eq_false', Bool.and_eq_true, Bool.or_eq_true, bne_eq_false_iff_eq] at c0
   refine den_skip ?_
   refine den_seq ?_
   refine den_block ?_
   refine den_seq ?_
   refine den_region TTok ?_
   intro K hK
   simp -implicitDefEqProofs (disch := first | decide | assumption | omega) only [go_sem, RdS.len hdX sl22, RdS.idx hdX sl22, R1.intB hdX (Ext.pres eB), RdS.cells hdX, RdS.len hmX sl23, RdS.idx hmX sl23, RdS.cellB hmX (Ext.pres eB), RdS.cells hmX, RdS.len hdY sl22, RdS.idx hdY sl22, R1.intB hdY (Ext.pres eB), RdS.cells hdY, RdS.len hmY sl23, RdS.idx hmY sl23, RdS.cellB hmY (Ext.pres eB), RdS.cells hmY, RdS.len (OS.rd hO) sl22, RdS.idx (OS.rd hO) sl22, R1.intN (OS.rd hO), RdS.cells (OS.rd hO), BoxAt.cell hb0_0, BoxAt.cell hb0_1, wrap_id]
   refine hK _ _ ?_
   clear hK K
   refine den_seq ?_
   refine den_seq ?_
   refine den_region TTok ?_
   intro K hK
   simp -implicitDefEqProofs (disch := first | decide | assumption | omega) only [go_sem, RdS.len hdX sl22, RdS.idx hdX sl22, R1.intB hdX (Ext.pres eB), RdS.cells hdX, RdS.len hmX sl23, RdS.idx hmX sl23, RdS.cellB hmX (Ext.pres eB), RdS.cells hmX, RdS.len hdY sl22, RdS.idx hdY sl22, R1.intB hdY (Ext.pres eB), RdS.cells hdY, RdS.len hmY sl23, RdS.idx hmY sl23, RdS.cellB hmY (Ext.pres eB), RdS.cells hmY, RdS.len (OS.rd hO) sl22, RdS.idx (OS.rd hO) sl22, R1.intN (OS.rd hO), RdS.cells (OS.rd hO), BoxAt.cell hb0_0, BoxAt.cell hb0_1, wrap_id]
   refine hK _ _ ?_
   clear hK K
   refine den_block ?_
   refine den_sel [7, 8, 2, 3, 5, 6] ?_
   intro env_5
   simp only [go_sem]
   refine den_loopS (σ := Nat × Int) (fun st_ => [(7, .int .i64 st_.2), (8, .int .i64 (st_.1 : Int))]) (fun st_ H => (st_.1 : Int) ≤ (n : Int) + 1 ∧ st_.2 = sumP X Y (n : Int) st_.1 ∧ Ext h4 H) (fun st_ => n + 1 - st_.1) (0, 0) ?_ ?_
   ·exact ⟨by dsimp only; omega, by simp [sumP], Ext.refl _⟩
   ·rintro ⟨m, acc⟩ h8 ee7 ⟨hm2, hacc, cL6⟩
    dsimp only at hm2 hacc cL6
    replace hO := OS.ext hO cL6
    replace hb0_0 := BoxAt.ext hb0_0 cL6
    replace hb0_1 := BoxAt.ext hb0_1 cL6
    have := Ext.size cL6
    replace eB := Ext.trans eB cL6
    replace cL2 := Chg.stepE cL2 cL6
    simp only [List.cons_append, List.nil_append]
    refine den_seq ?_
    refine den_seq ?_
    have hlt : ((List.range n).map fun q : Nat => sumP X Y (q : Int) (q + 1)).length = n := by simp
    refine den_region TTok ?_
    intro K hK
    simp -implicitDefEqProofs (disch := first | decide | assumption | omega) only [go_sem, RdS.len hdX sl22, RdS.idx hdX sl22, R1.intB hdX (Ext.pres eB), RdS.cells hdX, RdS.len hmX sl23, RdS.idx hmX sl23, RdS.cellB hmX (Ext.pres eB), RdS.cells hmX, RdS.len hdY sl22, RdS.idx hdY sl22, R1.intB hdY (Ext.pres eB), RdS.cells hdY, RdS.len hmY sl23, RdS.idx hmY sl23, RdS.cellB hmY (Ext.pres eB), RdS.cells hmY, RdS.len (OS.rd hO) sl22, RdS.idx (OS.rd hO) sl22, R1.intN (OS.rd hO), RdS.cells (OS.rd hO), BoxAt.cell hb0_0, BoxAt.cell hb0_1, wrap_id]
    refine hK _ _ ?_
    clear hK K
    refine den_cond rfl (fun c1 => ?_) (fun c1 => ?_)
    ·try simp only [decide_eq_true_eq, decide_eq_false_iff_not, beq_iff_eq, beq_eq_false_iff_ne, bne_iff_ne, ne_eq, Bool.not_eq_true', Bool.not_eq_false', Bool.and_eq_true, Bool.or_eq_true, bne_eq_false_iff_eq] at c1
     refine den_skip ?_
     refine den_seq ?_
     refine den_block ?_
     have hs := sumP_bndT hX hY (n : Int) m
     have hm1 := mul64 (dimP_bndT hX m) (dimP_bndT hY ((n : Int) - m))
     refine den_draw TTok mixed [] [(0, true), (1, true), (2, true), (4, true), (5, true), (6, true), (7, true), (3, false), (8, false), (9, true), (10, true), (11, true)] (by kernel_rfl) ?_
     intro K hK
     simp -implicitDefEqProofs (disch := first | decide | assumption | omega) only [go_sem, ld30, RdS.len hdX sl22, RdS.idx hdX sl22, R1.intB hdX (Ext.pres eB), RdS.cells hdX, RdS.len hmX sl23, RdS.idx hmX sl23, RdS.cellB hmX (Ext.pres eB), RdS.cells hmX, RdS.len hdY sl22, RdS.idx hdY sl22, R1.intB hdY (Ext.pres eB), RdS.cells hdY, RdS.len hmY sl23, RdS.idx hmY sl23, RdS.cellB hmY (Ext.pres eB), RdS.cells hmY, RdS.len (OS.rd hO) sl22, RdS.idx (OS.rd hO) sl22, R1.intN (OS.rd hO), RdS.cells (OS.rd hO), BoxAt.cell hb0_0, BoxAt.cell hb0_1, wrap_id]
     try simp -implicitDefEqProofs (disch := first | decide | assumption | omega) only [go_sem, RdS.len hdX sl22, RdS.idx hdX sl22, R1.intB hdX (Ext.pres eB), RdS.cells hdX, RdS.len hmX sl23, RdS.idx hmX sl23, RdS.cellB hmX (Ext.pres eB), RdS.cells hmX, RdS.len hdY sl22, RdS.idx hdY sl22, R1.intB hdY (Ext.pres eB), RdS.cells hdY, RdS.len hmY sl23, RdS.idx hmY sl23, RdS.cellB hmY (Ext.pres eB), RdS.cells hmY, RdS.len (OS.rd hO) sl22, RdS.idx (OS.rd hO) sl22, R1.intN (OS.rd hO), RdS.cells (OS.rd hO), BoxAt.cell hb0_0, BoxAt.cell hb0_1, wrap_id]
     refine CallA.mono (sDim_ok _ X _ _ ⟨_, _, rfl, (RdS.pres hdX (Ext.pres eB)), (RdS.pres hmX (Ext.pres eB))⟩) ?_
     intro v_ h9_3
     rintro ⟨rfl, e9_3⟩
     replace hO := OS.ext hO e9_3
     replace hb0_0 := BoxAt.ext hb0_0 e9_3
     replace hb0_1 := BoxAt.ext hb0_1 e9_3
     have := Ext.size e9_3
     replace eB := Ext.trans eB e9_3
     replace cL2 := Chg.stepE cL2 e9_3
     replace cL6 := Ext.trans cL6 e9_3
     try simp (disch := decide) only [outv_some, outv_none, put_puts]
     refine plK_pres (Ext.pres e9_3) ?_
     try simp -implicitDefEqProofs (disch := first | decide | assumption | omega) only [go_sem, RdS.len hdX sl22, RdS.idx hdX sl22, R1.intB hdX (Ext.pres eB), RdS.cells hdX, RdS.len hmX sl23, RdS.idx hmX sl23, RdS.cellB hmX (Ext.pres eB), RdS.cells hmX, RdS.len hdY sl22, RdS.idx hdY sl22, R1.intB hdY (Ext.pres eB), RdS.cells hdY, RdS.len hmY sl23, RdS.idx hmY sl23, RdS.cellB hmY (Ext.pres eB), RdS.cells hmY, RdS.len (OS.rd hO) sl22, RdS.idx (OS.rd hO) sl22, R1.intN (OS.rd hO), RdS.cells (OS.rd hO), BoxAt.cell hb0_0, BoxAt.cell hb0_1, wrap_id]
     try simp -implicitDefEqProofs (disch := first | decide | assumption | omega) only [go_sem, RdS.len hdX sl22, RdS.idx hdX sl22, R1.intB hdX (Ext.pres eB), RdS.cells hdX, RdS.len hmX sl23, RdS.idx hmX sl23, RdS.cellB hmX (Ext.pres eB), RdS.cells hmX, RdS.len hdY sl22, RdS.idx hdY sl22, R1.intB hdY (Ext.pres eB), RdS.cells hdY, RdS.len hmY sl23, RdS.idx hmY sl23, RdS.cellB hmY (Ext.pres eB), RdS.cells hmY, RdS.len (OS.rd hO) sl22, RdS.idx (OS.rd hO) sl22, R1.intN (OS.rd hO), RdS.cells (OS.rd hO), BoxAt.cell hb0_0, BoxAt.cell hb0_1, wrap_id]
     refine CallA.mono (sDim_ok _ Y _ _ ⟨_, _, rfl, (RdS.pres hdY (Ext.pres eB)), (RdS.pres hmY (Ext.pres eB))⟩) ?_
     intro v_ h9_8
     rintro ⟨rfl, e9_8⟩
     replace hO := OS.ext hO e9_8
     replace hb0_0 := BoxAt.ext hb0_0 e9_8
     replace hb0_1 := BoxAt.ext hb0_1 e9_8
     have := Ext.size e9_8
     replace eB := Ext.trans eB e9_8
     replace cL2 := Chg.stepE cL2 e9_8
     replace cL6 := Ext.trans cL6 e9_8
     try simp (disch := decide) only [outv_some, outv_none, put_puts]
     refine plK_pres (Ext.pres e9_8) ?_
     try simp -implicitDefEqProofs (disch := first | decide | assumption | omega) only [go_sem, RdS.len hdX sl22, RdS.idx hdX sl22, R1.intB hdX (Ext.pres eB), RdS.cells hdX, RdS.len hmX sl23, RdS.idx hmX sl23, RdS.cellB hmX (Ext.pres eB), RdS.cells hmX, RdS.len hdY sl22, RdS.idx hdY sl22, R1.intB hdY (Ext.pres eB), RdS.cells hdY, RdS.len hmY sl23, RdS.idx hmY sl23, RdS.cellB hmY (Ext.pres eB), RdS.cells hmY, RdS.len (OS.rd hO) sl22, RdS.idx (OS.rd hO) sl22, R1.intN (OS.rd hO), RdS.cells (OS.rd hO), BoxAt.cell hb0_0, BoxAt.cell hb0_1, wrap_id]
     refine hK _ _ ?_
     clear hK K
     refine den_blk ?_
     refine den_region TTok ?_
     intro K hK
     simp -implicitDefEqProofs (disch := first | decide | assumption | omega) only [go_sem, RdS.len hdX sl22, RdS.idx hdX sl22, R1.intB hdX (Ext.pres eB), RdS.cells hdX, RdS.len hmX sl23, RdS.idx hmX sl23, RdS.cellB hmX (Ext.pres eB), RdS.cells hmX, RdS.len hdY sl22, RdS.idx hdY sl22, R1.intB hdY (Ext.pres eB), RdS.cells hdY, RdS.len hmY sl23, RdS.idx hmY sl23, RdS.cellB hmY (Ext.pres eB), RdS.cells hmY, RdS.len (OS.rd hO) sl22, RdS.idx (OS.rd hO) sl22, R1.intN (OS.rd hO), RdS.cells (OS.rd hO), BoxAt.cell hb0_0, BoxAt.cell hb0_1, wrap_id]
     refine hK _ _ ?_
     clear hK K
     refine den_stop ?_
     exact ⟨(m + 1, acc + dimP X m * dimP Y ((n : Int) - m)), by simp [HasL, puts_at], ⟨by dsimp only; omega, by dsimp only; rw [sumP, hacc], cL6⟩, by first | omega | (dsimp only; omega)⟩
    ·try simp only [decide_eq_true_eq, decide_eq_false_iff_not, beq_iff_eq, beq_eq_false_iff_ne, bne_iff_ne, ne_eq, Bool.not_eq_true', Bool.not_eq_false', Bool.and_eq_true, Bool.or_eq_true, bne_eq_false_iff_eq] at c1
     refine den_exit ?_
     refine denX_code ?_
     refine denX_stop ?_
     refine denX_hit ?_
     refine den_region TTok ?_
     intro K hK
     simp -implicitDefEqProofs (disch := first | decide | assumption | omega) only [go_sem, RdS.len hdX sl22, RdS.idx hdX sl22, R1.intB hdX (Ext.pres eB), RdS.cells hdX, RdS.len hmX sl23, RdS.idx hmX sl23, RdS.cellB hmX (Ext.pres eB), RdS.cells hmX, RdS.len hdY sl22, RdS.idx hdY sl22, R1.intB hdY (Ext.pres eB), RdS.cells hdY, RdS.len hmY sl23, RdS.idx hmY sl23, RdS.cellB hmY (Ext.pres eB), RdS.cells hmY, RdS.len (OS.rd hO) sl22, RdS.idx (OS.rd hO) sl22, R1.intN (OS.rd hO), RdS.cells (OS.rd hO), BoxAt.cell hb0_0, BoxAt.cell hb0_1, wrap_id]
     refine op_bs1 sz22 rfl rfl ?_
     try simp -implicitDefEqProofs (disch := first | decide | assumption | omega) only [go_sem, RdS.len hdX sl22, RdS.idx hdX sl22, R1.intB hdX (Ext.pres eB), RdS.cells hdX, RdS.len hmX sl23, RdS.idx hmX sl23, RdS.cellB hmX (Ext.pres eB), RdS.cells hmX, RdS.len hdY sl22, RdS.idx hdY sl22, R1.intB hdY (Ext.pres eB), RdS.cells hdY, RdS.len hmY sl23, RdS.idx hmY sl23, RdS.cellB hmY (Ext.pres eB), RdS.cells hmY, RdS.len (OS.rd hO) sl22, RdS.idx (OS.rd hO) sl22, R1.intN (OS.rd hO), RdS.cells (OS.rd hO), BoxAt.cell hb0_0, BoxAt.cell hb0_1, wrap_id]
     refine op_append1 sz22 hO hfhO.nodup ⟨rfl, rfl⟩ List.nodup_nil (Apart.nil _) (by first | omega | (simp; omega)) rfl rfl ?_
     intro v10_3 h10_3 fp10_3 ho10_3 hn10_3 hs10_3 c10_3
     have hsz10_3 := c10_3.size
     have hfho10_3 : Fresh h0_1.size fp10_3 := Fresh.appd hfhO (Fresh.nil h8.size) (by omega) (by omega) hn10_3 hs10_3
     have sb9 : Sub [h0_1.size] h1_0.size fp10_3 := Sub.grow sbhO Sub.nil (by omega) hs10_3
     replace hb0_0 := BoxAt.chgA hb0_0 c10_3 (apart_lt hlhb0_0 hfhO (by omega))
     replace hb0_1 := BoxAt.chgA hb0_1 c10_3 (apart_lt hlhb0_1 hfhO (by omega))
     have := c10_3.size
     replace eB := Ext.then eB c10_3 (ge_of hfhO (by omega))
     replace cL2 := Chg.step cL2 c10_3 sbhO
     have hlho10_3 := OS.lt ho10_3
     try simp -implicitDefEqProofs (disch := first | decide | assumption | omega) only [go_sem, RdS.len hdX sl22, RdS.idx hdX sl22, R1.intB hdX (Ext.pres eB), RdS.cells hdX, RdS.len hmX sl23, RdS.idx hmX sl23, RdS.cellB hmX (Ext.pres eB), RdS.cells hmX, RdS.len hdY sl22, RdS.idx hdY sl22, R1.intB hdY (Ext.pres eB), RdS.cells hdY, RdS.len hmY sl23, RdS.idx hmY sl23, RdS.cellB hmY (Ext.pres eB), RdS.cells hmY, RdS.len (OS.rd ho10_3) sl22, RdS.idx (OS.rd ho10_3) sl22, R1.intN (OS.rd ho10_3), RdS.cells (OS.rd ho10_3), BoxAt.cell hb0_0, BoxAt.cell hb0_1, wrap_id]
     refine hK _ _ ?_
     clear hK K
     refine den_blk ?_
     refine den_region TTok ?_
     intro K hK
     simp -implicitDefEqProofs (disch := first | decide | assumption | omega) only [go_sem, RdS.len hdX sl22, RdS.idx hdX sl22, R1.intB hdX (Ext.pres eB), RdS.cells hdX, RdS.len hmX sl23, RdS.idx hmX sl23, RdS.cellB hmX (Ext.pres eB), RdS.cells hmX, RdS.len hdY sl22, RdS.idx hdY sl22, R1.intB hdY (Ext.pres eB), RdS.cells hdY, RdS.len hmY sl23, RdS.idx hmY sl23, RdS.cellB hmY (Ext.pres eB), RdS.cells hmY, RdS.len (OS.rd ho10_3) sl22, RdS.idx (OS.rd ho10_3) sl22, R1.intN (OS.rd ho10_3), RdS.cells (OS.rd ho10_3), BoxAt.cell hb0_0, BoxAt.cell hb0_1, wrap_id]
     refine hK _ _ ?_
     clear hK K
     refine den_stop ?_
     rw [hacc, show m = n + 1 by omega, range_step (fun q : Nat => sumP X Y (q : Int) (q + 1))] at ho10_3
     exact ⟨(n + 1, v10_3, fp10_3), by simp [HasL, puts_at], ⟨by first | omega | (dsimp only; omega), ho10_3, hfho10_3, sb9, cL2⟩, by first | omega | (dsimp only; omega)⟩
  ·try simp only [decide_eq_true_eq, decide_eq_false_iff_not, beq_iff_eq, beq_eq_false_iff_ne, bne_iff_ne, ne_eq, Bool.not_eq_true', Bool.not_eq_false', Bool.and_eq_true, Bool.or_eq_true, bne_eq_false_iff_eq] at c0
   refine den_exit ?_
   refine denX_code ?_
   refine denX_stop ?_
   refine denX_hit ?_
   refine den_seq ?_
   refine den_region TTok ?_
   intro K hK
   simp -implicitDefEqProofs (disch := first | decide | assumption | omega) only [go_sem, RdS.len hdX sl22, RdS.idx hdX sl22, R1.intB hdX (Ext.pres eB), RdS.cells hdX, RdS.len hmX sl23, RdS.idx hmX sl23, RdS.cellB hmX (Ext.pres eB), RdS.cells hmX, RdS.len hdY sl22, RdS.idx hdY sl22, R1.intB hdY (Ext.pres eB), RdS.cells hdY, RdS.len hmY sl23, RdS.idx hmY sl23, RdS.cellB hmY (Ext.pres eB), RdS.cells hmY, RdS.len (OS.rd hO) sl22, RdS.idx (OS.rd hO) sl22, R1.intN (OS.rd hO), RdS.cells (OS.rd hO), wrap_id]
   refine hK _ _ ?_
   clear hK K
   refine den_ret ?_
   simp (disch := decide) only [resP_1, puts_same, puts_ne]
   have e : tdP X Y = (List.range n).map fun q : Nat => sumP X Y (q : Int) (q + 1) := by rw [tdP, show X.dims.length + Y.dims.length - 1 = n by omega]
   rw [e]
   exact ⟨_, _, rfl, hO, hfhO.mono (by omega), eB⟩

set_option maxRecDepth 100000 in
theorem iDims_okT (vX vY : Value) (X : Cx) (Y : Cx) (h : Heap) (rX : RC h vX X) (rY : RC h vY Y) (hX : IsT X) (hY : IsT Y) : CallA Try.prog 147 #[vX, vY] h fun v' h' => ∃ w0 f0, v' = w0 ∧ O1 h' w0 (tdP X Y) f0 ∧ Fresh h.size f0 ∧ Ext h h' := by
 obtain ⟨vdX, vmX, rfl, hdX, hmX⟩ := rX
 have hledX := RdS.le hdX
 have hlemX := RdS.le hmX
 obtain ⟨vdY, vmY, rfl, hdY, hmY⟩ := rY
 have hledY := RdS.le hdY
 have hlemY := RdS.le hmY
 have hlX := hX.len
 have hlY := hY.len
 refine callA_intro TTok (args := [_, _]) Try.func147 (by kernel_rfl) rfl 47 rfl (by simp) [.tmp 4] rfl ?_
 simp only [idxs, Nat.reduceAdd]
 refine den_seq ?_
 refine den_region TTok ?_
 intro K hK
 simp -implicitDefEqProofs (disch := first | decide | assumption | omega) only [go_sem, RdS.len hdX sl22, RdS.idx hdX sl22, R1.intB hdX (HPres.refl _), RdS.cells hdX, RdS.len hmX sl23, RdS.idx hmX sl23, RdS.cellB hmX (HPres.refl _), RdS.cells hmX, RdS.len hdY sl22, RdS.idx hdY sl22, R1.intB hdY (HPres.refl _), RdS.cells hdY, RdS.len hmY sl23, RdS.idx hmY sl23, RdS.cellB hmY (HPres.refl _), RdS.cells hmY, wrap_id, Int.add_sub_cancel]
 refine op_box (cs := #[.int .i64 (X.p), vdX, vmX]) rfl ?_
 intro h0_0 e0_0 hb0_0 z0_0
 have := Ext.size e0_0
 have eB := e0_0
 have hfhb0_0 : Fresh h.size [h.size] := Fresh.one _
 have hlhb0_0 := one_lt (show h.size < h0_0.size by omega)
 try simp -implicitDefEqProofs (disch := first | decide | assumption | omega) only [go_sem, RdS.len hdX sl22, RdS.idx hdX sl22, R1.intB hdX (Ext.pres eB), RdS.cells hdX, RdS.len hmX sl23, RdS.idx hmX sl23, RdS.cellB hmX (Ext.pres eB), RdS.cells hmX, RdS.len hdY sl22, RdS.idx hdY sl22, R1.intB hdY (Ext.pres eB), RdS.cells hdY, RdS.len hmY sl23, RdS.idx hmY sl23, RdS.cellB hmY (Ext.pres eB), RdS.cells hmY, BoxAt.cell hb0_0, wrap_id, Int.add_sub_cancel]
 refine op_box (cs := #[.int .i64 (Y.p), vdY, vmY]) rfl ?_
 intro h0_1 e0_1 hb0_1 z0_1
 replace hb0_0 := BoxAt.ext hb0_0 e0_1
 have := Ext.size e0_1
 replace eB := Ext.trans eB e0_1
 have hfhb0_1 : Fresh h0_0.size [h0_0.size] := Fresh.one _
 have hlhb0_1 := one_lt (show h0_0.size < h0_1.size by omega)
 try simp -implicitDefEqProofs (disch := first | decide | assumption | omega) only [go_sem, RdS.len hdX sl22, RdS.idx hdX sl22, R1.intB hdX (Ext.pres eB), RdS.cells hdX, RdS.len hmX sl23, RdS.idx hmX sl23, RdS.cellB hmX (Ext.pres eB), RdS.cells hmX, RdS.len hdY sl22, RdS.idx hdY sl22, R1.intB hdY (Ext.pres eB), RdS.cells hdY, RdS.len hmY sl23, RdS.idx hmY sl23, RdS.cellB hmY (Ext.pres eB), RdS.cells hmY, BoxAt.cell hb0_0, BoxAt.cell hb0_1, wrap_id, Int.add_sub_cancel]
 refine hK _ _ ?_
 clear hK K
 refine den_seq ?_
 refine den_draw TTok mixed [] [(0, true), (2, true), (1, false), (3, false), (4, true), (5, true), (6, false), (7, true)] (by kernel_rfl) ?_
 intro K hK
 simp -implicitDefEqProofs (disch := first | decide | assumption | omega) only [go_sem, ld30, RdS.len hdX sl22, RdS.idx hdX sl22, R1.intB hdX (Ext.pres eB), RdS.cells hdX, RdS.len hmX sl23, RdS.idx hmX sl23, RdS.cellB hmX (Ext.pres eB), RdS.cells hmX, RdS.len hdY sl22, RdS.idx hdY sl22, R1.intB hdY (Ext.pres eB), RdS.cells hdY, RdS.len hmY sl23, RdS.idx hmY sl23, RdS.cellB hmY (Ext.pres eB), RdS.cells hmY, BoxAt.cell hb0_0, BoxAt.cell hb0_1, wrap_id, Int.add_sub_cancel]
 try simp -implicitDefEqProofs (disch := first | decide | assumption | omega) only [go_sem, RdS.len hdX sl22, RdS.idx hdX sl22, R1.intB hdX (Ext.pres eB), RdS.cells hdX, RdS.len hmX sl23, RdS.idx hmX sl23, RdS.cellB hmX (Ext.pres eB), RdS.cells hmX, RdS.len hdY sl22, RdS.idx hdY sl22, R1.intB hdY (Ext.pres eB), RdS.cells hdY, RdS.len hmY sl23, RdS.idx hmY sl23, RdS.cellB hmY (Ext.pres eB), RdS.cells hmY, BoxAt.cell hb0_0, BoxAt.cell hb0_1, wrap_id, Int.add_sub_cancel]
 refine CallA.mono (top_ok _ X _ ⟨_, _, rfl, (RdS.pres hdX (Ext.pres eB)), (RdS.pres hmX (Ext.pres eB))⟩) ?_
 intro v_ h1_1
 rintro ⟨rfl, e1_1⟩
 replace hb0_0 := BoxAt.ext hb0_0 e1_1
 replace hb0_1 := BoxAt.ext hb0_1 e1_1
 have := Ext.size e1_1
 replace eB := Ext.trans eB e1_1
 try simp (disch := decide) only [outv_some, outv_none, put_puts]
 refine plK_pres (Ext.pres e1_1) ?_
 try simp -implicitDefEqProofs (disch := first | decide | assumption | omega) only [go_sem, RdS.len hdX sl22, RdS.idx hdX sl22, R1.intB hdX (Ext.pres eB), RdS.cells hdX, RdS.len hmX sl23, RdS.idx hmX sl23, RdS.cellB hmX (Ext.pres eB), RdS.cells hmX, RdS.len hdY sl22, RdS.idx hdY sl22, R1.intB hdY (Ext.pres eB), RdS.cells hdY, RdS.len hmY sl23, RdS.idx hmY sl23, RdS.cellB hmY (Ext.pres eB), RdS.cells hmY, BoxAt.cell hb0_0, BoxAt.cell hb0_1, wrap_id, Int.add_sub_cancel]
 try simp -implicitDefEqProofs (disch := first | decide | assumption | omega) only [go_sem, RdS.len hdX sl22, RdS.idx hdX sl22, R1.intB hdX (Ext.pres eB), RdS.cells hdX, RdS.len hmX sl23, RdS.idx hmX sl23, RdS.cellB hmX (Ext.pres eB), RdS.cells hmX, RdS.len hdY sl22, RdS.idx hdY sl22, R1.intB hdY (Ext.pres eB), RdS.cells hdY, RdS.len hmY sl23, RdS.idx hmY sl23, RdS.cellB hmY (Ext.pres eB), RdS.cells hmY, BoxAt.cell hb0_0, BoxAt.cell hb0_1, wrap_id, Int.add_sub_cancel]
 refine CallA.mono (top_ok _ Y _ ⟨_, _, rfl, (RdS.pres hdY (Ext.pres eB)), (RdS.pres hmY (Ext.pres eB))⟩) ?_
 intro v_ h1_3
 rintro ⟨rfl, e1_3⟩
 replace hb0_0 := BoxAt.ext hb0_0 e1_3
 replace hb0_1 := BoxAt.ext hb0_1 e1_3
 have := Ext.size e1_3
 replace eB := Ext.trans eB e1_3
 try simp (disch := decide) only [outv_some, outv_none, put_puts]
 refine plK_pres (Ext.pres e1_3) ?_
 try simp -implicitDefEqProofs (disch := first | decide | assumption | omega) only [go_sem, RdS.len hdX sl22, RdS.idx hdX sl22, R1.intB hdX (Ext.pres eB), RdS.cells hdX, RdS.len hmX sl23, RdS.idx hmX sl23, RdS.cellB hmX (Ext.pres eB), RdS.cells hmX, RdS.len hdY sl22, RdS.idx hdY sl22, R1.intB hdY (Ext.pres eB), RdS.cells hdY, RdS.len hmY sl23, RdS.idx hmY sl23, RdS.cellB hmY (Ext.pres eB), RdS.cells hmY, BoxAt.cell hb0_0, BoxAt.cell hb0_1, wrap_id, Int.add_sub_cancel]
 refine op_make sz22 rfl rfl (by omega) (by omega) OI 0 (fun _ => ⟨rfl, rfl⟩) ?_
 intro v1_6 h1_6 ho1_6 e1_6
 replace hb0_0 := BoxAt.ext hb0_0 e1_6
 replace hb0_1 := BoxAt.ext hb0_1 e1_6
 have := Ext.size e1_6
 replace eB := Ext.trans eB e1_6
 have hfho1_6 : Fresh h1_3.size [h1_3.size] := Fresh.one _
 have hlenho1_6 : (List.replicate ((((((X.dims).length : Int) - 1) + (((Y.dims).length : Int) - 1)) + (1 : Int))).toNat (0 : Int)).length = ((((((X.dims).length : Int) - 1) + (((Y.dims).length : Int) - 1)) + (1 : Int))).toNat := List.length_replicate
 have hlho1_6 := OS.lt ho1_6
 try simp (disch := decide) only [outv_some, outv_none, put_puts]
 refine plK_pres (Ext.pres e1_6) ?_
 try simp -implicitDefEqProofs (disch := first | decide | assumption | omega) only [go_sem, RdS.len hdX sl22, RdS.idx hdX sl22, R1.intB hdX (Ext.pres eB), RdS.cells hdX, RdS.len hmX sl23, RdS.idx hmX sl23, RdS.cellB hmX (Ext.pres eB), RdS.cells hmX, RdS.len hdY sl22, RdS.idx hdY sl22, R1.intB hdY (Ext.pres eB), RdS.cells hdY, RdS.len hmY sl23, RdS.idx hmY sl23, RdS.cellB hmY (Ext.pres eB), RdS.cells hmY, RdS.len (OS.rd ho1_6) sl22, RdS.idx (OS.rd ho1_6) sl22, R1.intN (OS.rd ho1_6), RdS.cells (OS.rd ho1_6), BoxAt.cell hb0_0, BoxAt.cell hb0_1, wrap_id, Int.add_sub_cancel]
 refine hK _ _ ?_
 clear hK K
 refine den_seq ?_
 refine den_seq ?_
 refine den_region TTok ?_
 intro K hK
 simp -implicitDefEqProofs (disch := first | decide | assumption | omega) only [go_sem, fa30_1, ld22, RdS.len hdX sl22, RdS.idx hdX sl22, R1.intB hdX (Ext.pres eB), RdS.cells hdX, RdS.len hmX sl23, RdS.idx hmX sl23, RdS.cellB hmX (Ext.pres eB), RdS.cells hmX, RdS.len hdY sl22, RdS.idx hdY sl22, R1.intB hdY (Ext.pres eB), RdS.cells hdY, RdS.len hmY sl23, RdS.idx hmY sl23, RdS.cellB hmY (Ext.pres eB), RdS.cells hmY, RdS.len (OS.rd ho1_6) sl22, RdS.idx (OS.rd ho1_6) sl22, R1.intN (OS.rd ho1_6), RdS.cells (OS.rd ho1_6), BoxAt.cell hb0_0, BoxAt.cell hb0_1, wrap_id, Int.add_sub_cancel]
 refine hK _ _ ?_
 clear hK K
 refine den_block ?_
 refine den_sel [20, 3, 5, 18, 19] ?_
 intro env_1
 simp only [go_sem]
 refine den_loopS (σ := Nat) (fun st_ => [(20, .int .i64 (st_ : Int))]) (fun st_ H => st_ ≤ X.dims.length ∧ O1 H v1_6 (tkP X Y (X.dims.length + Y.dims.length - 1) st_) [h1_3.size] ∧ Chg [h1_3.size] h1_6 H) (fun st_ => X.dims.length - st_) 0 ?_ ?_
 ·exact ⟨by first | (simp; done) | (dsimp only; omega) | (simp; omega), by rw [tk_zero, show X.dims.length + Y.dims.length - 1 = ((X.dims.length : Int) - 1 + ((Y.dims.length : Int) - 1) + 1).toNat by omega]; exact ho1_6, Chg.refl _ _⟩
 ·rintro k h4 ee3 ⟨hi0, hO, cL2⟩
  replace hb0_0 := BoxAt.chgA hb0_0 cL2 (apart_lt hlhb0_0 hfho1_6 (by omega))
  replace hb0_1 := BoxAt.chgA hb0_1 cL2 (apart_lt hlhb0_1 hfho1_6 (by omega))
  have := cL2.size
  replace eB := Ext.then eB cL2 (ge_of hfho1_6 (by omega))
  have sbhO : Sub [h1_3.size] h1_6.size [h1_3.size] := Sub.refl
  have hfhO := hfho1_6
  have hlhO := OS.lt hO
  simp only [List.cons_append, List.nil_append]
  refine den_seq ?_
  refine den_region TTok ?_
  intro K hK
  simp -implicitDefEqProofs (disch := first | decide | assumption | omega) only [go_sem, RdS.len hdX sl22, RdS.idx hdX sl22, R1.intB hdX (Ext.pres eB), RdS.cells hdX, RdS.len hmX sl23, RdS.idx hmX sl23, RdS.cellB hmX (Ext.pres eB), RdS.cells hmX, RdS.len hdY sl22, RdS.idx hdY sl22, R1.intB hdY (Ext.pres eB), RdS.cells hdY, RdS.len hmY sl23, RdS.idx hmY sl23, RdS.cellB hmY (Ext.pres eB), RdS.cells hmY, RdS.len (OS.rd hO) sl22, RdS.idx (OS.rd hO) sl22, R1.intN (OS.rd hO), RdS.cells (OS.rd hO), BoxAt.cell hb0_1, wrap_id, Int.add_sub_cancel]
  refine hK _ _ ?_
  clear hK K
  refine den_seq ?_
  refine den_cond rfl (fun c0 => ?_) (fun c0 => ?_)
  ·try simp only [decide_eq_true_eq, decide_eq_false_iff_not, beq_iff_eq, beq_eq_false_iff_ne, bne_iff_ne, ne_eq, Bool.not_eq_true', Bool.not_eq_false', Bool.and_eq_true, Bool.or_eq_true, bne_eq_false_iff_eq] at c0
   refine den_skip ?_
   refine den_seq ?_
   refine den_block ?_
   refine den_seq ?_
   refine den_region TTok ?_
   intro K hK
   simp -implicitDefEqProofs (disch := first | decide | assumption | omega) only [go_sem, ld2, RdS.len hdX sl22, RdS.idx hdX sl22, R1.intB hdX (Ext.pres eB), RdS.cells hdX, RdS.len hmX sl23, RdS.idx hmX sl23, RdS.cellB hmX (Ext.pres eB), RdS.cells hmX, RdS.len hdY sl22, RdS.idx hdY sl22, R1.intB hdY (Ext.pres eB), RdS.cells hdY, RdS.len hmY sl23, RdS.idx hmY sl23, RdS.cellB hmY (Ext.pres eB), RdS.cells hmY, RdS.len (OS.rd hO) sl22, RdS.idx (OS.rd hO) sl22, R1.intN (OS.rd hO), RdS.cells (OS.rd hO), BoxAt.cell hb0_1, wrap_id, Int.add_sub_cancel]
   refine hK _ _ ?_
   clear hK K
   refine den_seq ?_
   refine den_region TTok ?_
   intro K hK
   simp -implicitDefEqProofs (disch := first | decide | assumption | omega) only [go_sem, fa30_1, ld22, RdS.len hdX sl22, RdS.idx hdX sl22, R1.intB hdX (Ext.pres eB), RdS.cells hdX, RdS.len hmX sl23, RdS.idx hmX sl23, RdS.cellB hmX (Ext.pres eB), RdS.cells hmX, RdS.len hdY sl22, RdS.idx hdY sl22, R1.intB hdY (Ext.pres eB), RdS.cells hdY, RdS.len hmY sl23, RdS.idx hmY sl23, RdS.cellB hmY (Ext.pres eB), RdS.cells hmY, RdS.len (OS.rd hO) sl22, RdS.idx (OS.rd hO) sl22, R1.intN (OS.rd hO), RdS.cells (OS.rd hO), BoxAt.cell hb0_1, wrap_id, Int.add_sub_cancel]
   refine hK _ _ ?_
   clear hK K
   refine den_block ?_
   refine den_sel [28, 3, 5, 6, 7, 18, 19, 20, 26, 27] ?_
   intro env_5
   simp only [go_sem]
   refine den_loopS (σ := Nat) (fun st_ => [(28, .int .i64 (st_ : Int))]) (fun st_ H => st_ ≤ Y.dims.length ∧ O1 H v1_6 (mix (tkP X Y (X.dims.length + Y.dims.length - 1) (k + 1)) (tkP X Y (X.dims.length + Y.dims.length - 1) k) (k + st_)) [h1_3.size] ∧ Chg [h1_3.size] h4 H) (fun st_ => Y.dims.length - st_) 0 ?_ ?_
   ·exact ⟨by first | (simp; done) | (dsimp only; omega) | (simp; omega), by show O1 _ _ (mix _ _ k) _; rw [tk_start]; exact hO, Chg.refl _ _⟩
   ·rintro m h8 ee7 ⟨hi0, hI, cL6⟩
    replace hb0_1 := BoxAt.chgA hb0_1 cL6 (apart_lt hlhb0_1 hfhO (by omega))
    have := cL6.size
    replace eB := Ext.then eB cL6 (ge_of hfhO (by omega))
    replace cL2 := Chg.step cL2 cL6 sbhO
    have sbhI : Sub [h1_3.size] h4.size [h1_3.size] := Sub.refl
    have hfhI := hfhO
    have sb9 : Sub [h1_3.size] h1_6.size [h1_3.size] := Sub.trans sbhI sbhO (by omega)
    have hlhI := OS.lt hI
    simp only [List.cons_append, List.nil_append]
    refine den_seq ?_
    refine den_region TTok ?_
    intro K hK
    simp -implicitDefEqProofs (disch := first | decide | assumption | omega) only [go_sem, RdS.len hdX sl22, RdS.idx hdX sl22, R1.intB hdX (Ext.pres eB), RdS.cells hdX, RdS.len hmX sl23, RdS.idx hmX sl23, RdS.cellB hmX (Ext.pres eB), RdS.cells hmX, RdS.len hdY sl22, RdS.idx hdY sl22, R1.intB hdY (Ext.pres eB), RdS.cells hdY, RdS.len hmY sl23, RdS.idx hmY sl23, RdS.cellB hmY (Ext.pres eB), RdS.cells hmY, RdS.len (OS.rd hI) sl22, RdS.idx (OS.rd hI) sl22, R1.intN (OS.rd hI), RdS.cells (OS.rd hI), BoxAt.cell hb0_1, wrap_id, Int.add_sub_cancel]
    refine hK _ _ ?_
    clear hK K
    refine den_seq ?_
    refine den_cond rfl (fun c1 => ?_) (fun c1 => ?_)
    ·try simp only [decide_eq_true_eq, decide_eq_false_iff_not, beq_iff_eq, beq_eq_false_iff_ne, bne_iff_ne, ne_eq, Bool.not_eq_true', Bool.not_eq_false', Bool.and_eq_true, Bool.or_eq_true, bne_eq_false_iff_eq] at c1
     refine den_skip ?_
     refine den_seq ?_
     refine den_block ?_
     refine den_seq ?_
     refine den_region TTok ?_
     intro K hK
     simp -implicitDefEqProofs (disch := first | decide | assumption | omega) only [go_sem, ld2, RdS.len hdX sl22, RdS.idx hdX sl22, R1.intB hdX (Ext.pres eB), RdS.cells hdX, RdS.len hmX sl23, RdS.idx hmX sl23, RdS.cellB hmX (Ext.pres eB), RdS.cells hmX, RdS.len hdY sl22, RdS.idx hdY sl22, R1.intB hdY (Ext.pres eB), RdS.cells hdY, RdS.len hmY sl23, RdS.idx hmY sl23, RdS.cellB hmY (Ext.pres eB), RdS.cells hmY, RdS.len (OS.rd hI) sl22, RdS.idx (OS.rd hI) sl22, R1.intN (OS.rd hI), RdS.cells (OS.rd hI), BoxAt.cell hb0_1, wrap_id, Int.add_sub_cancel]
     refine hK _ _ ?_
     clear hK K
     have hml : (mix (tkP X Y (X.dims.length + Y.dims.length - 1) (k + 1)) (tkP X Y (X.dims.length + Y.dims.length - 1) k) (k + m)).length = (X.dims.length + Y.dims.length - 1) := by rw [mix_len _ _ _ (by rw [tkP_len, tkP_len]), tkP_len]
     have hat := mix_at (tkP X Y (X.dims.length + Y.dims.length - 1) (k + 1)) (tkP X Y (X.dims.length + Y.dims.length - 1) k) (k + m) (k + m) (by rw [tkP_len, tkP_len]) (by rw [tkP_len]; omega)
     rw [if_neg (by omega), tkP_get X Y (by omega)] at hat
     have hs := sumP_bndT hX hY ((k + m : Nat) : Int) k
     have hdx := dimP_at (X := X) (k := k) (by omega)
     have hdy := dimP_at (X := Y) (k := m) (by omega)
     have hm1 := mul64 (dimP_bndT hX k) (dimP_bndT hY m)
     rw [hdx, hdy] at hm1
     have ekm : ((k : Int) + (m : Int)).toNat = k + m := by omega
     refine den_region TTok ?_
     intro K hK
     simp -implicitDefEqProofs (disch := first | decide | assumption | omega) only [go_sem, ld2, RdS.len hdX sl22, RdS.idx hdX sl22, R1.intB hdX (Ext.pres eB), RdS.cells hdX, RdS.len hmX sl23, RdS.idx hmX sl23, RdS.cellB hmX (Ext.pres eB), RdS.cells hmX, RdS.len hdY sl22, RdS.idx hdY sl22, R1.intB hdY (Ext.pres eB), RdS.cells hdY, RdS.len hmY sl23, RdS.idx hmY sl23, RdS.cellB hmY (Ext.pres eB), RdS.cells hmY, RdS.len (OS.rd hI) sl22, RdS.idx (OS.rd hI) sl22, R1.intN (OS.rd hI), RdS.cells (OS.rd hI), BoxAt.cell hb0_1, wrap_id, Int.add_sub_cancel, ekm]
     refine op_store1 (j := (((k : Int) + (m : Int))).toNat) st2 hI hfhI.nodup (by first | omega | (simp; omega)) rfl rfl ?_
     intro h8_11 ho8_11 c8_11
     have hsz8_11 := c8_11.size
     replace hb0_1 := BoxAt.chgA hb0_1 c8_11 (apart_lt hlhb0_1 hfhI (by omega))
     have := c8_11.size
     replace eB := Ext.then eB c8_11 (ge_of hfhI (by omega))
     replace cL2 := Chg.step cL2 c8_11 sb9
     replace cL6 := Chg.step cL6 c8_11 sbhI
     have hlho8_11 := OS.lt ho8_11
     have hlenho8_11 : ((mix (tkP X Y (X.dims.length + Y.dims.length - 1) (k + 1)) (tkP X Y (X.dims.length + Y.dims.length - 1) k) (k + m)).set ((((k : Int) + (m : Int))).toNat) (((mix (tkP X Y (X.dims.length + Y.dims.length - 1) (k + 1)) (tkP X Y (X.dims.length + Y.dims.length - 1) k) (k + m)).getD (((k : Int) + (m : Int))).toNat 0) + (((X.dims).getD k 0) * ((Y.dims).getD m 0))) : List Int).length = (mix (tkP X Y (X.dims.length + Y.dims.length - 1) (k + 1)) (tkP X Y (X.dims.length + Y.dims.length - 1) k) (k + m) : List Int).length := List.length_set
     try simp -implicitDefEqProofs (disch := first | decide | assumption | omega) only [go_sem, RdS.len hdX sl22, RdS.idx hdX sl22, R1.intB hdX (Ext.pres eB), RdS.cells hdX, RdS.len hmX sl23, RdS.idx hmX sl23, RdS.cellB hmX (Ext.pres eB), RdS.cells hmX, RdS.len hdY sl22, RdS.idx hdY sl22, R1.intB hdY (Ext.pres eB), RdS.cells hdY, RdS.len hmY sl23, RdS.idx hmY sl23, RdS.cellB hmY (Ext.pres eB), RdS.cells hmY, RdS.len (OS.rd ho8_11) sl22, RdS.idx (OS.rd ho8_11) sl22, R1.intN (OS.rd ho8_11), RdS.cells (OS.rd ho8_11), BoxAt.cell hb0_1, wrap_id, Int.add_sub_cancel, ekm]
     refine hK _ _ ?_
     clear hK K
     refine den_blk ?_
     refine den_region TTok ?_
     intro K hK
     simp -implicitDefEqProofs (disch := first | decide | assumption | omega) only [go_sem, RdS.len hdX sl22, RdS.idx hdX sl22, R1.intB hdX (Ext.pres eB), RdS.cells hdX, RdS.len hmX sl23, RdS.idx hmX sl23, RdS.cellB hmX (Ext.pres eB), RdS.cells hmX, RdS.len hdY sl22, RdS.idx hdY sl22, R1.intB hdY (Ext.pres eB), RdS.cells hdY, RdS.len hmY sl23, RdS.idx hmY sl23, RdS.cellB hmY (Ext.pres eB), RdS.cells hmY, RdS.len (OS.rd ho8_11) sl22, RdS.idx (OS.rd ho8_11) sl22, R1.intN (OS.rd ho8_11), RdS.cells (OS.rd ho8_11), BoxAt.cell hb0_1, wrap_id, Int.add_sub_cancel]
     refine hK _ _ ?_
     clear hK K
     refine den_stop ?_
     rw [ekm, ← hdx, ← hdy, tk_step X Y _ _ _ (by omega), Nat.add_assoc] at ho8_11
     exact ⟨m + 1, by simp [HasL, puts_at], ⟨by first | omega | (dsimp only; omega), ho8_11, cL6⟩, by first | omega | (dsimp only; omega)⟩
    ·try simp only [decide_eq_true_eq, decide_eq_false_iff_not, beq_iff_eq, beq_eq_false_iff_ne, bne_iff_ne, ne_eq, Bool.not_eq_true', Bool.not_eq_false', Bool.and_eq_true, Bool.or_eq_true, bne_eq_false_iff_eq] at c1
     refine den_exit ?_
     refine denX_code ?_
     refine denX_stop ?_
     refine denX_hit ?_
     refine den_blk ?_
     refine den_region TTok ?_
     intro K hK
     simp -implicitDefEqProofs (disch := first | decide | assumption | omega) only [go_sem, RdS.len hdX sl22, RdS.idx hdX sl22, R1.intB hdX (Ext.pres eB), RdS.cells hdX, RdS.len hmX sl23, RdS.idx hmX sl23, RdS.cellB hmX (Ext.pres eB), RdS.cells hmX, RdS.len hdY sl22, RdS.idx hdY sl22, R1.intB hdY (Ext.pres eB), RdS.cells hdY, RdS.len hmY sl23, RdS.idx hmY sl23, RdS.cellB hmY (Ext.pres eB), RdS.cells hmY, RdS.len (OS.rd hI) sl22, RdS.idx (OS.rd hI) sl22, R1.intN (OS.rd hI), RdS.cells (OS.rd hI), BoxAt.cell hb0_1, wrap_id, Int.add_sub_cancel]
     refine hK _ _ ?_
     clear hK K
     refine den_stop ?_
     rw [tk_end X Y _ _ _ (by omega)] at hI
     exact ⟨k + 1, by simp [HasL, puts_at], ⟨by first | omega | (dsimp only; omega), hI, cL2⟩, by first | omega | (dsimp only; omega)⟩
  ·try simp only [decide_eq_true_eq, decide_eq_false_iff_not, beq_iff_eq, beq_eq_false_iff_ne, bne_iff_ne, ne_eq, Bool.not_eq_true', Bool.not_eq_false', Bool.and_eq_true, Bool.or_eq_true, bne_eq_false_iff_eq] at c0
   refine den_exit ?_
   refine denX_code ?_
   refine denX_stop ?_
   refine denX_hit ?_
   refine den_seq ?_
   refine den_region TTok ?_
   intro K hK
   simp -implicitDefEqProofs (disch := first | decide | assumption | omega) only [go_sem, RdS.len hdX sl22, RdS.idx hdX sl22, R1.intB hdX (Ext.pres eB), RdS.cells hdX, RdS.len hmX sl23, RdS.idx hmX sl23, RdS.cellB hmX (Ext.pres eB), RdS.cells hmX, RdS.len hdY sl22, RdS.idx hdY sl22, R1.intB hdY (Ext.pres eB), RdS.cells hdY, RdS.len hmY sl23, RdS.idx hmY sl23, RdS.cellB hmY (Ext.pres eB), RdS.cells hmY, RdS.len (OS.rd hO) sl22, RdS.idx (OS.rd hO) sl22, R1.intN (OS.rd hO), RdS.cells (OS.rd hO), wrap_id, Int.add_sub_cancel]
   refine hK _ _ ?_
   clear hK K
   refine den_ret ?_
   simp (disch := decide) only [resP_1, puts_same, puts_ne]
   rw [show k = X.dims.length by omega, tk_all hlX.1] at hO
   exact ⟨_, _, rfl, hO, hfhO.mono (by omega), eB⟩
open Go
theorem tdP_bndT {X Y : Cx} (hX : IsT X) (hY : IsT Y) {n : Nat} (h : n < X.dims.length + Y.dims.length - 1) : 0 ≤ (tdP X Y).getD n 0 ∧ (tdP X Y).getD n 0 ≤ 704 := by
 have := sumP_bndT hX hY (n : Int) (n + 1)
 have := hX.len; have := hY.len
 rw [tdP_get X Y h]; omega
theorem sumP_monoT {X Y : Cx} (hX : IsT X) (hY : IsT Y) (s : Int) {k : Nat} : ∀ {m : Nat}, k ≤ m → sumP X Y s k ≤ sumP X Y s m
 | 0, h => by rw [show k = 0 by omega]; exact Int.le_refl _
 | m + 1, h => by
  by_cases e : k = m + 1
  ·rw [e]; exact Int.le_refl _
  ·have := sumP_monoT hX hY s (k := k) (m := m) (by omega)
   have := mul64 (dimP_bndT hX m) (dimP_bndT hY (s - m))
   rw [sumP]; omega
theorem place_ltT {X Y : Cx} (hX : IsT X) (hY : IsT Y) {i j a b : Int} (hi : 0 ≤ i ∧ i ≤ (X.dims.length : Int) - 1) (hj : 0 ≤ j ∧ j ≤ (Y.dims.length : Int) - 1) (ha : 0 ≤ a ∧ a < dimP X i) (hb : 0 ≤ b ∧ b < dimP Y j) :
  0 ≤ placeP X Y i a j b ∧ placeP X Y i a j b < (tdP X Y).getD (i + j).toNat 0 := by
 have e1 : (((i + j).toNat : Nat) : Int) = i + j := by omega
 have ei : ((i.toNat : Nat) : Int) = i := by omega
 rw [tdP_get X Y (by omega), e1]
 have h1 := sumP_monoT hX hY (i + j) (k := i.toNat + 1) (m := (i + j).toNat + 1) (by omega)
 rw [sumP, ei, show i + j - i = j by omega] at h1
 have h2 := (sumP_bndT hX hY (i + j) i.toNat).1
 have h3 : (a + 1) * dimP Y j ≤ dimP X i * dimP Y j := Int.mul_le_mul_of_nonneg_right (by omega) (by omega)
 have h4 : 0 ≤ a * dimP Y j := Int.mul_nonneg ha.1 (by omega)
 rw [Int.add_mul, Int.one_mul] at h3
 unfold placeP
 omega
open Go
theorem pl_loT {X Y : Cx} (hY : IsT Y) {i j a b : Nat} : sumP X Y ((i : Int) + j) i ≤ placeP X Y i a j b := by
 have h4 : 0 ≤ (a : Int) * dimP Y j := Int.mul_nonneg (by omega) (dimP_bndT hY j).1
 unfold placeP
 rw [Int.toNat_natCast]
 omega
theorem pl_hiT {X Y : Cx} (hY : IsT Y) {i j a b : Nat} (ha : (a : Int) < dimP X i) (hb : (b : Int) < dimP Y j) : placeP X Y i a j b < sumP X Y ((i : Int) + j) (i + 1) := by
 have h3 : ((a : Int) + 1) * dimP Y j ≤ dimP X i * dimP Y j := Int.mul_le_mul_of_nonneg_right (by omega) (dimP_bndT hY j).1
 rw [Int.add_mul, Int.one_mul] at h3
 rw [sumP, show (i : Int) + j - i = j by omega]
 unfold placeP
 rw [Int.toNat_natCast]
 omega
theorem place_injT {X Y : Cx} (hX : IsT X) (hY : IsT Y) {i j a b i' j' a' b' : Nat} (hs : i + j = i' + j') (ha : (a : Int) < dimP X i) (hb : (b : Int) < dimP Y j) (ha' : (a' : Int) < dimP X i') (hb' : (b' : Int) < dimP Y j') (h : placeP X Y i a j b = placeP X Y i' a' j' b') : i = i' ∧ a = a' ∧ j = j' ∧ b = b' := by
 have hs' : (i : Int) + j = i' + j' := by omega
 have l1 := pl_loT (X := X) hY (i := i) (j := j) (a := a) (b := b)
 have l2 := pl_loT (X := X) hY (i := i') (j := j') (a := a') (b := b')
 have u1 := pl_hiT hY ha hb
 have u2 := pl_hiT hY ha' hb'
 rw [← hs'] at l2 u2
 have hi : i = i' := by
  rcases Nat.lt_trichotomy i i' with h1 | h1 | h1
  ·have := sumP_monoT hX hY ((i : Int) + j) (k := i + 1) (m := i') (by omega)
   omega
  ·exact h1
  ·have := sumP_monoT hX hY ((i : Int) + j) (k := i' + 1) (m := i) (by omega)
   omega
 subst hi
 have hj : j = j' := by omega
 subst hj
 unfold placeP at h
 have key : ∀ {c d : Nat} {x y : Nat}, (c : Int) < d → (x : Int) < dimP Y j → (c : Int) * dimP Y j + x = (d : Int) * dimP Y j + y → False := fun {c d x y} h1 h2 h3 => by
  have h5 : ((c : Int) + 1) * dimP Y j ≤ d * dimP Y j := Int.mul_le_mul_of_nonneg_right (by omega) (dimP_bndT hY j).1
  rw [Int.add_mul, Int.one_mul] at h5
  omega
 have hab : a = a' := by
  rcases Nat.lt_trichotomy a a' with h1 | h1 | h1
  ·exact (key (c := a) (d := a') (x := b) (y := b') (by omega) hb (by omega)).elim
  ·exact h1
  ·exact (key (c := a') (d := a) (x := b') (y := b) (by omega) hb' (by omega)).elim
 subst hab
 exact ⟨rfl, rfl, rfl, by omega⟩
theorem place_surjT {X Y : Cx} (hX : IsT X) (hY : IsT Y) {s : Nat} {r : Int} (h0 : 0 ≤ r) : ∀ {m : Nat}, r < sumP X Y s m → ∃ i a j b : Nat, i < m ∧ i + j = s ∧ (a : Int) < dimP X i ∧ (b : Int) < dimP Y j ∧ placeP X Y i a j b = r
 | 0, h => by rw [sumP] at h; omega
 | m + 1, h => by
  by_cases hm : r < sumP X Y s m
  ·obtain ⟨i, a, j, b, h1, h2⟩ := place_surjT hX hY h0 hm
   exact ⟨i, a, j, b, by omega, h2⟩
  ·rw [sumP] at h
   have hx := dimP_bndT hX m
   have hy := dimP_bndT hY ((s : Int) - m)
   have hd : 0 < dimP Y ((s : Int) - m) := by
    by_cases e : dimP Y ((s : Int) - m) = 0
    ·rw [e] at h; omega
    ·omega
   have hsm : m ≤ s := by
    by_cases e : m ≤ s
    ·exact e
    ·rw [dimP_neg (by omega)] at hd; omega
   have e1 : (s : Int) - m = ((s - m : Nat) : Int) := by omega
   have q0 : 0 ≤ (r - sumP X Y s m) / dimP Y ((s : Int) - m) := Int.ediv_nonneg (by omega) (by omega)
   have q1 : (r - sumP X Y s m) / dimP Y ((s : Int) - m) < dimP X m := Int.ediv_lt_of_lt_mul hd (by omega)
   have r0 := Int.emod_nonneg (r - sumP X Y s m) (show dimP Y ((s : Int) - m) ≠ 0 by omega)
   have r1 := Int.emod_lt_of_pos (r - sumP X Y s m) hd
   have e2 := Int.mul_ediv_add_emod (r - sumP X Y s m) (dimP Y ((s : Int) - m))
   refine ⟨m, ((r - sumP X Y s m) / dimP Y ((s : Int) - m)).toNat, s - m, ((r - sumP X Y s m) % dimP Y ((s : Int) - m)).toNat, by omega, by omega, by omega, by rw [← e1]; omega, ?_⟩
   unfold placeP
   rw [Int.toNat_natCast, ← e1, show (m : Int) + ((s : Int) - m) = s by omega, Int.toNat_of_nonneg q0, Int.toNat_of_nonneg r0, Int.mul_comm]
   omega
section
variable {U : UF} {t : Nat × Nat × Nat}
end
open Go
theorem pl_ltT {X Y : Cx} (hX : IsT X) (hY : IsT Y) {i j a b : Nat} (ha : (a : Int) < dimP X i) (hb : (b : Int) < dimP Y j) : 0 ≤ placeP X Y i a j b ∧ placeP X Y i a j b < (tdP X Y).getD (i + j) 0 := by
 have hi : (i : Int) ≤ (X.dims.length : Int) - 1 := by
  by_cases h : (X.dims.length : Int) ≤ i
  ·rw [dimP_big h] at ha; omega
  ·omega
 have hj : (j : Int) ≤ (Y.dims.length : Int) - 1 := by
  by_cases h : (Y.dims.length : Int) ≤ j
  ·rw [dimP_big h] at hb; omega
  ·omega
 have := place_ltT hX hY (i := i) (j := j) (a := a) (b := b) ⟨by omega, hi⟩ ⟨by omega, hj⟩ ⟨by omega, ha⟩ ⟨by omega, hb⟩
 rw [show ((i : Int) + j).toNat = i + j by omega] at this
 exact this
theorem row_dimT {X : Cx} (hX : IsT X) {k i : Nat} (hi : i < (X.maps.getD k default).length) : (i : Int) < dimP X ((k + 1 : Nat) : Int) := by
 have := (lens_natT hX k).1; have := dims_natT hX (k + 1)
 rw [dimP_nat]; omega
theorem col_dimT {X : Cx} (hX : IsT X) {k i j : Nat} (hi : i < (X.maps.getD k default).length) (hj : j < ((X.maps.getD k default).getD i default).length) : (j : Int) < dimP X (k : Int) := by
 have := (lens_natT hX k).2 i hi; have := dims_natT hX k
 rw [dimP_nat]; omega
theorem dim_rowT {X : Cx} (hX : IsT X) {k i : Nat} (hi : (i : Int) < dimP X ((k + 1 : Nat) : Int)) : i < (X.maps.getD k default).length := by
 have := (lens_natT hX k).1; have := dims_natT hX (k + 1)
 rw [dimP_nat] at hi; omega
theorem dim_colT {X : Cx} (hX : IsT X) {k i j : Nat} (hi : i < (X.maps.getD k default).length) (hj : (j : Int) < dimP X (k : Int)) : j < ((X.maps.getD k default).getD i default).length := by
 have := (lens_natT hX k).2 i hi; have := dims_natT hX k
 rw [dimP_nat] at hj; omega
theorem t_in1T {X Y : Cx} (hX : IsT X) (hY : IsT Y) {k i j q m : Nat} {v : Int} (hi : i < (X.maps.getD k default).length) (hj : j < ((X.maps.getD k default).getD i default).length) (hm : m < (dimP Y (q : Int)).toNat) : InU ((tdP X Y).length - 1) (tA X Y) (tB X Y) (tF1 X Y k i j v q m) := by
 have h1 := pl_ltT hX hY (row_dimT hX hi) (show (m : Int) < dimP Y (q : Int) by omega)
 have h2 := pl_ltT hX hY (col_dimT hX hi hj) (show (m : Int) < dimP Y (q : Int) by omega)
 have h3 := maps_lt hi
 have h4 := dim_lt (X := Y) (k := q) (i := m) (by omega)
 have := hX.ml; have := hY.len
 refine ⟨by show k + q < _; rw [tdP_len]; omega, ?_, ?_⟩
 ·show (placeP X Y ((k + 1 : Nat) : Int) i q m).toNat < ((tdP X Y).getD (k + q + 1) 0).toNat
  rw [show k + 1 + q = k + q + 1 by omega] at h1; omega
 ·show (placeP X Y k j q m).toNat < ((tdP X Y).getD (k + q) 0).toNat
  omega
theorem t_in2T {X Y : Cx} (hX : IsT X) (hY : IsT Y) {k i j q m : Nat} {v : Int} (hi : i < (Y.maps.getD k default).length) (hj : j < ((Y.maps.getD k default).getD i default).length) (hm : m < (dimP X (q : Int)).toNat) : InU ((tdP X Y).length - 1) (tA X Y) (tB X Y) (tF2 X Y k i j v q m) := by
 have h1 := pl_ltT hX hY (show (m : Int) < dimP X (q : Int) by omega) (row_dimT hY hi)
 have h2 := pl_ltT hX hY (show (m : Int) < dimP X (q : Int) by omega) (col_dimT hY hi hj)
 have h3 := maps_lt hi
 have h4 := dim_lt (X := X) (k := q) (i := m) (by omega)
 have := hY.ml; have := hX.len
 refine ⟨by show q + k < _; rw [tdP_len]; omega, ?_, ?_⟩
 ·show (placeP X Y q m ((k + 1 : Nat) : Int) i).toNat < ((tdP X Y).getD (q + k + 1) 0).toNat
  rw [show q + (k + 1) = q + k + 1 by omega] at h1; omega
 ·show (placeP X Y q m k j).toNat < ((tdP X Y).getD (q + k) 0).toNat
  omega
theorem t_u1T {X Y : Cx} (hX : IsT X) (hY : IsT Y) : ∀ k i j, k < X.maps.length → i < (X.maps.getD k default).length → j < ((X.maps.getD k default).getD i default).length → ∀ u ∈ tU1 X Y k i j (((X.maps.getD k default).getD i default).getD j 0), InU ((tdP X Y).length - 1) (tA X Y) (tB X Y) u := fun k i j _ hi hj u hu => by
 obtain ⟨q, m, _, hm, rfl⟩ := mem_upL hu
 exact t_in1T hX hY hi hj hm
theorem t_u2T {X Y : Cx} (hX : IsT X) (hY : IsT Y) : ∀ k i j, k < Y.maps.length → i < (Y.maps.getD k default).length → j < ((Y.maps.getD k default).getD i default).length → ∀ u ∈ tU2 X Y k i j (((Y.maps.getD k default).getD i default).getD j 0), InU ((tdP X Y).length - 1) (tA X Y) (tB X Y) u := fun k i j _ hi hj u hu => by
 obtain ⟨q, m, _, hm, rfl⟩ := mem_upL hu
 exact t_in2T hX hY hi hj hm
theorem tT1_shT {X Y : Cx} (hX : IsT X) (hY : IsT Y) : Sh ((tdP X Y).length - 1) (tA X Y) (tB X Y) (tT1 X Y) ∧ In3 X.p ((tdP X Y).length - 1) (tA X Y) (tB X Y) (tT1 X Y) := by
 have hp := isP_bnd hX.p
 have hz := t_zb X Y hp.1
 exact ⟨applyU_sh hz.1 (uK_all (t_u1T hX hY)), applyU_in hp.1 hz.1 hz.2 (uK_all (t_u1T hX hY))⟩
theorem tT_shT {X Y : Cx} (hX : IsT X) (hY : IsT Y) : Sh ((tdP X Y).length - 1) (tA X Y) (tB X Y) (tT X Y) := applyU_sh (tT1_shT hX hY).1 (uK_all (t_u2T hX hY))
/-- What the first complex brings. -/
theorem t_s1T {X Y : Cx} (hX : IsT X) (hY : IsT Y) {i a j b i' a' j' b' : Nat} (hs : i + j = i' + j' + 1) (ha : (a : Int) < dimP X i) (hb : (b : Int) < dimP Y j) (ha' : (a' : Int) < dimP X i') (hb' : (b' : Int) < dimP Y j') :
  sumT (i' + j', (placeP X Y i a j b).toNat, (placeP X Y i' a' j' b').toNat) (uK (tU1 X Y) X.maps X.maps.length) = if i = i' + 1 ∧ j = j' ∧ b = b' then ((X.maps.getD i' default).getD a default).getD a' 0 else 0 := by
 have n1 := (pl_ltT hX hY ha hb).1
 have n2 := (pl_ltT hX hY ha' hb').1
 have key : ∀ {k r c q m : Nat} {v : Int}, r < (X.maps.getD k default).length → c < ((X.maps.getD k default).getD r default).length → m < (dimP Y (q : Int)).toNat → (tF1 X Y k r c v q m).1 = (i' + j', (placeP X Y i a j b).toNat, (placeP X Y i' a' j' b').toNat) → k + 1 = i ∧ r = a ∧ q = j ∧ m = b ∧ k = i' ∧ c = a' ∧ q = j' ∧ m = b' := fun {k r c q m v} hr hc hm e => by
  injection e with e1 e2
  injection e2 with e2 e3
  have m1 := (pl_ltT hX hY (row_dimT hX hr) (show (m : Int) < dimP Y (q : Int) by omega)).1
  have m2 := (pl_ltT hX hY (col_dimT hX hr hc) (show (m : Int) < dimP Y (q : Int) by omega)).1
  have p1 := place_injT hX hY (i := k + 1) (j := q) (by omega) (row_dimT hX hr) (show (m : Int) < dimP Y (q : Int) by omega) ha hb (by omega)
  have p2 := place_injT hX hY (i := k) (j := q) (by omega) (col_dimT hX hr hc) (show (m : Int) < dimP Y (q : Int) by omega) ha' hb' (by omega)
  exact ⟨p1.1, p1.2.1, p1.2.2.1, p1.2.2.2, p2.1, p2.2.1, p2.2.2.1, p2.2.2.2⟩
 split
 ·rename_i hc
  obtain ⟨rfl, rfl, rfl⟩ := hc
  have hr := dim_rowT hX ha
  have hcl := dim_colT hX hr ha'
  rw [sumT_uK1 (U := tU1 X Y) (k0 := i') (i0 := a) (j0 := a') hr hcl _ (fun k _ r hr2 c hc2 hne => sumT_zero (fun u hu he => by
   obtain ⟨q, m, _, hm, rfl⟩ := mem_upL hu
   have := key hr2 hc2 hm he
   exact hne ⟨by omega, this.2.1, this.2.2.2.2.2.1⟩)), if_pos (maps_lt hr), tU1, sumT_upL (q0 := j) (m0 := b) (by show (_, _, _) = _; rfl) (by omega) (fun q m _ hm he => by
   have := key hr hcl hm he
   exact ⟨this.2.2.1, this.2.2.2.1⟩), if_pos (dim_lt hb)]
  rfl
 ·rename_i hn
  exact sumT_uK0 (fun k _ r hr c hc => sumT_zero (fun u hu he => by
   obtain ⟨q, m, _, hm, rfl⟩ := mem_upL hu
   have := key hr hc hm he
   exact hn ⟨by omega, by omega, by omega⟩))
/-- What the second complex brings. -/
theorem t_s2T {X Y : Cx} (hX : IsT X) (hY : IsT Y) {i a j b i' a' j' b' : Nat} (hs : i + j = i' + j' + 1) (ha : (a : Int) < dimP X i) (hb : (b : Int) < dimP Y j) (ha' : (a' : Int) < dimP X i') (hb' : (b' : Int) < dimP Y j') :
  sumT (i' + j', (placeP X Y i a j b).toNat, (placeP X Y i' a' j' b').toNat) (uK (tU2 X Y) Y.maps Y.maps.length) = if j = j' + 1 ∧ i = i' ∧ a = a' then sgP i * ((Y.maps.getD j' default).getD b default).getD b' 0 else 0 := by
 have n1 := (pl_ltT hX hY ha hb).1
 have n2 := (pl_ltT hX hY ha' hb').1
 have key : ∀ {k r c q m : Nat} {v : Int}, r < (Y.maps.getD k default).length → c < ((Y.maps.getD k default).getD r default).length → m < (dimP X (q : Int)).toNat → (tF2 X Y k r c v q m).1 = (i' + j', (placeP X Y i a j b).toNat, (placeP X Y i' a' j' b').toNat) → k + 1 = j ∧ r = b ∧ q = i ∧ m = a ∧ k = j' ∧ c = b' ∧ q = i' ∧ m = a' := fun {k r c q m v} hr hc hm e => by
  injection e with e1 e2
  injection e2 with e2 e3
  have m1 := (pl_ltT hX hY (show (m : Int) < dimP X (q : Int) by omega) (row_dimT hY hr)).1
  have m2 := (pl_ltT hX hY (show (m : Int) < dimP X (q : Int) by omega) (col_dimT hY hr hc)).1
  have p1 := place_injT hX hY (i := q) (j := k + 1) (by omega) (show (m : Int) < dimP X (q : Int) by omega) (row_dimT hY hr) ha hb (by omega)
  have p2 := place_injT hX hY (i := q) (j := k) (by omega) (show (m : Int) < dimP X (q : Int) by omega) (col_dimT hY hr hc) ha' hb' (by omega)
  exact ⟨p1.2.2.1, p1.2.2.2, p1.1, p1.2.1, p2.2.2.1, p2.2.2.2, p2.1, p2.2.1⟩
 split
 ·rename_i hc
  obtain ⟨rfl, rfl, rfl⟩ := hc
  have hr := dim_rowT hY hb
  have hcl := dim_colT hY hr hb'
  rw [sumT_uK1 (U := tU2 X Y) (k0 := j') (i0 := b) (j0 := b') hr hcl _ (fun k _ r hr2 c hc2 hne => sumT_zero (fun u hu he => by
   obtain ⟨q, m, _, hm, rfl⟩ := mem_upL hu
   have := key hr2 hc2 hm he
   exact hne ⟨by omega, this.2.1, this.2.2.2.2.2.1⟩)), if_pos (maps_lt hr), tU2, sumT_upL (q0 := i) (m0 := a) (by show (_, _, _) = _; rfl) (by omega) (fun q m _ hm he => by
   have := key hr hcl hm he
   exact ⟨this.2.2.1, this.2.2.2.1⟩), if_pos (dim_lt ha)]
  rfl
 ·rename_i hn
  exact sumT_uK0 (fun k _ r hr c hc => sumT_zero (fun u hu he => by
   obtain ⟨q, m, _, hm, rfl⟩ := mem_upL hu
   have := key hr hc hm he
   exact hn ⟨by omega, by omega, by omega⟩))
theorem tT_getT {X Y : Cx} (hX : IsT X) (hY : IsT Y) {i a j b i' a' j' b' : Nat} (hs : i + j = i' + j' + 1) (ha : (a : Int) < dimP X i) (hb : (b : Int) < dimP Y j) (ha' : (a' : Int) < dimP X i') (hb' : (b' : Int) < dimP Y j') :
  get3 (tT X Y) (i' + j') (placeP X Y i a j b).toNat (placeP X Y i' a' j' b').toNat = ((if i = i' + 1 ∧ j = j' ∧ b = b' then ((X.maps.getD i' default).getD a default).getD a' 0 else 0) % X.p + (if j = j' + 1 ∧ i = i' ∧ a = a' then sgP i * ((Y.maps.getD j' default).getD b default).getD b' 0 else 0)) % X.p := by
 have hp := isP_bnd hX.p
 have hz := t_zb X Y hp.1
 have h1s := tT1_shT hX hY
 have n1 := pl_ltT hX hY ha hb
 have n2 := pl_ltT hX hY ha' hb'
 rw [hs] at n1
 have l1 : i' + j' < (tdP X Y).length - 1 := by
  have := dim_lt ha; have := dim_lt hb
  rw [tdP_len]; omega
 have l2 : (placeP X Y i a j b).toNat < tA X Y (i' + j') := by show _ < ((tdP X Y).getD (i' + j' + 1) 0).toNat; omega
 have l3 : (placeP X Y i' a' j' b').toNat < tB X Y (i' + j') := by show _ < ((tdP X Y).getD (i' + j') 0).toNat; omega
 rw [tT, applyU_get hp.1 l1 l2 l3 h1s.1 h1s.2 (uK_all (t_u2T hX hY)), tT1, applyU_get hp.1 l1 l2 l3 hz.1 hz.2 (uK_all (t_u1T hX hY)), zblk_get _ _ l1 l2 l3, Int.zero_add, t_s1T hX hY hs ha hb ha' hb', t_s2T hX hY hs ha hb ha' hb']
open Go
theorem dxP_succT {X : Cx} (hX : IsT X) {i a : Nat} (ha : (a : Int) < dimP X ((i + 1 : Nat) : Int)) : dxP X (i + 1) a = (X.maps.getD i default).getD a default ∧ (dxP X (i + 1) a).length = (dimP X (i : Int)).toNat := by
 have hr := dim_rowT hX ha
 have hk := maps_lt hr
 have hm := hX.ml
 have e : dxP X (i + 1) a = (X.maps.getD i default).getD a default := by
  rw [dxP, show (((i + 1 : Nat)) : Int) = (i : Int) + 1 by omega, dimP, if_pos (in3_iff.2 ⟨by omega, by omega⟩)]
  refine diff_unitT hX (by omega) ?_
  rw [show (((i + 1 : Nat)) : Int) = (i : Int) + 1 by omega, dimP, if_pos (in3_iff.2 ⟨by omega, by omega⟩)] at ha
  exact ha
 refine ⟨e, ?_⟩
 rw [e, (lens_natT hX i).2 a hr, dimP_nat]
theorem rX_getT {X Y : Cx} (hX : IsT X) (hY : IsT Y) {i0 j b w : Nat} {dx : List Int} (hb : (b : Int) < dimP Y j) (hdx : ∀ m, m < dx.length → (m : Int) < dimP X i0) (hw : w = ((tdP X Y).getD (i0 + j) 0).toNat) {i' a' j' b' : Nat} (hs : i0 + j = i' + j') (ha' : (a' : Int) < dimP X i') (hb' : (b' : Int) < dimP Y j') :
  ∀ m, m ≤ dx.length → (rXv X Y (i0 + 1) j b w dx m).getD (placeP X Y i' a' j' b').toNat 0 = if i0 = i' ∧ j = j' ∧ b = b' ∧ a' < m then dx.getD a' 0 else 0
 | 0, _ => by rw [rXv, gR, if_neg (by omega)]
 | m + 1, hm => by
  have ih := rX_getT hX hY hb hdx hw hs ha' hb' m (by omega)
  have n2 := pl_ltT hX hY ha' hb'
  have hmd := hdx m (by omega)
  rw [rXv, show (((i0 + 1 : Nat)) : Int) - 1 = (i0 : Int) by omega]
  split
  ·rename_i hz
   rw [ih]
   by_cases hc : i0 = i' ∧ j = j' ∧ b = b' ∧ a' < m
   ·rw [if_pos hc, if_pos (by omega)]
   ·rw [if_neg hc]
    split
    ·rename_i h2; rw [show a' = m by omega, hz]
    ·rfl
  ·rw [gS, rXv_len]
   have n1 := pl_ltT hX hY hmd hb
   by_cases he : (placeP X Y i0 m j b).toNat = (placeP X Y i' a' j' b').toNat
   ·have := place_injT hX hY hs hmd hb ha' hb' (by omega)
    rw [if_pos ⟨he, by rw [hw, hs]; omega⟩, if_pos (by omega), this.2.1]
   ·rw [if_neg (fun e => he e.1), ih]
    by_cases hc : i0 = i' ∧ j = j' ∧ b = b' ∧ a' < m
    ·rw [if_pos hc, if_pos (by omega)]
    ·rw [if_neg hc, if_neg]
     rintro ⟨rfl, rfl, rfl, h4⟩
     exact he (by rw [show m = a' by omega])
theorem rY_getT {X Y : Cx} (hX : IsT X) (hY : IsT Y) {i a j0 : Nat} {dy o : List Int} (ha : (a : Int) < dimP X i) (hdy : ∀ m, m < dy.length → (m : Int) < dimP Y j0) (hw : o.length = ((tdP X Y).getD (i + j0) 0).toNat) {i' a' j' b' : Nat} (hs : i + j0 = i' + j') (ha' : (a' : Int) < dimP X i') (hb' : (b' : Int) < dimP Y j') (ho : i = i' → o.getD (placeP X Y i' a' j' b').toNat 0 = 0) :
  ∀ m, m ≤ dy.length → (rYv X Y i a (j0 + 1) dy o m).getD (placeP X Y i' a' j' b').toNat 0 = if j0 = j' ∧ i = i' ∧ a = a' ∧ b' < m then (dy.getD b' 0 * (1 - 2 * (i : Int).tmod 2)) % X.p else o.getD (placeP X Y i' a' j' b').toNat 0
 | 0, _ => by rw [rYv, if_neg (by omega)]
 | m + 1, hm => by
  have ih := rY_getT hX hY ha hdy hw hs ha' hb' ho m (by omega)
  have n2 := pl_ltT hX hY ha' hb'
  have hmd := hdy m (by omega)
  rw [rYv, show (((j0 + 1 : Nat)) : Int) - 1 = (j0 : Int) by omega]
  split
  ·rename_i hz
   rw [ih]
   by_cases hc : j0 = j' ∧ i = i' ∧ a = a' ∧ b' < m
   ·rw [if_pos hc, if_pos (by omega)]
   ·rw [if_neg hc]
    split
    ·rename_i h2
     rw [ho h2.2.1, show b' = m by omega, hz, Int.zero_mul]; simp
    ·rfl
  ·rw [gS, rYv_len]
   have n1 := pl_ltT hX hY ha hmd
   by_cases he : (placeP X Y i a j0 m).toNat = (placeP X Y i' a' j' b').toNat
   ·have := place_injT hX hY hs ha hmd ha' hb' (by omega)
    rw [if_pos ⟨he, by rw [hw, hs]; omega⟩, if_pos (by omega), this.2.2.2]
   ·rw [if_neg (fun e => he e.1), ih]
    by_cases hc : j0 = j' ∧ i = i' ∧ a = a' ∧ b' < m
    ·rw [if_pos hc, if_pos (by omega)]
    ·rw [if_neg hc, if_neg]
     rintro ⟨rfl, rfl, rfl, h4⟩
     exact he (by rw [show m = b' by omega])
theorem tRow_eqT {X Y : Cx} (hX : IsT X) (hY : IsT Y) (hpp : X.p = Y.p) {i a j b q : Nat} (hs : i + j = q + 1) (ha : (a : Int) < dimP X i) (hb : (b : Int) < dimP Y j) : tRow X Y i a j b ((tdP X Y).getD q 0).toNat = ((tT X Y).getD q default).getD (placeP X Y i a j b).toNat default := by
 have hp := isP_bnd hX.p
 have n1 := pl_ltT hX hY ha hb
 rw [hs] at n1
 have hql : q < (tdP X Y).length - 1 := by
  have := dim_lt ha; have := dim_lt hb
  rw [tdP_len]; omega
 have hT := tT_shT hX hY
 have hrl : (((tT X Y).getD q default).getD (placeP X Y i a j b).toNat default).length = ((tdP X Y).getD q 0).toNat := hT.cols q _ hql (by show _ < ((tdP X Y).getD (q + 1) 0).toNat; omega)
 have hol := rXv_len X Y i j b ((tdP X Y).getD q 0).toNat (dxP X i a) (dxP X i a).length
 have hll : (tRow X Y i a j b ((tdP X Y).getD q 0).toNat).length = ((tdP X Y).getD q 0).toNat := by rw [tRow, rYv_len, rXv_len]
 refine getD_ext (by rw [hrl, hll]) (fun c hc => ?_)
 rw [hll] at hc
 have hqd : q < X.dims.length + Y.dims.length - 1 := by rw [tdP_len] at hql; omega
 obtain ⟨i', a', j', b', _, hs', ha', hb', hcp⟩ := place_surjT hX hY (s := q) (r := (c : Int)) (by omega) (m := q + 1) (by rw [← tdP_get X Y hqd]; omega)
 have ec : c = (placeP X Y i' a' j' b').toNat := by omega
 subst ec
 subst hs'
 show _ = get3 (tT X Y) (i' + j') (placeP X Y i a j b).toNat (placeP X Y i' a' j' b').toNat
 rw [tT_getT hX hY hs ha hb ha' hb']
 have hox : (rXv X Y i j b ((tdP X Y).getD (i' + j') 0).toNat (dxP X i a) (dxP X i a).length).getD (placeP X Y i' a' j' b').toNat 0 = if i = i' + 1 ∧ j = j' ∧ b = b' then ((X.maps.getD i' default).getD a default).getD a' 0 else 0 := by
  cases i with
  | zero => rw [dxP_zero, List.length_nil, rXv, gR, if_neg (by omega)]
  | succ i0 =>
   have hd := dxP_succT hX ha
   rw [rX_getT hX hY hb (fun m hm => by rw [hd.2] at hm; omega) (by rw [show i0 + j = i' + j' by omega]) (by omega) ha' hb' _ (Nat.le_refl _)]
   by_cases hc : i0 = i' ∧ j = j' ∧ b = b'
   ·obtain ⟨rfl, rfl, rfl⟩ := hc
    rw [if_pos ⟨rfl, rfl, rfl, by rw [hd.2]; omega⟩, if_pos ⟨rfl, rfl, rfl⟩, hd.1]
   ·rw [if_neg (fun e => hc ⟨e.1, e.2.1, e.2.2.1⟩), if_neg (fun e => hc ⟨by omega, e.2.1, e.2.2⟩)]
 have h1 : ∀ (h : i = i' + 1 ∧ j = j' ∧ b = b'), 0 ≤ ((X.maps.getD i' default).getD a default).getD a' 0 ∧ ((X.maps.getD i' default).getD a default).getD a' 0 < X.p := fun h => by
  rw [h.1] at ha
  have hr := dim_rowT hX ha
  exact hX.num (maps_lt hr) hr (dim_colT hX hr ha')
 have hxm : (if i = i' + 1 ∧ j = j' ∧ b = b' then ((X.maps.getD i' default).getD a default).getD a' 0 else 0) % X.p = if i = i' + 1 ∧ j = j' ∧ b = b' then ((X.maps.getD i' default).getD a default).getD a' 0 else 0 := by
  split
  ·rename_i h; exact Int.emod_eq_of_lt (h1 h).1 (h1 h).2
  ·exact Int.zero_emod _
 rw [hxm, tRow]
 cases j with
 | zero =>
  rw [dxP_zero, List.length_nil, rYv, hox, if_neg (show ¬ (0 = j' + 1 ∧ i = i' ∧ a = a') by omega), Int.add_zero, hxm]
 | succ j0 =>
  have hd := dxP_succT hY hb
  rw [rY_getT hX hY ha (fun m hm => by rw [hd.2] at hm; omega) (by rw [hol, show i + j0 = i' + j' by omega]) (by omega) ha' hb' (fun e => by rw [hox, if_neg (by omega)]) _ (Nat.le_refl _)]
  by_cases hc : j0 = j' ∧ i = i' ∧ a = a'
  ·obtain ⟨rfl, rfl, rfl⟩ := hc
   rw [if_pos ⟨rfl, rfl, rfl, by rw [hd.2]; omega⟩, if_neg (show ¬ (i = i + 1 ∧ j0 + 1 = j0 ∧ b = b') by omega), if_pos ⟨rfl, rfl, rfl⟩, Int.zero_add, hd.1, sgP, Int.mul_comm, Int.mul_comm 2]
  ·rw [if_neg (fun e => hc ⟨e.1, e.2.1, e.2.2.1⟩), if_neg (show ¬ (j0 + 1 = j' + 1 ∧ i = i' ∧ a = a') from fun e => hc ⟨by omega, e.2.1, e.2.2⟩), Int.add_zero, hox, hxm]
open Go
set_option maxRecDepth 100000 in
theorem sD_okT (vX vv : Value) (X : Cx) (n : Int) (v : List Int) (h : Heap) (rX : RC h vX X) (rv : R1 h vv v) (hC : IsT X) (hn : 0 ≤ n ∧ n ≤ (X.dims.length : Int) - 1) (hv : (v.length : Int) = X.dims.getD n.toNat 0) (hb : Bnd X.p v) : CallA Try.prog 121 #[vX, .int .i64 n, vv] h fun v' h' => ∃ w0 f0, v' = w0 ∧ O1 h' w0 (diffP X n v) f0 ∧ Fresh h.size f0 ∧ Ext h h' := by
 obtain ⟨vdX, vmX, rfl, hdX, hmX⟩ := rX
 have hledX := RdS.le hdX
 have hlemX := RdS.le hmX
 have hlev := RdS.le rv
 refine callA_intro TTok (args := [_, _, _]) Try.func121 (by kernel_rfl) rfl 21 rfl (by simp) [.tmp 6] rfl ?_
 simp only [idxs, Nat.reduceAdd]
 refine den_seq ?_
 refine den_region TTok ?_
 intro K hK
 simp -implicitDefEqProofs (disch := first | decide | assumption | omega) only [go_sem, RdS.len hdX sl22, RdS.idx hdX sl22, R1.intB hdX (HPres.refl _), RdS.cells hdX, RdS.len hmX sl23, RdS.idx hmX sl23, RdS.cellB hmX (HPres.refl _), RdS.cells hmX, RdS.len rv sl22, RdS.idx rv sl22, R1.intB rv (HPres.refl _), RdS.cells rv, wrap_id]
 refine op_box (cs := #[.int .i64 (X.p), vdX, vmX]) rfl ?_
 intro h0_0 e0_0 hb0_0 z0_0
 have := Ext.size e0_0
 have eB := e0_0
 have hfhb0_0 : Fresh h.size [h.size] := Fresh.one _
 have hlhb0_0 := one_lt (show h.size < h0_0.size by omega)
 try simp -implicitDefEqProofs (disch := first | decide | assumption | omega) only [go_sem, RdS.len hdX sl22, RdS.idx hdX sl22, R1.intB hdX (Ext.pres eB), RdS.cells hdX, RdS.len hmX sl23, RdS.idx hmX sl23, RdS.cellB hmX (Ext.pres eB), RdS.cells hmX, RdS.len rv sl22, RdS.idx rv sl22, R1.intB rv (Ext.pres eB), RdS.cells rv, BoxAt.cell hb0_0, wrap_id]
 refine hK _ _ ?_
 clear hK K
 refine den_seq ?_
 refine den_seq ?_
 refine den_region TTok ?_
 intro K hK
 simp -implicitDefEqProofs (disch := first | decide | assumption | omega) only [go_sem, RdS.len hdX sl22, RdS.idx hdX sl22, R1.intB hdX (Ext.pres eB), RdS.cells hdX, RdS.len hmX sl23, RdS.idx hmX sl23, RdS.cellB hmX (Ext.pres eB), RdS.cells hmX, RdS.len rv sl22, RdS.idx rv sl22, R1.intB rv (Ext.pres eB), RdS.cells rv, BoxAt.cell hb0_0, wrap_id]
 refine hK _ _ ?_
 clear hK K
 refine den_cond rfl (fun c0 => ?_) (fun c0 => ?_)
 ·try simp only [decide_eq_true_eq, decide_eq_false_iff_not, beq_iff_eq, beq_eq_false_iff_ne, bne_iff_ne, ne_eq, Bool.not_eq_true', Bool.not_eq_false', Bool.and_eq_true, Bool.or_eq_true, bne_eq_false_iff_eq] at c0
  refine den_seq ?_
  refine den_region TTok ?_
  intro K hK
  simp -implicitDefEqProofs (disch := first | decide | assumption | omega) only [go_sem, RdS.len hdX sl22, RdS.idx hdX sl22, R1.intB hdX (Ext.pres eB), RdS.cells hdX, RdS.len hmX sl23, RdS.idx hmX sl23, RdS.cellB hmX (Ext.pres eB), RdS.cells hmX, RdS.len rv sl22, RdS.idx rv sl22, R1.intB rv (Ext.pres eB), RdS.cells rv, wrap_id]
  refine op_bs0 sz22 OI ?_
  intro v2_0 h2_0 ho2_0 e2_0
  have := Ext.size e2_0
  replace eB := Ext.trans eB e2_0
  have hfho2_0 : Fresh h0_0.size [h0_0.size] := Fresh.one _
  have hlho2_0 := OS.lt ho2_0
  try simp -implicitDefEqProofs (disch := first | decide | assumption | omega) only [go_sem, RdS.len hdX sl22, RdS.idx hdX sl22, R1.intB hdX (Ext.pres eB), RdS.cells hdX, RdS.len hmX sl23, RdS.idx hmX sl23, RdS.cellB hmX (Ext.pres eB), RdS.cells hmX, RdS.len rv sl22, RdS.idx rv sl22, R1.intB rv (Ext.pres eB), RdS.cells rv, RdS.len (OS.rd ho2_0) sl22, RdS.idx (OS.rd ho2_0) sl22, R1.intN (OS.rd ho2_0), RdS.cells (OS.rd ho2_0), wrap_id]
  refine hK _ _ ?_
  clear hK K
  refine den_ret ?_
  simp (disch := decide) only [resP_1, puts_same, puts_ne]
  have e : diffP X n v = [] := by rw [diffP, if_pos (by omega)]
  rw [e]
  exact ⟨_, _, rfl, ho2_0, hfho2_0.mono (by omega), eB⟩
 ·try simp only [decide_eq_true_eq, decide_eq_false_iff_not, beq_iff_eq, beq_eq_false_iff_ne, bne_iff_ne, ne_eq, Bool.not_eq_true', Bool.not_eq_false', Bool.and_eq_true, Bool.or_eq_true, bne_eq_false_iff_eq] at c0
  refine den_skip ?_
  refine den_seq ?_
  have hbv := hb
  have hbt := (mapP_okT hC hn.1 hn.2).2
  have hml := (mapP_okT hC hn.1 hn.2).1
  have hdb := dimP_bndT hC (n - 1)
  have hpb := isP_bnd hC.p
  have hlX := hC.len
  refine den_draw TTok mixed [] [(0, true), (1, true), (2, true), (3, true), (5, true), (6, true), (7, true), (8, true), (4, false), (9, false), (10, false), (11, true)] (by kernel_rfl) ?_
  intro K hK
  simp -implicitDefEqProofs (disch := first | decide | assumption | omega) only [go_sem, fa30_0, ld2, ld30, RdS.len hdX sl22, RdS.idx hdX sl22, R1.intB hdX (Ext.pres eB), RdS.cells hdX, RdS.len hmX sl23, RdS.idx hmX sl23, RdS.cellB hmX (Ext.pres eB), RdS.cells hmX, RdS.len rv sl22, RdS.idx rv sl22, R1.intB rv (Ext.pres eB), RdS.cells rv, BoxAt.cell hb0_0, wrap_id]
  try simp -implicitDefEqProofs (disch := first | decide | assumption | omega) only [go_sem, RdS.len hdX sl22, RdS.idx hdX sl22, R1.intB hdX (Ext.pres eB), RdS.cells hdX, RdS.len hmX sl23, RdS.idx hmX sl23, RdS.cellB hmX (Ext.pres eB), RdS.cells hmX, RdS.len rv sl22, RdS.idx rv sl22, R1.intB rv (Ext.pres eB), RdS.cells rv, BoxAt.cell hb0_0, wrap_id]
  refine CallA.mono (sMap_okT _ X n _ ⟨_, _, rfl, (RdS.pres hdX (Ext.pres eB)), (RdS.pres hmX (Ext.pres eB))⟩ hC) ?_
  intro vw3_4_0 h3_4
  rintro ⟨zvw3_4_0, rfl, hrw3_4_0, e3_4⟩
  replace hb0_0 := BoxAt.ext hb0_0 e3_4
  have := Ext.size e3_4
  replace eB := Ext.trans eB e3_4
  have xrw3_4_0 := Ext.refl h3_4
  have hlrw3_4_0 := RdS.le hrw3_4_0
  try simp (disch := decide) only [outv_some, outv_none, put_puts]
  refine plK_pres (Ext.pres e3_4) ?_
  try simp -implicitDefEqProofs (disch := first | decide | assumption | omega) only [go_sem, RdS.len hdX sl22, RdS.idx hdX sl22, R1.intB hdX (Ext.pres eB), RdS.cells hdX, RdS.len hmX sl23, RdS.idx hmX sl23, RdS.cellB hmX (Ext.pres eB), RdS.cells hmX, RdS.len rv sl22, RdS.idx rv sl22, R1.intB rv (Ext.pres eB), RdS.cells rv, BoxAt.cell hb0_0, RdS.len hrw3_4_0 sl56, RdS.idx hrw3_4_0 sl56, RdS.cellB hrw3_4_0 (Ext.pres xrw3_4_0), RdS.cells hrw3_4_0, wrap_id]
  try simp -implicitDefEqProofs (disch := first | decide | assumption | omega) only [go_sem, RdS.len hdX sl22, RdS.idx hdX sl22, R1.intB hdX (Ext.pres eB), RdS.cells hdX, RdS.len hmX sl23, RdS.idx hmX sl23, RdS.cellB hmX (Ext.pres eB), RdS.cells hmX, RdS.len rv sl22, RdS.idx rv sl22, R1.intB rv (Ext.pres eB), RdS.cells rv, BoxAt.cell hb0_0, RdS.len hrw3_4_0 sl56, RdS.idx hrw3_4_0 sl56, RdS.cellB hrw3_4_0 (Ext.pres xrw3_4_0), RdS.cells hrw3_4_0, wrap_id]
  refine CallA.mono (sDim_ok _ X _ _ ⟨_, _, rfl, (RdS.pres hdX (Ext.pres eB)), (RdS.pres hmX (Ext.pres eB))⟩) ?_
  intro v_ h3_9
  rintro ⟨rfl, e3_9⟩
  replace hb0_0 := BoxAt.ext hb0_0 e3_9
  have := Ext.size e3_9
  replace eB := Ext.trans eB e3_9
  replace xrw3_4_0 := Ext.trans xrw3_4_0 e3_9
  try simp (disch := decide) only [outv_some, outv_none, put_puts]
  refine plK_pres (Ext.pres e3_9) ?_
  try simp -implicitDefEqProofs (disch := first | decide | assumption | omega) only [go_sem, RdS.len hdX sl22, RdS.idx hdX sl22, R1.intB hdX (Ext.pres eB), RdS.cells hdX, RdS.len hmX sl23, RdS.idx hmX sl23, RdS.cellB hmX (Ext.pres eB), RdS.cells hmX, RdS.len rv sl22, RdS.idx rv sl22, R1.intB rv (Ext.pres eB), RdS.cells rv, BoxAt.cell hb0_0, RdS.len hrw3_4_0 sl56, RdS.idx hrw3_4_0 sl56, RdS.cellB hrw3_4_0 (Ext.pres xrw3_4_0), RdS.cells hrw3_4_0, wrap_id]
  try simp -implicitDefEqProofs (disch := first | decide | assumption | omega) only [go_sem, RdS.len hdX sl22, RdS.idx hdX sl22, R1.intB hdX (Ext.pres eB), RdS.cells hdX, RdS.len hmX sl23, RdS.idx hmX sl23, RdS.cellB hmX (Ext.pres eB), RdS.cells hmX, RdS.len rv sl22, RdS.idx rv sl22, R1.intB rv (Ext.pres eB), RdS.cells rv, BoxAt.cell hb0_0, RdS.len hrw3_4_0 sl56, RdS.idx hrw3_4_0 sl56, RdS.cellB hrw3_4_0 (Ext.pres xrw3_4_0), RdS.cells hrw3_4_0, wrap_id]
  refine CallA.mono (sApply_ok _ _ _ _ _ _ _ (RdS.pres rv (Ext.pres eB)) (RdS.pres hrw3_4_0 (Ext.pres xrw3_4_0)) (by omega) (by omega) (by omega) hbv hbt) ?_
  intro v3_10 h3_10
  rintro ⟨f3_10, ho3_10, hf3_10, e3_10⟩
  replace hb0_0 := BoxAt.ext hb0_0 e3_10
  have := Ext.size e3_10
  replace eB := Ext.trans eB e3_10
  replace xrw3_4_0 := Ext.trans xrw3_4_0 e3_10
  have hlho3_10 := OS.lt ho3_10
  try simp (disch := decide) only [outv_some, outv_none, put_puts]
  refine plK_pres (Ext.pres e3_10) ?_
  try simp -implicitDefEqProofs (disch := first | decide | assumption | omega) only [go_sem, RdS.len hdX sl22, RdS.idx hdX sl22, R1.intB hdX (Ext.pres eB), RdS.cells hdX, RdS.len hmX sl23, RdS.idx hmX sl23, RdS.cellB hmX (Ext.pres eB), RdS.cells hmX, RdS.len rv sl22, RdS.idx rv sl22, R1.intB rv (Ext.pres eB), RdS.cells rv, RdS.len (OS.rd ho3_10) sl22, RdS.idx (OS.rd ho3_10) sl22, R1.intN (OS.rd ho3_10), RdS.cells (OS.rd ho3_10), BoxAt.cell hb0_0, RdS.len hrw3_4_0 sl56, RdS.idx hrw3_4_0 sl56, RdS.cellB hrw3_4_0 (Ext.pres xrw3_4_0), RdS.cells hrw3_4_0, wrap_id]
  refine hK _ _ ?_
  clear hK K
  refine den_ret ?_
  simp (disch := decide) only [resP_1, puts_same, puts_ne]
  rw [diff_specT hC hn.1 hn.2] at ho3_10
  exact ⟨_, _, rfl, ho3_10, hf3_10.mono (by omega), eB⟩
open Go
theorem dx_factsT {X : Cx} (hX : IsT X) {i a : Int} (hi : 0 ≤ i) (ha : 0 ≤ a ∧ a < dimP X i) {m : Nat} (hm : m < (dxP X i.toNat a.toNat).length) : 1 ≤ i ∧ (m : Int) < dimP X (i - 1) ∧ 0 ≤ (dxP X i.toNat a.toNat).getD m 0 ∧ (dxP X i.toNat a.toNat).getD m 0 < X.p := by
 obtain ⟨n, rfl⟩ := Int.eq_ofNat_of_zero_le hi
 rw [Int.toNat_natCast] at *
 cases n with
 | zero => rw [dxP_zero] at hm; cases hm
 | succ n =>
  have ha' : ((a.toNat : Nat) : Int) < dimP X ((n + 1 : Nat) : Int) := by omega
  have hd := dxP_succT hX ha'
  have hr := dim_rowT hX ha'
  rw [hd.2] at hm
  have h2 : (m : Int) < dimP X (n : Int) := by omega
  refine ⟨by omega, by rw [show (((n + 1 : Nat)) : Int) - 1 = (n : Int) by omega]; exact h2, ?_⟩
  rw [hd.1]
  exact hX.num (maps_lt hr) hr (dim_colT hX hr h2)
theorem dx_lenT {X : Cx} (hX : IsT X) {i a : Int} (hi : 0 ≤ i) (ha : 0 ≤ a ∧ a < dimP X i) : (dxP X i.toNat a.toNat).length ≤ 8 := by
 by_cases h : (dxP X i.toNat a.toNat).length ≤ 8
 ·exact h
 ·have := (dx_factsT hX hi ha (m := 8) (by omega)).2.1
  have := dimP_bndT hX (i - 1)
  omega
set_option maxRecDepth 100000 in
theorem sRow_okT (vX vY : Value) (X : Cx) (Y : Cx) (i : Int) (a : Int) (j : Int) (b : Int) (w : Int) (h : Heap) (rX : RC h vX X) (rY : RC h vY Y) (hX : IsT X) (hY : IsT Y) (hi : 0 ≤ i ∧ i ≤ (X.dims.length : Int) - 1) (hj : 0 ≤ j ∧ j ≤ (Y.dims.length : Int) - 1) (ha : 0 ≤ a ∧ a < dimP X i) (hb : 0 ≤ b ∧ b < dimP Y j) (hij : 1 ≤ i + j) (hw : w = (tdP X Y).getD (i + j - 1).toNat 0) : CallA Try.prog 150 #[vX, vY, .int .i64 i, .int .i64 a, .int .i64 j, .int .i64 b, .int .i64 w] h fun v' h' => ∃ w0 f0, v' = w0 ∧ O1 h' w0 (tRow X Y i.toNat a.toNat j.toNat b.toNat w.toNat) f0 ∧ Fresh h.size f0 ∧ Ext h h' := by
 obtain ⟨vdX, vmX, rfl, hdX, hmX⟩ := rX
 have hledX := RdS.le hdX
 have hlemX := RdS.le hmX
 obtain ⟨vdY, vmY, rfl, hdY, hmY⟩ := rY
 have hledY := RdS.le hdY
 have hlemY := RdS.le hmY
 have hCX := hX
 have hCY := hY
 have hlX := hX.len
 have hlY := hY.len
 have hbx := dimP_bndT hX i
 have hby := dimP_bndT hY j
 have htd := tdP_bndT hX hY (n := (i + j - 1).toNat) (by omega)
 have hpb := isP_bnd hX.p
 have hlx8 := dx_lenT hX hi.1 ha
 have hly8 := dx_lenT hY hj.1 hb
 have htm := tmod_in (p := 2) (x := i) (by decide)
 have htn := Int.tmod_nonneg 2 hi.1
 refine callA_intro TTok (args := [_, _, _, _, _, _, _]) Try.func150 (by kernel_rfl) rfl 97 rfl (by simp) [.tmp 14] rfl ?_
 simp only [idxs, Nat.reduceAdd]
 refine den_seq ?_
 refine den_region TTok ?_
 intro K hK
 simp -implicitDefEqProofs (disch := first | decide | assumption | omega) only [go_sem, RdS.len hdX sl22, RdS.idx hdX sl22, R1.intB hdX (HPres.refl _), RdS.cells hdX, RdS.len hmX sl23, RdS.idx hmX sl23, RdS.cellB hmX (HPres.refl _), RdS.cells hmX, RdS.len hdY sl22, RdS.idx hdY sl22, R1.intB hdY (HPres.refl _), RdS.cells hdY, RdS.len hmY sl23, RdS.idx hmY sl23, RdS.cellB hmY (HPres.refl _), RdS.cells hmY, wrap_id]
 refine op_box (cs := #[.int .i64 (X.p), vdX, vmX]) rfl ?_
 intro h0_0 e0_0 hb0_0 z0_0
 have := Ext.size e0_0
 have eB := e0_0
 have hfhb0_0 : Fresh h.size [h.size] := Fresh.one _
 have hlhb0_0 := one_lt (show h.size < h0_0.size by omega)
 try simp -implicitDefEqProofs (disch := first | decide | assumption | omega) only [go_sem, RdS.len hdX sl22, RdS.idx hdX sl22, R1.intB hdX (Ext.pres eB), RdS.cells hdX, RdS.len hmX sl23, RdS.idx hmX sl23, RdS.cellB hmX (Ext.pres eB), RdS.cells hmX, RdS.len hdY sl22, RdS.idx hdY sl22, R1.intB hdY (Ext.pres eB), RdS.cells hdY, RdS.len hmY sl23, RdS.idx hmY sl23, RdS.cellB hmY (Ext.pres eB), RdS.cells hmY, BoxAt.cell hb0_0, wrap_id]
 refine op_box (cs := #[.int .i64 (Y.p), vdY, vmY]) rfl ?_
 intro h0_1 e0_1 hb0_1 z0_1
 replace hb0_0 := BoxAt.ext hb0_0 e0_1
 have := Ext.size e0_1
 replace eB := Ext.trans eB e0_1
 have hfhb0_1 : Fresh h0_0.size [h0_0.size] := Fresh.one _
 have hlhb0_1 := one_lt (show h0_0.size < h0_1.size by omega)
 try simp -implicitDefEqProofs (disch := first | decide | assumption | omega) only [go_sem, RdS.len hdX sl22, RdS.idx hdX sl22, R1.intB hdX (Ext.pres eB), RdS.cells hdX, RdS.len hmX sl23, RdS.idx hmX sl23, RdS.cellB hmX (Ext.pres eB), RdS.cells hmX, RdS.len hdY sl22, RdS.idx hdY sl22, R1.intB hdY (Ext.pres eB), RdS.cells hdY, RdS.len hmY sl23, RdS.idx hmY sl23, RdS.cellB hmY (Ext.pres eB), RdS.cells hmY, BoxAt.cell hb0_0, BoxAt.cell hb0_1, wrap_id]
 refine hK _ _ ?_
 clear hK K
 refine den_seq ?_
 refine den_region TTok ?_
 intro K hK
 simp -implicitDefEqProofs (disch := first | decide | assumption | omega) only [go_sem, RdS.len hdX sl22, RdS.idx hdX sl22, R1.intB hdX (Ext.pres eB), RdS.cells hdX, RdS.len hmX sl23, RdS.idx hmX sl23, RdS.cellB hmX (Ext.pres eB), RdS.cells hmX, RdS.len hdY sl22, RdS.idx hdY sl22, R1.intB hdY (Ext.pres eB), RdS.cells hdY, RdS.len hmY sl23, RdS.idx hmY sl23, RdS.cellB hmY (Ext.pres eB), RdS.cells hmY, BoxAt.cell hb0_0, BoxAt.cell hb0_1, wrap_id]
 refine op_make sz22 rfl rfl (by omega) (by omega) OI 0 (fun _ => ⟨rfl, rfl⟩) ?_
 intro v1_1 h1_1 ho1_1 e1_1
 replace hb0_0 := BoxAt.ext hb0_0 e1_1
 replace hb0_1 := BoxAt.ext hb0_1 e1_1
 have := Ext.size e1_1
 replace eB := Ext.trans eB e1_1
 have hfho1_1 : Fresh h0_1.size [h0_1.size] := Fresh.one _
 have hlenho1_1 : (List.replicate (w).toNat (0 : Int)).length = (w).toNat := List.length_replicate
 have hlho1_1 := OS.lt ho1_1
 try simp -implicitDefEqProofs (disch := first | decide | assumption | omega) only [go_sem, RdS.len hdX sl22, RdS.idx hdX sl22, R1.intB hdX (Ext.pres eB), RdS.cells hdX, RdS.len hmX sl23, RdS.idx hmX sl23, RdS.cellB hmX (Ext.pres eB), RdS.cells hmX, RdS.len hdY sl22, RdS.idx hdY sl22, R1.intB hdY (Ext.pres eB), RdS.cells hdY, RdS.len hmY sl23, RdS.idx hmY sl23, RdS.cellB hmY (Ext.pres eB), RdS.cells hmY, RdS.len (OS.rd ho1_1) sl22, RdS.idx (OS.rd ho1_1) sl22, R1.intN (OS.rd ho1_1), RdS.cells (OS.rd ho1_1), BoxAt.cell hb0_0, BoxAt.cell hb0_1, wrap_id]
 refine hK _ _ ?_
 clear hK K
 refine den_seq ?_
 have hul : ((unitP (dimP X i).toNat a.toNat).length : Int) = X.dims.getD i.toNat 0 := by rw [unitP, List.length_set, List.length_replicate]; rw [dimP, if_pos (in3_iff.2 hi)] at hbx ⊢; omega
 have hub := unit_bnd hX.p (dimP X i).toNat a.toNat
 refine den_draw TTok mixed [] [(0, true), (1, true), (2, true), (3, true), (5, true), (4, false), (6, false), (7, false), (8, true)] (by kernel_rfl) ?_
 intro K hK
 simp -implicitDefEqProofs (disch := first | decide | assumption | omega) only [go_sem, ld30, RdS.len hdX sl22, RdS.idx hdX sl22, R1.intB hdX (Ext.pres eB), RdS.cells hdX, RdS.len hmX sl23, RdS.idx hmX sl23, RdS.cellB hmX (Ext.pres eB), RdS.cells hmX, RdS.len hdY sl22, RdS.idx hdY sl22, R1.intB hdY (Ext.pres eB), RdS.cells hdY, RdS.len hmY sl23, RdS.idx hmY sl23, RdS.cellB hmY (Ext.pres eB), RdS.cells hmY, RdS.len (OS.rd ho1_1) sl22, RdS.idx (OS.rd ho1_1) sl22, R1.intN (OS.rd ho1_1), RdS.cells (OS.rd ho1_1), BoxAt.cell hb0_0, BoxAt.cell hb0_1, wrap_id]
 try simp -implicitDefEqProofs (disch := first | decide | assumption | omega) only [go_sem, RdS.len hdX sl22, RdS.idx hdX sl22, R1.intB hdX (Ext.pres eB), RdS.cells hdX, RdS.len hmX sl23, RdS.idx hmX sl23, RdS.cellB hmX (Ext.pres eB), RdS.cells hmX, RdS.len hdY sl22, RdS.idx hdY sl22, R1.intB hdY (Ext.pres eB), RdS.cells hdY, RdS.len hmY sl23, RdS.idx hmY sl23, RdS.cellB hmY (Ext.pres eB), RdS.cells hmY, RdS.len (OS.rd ho1_1) sl22, RdS.idx (OS.rd ho1_1) sl22, R1.intN (OS.rd ho1_1), RdS.cells (OS.rd ho1_1), BoxAt.cell hb0_0, BoxAt.cell hb0_1, wrap_id]
 refine CallA.mono (sDim_ok _ X _ _ ⟨_, _, rfl, (RdS.pres hdX (Ext.pres eB)), (RdS.pres hmX (Ext.pres eB))⟩) ?_
 intro v_ h2_4
 rintro ⟨rfl, e2_4⟩
 replace ho1_1 := OS.ext ho1_1 e2_4
 replace hb0_0 := BoxAt.ext hb0_0 e2_4
 replace hb0_1 := BoxAt.ext hb0_1 e2_4
 have := Ext.size e2_4
 replace eB := Ext.trans eB e2_4
 try simp (disch := decide) only [outv_some, outv_none, put_puts]
 refine plK_pres (Ext.pres e2_4) ?_
 try simp -implicitDefEqProofs (disch := first | decide | assumption | omega) only [go_sem, RdS.len hdX sl22, RdS.idx hdX sl22, R1.intB hdX (Ext.pres eB), RdS.cells hdX, RdS.len hmX sl23, RdS.idx hmX sl23, RdS.cellB hmX (Ext.pres eB), RdS.cells hmX, RdS.len hdY sl22, RdS.idx hdY sl22, R1.intB hdY (Ext.pres eB), RdS.cells hdY, RdS.len hmY sl23, RdS.idx hmY sl23, RdS.cellB hmY (Ext.pres eB), RdS.cells hmY, RdS.len (OS.rd ho1_1) sl22, RdS.idx (OS.rd ho1_1) sl22, R1.intN (OS.rd ho1_1), RdS.cells (OS.rd ho1_1), BoxAt.cell hb0_0, BoxAt.cell hb0_1, wrap_id]
 try simp -implicitDefEqProofs (disch := first | decide | assumption | omega) only [go_sem, RdS.len hdX sl22, RdS.idx hdX sl22, R1.intB hdX (Ext.pres eB), RdS.cells hdX, RdS.len hmX sl23, RdS.idx hmX sl23, RdS.cellB hmX (Ext.pres eB), RdS.cells hmX, RdS.len hdY sl22, RdS.idx hdY sl22, R1.intB hdY (Ext.pres eB), RdS.cells hdY, RdS.len hmY sl23, RdS.idx hmY sl23, RdS.cellB hmY (Ext.pres eB), RdS.cells hmY, RdS.len (OS.rd ho1_1) sl22, RdS.idx (OS.rd ho1_1) sl22, R1.intN (OS.rd ho1_1), RdS.cells (OS.rd ho1_1), BoxAt.cell hb0_0, BoxAt.cell hb0_1, wrap_id]
 refine CallA.mono (sUnit_ok  (dimP X i) a _  (by omega)) ?_
 intro vw2_6_0 h2_6
 rintro ⟨zvw2_6_0, fw2_6_0, rfl, how2_6_0, hfw2_6_0, e2_6⟩
 replace ho1_1 := OS.ext ho1_1 e2_6
 replace hb0_0 := BoxAt.ext hb0_0 e2_6
 replace hb0_1 := BoxAt.ext hb0_1 e2_6
 have := Ext.size e2_6
 replace eB := Ext.trans eB e2_6
 have hlhow2_6_0 := OS.lt how2_6_0
 try simp (disch := decide) only [outv_some, outv_none, put_puts]
 refine plK_pres (Ext.pres e2_6) ?_
 try simp -implicitDefEqProofs (disch := first | decide | assumption | omega) only [go_sem, RdS.len hdX sl22, RdS.idx hdX sl22, R1.intB hdX (Ext.pres eB), RdS.cells hdX, RdS.len hmX sl23, RdS.idx hmX sl23, RdS.cellB hmX (Ext.pres eB), RdS.cells hmX, RdS.len hdY sl22, RdS.idx hdY sl22, R1.intB hdY (Ext.pres eB), RdS.cells hdY, RdS.len hmY sl23, RdS.idx hmY sl23, RdS.cellB hmY (Ext.pres eB), RdS.cells hmY, RdS.len (OS.rd ho1_1) sl22, RdS.idx (OS.rd ho1_1) sl22, R1.intN (OS.rd ho1_1), RdS.cells (OS.rd ho1_1), RdS.len (OS.rd how2_6_0) sl22, RdS.idx (OS.rd how2_6_0) sl22, R1.intN (OS.rd how2_6_0), RdS.cells (OS.rd how2_6_0), BoxAt.cell hb0_0, BoxAt.cell hb0_1, wrap_id]
 try simp -implicitDefEqProofs (disch := first | decide | assumption | omega) only [go_sem, RdS.len hdX sl22, RdS.idx hdX sl22, R1.intB hdX (Ext.pres eB), RdS.cells hdX, RdS.len hmX sl23, RdS.idx hmX sl23, RdS.cellB hmX (Ext.pres eB), RdS.cells hmX, RdS.len hdY sl22, RdS.idx hdY sl22, R1.intB hdY (Ext.pres eB), RdS.cells hdY, RdS.len hmY sl23, RdS.idx hmY sl23, RdS.cellB hmY (Ext.pres eB), RdS.cells hmY, RdS.len (OS.rd ho1_1) sl22, RdS.idx (OS.rd ho1_1) sl22, R1.intN (OS.rd ho1_1), RdS.cells (OS.rd ho1_1), RdS.len (OS.rd how2_6_0) sl22, RdS.idx (OS.rd how2_6_0) sl22, R1.intN (OS.rd how2_6_0), RdS.cells (OS.rd how2_6_0), BoxAt.cell hb0_0, BoxAt.cell hb0_1, wrap_id]
 refine CallA.mono (sD_okT _ _ X i (unitP (dimP X i).toNat a.toNat) _ ⟨_, _, rfl, (RdS.pres hdX (Ext.pres eB)), (RdS.pres hmX (Ext.pres eB))⟩ (OS.rd how2_6_0) hCX (by omega) (by first | assumption | omega) (by assumption)) ?_
 intro vw2_7_0 h2_7
 rintro ⟨zvw2_7_0, fw2_7_0, rfl, how2_7_0, hfw2_7_0, e2_7⟩
 replace ho1_1 := OS.ext ho1_1 e2_7
 replace how2_6_0 := OS.ext how2_6_0 e2_7
 replace hb0_0 := BoxAt.ext hb0_0 e2_7
 replace hb0_1 := BoxAt.ext hb0_1 e2_7
 have := Ext.size e2_7
 replace eB := Ext.trans eB e2_7
 have hlhow2_7_0 := OS.lt how2_7_0
 try simp (disch := decide) only [outv_some, outv_none, put_puts]
 refine plK_pres (Ext.pres e2_7) ?_
 try simp -implicitDefEqProofs (disch := first | decide | assumption | omega) only [go_sem, RdS.len hdX sl22, RdS.idx hdX sl22, R1.intB hdX (Ext.pres eB), RdS.cells hdX, RdS.len hmX sl23, RdS.idx hmX sl23, RdS.cellB hmX (Ext.pres eB), RdS.cells hmX, RdS.len hdY sl22, RdS.idx hdY sl22, R1.intB hdY (Ext.pres eB), RdS.cells hdY, RdS.len hmY sl23, RdS.idx hmY sl23, RdS.cellB hmY (Ext.pres eB), RdS.cells hmY, RdS.len (OS.rd ho1_1) sl22, RdS.idx (OS.rd ho1_1) sl22, R1.intN (OS.rd ho1_1), RdS.cells (OS.rd ho1_1), RdS.len (OS.rd how2_6_0) sl22, RdS.idx (OS.rd how2_6_0) sl22, R1.intN (OS.rd how2_6_0), RdS.cells (OS.rd how2_6_0), RdS.len (OS.rd how2_7_0) sl22, RdS.idx (OS.rd how2_7_0) sl22, R1.intN (OS.rd how2_7_0), RdS.cells (OS.rd how2_7_0), BoxAt.cell hb0_0, BoxAt.cell hb0_1, wrap_id]
 refine hK _ _ ?_
 clear hK K
 refine den_seq ?_
 refine den_seq ?_
 rw [show diffP X i (unitP (dimP X i).toNat a.toNat) = dxP X i.toNat a.toNat by rw [dxP, Int.toNat_of_nonneg hi.1]] at how2_7_0
 refine den_region TTok ?_
 intro K hK
 simp -implicitDefEqProofs (disch := first | decide | assumption | omega) only [go_sem, RdS.len hdX sl22, RdS.idx hdX sl22, R1.intB hdX (Ext.pres eB), RdS.cells hdX, RdS.len hmX sl23, RdS.idx hmX sl23, RdS.cellB hmX (Ext.pres eB), RdS.cells hmX, RdS.len hdY sl22, RdS.idx hdY sl22, R1.intB hdY (Ext.pres eB), RdS.cells hdY, RdS.len hmY sl23, RdS.idx hmY sl23, RdS.cellB hmY (Ext.pres eB), RdS.cells hmY, RdS.len (OS.rd ho1_1) sl22, RdS.idx (OS.rd ho1_1) sl22, R1.intN (OS.rd ho1_1), RdS.cells (OS.rd ho1_1), RdS.len (OS.rd how2_7_0) sl22, RdS.idx (OS.rd how2_7_0) sl22, R1.intN (OS.rd how2_7_0), RdS.cells (OS.rd how2_7_0), BoxAt.cell hb0_0, BoxAt.cell hb0_1, wrap_id]
 refine hK _ _ ?_
 clear hK K
 refine den_block ?_
 refine den_sel [17, 2, 3, 4, 5, 7, 8, 15, 16] ?_
 intro env_1
 simp only [go_sem]
 refine den_loopS (σ := Nat) (fun st_ => [(17, .int .i64 (st_ : Int))]) (fun st_ H => (st_ ≤ (dxP X i.toNat a.toNat).length) ∧ (O1 H v1_1 (rXv X Y i.toNat j.toNat b.toNat w.toNat (dxP X i.toNat a.toNat) st_) [h0_1.size]) ∧ (Chg [h0_1.size] h2_7 H)) (fun st_ => (dxP X i.toNat a.toNat).length - st_) 0 ?_ ?_
 ·exact ⟨by first | (simp; done) | (dsimp only; omega) | (simp; omega), by rw [rXv]; exact ho1_1, Chg.refl _ _⟩
 ·rintro m h4 ee3 ⟨hi0, hO, cL2⟩
  replace how2_7_0 := OS.chg how2_7_0 cL2 (apart_gt hfw2_7_0 hlho1_1 (by omega))
  replace hb0_0 := BoxAt.chgA hb0_0 cL2 (apart_lt hlhb0_0 hfho1_1 (by omega))
  replace hb0_1 := BoxAt.chgA hb0_1 cL2 (apart_lt hlhb0_1 hfho1_1 (by omega))
  have := cL2.size
  replace eB := Ext.then eB cL2 (ge_of hfho1_1 (by omega))
  have sbhO : Sub [h0_1.size] h2_7.size [h0_1.size] := Sub.refl
  have hfhO := hfho1_1
  have hlhO := hlho1_1
  simp only [List.cons_append, List.nil_append]
  refine den_seq ?_
  refine den_seq ?_
  refine den_region TTok ?_
  intro K hK
  simp -implicitDefEqProofs (disch := first | decide | assumption | omega) only [go_sem, RdS.len hdX sl22, RdS.idx hdX sl22, R1.intB hdX (Ext.pres eB), RdS.cells hdX, RdS.len hmX sl23, RdS.idx hmX sl23, RdS.cellB hmX (Ext.pres eB), RdS.cells hmX, RdS.len hdY sl22, RdS.idx hdY sl22, R1.intB hdY (Ext.pres eB), RdS.cells hdY, RdS.len hmY sl23, RdS.idx hmY sl23, RdS.cellB hmY (Ext.pres eB), RdS.cells hmY, RdS.len (OS.rd how2_7_0) sl22, RdS.idx (OS.rd how2_7_0) sl22, R1.intN (OS.rd how2_7_0), RdS.cells (OS.rd how2_7_0), RdS.len (OS.rd hO) sl22, RdS.idx (OS.rd hO) sl22, R1.intN (OS.rd hO), RdS.cells (OS.rd hO), BoxAt.cell hb0_0, BoxAt.cell hb0_1, wrap_id]
  refine hK _ _ ?_
  clear hK K
  refine den_cond rfl (fun c0 => ?_) (fun c0 => ?_)
  ·try simp only [decide_eq_true_eq, decide_eq_false_iff_not, beq_iff_eq, beq_eq_false_iff_ne, bne_iff_ne, ne_eq, Bool.not_eq_true', Bool.not_eq_false', Bool.and_eq_true, Bool.or_eq_true, bne_eq_false_iff_eq] at c0
   refine den_skip ?_
   refine den_seq ?_
   refine den_block ?_
   refine den_seq ?_
   refine den_region TTok ?_
   intro K hK
   simp -implicitDefEqProofs (disch := first | decide | assumption | omega) only [go_sem, ld2, RdS.len hdX sl22, RdS.idx hdX sl22, R1.intB hdX (Ext.pres eB), RdS.cells hdX, RdS.len hmX sl23, RdS.idx hmX sl23, RdS.cellB hmX (Ext.pres eB), RdS.cells hmX, RdS.len hdY sl22, RdS.idx hdY sl22, R1.intB hdY (Ext.pres eB), RdS.cells hdY, RdS.len hmY sl23, RdS.idx hmY sl23, RdS.cellB hmY (Ext.pres eB), RdS.cells hmY, RdS.len (OS.rd how2_7_0) sl22, RdS.idx (OS.rd how2_7_0) sl22, R1.intN (OS.rd how2_7_0), RdS.cells (OS.rd how2_7_0), RdS.len (OS.rd hO) sl22, RdS.idx (OS.rd hO) sl22, R1.intN (OS.rd hO), RdS.cells (OS.rd hO), BoxAt.cell hb0_0, BoxAt.cell hb0_1, wrap_id]
   refine hK _ _ ?_
   clear hK K
   refine den_cond rfl (fun c1 => ?_) (fun c1 => ?_)
   ·try simp only [decide_eq_true_eq, decide_eq_false_iff_not, beq_iff_eq, beq_eq_false_iff_ne, bne_iff_ne, ne_eq, Bool.not_eq_true', Bool.not_eq_false', Bool.and_eq_true, Bool.or_eq_true, bne_eq_false_iff_eq] at c1
    have hfx := dx_factsT hX hi.1 ha (m := m) (by omega)
    have hpl := place_ltT hX hY (i := i - 1) (j := j) (a := (m : Int)) (b := b) (by omega) hj (by omega) hb
    rw [show i - 1 + j = i + j - 1 by omega, ← hw] at hpl
    have hxl := rXv_len X Y i.toNat j.toNat b.toNat w.toNat (dxP X i.toNat a.toNat) m
    refine den_draw TTok mixed [14] [(0, true), (1, true), (2, true), (3, true), (4, true), (5, true), (6, true), (7, true), (9, true), (10, true), (11, true), (12, true), (8, false), (13, true), (14, false)] (by kernel_rfl) ?_
    intro K hK
    simp -implicitDefEqProofs (disch := first | decide | assumption | omega) only [go_sem, ld2, ld30, RdS.len hdX sl22, RdS.idx hdX sl22, R1.intB hdX (Ext.pres eB), RdS.cells hdX, RdS.len hmX sl23, RdS.idx hmX sl23, RdS.cellB hmX (Ext.pres eB), RdS.cells hmX, RdS.len hdY sl22, RdS.idx hdY sl22, R1.intB hdY (Ext.pres eB), RdS.cells hdY, RdS.len hmY sl23, RdS.idx hmY sl23, RdS.cellB hmY (Ext.pres eB), RdS.cells hmY, RdS.len (OS.rd how2_7_0) sl22, RdS.idx (OS.rd how2_7_0) sl22, R1.intN (OS.rd how2_7_0), RdS.cells (OS.rd how2_7_0), RdS.len (OS.rd hO) sl22, RdS.idx (OS.rd hO) sl22, R1.intN (OS.rd hO), RdS.cells (OS.rd hO), BoxAt.cell hb0_0, BoxAt.cell hb0_1, wrap_id]
    try simp -implicitDefEqProofs (disch := first | decide | assumption | omega) only [go_sem, RdS.len hdX sl22, RdS.idx hdX sl22, R1.intB hdX (Ext.pres eB), RdS.cells hdX, RdS.len hmX sl23, RdS.idx hmX sl23, RdS.cellB hmX (Ext.pres eB), RdS.cells hmX, RdS.len hdY sl22, RdS.idx hdY sl22, R1.intB hdY (Ext.pres eB), RdS.cells hdY, RdS.len hmY sl23, RdS.idx hmY sl23, RdS.cellB hmY (Ext.pres eB), RdS.cells hmY, RdS.len (OS.rd how2_7_0) sl22, RdS.idx (OS.rd how2_7_0) sl22, R1.intN (OS.rd how2_7_0), RdS.cells (OS.rd how2_7_0), RdS.len (OS.rd hO) sl22, RdS.idx (OS.rd hO) sl22, R1.intN (OS.rd hO), RdS.cells (OS.rd hO), BoxAt.cell hb0_0, BoxAt.cell hb0_1, wrap_id]
    refine CallA.mono (sPlace_okT _ _ X Y _ _ _ _ _ ⟨_, _, rfl, (RdS.pres hdX (Ext.pres eB)), (RdS.pres hmX (Ext.pres eB))⟩ ⟨_, _, rfl, (RdS.pres hdY (Ext.pres eB)), (RdS.pres hmY (Ext.pres eB))⟩ hX hY (by omega) (by omega) (by omega) (by omega)) ?_
    intro v_ h7_8
    rintro ⟨rfl, e7_8⟩
    replace how2_7_0 := OS.ext how2_7_0 e7_8
    replace hO := OS.ext hO e7_8
    replace hb0_0 := BoxAt.ext hb0_0 e7_8
    replace hb0_1 := BoxAt.ext hb0_1 e7_8
    have := Ext.size e7_8
    replace eB := Ext.trans eB e7_8
    replace cL2 := Chg.stepE cL2 e7_8
    try simp (disch := decide) only [outv_some, outv_none, put_puts]
    refine plK_pres (Ext.pres e7_8) ?_
    try simp -implicitDefEqProofs (disch := first | decide | assumption | omega) only [go_sem, RdS.len hdX sl22, RdS.idx hdX sl22, R1.intB hdX (Ext.pres eB), RdS.cells hdX, RdS.len hmX sl23, RdS.idx hmX sl23, RdS.cellB hmX (Ext.pres eB), RdS.cells hmX, RdS.len hdY sl22, RdS.idx hdY sl22, R1.intB hdY (Ext.pres eB), RdS.cells hdY, RdS.len hmY sl23, RdS.idx hmY sl23, RdS.cellB hmY (Ext.pres eB), RdS.cells hmY, RdS.len (OS.rd how2_7_0) sl22, RdS.idx (OS.rd how2_7_0) sl22, R1.intN (OS.rd how2_7_0), RdS.cells (OS.rd how2_7_0), RdS.len (OS.rd hO) sl22, RdS.idx (OS.rd hO) sl22, R1.intN (OS.rd hO), RdS.cells (OS.rd hO), BoxAt.cell hb0_0, BoxAt.cell hb0_1, wrap_id]
    refine op_store1 (j := ((placeP X Y (i - (1 : Int)) (m : Int) j b)).toNat) st2 hO hfhO.nodup (by first | omega | (simp; omega)) rfl rfl ?_
    intro h7_14 ho7_14 c7_14
    have hsz7_14 := c7_14.size
    replace how2_7_0 := OS.chg how2_7_0 c7_14 (apart_gt hfw2_7_0 hlhO (by omega))
    replace hb0_0 := BoxAt.chgA hb0_0 c7_14 (apart_lt hlhb0_0 hfhO (by omega))
    replace hb0_1 := BoxAt.chgA hb0_1 c7_14 (apart_lt hlhb0_1 hfhO (by omega))
    have := c7_14.size
    replace eB := Ext.then eB c7_14 (ge_of hfhO (by omega))
    replace cL2 := Chg.step cL2 c7_14 sbhO
    have ap5 : Apart fw2_7_0 [h0_1.size] := (apart_gt hfw2_7_0 hlhO (by omega))
    have hlho7_14 := hlhO
    have hlenho7_14 : ((rXv X Y i.toNat j.toNat b.toNat w.toNat (dxP X i.toNat a.toNat) m).set (((placeP X Y (i - (1 : Int)) (m : Int) j b)).toNat) ((dxP X i.toNat a.toNat).getD m 0) : List Int).length = (rXv X Y i.toNat j.toNat b.toNat w.toNat (dxP X i.toNat a.toNat) m : List Int).length := List.length_set
    try simp (disch := decide) only [outv_some, outv_none, put_puts]
    refine plK_last (by decide) ?_
    try simp -implicitDefEqProofs (disch := first | decide | assumption | omega) only [go_sem, RdS.len hdX sl22, RdS.idx hdX sl22, R1.intB hdX (Ext.pres eB), RdS.cells hdX, RdS.len hmX sl23, RdS.idx hmX sl23, RdS.cellB hmX (Ext.pres eB), RdS.cells hmX, RdS.len hdY sl22, RdS.idx hdY sl22, R1.intB hdY (Ext.pres eB), RdS.cells hdY, RdS.len hmY sl23, RdS.idx hmY sl23, RdS.cellB hmY (Ext.pres eB), RdS.cells hmY, RdS.len (OS.rd how2_7_0) sl22, RdS.idx (OS.rd how2_7_0) sl22, R1.intN (OS.rd how2_7_0), RdS.cells (OS.rd how2_7_0), RdS.len (OS.rd ho7_14) sl22, RdS.idx (OS.rd ho7_14) sl22, R1.intN (OS.rd ho7_14), RdS.cells (OS.rd ho7_14), BoxAt.cell hb0_0, BoxAt.cell hb0_1, wrap_id]
    refine hK _ _ ?_
    clear hK K
    refine den_blk ?_
    refine den_region TTok ?_
    intro K hK
    simp -implicitDefEqProofs (disch := first | decide | assumption | omega) only [go_sem, RdS.len hdX sl22, RdS.idx hdX sl22, R1.intB hdX (Ext.pres eB), RdS.cells hdX, RdS.len hmX sl23, RdS.idx hmX sl23, RdS.cellB hmX (Ext.pres eB), RdS.cells hmX, RdS.len hdY sl22, RdS.idx hdY sl22, R1.intB hdY (Ext.pres eB), RdS.cells hdY, RdS.len hmY sl23, RdS.idx hmY sl23, RdS.cellB hmY (Ext.pres eB), RdS.cells hmY, RdS.len (OS.rd how2_7_0) sl22, RdS.idx (OS.rd how2_7_0) sl22, R1.intN (OS.rd how2_7_0), RdS.cells (OS.rd how2_7_0), RdS.len (OS.rd ho7_14) sl22, RdS.idx (OS.rd ho7_14) sl22, R1.intN (OS.rd ho7_14), RdS.cells (OS.rd ho7_14), BoxAt.cell hb0_0, BoxAt.cell hb0_1, wrap_id]
    refine hK _ _ ?_
    clear hK K
    refine den_stop ?_
    first | rw [rXv_set hi.1 hj.1 hb.1 (by simpa using c1)] at ho7_14 | rw [rXv_skip (dx := dxP X i.toNat a.toNat) (m := m) (by simpa using c1)] at ho7_14
    exact ⟨m + 1, by simp [HasL, puts_at], ⟨by first | omega | (dsimp only; omega), ho7_14, cL2⟩, by first | omega | (dsimp only; omega)⟩
   ·try simp only [decide_eq_true_eq, decide_eq_false_iff_not, beq_iff_eq, beq_eq_false_iff_ne, bne_iff_ne, ne_eq, Bool.not_eq_true', Bool.not_eq_false', Bool.and_eq_true, Bool.or_eq_true, bne_eq_false_iff_eq] at c1
    refine den_skip ?_
    refine den_blk ?_
    refine den_region TTok ?_
    intro K hK
    simp -implicitDefEqProofs (disch := first | decide | assumption | omega) only [go_sem, RdS.len hdX sl22, RdS.idx hdX sl22, R1.intB hdX (Ext.pres eB), RdS.cells hdX, RdS.len hmX sl23, RdS.idx hmX sl23, RdS.cellB hmX (Ext.pres eB), RdS.cells hmX, RdS.len hdY sl22, RdS.idx hdY sl22, R1.intB hdY (Ext.pres eB), RdS.cells hdY, RdS.len hmY sl23, RdS.idx hmY sl23, RdS.cellB hmY (Ext.pres eB), RdS.cells hmY, RdS.len (OS.rd how2_7_0) sl22, RdS.idx (OS.rd how2_7_0) sl22, R1.intN (OS.rd how2_7_0), RdS.cells (OS.rd how2_7_0), RdS.len (OS.rd hO) sl22, RdS.idx (OS.rd hO) sl22, R1.intN (OS.rd hO), RdS.cells (OS.rd hO), BoxAt.cell hb0_0, BoxAt.cell hb0_1, wrap_id]
    refine hK _ _ ?_
    clear hK K
    refine den_stop ?_
    first | rw [rXv_set hi.1 hj.1 hb.1 (by simpa using c1)] at hO | rw [rXv_skip (dx := dxP X i.toNat a.toNat) (m := m) (by simpa using c1)] at hO
    exact ⟨m + 1, by simp [HasL, puts_at], ⟨by first | omega | (dsimp only; omega), hO, cL2⟩, by first | omega | (dsimp only; omega)⟩
  ·try simp only [decide_eq_true_eq, decide_eq_false_iff_not, beq_iff_eq, beq_eq_false_iff_ne, bne_iff_ne, ne_eq, Bool.not_eq_true', Bool.not_eq_false', Bool.and_eq_true, Bool.or_eq_true, bne_eq_false_iff_eq] at c0
   refine den_exit ?_
   refine denX_code ?_
   refine denX_stop ?_
   refine denX_hit ?_
   refine den_seq ?_
   have hul2 : ((unitP (dimP Y j).toNat b.toNat).length : Int) = Y.dims.getD j.toNat 0 := by rw [unitP, List.length_set, List.length_replicate]; rw [dimP, if_pos (in3_iff.2 hj)] at hby ⊢; omega
   have hub2 := unit_bnd hY.p (dimP Y j).toNat b.toNat
   refine den_draw TTok mixed [] [(0, true), (1, true), (2, true), (3, true), (5, true), (4, false), (6, false), (7, false), (8, true)] (by kernel_rfl) ?_
   intro K hK
   simp -implicitDefEqProofs (disch := first | decide | assumption | omega) only [go_sem, ld30, RdS.len hdX sl22, RdS.idx hdX sl22, R1.intB hdX (Ext.pres eB), RdS.cells hdX, RdS.len hmX sl23, RdS.idx hmX sl23, RdS.cellB hmX (Ext.pres eB), RdS.cells hmX, RdS.len hdY sl22, RdS.idx hdY sl22, R1.intB hdY (Ext.pres eB), RdS.cells hdY, RdS.len hmY sl23, RdS.idx hmY sl23, RdS.cellB hmY (Ext.pres eB), RdS.cells hmY, RdS.len (OS.rd hO) sl22, RdS.idx (OS.rd hO) sl22, R1.intN (OS.rd hO), RdS.cells (OS.rd hO), BoxAt.cell hb0_0, BoxAt.cell hb0_1, wrap_id]
   try simp -implicitDefEqProofs (disch := first | decide | assumption | omega) only [go_sem, RdS.len hdX sl22, RdS.idx hdX sl22, R1.intB hdX (Ext.pres eB), RdS.cells hdX, RdS.len hmX sl23, RdS.idx hmX sl23, RdS.cellB hmX (Ext.pres eB), RdS.cells hmX, RdS.len hdY sl22, RdS.idx hdY sl22, R1.intB hdY (Ext.pres eB), RdS.cells hdY, RdS.len hmY sl23, RdS.idx hmY sl23, RdS.cellB hmY (Ext.pres eB), RdS.cells hmY, RdS.len (OS.rd hO) sl22, RdS.idx (OS.rd hO) sl22, R1.intN (OS.rd hO), RdS.cells (OS.rd hO), BoxAt.cell hb0_0, BoxAt.cell hb0_1, wrap_id]
   refine CallA.mono (sDim_ok _ Y _ _ ⟨_, _, rfl, (RdS.pres hdY (Ext.pres eB)), (RdS.pres hmY (Ext.pres eB))⟩) ?_
   intro v_ h8_4
   rintro ⟨rfl, e8_4⟩
   replace hO := OS.ext hO e8_4
   replace hb0_0 := BoxAt.ext hb0_0 e8_4
   replace hb0_1 := BoxAt.ext hb0_1 e8_4
   have := Ext.size e8_4
   replace eB := Ext.trans eB e8_4
   try simp (disch := decide) only [outv_some, outv_none, put_puts]
   refine plK_pres (Ext.pres e8_4) ?_
   try simp -implicitDefEqProofs (disch := first | decide | assumption | omega) only [go_sem, RdS.len hdX sl22, RdS.idx hdX sl22, R1.intB hdX (Ext.pres eB), RdS.cells hdX, RdS.len hmX sl23, RdS.idx hmX sl23, RdS.cellB hmX (Ext.pres eB), RdS.cells hmX, RdS.len hdY sl22, RdS.idx hdY sl22, R1.intB hdY (Ext.pres eB), RdS.cells hdY, RdS.len hmY sl23, RdS.idx hmY sl23, RdS.cellB hmY (Ext.pres eB), RdS.cells hmY, RdS.len (OS.rd hO) sl22, RdS.idx (OS.rd hO) sl22, R1.intN (OS.rd hO), RdS.cells (OS.rd hO), BoxAt.cell hb0_0, BoxAt.cell hb0_1, wrap_id]
   try simp -implicitDefEqProofs (disch := first | decide | assumption | omega) only [go_sem, RdS.len hdX sl22, RdS.idx hdX sl22, R1.intB hdX (Ext.pres eB), RdS.cells hdX, RdS.len hmX sl23, RdS.idx hmX sl23, RdS.cellB hmX (Ext.pres eB), RdS.cells hmX, RdS.len hdY sl22, RdS.idx hdY sl22, R1.intB hdY (Ext.pres eB), RdS.cells hdY, RdS.len hmY sl23, RdS.idx hmY sl23, RdS.cellB hmY (Ext.pres eB), RdS.cells hmY, RdS.len (OS.rd hO) sl22, RdS.idx (OS.rd hO) sl22, R1.intN (OS.rd hO), RdS.cells (OS.rd hO), BoxAt.cell hb0_0, BoxAt.cell hb0_1, wrap_id]
   refine CallA.mono (sUnit_ok  (dimP Y j) b _  (by omega)) ?_
   intro vw8_6_0 h8_6
   rintro ⟨zvw8_6_0, fw8_6_0, rfl, how8_6_0, hfw8_6_0, e8_6⟩
   replace hO := OS.ext hO e8_6
   replace hb0_0 := BoxAt.ext hb0_0 e8_6
   replace hb0_1 := BoxAt.ext hb0_1 e8_6
   have := Ext.size e8_6
   replace eB := Ext.trans eB e8_6
   have hlhow8_6_0 := OS.lt how8_6_0
   try simp (disch := decide) only [outv_some, outv_none, put_puts]
   refine plK_pres (Ext.pres e8_6) ?_
   try simp -implicitDefEqProofs (disch := first | decide | assumption | omega) only [go_sem, RdS.len hdX sl22, RdS.idx hdX sl22, R1.intB hdX (Ext.pres eB), RdS.cells hdX, RdS.len hmX sl23, RdS.idx hmX sl23, RdS.cellB hmX (Ext.pres eB), RdS.cells hmX, RdS.len hdY sl22, RdS.idx hdY sl22, R1.intB hdY (Ext.pres eB), RdS.cells hdY, RdS.len hmY sl23, RdS.idx hmY sl23, RdS.cellB hmY (Ext.pres eB), RdS.cells hmY, RdS.len (OS.rd hO) sl22, RdS.idx (OS.rd hO) sl22, R1.intN (OS.rd hO), RdS.cells (OS.rd hO), RdS.len (OS.rd how8_6_0) sl22, RdS.idx (OS.rd how8_6_0) sl22, R1.intN (OS.rd how8_6_0), RdS.cells (OS.rd how8_6_0), BoxAt.cell hb0_0, BoxAt.cell hb0_1, wrap_id]
   try simp -implicitDefEqProofs (disch := first | decide | assumption | omega) only [go_sem, RdS.len hdX sl22, RdS.idx hdX sl22, R1.intB hdX (Ext.pres eB), RdS.cells hdX, RdS.len hmX sl23, RdS.idx hmX sl23, RdS.cellB hmX (Ext.pres eB), RdS.cells hmX, RdS.len hdY sl22, RdS.idx hdY sl22, R1.intB hdY (Ext.pres eB), RdS.cells hdY, RdS.len hmY sl23, RdS.idx hmY sl23, RdS.cellB hmY (Ext.pres eB), RdS.cells hmY, RdS.len (OS.rd hO) sl22, RdS.idx (OS.rd hO) sl22, R1.intN (OS.rd hO), RdS.cells (OS.rd hO), RdS.len (OS.rd how8_6_0) sl22, RdS.idx (OS.rd how8_6_0) sl22, R1.intN (OS.rd how8_6_0), RdS.cells (OS.rd how8_6_0), BoxAt.cell hb0_0, BoxAt.cell hb0_1, wrap_id]
   refine CallA.mono (sD_okT _ _ Y j (unitP (dimP Y j).toNat b.toNat) _ ⟨_, _, rfl, (RdS.pres hdY (Ext.pres eB)), (RdS.pres hmY (Ext.pres eB))⟩ (OS.rd how8_6_0) hCY (by omega) (by first | assumption | omega) (by assumption)) ?_
   intro vw8_7_0 h8_7
   rintro ⟨zvw8_7_0, fw8_7_0, rfl, how8_7_0, hfw8_7_0, e8_7⟩
   replace hO := OS.ext hO e8_7
   replace how8_6_0 := OS.ext how8_6_0 e8_7
   replace hb0_0 := BoxAt.ext hb0_0 e8_7
   replace hb0_1 := BoxAt.ext hb0_1 e8_7
   have := Ext.size e8_7
   replace eB := Ext.trans eB e8_7
   have hlhow8_7_0 := OS.lt how8_7_0
   try simp (disch := decide) only [outv_some, outv_none, put_puts]
   refine plK_pres (Ext.pres e8_7) ?_
   try simp -implicitDefEqProofs (disch := first | decide | assumption | omega) only [go_sem, RdS.len hdX sl22, RdS.idx hdX sl22, R1.intB hdX (Ext.pres eB), RdS.cells hdX, RdS.len hmX sl23, RdS.idx hmX sl23, RdS.cellB hmX (Ext.pres eB), RdS.cells hmX, RdS.len hdY sl22, RdS.idx hdY sl22, R1.intB hdY (Ext.pres eB), RdS.cells hdY, RdS.len hmY sl23, RdS.idx hmY sl23, RdS.cellB hmY (Ext.pres eB), RdS.cells hmY, RdS.len (OS.rd hO) sl22, RdS.idx (OS.rd hO) sl22, R1.intN (OS.rd hO), RdS.cells (OS.rd hO), RdS.len (OS.rd how8_6_0) sl22, RdS.idx (OS.rd how8_6_0) sl22, R1.intN (OS.rd how8_6_0), RdS.cells (OS.rd how8_6_0), RdS.len (OS.rd how8_7_0) sl22, RdS.idx (OS.rd how8_7_0) sl22, R1.intN (OS.rd how8_7_0), RdS.cells (OS.rd how8_7_0), BoxAt.cell hb0_0, BoxAt.cell hb0_1, wrap_id]
   refine hK _ _ ?_
   clear hK K
   refine den_seq ?_
   refine den_seq ?_
   rw [show diffP Y j (unitP (dimP Y j).toNat b.toNat) = dxP Y j.toNat b.toNat by rw [dxP, Int.toNat_of_nonneg hj.1]] at how8_7_0
   refine den_region TTok ?_
   intro K hK
   simp -implicitDefEqProofs (disch := first | decide | assumption | omega) only [go_sem, RdS.len hdX sl22, RdS.idx hdX sl22, R1.intB hdX (Ext.pres eB), RdS.cells hdX, RdS.len hmX sl23, RdS.idx hmX sl23, RdS.cellB hmX (Ext.pres eB), RdS.cells hmX, RdS.len hdY sl22, RdS.idx hdY sl22, R1.intB hdY (Ext.pres eB), RdS.cells hdY, RdS.len hmY sl23, RdS.idx hmY sl23, RdS.cellB hmY (Ext.pres eB), RdS.cells hmY, RdS.len (OS.rd hO) sl22, RdS.idx (OS.rd hO) sl22, R1.intN (OS.rd hO), RdS.cells (OS.rd hO), RdS.len (OS.rd how8_7_0) sl22, RdS.idx (OS.rd how8_7_0) sl22, R1.intN (OS.rd how8_7_0), RdS.cells (OS.rd how8_7_0), BoxAt.cell hb0_0, BoxAt.cell hb0_1, wrap_id]
   refine hK _ _ ?_
   clear hK K
   refine den_block ?_
   refine den_sel [19, 2, 3, 4, 7, 8, 15, 18] ?_
   intro env_6
   simp only [go_sem]
   refine den_loopS (σ := Nat) (fun st_ => [(19, .int .i64 (st_ : Int))]) (fun st_ H => (st_ ≤ (dxP Y j.toNat b.toNat).length) ∧ (O1 H v1_1 (rYv X Y i.toNat a.toNat j.toNat (dxP Y j.toNat b.toNat) (rXv X Y i.toNat j.toNat b.toNat w.toNat (dxP X i.toNat a.toNat) (dxP X i.toNat a.toNat).length) st_) [h0_1.size]) ∧ (Chg [h0_1.size] h8_7 H)) (fun st_ => (dxP Y j.toNat b.toNat).length - st_) 0 ?_ ?_
   ·exact ⟨by first | (simp; done) | (dsimp only; omega) | (simp; omega), by rw [rYv, show (dxP X i.toNat a.toNat).length = m by omega]; exact hO, Chg.refl _ _⟩
   ·rintro n h9 ee8 ⟨hi0, hP, cL7⟩
    replace how8_7_0 := OS.chg how8_7_0 cL7 (apart_gt hfw8_7_0 hlhO (by omega))
    replace hb0_0 := BoxAt.chgA hb0_0 cL7 (apart_lt hlhb0_0 hfhO (by omega))
    replace hb0_1 := BoxAt.chgA hb0_1 cL7 (apart_lt hlhb0_1 hfhO (by omega))
    have := cL7.size
    replace eB := Ext.then eB cL7 (ge_of hfhO (by omega))
    have sbhP : Sub [h0_1.size] h8_7.size [h0_1.size] := Sub.refl
    have hfhP := hfhO
    have hlhP := hlhO
    simp only [List.cons_append, List.nil_append]
    refine den_seq ?_
    refine den_seq ?_
    refine den_region TTok ?_
    intro K hK
    simp -implicitDefEqProofs (disch := first | decide | assumption | omega) only [go_sem, RdS.len hdX sl22, RdS.idx hdX sl22, R1.intB hdX (Ext.pres eB), RdS.cells hdX, RdS.len hmX sl23, RdS.idx hmX sl23, RdS.cellB hmX (Ext.pres eB), RdS.cells hmX, RdS.len hdY sl22, RdS.idx hdY sl22, R1.intB hdY (Ext.pres eB), RdS.cells hdY, RdS.len hmY sl23, RdS.idx hmY sl23, RdS.cellB hmY (Ext.pres eB), RdS.cells hmY, RdS.len (OS.rd how8_7_0) sl22, RdS.idx (OS.rd how8_7_0) sl22, R1.intN (OS.rd how8_7_0), RdS.cells (OS.rd how8_7_0), RdS.len (OS.rd hP) sl22, RdS.idx (OS.rd hP) sl22, R1.intN (OS.rd hP), RdS.cells (OS.rd hP), BoxAt.cell hb0_0, BoxAt.cell hb0_1, wrap_id]
    refine hK _ _ ?_
    clear hK K
    refine den_cond rfl (fun c2 => ?_) (fun c2 => ?_)
    ·try simp only [decide_eq_true_eq, decide_eq_false_iff_not, beq_iff_eq, beq_eq_false_iff_ne, bne_iff_ne, ne_eq, Bool.not_eq_true', Bool.not_eq_false', Bool.and_eq_true, Bool.or_eq_true, bne_eq_false_iff_eq] at c2
     refine den_skip ?_
     refine den_seq ?_
     refine den_block ?_
     refine den_seq ?_
     refine den_region TTok ?_
     intro K hK
     simp -implicitDefEqProofs (disch := first | decide | assumption | omega) only [go_sem, ld2, RdS.len hdX sl22, RdS.idx hdX sl22, R1.intB hdX (Ext.pres eB), RdS.cells hdX, RdS.len hmX sl23, RdS.idx hmX sl23, RdS.cellB hmX (Ext.pres eB), RdS.cells hmX, RdS.len hdY sl22, RdS.idx hdY sl22, R1.intB hdY (Ext.pres eB), RdS.cells hdY, RdS.len hmY sl23, RdS.idx hmY sl23, RdS.cellB hmY (Ext.pres eB), RdS.cells hmY, RdS.len (OS.rd how8_7_0) sl22, RdS.idx (OS.rd how8_7_0) sl22, R1.intN (OS.rd how8_7_0), RdS.cells (OS.rd how8_7_0), RdS.len (OS.rd hP) sl22, RdS.idx (OS.rd hP) sl22, R1.intN (OS.rd hP), RdS.cells (OS.rd hP), BoxAt.cell hb0_0, BoxAt.cell hb0_1, wrap_id]
     refine hK _ _ ?_
     clear hK K
     refine den_cond rfl (fun c3 => ?_) (fun c3 => ?_)
     ·try simp only [decide_eq_true_eq, decide_eq_false_iff_not, beq_iff_eq, beq_eq_false_iff_ne, bne_iff_ne, ne_eq, Bool.not_eq_true', Bool.not_eq_false', Bool.and_eq_true, Bool.or_eq_true, bne_eq_false_iff_eq] at c3
      have hfy := dx_factsT hY hj.1 hb (m := n) (by omega)
      have hpl := place_ltT hX hY (i := i) (j := j - 1) (a := a) (b := (n : Int)) hi (by omega) ha (by omega)
      rw [show i + (j - 1) = i + j - 1 by omega, ← hw] at hpl
      have hyl := rYv_len X Y i.toNat a.toNat j.toNat (dxP Y j.toNat b.toNat) (rXv X Y i.toNat j.toNat b.toNat w.toNat (dxP X i.toNat a.toNat) (dxP X i.toNat a.toNat).length) n
      rw [rXv_len] at hyl
      have hsm := sg_mul (y := (dxP Y j.toNat b.toNat).getD n 0) (p := Y.p) hi.1 ⟨hfy.2.2.1, hfy.2.2.2⟩ (by have := isP_bnd hY.p; omega)
      refine den_draw TTok mixed [22] [(0, true), (1, true), (2, true), (3, true), (4, true), (5, true), (6, true), (7, true), (9, true), (10, true), (11, true), (12, true), (13, true), (14, true), (15, true), (16, true), (17, true), (18, true), (19, true), (8, false), (20, false), (21, true), (22, false)] (by kernel_rfl) ?_
      intro K hK
      simp -implicitDefEqProofs (disch := first | decide | assumption | omega) only [go_sem, fa30_0, ld2, ld30, RdS.len hdX sl22, RdS.idx hdX sl22, R1.intB hdX (Ext.pres eB), RdS.cells hdX, RdS.len hmX sl23, RdS.idx hmX sl23, RdS.cellB hmX (Ext.pres eB), RdS.cells hmX, RdS.len hdY sl22, RdS.idx hdY sl22, R1.intB hdY (Ext.pres eB), RdS.cells hdY, RdS.len hmY sl23, RdS.idx hmY sl23, RdS.cellB hmY (Ext.pres eB), RdS.cells hmY, RdS.len (OS.rd how8_7_0) sl22, RdS.idx (OS.rd how8_7_0) sl22, R1.intN (OS.rd how8_7_0), RdS.cells (OS.rd how8_7_0), RdS.len (OS.rd hP) sl22, RdS.idx (OS.rd hP) sl22, R1.intN (OS.rd hP), RdS.cells (OS.rd hP), BoxAt.cell hb0_0, BoxAt.cell hb0_1, wrap_id]
      try simp -implicitDefEqProofs (disch := first | decide | assumption | omega) only [go_sem, RdS.len hdX sl22, RdS.idx hdX sl22, R1.intB hdX (Ext.pres eB), RdS.cells hdX, RdS.len hmX sl23, RdS.idx hmX sl23, RdS.cellB hmX (Ext.pres eB), RdS.cells hmX, RdS.len hdY sl22, RdS.idx hdY sl22, R1.intB hdY (Ext.pres eB), RdS.cells hdY, RdS.len hmY sl23, RdS.idx hmY sl23, RdS.cellB hmY (Ext.pres eB), RdS.cells hmY, RdS.len (OS.rd how8_7_0) sl22, RdS.idx (OS.rd how8_7_0) sl22, R1.intN (OS.rd how8_7_0), RdS.cells (OS.rd how8_7_0), RdS.len (OS.rd hP) sl22, RdS.idx (OS.rd hP) sl22, R1.intN (OS.rd hP), RdS.cells (OS.rd hP), BoxAt.cell hb0_0, BoxAt.cell hb0_1, wrap_id]
      refine CallA.mono (sPlace_okT _ _ X Y _ _ _ _ _ ⟨_, _, rfl, (RdS.pres hdX (Ext.pres eB)), (RdS.pres hmX (Ext.pres eB))⟩ ⟨_, _, rfl, (RdS.pres hdY (Ext.pres eB)), (RdS.pres hmY (Ext.pres eB))⟩ hX hY (by omega) (by omega) (by omega) (by omega)) ?_
      intro v_ h13_8
      rintro ⟨rfl, e13_8⟩
      replace how8_7_0 := OS.ext how8_7_0 e13_8
      replace hP := OS.ext hP e13_8
      replace hb0_0 := BoxAt.ext hb0_0 e13_8
      replace hb0_1 := BoxAt.ext hb0_1 e13_8
      have := Ext.size e13_8
      replace eB := Ext.trans eB e13_8
      replace cL7 := Chg.stepE cL7 e13_8
      try simp (disch := decide) only [outv_some, outv_none, put_puts]
      refine plK_pres (Ext.pres e13_8) ?_
      try simp -implicitDefEqProofs (disch := first | decide | assumption | omega) only [go_sem, RdS.len hdX sl22, RdS.idx hdX sl22, R1.intB hdX (Ext.pres eB), RdS.cells hdX, RdS.len hmX sl23, RdS.idx hmX sl23, RdS.cellB hmX (Ext.pres eB), RdS.cells hmX, RdS.len hdY sl22, RdS.idx hdY sl22, R1.intB hdY (Ext.pres eB), RdS.cells hdY, RdS.len hmY sl23, RdS.idx hmY sl23, RdS.cellB hmY (Ext.pres eB), RdS.cells hmY, RdS.len (OS.rd how8_7_0) sl22, RdS.idx (OS.rd how8_7_0) sl22, R1.intN (OS.rd how8_7_0), RdS.cells (OS.rd how8_7_0), RdS.len (OS.rd hP) sl22, RdS.idx (OS.rd hP) sl22, R1.intN (OS.rd hP), RdS.cells (OS.rd hP), BoxAt.cell hb0_0, BoxAt.cell hb0_1, wrap_id]
      try simp -implicitDefEqProofs (disch := first | decide | assumption | omega) only [go_sem, RdS.len hdX sl22, RdS.idx hdX sl22, R1.intB hdX (Ext.pres eB), RdS.cells hdX, RdS.len hmX sl23, RdS.idx hmX sl23, RdS.cellB hmX (Ext.pres eB), RdS.cells hmX, RdS.len hdY sl22, RdS.idx hdY sl22, R1.intB hdY (Ext.pres eB), RdS.cells hdY, RdS.len hmY sl23, RdS.idx hmY sl23, RdS.cellB hmY (Ext.pres eB), RdS.cells hmY, RdS.len (OS.rd how8_7_0) sl22, RdS.idx (OS.rd how8_7_0) sl22, R1.intN (OS.rd how8_7_0), RdS.cells (OS.rd how8_7_0), RdS.len (OS.rd hP) sl22, RdS.idx (OS.rd hP) sl22, R1.intN (OS.rd hP), RdS.cells (OS.rd hP), BoxAt.cell hb0_0, BoxAt.cell hb0_1, wrap_id]
      refine CallA.mono (sMod_ok  X.p (((dxP Y j.toNat b.toNat).getD n 0) * ((1 : Int) - ((2 : Int) * (Int.tmod i (2 : Int))))) _  (by omega) (by omega)) ?_
      intro v_ h13_20
      rintro ⟨rfl, e13_20⟩
      replace how8_7_0 := OS.ext how8_7_0 e13_20
      replace hP := OS.ext hP e13_20
      replace hb0_0 := BoxAt.ext hb0_0 e13_20
      replace hb0_1 := BoxAt.ext hb0_1 e13_20
      have := Ext.size e13_20
      replace eB := Ext.trans eB e13_20
      replace cL7 := Chg.stepE cL7 e13_20
      try simp (disch := decide) only [outv_some, outv_none, put_puts]
      refine plK_pres (Ext.pres e13_20) ?_
      try simp -implicitDefEqProofs (disch := first | decide | assumption | omega) only [go_sem, RdS.len hdX sl22, RdS.idx hdX sl22, R1.intB hdX (Ext.pres eB), RdS.cells hdX, RdS.len hmX sl23, RdS.idx hmX sl23, RdS.cellB hmX (Ext.pres eB), RdS.cells hmX, RdS.len hdY sl22, RdS.idx hdY sl22, R1.intB hdY (Ext.pres eB), RdS.cells hdY, RdS.len hmY sl23, RdS.idx hmY sl23, RdS.cellB hmY (Ext.pres eB), RdS.cells hmY, RdS.len (OS.rd how8_7_0) sl22, RdS.idx (OS.rd how8_7_0) sl22, R1.intN (OS.rd how8_7_0), RdS.cells (OS.rd how8_7_0), RdS.len (OS.rd hP) sl22, RdS.idx (OS.rd hP) sl22, R1.intN (OS.rd hP), RdS.cells (OS.rd hP), BoxAt.cell hb0_0, BoxAt.cell hb0_1, wrap_id]
      refine op_store1 (j := ((placeP X Y i a (j - (1 : Int)) (n : Int))).toNat) st2 hP hfhP.nodup (by first | omega | (simp; omega)) rfl rfl ?_
      intro h13_22 ho13_22 c13_22
      have hsz13_22 := c13_22.size
      replace how8_7_0 := OS.chg how8_7_0 c13_22 (apart_gt hfw8_7_0 hlhP (by omega))
      replace hb0_0 := BoxAt.chgA hb0_0 c13_22 (apart_lt hlhb0_0 hfhP (by omega))
      replace hb0_1 := BoxAt.chgA hb0_1 c13_22 (apart_lt hlhb0_1 hfhP (by omega))
      have := c13_22.size
      replace eB := Ext.then eB c13_22 (ge_of hfhP (by omega))
      replace cL7 := Chg.step cL7 c13_22 sbhP
      have ap10 : Apart fw8_7_0 [h0_1.size] := (apart_gt hfw8_7_0 hlhP (by omega))
      have hlho13_22 := hlhP
      have hlenho13_22 : ((rYv X Y i.toNat a.toNat j.toNat (dxP Y j.toNat b.toNat) (rXv X Y i.toNat j.toNat b.toNat w.toNat (dxP X i.toNat a.toNat) (dxP X i.toNat a.toNat).length) n).set (((placeP X Y i a (j - (1 : Int)) (n : Int))).toNat) ((((dxP Y j.toNat b.toNat).getD n 0) * ((1 : Int) - ((2 : Int) * (Int.tmod i (2 : Int))))) % X.p) : List Int).length = (rYv X Y i.toNat a.toNat j.toNat (dxP Y j.toNat b.toNat) (rXv X Y i.toNat j.toNat b.toNat w.toNat (dxP X i.toNat a.toNat) (dxP X i.toNat a.toNat).length) n : List Int).length := List.length_set
      try simp (disch := decide) only [outv_some, outv_none, put_puts]
      refine plK_last (by decide) ?_
      try simp -implicitDefEqProofs (disch := first | decide | assumption | omega) only [go_sem, RdS.len hdX sl22, RdS.idx hdX sl22, R1.intB hdX (Ext.pres eB), RdS.cells hdX, RdS.len hmX sl23, RdS.idx hmX sl23, RdS.cellB hmX (Ext.pres eB), RdS.cells hmX, RdS.len hdY sl22, RdS.idx hdY sl22, R1.intB hdY (Ext.pres eB), RdS.cells hdY, RdS.len hmY sl23, RdS.idx hmY sl23, RdS.cellB hmY (Ext.pres eB), RdS.cells hmY, RdS.len (OS.rd how8_7_0) sl22, RdS.idx (OS.rd how8_7_0) sl22, R1.intN (OS.rd how8_7_0), RdS.cells (OS.rd how8_7_0), RdS.len (OS.rd ho13_22) sl22, RdS.idx (OS.rd ho13_22) sl22, R1.intN (OS.rd ho13_22), RdS.cells (OS.rd ho13_22), BoxAt.cell hb0_0, BoxAt.cell hb0_1, wrap_id]
      refine hK _ _ ?_
      clear hK K
      refine den_blk ?_
      refine den_region TTok ?_
      intro K hK
      simp -implicitDefEqProofs (disch := first | decide | assumption | omega) only [go_sem, RdS.len hdX sl22, RdS.idx hdX sl22, R1.intB hdX (Ext.pres eB), RdS.cells hdX, RdS.len hmX sl23, RdS.idx hmX sl23, RdS.cellB hmX (Ext.pres eB), RdS.cells hmX, RdS.len hdY sl22, RdS.idx hdY sl22, R1.intB hdY (Ext.pres eB), RdS.cells hdY, RdS.len hmY sl23, RdS.idx hmY sl23, RdS.cellB hmY (Ext.pres eB), RdS.cells hmY, RdS.len (OS.rd how8_7_0) sl22, RdS.idx (OS.rd how8_7_0) sl22, R1.intN (OS.rd how8_7_0), RdS.cells (OS.rd how8_7_0), RdS.len (OS.rd ho13_22) sl22, RdS.idx (OS.rd ho13_22) sl22, R1.intN (OS.rd ho13_22), RdS.cells (OS.rd ho13_22), BoxAt.cell hb0_0, BoxAt.cell hb0_1, wrap_id]
      refine hK _ _ ?_
      clear hK K
      refine den_stop ?_
      first | rw [rYv_set hi.1 ha.1 hj.1 (by simpa using c3)] at ho13_22 | rw [rYv_skip (dy := dxP Y j.toNat b.toNat) (m := n) (by simpa using c3)] at ho13_22
      exact ⟨n + 1, by simp [HasL, puts_at], ⟨by first | omega | (dsimp only; omega), ho13_22, cL7⟩, by first | omega | (dsimp only; omega)⟩
     ·try simp only [decide_eq_true_eq, decide_eq_false_iff_not, beq_iff_eq, beq_eq_false_iff_ne, bne_iff_ne, ne_eq, Bool.not_eq_true', Bool.not_eq_false', Bool.and_eq_true, Bool.or_eq_true, bne_eq_false_iff_eq] at c3
      refine den_skip ?_
      refine den_blk ?_
      refine den_region TTok ?_
      intro K hK
      simp -implicitDefEqProofs (disch := first | decide | assumption | omega) only [go_sem, RdS.len hdX sl22, RdS.idx hdX sl22, R1.intB hdX (Ext.pres eB), RdS.cells hdX, RdS.len hmX sl23, RdS.idx hmX sl23, RdS.cellB hmX (Ext.pres eB), RdS.cells hmX, RdS.len hdY sl22, RdS.idx hdY sl22, R1.intB hdY (Ext.pres eB), RdS.cells hdY, RdS.len hmY sl23, RdS.idx hmY sl23, RdS.cellB hmY (Ext.pres eB), RdS.cells hmY, RdS.len (OS.rd how8_7_0) sl22, RdS.idx (OS.rd how8_7_0) sl22, R1.intN (OS.rd how8_7_0), RdS.cells (OS.rd how8_7_0), RdS.len (OS.rd hP) sl22, RdS.idx (OS.rd hP) sl22, R1.intN (OS.rd hP), RdS.cells (OS.rd hP), BoxAt.cell hb0_0, BoxAt.cell hb0_1, wrap_id]
      refine hK _ _ ?_
      clear hK K
      refine den_stop ?_
      first | rw [rYv_set hi.1 ha.1 hj.1 (by simpa using c3)] at hP | rw [rYv_skip (dy := dxP Y j.toNat b.toNat) (m := n) (by simpa using c3)] at hP
      exact ⟨n + 1, by simp [HasL, puts_at], ⟨by first | omega | (dsimp only; omega), hP, cL7⟩, by first | omega | (dsimp only; omega)⟩
    ·try simp only [decide_eq_true_eq, decide_eq_false_iff_not, beq_iff_eq, beq_eq_false_iff_ne, bne_iff_ne, ne_eq, Bool.not_eq_true', Bool.not_eq_false', Bool.and_eq_true, Bool.or_eq_true, bne_eq_false_iff_eq] at c2
     refine den_exit ?_
     refine denX_code ?_
     refine denX_stop ?_
     refine denX_hit ?_
     refine den_seq ?_
     refine den_region TTok ?_
     intro K hK
     simp -implicitDefEqProofs (disch := first | decide | assumption | omega) only [go_sem, RdS.len hdX sl22, RdS.idx hdX sl22, R1.intB hdX (Ext.pres eB), RdS.cells hdX, RdS.len hmX sl23, RdS.idx hmX sl23, RdS.cellB hmX (Ext.pres eB), RdS.cells hmX, RdS.len hdY sl22, RdS.idx hdY sl22, R1.intB hdY (Ext.pres eB), RdS.cells hdY, RdS.len hmY sl23, RdS.idx hmY sl23, RdS.cellB hmY (Ext.pres eB), RdS.cells hmY, RdS.len (OS.rd hP) sl22, RdS.idx (OS.rd hP) sl22, R1.intN (OS.rd hP), RdS.cells (OS.rd hP), wrap_id]
     refine hK _ _ ?_
     clear hK K
     refine den_ret ?_
     simp (disch := decide) only [resP_1, puts_same, puts_ne]
     have e : tRow X Y i.toNat a.toNat j.toNat b.toNat w.toNat = rYv X Y i.toNat a.toNat j.toNat (dxP Y j.toNat b.toNat) (rXv X Y i.toNat j.toNat b.toNat w.toNat (dxP X i.toNat a.toNat) (dxP X i.toNat a.toNat).length) n := by rw [tRow, show (dxP Y j.toNat b.toNat).length = n by omega]
     rw [e]
     exact ⟨_, _, rfl, hP, hfhP.mono (by omega), eB⟩
open Go
theorem t_all1T {X Y : Cx} (hX : IsT X) (hY : IsT Y) {k i j : Nat} {v : Int} (hi : i < (X.maps.getD k default).length) (hj : j < ((X.maps.getD k default).getD i default).length) (n : Nat) : ∀ u ∈ upL (tF1 X Y k i j v) (fun q => (dimP Y q).toNat) n, InU ((tdP X Y).length - 1) (tA X Y) (tB X Y) u := fun u hu => by
 obtain ⟨q, m, _, hm, rfl⟩ := mem_upL hu
 exact t_in1T hX hY hi hj hm
theorem t_all2T {X Y : Cx} (hX : IsT X) (hY : IsT Y) {k i j : Nat} {v : Int} (hi : i < (Y.maps.getD k default).length) (hj : j < ((Y.maps.getD k default).getD i default).length) (n : Nat) : ∀ u ∈ upL (tF2 X Y k i j v) (fun q => (dimP X q).toNat) n, InU ((tdP X Y).length - 1) (tA X Y) (tB X Y) u := fun u hu => by
 obtain ⟨q, m, _, hm, rfl⟩ := mem_upL hu
 exact t_in2T hX hY hi hj hm
theorem t_row1T {X Y : Cx} (hX : IsT X) (hY : IsT Y) {k i j : Nat} {v : Int} (hi : i < (X.maps.getD k default).length) (hj : j < ((X.maps.getD k default).getD i default).length) (q n : Nat) (hn : (n : Int) ≤ dimP Y (q : Int)) : ∀ u ∈ (List.range n).map (tF1 X Y k i j v q), InU ((tdP X Y).length - 1) (tA X Y) (tB X Y) u := fun u hu => by
 obtain ⟨m, hm, rfl⟩ := List.mem_map.1 hu
 rw [List.mem_range] at hm
 exact t_in1T hX hY hi hj (by omega)
theorem t_row2T {X Y : Cx} (hX : IsT X) (hY : IsT Y) {k i j : Nat} {v : Int} (hi : i < (Y.maps.getD k default).length) (hj : j < ((Y.maps.getD k default).getD i default).length) (q n : Nat) (hn : (n : Int) ≤ dimP X (q : Int)) : ∀ u ∈ (List.range n).map (tF2 X Y k i j v q), InU ((tdP X Y).length - 1) (tA X Y) (tB X Y) u := fun u hu => by
 obtain ⟨m, hm, rfl⟩ := List.mem_map.1 hu
 rw [List.mem_range] at hm
 exact t_in2T hX hY hi hj (by omega)
set_option maxRecDepth 100000 in
theorem ten1_okT (X Y : Cx) (vdX vmX vdY vmY vD vw : Value) (M : M3) (f : List Nat) (k i j : Nat) (v : Int) (bO bY bX : Nat) (Ot : Heap → Prop) (h0 h : Heap) (hdX : R1 h0 vdX X.dims) (hmX : R3 h0 vmX X.maps) (hdY : R1 h0 vdY Y.dims) (hmY : R3 h0 vmY Y.maps) (hX : IsT X) (hY : IsT Y) (hi : i < (X.maps.getD k default).length) (hj : j < ((X.maps.getD k default).getD i default).length) (hv : -7 ≤ v ∧ v ≤ 7) (hom : O3 h vw M f) (hsh : Sh ((tdP X Y).length - 1) (tA X Y) (tB X Y) M) (hin : In3 X.p ((tdP X Y).length - 1) (tA X Y) (tB X Y) M) (hn : f.Nodup) (eB : Ext h0 h) (hge : ∀ b ∈ f, h0.size ≤ b) (hOt : Ot h) (hot : ∀ H H', Chg f H H' → Ot H → Ot H') (hE : ∀ H, Ot H → BoxAt H bO #[.int .i64 X.p, vD, vw] 30 ∧ BoxAt H bY #[.int .i64 Y.p, vdY, vmY] 30 ∧ BoxAt H bX #[.int .i64 X.p, vdX, vmX] 30 ∧ R1 H vD (tdP X Y)) : CallA Try.prog 148 #[.int .i64 ((k : Int) + 1), .int .i64 (i : Int), .int .i64 (j : Int), .int .i64 v, .pointer (some ⟨bY, 0, none⟩), .pointer (some ⟨bO, 0, none⟩), .pointer (some ⟨bX, 0, none⟩)] h fun v' h' => v' = .tuple #[] ∧ O3 h' vw (applyU X.p M (tU1 X Y k i j v)) f ∧ Chg f h h' := by
 obtain ⟨hbO, hbY, hbX, rD⟩ := hE _ hOt
 have hlX := hX.len
 have hlY := hY.len
 have hledX := RdS.le hdX
 have hledY := RdS.le hdY
 have hkm := maps_lt hi
 have hmm := hX.ml
 have hrd := row_dimT hX hi
 have hcd := col_dimT hX hi hj
 have hb1 := dimP_bndT hX ((k + 1 : Nat) : Int)
 have hb2 := dimP_bndT hX (k : Int)
 have hpb := isP_bnd hX.p
 have hlM := OS.lt hom
 refine callA_intro TTok (args := [_, _, _, _, _, _, _]) Try.func148 (by kernel_rfl) rfl 48 rfl (by simp) [] rfl ?_
 simp only [idxs, Nat.reduceAdd]
 refine den_seq ?_
 refine den_region TTok ?_
 intro K hK
 simp -implicitDefEqProofs (disch := first | decide | assumption | omega) only [go_sem, fa30_1, ld22, RdS.len hdX sl22, RdS.idx hdX sl22, R1.intB hdX (Ext.pres eB), RdS.cells hdX, RdS.len hmX sl23, RdS.idx hmX sl23, RdS.cellB hmX (Ext.pres eB), RdS.cells hmX, RdS.len hdY sl22, RdS.idx hdY sl22, R1.intB hdY (Ext.pres eB), RdS.cells hdY, RdS.len hmY sl23, RdS.idx hmY sl23, RdS.cellB hmY (Ext.pres eB), RdS.cells hmY, RdS.len (OS.rd hom) sl23, RdS.idx (OS.rd hom) sl23, RdS.cellN (OS.rd hom), RdS.cells (OS.rd hom), BoxAt.cell hbO, BoxAt.cell hbY, BoxAt.cell hbX, wrap_id, Int.add_sub_cancel]
 try simp -implicitDefEqProofs (disch := first | decide | assumption | omega) only [go_sem, RdS.len hdX sl22, RdS.idx hdX sl22, R1.intB hdX (Ext.pres eB), RdS.cells hdX, RdS.len hmX sl23, RdS.idx hmX sl23, RdS.cellB hmX (Ext.pres eB), RdS.cells hmX, RdS.len hdY sl22, RdS.idx hdY sl22, R1.intB hdY (Ext.pres eB), RdS.cells hdY, RdS.len hmY sl23, RdS.idx hmY sl23, RdS.cellB hmY (Ext.pres eB), RdS.cells hmY, RdS.len (OS.rd hom) sl23, RdS.idx (OS.rd hom) sl23, RdS.cellN (OS.rd hom), RdS.cells (OS.rd hom), BoxAt.cell hbO, BoxAt.cell hbY, BoxAt.cell hbX, wrap_id, Int.add_sub_cancel]
 refine CallA.pure (size1_ok _ _ _ (RdS.pres hdY (Ext.pres eB))) ?_
 try simp -implicitDefEqProofs (disch := first | decide | assumption | omega) only [go_sem, RdS.len hdX sl22, RdS.idx hdX sl22, R1.intB hdX (Ext.pres eB), RdS.cells hdX, RdS.len hmX sl23, RdS.idx hmX sl23, RdS.cellB hmX (Ext.pres eB), RdS.cells hmX, RdS.len hdY sl22, RdS.idx hdY sl22, R1.intB hdY (Ext.pres eB), RdS.cells hdY, RdS.len hmY sl23, RdS.idx hmY sl23, RdS.cellB hmY (Ext.pres eB), RdS.cells hmY, RdS.len (OS.rd hom) sl23, RdS.idx (OS.rd hom) sl23, RdS.cellN (OS.rd hom), RdS.cells (OS.rd hom), BoxAt.cell hbO, BoxAt.cell hbY, BoxAt.cell hbX, wrap_id, Int.add_sub_cancel]
 refine hK _ _ ?_
 clear hK K
 refine den_block ?_
 refine den_sel [16, 0, 1, 2, 3, 4, 5, 6, 15] ?_
 intro env_1
 simp only [go_sem]
 refine den_loopS (σ := Nat) (fun s => [(16, .int .i64 (s : Int))]) (fun s H => Ext h0 H ∧ s ≤ Y.dims.length ∧ O3 H vw (applyU X.p M (upL (tF1 X Y k i j v) (fun q => (dimP Y q).toNat) s)) f ∧ Chg f h H ∧ Ot H ∧ BoxAt H bO #[.int .i64 X.p, vD, vw] 30 ∧ BoxAt H bY #[.int .i64 Y.p, vdY, vmY] 30 ∧ BoxAt H bX #[.int .i64 X.p, vdX, vmX] 30 ∧ R1 H vD (tdP X Y)) (fun s => Y.dims.length - s) 0 ?_ ?_
 ·exact ⟨eB, by omega, by rw [upL, applyU]; exact hom, Chg.refl _ _, hOt, hE _ hOt⟩
 ·rintro q h4 ee3 ⟨eB, hq, hom, hch, hOt, hbO, hbY, hbX, rD⟩
  simp only [List.cons_append, List.nil_append]
  have := Ext.size eB
  refine den_seq ?_
  refine den_region TTok ?_
  intro K hK
  simp -implicitDefEqProofs (disch := first | decide | assumption | omega) only [go_sem, RdS.len hdX sl22, RdS.idx hdX sl22, R1.intB hdX (Ext.pres eB), RdS.cells hdX, RdS.len hmX sl23, RdS.idx hmX sl23, RdS.cellB hmX (Ext.pres eB), RdS.cells hmX, RdS.len hdY sl22, RdS.idx hdY sl22, R1.intB hdY (Ext.pres eB), RdS.cells hdY, RdS.len hmY sl23, RdS.idx hmY sl23, RdS.cellB hmY (Ext.pres eB), RdS.cells hmY, RdS.len (OS.rd hom) sl23, RdS.idx (OS.rd hom) sl23, RdS.cellN (OS.rd hom), RdS.cells (OS.rd hom), BoxAt.cell hbO, BoxAt.cell hbY, BoxAt.cell hbX, wrap_id, Int.add_sub_cancel]
  refine hK _ _ ?_
  clear hK K
  refine den_seq ?_
  refine den_cond rfl (fun c0 => ?_) (fun c0 => ?_)
  ·try simp only [decide_eq_true_eq, decide_eq_false_iff_not, beq_iff_eq, beq_eq_false_iff_ne, bne_iff_ne, ne_eq, Bool.not_eq_true', Bool.not_eq_false', Bool.and_eq_true, Bool.or_eq_true, bne_eq_false_iff_eq] at c0
   refine den_skip ?_
   refine den_seq ?_
   refine den_block ?_
   refine den_seq ?_
   refine den_region TTok ?_
   intro K hK
   simp -implicitDefEqProofs (disch := first | decide | assumption | omega) only [go_sem, RdS.len hdX sl22, RdS.idx hdX sl22, R1.intB hdX (Ext.pres eB), RdS.cells hdX, RdS.len hmX sl23, RdS.idx hmX sl23, RdS.cellB hmX (Ext.pres eB), RdS.cells hmX, RdS.len hdY sl22, RdS.idx hdY sl22, R1.intB hdY (Ext.pres eB), RdS.cells hdY, RdS.len hmY sl23, RdS.idx hmY sl23, RdS.cellB hmY (Ext.pres eB), RdS.cells hmY, RdS.len (OS.rd hom) sl23, RdS.idx (OS.rd hom) sl23, RdS.cellN (OS.rd hom), RdS.cells (OS.rd hom), BoxAt.cell hbO, BoxAt.cell hbY, BoxAt.cell hbX, wrap_id, Int.add_sub_cancel]
   refine hK _ _ ?_
   clear hK K
   refine den_seq ?_
   have hbq := dimP_bndT hY (q : Int)
   refine den_region TTok ?_
   intro K hK
   simp -implicitDefEqProofs (disch := first | decide | assumption | omega) only [go_sem, ld30, RdS.len hdX sl22, RdS.idx hdX sl22, R1.intB hdX (Ext.pres eB), RdS.cells hdX, RdS.len hmX sl23, RdS.idx hmX sl23, RdS.cellB hmX (Ext.pres eB), RdS.cells hmX, RdS.len hdY sl22, RdS.idx hdY sl22, R1.intB hdY (Ext.pres eB), RdS.cells hdY, RdS.len hmY sl23, RdS.idx hmY sl23, RdS.cellB hmY (Ext.pres eB), RdS.cells hmY, RdS.len (OS.rd hom) sl23, RdS.idx (OS.rd hom) sl23, RdS.cellN (OS.rd hom), RdS.cells (OS.rd hom), BoxAt.cell hbO, BoxAt.cell hbY, BoxAt.cell hbX, wrap_id, Int.add_sub_cancel]
   try simp -implicitDefEqProofs (disch := first | decide | assumption | omega) only [go_sem, RdS.len hdX sl22, RdS.idx hdX sl22, R1.intB hdX (Ext.pres eB), RdS.cells hdX, RdS.len hmX sl23, RdS.idx hmX sl23, RdS.cellB hmX (Ext.pres eB), RdS.cells hmX, RdS.len hdY sl22, RdS.idx hdY sl22, R1.intB hdY (Ext.pres eB), RdS.cells hdY, RdS.len hmY sl23, RdS.idx hmY sl23, RdS.cellB hmY (Ext.pres eB), RdS.cells hmY, RdS.len (OS.rd hom) sl23, RdS.idx (OS.rd hom) sl23, RdS.cellN (OS.rd hom), RdS.cells (OS.rd hom), BoxAt.cell hbO, BoxAt.cell hbY, BoxAt.cell hbX, wrap_id, Int.add_sub_cancel]
   refine CallA.mono (iDim_ok _ Y _ _ ⟨_, _, rfl, (RdS.pres hdY (Ext.pres eB)), (RdS.pres hmY (Ext.pres eB))⟩) ?_
   intro v_ h3_2
   rintro ⟨rfl, e3_2⟩
   replace hom := OS.ext hom e3_2
   replace hbO := BoxAt.ext hbO e3_2
   replace hbY := BoxAt.ext hbY e3_2
   replace hbX := BoxAt.ext hbX e3_2
   replace rD := RdS.pres rD (Ext.pres e3_2)
   have := Ext.size e3_2
   replace eB := Ext.trans eB e3_2
   try simp -implicitDefEqProofs (disch := first | decide | assumption | omega) only [go_sem, RdS.len hdX sl22, RdS.idx hdX sl22, R1.intB hdX (Ext.pres eB), RdS.cells hdX, RdS.len hmX sl23, RdS.idx hmX sl23, RdS.cellB hmX (Ext.pres eB), RdS.cells hmX, RdS.len hdY sl22, RdS.idx hdY sl22, R1.intB hdY (Ext.pres eB), RdS.cells hdY, RdS.len hmY sl23, RdS.idx hmY sl23, RdS.cellB hmY (Ext.pres eB), RdS.cells hmY, RdS.len (OS.rd hom) sl23, RdS.idx (OS.rd hom) sl23, RdS.cellN (OS.rd hom), RdS.cells (OS.rd hom), BoxAt.cell hbO, BoxAt.cell hbY, BoxAt.cell hbX, wrap_id, Int.add_sub_cancel]
   refine hK _ _ ?_
   clear hK K
   refine den_block ?_
   refine den_sel [22, 0, 1, 2, 3, 4, 5, 6, 11, 15, 16, 21] ?_
   intro env_5
   simp only [go_sem]
   refine den_loopS (σ := Nat) (fun s => [(22, .int .i64 (s : Int))]) (fun s H => Ext h0 H ∧ (s : Int) ≤ dimP Y (q : Int) ∧ O3 H vw (applyU X.p (applyU X.p M (upL (tF1 X Y k i j v) (fun q => (dimP Y q).toNat) q)) ((List.range s).map (tF1 X Y k i j v q))) f ∧ Chg f h H ∧ Ot H ∧ BoxAt H bO #[.int .i64 X.p, vD, vw] 30 ∧ BoxAt H bY #[.int .i64 Y.p, vdY, vmY] 30 ∧ BoxAt H bX #[.int .i64 X.p, vdX, vmX] 30 ∧ R1 H vD (tdP X Y)) (fun s => (dimP Y (q : Int)).toNat - s) 0 ?_ ?_
   ·exact ⟨eB, by omega, hom, hch.trans (Ext.chg e3_2 _), hot _ _ (Ext.chg e3_2 _) hOt, hE _ (hot _ _ (Ext.chg e3_2 _) hOt)⟩
   ·rintro m h8 ee7 ⟨eB, hm, hom, hch, hOt, hbO, hbY, hbX, rD⟩
    simp only [List.cons_append, List.nil_append]
    have := Ext.size eB
    refine den_seq ?_
    refine den_region TTok ?_
    intro K hK
    simp -implicitDefEqProofs (disch := first | decide | assumption | omega) only [go_sem, RdS.len hdX sl22, RdS.idx hdX sl22, R1.intB hdX (Ext.pres eB), RdS.cells hdX, RdS.len hmX sl23, RdS.idx hmX sl23, RdS.cellB hmX (Ext.pres eB), RdS.cells hmX, RdS.len hdY sl22, RdS.idx hdY sl22, R1.intB hdY (Ext.pres eB), RdS.cells hdY, RdS.len hmY sl23, RdS.idx hmY sl23, RdS.cellB hmY (Ext.pres eB), RdS.cells hmY, RdS.len (OS.rd hom) sl23, RdS.idx (OS.rd hom) sl23, RdS.cellN (OS.rd hom), RdS.cells (OS.rd hom), BoxAt.cell hbO, BoxAt.cell hbY, BoxAt.cell hbX, wrap_id, Int.add_sub_cancel]
    refine hK _ _ ?_
    clear hK K
    refine den_seq ?_
    refine den_cond rfl (fun c1 => ?_) (fun c1 => ?_)
    ·try simp only [decide_eq_true_eq, decide_eq_false_iff_not, beq_iff_eq, beq_eq_false_iff_ne, bne_iff_ne, ne_eq, Bool.not_eq_true', Bool.not_eq_false', Bool.and_eq_true, Bool.or_eq_true, bne_eq_false_iff_eq] at c1
     refine den_skip ?_
     refine den_seq ?_
     refine den_block ?_
     refine den_seq ?_
     refine den_region TTok ?_
     intro K hK
     simp -implicitDefEqProofs (disch := first | decide | assumption | omega) only [go_sem, RdS.len hdX sl22, RdS.idx hdX sl22, R1.intB hdX (Ext.pres eB), RdS.cells hdX, RdS.len hmX sl23, RdS.idx hmX sl23, RdS.cellB hmX (Ext.pres eB), RdS.cells hmX, RdS.len hdY sl22, RdS.idx hdY sl22, R1.intB hdY (Ext.pres eB), RdS.cells hdY, RdS.len hmY sl23, RdS.idx hmY sl23, RdS.cellB hmY (Ext.pres eB), RdS.cells hmY, RdS.len (OS.rd hom) sl23, RdS.idx (OS.rd hom) sl23, RdS.cellN (OS.rd hom), RdS.cells (OS.rd hom), BoxAt.cell hbO, BoxAt.cell hbY, BoxAt.cell hbX, wrap_id, Int.add_sub_cancel]
     refine hK _ _ ?_
     clear hK K
     have hS := applyU_sh (p := X.p) (applyU_sh (p := X.p) hsh (t_all1T hX hY (v := v) hi hj q)) (t_row1T hX hY (v := v) hi hj q m (by omega))
     have hI := applyU_in hpb.1 (applyU_sh (p := X.p) hsh (t_all1T hX hY (v := v) hi hj q)) (applyU_in hpb.1 hsh hin (t_all1T hX hY (v := v) hi hj q)) (t_row1T hX hY (v := v) hi hj q m (by omega))
     have hiu := t_in1T hX hY (v := v) hi hj (q := q) (m := m) (by omega)
     have hin1 : k + q < (tdP X Y).length - 1 := hiu.1
     have hin2 : (placeP X Y ((k : Int) + 1) (i : Int) (q : Int) (m : Int)).toNat < tA X Y (k + q) := hiu.2.1
     have hin3 : (placeP X Y (k : Int) (j : Int) (q : Int) (m : Int)).toNat < tB X Y (k + q) := hiu.2.2
     have hr1 := hS.rows _ hin1
     have hr2 := hS.cols _ _ hin1 hin2
     have hi3 := hI _ _ _ hin1 hin2 hin3
     have hsl := hS.len
     have hp0 : 0 ≤ placeP X Y ((k : Int) + 1) (i : Int) (q : Int) (m : Int) := (pl_ltT hX hY hrd (show (m : Int) < dimP Y (q : Int) by omega)).1
     have hp1 : 0 ≤ placeP X Y (k : Int) (j : Int) (q : Int) (m : Int) := (pl_ltT hX hY hcd (show (m : Int) < dimP Y (q : Int) by omega)).1
     have ek : (((k : Int) + 1 + (q : Int)) - 1).toNat = k + q := by omega
     refine den_draw TTok mixed [20] [(0, true), (1, true), (2, true), (3, true), (4, true), (5, true), (6, true), (7, true), (8, true), (9, true), (11, true), (12, true), (13, true), (14, true), (15, true), (16, true), (17, true), (19, true), (10, false), (18, false), (20, false)] (by kernel_rfl) ?_
     intro K hK
     simp -implicitDefEqProofs (disch := first | decide | assumption | omega) only [go_sem, ld30, RdS.len hdX sl22, RdS.idx hdX sl22, R1.intB hdX (Ext.pres eB), RdS.cells hdX, RdS.len hmX sl23, RdS.idx hmX sl23, RdS.cellB hmX (Ext.pres eB), RdS.cells hmX, RdS.len hdY sl22, RdS.idx hdY sl22, R1.intB hdY (Ext.pres eB), RdS.cells hdY, RdS.len hmY sl23, RdS.idx hmY sl23, RdS.cellB hmY (Ext.pres eB), RdS.cells hmY, RdS.len (OS.rd hom) sl23, RdS.idx (OS.rd hom) sl23, RdS.cellN (OS.rd hom), RdS.cells (OS.rd hom), BoxAt.cell hbO, BoxAt.cell hbY, BoxAt.cell hbX, wrap_id, Int.add_sub_cancel]
     try simp -implicitDefEqProofs (disch := first | decide | assumption | omega) only [go_sem, RdS.len hdX sl22, RdS.idx hdX sl22, R1.intB hdX (Ext.pres eB), RdS.cells hdX, RdS.len hmX sl23, RdS.idx hmX sl23, RdS.cellB hmX (Ext.pres eB), RdS.cells hmX, RdS.len hdY sl22, RdS.idx hdY sl22, R1.intB hdY (Ext.pres eB), RdS.cells hdY, RdS.len hmY sl23, RdS.idx hmY sl23, RdS.cellB hmY (Ext.pres eB), RdS.cells hmY, RdS.len (OS.rd hom) sl23, RdS.idx (OS.rd hom) sl23, RdS.cellN (OS.rd hom), RdS.cells (OS.rd hom), BoxAt.cell hbO, BoxAt.cell hbY, BoxAt.cell hbX, wrap_id, Int.add_sub_cancel]
     refine CallA.mono (iPlace_okT _ _ X Y _ _ _ _ _ ⟨_, _, rfl, (RdS.pres hdX (Ext.pres eB)), (RdS.pres hmX (Ext.pres eB))⟩ ⟨_, _, rfl, (RdS.pres hdY (Ext.pres eB)), (RdS.pres hmY (Ext.pres eB))⟩ hX hY (by omega) (by omega) (by omega) (by omega)) ?_
     intro v_ h6_10
     rintro ⟨rfl, e6_10⟩
     replace hom := OS.ext hom e6_10
     replace hbO := BoxAt.ext hbO e6_10
     replace hbY := BoxAt.ext hbY e6_10
     replace hbX := BoxAt.ext hbX e6_10
     replace rD := RdS.pres rD (Ext.pres e6_10)
     have := Ext.size e6_10
     replace eB := Ext.trans eB e6_10
     try simp (disch := decide) only [outv_some, outv_none, put_puts]
     refine plK_pres (Ext.pres e6_10) ?_
     try simp -implicitDefEqProofs (disch := first | decide | assumption | omega) only [go_sem, RdS.len hdX sl22, RdS.idx hdX sl22, R1.intB hdX (Ext.pres eB), RdS.cells hdX, RdS.len hmX sl23, RdS.idx hmX sl23, RdS.cellB hmX (Ext.pres eB), RdS.cells hmX, RdS.len hdY sl22, RdS.idx hdY sl22, R1.intB hdY (Ext.pres eB), RdS.cells hdY, RdS.len hmY sl23, RdS.idx hmY sl23, RdS.cellB hmY (Ext.pres eB), RdS.cells hmY, RdS.len (OS.rd hom) sl23, RdS.idx (OS.rd hom) sl23, RdS.cellN (OS.rd hom), RdS.cells (OS.rd hom), BoxAt.cell hbO, BoxAt.cell hbY, BoxAt.cell hbX, wrap_id, Int.add_sub_cancel]
     try simp -implicitDefEqProofs (disch := first | decide | assumption | omega) only [go_sem, RdS.len hdX sl22, RdS.idx hdX sl22, R1.intB hdX (Ext.pres eB), RdS.cells hdX, RdS.len hmX sl23, RdS.idx hmX sl23, RdS.cellB hmX (Ext.pres eB), RdS.cells hmX, RdS.len hdY sl22, RdS.idx hdY sl22, R1.intB hdY (Ext.pres eB), RdS.cells hdY, RdS.len hmY sl23, RdS.idx hmY sl23, RdS.cellB hmY (Ext.pres eB), RdS.cells hmY, RdS.len (OS.rd hom) sl23, RdS.idx (OS.rd hom) sl23, RdS.cellN (OS.rd hom), RdS.cells (OS.rd hom), BoxAt.cell hbO, BoxAt.cell hbY, BoxAt.cell hbX, wrap_id, Int.add_sub_cancel]
     refine CallA.mono (iPlace_okT _ _ X Y _ _ _ _ _ ⟨_, _, rfl, (RdS.pres hdX (Ext.pres eB)), (RdS.pres hmX (Ext.pres eB))⟩ ⟨_, _, rfl, (RdS.pres hdY (Ext.pres eB)), (RdS.pres hmY (Ext.pres eB))⟩ hX hY (by omega) (by omega) (by omega) (by omega)) ?_
     intro v_ h6_18
     rintro ⟨rfl, e6_18⟩
     replace hom := OS.ext hom e6_18
     replace hbO := BoxAt.ext hbO e6_18
     replace hbY := BoxAt.ext hbY e6_18
     replace hbX := BoxAt.ext hbX e6_18
     replace rD := RdS.pres rD (Ext.pres e6_18)
     have := Ext.size e6_18
     replace eB := Ext.trans eB e6_18
     try simp (disch := decide) only [outv_some, outv_none, put_puts]
     refine plK_pres (Ext.pres e6_18) ?_
     try simp -implicitDefEqProofs (disch := first | decide | assumption | omega) only [go_sem, RdS.len hdX sl22, RdS.idx hdX sl22, R1.intB hdX (Ext.pres eB), RdS.cells hdX, RdS.len hmX sl23, RdS.idx hmX sl23, RdS.cellB hmX (Ext.pres eB), RdS.cells hmX, RdS.len hdY sl22, RdS.idx hdY sl22, R1.intB hdY (Ext.pres eB), RdS.cells hdY, RdS.len hmY sl23, RdS.idx hmY sl23, RdS.cellB hmY (Ext.pres eB), RdS.cells hmY, RdS.len (OS.rd hom) sl23, RdS.idx (OS.rd hom) sl23, RdS.cellN (OS.rd hom), RdS.cells (OS.rd hom), BoxAt.cell hbO, BoxAt.cell hbY, BoxAt.cell hbX, wrap_id, Int.add_sub_cancel]
     try simp -implicitDefEqProofs (disch := first | decide | assumption | omega) only [go_sem, RdS.len hdX sl22, RdS.idx hdX sl22, R1.intB hdX (Ext.pres eB), RdS.cells hdX, RdS.len hmX sl23, RdS.idx hmX sl23, RdS.cellB hmX (Ext.pres eB), RdS.cells hmX, RdS.len hdY sl22, RdS.idx hdY sl22, R1.intB hdY (Ext.pres eB), RdS.cells hdY, RdS.len hmY sl23, RdS.idx hmY sl23, RdS.cellB hmY (Ext.pres eB), RdS.cells hmY, RdS.len (OS.rd hom) sl23, RdS.idx (OS.rd hom) sl23, RdS.cellN (OS.rd hom), RdS.cells (OS.rd hom), BoxAt.cell hbO, BoxAt.cell hbY, BoxAt.cell hbX, wrap_id, Int.add_sub_cancel]
     refine CallA.mono (addAt_ok X.p _ _ (tdP X Y) _ f _ _ _ _ _ rD hom hn hpb (by omega) ⟨by omega, by rw [ek, hr1]; omega⟩ ⟨by omega, by rw [ek, hr2]; omega⟩ (by rw [ek]; exact hi3) (by first | exact hsv | omega)) ?_
     intro v_ h6_20
     rintro ⟨rfl, hom2, cad⟩
     have hch2 := (hch.trans (Ext.chg (e6_10.trans e6_18) _)).trans cad
     have hOt2 := hot _ _ ((Ext.chg (e6_10.trans e6_18) f).trans cad) hOt
     replace eB := Ext.then eB cad hge
     rw [ek] at hom2
     try simp (disch := decide) only [outv_some, outv_none, put_puts]
     refine plK_last (by decide) ?_
     try simp -implicitDefEqProofs (disch := first | decide | assumption | omega) only [go_sem, RdS.len hdX sl22, RdS.idx hdX sl22, R1.intB hdX (Ext.pres eB), RdS.cells hdX, RdS.len hmX sl23, RdS.idx hmX sl23, RdS.cellB hmX (Ext.pres eB), RdS.cells hmX, RdS.len hdY sl22, RdS.idx hdY sl22, R1.intB hdY (Ext.pres eB), RdS.cells hdY, RdS.len hmY sl23, RdS.idx hmY sl23, RdS.cellB hmY (Ext.pres eB), RdS.cells hmY, RdS.len (OS.rd hom) sl23, RdS.idx (OS.rd hom) sl23, RdS.cellN (OS.rd hom), RdS.cells (OS.rd hom), BoxAt.cell hbO, BoxAt.cell hbY, BoxAt.cell hbX, wrap_id, Int.add_sub_cancel]
     refine hK _ _ ?_
     clear hK K
     refine den_blk ?_
     refine den_region TTok ?_
     intro K hK
     simp -implicitDefEqProofs (disch := first | decide | assumption | omega) only [go_sem, RdS.len hdX sl22, RdS.idx hdX sl22, R1.intB hdX (Ext.pres eB), RdS.cells hdX, RdS.len hmX sl23, RdS.idx hmX sl23, RdS.cellB hmX (Ext.pres eB), RdS.cells hmX, RdS.len hdY sl22, RdS.idx hdY sl22, R1.intB hdY (Ext.pres eB), RdS.cells hdY, RdS.len hmY sl23, RdS.idx hmY sl23, RdS.cellB hmY (Ext.pres eB), RdS.cells hmY, RdS.len (OS.rd hom) sl23, RdS.idx (OS.rd hom) sl23, RdS.cellN (OS.rd hom), RdS.cells (OS.rd hom), BoxAt.cell hbO, BoxAt.cell hbY, BoxAt.cell hbX, wrap_id, Int.add_sub_cancel]
     refine hK _ _ ?_
     clear hK K
     refine den_stop ?_
     refine ⟨m + 1, by simp [HasL, puts_at], ⟨eB, by omega, ?_, hch2, hOt2, hE _ hOt2⟩, by omega⟩
     rw [applyU_step]
     exact hom2
    ·try simp only [decide_eq_true_eq, decide_eq_false_iff_not, beq_iff_eq, beq_eq_false_iff_ne, bne_iff_ne, ne_eq, Bool.not_eq_true', Bool.not_eq_false', Bool.and_eq_true, Bool.or_eq_true, bne_eq_false_iff_eq] at c1
     refine den_exit ?_
     refine denX_code ?_
     refine denX_stop ?_
     refine denX_hit ?_
     refine den_blk ?_
     refine den_region TTok ?_
     intro K hK
     simp -implicitDefEqProofs (disch := first | decide | assumption | omega) only [go_sem, RdS.len hdX sl22, RdS.idx hdX sl22, R1.intB hdX (Ext.pres eB), RdS.cells hdX, RdS.len hmX sl23, RdS.idx hmX sl23, RdS.cellB hmX (Ext.pres eB), RdS.cells hmX, RdS.len hdY sl22, RdS.idx hdY sl22, R1.intB hdY (Ext.pres eB), RdS.cells hdY, RdS.len hmY sl23, RdS.idx hmY sl23, RdS.cellB hmY (Ext.pres eB), RdS.cells hmY, RdS.len (OS.rd hom) sl23, RdS.idx (OS.rd hom) sl23, RdS.cellN (OS.rd hom), RdS.cells (OS.rd hom), BoxAt.cell hbO, BoxAt.cell hbY, BoxAt.cell hbX, wrap_id, Int.add_sub_cancel]
     refine hK _ _ ?_
     clear hK K
     refine den_stop ?_
     refine ⟨q + 1, by simp [HasL, puts_at], ⟨eB, by omega, ?_, hch, hOt, hbO, hbY, hbX, rD⟩, by omega⟩
     rw [upL, applyU_app, show (dimP Y (q : Int)).toNat = m by omega]
     exact hom
  ·try simp only [decide_eq_true_eq, decide_eq_false_iff_not, beq_iff_eq, beq_eq_false_iff_ne, bne_iff_ne, ne_eq, Bool.not_eq_true', Bool.not_eq_false', Bool.and_eq_true, Bool.or_eq_true, bne_eq_false_iff_eq] at c0
   refine den_exit ?_
   refine denX_code ?_
   refine denX_stop ?_
   refine denX_hit ?_
   refine den_nil ?_
   simp (disch := decide) only [resP_0, puts_same, puts_ne]
   rw [tU1, show Y.dims.length = q by omega]
   exact ⟨by first | rfl | trivial, hom, hch⟩

set_option maxRecDepth 100000 in
theorem ten2_okT (X Y : Cx) (vdX vmX vdY vmY vD vw : Value) (M : M3) (f : List Nat) (k i j : Nat) (v : Int) (bO bY bX : Nat) (Ot : Heap → Prop) (h0 h : Heap) (hdX : R1 h0 vdX X.dims) (hmX : R3 h0 vmX X.maps) (hdY : R1 h0 vdY Y.dims) (hmY : R3 h0 vmY Y.maps) (hX : IsT X) (hY : IsT Y) (hi : i < (Y.maps.getD k default).length) (hj : j < ((Y.maps.getD k default).getD i default).length) (hv : -7 ≤ v ∧ v ≤ 7) (hom : O3 h vw M f) (hsh : Sh ((tdP X Y).length - 1) (tA X Y) (tB X Y) M) (hin : In3 X.p ((tdP X Y).length - 1) (tA X Y) (tB X Y) M) (hn : f.Nodup) (eB : Ext h0 h) (hge : ∀ b ∈ f, h0.size ≤ b) (hOt : Ot h) (hot : ∀ H H', Chg f H H' → Ot H → Ot H') (hE : ∀ H, Ot H → BoxAt H bO #[.int .i64 X.p, vD, vw] 30 ∧ BoxAt H bY #[.int .i64 Y.p, vdY, vmY] 30 ∧ BoxAt H bX #[.int .i64 X.p, vdX, vmX] 30 ∧ R1 H vD (tdP X Y)) : CallA Try.prog 149 #[.int .i64 ((k : Int) + 1), .int .i64 (i : Int), .int .i64 (j : Int), .int .i64 v, .pointer (some ⟨bX, 0, none⟩), .pointer (some ⟨bO, 0, none⟩), .pointer (some ⟨bY, 0, none⟩)] h fun v' h' => v' = .tuple #[] ∧ O3 h' vw (applyU X.p M (tU2 X Y k i j v)) f ∧ Chg f h h' := by
 obtain ⟨hbO, hbY, hbX, rD⟩ := hE _ hOt
 have hlX := hX.len
 have hlY := hY.len
 have hledX := RdS.le hdX
 have hledY := RdS.le hdY
 have hkm := maps_lt hi
 have hmm := hY.ml
 have hrd := row_dimT hY hi
 have hcd := col_dimT hY hi hj
 have hb1 := dimP_bndT hY ((k + 1 : Nat) : Int)
 have hb2 := dimP_bndT hY (k : Int)
 have hpb := isP_bnd hX.p
 have hlM := OS.lt hom
 refine callA_intro TTok (args := [_, _, _, _, _, _, _]) Try.func149 (by kernel_rfl) rfl 51 rfl (by simp) [] rfl ?_
 simp only [idxs, Nat.reduceAdd]
 refine den_seq ?_
 refine den_region TTok ?_
 intro K hK
 simp -implicitDefEqProofs (disch := first | decide | assumption | omega) only [go_sem, fa30_1, ld22, RdS.len hdX sl22, RdS.idx hdX sl22, R1.intB hdX (Ext.pres eB), RdS.cells hdX, RdS.len hmX sl23, RdS.idx hmX sl23, RdS.cellB hmX (Ext.pres eB), RdS.cells hmX, RdS.len hdY sl22, RdS.idx hdY sl22, R1.intB hdY (Ext.pres eB), RdS.cells hdY, RdS.len hmY sl23, RdS.idx hmY sl23, RdS.cellB hmY (Ext.pres eB), RdS.cells hmY, RdS.len (OS.rd hom) sl23, RdS.idx (OS.rd hom) sl23, RdS.cellN (OS.rd hom), RdS.cells (OS.rd hom), BoxAt.cell hbO, BoxAt.cell hbY, BoxAt.cell hbX, wrap_id, Int.add_sub_cancel]
 try simp -implicitDefEqProofs (disch := first | decide | assumption | omega) only [go_sem, RdS.len hdX sl22, RdS.idx hdX sl22, R1.intB hdX (Ext.pres eB), RdS.cells hdX, RdS.len hmX sl23, RdS.idx hmX sl23, RdS.cellB hmX (Ext.pres eB), RdS.cells hmX, RdS.len hdY sl22, RdS.idx hdY sl22, R1.intB hdY (Ext.pres eB), RdS.cells hdY, RdS.len hmY sl23, RdS.idx hmY sl23, RdS.cellB hmY (Ext.pres eB), RdS.cells hmY, RdS.len (OS.rd hom) sl23, RdS.idx (OS.rd hom) sl23, RdS.cellN (OS.rd hom), RdS.cells (OS.rd hom), BoxAt.cell hbO, BoxAt.cell hbY, BoxAt.cell hbX, wrap_id, Int.add_sub_cancel]
 refine CallA.pure (size1_ok _ _ _ (RdS.pres hdX (Ext.pres eB))) ?_
 try simp -implicitDefEqProofs (disch := first | decide | assumption | omega) only [go_sem, RdS.len hdX sl22, RdS.idx hdX sl22, R1.intB hdX (Ext.pres eB), RdS.cells hdX, RdS.len hmX sl23, RdS.idx hmX sl23, RdS.cellB hmX (Ext.pres eB), RdS.cells hmX, RdS.len hdY sl22, RdS.idx hdY sl22, R1.intB hdY (Ext.pres eB), RdS.cells hdY, RdS.len hmY sl23, RdS.idx hmY sl23, RdS.cellB hmY (Ext.pres eB), RdS.cells hmY, RdS.len (OS.rd hom) sl23, RdS.idx (OS.rd hom) sl23, RdS.cellN (OS.rd hom), RdS.cells (OS.rd hom), BoxAt.cell hbO, BoxAt.cell hbY, BoxAt.cell hbX, wrap_id, Int.add_sub_cancel]
 refine hK _ _ ?_
 clear hK K
 refine den_block ?_
 refine den_sel [16, 0, 1, 2, 3, 4, 5, 6, 15] ?_
 intro env_1
 simp only [go_sem]
 refine den_loopS (σ := Nat) (fun s => [(16, .int .i64 (s : Int))]) (fun s H => Ext h0 H ∧ s ≤ X.dims.length ∧ O3 H vw (applyU X.p M (upL (tF2 X Y k i j v) (fun q => (dimP X q).toNat) s)) f ∧ Chg f h H ∧ Ot H ∧ BoxAt H bO #[.int .i64 X.p, vD, vw] 30 ∧ BoxAt H bY #[.int .i64 Y.p, vdY, vmY] 30 ∧ BoxAt H bX #[.int .i64 X.p, vdX, vmX] 30 ∧ R1 H vD (tdP X Y)) (fun s => X.dims.length - s) 0 ?_ ?_
 ·exact ⟨eB, by omega, by rw [upL, applyU]; exact hom, Chg.refl _ _, hOt, hE _ hOt⟩
 ·rintro q h4 ee3 ⟨eB, hq, hom, hch, hOt, hbO, hbY, hbX, rD⟩
  simp only [List.cons_append, List.nil_append]
  have := Ext.size eB
  refine den_seq ?_
  refine den_region TTok ?_
  intro K hK
  simp -implicitDefEqProofs (disch := first | decide | assumption | omega) only [go_sem, RdS.len hdX sl22, RdS.idx hdX sl22, R1.intB hdX (Ext.pres eB), RdS.cells hdX, RdS.len hmX sl23, RdS.idx hmX sl23, RdS.cellB hmX (Ext.pres eB), RdS.cells hmX, RdS.len hdY sl22, RdS.idx hdY sl22, R1.intB hdY (Ext.pres eB), RdS.cells hdY, RdS.len hmY sl23, RdS.idx hmY sl23, RdS.cellB hmY (Ext.pres eB), RdS.cells hmY, RdS.len (OS.rd hom) sl23, RdS.idx (OS.rd hom) sl23, RdS.cellN (OS.rd hom), RdS.cells (OS.rd hom), BoxAt.cell hbO, BoxAt.cell hbY, BoxAt.cell hbX, wrap_id, Int.add_sub_cancel]
  refine hK _ _ ?_
  clear hK K
  refine den_seq ?_
  refine den_cond rfl (fun c0 => ?_) (fun c0 => ?_)
  ·try simp only [decide_eq_true_eq, decide_eq_false_iff_not, beq_iff_eq, beq_eq_false_iff_ne, bne_iff_ne, ne_eq, Bool.not_eq_true', Bool.not_eq_false', Bool.and_eq_true, Bool.or_eq_true, bne_eq_false_iff_eq] at c0
   refine den_skip ?_
   refine den_seq ?_
   refine den_block ?_
   refine den_seq ?_
   refine den_region TTok ?_
   intro K hK
   simp -implicitDefEqProofs (disch := first | decide | assumption | omega) only [go_sem, RdS.len hdX sl22, RdS.idx hdX sl22, R1.intB hdX (Ext.pres eB), RdS.cells hdX, RdS.len hmX sl23, RdS.idx hmX sl23, RdS.cellB hmX (Ext.pres eB), RdS.cells hmX, RdS.len hdY sl22, RdS.idx hdY sl22, R1.intB hdY (Ext.pres eB), RdS.cells hdY, RdS.len hmY sl23, RdS.idx hmY sl23, RdS.cellB hmY (Ext.pres eB), RdS.cells hmY, RdS.len (OS.rd hom) sl23, RdS.idx (OS.rd hom) sl23, RdS.cellN (OS.rd hom), RdS.cells (OS.rd hom), BoxAt.cell hbO, BoxAt.cell hbY, BoxAt.cell hbX, wrap_id, Int.add_sub_cancel]
   refine hK _ _ ?_
   clear hK K
   refine den_seq ?_
   have hbq := dimP_bndT hX (q : Int)
   refine den_region TTok ?_
   intro K hK
   simp -implicitDefEqProofs (disch := first | decide | assumption | omega) only [go_sem, ld30, RdS.len hdX sl22, RdS.idx hdX sl22, R1.intB hdX (Ext.pres eB), RdS.cells hdX, RdS.len hmX sl23, RdS.idx hmX sl23, RdS.cellB hmX (Ext.pres eB), RdS.cells hmX, RdS.len hdY sl22, RdS.idx hdY sl22, R1.intB hdY (Ext.pres eB), RdS.cells hdY, RdS.len hmY sl23, RdS.idx hmY sl23, RdS.cellB hmY (Ext.pres eB), RdS.cells hmY, RdS.len (OS.rd hom) sl23, RdS.idx (OS.rd hom) sl23, RdS.cellN (OS.rd hom), RdS.cells (OS.rd hom), BoxAt.cell hbO, BoxAt.cell hbY, BoxAt.cell hbX, wrap_id, Int.add_sub_cancel]
   try simp -implicitDefEqProofs (disch := first | decide | assumption | omega) only [go_sem, RdS.len hdX sl22, RdS.idx hdX sl22, R1.intB hdX (Ext.pres eB), RdS.cells hdX, RdS.len hmX sl23, RdS.idx hmX sl23, RdS.cellB hmX (Ext.pres eB), RdS.cells hmX, RdS.len hdY sl22, RdS.idx hdY sl22, R1.intB hdY (Ext.pres eB), RdS.cells hdY, RdS.len hmY sl23, RdS.idx hmY sl23, RdS.cellB hmY (Ext.pres eB), RdS.cells hmY, RdS.len (OS.rd hom) sl23, RdS.idx (OS.rd hom) sl23, RdS.cellN (OS.rd hom), RdS.cells (OS.rd hom), BoxAt.cell hbO, BoxAt.cell hbY, BoxAt.cell hbX, wrap_id, Int.add_sub_cancel]
   refine CallA.mono (iDim_ok _ X _ _ ⟨_, _, rfl, (RdS.pres hdX (Ext.pres eB)), (RdS.pres hmX (Ext.pres eB))⟩) ?_
   intro v_ h3_2
   rintro ⟨rfl, e3_2⟩
   replace hom := OS.ext hom e3_2
   replace hbO := BoxAt.ext hbO e3_2
   replace hbY := BoxAt.ext hbY e3_2
   replace hbX := BoxAt.ext hbX e3_2
   replace rD := RdS.pres rD (Ext.pres e3_2)
   have := Ext.size e3_2
   replace eB := Ext.trans eB e3_2
   try simp -implicitDefEqProofs (disch := first | decide | assumption | omega) only [go_sem, RdS.len hdX sl22, RdS.idx hdX sl22, R1.intB hdX (Ext.pres eB), RdS.cells hdX, RdS.len hmX sl23, RdS.idx hmX sl23, RdS.cellB hmX (Ext.pres eB), RdS.cells hmX, RdS.len hdY sl22, RdS.idx hdY sl22, R1.intB hdY (Ext.pres eB), RdS.cells hdY, RdS.len hmY sl23, RdS.idx hmY sl23, RdS.cellB hmY (Ext.pres eB), RdS.cells hmY, RdS.len (OS.rd hom) sl23, RdS.idx (OS.rd hom) sl23, RdS.cellN (OS.rd hom), RdS.cells (OS.rd hom), BoxAt.cell hbO, BoxAt.cell hbY, BoxAt.cell hbX, wrap_id, Int.add_sub_cancel]
   refine hK _ _ ?_
   clear hK K
   refine den_block ?_
   refine den_sel [22, 0, 1, 2, 3, 4, 5, 6, 11, 15, 16, 21] ?_
   intro env_5
   simp only [go_sem]
   refine den_loopS (σ := Nat) (fun s => [(22, .int .i64 (s : Int))]) (fun s H => Ext h0 H ∧ (s : Int) ≤ dimP X (q : Int) ∧ O3 H vw (applyU X.p (applyU X.p M (upL (tF2 X Y k i j v) (fun q => (dimP X q).toNat) q)) ((List.range s).map (tF2 X Y k i j v q))) f ∧ Chg f h H ∧ Ot H ∧ BoxAt H bO #[.int .i64 X.p, vD, vw] 30 ∧ BoxAt H bY #[.int .i64 Y.p, vdY, vmY] 30 ∧ BoxAt H bX #[.int .i64 X.p, vdX, vmX] 30 ∧ R1 H vD (tdP X Y)) (fun s => (dimP X (q : Int)).toNat - s) 0 ?_ ?_
   ·exact ⟨eB, by omega, hom, hch.trans (Ext.chg e3_2 _), hot _ _ (Ext.chg e3_2 _) hOt, hE _ (hot _ _ (Ext.chg e3_2 _) hOt)⟩
   ·rintro m h8 ee7 ⟨eB, hm, hom, hch, hOt, hbO, hbY, hbX, rD⟩
    simp only [List.cons_append, List.nil_append]
    have := Ext.size eB
    refine den_seq ?_
    refine den_region TTok ?_
    intro K hK
    simp -implicitDefEqProofs (disch := first | decide | assumption | omega) only [go_sem, RdS.len hdX sl22, RdS.idx hdX sl22, R1.intB hdX (Ext.pres eB), RdS.cells hdX, RdS.len hmX sl23, RdS.idx hmX sl23, RdS.cellB hmX (Ext.pres eB), RdS.cells hmX, RdS.len hdY sl22, RdS.idx hdY sl22, R1.intB hdY (Ext.pres eB), RdS.cells hdY, RdS.len hmY sl23, RdS.idx hmY sl23, RdS.cellB hmY (Ext.pres eB), RdS.cells hmY, RdS.len (OS.rd hom) sl23, RdS.idx (OS.rd hom) sl23, RdS.cellN (OS.rd hom), RdS.cells (OS.rd hom), BoxAt.cell hbO, BoxAt.cell hbY, BoxAt.cell hbX, wrap_id, Int.add_sub_cancel]
    refine hK _ _ ?_
    clear hK K
    refine den_seq ?_
    refine den_cond rfl (fun c1 => ?_) (fun c1 => ?_)
    ·try simp only [decide_eq_true_eq, decide_eq_false_iff_not, beq_iff_eq, beq_eq_false_iff_ne, bne_iff_ne, ne_eq, Bool.not_eq_true', Bool.not_eq_false', Bool.and_eq_true, Bool.or_eq_true, bne_eq_false_iff_eq] at c1
     refine den_skip ?_
     refine den_seq ?_
     refine den_block ?_
     refine den_seq ?_
     refine den_region TTok ?_
     intro K hK
     simp -implicitDefEqProofs (disch := first | decide | assumption | omega) only [go_sem, RdS.len hdX sl22, RdS.idx hdX sl22, R1.intB hdX (Ext.pres eB), RdS.cells hdX, RdS.len hmX sl23, RdS.idx hmX sl23, RdS.cellB hmX (Ext.pres eB), RdS.cells hmX, RdS.len hdY sl22, RdS.idx hdY sl22, R1.intB hdY (Ext.pres eB), RdS.cells hdY, RdS.len hmY sl23, RdS.idx hmY sl23, RdS.cellB hmY (Ext.pres eB), RdS.cells hmY, RdS.len (OS.rd hom) sl23, RdS.idx (OS.rd hom) sl23, RdS.cellN (OS.rd hom), RdS.cells (OS.rd hom), BoxAt.cell hbO, BoxAt.cell hbY, BoxAt.cell hbX, wrap_id, Int.add_sub_cancel]
     refine hK _ _ ?_
     clear hK K
     have hS := applyU_sh (p := X.p) (applyU_sh (p := X.p) hsh (t_all2T hX hY (v := v) hi hj q)) (t_row2T hX hY (v := v) hi hj q m (by omega))
     have hI := applyU_in hpb.1 (applyU_sh (p := X.p) hsh (t_all2T hX hY (v := v) hi hj q)) (applyU_in hpb.1 hsh hin (t_all2T hX hY (v := v) hi hj q)) (t_row2T hX hY (v := v) hi hj q m (by omega))
     have hiu := t_in2T hX hY (v := v) hi hj (q := q) (m := m) (by omega)
     have hin1 : q + k < (tdP X Y).length - 1 := hiu.1
     have hin2 : (placeP X Y (q : Int) (m : Int) ((k : Int) + 1) (i : Int)).toNat < tA X Y (q + k) := hiu.2.1
     have hin3 : (placeP X Y (q : Int) (m : Int) (k : Int) (j : Int)).toNat < tB X Y (q + k) := hiu.2.2
     have hr1 := hS.rows _ hin1
     have hr2 := hS.cols _ _ hin1 hin2
     have hi3 := hI _ _ _ hin1 hin2 hin3
     have hsl := hS.len
     have hp0 : 0 ≤ placeP X Y (q : Int) (m : Int) ((k : Int) + 1) (i : Int) := (pl_ltT hX hY (show (m : Int) < dimP X (q : Int) by omega) hrd).1
     have hp1 : 0 ≤ placeP X Y (q : Int) (m : Int) (k : Int) (j : Int) := (pl_ltT hX hY (show (m : Int) < dimP X (q : Int) by omega) hcd).1
     have ek : (((q : Int) + ((k : Int) + 1)) - 1).toNat = q + k := by omega
     have hsv := sg_v (q := q) hv
     have htm := tmod_in (p := 2) (x := (q : Int)) (by decide)
     refine den_draw TTok mixed [23] [(0, true), (1, true), (2, true), (3, true), (4, true), (5, true), (6, true), (7, true), (8, true), (9, true), (11, true), (12, true), (13, true), (14, true), (15, true), (16, true), (17, true), (19, true), (21, true), (10, false), (18, false), (20, false), (22, true), (23, false)] (by kernel_rfl) ?_
     intro K hK
     simp -implicitDefEqProofs (disch := first | decide | assumption | omega) only [go_sem, ld30, RdS.len hdX sl22, RdS.idx hdX sl22, R1.intB hdX (Ext.pres eB), RdS.cells hdX, RdS.len hmX sl23, RdS.idx hmX sl23, RdS.cellB hmX (Ext.pres eB), RdS.cells hmX, RdS.len hdY sl22, RdS.idx hdY sl22, R1.intB hdY (Ext.pres eB), RdS.cells hdY, RdS.len hmY sl23, RdS.idx hmY sl23, RdS.cellB hmY (Ext.pres eB), RdS.cells hmY, RdS.len (OS.rd hom) sl23, RdS.idx (OS.rd hom) sl23, RdS.cellN (OS.rd hom), RdS.cells (OS.rd hom), BoxAt.cell hbO, BoxAt.cell hbY, BoxAt.cell hbX, wrap_id, Int.add_sub_cancel]
     try simp -implicitDefEqProofs (disch := first | decide | assumption | omega) only [go_sem, RdS.len hdX sl22, RdS.idx hdX sl22, R1.intB hdX (Ext.pres eB), RdS.cells hdX, RdS.len hmX sl23, RdS.idx hmX sl23, RdS.cellB hmX (Ext.pres eB), RdS.cells hmX, RdS.len hdY sl22, RdS.idx hdY sl22, R1.intB hdY (Ext.pres eB), RdS.cells hdY, RdS.len hmY sl23, RdS.idx hmY sl23, RdS.cellB hmY (Ext.pres eB), RdS.cells hmY, RdS.len (OS.rd hom) sl23, RdS.idx (OS.rd hom) sl23, RdS.cellN (OS.rd hom), RdS.cells (OS.rd hom), BoxAt.cell hbO, BoxAt.cell hbY, BoxAt.cell hbX, wrap_id, Int.add_sub_cancel]
     refine CallA.mono (iPlace_okT _ _ X Y _ _ _ _ _ ⟨_, _, rfl, (RdS.pres hdX (Ext.pres eB)), (RdS.pres hmX (Ext.pres eB))⟩ ⟨_, _, rfl, (RdS.pres hdY (Ext.pres eB)), (RdS.pres hmY (Ext.pres eB))⟩ hX hY (by omega) (by omega) (by omega) (by omega)) ?_
     intro v_ h6_10
     rintro ⟨rfl, e6_10⟩
     replace hom := OS.ext hom e6_10
     replace hbO := BoxAt.ext hbO e6_10
     replace hbY := BoxAt.ext hbY e6_10
     replace hbX := BoxAt.ext hbX e6_10
     replace rD := RdS.pres rD (Ext.pres e6_10)
     have := Ext.size e6_10
     replace eB := Ext.trans eB e6_10
     try simp (disch := decide) only [outv_some, outv_none, put_puts]
     refine plK_pres (Ext.pres e6_10) ?_
     try simp -implicitDefEqProofs (disch := first | decide | assumption | omega) only [go_sem, RdS.len hdX sl22, RdS.idx hdX sl22, R1.intB hdX (Ext.pres eB), RdS.cells hdX, RdS.len hmX sl23, RdS.idx hmX sl23, RdS.cellB hmX (Ext.pres eB), RdS.cells hmX, RdS.len hdY sl22, RdS.idx hdY sl22, R1.intB hdY (Ext.pres eB), RdS.cells hdY, RdS.len hmY sl23, RdS.idx hmY sl23, RdS.cellB hmY (Ext.pres eB), RdS.cells hmY, RdS.len (OS.rd hom) sl23, RdS.idx (OS.rd hom) sl23, RdS.cellN (OS.rd hom), RdS.cells (OS.rd hom), BoxAt.cell hbO, BoxAt.cell hbY, BoxAt.cell hbX, wrap_id, Int.add_sub_cancel]
     try simp -implicitDefEqProofs (disch := first | decide | assumption | omega) only [go_sem, RdS.len hdX sl22, RdS.idx hdX sl22, R1.intB hdX (Ext.pres eB), RdS.cells hdX, RdS.len hmX sl23, RdS.idx hmX sl23, RdS.cellB hmX (Ext.pres eB), RdS.cells hmX, RdS.len hdY sl22, RdS.idx hdY sl22, R1.intB hdY (Ext.pres eB), RdS.cells hdY, RdS.len hmY sl23, RdS.idx hmY sl23, RdS.cellB hmY (Ext.pres eB), RdS.cells hmY, RdS.len (OS.rd hom) sl23, RdS.idx (OS.rd hom) sl23, RdS.cellN (OS.rd hom), RdS.cells (OS.rd hom), BoxAt.cell hbO, BoxAt.cell hbY, BoxAt.cell hbX, wrap_id, Int.add_sub_cancel]
     refine CallA.mono (iPlace_okT _ _ X Y _ _ _ _ _ ⟨_, _, rfl, (RdS.pres hdX (Ext.pres eB)), (RdS.pres hmX (Ext.pres eB))⟩ ⟨_, _, rfl, (RdS.pres hdY (Ext.pres eB)), (RdS.pres hmY (Ext.pres eB))⟩ hX hY (by omega) (by omega) (by omega) (by omega)) ?_
     intro v_ h6_18
     rintro ⟨rfl, e6_18⟩
     replace hom := OS.ext hom e6_18
     replace hbO := BoxAt.ext hbO e6_18
     replace hbY := BoxAt.ext hbY e6_18
     replace hbX := BoxAt.ext hbX e6_18
     replace rD := RdS.pres rD (Ext.pres e6_18)
     have := Ext.size e6_18
     replace eB := Ext.trans eB e6_18
     try simp (disch := decide) only [outv_some, outv_none, put_puts]
     refine plK_pres (Ext.pres e6_18) ?_
     try simp -implicitDefEqProofs (disch := first | decide | assumption | omega) only [go_sem, RdS.len hdX sl22, RdS.idx hdX sl22, R1.intB hdX (Ext.pres eB), RdS.cells hdX, RdS.len hmX sl23, RdS.idx hmX sl23, RdS.cellB hmX (Ext.pres eB), RdS.cells hmX, RdS.len hdY sl22, RdS.idx hdY sl22, R1.intB hdY (Ext.pres eB), RdS.cells hdY, RdS.len hmY sl23, RdS.idx hmY sl23, RdS.cellB hmY (Ext.pres eB), RdS.cells hmY, RdS.len (OS.rd hom) sl23, RdS.idx (OS.rd hom) sl23, RdS.cellN (OS.rd hom), RdS.cells (OS.rd hom), BoxAt.cell hbO, BoxAt.cell hbY, BoxAt.cell hbX, wrap_id, Int.add_sub_cancel]
     try simp -implicitDefEqProofs (disch := first | decide | assumption | omega) only [go_sem, RdS.len hdX sl22, RdS.idx hdX sl22, R1.intB hdX (Ext.pres eB), RdS.cells hdX, RdS.len hmX sl23, RdS.idx hmX sl23, RdS.cellB hmX (Ext.pres eB), RdS.cells hmX, RdS.len hdY sl22, RdS.idx hdY sl22, R1.intB hdY (Ext.pres eB), RdS.cells hdY, RdS.len hmY sl23, RdS.idx hmY sl23, RdS.cellB hmY (Ext.pres eB), RdS.cells hmY, RdS.len (OS.rd hom) sl23, RdS.idx (OS.rd hom) sl23, RdS.cellN (OS.rd hom), RdS.cells (OS.rd hom), BoxAt.cell hbO, BoxAt.cell hbY, BoxAt.cell hbX, wrap_id, Int.add_sub_cancel]
     refine CallA.mono (iSign_ok  (q : Int) _  (by omega)) ?_
     intro v_ h6_20
     rintro ⟨rfl, e6_20⟩
     replace hom := OS.ext hom e6_20
     replace hbO := BoxAt.ext hbO e6_20
     replace hbY := BoxAt.ext hbY e6_20
     replace hbX := BoxAt.ext hbX e6_20
     replace rD := RdS.pres rD (Ext.pres e6_20)
     have := Ext.size e6_20
     replace eB := Ext.trans eB e6_20
     try simp (disch := decide) only [outv_some, outv_none, put_puts]
     refine plK_pres (Ext.pres e6_20) ?_
     try simp -implicitDefEqProofs (disch := first | decide | assumption | omega) only [go_sem, RdS.len hdX sl22, RdS.idx hdX sl22, R1.intB hdX (Ext.pres eB), RdS.cells hdX, RdS.len hmX sl23, RdS.idx hmX sl23, RdS.cellB hmX (Ext.pres eB), RdS.cells hmX, RdS.len hdY sl22, RdS.idx hdY sl22, R1.intB hdY (Ext.pres eB), RdS.cells hdY, RdS.len hmY sl23, RdS.idx hmY sl23, RdS.cellB hmY (Ext.pres eB), RdS.cells hmY, RdS.len (OS.rd hom) sl23, RdS.idx (OS.rd hom) sl23, RdS.cellN (OS.rd hom), RdS.cells (OS.rd hom), BoxAt.cell hbO, BoxAt.cell hbY, BoxAt.cell hbX, wrap_id, Int.add_sub_cancel]
     try simp -implicitDefEqProofs (disch := first | decide | assumption | omega) only [go_sem, RdS.len hdX sl22, RdS.idx hdX sl22, R1.intB hdX (Ext.pres eB), RdS.cells hdX, RdS.len hmX sl23, RdS.idx hmX sl23, RdS.cellB hmX (Ext.pres eB), RdS.cells hmX, RdS.len hdY sl22, RdS.idx hdY sl22, R1.intB hdY (Ext.pres eB), RdS.cells hdY, RdS.len hmY sl23, RdS.idx hmY sl23, RdS.cellB hmY (Ext.pres eB), RdS.cells hmY, RdS.len (OS.rd hom) sl23, RdS.idx (OS.rd hom) sl23, RdS.cellN (OS.rd hom), RdS.cells (OS.rd hom), BoxAt.cell hbO, BoxAt.cell hbY, BoxAt.cell hbX, wrap_id, Int.add_sub_cancel]
     refine CallA.mono (addAt_ok X.p _ _ (tdP X Y) _ f _ _ _ _ _ rD hom hn hpb (by omega) ⟨by omega, by rw [ek, hr1]; omega⟩ ⟨by omega, by rw [ek, hr2]; omega⟩ (by rw [ek]; exact hi3) (by first | exact hsv | omega)) ?_
     intro v_ h6_23
     rintro ⟨rfl, hom2, cad⟩
     have hch2 := (hch.trans (Ext.chg ((e6_10.trans e6_18).trans e6_20) _)).trans cad
     have hOt2 := hot _ _ ((Ext.chg ((e6_10.trans e6_18).trans e6_20) f).trans cad) hOt
     replace eB := Ext.then eB cad hge
     rw [ek] at hom2
     try simp (disch := decide) only [outv_some, outv_none, put_puts]
     refine plK_last (by decide) ?_
     try simp -implicitDefEqProofs (disch := first | decide | assumption | omega) only [go_sem, RdS.len hdX sl22, RdS.idx hdX sl22, R1.intB hdX (Ext.pres eB), RdS.cells hdX, RdS.len hmX sl23, RdS.idx hmX sl23, RdS.cellB hmX (Ext.pres eB), RdS.cells hmX, RdS.len hdY sl22, RdS.idx hdY sl22, R1.intB hdY (Ext.pres eB), RdS.cells hdY, RdS.len hmY sl23, RdS.idx hmY sl23, RdS.cellB hmY (Ext.pres eB), RdS.cells hmY, RdS.len (OS.rd hom) sl23, RdS.idx (OS.rd hom) sl23, RdS.cellN (OS.rd hom), RdS.cells (OS.rd hom), BoxAt.cell hbO, BoxAt.cell hbY, BoxAt.cell hbX, wrap_id, Int.add_sub_cancel]
     refine hK _ _ ?_
     clear hK K
     refine den_blk ?_
     refine den_region TTok ?_
     intro K hK
     simp -implicitDefEqProofs (disch := first | decide | assumption | omega) only [go_sem, RdS.len hdX sl22, RdS.idx hdX sl22, R1.intB hdX (Ext.pres eB), RdS.cells hdX, RdS.len hmX sl23, RdS.idx hmX sl23, RdS.cellB hmX (Ext.pres eB), RdS.cells hmX, RdS.len hdY sl22, RdS.idx hdY sl22, R1.intB hdY (Ext.pres eB), RdS.cells hdY, RdS.len hmY sl23, RdS.idx hmY sl23, RdS.cellB hmY (Ext.pres eB), RdS.cells hmY, RdS.len (OS.rd hom) sl23, RdS.idx (OS.rd hom) sl23, RdS.cellN (OS.rd hom), RdS.cells (OS.rd hom), BoxAt.cell hbO, BoxAt.cell hbY, BoxAt.cell hbX, wrap_id, Int.add_sub_cancel]
     refine hK _ _ ?_
     clear hK K
     refine den_stop ?_
     refine ⟨m + 1, by simp [HasL, puts_at], ⟨eB, by omega, ?_, hch2, hOt2, hE _ hOt2⟩, by omega⟩
     rw [applyU_step]
     exact hom2
    ·try simp only [decide_eq_true_eq, decide_eq_false_iff_not, beq_iff_eq, beq_eq_false_iff_ne, bne_iff_ne, ne_eq, Bool.not_eq_true', Bool.not_eq_false', Bool.and_eq_true, Bool.or_eq_true, bne_eq_false_iff_eq] at c1
     refine den_exit ?_
     refine denX_code ?_
     refine denX_stop ?_
     refine denX_hit ?_
     refine den_blk ?_
     refine den_region TTok ?_
     intro K hK
     simp -implicitDefEqProofs (disch := first | decide | assumption | omega) only [go_sem, RdS.len hdX sl22, RdS.idx hdX sl22, R1.intB hdX (Ext.pres eB), RdS.cells hdX, RdS.len hmX sl23, RdS.idx hmX sl23, RdS.cellB hmX (Ext.pres eB), RdS.cells hmX, RdS.len hdY sl22, RdS.idx hdY sl22, R1.intB hdY (Ext.pres eB), RdS.cells hdY, RdS.len hmY sl23, RdS.idx hmY sl23, RdS.cellB hmY (Ext.pres eB), RdS.cells hmY, RdS.len (OS.rd hom) sl23, RdS.idx (OS.rd hom) sl23, RdS.cellN (OS.rd hom), RdS.cells (OS.rd hom), BoxAt.cell hbO, BoxAt.cell hbY, BoxAt.cell hbX, wrap_id, Int.add_sub_cancel]
     refine hK _ _ ?_
     clear hK K
     refine den_stop ?_
     refine ⟨q + 1, by simp [HasL, puts_at], ⟨eB, by omega, ?_, hch, hOt, hbO, hbY, hbX, rD⟩, by omega⟩
     rw [upL, applyU_app, show (dimP X (q : Int)).toNat = m by omega]
     exact hom
  ·try simp only [decide_eq_true_eq, decide_eq_false_iff_not, beq_iff_eq, beq_eq_false_iff_ne, bne_iff_ne, ne_eq, Bool.not_eq_true', Bool.not_eq_false', Bool.and_eq_true, Bool.or_eq_true, bne_eq_false_iff_eq] at c0
   refine den_exit ?_
   refine denX_code ?_
   refine denX_stop ?_
   refine denX_hit ?_
   refine den_nil ?_
   simp (disch := decide) only [resP_0, puts_same, puts_ne]
   rw [tU2, show X.dims.length = q by omega]
   exact ⟨by first | rfl | trivial, hom, hch⟩
open Go
theorem fit_allT {X Y : Cx} (hX : IsT X) (hY : IsT Y) (h : fitP (tdP X Y) = true) : (tdP X Y).all (fun x => in3 x 0 8) = true := List.all_eq_true.2 fun x hx => in3_iff.2 ⟨by
 obtain ⟨q, _, rfl⟩ := List.mem_map.1 hx
 exact (sumP_bndT hX hY (q : Int) (q + 1)).1, by
 rw [fitP, Bool.and_eq_true] at h
 exact of_decide_eq_true (List.all_eq_true.1 h.1 x hx)⟩
theorem tRow_intT {X Y : Cx} (hX : IsT X) (hY : IsT Y) (hpp : X.p = Y.p) {n i a b : Nat} (hn : 1 ≤ n) (hi : i ≤ n) (ha : (a : Int) < dimP X i) (hb : (b : Int) < dimP Y ((n : Int) - i)) :
  tRow X Y (i : Int).toNat (a : Int).toNat ((n : Int) - (i : Int)).toNat (b : Int).toNat ((tdP X Y).getD ((n : Int) - 1).toNat 0).toNat = ((tT X Y).getD (n - 1) default).getD (placeP X Y i a ((n : Int) - i) b).toNat default ∧ (placeP X Y i a ((n : Int) - i) b).toNat < ((tT X Y).getD (n - 1) default).length ∧ 0 ≤ placeP X Y i a ((n : Int) - i) b := by
 have ej : (n : Int) - i = ((n - i : Nat) : Int) := by omega
 rw [ej] at hb ⊢
 have n1 := pl_ltT hX hY ha hb
 have hql : n - 1 < (tdP X Y).length - 1 := by
  have := dim_lt ha; have := dim_lt hb
  rw [tdP_len]; omega
 have hr := (tT_shT hX hY).rows (n - 1) hql
 refine ⟨?_, ?_, n1.1⟩
 ·rw [Int.toNat_natCast, Int.toNat_natCast, Int.toNat_natCast, Int.toNat_natCast, show ((n : Int) - 1).toNat = n - 1 by omega]
  exact tRow_eqT hX hY hpp (by omega) ha hb
 ·rw [hr]
  show _ < ((tdP X Y).getD (n - 1 + 1) 0).toNat
  rw [show n - 1 + 1 = i + (n - i) by omega]; omega
theorem tT_rowsT {X Y : Cx} (hX : IsT X) (hY : IsT Y) {n : Nat} (h1 : 1 ≤ n) (h2 : n < (tdP X Y).length) : (((tT X Y).getD (n - 1) default).length : Int) = sumP X Y n (n + 1) := by
 have hr := (tT_shT hX hY).rows (n - 1) (by omega)
 have hb := tdP_bndT hX hY (n := n) (by rw [tdP_len] at h2; exact h2)
 rw [hr, ← tdP_get X Y (by rw [tdP_len] at h2; exact h2)]
 show ((((tdP X Y).getD (n - 1 + 1) 0).toNat : Nat) : Int) = _
 rw [show n - 1 + 1 = n by omega]; omega
end Go.Proofs.Ytffggocjkhcgeaa
