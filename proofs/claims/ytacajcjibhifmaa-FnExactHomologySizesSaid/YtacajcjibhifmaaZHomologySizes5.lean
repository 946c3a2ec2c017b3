/-
  What the statement FnExactHomologySizes uses of the walks, part 5.
  Conditions: each theorem's own.
-/
import Derived.Test.YtacajcjibhifmaaG16
import Derived.Test.YtacajcjibhifmaaG17
import Derived.Test.YtacajcjibhifmaaG14
import Derived.Test.YtacajcjibhifmaaG13
import Derived.Test.YtacajcjibhifmaaG15
import Derived.Test.YtacajcjibhifmaaG18
import Derived.Test.YtacajcjibhifmaaG19
import Derived.Test.YtacajcjibhifmaaZHomologySizes1
import Derived.Test.YtacajcjibhifmaaZHomologySizes2
import Derived.Test.YtacajcjibhifmaaZHomologySizes3
import Derived.Test.YtacajcjibhifmaaZHomologySizes4
set_option linter.unusedVariables false
set_option linter.unusedSimpArgs false
namespace Go.Proofs.Ytacajcjibhifmaa
open Go
theorem fcD_at {X : Dg} {T k : Nat} (hk : k < T) : (fcD X T).getD k 0 = ((mbP X (k : Int)).length : Int) := getD_map_range (α := Int) (fun n : Nat => ((mbP X (n : Int)).length : Int)) hk
theorem fcM_at {X : Dg} {T k : Nat} (hk : k < T) : (fcM X T).getD k default = fcR X ((k : Int) + 1) := getD_map_range (fun m : Nat => fcR X ((m : Int) + 1)) hk
theorem fcR_len (X : Dg) (n : Int) : (fcR X n).length = (mbP X n).length := by rw [fcR, List.length_map]
theorem fcR_get {X : Dg} {n : Int} {q : Nat} (hq : q < (mbP X n).length) : (fcR X n).getD q default = vcP X (n - 1) (X.dif ((mbP X n).getD q 0).toNat) := by
 rw [fcR, List.getD_eq_getElem?_getD, List.getElem?_map, List.getElem?_eq_getElem hq, List.getD_eq_getElem?_getD, List.getElem?_eq_getElem hq]; rfl
section
variable {X : Dg} (hB : DgB X) (hf : IsFm X)
include hB hf
theorem vc_bnd {n : Int} {a : Nat} (ha : a < 8) : Bnd X.p (vcP X n (X.dif a)) := fun x hx => by
 obtain ⟨z, hz, rfl⟩ := List.mem_map.1 hx
 obtain ⟨k, hk, rfl⟩ := List.getElem_of_mem hz
 have h1 := mb_at hk
 rw [List.getD_eq_getElem?_getD, List.getElem?_eq_getElem hk, Option.getD_some] at h1
 have hs := hf.s
 exact ⟨(hB.dif a _).1, ((hf.row a ha).el _ (by omega)).1⟩
theorem fcR_tbl (n : Int) : Tbl X.p ((mbP X (n - 1)).length : Int) (fcR X n) := fun r hr => by
 obtain ⟨z, hz, rfl⟩ := List.mem_map.1 hr
 obtain ⟨k, hk, rfl⟩ := List.getElem_of_mem hz
 have h1 := mb_at hk
 rw [List.getD_eq_getElem?_getD, List.getElem?_eq_getElem hk, Option.getD_some] at h1
 have hs := hf.s
 exact ⟨by rw [vc_len], vc_bnd hB hf (by omega)⟩
omit hB in
/-- What a row sends on is nothing. -/
theorem fc_sq {n : Int} {i j : Nat} (hd : IsDg X) (hi : i < (mbP X n).length) (hj : j < (mbP X (n - 2)).length) : Cg X.p (sm (mbP X (n - 1)).length fun q => (vcP X (n - 1) (X.dif ((mbP X n).getD i 0).toNat)).getD q 0 * g2 (fcR X (n - 1)) q j) 0 := by
 have hs := hf.s
 have hp := isP_two hf.p
 have a1 := mb_at hi
 have a2 := mb_at hj
 have e : sm (mbP X (n - 1)).length (fun q => (vcP X (n - 1) (X.dif ((mbP X n).getD i 0).toNat)).getD q 0 * g2 (fcR X (n - 1)) q j) = sm (mbP X (n - 1)).length fun q => (fun z => X.dif ((mbP X n).getD i 0).toNat z * X.dif z ((mbP X (n - 2)).getD j 0).toNat) ((mbP X (n - 1)).getD q 0).toNat := by
  refine sm_eq fun q hq => ?_
  have hj' : j < (mbP X (n - 1 - 1)).length := by rw [show n - 1 - 1 = n - 2 by omega]; exact hj
  rw [vc_get hq, g2, fcR_get hq, vc_get hj', show n - 1 - 1 = n - 2 by omega]
 rw [e]
 unfold mbP
 refine Cg.trans (Cg.of_eq (sm_mb (X := X) (n := n - 1) (fun z => X.dif ((mbT X n X.s.toNat).getD i 0).toNat z * X.dif z ((mbT X (n - 2) X.s.toNat).getD j 0).toNat) X.s.toNat)) ?_
 have e2 : sm X.s.toNat (fun z => if X.deg z = n - 1 then X.dif ((mbT X n X.s.toNat).getD i 0).toNat z * X.dif z ((mbT X (n - 2) X.s.toNat).getD j 0).toNat else 0) = sm 8 fun z => X.dif ((mbT X n X.s.toNat).getD i 0).toNat z * X.dif z ((mbT X (n - 2) X.s.toNat).getD j 0).toNat := by
  obtain ⟨m, hm⟩ : ∃ m, 8 = X.s.toNat + m := ⟨8 - X.s.toNat, by omega⟩
  rw [hm, sm_more m (fun z h1 h2 => by rw [((hf.row _ (show ((mbT X n X.s.toNat).getD i 0).toNat < 8 by have := a1; unfold mbP at this; omega)).el z (by omega)).2 (by omega), Int.zero_mul])]
  refine sm_eq fun z hz => ?_
  by_cases h : X.deg z = n - 1
  ·rw [if_pos h]
  ·rw [if_neg h]
   by_cases h0 : X.dif ((mbT X n X.s.toNat).getD i 0).toNat z = 0
   ·rw [h0, Int.zero_mul]
   ·have a1' := a1
    unfold mbP at a1'
    have := (hf.dl ((mbT X n X.s.toNat).getD i 0).toNat (by omega) (by omega) z (by omega) h0).1
    omega
 rw [e2]
 have a1' := a1
 have a2' := a2
 unfold mbP at a1' a2'
 have h3 := eqE_z.1 (hd.un ((mbT X n X.s.toNat).getD i 0).toNat (by omega)).2.2 ((mbT X (n - 2) X.s.toNat).getD j 0).toNat (by omega)
 rw [dfI_val (by omega) (by omega)] at h3
 exact show Cg X.p _ _ by unfold Cg; rw [h3, Int.zero_emod]
end
end Go.Proofs.Ytacajcjibhifmaa

namespace Go.Proofs.Ytacajcjibhifmaa
open Go
/-- The complex of an algebra is one. -/
theorem fc_isC {X : Dg} (hB : DgB X) (hd : IsDg X) : IsC (fcP X).c := by
 have hf := hd.fm
 have hs := hf.s
 have htop := (hf.row (X.s - 1).toNat (by omega)).deg
 have hT : (fcT X : Int) = X.deg (X.s - 1).toNat + 1 := by unfold fcT; omega
 have hdl : (fcP X).c.dims.length = fcT X := fcD_len _ _
 have hml : (fcP X).c.maps.length = fcT X - 1 := fcM_len _ _
 refine ⟨hf.p, by omega, by omega, ?_, ?_, ?_⟩
 ·rw [List.all_eq_true]
  intro x hx
  obtain ⟨m, _, rfl⟩ := List.mem_map.1 hx
  have := mbP_len hs (m : Int)
  exact in3_iff.2 ⟨by omega, by omega⟩
 ·intro k hk
  have hk' : k < fcT X - 1 := by omega
  have e1 : (fcP X).c.maps.getD k default = fcR X ((k : Int) + 1) := fcM_at hk'
  have e2 : (fcP X).c.dims.getD (((k : Int) + 1).toNat) 0 = ((mbP X ((k : Int) + 1)).length : Int) := by
   have := fcD_at (X := X) (T := fcT X) (k := k + 1) (by omega)
   rw [show (((k : Int) + 1).toNat) = k + 1 by omega]
   rw [show (((k + 1 : Nat) : Int)) = (k : Int) + 1 by omega] at this
   exact this
  have e3 : (fcP X).c.dims.getD k 0 = ((mbP X (k : Int)).length : Int) := fcD_at (X := X) (T := fcT X) (k := k) (by omega)
  unfold tbAt
  rw [e1, e2, e3]
  refine tableP_iff.2 ⟨by rw [fcR_len], ?_⟩
  have := fcR_tbl hB hf ((k : Int) + 1)
  rw [show (k : Int) + 1 - 1 = (k : Int) by omega] at this
  exact this
 ·intro k hk h0 i hi
  have hk' : k < fcT X - 1 := by omega
  have hp := isP_two hf.p
  have e1 : (fcP X).c.maps.getD k default = fcR X ((k : Int) + 1) := fcM_at hk'
  have e4 : (fcP X).c.maps.getD ((k : Int) - 1).toNat default = fcR X (k : Int) := by
   have := fcM_at (X := X) (T := fcT X - 1) (k := k - 1) (by omega)
   rw [show (((k - 1 : Nat) : Int)) + 1 = (k : Int) by omega] at this
   rw [show ((k : Int) - 1).toNat = k - 1 by omega]; exact this
  have e5 : (fcP X).c.dims.getD ((k : Int) - 1).toNat 0 = ((mbP X ((k : Int) - 1)).length : Int) := by
   have := fcD_at (X := X) (T := fcT X) (k := k - 1) (by omega)
   rw [show (((k - 1 : Nat) : Int)) = (k : Int) - 1 by omega] at this
   rw [show ((k : Int) - 1).toNat = k - 1 by omega]; exact this
  rw [e1, fcR_len] at hi
  have hat := mb_at hi
  unfold sqv
  rw [e1, e4, e5, fcR_get hi, show (k : Int) + 1 - 1 = (k : Int) by omega, Int.toNat_natCast]
  have hv := vc_bnd hB hf (n := (k : Int)) (a := ((mbP X ((k : Int) + 1)).getD i 0).toNat) (by omega)
  have hl := vc_len X (k : Int) (X.dif ((mbP X ((k : Int) + 1)).getD i 0).toNat)
  have ht := fcR_tbl hB hf (k : Int)
  have htt : Tbl X.p ((List.replicate (mbP X ((k : Int) - 1)).length (0 : Int)).length : Int) (fcR X (k : Int)) := by rw [List.length_replicate]; exact ht
  have hz : Bnd X.p (List.replicate (mbP X ((k : Int) - 1)).length (0 : Int)) := Bnd.zeros (by omega) _
  have hlen := accP_len (p := X.p) (v := vcP X (k : Int) (X.dif ((mbP X ((k : Int) + 1)).getD i 0).toNat)) htt
  have hbn := accP_bnd (p := X.p) (by omega) hv htt hz
  rw [leadP_all (zeros_all fun j hj => ?_)]
  ·decide
  ·rw [show (fcP X).c.p = X.p from rfl] at hj ⊢
   rw [hlen, List.length_replicate] at hj
   have hc := accP_cg (p := X.p) (by omega) (by rw [hl, fcR_len]; omega) hv htt hz j
   have hq := fc_sq hf (n := (k : Int) + 1) (i := i) (j := j) hd hi (by rw [show (k : Int) + 1 - 2 = (k : Int) - 1 by omega]; exact hj)
   rw [show (k : Int) + 1 - 1 = (k : Int) by omega, ← hl] at hq
   have hr : (List.replicate (mbP X ((k : Int) - 1)).length (0 : Int)).getD j 0 = 0 := by rw [List.getD_eq_getElem?_getD, List.getElem?_replicate]; split <;> rfl
   rw [hr, Int.zero_add] at hc
   have h3 := hc.trans hq
   have hb := hbn.at (k := j) (by rw [hlen, List.length_replicate]; exact hj)
   unfold Cg at h3
   rw [Int.emod_eq_of_lt hb.1 hb.2, Int.zero_emod] at h3
   exact h3
theorem fd61_0 (a b c e : Value) : fieldV TT 61 (.agg #[a, b, c, e]) 0 = some (.agg #[a, b, c]) := by kernel_rfl
noncomputable def hsR (X : Dg) : List Int × Int := if dgB X = true then (homL (fcP X).c (fcP X).c.dims.length, 0) else ([], 1)
theorem hsR_y {X : Dg} (h : dgB X = true) : hsR X = (homL (fcP X).c (fcP X).c.dims.length, 0) := if_pos h
theorem hsR_n {X : Dg} (h : ¬ dgB X = true) : hsR X = ([], 1) := if_neg h
theorem hsR_c {X : Dg} (hB : DgB X) (h : dgB X = true) : hsR X = homR (fcP X).c := by
 rw [hsR_y h, homR, if_pos (isC_t.2 (fc_isC hB (dgB_t.1 h)))]
theorem cnt_hs {X : Dg} (hB : DgB X) : 0 ≤ cnt1 (hsR X).1 ∧ cnt1 (hsR X).1 ≤ 6 := by
 by_cases h : dgB X = true
 ·rw [hsR_c hB h]; exact cnt_hom _
 ·rw [hsR_n h]; exact ⟨cnt1_nn _, by show cnt1 [] ≤ 6; decide⟩

set_option maxRecDepth 100000 in
set_option maxHeartbeats 4000000 in
theorem iHS_ok (X : Dg) (h : Heap)  (hB : DgB X) : CallA Try.prog 34 #[.agg (dgA X)] h fun v' h' => ∃ w0 f0, v' = .tuple #[w0, .int .i64 ((hsR X).2)] ∧ O1 h' w0 ((hsR X).1) f0 ∧ Fresh h.size f0 ∧ Ext h h' := by
 refine callA_intro TTok (args := [_]) Try.func34 (by kernel_rfl) rfl 13 rfl (by simp) [.tmp 2, .tmp 3] rfl ?_
 simp only [idxs, Nat.reduceAdd]
 refine den_seq ?_
 refine den_region TTok ?_
 intro K hK
 simp -implicitDefEqProofs (disch := first | decide | assumption | omega) only [go_sem, wrap_id, sbs, Int.toNat_zero, bF0]
 refine op_box (cs := dgA X) rfl ?_
 intro h0_0 e0_0 hb0_0 z0_0
 have := Ext.size e0_0
 have eB := e0_0
 have hfhb0_0 : Fresh h.size [h.size] := Fresh.one _
 have hlhb0_0 := one_lt (show h.size < h0_0.size by omega)
 try simp -implicitDefEqProofs (disch := first | decide | assumption | omega) only [go_sem, wrap_id, sbs, Int.toNat_zero, bF0]
 refine hK _ _ ?_
 clear hK K
 refine den_seq ?_
 refine den_seq ?_
 refine den_region TTok ?_
 intro K hK
 simp -implicitDefEqProofs (disch := first | decide | assumption | omega) only [go_sem, BoxAt.dgs hb0_0, wrap_id, sbs, Int.toNat_zero, bF0]
 try simp -implicitDefEqProofs (disch := first | decide | assumption | omega) only [go_sem, wrap_id, sbs, Int.toNat_zero, bF0]
 refine CallA.mono (iDg_ok  X _  hB) ?_
 intro v_ h1_1
 rintro ⟨rfl, e1_1⟩
 replace hb0_0 := BoxAt.ext hb0_0 e1_1
 have := Ext.size e1_1
 replace eB := Ext.trans eB e1_1
 try simp -implicitDefEqProofs (disch := first | decide | assumption | omega) only [go_sem, wrap_id, sbs, Int.toNat_zero, bF0]
 refine hK _ _ ?_
 clear hK K
 refine den_cond rfl (fun c0 => ?_) (fun c0 => ?_)
 ·try simp only [ddA, Bool.not_eq_true, Bool.not_eq_false] at c0
  refine den_seq ?_
  refine den_region TTok ?_
  intro K hK
  simp -implicitDefEqProofs (disch := first | decide | assumption | omega) only [go_sem, wrap_id, sbs, Int.toNat_zero, bF0]
  refine hK _ _ ?_
  clear hK K
  refine den_ret ?_
  simp (disch := decide) only [resP_2, puts_same, puts_ne]
  have hz := hsR_n (X := X) (by rw [c0]; decide)
  rw [hz]
  exact ⟨.slice none 0 0, [], rfl, OS.nil, Fresh.nil _, eB⟩
 ·try simp only [ddA, Bool.not_eq_true, Bool.not_eq_false] at c0
  have hfm := (dgB_t.1 c0).fm
  have hz := hsR_c hB c0
  refine den_skip ?_
  refine den_seq ?_
  refine den_region TTok ?_
  intro K hK
  simp -implicitDefEqProofs (disch := first | decide | assumption | omega) only [go_sem, BoxAt.dgs hb0_0, wrap_id, sbs, Int.toNat_zero, bF0]
  try simp -implicitDefEqProofs (disch := first | decide | assumption | omega) only [go_sem, wrap_id, sbs, Int.toNat_zero, bF0]
  refine CallA.mono (iFc_ok  X _  hB hfm) ?_
  intro v_ h3_1
  rintro ⟨vd3_1_0, vm3_1_0, vv3_1_0, fd3_1_0, fm3_1_0, fv3_1_0, rfl, hod3_1_0, hom3_1_0, hov3_1_0, hf3_1_0, e3_1⟩
  replace hb0_0 := BoxAt.ext hb0_0 e3_1
  have := Ext.size e3_1
  replace eB := Ext.trans eB e3_1
  have hfd3_1_0 := hf3_1_0.left
  have hf3_1_0r0 := hf3_1_0.right
  have hfm3_1_0 := hf3_1_0r0.left
  have hfv3_1_0 := hf3_1_0r0.right
  have hlhod3_1_0 := OS.lt hod3_1_0
  have hlhom3_1_0 := OS.lt hom3_1_0
  have hlhov3_1_0 := OS.lt hov3_1_0
  have ap1 : Apart fd3_1_0 fm3_1_0 := Apart.lft (apart_nodup hf3_1_0)
  have ap2 : Apart fd3_1_0 fv3_1_0 := Apart.rgt (apart_nodup hf3_1_0)
  have ap3 : Apart fm3_1_0 fv3_1_0 := apart_nodup hf3_1_0r0
  try simp -implicitDefEqProofs (disch := first | decide | assumption | omega) only [go_sem, fd61_0, R1.an (OS.rd hod3_1_0) sl55, RdS.an (OS.rd hom3_1_0) sl56, RdS.an (OS.rd hov3_1_0) sl59, wrap_id, sbs, Int.toNat_zero, bF0]
  try simp -implicitDefEqProofs (disch := first | decide | assumption | omega) only [go_sem, wrap_id, sbs, Int.toNat_zero, bF0]
  refine CallA.mono (iHN_ok _ ((fcP X).c) _ ⟨_, _, rfl, (OS.rd hod3_1_0), (OS.rd hom3_1_0)⟩ ) ?_
  intro v_ h3_3
  rintro ⟨vw3_3_0, fw3_3_0, rfl, how3_3_0, hfw3_3_0, e3_3⟩
  replace hod3_1_0 := OS.ext hod3_1_0 e3_3
  replace hom3_1_0 := OS.ext hom3_1_0 e3_3
  replace hov3_1_0 := OS.ext hov3_1_0 e3_3
  replace hb0_0 := BoxAt.ext hb0_0 e3_3
  have := Ext.size e3_3
  replace eB := Ext.trans eB e3_3
  have hlhow3_3_0 := OS.lt how3_3_0
  try simp -implicitDefEqProofs (disch := first | decide | assumption | omega) only [go_sem, R1.an (OS.rd how3_3_0) sl55, wrap_id, sbs, Int.toNat_zero, bF0]
  refine hK _ _ ?_
  clear hK K
  refine den_ret ?_
  simp (disch := decide) only [resP_2, puts_same, puts_ne]
  rw [hz]
  exact ⟨_, _, rfl, how3_3_0, hfw3_3_0.mono (by omega), eB⟩

set_option maxRecDepth 100000 in
set_option maxHeartbeats 4000000 in
theorem sHS_ok (X : Dg) (h : Heap)  (hB : DgB X) : CallA Try.prog 33 #[.agg (dgA X)] h fun v' h' => ∃ w0 f0, v' = .tuple #[w0, .int .i64 ((hsR X).2)] ∧ O1 h' w0 ((hsR X).1) f0 ∧ Fresh h.size f0 ∧ Ext h h' := by
 refine callA_intro TTok (args := [_]) Try.func33 (by kernel_rfl) rfl 31 rfl (by simp) [.tmp 2, .tmp 3] rfl ?_
 simp only [idxs, Nat.reduceAdd]
 refine den_seq ?_
 refine den_region TTok ?_
 intro K hK
 simp -implicitDefEqProofs (disch := first | decide | assumption | omega) only [go_sem, wrap_id, sbs, Int.toNat_zero, bF0]
 refine op_box (cs := dgA X) rfl ?_
 intro h0_0 e0_0 hb0_0 z0_0
 have := Ext.size e0_0
 have eB := e0_0
 have hfhb0_0 : Fresh h.size [h.size] := Fresh.one _
 have hlhb0_0 := one_lt (show h.size < h0_0.size by omega)
 try simp -implicitDefEqProofs (disch := first | decide | assumption | omega) only [go_sem, wrap_id, sbs, Int.toNat_zero, bF0]
 refine hK _ _ ?_
 clear hK K
 refine den_seq ?_
 refine den_seq ?_
 refine den_region TTok ?_
 intro K hK
 simp -implicitDefEqProofs (disch := first | decide | assumption | omega) only [go_sem, BoxAt.dgs hb0_0, wrap_id, sbs, Int.toNat_zero, bF0]
 try simp -implicitDefEqProofs (disch := first | decide | assumption | omega) only [go_sem, wrap_id, sbs, Int.toNat_zero, bF0]
 refine CallA.mono (sCd_ok X _ hB) ?_
 intro v_ h1_1
 rintro ⟨rfl, e1_1⟩
 replace hb0_0 := BoxAt.ext hb0_0 e1_1
 have := Ext.size e1_1
 replace eB := Ext.trans eB e1_1
 try simp -implicitDefEqProofs (disch := first | decide | assumption | omega) only [go_sem, wrap_id, sbs, Int.toNat_zero, bF0]
 refine hK _ _ ?_
 clear hK K
 refine den_seq ?_
 refine den_region TTok ?_
 intro K hK
 simp -implicitDefEqProofs (disch := first | decide | assumption | omega) only [go_sem, wrap_id, sbs, Int.toNat_zero, bF0]
 refine hK _ _ ?_
 clear hK K
 refine den_cond rfl (fun c0 => ?_) (fun c0 => ?_)
 ·try simp only [ddA, Bool.not_eq_true, Bool.not_eq_false] at c0
  refine den_seq ?_
  refine den_region TTok ?_
  intro K hK
  simp -implicitDefEqProofs (disch := first | decide | assumption | omega) only [go_sem, wrap_id, sbs, Int.toNat_zero, bF0]
  refine hK _ _ ?_
  clear hK K
  refine den_ret ?_
  simp (disch := decide) only [resP_2, puts_same, puts_ne]
  have hq : ¬ dgB X = true := fun hq => by rw [if_pos hq] at c0; exact c0 rfl
  have hz := hsR_n hq
  rw [if_neg hq]
  rw [hz]
  exact ⟨.slice none 0 0, [], rfl, OS.nil, Fresh.nil _, eB⟩
 ·try simp only [ddA, Bool.not_eq_true, Bool.not_eq_false] at c0
  have hdb : dgB X = true := by
   by_cases hq : dgB X = true
   ·exact hq
   ·rw [if_neg hq] at c0; exact absurd c0 (by decide)
  have hfm := (dgB_t.1 hdb).fm
  have hCx := fc_isC hB (dgB_t.1 hdb)
  have hlX := hCx.len
  refine den_skip ?_
  refine den_seq ?_
  refine den_region TTok ?_
  intro K hK
  simp -implicitDefEqProofs (disch := first | decide | assumption | omega) only [go_sem, BoxAt.dgs hb0_0, wrap_id, sbs, Int.toNat_zero, bF0]
  try simp -implicitDefEqProofs (disch := first | decide | assumption | omega) only [go_sem, wrap_id, sbs, Int.toNat_zero, bF0]
  refine CallA.mono (sFc_ok  X _  hB hfm) ?_
  intro v_ h4_1
  rintro ⟨vd4_1_0, vm4_1_0, vv4_1_0, fd4_1_0, fm4_1_0, fv4_1_0, rfl, hod4_1_0, hom4_1_0, hov4_1_0, hf4_1_0, e4_1⟩
  replace hb0_0 := BoxAt.ext hb0_0 e4_1
  have := Ext.size e4_1
  replace eB := Ext.trans eB e4_1
  have hfd4_1_0 := hf4_1_0.left
  have hf4_1_0r0 := hf4_1_0.right
  have hfm4_1_0 := hf4_1_0r0.left
  have hfv4_1_0 := hf4_1_0r0.right
  have hlhod4_1_0 := OS.lt hod4_1_0
  have hlhom4_1_0 := OS.lt hom4_1_0
  have hlhov4_1_0 := OS.lt hov4_1_0
  have ap1 : Apart fd4_1_0 fm4_1_0 := Apart.lft (apart_nodup hf4_1_0)
  have ap2 : Apart fd4_1_0 fv4_1_0 := Apart.rgt (apart_nodup hf4_1_0)
  have ap3 : Apart fm4_1_0 fv4_1_0 := apart_nodup hf4_1_0r0
  try simp -implicitDefEqProofs (disch := first | decide | assumption | omega) only [go_sem, fd61_0, R1.an (OS.rd hod4_1_0) sl55, RdS.an (OS.rd hom4_1_0) sl56, RdS.an (OS.rd hov4_1_0) sl59, wrap_id, sbs, Int.toNat_zero, bF0]
  refine op_bs0 sz55 OI ?_
  intro v4_3 h4_3 ho4_3 e4_3
  replace hod4_1_0 := OS.ext hod4_1_0 e4_3
  replace hom4_1_0 := OS.ext hom4_1_0 e4_3
  replace hov4_1_0 := OS.ext hov4_1_0 e4_3
  replace hb0_0 := BoxAt.ext hb0_0 e4_3
  have := Ext.size e4_3
  replace eB := Ext.trans eB e4_3
  have hfho4_3 : Fresh h4_1.size [h4_1.size] := Fresh.one _
  have hlho4_3 := OS.lt ho4_3
  try simp -implicitDefEqProofs (disch := first | decide | assumption | omega) only [go_sem, wrap_id, sbs, Int.toNat_zero, bF0]
  refine op_alloc (cs := #[.int .i64 0, .slice none 0 0, .slice none 0 0]) (by kernel_rfl) ?_
  intro h4_4 e4_4 hb4_4 z4_4
  replace hod4_1_0 := OS.ext hod4_1_0 e4_4
  replace hom4_1_0 := OS.ext hom4_1_0 e4_4
  replace hov4_1_0 := OS.ext hov4_1_0 e4_4
  replace ho4_3 := OS.ext ho4_3 e4_4
  replace hb0_0 := BoxAt.ext hb0_0 e4_4
  have := Ext.size e4_4
  replace eB := Ext.trans eB e4_4
  have hfhb4_4 : Fresh h4_3.size [h4_3.size] := Fresh.one _
  have hlhb4_4 := one_lt (show h4_3.size < h4_4.size by omega)
  try simp -implicitDefEqProofs (disch := first | decide | assumption | omega) only [go_sem, wrap_id, sbs, Int.toNat_zero, bF0]
  refine op_storeB (cs' := #[.int .i64 (((fcP X).c.p)), vd4_1_0, vm4_1_0]) st58 hb4_4 rfl rfl rfl (by simp) (allOne_mem (l := [.int .i64 (((fcP X).c.p)), vd4_1_0, vm4_1_0]) ⟨rfl, (OS.one hod4_1_0).1, (OS.one hom4_1_0).1, trivial⟩) rfl ?_
  intro h4_5 hb4_4 c4_5
  replace hod4_1_0 := OS.chg hod4_1_0 c4_5 (apart_lt hlhod4_1_0 hfhb4_4 (by omega))
  replace hom4_1_0 := OS.chg hom4_1_0 c4_5 (apart_lt hlhom4_1_0 hfhb4_4 (by omega))
  replace hov4_1_0 := OS.chg hov4_1_0 c4_5 (apart_lt hlhov4_1_0 hfhb4_4 (by omega))
  replace ho4_3 := OS.chg ho4_3 c4_5 (apart_lt hlho4_3 hfhb4_4 (by omega))
  replace hb0_0 := BoxAt.chgA hb0_0 c4_5 (apart_lt hlhb0_0 hfhb4_4 (by omega))
  have := c4_5.size
  replace eB := Ext.then eB c4_5 (ge_of hfhb4_4 (by omega))
  try simp -implicitDefEqProofs (disch := first | decide | assumption | omega) only [go_sem, R1.an (OS.rd ho4_3) sl55, wrap_id, sbs, Int.toNat_zero, bF0]
  refine hK _ _ ?_
  clear hK K
  refine den_seq ?_
  refine den_seq ?_
  refine den_region TTok ?_
  intro K hK
  simp -implicitDefEqProofs (disch := first | decide | assumption | omega) only [go_sem, wrap_id, sbs, Int.toNat_zero, bF0]
  refine hK _ _ ?_
  clear hK K
  refine den_block ?_
  refine den_sel [6, 7, 5] ?_
  intro env_4
  simp only [go_sem]
  refine den_loopS (σ := Nat × Value × List Nat) (fun st_ => [(6, st_.2.1), (7, .int .i64 (st_.1 : Int))]) (fun st_ H => (st_.1 ≤ (fcP X).c.dims.length) ∧ (O1 H st_.2.1 (homL (fcP X).c st_.1) st_.2.2) ∧ (Fresh (h4_1.size) st_.2.2) ∧ (Sub [h4_1.size] h4_5.size st_.2.2) ∧ (Chg [h4_1.size] h4_5 H)) (fun st_ => (fcP X).c.dims.length - st_.1) (0, v4_3, [h4_1.size]) ?_ ?_
  ·exact ⟨by first | (simp; done) | (dsimp only; omega) | (simp; omega), by exact ho4_3, hfho4_3, Sub.refl, Chg.refl _ _⟩
  ·rintro ⟨k, vhO, fphO⟩ h7 ee6 ⟨hi0, hO, hfhO, sbhO, cL5⟩
   dsimp only at hi0 hO hfhO sbhO cL5
   replace hod4_1_0 := OS.chg hod4_1_0 cL5 (apart_lt hlhod4_1_0 hfho4_3 (by omega))
   replace hom4_1_0 := OS.chg hom4_1_0 cL5 (apart_lt hlhom4_1_0 hfho4_3 (by omega))
   replace hb4_4 := BoxAt.chgA hb4_4 cL5 (apart_gt hfhb4_4 hlho4_3 (by omega))
   have := cL5.size
   replace eB := Ext.then eB cL5 (ge_of hfho4_3 (by omega))
   have ap8 : Apart [h4_3.size] fphO := Apart.sub_ hlhb4_4 (by omega) (apart_gt hfhb4_4 hlho4_3 (by omega)) sbhO
   have hlhO := OS.lt hO
   simp only [List.cons_append, List.nil_append]
   have hhl := homL_len (fcP X).c k
   refine den_seq ?_
   refine den_seq ?_
   refine den_region TTok ?_
   intro K hK
   simp -implicitDefEqProofs (disch := first | decide | assumption | omega) only [go_sem, fa58_1, ld55, R1.an (OS.rd hod4_1_0) sl55, RdS.an (OS.rd hom4_1_0) sl56, BoxAt.cell hb4_4, wrap_id, sbs, Int.toNat_zero, bF0]
   refine hK _ _ ?_
   clear hK K
   refine den_cond rfl (fun c1 => ?_) (fun c1 => ?_)
   ·try simp only [ddA, Bool.not_eq_true, Bool.not_eq_false] at c1
    refine den_skip ?_
    refine den_seq ?_
    refine den_block ?_
    refine den_region TTok ?_
    intro K hK
    simp -implicitDefEqProofs (disch := first | decide | assumption | omega) only [go_sem, ld58, R1.an (OS.rd hod4_1_0) sl55, RdS.an (OS.rd hom4_1_0) sl56, R1.an (OS.rd hO) sl55, BoxAt.cell hb4_4, wrap_id, sbs, Int.toNat_zero, bF0]
    try simp -implicitDefEqProofs (disch := first | decide | assumption | omega) only [go_sem, wrap_id, sbs, Int.toNat_zero, bF0]
    refine CallA.mono (sHom_ok _ ((fcP X).c) (k : Int) _ ⟨_, _, rfl, (OS.rd hod4_1_0), (OS.rd hom4_1_0)⟩ hCx (by omega)) ?_
    intro v_ h8_3
    rintro ⟨rfl, e8_3⟩
    replace hod4_1_0 := OS.ext hod4_1_0 e8_3
    replace hom4_1_0 := OS.ext hom4_1_0 e8_3
    replace hO := OS.ext hO e8_3
    replace hb4_4 := BoxAt.ext hb4_4 e8_3
    have := Ext.size e8_3
    replace eB := Ext.trans eB e8_3
    replace cL5 := Chg.stepE cL5 e8_3
    try simp -implicitDefEqProofs (disch := first | decide | assumption | omega) only [go_sem, wrap_id, sbs, Int.toNat_zero, bF0]
    refine op_bs1 sz55 rfl rfl ?_
    try simp -implicitDefEqProofs (disch := first | decide | assumption | omega) only [go_sem, wrap_id, sbs, Int.toNat_zero, bF0]
    refine op_append1 sz55 hO hfhO.nodup ⟨rfl, rfl⟩ List.nodup_nil (Apart.nil _) (by first | omega | (simp; omega)) rfl rfl ?_
    intro v8_5 h8_5 fp8_5 ho8_5 hn8_5 hs8_5 c8_5
    have hsz8_5 := c8_5.size
    have hfho8_5 : Fresh h4_1.size fp8_5 := Fresh.appd hfhO (Fresh.nil h8_3.size) (by omega) (by omega) hn8_5 hs8_5
    have sb9 : Sub [h4_1.size] h4_5.size fp8_5 := Sub.grow sbhO Sub.nil (by omega) hs8_5
    replace hod4_1_0 := OS.chg hod4_1_0 c8_5 (apart_lt hlhod4_1_0 hfhO (by omega))
    replace hom4_1_0 := OS.chg hom4_1_0 c8_5 (apart_lt hlhom4_1_0 hfhO (by omega))
    replace hb4_4 := BoxAt.chgA hb4_4 c8_5 ap8
    have := c8_5.size
    replace eB := Ext.then eB c8_5 (ge_of hfhO (by omega))
    replace cL5 := Chg.step cL5 c8_5 sbhO
    have ap10 : Apart [h4_3.size] fp8_5 := Apart.grow hlhb4_4 (by omega) ap8 (Apart.nil _) hs8_5
    have hlho8_5 := OS.lt ho8_5
    try simp -implicitDefEqProofs (disch := first | decide | assumption | omega) only [go_sem, R1.an (OS.rd ho8_5) sl55, wrap_id, sbs, Int.toNat_zero, bF0]
    refine hK _ _ ?_
    clear hK K
    refine den_blk ?_
    refine den_region TTok ?_
    intro K hK
    simp -implicitDefEqProofs (disch := first | decide | assumption | omega) only [go_sem, wrap_id, sbs, Int.toNat_zero, bF0]
    refine hK _ _ ?_
    clear hK K
    refine den_stop ?_
    rw [homL_step] at ho8_5
    exact ⟨(k + 1, v8_5, fp8_5), by simp [HasL, puts_at], ⟨by first | omega | (dsimp only; omega), ho8_5, hfho8_5, sb9, cL5⟩, by first | omega | (dsimp only; omega)⟩
   ·try simp only [ddA, Bool.not_eq_true, Bool.not_eq_false] at c1
    refine den_exit ?_
    refine denX_code ?_
    refine denX_stop ?_
    refine denX_hit ?_
    refine den_seq ?_
    refine den_region TTok ?_
    intro K hK
    simp -implicitDefEqProofs (disch := first | decide | assumption | omega) only [go_sem, R1.an (OS.rd hO) sl55, wrap_id, sbs, Int.toNat_zero, bF0]
    refine hK _ _ ?_
    clear hK K
    refine den_ret ?_
    simp (disch := decide) only [resP_2, puts_same, puts_ne]
    rw [hsR_y hdb, show (fcP X).c.dims.length = k by omega]
    exact ⟨_, _, rfl, hO, hfhO.mono (by omega), eB⟩
end Go.Proofs.Ytacajcjibhifmaa

namespace Go.Proofs.Ytacajcjibhifmaa
open Go
def in8A (u : Nat → Int) : Array Value := Array.ofFn (n := 8) fun i => .int .i64 (u i)
def el8A (f : Nat → Nat → Int) : Array Value := Array.ofFn (n := 64) fun i => .int .u8 (f (i / 8) (i % 8))
def el88A (f : Nat → Nat → Nat → Int) : Array Value := Array.ofFn (n := 512) fun i => .int .u8 (f (i / 64) (i / 8 % 8) (i % 8))
def z64 : Nat → Nat → Int := fun _ => z8
def z512 : Nat → Nat → Nat → Int := fun _ => z64
def dgZ : Dg := ⟨0, 0, z8, z8, z64, z512⟩
def updF {α : Type} (f : Nat → α) (i : Nat) (x : α) : Nat → α := fun k => if k = i then x else f k
theorem in8_at {u : Nat → Int} {i : Nat} (h : i < 8) : (in8A u)[i]? = some (.int .i64 (u i)) := by rw [in8A, Array.getElem?_ofFn, dif_pos h]
theorem el8_at {f : Nat → Nat → Int} {o : Nat} (h : o < 64) : (el8A f)[o]? = some (.int .u8 (f (o / 8) (o % 8))) := by rw [el8A, Array.getElem?_ofFn, dif_pos h]
theorem el88_at {f : Nat → Nat → Nat → Int} {o : Nat} (h : o < 512) : (el88A f)[o]? = some (.int .u8 (f (o / 64) (o / 8 % 8) (o % 8))) := by rw [el88A, Array.getElem?_ofFn, dif_pos h]
theorem ofFn_one {n : Nat} {f : Fin n → Value} (h : ∀ i, (f i).oneCell' = true) : ∀ v ∈ (Array.ofFn f).toList, v.oneCell' = true := by
 intro v hv
 rw [Array.mem_toList_iff, Array.mem_ofFn] at hv
 obtain ⟨i, rfl⟩ := hv
 exact h i
theorem splice_at {l vs : List Value} {o m : Nat} (hm : vs.length = m) (hl : o + m ≤ l.length) (q : Nat) : (l.take o ++ vs ++ l.drop (o + m))[q]? = if q < o then l[q]? else if q < o + m then vs[q - o]? else l[q]? := by
 have h1 : (l.take o).length = o := by rw [List.length_take]; omega
 by_cases h : q < o
 ·rw [if_pos h, List.append_assoc, List.getElem?_append_left (by omega), List.getElem?_take, if_pos h]
 ·rw [if_neg h]
  by_cases h2 : q < o + m
  ·rw [if_pos h2, List.append_assoc, List.getElem?_append_right (by omega), h1, List.getElem?_append_left (by omega)]
  ·rw [if_neg h2, List.getElem?_append_right (by rw [List.length_append]; omega), List.getElem?_drop, List.length_append, h1, hm]
   congr 1; omega
/-- What a store leaves, cell by cell. -/
theorem splice_eq {cs vs cs' : Array Value} {o m : Nat} (hm : vs.size = m) (hl : o + m ≤ cs.size) (h : ∀ q : Nat, (if q < o then cs[q]? else if q < o + m then vs[q - o]? else cs[q]?) = cs'[q]?) : (cs.toList.take o ++ vs.toList ++ cs.toList.drop (o + m)).toArray = cs' := by
 refine Array.ext_getElem? fun q => ?_
 rw [List.getElem?_toArray, splice_at (by simpa using hm) (by simpa using hl), ← h q]
 simp only [Array.getElem?_toList]
section
variable {h : Heap} {b : Nat} {cs : Array Value} {t tb : TypeId}
theorem ldArr {n : Nat} (hl : ∀ (h : Heap) (a : Addr), loadV TT h t a = (hcells h a 0 n).map fun cs => .agg cs.toArray) (hb : BoxAt h b cs tb) (f : Nat → Value) (o : Nat) (hf : ∀ q, q < n → cs[o + q]? = some (f q)) : loadV TT h t ⟨b, o, none⟩ = some (.agg (Array.ofFn (n := n) fun q => f q)) := by
 rw [hl, hcells_arr hb f o n 0 (fun q _ h2 => hf q (by omega)), Option.map_some]
 refine congrArg (fun z => some (Value.agg z)) (Array.ext_getElem? fun q => ?_)
 rw [Array.getElem?_ofFn, List.getElem?_toArray, List.getElem?_map]
 by_cases hq : q < n
 ·rw [dif_pos hq, List.getElem?_range' hq, Option.map_some]
  simp
 ·rw [dif_neg hq, List.getElem?_eq_none (by rw [List.length_range']; omega)]; rfl
end
/-! An algebra as an argument. -/
theorem get_1 {l : List Value} {i : Nat} {v : Value} (h : (l.drop i).take 1 = [v]) : l[i]? = some v := by
 have : ((l.drop i).take 1)[0]? = some v := by rw [h]; rfl
 rw [List.getElem?_take, if_pos (by omega), List.getElem?_drop] at this
 exact this
theorem get_sub {l : List Value} {a m i : Nat} {v : Value} (h : ((l.drop a).take m)[i]? = some v) : l[a + i]? = some v := by
 rw [List.getElem?_take] at h
 split at h
 ·rwa [List.getElem?_drop] at h
 ·cases h
theorem pick8 {α : Type} (d : α) {Q : Nat → α → Prop} (h : ∀ i, i < 8 → ∃ a, Q i a) : ∃ f : Nat → α, (∀ i, i < 8 → Q i (f i)) ∧ ∀ i, ¬ i < 8 → f i = d :=
 ⟨fun i => if hi : i < 8 then Classical.choose (h i hi) else d, fun i hi => by dsimp only; rw [dif_pos hi]; exact Classical.choose_spec (h i hi), fun i hi => by dsimp only; rw [dif_neg hi]⟩
theorem wf_u8 {n : Int} (h : (Lit.int .u8 n).wf = true) : 0 ≤ n ∧ n ≤ 255 := by
 simp [Lit.wf, IntKind.min, IntKind.max, IntKind.signed, IntKind.bits] at h
 omega
theorem wf_i64 {n : Int} (h : (Lit.int .i64 n).wf = true) : -9223372036854775808 ≤ n ∧ n ≤ 9223372036854775807 := by
 simp [Lit.wf, IntKind.min, IntKind.max, IntKind.signed, IntKind.bits] at h
 omega
section
variable {H : Type} {enc : TypeId × Value → H} {w : World} {base : Nat} {spare : Nat → Bool} {held : Bool} {fuel : Nat} {cs : List Value} {x : DataW H × List MemPlace}
theorem op_in8 (h : DataW.trod enc Try.prog w base spare held fuel 22 cs = some x) : ∃ u : Nat → Int, (∀ i, i < 8 → cs[i]? = some (.int .i64 (u i))) ∧ ∀ i, -9223372036854775808 ≤ u i ∧ u i ≤ 9223372036854775807 := by
 obtain ⟨xs, m, _, _, _, hl, hel⟩ := DataW.trod_array Try.underlying22 h
 have hc : Try.prog.cellsOf 2 = 1 := by kernel_rfl
 obtain ⟨u, hu, hu2⟩ := pick8 (0 : Int) (Q := fun i a => cs[i]? = some (.int .i64 a) ∧ -9223372036854775808 ≤ a ∧ a ≤ 9223372036854775807) (fun i hi => by
  have h1 := hel i hi
  rw [hc, Nat.mul_one, List.getElem?_eq_getElem (by omega)] at h1
  obtain ⟨n, e, _, hw⟩ := DataW.trod_int Try.underlying2 h1
  exact ⟨n, get_1 e, wf_i64 hw⟩)
 refine ⟨u, fun i hi => (hu i hi).1, fun i => ?_⟩
 by_cases hi : i < 8
 ·exact (hu i hi).2
 ·rw [hu2 i hi]; omega
theorem op_el (h : DataW.trod enc Try.prog w base spare held fuel 23 cs = some x) : ∃ u : Nat → Int, (∀ i, i < 8 → cs[i]? = some (.int .u8 (u i))) ∧ By u := by
 obtain ⟨xs, m, _, _, _, hl, hel⟩ := DataW.trod_array Try.underlying23 h
 have hc : Try.prog.cellsOf 5 = 1 := by kernel_rfl
 obtain ⟨u, hu, hu2⟩ := pick8 (0 : Int) (Q := fun i a => cs[i]? = some (.int .u8 a) ∧ 0 ≤ a ∧ a ≤ 255) (fun i hi => by
  have h1 := hel i hi
  rw [hc, Nat.mul_one, List.getElem?_eq_getElem (by omega)] at h1
  obtain ⟨n, e, _, hw⟩ := DataW.trod_int Try.underlying5 h1
  exact ⟨n, get_1 e, wf_u8 hw⟩)
 refine ⟨u, fun i hi => (hu i hi).1, fun i => ?_⟩
 by_cases hi : i < 8
 ·exact (hu i hi).2
 ·rw [hu2 i hi]; omega
theorem op_el8 (h : DataW.trod enc Try.prog w base spare held fuel 24 cs = some x) : ∃ f : Nat → Nat → Int, (∀ i, i < 8 → ∀ k, k < 8 → cs[i * 8 + k]? = some (.int .u8 (f i k))) ∧ ∀ i, By (f i) := by
 obtain ⟨xs, m, _, _, _, hl, hel⟩ := DataW.trod_array Try.underlying24 h
 have hc : Try.prog.cellsOf 23 = 8 := by kernel_rfl
 obtain ⟨f, hu, hu2⟩ := pick8 z8 (Q := fun i a => (∀ k, k < 8 → cs[i * 8 + k]? = some (.int .u8 (a k))) ∧ By a) (fun i hi => by
  have h1 := hel i hi
  rw [hc, List.getElem?_eq_getElem (by omega)] at h1
  obtain ⟨u, e, hb⟩ := op_el h1
  exact ⟨u, fun k hk => get_sub (e k hk), hb⟩)
 refine ⟨f, fun i hi => (hu i hi).1, fun i => ?_⟩
 by_cases hi : i < 8
 ·exact (hu i hi).2
 ·rw [hu2 i hi]; exact By.z8
theorem op_el88 (h : DataW.trod enc Try.prog w base spare held fuel 25 cs = some x) : ∃ f : Nat → Nat → Nat → Int, (∀ i, i < 8 → ∀ j, j < 8 → ∀ k, k < 8 → cs[i * 64 + (j * 8 + k)]? = some (.int .u8 (f i j k))) ∧ ∀ i j, By (f i j) := by
 obtain ⟨xs, m, _, _, _, hl, hel⟩ := DataW.trod_array Try.underlying25 h
 have hc : Try.prog.cellsOf 24 = 64 := by kernel_rfl
 obtain ⟨f, hu, hu2⟩ := pick8 z64 (Q := fun i a => (∀ j, j < 8 → ∀ k, k < 8 → cs[i * 64 + (j * 8 + k)]? = some (.int .u8 (a j k))) ∧ ∀ j, By (a j)) (fun i hi => by
  have h1 := hel i hi
  rw [hc, List.getElem?_eq_getElem (by omega)] at h1
  obtain ⟨u, e, hb⟩ := op_el8 h1
  exact ⟨u, fun j hj k hk => get_sub (e j hj k hk), hb⟩)
 refine ⟨f, fun i hi => (hu i hi).1, fun i => ?_⟩
 by_cases hi : i < 8
 ·exact (hu i hi).2
 ·rw [hu2 i hi]; exact fun _ => By.z8
end
set_option maxRecDepth 100000 in
theorem open_dga {H : Type} {enc : TypeId × Value → H} {w : World} {base : Nat} {spare : Nat → Bool} {held : Bool} {r : Reach} {b0 : Nat} {v : Value} {d : DataW H} {p : List MemPlace}
  (hv : Value.okWide Try.prog w r b0 27 v) (h : DataW.Trod enc Try.prog w base spare held 27 v d p) : ∃ X, v = .agg (dgA X) ∧ DgB X := by
 obtain ⟨cs, rfl, hsz⟩ := Go.WideShapes.okWide_struct Try.underlying27 hv
 have hc : Try.prog.cellsOf 27 = 594 := by kernel_rfl
 rw [hc] at hsz
 obtain ⟨fuel, hf⟩ := h
 obtain ⟨xs, n, _, _, _, hl, hg⟩ := DataW.trod_struct Try.underlying27 hf
 have k1 : Try.prog.cellsOf 2 = 1 := by kernel_rfl
 have k2 : Try.prog.cellsOf 22 = 8 := by kernel_rfl
 have k3 : Try.prog.cellsOf 24 = 64 := by kernel_rfl
 have k4 : Try.prog.cellsOf 25 = 512 := by kernel_rfl
 have hn : ∀ q, q < 6 → ∃ y, xs[q]? = some y := fun q hq => ⟨_, List.getElem?_eq_getElem (by rw [hl]; exact hq)⟩
 obtain ⟨y0, e0⟩ := hn 0 (by decide)
 obtain ⟨y1, e1⟩ := hn 1 (by decide)
 obtain ⟨y2, e2⟩ := hn 2 (by decide)
 obtain ⟨y3, e3⟩ := hn 3 (by decide)
 obtain ⟨y4, e4⟩ := hn 4 (by decide)
 obtain ⟨y5, e5⟩ := hn 5 (by decide)
 have g0 := hg 0 _ rfl
 have g1 := hg 1 _ rfl
 have g2_ := hg 2 _ rfl
 have g3 := hg 3 _ rfl
 have g4 := hg 4 _ rfl
 have g5 := hg 5 _ rfl
 simp only [k1, k2, k3, k4, Value.cells, e0, e1, e2, e3, e4, e5] at g0 g1 g2_ g3 g4 g5
 obtain ⟨a0, q0, _, _⟩ := DataW.trod_int Try.underlying2 g0
 obtain ⟨a1, q1, _, _⟩ := DataW.trod_int Try.underlying2 g1
 obtain ⟨a2, q2, b2⟩ := op_in8 g2_
 obtain ⟨a3, q3, b3⟩ := op_in8 g3
 obtain ⟨a4, q4, b4⟩ := op_el8 g4
 obtain ⟨a5, q5, b5⟩ := op_el88 g5
 refine ⟨⟨a0, a1, a2, a3, a4, a5⟩, congrArg Value.agg (Array.ext_getElem? fun o => ?_), ⟨b4, b5, b2, b3⟩⟩
 by_cases ho : o < 594
 ·rw [dgA_at ho, ← Array.getElem?_toList]
  unfold dgF
  split
  ·rename_i h; subst h; exact get_1 q0
  ·split
   ·rename_i h; subst h; exact get_1 q1
   ·split
    ·have this : cs.toList[2 + (o - 2)]? = some (.int .i64 (a2 (o - 2))) := get_sub (q2 (o - 2) (by omega)); rwa [show 2 + (o - 2) = o by omega] at this
    ·split
     ·have this : cs.toList[10 + (o - 10)]? = some (.int .i64 (a3 (o - 10))) := get_sub (q3 (o - 10) (by omega)); rwa [show 10 + (o - 10) = o by omega] at this
     ·split
      ·have this : cs.toList[18 + ((o - 18) / 8 * 8 + (o - 18) % 8)]? = some (.int .u8 (a4 ((o - 18) / 8) ((o - 18) % 8))) := get_sub (q4 ((o - 18) / 8) (by omega) ((o - 18) % 8) (by omega)); rwa [show 18 + ((o - 18) / 8 * 8 + (o - 18) % 8) = o by omega] at this
      ·have this : cs.toList[82 + ((o - 82) / 64 * 64 + ((o - 82) / 8 % 8 * 8 + (o - 82) % 8))]? = some (.int .u8 (a5 ((o - 82) / 64) ((o - 82) / 8 % 8) ((o - 82) % 8))) := get_sub (q5 ((o - 82) / 64) (by omega) ((o - 82) / 8 % 8) (by omega) ((o - 82) % 8) (by omega)); rwa [show 82 + ((o - 82) / 64 * 64 + ((o - 82) / 8 % 8 * 8 + (o - 82) % 8)) = o by omega] at this
 ·rw [Array.getElem?_eq_none (by omega), Array.getElem?_eq_none (by rw [dgA_size]; omega)]
end Go.Proofs.Ytacajcjibhifmaa

namespace Go.Proofs.Ytacajcjibhifmaa
open Go
theorem in8A_sz (u : Nat → Int) : (in8A u).size = 8 := Array.size_ofFn
theorem el8A_sz (f : Nat → Nat → Int) : (el8A f).size = 64 := Array.size_ofFn
theorem el88A_sz (f : Nat → Nat → Nat → Int) : (el88A f).size = 512 := Array.size_ofFn
theorem dgA_sz (X : Dg) : (dgA X).size = 594 := Array.size_ofFn
theorem in8A_one {u : Nat → Int} : ∀ v ∈ (in8A u).toList, v.oneCell' = true := ofFn_one fun _ => rfl
theorem el8A_one {f : Nat → Nat → Int} : ∀ v ∈ (el8A f).toList, v.oneCell' = true := ofFn_one fun _ => rfl
theorem el88A_one {f : Nat → Nat → Nat → Int} : ∀ v ∈ (el88A f).toList, v.oneCell' = true := ofFn_one fun _ => rfl
theorem dgF_one (X : Dg) (o : Nat) : (dgF X o).oneCell' = true := by
 unfold dgF
 split
 ·rfl
 ·split
  ·rfl
  ·split
   ·rfl
   ·split
    ·rfl
    ·split <;> rfl
theorem dgA_one {X : Dg} : ∀ v ∈ (dgA X).toList, v.oneCell' = true := ofFn_one fun i => dgF_one X i
theorem i64_one {x : Int} : ∀ v ∈ (#[Value.int .i64 x] : Array Value).toList, v.oneCell' = true := by
 intro v hv
 simp only [List.mem_cons, List.not_mem_nil, or_false] at hv
 subst hv; rfl
theorem all_eq {cs vs : Array Value} {n : Nat} (h1 : cs.size = n) (h2 : vs.size = n) : (cs.toList.take 0 ++ vs.toList ++ cs.toList.drop (0 + n)).toArray = vs := by
 rw [List.take_zero, List.nil_append, List.drop_of_length_le (by rw [Array.length_toList]; omega), List.append_nil]
theorem in8A_all {u v : Nat → Int} : ((in8A u).toList.take 0 ++ (in8A v).toList ++ (in8A u).toList.drop (0 + 8)).toArray = in8A v := all_eq (in8A_sz u) (in8A_sz v)
theorem el8A_all {u v : Nat → Nat → Int} : ((el8A u).toList.take 0 ++ (el8A v).toList ++ (el8A u).toList.drop (0 + 64)).toArray = el8A v := all_eq (el8A_sz u) (el8A_sz v)
theorem el88A_all {u v : Nat → Nat → Nat → Int} : ((el88A u).toList.take 0 ++ (el88A v).toList ++ (el88A u).toList.drop (0 + 512)).toArray = el88A v := all_eq (el88A_sz u) (el88A_sz v)
theorem dgA_all {X Y : Dg} : ((dgA X).toList.take 0 ++ (dgA Y).toList ++ (dgA X).toList.drop (0 + 594)).toArray = dgA Y := all_eq (dgA_sz X) (dgA_sz Y)
theorem none_of {cs : Array Value} {n q : Nat} (h : cs.size = n) (hq : ¬ q < n) : cs[q]? = none := Array.getElem?_eq_none (by omega)
/-- Stores by cells: F before, G after. -/
theorem store_eq {cs vs cs' : Array Value} {o m n : Nat} {F G W : Nat → Value} (h1 : cs.size = n) (h2 : cs'.size = n) (hm : vs.size = m) (hl : o + m ≤ n) (f : ∀ q, q < n → cs[q]? = some (F q)) (g : ∀ q, q < n → cs'[q]? = some (G q)) (w : ∀ q, q < m → vs[q]? = some (W q)) (ha : ∀ q, q < n → (q < o ∨ o + m ≤ q) → G q = F q) (hb : ∀ q, q < m → G (o + q) = W q) : (cs.toList.take o ++ vs.toList ++ cs.toList.drop (o + m)).toArray = cs' := by
 refine splice_eq hm (by omega) fun q => ?_
 by_cases hq : q < n
 ·rw [g q hq]
  by_cases c1 : q < o
  ·rw [if_pos c1, f q hq, ha q hq (.inl c1)]
  ·rw [if_neg c1]
   by_cases c2 : q < o + m
   ·rw [if_pos c2, w (q - o) (by omega), ← hb (q - o) (by omega), show o + (q - o) = q by omega]
   ·rw [if_neg c2, f q hq, ha q hq (.inr (by omega))]
 ·rw [if_neg (by omega), if_neg (by omega), none_of h1 hq, none_of h2 hq]
theorem one_at {x : Value} : ∀ q, q < 1 → (#[x] : Array Value)[q]? = some ((fun _ => x) q) := fun q hq => by
 obtain rfl : q = 0 := by omega
 rfl
theorem in8_upd {u : Nat → Int} {i : Nat} {x : Int} (h : i < 8) : ((in8A u).toList.take i ++ (#[Value.int .i64 x] : Array Value).toList ++ (in8A u).toList.drop (i + 1)).toArray = in8A (upd u i x) :=
 store_eq (in8A_sz _) (in8A_sz _) rfl (by omega) (fun q hq => in8_at hq) (fun q hq => in8_at hq) one_at (fun q hq hc => by show Value.int .i64 (upd u i x q) = _; rw [upd, if_neg (by omega)]) (fun q hq => by
  obtain rfl : q = 0 := by omega
  show Value.int .i64 (upd u i x (i + 0)) = _; rw [upd, if_pos (by omega)])
theorem el8_upd {f : Nat → Nat → Int} {i : Nat} {v : Nat → Int} (h : i < 8) : ((el8A f).toList.take (i * 8) ++ (elA v).toList ++ (el8A f).toList.drop (i * 8 + 8)).toArray = el8A (updF f i v) :=
 store_eq (el8A_sz _) (el8A_sz _) (elA_sz v) (by omega) (fun q hq => el8_at hq) (fun q hq => el8_at hq) (fun q hq => elA_at hq) (fun q hq hc => by show Value.int .u8 (updF f i v (q / 8) (q % 8)) = _; rw [updF, if_neg (by omega)]) (fun q hq => by
  show Value.int .u8 (updF f i v ((i * 8 + q) / 8) ((i * 8 + q) % 8)) = _; rw [updF, if_pos (by omega), show (i * 8 + q) % 8 = q by omega])
theorem el88_upd {f : Nat → Nat → Nat → Int} {i : Nat} {v : Nat → Nat → Int} (h : i < 8) : ((el88A f).toList.take (i * 64) ++ (el8A v).toList ++ (el88A f).toList.drop (i * 64 + 64)).toArray = el88A (updF f i v) :=
 store_eq (el88A_sz _) (el88A_sz _) (el8A_sz v) (by omega) (fun q hq => el88_at hq) (fun q hq => el88_at hq) (fun q hq => el8_at hq) (fun q hq hc => by show Value.int .u8 (updF f i v (q / 64) (q / 8 % 8) (q % 8)) = _; rw [updF, if_neg (by omega)]) (fun q hq => by
  show Value.int .u8 (updF f i v ((i * 64 + q) / 64) ((i * 64 + q) / 8 % 8) ((i * 64 + q) % 8)) = _; rw [updF, if_pos (by omega), show (i * 64 + q) % 8 = q % 8 by omega, show (i * 64 + q) / 8 % 8 = q / 8 by omega])
section
variable {X : Dg}
theorem dg_p {x : Int} : ((dgA X).toList.take 0 ++ (#[Value.int .i64 x] : Array Value).toList ++ (dgA X).toList.drop (0 + 1)).toArray = dgA { X with p := x } :=
 store_eq (dgA_sz _) (dgA_sz _) rfl (by omega) (fun q hq => dgA_at hq) (fun q hq => dgA_at hq) one_at (fun q hq hc => by
  unfold dgF
  by_cases h0 : q = 0 <;> by_cases h1 : q = 1 <;> by_cases h2 : q < 10 <;> by_cases h3 : q < 18 <;> first | (exfalso; omega) | simp [h0, h1, h2, h3]) (fun q hq => by
  obtain rfl : q = 0 := by omega
  rfl)
theorem dg_s {x : Int} : ((dgA X).toList.take 1 ++ (#[Value.int .i64 x] : Array Value).toList ++ (dgA X).toList.drop (1 + 1)).toArray = dgA { X with s := x } :=
 store_eq (dgA_sz _) (dgA_sz _) rfl (by omega) (fun q hq => dgA_at hq) (fun q hq => dgA_at hq) one_at (fun q hq hc => by
  unfold dgF
  by_cases h0 : q = 0 <;> by_cases h1 : q = 1 <;> by_cases h2 : q < 10 <;> by_cases h3 : q < 18 <;> first | (exfalso; omega) | simp [h0, h1, h2, h3]) (fun q hq => by
  obtain rfl : q = 0 := by omega
  rfl)
theorem dg_deg {u : Nat → Int} : ((dgA X).toList.take 2 ++ (in8A u).toList ++ (dgA X).toList.drop (2 + 8)).toArray = dgA { X with deg := u } :=
 store_eq (dgA_sz _) (dgA_sz _) (in8A_sz u) (by omega) (fun q hq => dgA_at hq) (fun q hq => dgA_at hq) (fun q hq => in8_at hq) (fun q hq hc => by
  unfold dgF
  by_cases h0 : q = 0 <;> by_cases h1 : q = 1 <;> by_cases h2 : q < 10 <;> by_cases h3 : q < 18 <;> first | (exfalso; omega) | simp [h0, h1, h2, h3]) (fun q hq => dgF_deg (X := { X with deg := u }) hq)
theorem dg_lev {u : Nat → Int} : ((dgA X).toList.take 10 ++ (in8A u).toList ++ (dgA X).toList.drop (10 + 8)).toArray = dgA { X with lev := u } :=
 store_eq (dgA_sz _) (dgA_sz _) (in8A_sz u) (by omega) (fun q hq => dgA_at hq) (fun q hq => dgA_at hq) (fun q hq => in8_at hq) (fun q hq hc => by
  unfold dgF
  by_cases h0 : q = 0 <;> by_cases h1 : q = 1 <;> by_cases h2 : q < 10 <;> by_cases h3 : q < 18 <;> first | (exfalso; omega) | simp [h0, h1, h2, h3]) (fun q hq => dgF_lev (X := { X with lev := u }) hq)
theorem dgF_diff {o : Nat} (h : 18 ≤ o ∧ o < 82) : dgF X o = .int .u8 (X.dif ((o - 18) / 8) ((o - 18) % 8)) := by
 unfold dgF
 rw [if_neg (by omega), if_neg (by omega), if_neg (by omega), if_neg (by omega), if_pos (by omega)]
theorem dgF_table {o : Nat} (h : 82 ≤ o) : dgF X o = .int .u8 (X.tab ((o - 82) / 64) ((o - 82) / 8 % 8) ((o - 82) % 8)) := by
 unfold dgF
 rw [if_neg (by omega), if_neg (by omega), if_neg (by omega), if_neg (by omega), if_neg (by omega)]
theorem dgF_low {Y : Dg} (hp : Y.p = X.p) (hs : Y.s = X.s) (hd : Y.deg = X.deg) (hl : Y.lev = X.lev) {o : Nat} (h : o < 18) : dgF Y o = dgF X o := by
 unfold dgF
 rw [hp, hs, hd, hl]
 by_cases h0 : o = 0 <;> by_cases h1 : o = 1 <;> by_cases h2 : o < 10 <;> simp [h0, h1, h2, h]
theorem dg_dif {f : Nat → Nat → Int} : ((dgA X).toList.take 18 ++ (el8A f).toList ++ (dgA X).toList.drop (18 + 64)).toArray = dgA { X with dif := f } :=
 store_eq (dgA_sz _) (dgA_sz _) (el8A_sz f) (by omega) (fun q hq => dgA_at hq) (fun q hq => dgA_at hq) (fun q hq => el8_at hq) (fun q hq hc => by
  by_cases h2 : q < 18
  ·exact dgF_low (X := X) (Y := { X with dif := f }) rfl rfl rfl rfl h2
  ·rw [dgF_table (by omega), dgF_table (by omega)]) (fun q hq => by
  rw [dgF_diff (by omega), show 18 + q - 18 = q by omega])
theorem dg_tab {f : Nat → Nat → Nat → Int} : ((dgA X).toList.take 82 ++ (el88A f).toList ++ (dgA X).toList.drop (82 + 512)).toArray = dgA { X with tab := f } :=
 store_eq (dgA_sz _) (dgA_sz _) (el88A_sz f) (by omega) (fun q hq => dgA_at hq) (fun q hq => dgA_at hq) (fun q hq => el88_at hq) (fun q hq hc => by
  by_cases h2 : q < 18
  ·exact dgF_low (X := X) (Y := { X with tab := f }) rfl rfl rfl rfl h2
  ·rw [dgF_diff (by omega), dgF_diff (by omega)]) (fun q hq => by
  rw [dgF_table (by omega), show 82 + q - 82 = q by omega])
variable {h : Heap} {b : Nat} {t : TypeId} {u : Nat → Int} {f : Nat → Nat → Int} {g : Nat → Nat → Nat → Int}
theorem BoxAt.in8C (hb : BoxAt h b (in8A u) t) {i : Nat} (hi : i < 8) : hcell h ⟨b, i, none⟩ = some (.int .i64 (u i)) := by rw [hb.cell, in8_at hi]
theorem BoxAt.in8L (hb : BoxAt h b (in8A u) t) : loadV TT h 22 ⟨b, 0, none⟩ = some (.agg (in8A u)) := ldArr ld22 hb (fun q => .int .i64 (u q)) 0 (fun q hq => by rw [Nat.zero_add]; exact in8_at hq)
theorem BoxAt.elL2 (hb : BoxAt h b (elA u) t) : loadV TT h 23 ⟨b, 0, none⟩ = some (.agg (elA u)) := ldArr ld23 hb (fun q => .int .u8 (u q)) 0 (fun q hq => by rw [Nat.zero_add]; exact elA_at hq)
theorem BoxAt.el8E (hb : BoxAt h b (el8A f) t) {i : Nat} (hi : i < 8) : loadV TT h 23 ⟨b, i * 8, none⟩ = some (.agg (elA (f i))) := ldArr ld23 hb (fun q => .int .u8 (f i q)) (i * 8) (fun q hq => by rw [el8_at (by omega), show (i * 8 + q) / 8 = i by omega, show (i * 8 + q) % 8 = q by omega])
theorem BoxAt.el8L (hb : BoxAt h b (el8A f) t) : loadV TT h 24 ⟨b, 0, none⟩ = some (.agg (el8A f)) := ldArr ld24 hb (fun q => .int .u8 (f (q / 8) (q % 8))) 0 (fun q hq => by rw [Nat.zero_add]; exact el8_at hq)
theorem BoxAt.el8L2 (hb : BoxAt h b (el8A f) t) : loadV TT h 31 ⟨b, 0, none⟩ = some (.agg (el8A f)) := ldArr ld31 hb (fun q => .int .u8 (f (q / 8) (q % 8))) 0 (fun q hq => by rw [Nat.zero_add]; exact el8_at hq)
theorem BoxAt.el88R (hb : BoxAt h b (el88A g) t) {i : Nat} (hi : i < 8) : loadV TT h 24 ⟨b, i * 64, none⟩ = some (.agg (el8A (g i))) := ldArr ld24 hb (fun q => .int .u8 (g i (q / 8) (q % 8))) (i * 64) (fun q hq => by rw [el88_at (by omega), show (i * 64 + q) / 64 = i by omega, show (i * 64 + q) / 8 % 8 = q / 8 by omega, show (i * 64 + q) % 8 = q % 8 by omega])
theorem BoxAt.el88L (hb : BoxAt h b (el88A g) t) : loadV TT h 32 ⟨b, 0, none⟩ = some (.agg (el88A g)) := ldArr ld32 hb (fun q => .int .u8 (g (q / 64) (q / 8 % 8) (q % 8))) 0 (fun q hq => by rw [Nat.zero_add]; exact el88_at hq)
theorem BoxAt.dgLL (hb : BoxAt h b (dgA X) t) : loadV TT h 27 ⟨b, 0, none⟩ = some (.agg (dgA X)) := ldArr ld27 hb (fun q => dgF X q) 0 (fun q hq => by rw [Nat.zero_add]; exact dgA_at hq)
theorem BoxAt.dgDegL (hb : BoxAt h b (dgA X) t) : loadV TT h 22 ⟨b, 2, none⟩ = some (.agg (in8A X.deg)) := ldArr ld22 hb (fun q => .int .i64 (X.deg q)) 2 (fun q hq => by rw [dgA_at (by omega), dgF_deg hq])
theorem BoxAt.dgLevL (hb : BoxAt h b (dgA X) t) : loadV TT h 22 ⟨b, 10, none⟩ = some (.agg (in8A X.lev)) := ldArr ld22 hb (fun q => .int .i64 (X.lev q)) 10 (fun q hq => by rw [dgA_at (by omega), dgF_lev hq])
theorem BoxAt.dgDifA (hb : BoxAt h b (dgA X) t) : loadV TT h 24 ⟨b, 18, none⟩ = some (.agg (el8A X.dif)) := ldArr ld24 hb (fun q => .int .u8 (X.dif (q / 8) (q % 8))) 18 (fun q hq => by rw [dgA_at (by omega), dgF_diff (by omega), show 18 + q - 18 = q by omega])
theorem BoxAt.dgTabA (hb : BoxAt h b (dgA X) t) : loadV TT h 25 ⟨b, 82, none⟩ = some (.agg (el88A X.tab)) := ldArr ld25 hb (fun q => .int .u8 (X.tab (q / 64) (q / 8 % 8) (q % 8))) 82 (fun q hq => by rw [dgA_at (by omega), dgF_table (by omega), show 82 + q - 82 = q by omega])
end
end Go.Proofs.Ytacajcjibhifmaa

namespace Go.Proofs.Ytacajcjibhifmaa
open Go
def cpF {α : Type} (d : α) (u : Nat → α) (n : Nat) : Nat → α := fun k => if k < n then u k else d
theorem cpF_z8 (u : Nat → Int) : cpF 0 u 0 = z8 := by funext k; simp [cpF, z8]
theorem cpF_z64 (u : Nat → Nat → Int) : cpF z8 u 0 = z64 := by funext k; simp [cpF, z64]
theorem cpF_z512 (u : Nat → Nat → Nat → Int) : cpF z64 u 0 = z512 := by funext k; simp [cpF, z512]
theorem cpF_step {α : Type} (d : α) (u : Nat → α) (n : Nat) : (fun k => if k = n then u n else cpF d u n k) = cpF d u (n + 1) := by
 funext k
 unfold cpF
 by_cases h : k = n
 ·subst h; rw [if_pos rfl, if_pos (by omega)]
 ·rw [if_neg h]
  by_cases h2 : k < n
  ·rw [if_pos h2, if_pos (by omega)]
  ·rw [if_neg h2, if_neg (by omega)]
theorem cp_upd (u : Nat → Int) (n : Nat) : upd (cpF 0 u n) n (u n) = cpF 0 u (n + 1) := cpF_step 0 u n
theorem cp_updF {α : Type} (d : α) (u : Nat → α) (n : Nat) : updF (cpF d u n) n (u n) = cpF d u (n + 1) := cpF_step d u n
theorem el_cp (u : Nat → Int) : elA (cpF 0 u 8) = elA u := rfl
theorem in8_cp (u : Nat → Int) : in8A (cpF 0 u 8) = in8A u := by
 refine Array.ext_getElem? fun q => ?_
 by_cases h : q < 8
 ·rw [in8_at h, in8_at h, cpF, if_pos h]
 ·rw [none_of (in8A_sz _) h, none_of (in8A_sz _) h]
theorem el8_cp (u : Nat → Nat → Int) : el8A (cpF z8 u 8) = el8A u := by
 refine Array.ext_getElem? fun q => ?_
 by_cases h : q < 64
 ·rw [el8_at h, el8_at h, cpF, if_pos (by omega)]
 ·rw [none_of (el8A_sz _) h, none_of (el8A_sz _) h]
theorem el88_cp (u : Nat → Nat → Nat → Int) : el88A (cpF z64 u 8) = el88A u := by
 refine Array.ext_getElem? fun q => ?_
 by_cases h : q < 512
 ·rw [el88_at h, el88_at h, cpF, if_pos (by omega)]
 ·rw [none_of (el88A_sz _) h, none_of (el88A_sz _) h]

attribute [local irreducible] el8A el88A in8A dgA
set_option maxRecDepth 100000 in
set_option maxHeartbeats 4000000 in
theorem toEl_ok (u : Nat → Int) (h : Heap)   : CallA Try.prog 85 #[.agg (elA u)] h fun v' h' => v' = .agg (elA (u)) ∧ Ext h h' := by
 refine callA_intro TTok (args := [_]) Try.func85 (by kernel_rfl) rfl 15 rfl (by simp) [.cell 2 30] rfl ?_
 simp only [idxs, Nat.reduceAdd]
 refine den_seq ?_
 refine den_region TTok ?_
 intro K hK
 simp -implicitDefEqProofs (disch := first | decide | assumption | omega) only [go_sem, wrap_id, sbs, Int.toNat_zero]
 refine op_box (cs := elA u) rfl ?_
 intro h0_0 e0_0 hb0_0 z0_0
 have := Ext.size e0_0
 have eB := e0_0
 have hfhb0_0 : Fresh h.size [h.size] := Fresh.one _
 have hlhb0_0 := one_lt (show h.size < h0_0.size by omega)
 try simp -implicitDefEqProofs (disch := first | decide | assumption | omega) only [go_sem, wrap_id, sbs, Int.toNat_zero]
 refine op_alloc (cs := elA z8) (by kernel_rfl) ?_
 intro h0_1 e0_1 hb0_1 z0_1
 replace hb0_0 := BoxAt.ext hb0_0 e0_1
 have := Ext.size e0_1
 replace eB := Ext.trans eB e0_1
 have hfhb0_1 : Fresh h0_0.size [h0_0.size] := Fresh.one _
 have hlhb0_1 := one_lt (show h0_0.size < h0_1.size by omega)
 try simp -implicitDefEqProofs (disch := first | decide | assumption | omega) only [go_sem, BoxAt.elC hb0_1, BoxAt.elL hb0_1, BoxAt.elL2 hb0_1, wrap_id, sbs, Int.toNat_zero]
 refine hK _ _ ?_
 clear hK K
 refine den_seq ?_
 refine den_region TTok ?_
 intro K hK
 simp -implicitDefEqProofs (disch := first | decide | assumption | omega) only [go_sem, BoxAt.elC hb0_1, BoxAt.elL hb0_1, BoxAt.elL2 hb0_1, wrap_id, sbs, Int.toNat_zero]
 refine op_alloc (cs := elA z8) (by kernel_rfl) ?_
 intro h1_0 e1_0 hb1_0 z1_0
 replace hb0_0 := BoxAt.ext hb0_0 e1_0
 replace hb0_1 := BoxAt.ext hb0_1 e1_0
 have := Ext.size e1_0
 replace eB := Ext.trans eB e1_0
 have hfhb1_0 : Fresh h0_1.size [h0_1.size] := Fresh.one _
 have hlhb1_0 := one_lt (show h0_1.size < h1_0.size by omega)
 try simp -implicitDefEqProofs (disch := first | decide | assumption | omega) only [go_sem, BoxAt.elC hb0_1, BoxAt.elL hb0_1, BoxAt.elL2 hb0_1, wrap_id, sbs, Int.toNat_zero]
 refine hK _ _ ?_
 clear hK K
 refine den_seq ?_
 refine den_seq ?_
 refine den_region TTok ?_
 intro K hK
 simp -implicitDefEqProofs (disch := first | decide | assumption | omega) only [go_sem, wrap_id, sbs, Int.toNat_zero]
 refine hK _ _ ?_
 clear hK K
 refine den_block ?_
 refine den_sel [4, 1, 2, 3] ?_
 intro env_1
 simp only [go_sem]
 refine den_loopS (σ := Nat) (fun st_ => [(4, .int .i64 (st_ : Int))]) (fun st_ H => (st_ ≤ 8) ∧ (BoxAt H (h0_1.size) (elA (cpF 0 u st_)) 30) ∧ (Chg [h0_1.size] h1_0 H)) (fun st_ => 8 - st_) 0 ?_ ?_
 ·exact ⟨by first | (simp; done) | (dsimp only; omega) | (simp; omega), by rw [cpF_z8]; exact hb1_0, Chg.refl _ _⟩
 ·rintro i h4 ee3 ⟨hi0, hbx3, cL2⟩
  replace hb0_0 := BoxAt.chgA hb0_0 cL2 (apart_lt hlhb0_0 hfhb1_0 (by omega))
  replace hb0_1 := BoxAt.chgA hb0_1 cL2 (apart_lt hlhb0_1 hfhb1_0 (by omega))
  have := cL2.size
  replace eB := Ext.then eB cL2 (ge_of hfhb1_0 (by omega))
  have hfhbx3 := hfhb1_0
  have hlhbx3 := hlhb1_0
  simp only [List.cons_append, List.nil_append]
  refine den_seq ?_
  refine den_seq ?_
  refine den_region TTok ?_
  intro K hK
  simp -implicitDefEqProofs (disch := first | decide | assumption | omega) only [go_sem, wrap_id, sbs, Int.toNat_zero]
  refine hK _ _ ?_
  clear hK K
  refine den_cond rfl (fun c0 => ?_) (fun c0 => ?_)
  ·try simp only [ddA] at c0
   refine den_skip ?_
   refine den_seq ?_
   refine den_block ?_
   refine den_region TTok ?_
   intro K hK
   simp -implicitDefEqProofs (disch := first | decide | assumption | omega) only [go_sem, Int.toNat_zero, ia23, ia30, ld5, BoxAt.elC hb0_0, BoxAt.elL hb0_0, BoxAt.elL2 hb0_0, BoxAt.elC hbx3, BoxAt.elL hbx3, BoxAt.elL2 hbx3, wrap_id, sbs, Int.toNat_zero]
   refine op_storeB (o := i) (vs := #[.int .u8 (u i)]) (cs' := elA (upd (cpF 0 u i) i (u i))) st5 hbx3 rfl rfl rfl (by show _ + 1 ≤ 8; omega) u8_one (elA_upd (by omega)) ?_
   intro h5_5 hbx3 c5_5
   replace hb0_0 := BoxAt.chgA hb0_0 c5_5 (apart_lt hlhb0_0 hfhbx3 (by omega))
   replace hb0_1 := BoxAt.chgA hb0_1 c5_5 (apart_lt hlhb0_1 hfhbx3 (by omega))
   have := c5_5.size
   replace eB := Ext.then eB c5_5 (ge_of hfhbx3 (by omega))
   replace cL2 := Chg.step cL2 c5_5 Sub.refl
   try simp -implicitDefEqProofs (disch := first | decide | assumption | omega) only [go_sem, BoxAt.elC hb0_1, BoxAt.elL hb0_1, BoxAt.elL2 hb0_1, wrap_id, sbs, Int.toNat_zero]
   refine hK _ _ ?_
   clear hK K
   refine den_blk ?_
   refine den_region TTok ?_
   intro K hK
   simp -implicitDefEqProofs (disch := first | decide | assumption | omega) only [go_sem, wrap_id, sbs, Int.toNat_zero]
   refine hK _ _ ?_
   clear hK K
   refine den_stop ?_
   rw [cp_upd] at hbx3
   exact ⟨i + 1, by simp [HasL, puts_at], ⟨by first | omega | (dsimp only; omega), hbx3, cL2⟩, by first | omega | (dsimp only; omega)⟩
  ·try simp only [ddA] at c0
   refine den_exit ?_
   refine denX_code ?_
   refine denX_stop ?_
   refine denX_hit ?_
   refine den_seq ?_
   refine den_region TTok ?_
   intro K hK
   simp -implicitDefEqProofs (disch := first | decide | assumption | omega) only [go_sem, BoxAt.elC hbx3, BoxAt.elL hbx3, BoxAt.elL2 hbx3, wrap_id, sbs, Int.toNat_zero]
   refine op_storeB (o := 0) (vs := elA (cpF 0 u i)) (cs' := elA (cpF 0 u i)) st30 hb0_1 rfl rfl (elA_sz _) (by rw [elA_sz]; decide) elA_one elA_all ?_
   intro h6_1 hb0_1 c6_1
   replace hbx3 := BoxAt.chgA hbx3 c6_1 (apart_gt hfhbx3 hlhb0_1 (by omega))
   have := c6_1.size
   replace eB := Ext.then eB c6_1 (ge_of hfhb0_1 (by omega))
   try simp -implicitDefEqProofs (disch := first | decide | assumption | omega) only [go_sem, BoxAt.elC hb0_1, BoxAt.elL hb0_1, BoxAt.elL2 hb0_1, wrap_id, sbs, Int.toNat_zero]
   refine hK _ _ ?_
   clear hK K
   refine den_ret ?_
   simp -implicitDefEqProofs (disch := first | decide | assumption | omega) only [go_sem, BoxAt.elC hb0_1, BoxAt.elL hb0_1, BoxAt.elL2 hb0_1, wrap_id, sbs, Int.toNat_zero, resP_c1, ld30]
   rw [show i = 8 by omega]
   exact ⟨by rw [el_cp], eB⟩

set_option maxRecDepth 100000 in
set_option maxHeartbeats 4000000 in
theorem toI8_ok (u : Nat → Int) (h : Heap)   : CallA Try.prog 40 #[.agg (in8A u)] h fun v' h' => v' = .agg (in8A (u)) ∧ Ext h h' := by
 refine callA_intro TTok (args := [_]) Try.func40 (by kernel_rfl) rfl 15 rfl (by simp) [.cell 2 22] rfl ?_
 simp only [idxs, Nat.reduceAdd]
 refine den_seq ?_
 refine den_region TTok ?_
 intro K hK
 simp -implicitDefEqProofs (disch := first | decide | assumption | omega) only [go_sem, wrap_id, sbs, Int.toNat_zero]
 refine op_box (cs := in8A u) rfl ?_
 intro h0_0 e0_0 hb0_0 z0_0
 have := Ext.size e0_0
 have eB := e0_0
 have hfhb0_0 : Fresh h.size [h.size] := Fresh.one _
 have hlhb0_0 := one_lt (show h.size < h0_0.size by omega)
 try simp -implicitDefEqProofs (disch := first | decide | assumption | omega) only [go_sem, wrap_id, sbs, Int.toNat_zero]
 refine op_alloc (cs := in8A z8) (by kernel_rfl) ?_
 intro h0_1 e0_1 hb0_1 z0_1
 replace hb0_0 := BoxAt.ext hb0_0 e0_1
 have := Ext.size e0_1
 replace eB := Ext.trans eB e0_1
 have hfhb0_1 : Fresh h0_0.size [h0_0.size] := Fresh.one _
 have hlhb0_1 := one_lt (show h0_0.size < h0_1.size by omega)
 try simp -implicitDefEqProofs (disch := first | decide | assumption | omega) only [go_sem, BoxAt.in8C hb0_1, BoxAt.in8L hb0_1, wrap_id, sbs, Int.toNat_zero]
 refine hK _ _ ?_
 clear hK K
 refine den_seq ?_
 refine den_region TTok ?_
 intro K hK
 simp -implicitDefEqProofs (disch := first | decide | assumption | omega) only [go_sem, BoxAt.in8C hb0_1, BoxAt.in8L hb0_1, wrap_id, sbs, Int.toNat_zero]
 refine op_alloc (cs := in8A z8) (by kernel_rfl) ?_
 intro h1_0 e1_0 hb1_0 z1_0
 replace hb0_0 := BoxAt.ext hb0_0 e1_0
 replace hb0_1 := BoxAt.ext hb0_1 e1_0
 have := Ext.size e1_0
 replace eB := Ext.trans eB e1_0
 have hfhb1_0 : Fresh h0_1.size [h0_1.size] := Fresh.one _
 have hlhb1_0 := one_lt (show h0_1.size < h1_0.size by omega)
 try simp -implicitDefEqProofs (disch := first | decide | assumption | omega) only [go_sem, BoxAt.in8C hb0_1, BoxAt.in8L hb0_1, wrap_id, sbs, Int.toNat_zero]
 refine hK _ _ ?_
 clear hK K
 refine den_seq ?_
 refine den_seq ?_
 refine den_region TTok ?_
 intro K hK
 simp -implicitDefEqProofs (disch := first | decide | assumption | omega) only [go_sem, wrap_id, sbs, Int.toNat_zero]
 refine hK _ _ ?_
 clear hK K
 refine den_block ?_
 refine den_sel [4, 1, 2, 3] ?_
 intro env_1
 simp only [go_sem]
 refine den_loopS (σ := Nat) (fun st_ => [(4, .int .i64 (st_ : Int))]) (fun st_ H => (st_ ≤ 8) ∧ (BoxAt H (h0_1.size) (in8A (cpF 0 u st_)) 22) ∧ (Chg [h0_1.size] h1_0 H)) (fun st_ => 8 - st_) 0 ?_ ?_
 ·exact ⟨by first | (simp; done) | (dsimp only; omega) | (simp; omega), by rw [cpF_z8]; exact hb1_0, Chg.refl _ _⟩
 ·rintro i h4 ee3 ⟨hi0, hbx3, cL2⟩
  replace hb0_0 := BoxAt.chgA hb0_0 cL2 (apart_lt hlhb0_0 hfhb1_0 (by omega))
  replace hb0_1 := BoxAt.chgA hb0_1 cL2 (apart_lt hlhb0_1 hfhb1_0 (by omega))
  have := cL2.size
  replace eB := Ext.then eB cL2 (ge_of hfhb1_0 (by omega))
  have hfhbx3 := hfhb1_0
  have hlhbx3 := hlhb1_0
  simp only [List.cons_append, List.nil_append]
  refine den_seq ?_
  refine den_seq ?_
  refine den_region TTok ?_
  intro K hK
  simp -implicitDefEqProofs (disch := first | decide | assumption | omega) only [go_sem, wrap_id, sbs, Int.toNat_zero]
  refine hK _ _ ?_
  clear hK K
  refine den_cond rfl (fun c0 => ?_) (fun c0 => ?_)
  ·try simp only [ddA] at c0
   refine den_skip ?_
   refine den_seq ?_
   refine den_block ?_
   refine den_region TTok ?_
   intro K hK
   simp -implicitDefEqProofs (disch := first | decide | assumption | omega) only [go_sem, Int.toNat_zero, ia22, ld2, BoxAt.in8C hb0_0, BoxAt.in8L hb0_0, BoxAt.in8C hbx3, BoxAt.in8L hbx3, wrap_id, sbs, Int.toNat_zero]
   refine op_storeB (o := i) (vs := #[.int .i64 (u i)]) (cs' := in8A (upd (cpF 0 u i) i (u i))) st2 hbx3 rfl rfl rfl (by rw [in8A_sz]; omega) i64_one (in8_upd (by omega)) ?_
   intro h5_5 hbx3 c5_5
   replace hb0_0 := BoxAt.chgA hb0_0 c5_5 (apart_lt hlhb0_0 hfhbx3 (by omega))
   replace hb0_1 := BoxAt.chgA hb0_1 c5_5 (apart_lt hlhb0_1 hfhbx3 (by omega))
   have := c5_5.size
   replace eB := Ext.then eB c5_5 (ge_of hfhbx3 (by omega))
   replace cL2 := Chg.step cL2 c5_5 Sub.refl
   try simp -implicitDefEqProofs (disch := first | decide | assumption | omega) only [go_sem, BoxAt.in8C hb0_1, BoxAt.in8L hb0_1, wrap_id, sbs, Int.toNat_zero]
   refine hK _ _ ?_
   clear hK K
   refine den_blk ?_
   refine den_region TTok ?_
   intro K hK
   simp -implicitDefEqProofs (disch := first | decide | assumption | omega) only [go_sem, wrap_id, sbs, Int.toNat_zero]
   refine hK _ _ ?_
   clear hK K
   refine den_stop ?_
   rw [cp_upd] at hbx3
   exact ⟨i + 1, by simp [HasL, puts_at], ⟨by first | omega | (dsimp only; omega), hbx3, cL2⟩, by first | omega | (dsimp only; omega)⟩
  ·try simp only [ddA] at c0
   refine den_exit ?_
   refine denX_code ?_
   refine denX_stop ?_
   refine denX_hit ?_
   refine den_seq ?_
   refine den_region TTok ?_
   intro K hK
   simp -implicitDefEqProofs (disch := first | decide | assumption | omega) only [go_sem, BoxAt.in8C hbx3, BoxAt.in8L hbx3, wrap_id, sbs, Int.toNat_zero]
   refine op_storeB (o := 0) (vs := in8A (cpF 0 u i)) (cs' := in8A (cpF 0 u i)) st22 hb0_1 rfl rfl (in8A_sz _) (by rw [in8A_sz]; decide) in8A_one in8A_all ?_
   intro h6_1 hb0_1 c6_1
   replace hbx3 := BoxAt.chgA hbx3 c6_1 (apart_gt hfhbx3 hlhb0_1 (by omega))
   have := c6_1.size
   replace eB := Ext.then eB c6_1 (ge_of hfhb0_1 (by omega))
   try simp -implicitDefEqProofs (disch := first | decide | assumption | omega) only [go_sem, BoxAt.in8C hb0_1, BoxAt.in8L hb0_1, wrap_id, sbs, Int.toNat_zero]
   refine hK _ _ ?_
   clear hK K
   refine den_ret ?_
   simp -implicitDefEqProofs (disch := first | decide | assumption | omega) only [go_sem, BoxAt.in8C hb0_1, BoxAt.in8L hb0_1, wrap_id, sbs, Int.toNat_zero, resP_c1, ld22]
   rw [show i = 8 by omega]
   exact ⟨by rw [in8_cp], eB⟩

set_option maxRecDepth 100000 in
set_option maxHeartbeats 4000000 in
theorem toE8_ok (f : Nat → Nat → Int) (h : Heap)   : CallA Try.prog 41 #[.agg (el8A f)] h fun v' h' => v' = .agg (el8A (f)) ∧ Ext h h' := by
 refine callA_intro TTok (args := [_]) Try.func41 (by kernel_rfl) rfl 16 rfl (by simp) [.cell 2 31] rfl ?_
 simp only [idxs, Nat.reduceAdd]
 refine den_seq ?_
 refine den_region TTok ?_
 intro K hK
 simp -implicitDefEqProofs (disch := first | decide | assumption | omega) only [go_sem, wrap_id, sbs, Int.toNat_zero]
 refine op_box (cs := el8A f) rfl ?_
 intro h0_0 e0_0 hb0_0 z0_0
 have := Ext.size e0_0
 have eB := e0_0
 have hfhb0_0 : Fresh h.size [h.size] := Fresh.one _
 have hlhb0_0 := one_lt (show h.size < h0_0.size by omega)
 try simp -implicitDefEqProofs (disch := first | decide | assumption | omega) only [go_sem, wrap_id, sbs, Int.toNat_zero]
 refine op_alloc (cs := el8A z64) (by kernel_rfl) ?_
 intro h0_1 e0_1 hb0_1 z0_1
 replace hb0_0 := BoxAt.ext hb0_0 e0_1
 have := Ext.size e0_1
 replace eB := Ext.trans eB e0_1
 have hfhb0_1 : Fresh h0_0.size [h0_0.size] := Fresh.one _
 have hlhb0_1 := one_lt (show h0_0.size < h0_1.size by omega)
 try simp -implicitDefEqProofs (disch := first | decide | assumption | omega) only [go_sem, BoxAt.el8E hb0_1, BoxAt.el8L hb0_1, BoxAt.el8L2 hb0_1, wrap_id, sbs, Int.toNat_zero]
 refine hK _ _ ?_
 clear hK K
 refine den_seq ?_
 refine den_region TTok ?_
 intro K hK
 simp -implicitDefEqProofs (disch := first | decide | assumption | omega) only [go_sem, BoxAt.el8E hb0_1, BoxAt.el8L hb0_1, BoxAt.el8L2 hb0_1, wrap_id, sbs, Int.toNat_zero]
 refine op_alloc (cs := el8A z64) (by kernel_rfl) ?_
 intro h1_0 e1_0 hb1_0 z1_0
 replace hb0_0 := BoxAt.ext hb0_0 e1_0
 replace hb0_1 := BoxAt.ext hb0_1 e1_0
 have := Ext.size e1_0
 replace eB := Ext.trans eB e1_0
 have hfhb1_0 : Fresh h0_1.size [h0_1.size] := Fresh.one _
 have hlhb1_0 := one_lt (show h0_1.size < h1_0.size by omega)
 try simp -implicitDefEqProofs (disch := first | decide | assumption | omega) only [go_sem, BoxAt.el8E hb0_1, BoxAt.el8L hb0_1, BoxAt.el8L2 hb0_1, wrap_id, sbs, Int.toNat_zero]
 refine hK _ _ ?_
 clear hK K
 refine den_seq ?_
 refine den_seq ?_
 refine den_region TTok ?_
 intro K hK
 simp -implicitDefEqProofs (disch := first | decide | assumption | omega) only [go_sem, wrap_id, sbs, Int.toNat_zero]
 refine hK _ _ ?_
 clear hK K
 refine den_block ?_
 refine den_sel [4, 1, 2, 3] ?_
 intro env_1
 simp only [go_sem]
 refine den_loopS (σ := Nat) (fun st_ => [(4, .int .i64 (st_ : Int))]) (fun st_ H => (st_ ≤ 8) ∧ (BoxAt H (h0_1.size) (el8A (cpF z8 f st_)) 31) ∧ (Chg [h0_1.size] h1_0 H)) (fun st_ => 8 - st_) 0 ?_ ?_
 ·exact ⟨by first | (simp; done) | (dsimp only; omega) | (simp; omega), by rw [cpF_z64]; exact hb1_0, Chg.refl _ _⟩
 ·rintro i h4 ee3 ⟨hi0, hbx3, cL2⟩
  replace hb0_0 := BoxAt.chgA hb0_0 cL2 (apart_lt hlhb0_0 hfhb1_0 (by omega))
  replace hb0_1 := BoxAt.chgA hb0_1 cL2 (apart_lt hlhb0_1 hfhb1_0 (by omega))
  have := cL2.size
  replace eB := Ext.then eB cL2 (ge_of hfhb1_0 (by omega))
  have hfhbx3 := hfhb1_0
  have hlhbx3 := hlhb1_0
  simp only [List.cons_append, List.nil_append]
  refine den_seq ?_
  refine den_seq ?_
  refine den_region TTok ?_
  intro K hK
  simp -implicitDefEqProofs (disch := first | decide | assumption | omega) only [go_sem, wrap_id, sbs, Int.toNat_zero]
  refine hK _ _ ?_
  clear hK K
  refine den_cond rfl (fun c0 => ?_) (fun c0 => ?_)
  ·try simp only [ddA] at c0
   refine den_skip ?_
   refine den_seq ?_
   refine den_block ?_
   refine den_region TTok ?_
   intro K hK
   simp -implicitDefEqProofs (disch := first | decide | assumption | omega) only [go_sem, Int.toNat_zero, ia24, BoxAt.el8E hb0_0, BoxAt.el8L hb0_0, BoxAt.el8L2 hb0_0, wrap_id, sbs, Int.toNat_zero]
   try simp -implicitDefEqProofs (disch := first | decide | assumption | omega) only [go_sem, BoxAt.el8E hb0_1, BoxAt.el8L hb0_1, BoxAt.el8L2 hb0_1, wrap_id, sbs, Int.toNat_zero]
   refine CallA.mono (toEl_ok  (f i) _  ) ?_
   intro v_ h5_4
   rintro ⟨rfl, e5_4⟩
   replace hb0_0 := BoxAt.ext hb0_0 e5_4
   replace hb0_1 := BoxAt.ext hb0_1 e5_4
   replace hbx3 := BoxAt.ext hbx3 e5_4
   have := Ext.size e5_4
   replace eB := Ext.trans eB e5_4
   replace cL2 := Chg.stepE cL2 e5_4
   try simp -implicitDefEqProofs (disch := first | decide | assumption | omega) only [go_sem, Int.toNat_zero, ia31, BoxAt.el8E hbx3, BoxAt.el8L hbx3, BoxAt.el8L2 hbx3, wrap_id, sbs, Int.toNat_zero]
   refine op_storeB (o := i * 8) (vs := elA (f i)) (cs' := el8A (updF (cpF z8 f i) i (f i))) st30 hbx3 rfl rfl (elA_sz _) (by rw [el8A_sz]; omega) elA_one (el8_upd (by omega)) ?_
   intro h5_6 hbx3 c5_6
   replace hb0_0 := BoxAt.chgA hb0_0 c5_6 (apart_lt hlhb0_0 hfhbx3 (by omega))
   replace hb0_1 := BoxAt.chgA hb0_1 c5_6 (apart_lt hlhb0_1 hfhbx3 (by omega))
   have := c5_6.size
   replace eB := Ext.then eB c5_6 (ge_of hfhbx3 (by omega))
   replace cL2 := Chg.step cL2 c5_6 Sub.refl
   try simp -implicitDefEqProofs (disch := first | decide | assumption | omega) only [go_sem, BoxAt.el8E hb0_1, BoxAt.el8L hb0_1, BoxAt.el8L2 hb0_1, wrap_id, sbs, Int.toNat_zero]
   refine hK _ _ ?_
   clear hK K
   refine den_blk ?_
   refine den_region TTok ?_
   intro K hK
   simp -implicitDefEqProofs (disch := first | decide | assumption | omega) only [go_sem, wrap_id, sbs, Int.toNat_zero]
   refine hK _ _ ?_
   clear hK K
   refine den_stop ?_
   rw [cp_updF] at hbx3
   exact ⟨i + 1, by simp [HasL, puts_at], ⟨by first | omega | (dsimp only; omega), hbx3, cL2⟩, by first | omega | (dsimp only; omega)⟩
  ·try simp only [ddA] at c0
   refine den_exit ?_
   refine denX_code ?_
   refine denX_stop ?_
   refine denX_hit ?_
   refine den_seq ?_
   refine den_region TTok ?_
   intro K hK
   simp -implicitDefEqProofs (disch := first | decide | assumption | omega) only [go_sem, BoxAt.el8E hbx3, BoxAt.el8L hbx3, BoxAt.el8L2 hbx3, wrap_id, sbs, Int.toNat_zero]
   refine op_storeB (o := 0) (vs := el8A (cpF z8 f i)) (cs' := el8A (cpF z8 f i)) st31 hb0_1 rfl rfl (el8A_sz _) (by rw [el8A_sz]; decide) el8A_one el8A_all ?_
   intro h6_1 hb0_1 c6_1
   replace hbx3 := BoxAt.chgA hbx3 c6_1 (apart_gt hfhbx3 hlhb0_1 (by omega))
   have := c6_1.size
   replace eB := Ext.then eB c6_1 (ge_of hfhb0_1 (by omega))
   try simp -implicitDefEqProofs (disch := first | decide | assumption | omega) only [go_sem, BoxAt.el8E hb0_1, BoxAt.el8L hb0_1, BoxAt.el8L2 hb0_1, wrap_id, sbs, Int.toNat_zero]
   refine hK _ _ ?_
   clear hK K
   refine den_ret ?_
   simp -implicitDefEqProofs (disch := first | decide | assumption | omega) only [go_sem, BoxAt.el8E hb0_1, BoxAt.el8L hb0_1, BoxAt.el8L2 hb0_1, wrap_id, sbs, Int.toNat_zero, resP_c1, ld31]
   rw [show i = 8 by omega]
   exact ⟨by rw [el8_cp], eB⟩

set_option maxRecDepth 100000 in
set_option maxHeartbeats 4000000 in
theorem toE88_ok (f : Nat → Nat → Nat → Int) (h : Heap)   : CallA Try.prog 42 #[.agg (el88A f)] h fun v' h' => v' = .agg (el88A (f)) ∧ Ext h h' := by
 refine callA_intro TTok (args := [_]) Try.func42 (by kernel_rfl) rfl 16 rfl (by simp) [.cell 2 32] rfl ?_
 simp only [idxs, Nat.reduceAdd]
 refine den_seq ?_
 refine den_region TTok ?_
 intro K hK
 simp -implicitDefEqProofs (disch := first | decide | assumption | omega) only [go_sem, wrap_id, sbs, Int.toNat_zero]
 refine op_box (cs := el88A f) rfl ?_
 intro h0_0 e0_0 hb0_0 z0_0
 have := Ext.size e0_0
 have eB := e0_0
 have hfhb0_0 : Fresh h.size [h.size] := Fresh.one _
 have hlhb0_0 := one_lt (show h.size < h0_0.size by omega)
 try simp -implicitDefEqProofs (disch := first | decide | assumption | omega) only [go_sem, wrap_id, sbs, Int.toNat_zero]
 refine op_alloc (cs := el88A z512) (by kernel_rfl) ?_
 intro h0_1 e0_1 hb0_1 z0_1
 replace hb0_0 := BoxAt.ext hb0_0 e0_1
 have := Ext.size e0_1
 replace eB := Ext.trans eB e0_1
 have hfhb0_1 : Fresh h0_0.size [h0_0.size] := Fresh.one _
 have hlhb0_1 := one_lt (show h0_0.size < h0_1.size by omega)
 try simp -implicitDefEqProofs (disch := first | decide | assumption | omega) only [go_sem, BoxAt.el88R hb0_1, BoxAt.el88L hb0_1, wrap_id, sbs, Int.toNat_zero]
 refine hK _ _ ?_
 clear hK K
 refine den_seq ?_
 refine den_region TTok ?_
 intro K hK
 simp -implicitDefEqProofs (disch := first | decide | assumption | omega) only [go_sem, BoxAt.el88R hb0_1, BoxAt.el88L hb0_1, wrap_id, sbs, Int.toNat_zero]
 refine op_alloc (cs := el88A z512) (by kernel_rfl) ?_
 intro h1_0 e1_0 hb1_0 z1_0
 replace hb0_0 := BoxAt.ext hb0_0 e1_0
 replace hb0_1 := BoxAt.ext hb0_1 e1_0
 have := Ext.size e1_0
 replace eB := Ext.trans eB e1_0
 have hfhb1_0 : Fresh h0_1.size [h0_1.size] := Fresh.one _
 have hlhb1_0 := one_lt (show h0_1.size < h1_0.size by omega)
 try simp -implicitDefEqProofs (disch := first | decide | assumption | omega) only [go_sem, BoxAt.el88R hb0_1, BoxAt.el88L hb0_1, wrap_id, sbs, Int.toNat_zero]
 refine hK _ _ ?_
 clear hK K
 refine den_seq ?_
 refine den_seq ?_
 refine den_region TTok ?_
 intro K hK
 simp -implicitDefEqProofs (disch := first | decide | assumption | omega) only [go_sem, wrap_id, sbs, Int.toNat_zero]
 refine hK _ _ ?_
 clear hK K
 refine den_block ?_
 refine den_sel [4, 1, 2, 3] ?_
 intro env_1
 simp only [go_sem]
 refine den_loopS (σ := Nat) (fun st_ => [(4, .int .i64 (st_ : Int))]) (fun st_ H => (st_ ≤ 8) ∧ (BoxAt H (h0_1.size) (el88A (cpF z64 f st_)) 32) ∧ (Chg [h0_1.size] h1_0 H)) (fun st_ => 8 - st_) 0 ?_ ?_
 ·exact ⟨by first | (simp; done) | (dsimp only; omega) | (simp; omega), by rw [cpF_z512]; exact hb1_0, Chg.refl _ _⟩
 ·rintro i h4 ee3 ⟨hi0, hbx3, cL2⟩
  replace hb0_0 := BoxAt.chgA hb0_0 cL2 (apart_lt hlhb0_0 hfhb1_0 (by omega))
  replace hb0_1 := BoxAt.chgA hb0_1 cL2 (apart_lt hlhb0_1 hfhb1_0 (by omega))
  have := cL2.size
  replace eB := Ext.then eB cL2 (ge_of hfhb1_0 (by omega))
  have hfhbx3 := hfhb1_0
  have hlhbx3 := hlhb1_0
  simp only [List.cons_append, List.nil_append]
  refine den_seq ?_
  refine den_seq ?_
  refine den_region TTok ?_
  intro K hK
  simp -implicitDefEqProofs (disch := first | decide | assumption | omega) only [go_sem, wrap_id, sbs, Int.toNat_zero]
  refine hK _ _ ?_
  clear hK K
  refine den_cond rfl (fun c0 => ?_) (fun c0 => ?_)
  ·try simp only [ddA] at c0
   refine den_skip ?_
   refine den_seq ?_
   refine den_block ?_
   refine den_region TTok ?_
   intro K hK
   simp -implicitDefEqProofs (disch := first | decide | assumption | omega) only [go_sem, Int.toNat_zero, ia25, BoxAt.el88R hb0_0, BoxAt.el88L hb0_0, wrap_id, sbs, Int.toNat_zero]
   try simp -implicitDefEqProofs (disch := first | decide | assumption | omega) only [go_sem, BoxAt.el88R hb0_1, BoxAt.el88L hb0_1, wrap_id, sbs, Int.toNat_zero]
   refine CallA.mono (toE8_ok  (f i) _  ) ?_
   intro v_ h5_4
   rintro ⟨rfl, e5_4⟩
   replace hb0_0 := BoxAt.ext hb0_0 e5_4
   replace hb0_1 := BoxAt.ext hb0_1 e5_4
   replace hbx3 := BoxAt.ext hbx3 e5_4
   have := Ext.size e5_4
   replace eB := Ext.trans eB e5_4
   replace cL2 := Chg.stepE cL2 e5_4
   try simp -implicitDefEqProofs (disch := first | decide | assumption | omega) only [go_sem, Int.toNat_zero, ia32, BoxAt.el88R hbx3, BoxAt.el88L hbx3, wrap_id, sbs, Int.toNat_zero]
   refine op_storeB (o := i * 64) (vs := el8A (f i)) (cs' := el88A (updF (cpF z64 f i) i (f i))) st31 hbx3 rfl rfl (el8A_sz _) (by rw [el88A_sz]; omega) el8A_one (el88_upd (by omega)) ?_
   intro h5_6 hbx3 c5_6
   replace hb0_0 := BoxAt.chgA hb0_0 c5_6 (apart_lt hlhb0_0 hfhbx3 (by omega))
   replace hb0_1 := BoxAt.chgA hb0_1 c5_6 (apart_lt hlhb0_1 hfhbx3 (by omega))
   have := c5_6.size
   replace eB := Ext.then eB c5_6 (ge_of hfhbx3 (by omega))
   replace cL2 := Chg.step cL2 c5_6 Sub.refl
   try simp -implicitDefEqProofs (disch := first | decide | assumption | omega) only [go_sem, BoxAt.el88R hb0_1, BoxAt.el88L hb0_1, wrap_id, sbs, Int.toNat_zero]
   refine hK _ _ ?_
   clear hK K
   refine den_blk ?_
   refine den_region TTok ?_
   intro K hK
   simp -implicitDefEqProofs (disch := first | decide | assumption | omega) only [go_sem, wrap_id, sbs, Int.toNat_zero]
   refine hK _ _ ?_
   clear hK K
   refine den_stop ?_
   rw [cp_updF] at hbx3
   exact ⟨i + 1, by simp [HasL, puts_at], ⟨by first | omega | (dsimp only; omega), hbx3, cL2⟩, by first | omega | (dsimp only; omega)⟩
  ·try simp only [ddA] at c0
   refine den_exit ?_
   refine denX_code ?_
   refine denX_stop ?_
   refine denX_hit ?_
   refine den_seq ?_
   refine den_region TTok ?_
   intro K hK
   simp -implicitDefEqProofs (disch := first | decide | assumption | omega) only [go_sem, BoxAt.el88R hbx3, BoxAt.el88L hbx3, wrap_id, sbs, Int.toNat_zero]
   refine op_storeB (o := 0) (vs := el88A (cpF z64 f i)) (cs' := el88A (cpF z64 f i)) st32 hb0_1 rfl rfl (el88A_sz _) (by rw [el88A_sz]; decide) el88A_one el88A_all ?_
   intro h6_1 hb0_1 c6_1
   replace hbx3 := BoxAt.chgA hbx3 c6_1 (apart_gt hfhbx3 hlhb0_1 (by omega))
   have := c6_1.size
   replace eB := Ext.then eB c6_1 (ge_of hfhb0_1 (by omega))
   try simp -implicitDefEqProofs (disch := first | decide | assumption | omega) only [go_sem, BoxAt.el88R hb0_1, BoxAt.el88L hb0_1, wrap_id, sbs, Int.toNat_zero]
   refine hK _ _ ?_
   clear hK K
   refine den_ret ?_
   simp -implicitDefEqProofs (disch := first | decide | assumption | omega) only [go_sem, BoxAt.el88R hb0_1, BoxAt.el88L hb0_1, wrap_id, sbs, Int.toNat_zero, resP_c1, ld32]
   rw [show i = 8 by omega]
   exact ⟨by rw [el88_cp], eB⟩

set_option maxRecDepth 100000 in
set_option maxHeartbeats 4000000 in
theorem toDg_ok (X : Dg) (h : Heap)   : CallA Try.prog 9 #[.agg (dgA X)] h fun v' h' => v' = .agg (dgA (X)) ∧ Ext h h' := by
 refine callA_intro TTok (args := [_]) Try.func9 (by kernel_rfl) rfl 27 rfl (by simp) [.cell 2 34] rfl ?_
 simp only [idxs, Nat.reduceAdd]
 refine den_seq ?_
 refine den_region TTok ?_
 intro K hK
 simp -implicitDefEqProofs (disch := first | decide | assumption | omega) only [go_sem, wrap_id, sbs, Int.toNat_zero]
 refine op_box (cs := dgA X) rfl ?_
 intro h0_0 e0_0 hb0_0 z0_0
 have := Ext.size e0_0
 have eB := e0_0
 have hfhb0_0 : Fresh h.size [h.size] := Fresh.one _
 have hlhb0_0 := one_lt (show h.size < h0_0.size by omega)
 try simp -implicitDefEqProofs (disch := first | decide | assumption | omega) only [go_sem, wrap_id, sbs, Int.toNat_zero]
 refine op_alloc (cs := dgA dgZ) (by kernel_rfl) ?_
 intro h0_1 e0_1 hb0_1 z0_1
 replace hb0_0 := BoxAt.ext hb0_0 e0_1
 have := Ext.size e0_1
 replace eB := Ext.trans eB e0_1
 have hfhb0_1 : Fresh h0_0.size [h0_0.size] := Fresh.one _
 have hlhb0_1 := one_lt (show h0_0.size < h0_1.size by omega)
 try simp -implicitDefEqProofs (disch := first | decide | assumption | omega) only [go_sem, BoxAt.dgs hb0_1, BoxAt.dgLL hb0_1, BoxAt.dgDegL hb0_1, BoxAt.dgLevL hb0_1, BoxAt.dgDifA hb0_1, BoxAt.dgTabA hb0_1, wrap_id, sbs, Int.toNat_zero]
 refine hK _ _ ?_
 clear hK K
 refine den_seq ?_
 refine den_region TTok ?_
 intro K hK
 simp -implicitDefEqProofs (disch := first | decide | assumption | omega) only [go_sem, BoxAt.dgs hb0_1, BoxAt.dgLL hb0_1, BoxAt.dgDegL hb0_1, BoxAt.dgLevL hb0_1, BoxAt.dgDifA hb0_1, BoxAt.dgTabA hb0_1, wrap_id, sbs, Int.toNat_zero]
 refine op_alloc (cs := dgA dgZ) (by kernel_rfl) ?_
 intro h1_0 e1_0 hb1_0 z1_0
 replace hb0_0 := BoxAt.ext hb0_0 e1_0
 replace hb0_1 := BoxAt.ext hb0_1 e1_0
 have := Ext.size e1_0
 replace eB := Ext.trans eB e1_0
 have hfhb1_0 : Fresh h0_1.size [h0_1.size] := Fresh.one _
 have hlhb1_0 := one_lt (show h0_1.size < h1_0.size by omega)
 try simp -implicitDefEqProofs (disch := first | decide | assumption | omega) only [go_sem, BoxAt.dgs hb0_1, BoxAt.dgLL hb0_1, BoxAt.dgDegL hb0_1, BoxAt.dgLevL hb0_1, BoxAt.dgDifA hb0_1, BoxAt.dgTabA hb0_1, wrap_id, sbs, Int.toNat_zero]
 refine hK _ _ ?_
 clear hK K
 refine den_seq ?_
 refine den_region TTok ?_
 intro K hK
 simp -implicitDefEqProofs (disch := first | decide | assumption | omega) only [go_sem, fa34_0, fa27_0, ld2, BoxAt.dgs hb0_0, BoxAt.dgLL hb0_0, BoxAt.dgDegL hb0_0, BoxAt.dgLevL hb0_0, BoxAt.dgDifA hb0_0, BoxAt.dgTabA hb0_0, BoxAt.dgs hb1_0, BoxAt.dgLL hb1_0, BoxAt.dgDegL hb1_0, BoxAt.dgLevL hb1_0, BoxAt.dgDifA hb1_0, BoxAt.dgTabA hb1_0, wrap_id, sbs, Int.toNat_zero]
 refine op_storeB (o := 0) (vs := #[.int .i64 X.p]) (cs' := dgA ({ dgZ with p := X.p })) st2 hb1_0 rfl rfl rfl (by rw [dgA_sz]; decide) i64_one dg_p ?_
 intro h2_3 hb1_0 c2_3
 replace hb0_0 := BoxAt.chgA hb0_0 c2_3 (apart_lt hlhb0_0 hfhb1_0 (by omega))
 replace hb0_1 := BoxAt.chgA hb0_1 c2_3 (apart_lt hlhb0_1 hfhb1_0 (by omega))
 have := c2_3.size
 replace eB := Ext.then eB c2_3 (ge_of hfhb1_0 (by omega))
 try simp -implicitDefEqProofs (disch := first | decide | assumption | omega) only [go_sem, BoxAt.dgs hb0_1, BoxAt.dgLL hb0_1, BoxAt.dgDegL hb0_1, BoxAt.dgLevL hb0_1, BoxAt.dgDifA hb0_1, BoxAt.dgTabA hb0_1, wrap_id, sbs, Int.toNat_zero]
 refine hK _ _ ?_
 clear hK K
 refine den_seq ?_
 refine den_region TTok ?_
 intro K hK
 simp -implicitDefEqProofs (disch := first | decide | assumption | omega) only [go_sem, fa34_1, fa27_1, ld2, BoxAt.dgs hb0_0, BoxAt.dgLL hb0_0, BoxAt.dgDegL hb0_0, BoxAt.dgLevL hb0_0, BoxAt.dgDifA hb0_0, BoxAt.dgTabA hb0_0, BoxAt.dgs hb1_0, BoxAt.dgLL hb1_0, BoxAt.dgDegL hb1_0, BoxAt.dgLevL hb1_0, BoxAt.dgDifA hb1_0, BoxAt.dgTabA hb1_0, wrap_id, sbs, Int.toNat_zero]
 refine op_storeB (o := 1) (vs := #[.int .i64 X.s]) (cs' := dgA ({ { dgZ with p := X.p } with s := X.s })) st2 hb1_0 rfl rfl rfl (by rw [dgA_sz]; decide) i64_one dg_s ?_
 intro h3_3 hb1_0 c3_3
 replace hb0_0 := BoxAt.chgA hb0_0 c3_3 (apart_lt hlhb0_0 hfhb1_0 (by omega))
 replace hb0_1 := BoxAt.chgA hb0_1 c3_3 (apart_lt hlhb0_1 hfhb1_0 (by omega))
 have := c3_3.size
 replace eB := Ext.then eB c3_3 (ge_of hfhb1_0 (by omega))
 try simp -implicitDefEqProofs (disch := first | decide | assumption | omega) only [go_sem, BoxAt.dgs hb0_1, BoxAt.dgLL hb0_1, BoxAt.dgDegL hb0_1, BoxAt.dgLevL hb0_1, BoxAt.dgDifA hb0_1, BoxAt.dgTabA hb0_1, wrap_id, sbs, Int.toNat_zero]
 refine hK _ _ ?_
 clear hK K
 refine den_seq ?_
 refine den_region TTok ?_
 intro K hK
 simp -implicitDefEqProofs (disch := first | decide | assumption | omega) only [go_sem, fa27_2, BoxAt.dgs hb0_0, BoxAt.dgLL hb0_0, BoxAt.dgDegL hb0_0, BoxAt.dgLevL hb0_0, BoxAt.dgDifA hb0_0, BoxAt.dgTabA hb0_0, wrap_id, sbs, Int.toNat_zero]
 try simp -implicitDefEqProofs (disch := first | decide | assumption | omega) only [go_sem, BoxAt.dgs hb0_1, BoxAt.dgLL hb0_1, BoxAt.dgDegL hb0_1, BoxAt.dgLevL hb0_1, BoxAt.dgDifA hb0_1, BoxAt.dgTabA hb0_1, wrap_id, sbs, Int.toNat_zero]
 refine CallA.mono (toI8_ok  X.deg _  ) ?_
 intro v_ h4_2
 rintro ⟨rfl, e4_2⟩
 replace hb0_0 := BoxAt.ext hb0_0 e4_2
 replace hb0_1 := BoxAt.ext hb0_1 e4_2
 replace hb1_0 := BoxAt.ext hb1_0 e4_2
 have := Ext.size e4_2
 replace eB := Ext.trans eB e4_2
 try simp -implicitDefEqProofs (disch := first | decide | assumption | omega) only [go_sem, fa34_2, BoxAt.dgs hb1_0, BoxAt.dgLL hb1_0, BoxAt.dgDegL hb1_0, BoxAt.dgLevL hb1_0, BoxAt.dgDifA hb1_0, BoxAt.dgTabA hb1_0, wrap_id, sbs, Int.toNat_zero]
 refine op_storeB (o := 2) (vs := in8A X.deg) (cs' := dgA ({ { { dgZ with p := X.p } with s := X.s } with deg := X.deg })) st22 hb1_0 rfl rfl (in8A_sz _) (by rw [dgA_sz]; decide) in8A_one dg_deg ?_
 intro h4_4 hb1_0 c4_4
 replace hb0_0 := BoxAt.chgA hb0_0 c4_4 (apart_lt hlhb0_0 hfhb1_0 (by omega))
 replace hb0_1 := BoxAt.chgA hb0_1 c4_4 (apart_lt hlhb0_1 hfhb1_0 (by omega))
 have := c4_4.size
 replace eB := Ext.then eB c4_4 (ge_of hfhb1_0 (by omega))
 try simp -implicitDefEqProofs (disch := first | decide | assumption | omega) only [go_sem, BoxAt.dgs hb0_1, BoxAt.dgLL hb0_1, BoxAt.dgDegL hb0_1, BoxAt.dgLevL hb0_1, BoxAt.dgDifA hb0_1, BoxAt.dgTabA hb0_1, wrap_id, sbs, Int.toNat_zero]
 refine hK _ _ ?_
 clear hK K
 refine den_seq ?_
 refine den_region TTok ?_
 intro K hK
 simp -implicitDefEqProofs (disch := first | decide | assumption | omega) only [go_sem, fa27_3, BoxAt.dgs hb0_0, BoxAt.dgLL hb0_0, BoxAt.dgDegL hb0_0, BoxAt.dgLevL hb0_0, BoxAt.dgDifA hb0_0, BoxAt.dgTabA hb0_0, wrap_id, sbs, Int.toNat_zero]
 try simp -implicitDefEqProofs (disch := first | decide | assumption | omega) only [go_sem, BoxAt.dgs hb0_1, BoxAt.dgLL hb0_1, BoxAt.dgDegL hb0_1, BoxAt.dgLevL hb0_1, BoxAt.dgDifA hb0_1, BoxAt.dgTabA hb0_1, wrap_id, sbs, Int.toNat_zero]
 refine CallA.mono (toI8_ok  X.lev _  ) ?_
 intro v_ h5_2
 rintro ⟨rfl, e5_2⟩
 replace hb0_0 := BoxAt.ext hb0_0 e5_2
 replace hb0_1 := BoxAt.ext hb0_1 e5_2
 replace hb1_0 := BoxAt.ext hb1_0 e5_2
 have := Ext.size e5_2
 replace eB := Ext.trans eB e5_2
 try simp -implicitDefEqProofs (disch := first | decide | assumption | omega) only [go_sem, fa34_3, BoxAt.dgs hb1_0, BoxAt.dgLL hb1_0, BoxAt.dgDegL hb1_0, BoxAt.dgLevL hb1_0, BoxAt.dgDifA hb1_0, BoxAt.dgTabA hb1_0, wrap_id, sbs, Int.toNat_zero]
 refine op_storeB (o := 10) (vs := in8A X.lev) (cs' := dgA ({ { { { dgZ with p := X.p } with s := X.s } with deg := X.deg } with lev := X.lev })) st22 hb1_0 rfl rfl (in8A_sz _) (by rw [dgA_sz]; decide) in8A_one dg_lev ?_
 intro h5_4 hb1_0 c5_4
 replace hb0_0 := BoxAt.chgA hb0_0 c5_4 (apart_lt hlhb0_0 hfhb1_0 (by omega))
 replace hb0_1 := BoxAt.chgA hb0_1 c5_4 (apart_lt hlhb0_1 hfhb1_0 (by omega))
 have := c5_4.size
 replace eB := Ext.then eB c5_4 (ge_of hfhb1_0 (by omega))
 try simp -implicitDefEqProofs (disch := first | decide | assumption | omega) only [go_sem, BoxAt.dgs hb0_1, BoxAt.dgLL hb0_1, BoxAt.dgDegL hb0_1, BoxAt.dgLevL hb0_1, BoxAt.dgDifA hb0_1, BoxAt.dgTabA hb0_1, wrap_id, sbs, Int.toNat_zero]
 refine hK _ _ ?_
 clear hK K
 refine den_seq ?_
 refine den_region TTok ?_
 intro K hK
 simp -implicitDefEqProofs (disch := first | decide | assumption | omega) only [go_sem, fa27_4, BoxAt.dgs hb0_0, BoxAt.dgLL hb0_0, BoxAt.dgDegL hb0_0, BoxAt.dgLevL hb0_0, BoxAt.dgDifA hb0_0, BoxAt.dgTabA hb0_0, wrap_id, sbs, Int.toNat_zero]
 try simp -implicitDefEqProofs (disch := first | decide | assumption | omega) only [go_sem, BoxAt.dgs hb0_1, BoxAt.dgLL hb0_1, BoxAt.dgDegL hb0_1, BoxAt.dgLevL hb0_1, BoxAt.dgDifA hb0_1, BoxAt.dgTabA hb0_1, wrap_id, sbs, Int.toNat_zero]
 refine CallA.mono (toE8_ok  X.dif _  ) ?_
 intro v_ h6_2
 rintro ⟨rfl, e6_2⟩
 replace hb0_0 := BoxAt.ext hb0_0 e6_2
 replace hb0_1 := BoxAt.ext hb0_1 e6_2
 replace hb1_0 := BoxAt.ext hb1_0 e6_2
 have := Ext.size e6_2
 replace eB := Ext.trans eB e6_2
 try simp -implicitDefEqProofs (disch := first | decide | assumption | omega) only [go_sem, fa34_4, BoxAt.dgs hb1_0, BoxAt.dgLL hb1_0, BoxAt.dgDegL hb1_0, BoxAt.dgLevL hb1_0, BoxAt.dgDifA hb1_0, BoxAt.dgTabA hb1_0, wrap_id, sbs, Int.toNat_zero]
 refine op_storeB (o := 18) (vs := el8A X.dif) (cs' := dgA ({ { { { { dgZ with p := X.p } with s := X.s } with deg := X.deg } with lev := X.lev } with dif := X.dif })) st31 hb1_0 rfl rfl (el8A_sz _) (by rw [dgA_sz]; decide) el8A_one dg_dif ?_
 intro h6_4 hb1_0 c6_4
 replace hb0_0 := BoxAt.chgA hb0_0 c6_4 (apart_lt hlhb0_0 hfhb1_0 (by omega))
 replace hb0_1 := BoxAt.chgA hb0_1 c6_4 (apart_lt hlhb0_1 hfhb1_0 (by omega))
 have := c6_4.size
 replace eB := Ext.then eB c6_4 (ge_of hfhb1_0 (by omega))
 try simp -implicitDefEqProofs (disch := first | decide | assumption | omega) only [go_sem, BoxAt.dgs hb0_1, BoxAt.dgLL hb0_1, BoxAt.dgDegL hb0_1, BoxAt.dgLevL hb0_1, BoxAt.dgDifA hb0_1, BoxAt.dgTabA hb0_1, wrap_id, sbs, Int.toNat_zero]
 refine hK _ _ ?_
 clear hK K
 refine den_seq ?_
 refine den_region TTok ?_
 intro K hK
 simp -implicitDefEqProofs (disch := first | decide | assumption | omega) only [go_sem, fa27_5, BoxAt.dgs hb0_0, BoxAt.dgLL hb0_0, BoxAt.dgDegL hb0_0, BoxAt.dgLevL hb0_0, BoxAt.dgDifA hb0_0, BoxAt.dgTabA hb0_0, wrap_id, sbs, Int.toNat_zero]
 try simp -implicitDefEqProofs (disch := first | decide | assumption | omega) only [go_sem, BoxAt.dgs hb0_1, BoxAt.dgLL hb0_1, BoxAt.dgDegL hb0_1, BoxAt.dgLevL hb0_1, BoxAt.dgDifA hb0_1, BoxAt.dgTabA hb0_1, wrap_id, sbs, Int.toNat_zero]
 refine CallA.mono (toE88_ok  X.tab _  ) ?_
 intro v_ h7_2
 rintro ⟨rfl, e7_2⟩
 replace hb0_0 := BoxAt.ext hb0_0 e7_2
 replace hb0_1 := BoxAt.ext hb0_1 e7_2
 replace hb1_0 := BoxAt.ext hb1_0 e7_2
 have := Ext.size e7_2
 replace eB := Ext.trans eB e7_2
 try simp -implicitDefEqProofs (disch := first | decide | assumption | omega) only [go_sem, fa34_5, BoxAt.dgs hb1_0, BoxAt.dgLL hb1_0, BoxAt.dgDegL hb1_0, BoxAt.dgLevL hb1_0, BoxAt.dgDifA hb1_0, BoxAt.dgTabA hb1_0, wrap_id, sbs, Int.toNat_zero]
 refine op_storeB (o := 82) (vs := el88A X.tab) (cs' := dgA ({ { { { { { dgZ with p := X.p } with s := X.s } with deg := X.deg } with lev := X.lev } with dif := X.dif } with tab := X.tab })) st32 hb1_0 rfl rfl (el88A_sz _) (by rw [dgA_sz]; decide) el88A_one dg_tab ?_
 intro h7_4 hb1_0 c7_4
 replace hb0_0 := BoxAt.chgA hb0_0 c7_4 (apart_lt hlhb0_0 hfhb1_0 (by omega))
 replace hb0_1 := BoxAt.chgA hb0_1 c7_4 (apart_lt hlhb0_1 hfhb1_0 (by omega))
 have := c7_4.size
 replace eB := Ext.then eB c7_4 (ge_of hfhb1_0 (by omega))
 try simp -implicitDefEqProofs (disch := first | decide | assumption | omega) only [go_sem, BoxAt.dgs hb0_1, BoxAt.dgLL hb0_1, BoxAt.dgDegL hb0_1, BoxAt.dgLevL hb0_1, BoxAt.dgDifA hb0_1, BoxAt.dgTabA hb0_1, wrap_id, sbs, Int.toNat_zero]
 refine hK _ _ ?_
 clear hK K
 refine den_seq ?_
 refine den_region TTok ?_
 intro K hK
 simp -implicitDefEqProofs (disch := first | decide | assumption | omega) only [go_sem, BoxAt.dgs hb1_0, BoxAt.dgLL hb1_0, BoxAt.dgDegL hb1_0, BoxAt.dgLevL hb1_0, BoxAt.dgDifA hb1_0, BoxAt.dgTabA hb1_0, wrap_id, sbs, Int.toNat_zero]
 refine op_storeB (o := 0) (vs := dgA ({ { { { { { dgZ with p := X.p } with s := X.s } with deg := X.deg } with lev := X.lev } with dif := X.dif } with tab := X.tab })) (cs' := dgA ({ { { { { { dgZ with p := X.p } with s := X.s } with deg := X.deg } with lev := X.lev } with dif := X.dif } with tab := X.tab })) st34 hb0_1 rfl rfl (dgA_sz _) (by rw [dgA_sz]; decide) dgA_one dgA_all ?_
 intro h8_1 hb0_1 c8_1
 replace hb1_0 := BoxAt.chgA hb1_0 c8_1 (apart_gt hfhb1_0 hlhb0_1 (by omega))
 have := c8_1.size
 replace eB := Ext.then eB c8_1 (ge_of hfhb0_1 (by omega))
 try simp -implicitDefEqProofs (disch := first | decide | assumption | omega) only [go_sem, BoxAt.dgs hb0_1, BoxAt.dgLL hb0_1, BoxAt.dgDegL hb0_1, BoxAt.dgLevL hb0_1, BoxAt.dgDifA hb0_1, BoxAt.dgTabA hb0_1, wrap_id, sbs, Int.toNat_zero]
 refine hK _ _ ?_
 clear hK K
 refine den_ret ?_
 simp -implicitDefEqProofs (disch := first | decide | assumption | omega) only [go_sem, BoxAt.dgs hb0_1, BoxAt.dgLL hb0_1, BoxAt.dgDegL hb0_1, BoxAt.dgLevL hb0_1, BoxAt.dgDifA hb0_1, BoxAt.dgTabA hb0_1, wrap_id, sbs, Int.toNat_zero, resP_c1, ld34]
 first | exact eB | exact ⟨by first | rfl | trivial, eB⟩
end Go.Proofs.Ytacajcjibhifmaa

namespace Go.Proofs.Ytacajcjibhifmaa
open Go
set_option maxRecDepth 100000 in
set_option maxHeartbeats 4000000 in
theorem exactHomologySizes_law (X : Dg) (h : Heap)  (hB : DgB X) : CallA Try.prog 7 #[.agg (dgA X)] h fun v' h' => v' = .bool (true) ∧ Ext h h' := by
 have hci := cnt_hs hB
 refine callA_intro TTok (args := [_]) Try.func7 (by kernel_rfl) rfl 66 rfl (by simp) [.tmp 2] rfl ?_
 simp only [idxs, Nat.reduceAdd]
 refine den_seq ?_
 refine den_region TTok ?_
 intro K hK
 simp -implicitDefEqProofs (disch := first | decide | assumption | omega) only [go_sem, wrap_id, sbs, Int.toNat_zero]
 refine op_box (cs := dgA X) rfl ?_
 intro h0_0 e0_0 hb0_0 z0_0
 have := Ext.size e0_0
 have eB := e0_0
 have hfhb0_0 : Fresh h.size [h.size] := Fresh.one _
 have hlhb0_0 := one_lt (show h.size < h0_0.size by omega)
 try simp -implicitDefEqProofs (disch := first | decide | assumption | omega) only [go_sem, wrap_id, sbs, Int.toNat_zero]
 refine hK _ _ ?_
 clear hK K
 refine den_seq ?_
 refine den_region TTok ?_
 intro K hK
 simp -implicitDefEqProofs (disch := first | decide | assumption | omega) only [go_sem, BoxAt.dgs hb0_0, BoxAt.dgLL hb0_0, BoxAt.dgDegL hb0_0, BoxAt.dgLevL hb0_0, BoxAt.dgDifA hb0_0, BoxAt.dgTabA hb0_0, wrap_id, sbs, Int.toNat_zero]
 try simp -implicitDefEqProofs (disch := first | decide | assumption | omega) only [go_sem, wrap_id, sbs, Int.toNat_zero]
 refine CallA.mono (toDg_ok  X _  ) ?_
 intro v_ h1_1
 rintro ⟨rfl, e1_1⟩
 replace hb0_0 := BoxAt.ext hb0_0 e1_1
 have := Ext.size e1_1
 replace eB := Ext.trans eB e1_1
 try simp -implicitDefEqProofs (disch := first | decide | assumption | omega) only [go_sem, wrap_id, sbs, Int.toNat_zero]
 try simp -implicitDefEqProofs (disch := first | decide | assumption | omega) only [go_sem, wrap_id, sbs, Int.toNat_zero]
 refine CallA.mono (sHS_ok  X _  hB) ?_
 intro v_ h1_2
 rintro ⟨vw1_2_0, fw1_2_0, rfl, how1_2_0, hfw1_2_0, e1_2⟩
 replace hb0_0 := BoxAt.ext hb0_0 e1_2
 have := Ext.size e1_2
 replace eB := Ext.trans eB e1_2
 have hlhow1_2_0 := OS.lt how1_2_0
 try simp -implicitDefEqProofs (disch := first | decide | assumption | omega) only [go_sem, wrap_id, sbs, Int.toNat_zero]
 refine hK _ _ ?_
 clear hK K
 refine den_seq ?_
 refine den_region TTok ?_
 intro K hK
 simp -implicitDefEqProofs (disch := first | decide | assumption | omega) only [go_sem, BoxAt.dgs hb0_0, BoxAt.dgLL hb0_0, BoxAt.dgDegL hb0_0, BoxAt.dgLevL hb0_0, BoxAt.dgDifA hb0_0, BoxAt.dgTabA hb0_0, wrap_id, sbs, Int.toNat_zero]
 try simp -implicitDefEqProofs (disch := first | decide | assumption | omega) only [go_sem, wrap_id, sbs, Int.toNat_zero]
 refine CallA.mono (toDg_ok  X _  ) ?_
 intro v_ h2_1
 rintro ⟨rfl, e2_1⟩
 replace how1_2_0 := OS.ext how1_2_0 e2_1
 replace hb0_0 := BoxAt.ext hb0_0 e2_1
 have := Ext.size e2_1
 replace eB := Ext.trans eB e2_1
 try simp -implicitDefEqProofs (disch := first | decide | assumption | omega) only [go_sem, wrap_id, sbs, Int.toNat_zero]
 try simp -implicitDefEqProofs (disch := first | decide | assumption | omega) only [go_sem, wrap_id, sbs, Int.toNat_zero]
 refine CallA.mono (iHS_ok  X _  hB) ?_
 intro v_ h2_2
 rintro ⟨vw2_2_0, fw2_2_0, rfl, how2_2_0, hfw2_2_0, e2_2⟩
 replace how1_2_0 := OS.ext how1_2_0 e2_2
 replace hb0_0 := BoxAt.ext hb0_0 e2_2
 have := Ext.size e2_2
 replace eB := Ext.trans eB e2_2
 have hlhow2_2_0 := OS.lt how2_2_0
 try simp -implicitDefEqProofs (disch := first | decide | assumption | omega) only [go_sem, wrap_id, sbs, Int.toNat_zero]
 refine hK _ _ ?_
 clear hK K
 refine den_seq ?_
 refine den_seq ?_
 refine den_mergeH [(31, .bool (((!(true)) || (((hsR X).2) != ((hsR X).2)))))] [1, 3, 4, 5] ?_ ?_
  -- a way
 ·refine den_region TTok ?_
  intro K hK
  simp -implicitDefEqProofs (disch := first | decide | assumption | (simp (disch := decide) only [gvA, eq_self, if_true, if_false, Bool.false_eq_true]; done) | omega) only [go_sem, wrap_id, sbs, Int.toNat_zero]
  try simp -implicitDefEqProofs (disch := first | decide | assumption | omega) only [go_sem, wrap_id, sbs, Int.toNat_zero]
  refine CallA.pure (eqS_same _ _ _ _ (OS.rd how2_2_0) (OS.rd how1_2_0)) ?_
  try simp -implicitDefEqProofs (disch := first | decide | assumption | (simp (disch := decide) only [gvA, eq_self, if_true, if_false, Bool.false_eq_true]; done) | omega) only [go_sem, wrap_id, sbs, Int.toNat_zero]
  try simp -implicitDefEqProofs (disch := first | decide | assumption | (simp (disch := decide) only [gvA, eq_self, if_true, if_false, Bool.false_eq_true]; done) | omega) only [go_sem, wrap_id, sbs, Int.toNat_zero]
  refine hK _ _ ?_
  clear hK K
  refine den_stop ?_
  refine ⟨?_, rfl⟩
  first | (simp (disch := decide) only [go_sem, eq_self, Bool.true_and, Bool.and_true, Bool.false_and, Bool.and_false, Bool.true_or, Bool.or_true, Bool.false_or, Bool.or_false, if_true, if_false, Bool.false_eq_true]; done) | simp [HasL, sel, puts_at]
 intro en1
 simp (disch := decide) only [go_sem]
 refine den_cond rfl (fun c0 => ?_) (fun c0 => ?_)
 ·try simp only [ddA] at c0
  refine den_seq ?_
  refine den_region TTok ?_
  intro K hK
  simp -implicitDefEqProofs (disch := first | decide | assumption | omega) only [go_sem, wrap_id, sbs, Int.toNat_zero]
  refine hK _ _ ?_
  clear hK K
  refine den_ret ?_
  simp (disch := decide) only [resP_1, puts_same, puts_ne]
  exact absurd c0 (by first | (simp; done) | (simp; omega) | omega | (simp [eqC_self]; done))
 ·try simp only [ddA] at c0
  refine den_skip ?_
  refine den_seq ?_
  refine den_region TTok ?_
  intro K hK
  simp -implicitDefEqProofs (disch := first | decide | assumption | omega) only [go_sem, wrap_id, sbs, Int.toNat_zero]
  refine hK _ _ ?_
  clear hK K
  refine den_seq ?_
  refine den_region TTok ?_
  intro K hK
  simp -implicitDefEqProofs (disch := first | decide | assumption | omega) only [go_sem, wrap_id, sbs, Int.toNat_zero]
  try simp -implicitDefEqProofs (disch := first | decide | assumption | omega) only [go_sem, wrap_id, sbs, Int.toNat_zero]
  refine CallA.mono (markS_ok _ ((hsR X).1) (1 : Int) _ _ how2_2_0 hfw2_2_0.nodup (by omega)) ?_
  intro v_ h6_2
  rintro ⟨rfl, hog6_2, cg6_2⟩
  replace how1_2_0 := OS.chg how1_2_0 cg6_2 (apart_lt hlhow1_2_0 hfw2_2_0 (by omega))
  replace hb0_0 := BoxAt.chgA hb0_0 cg6_2 (apart_lt hlhb0_0 hfw2_2_0 (by omega))
  have := cg6_2.size
  replace eB := Ext.then eB cg6_2 (ge_of hfw2_2_0 (by omega))
  have hlhog6_2 := hlhow2_2_0
  try simp -implicitDefEqProofs (disch := first | decide | assumption | omega) only [go_sem, wrap_id, sbs, Int.toNat_zero]
  refine hK _ _ ?_
  clear hK K
  refine den_seq ?_
  refine den_region TTok ?_
  intro K hK
  simp -implicitDefEqProofs (disch := first | decide | assumption | omega) only [go_sem, wrap_id, sbs, Int.toNat_zero]
  refine hK _ _ ?_
  clear hK K
  refine den_seq ?_
  refine den_region TTok ?_
  intro K hK
  simp -implicitDefEqProofs (disch := first | decide | assumption | omega) only [go_sem, wrap_id, sbs, Int.toNat_zero]
  try simp -implicitDefEqProofs (disch := first | decide | assumption | omega) only [go_sem, wrap_id, sbs, Int.toNat_zero]
  refine CallA.pure (heldS_ok _ ((hsR X).1) (1 : Int) _ (OS.rd hog6_2) (by omega)) ?_
  try simp -implicitDefEqProofs (disch := first | decide | assumption | omega) only [go_sem, wrap_id, sbs, Int.toNat_zero]
  refine hK _ _ ?_
  clear hK K
  refine den_seq ?_
  refine den_seq ?_
  refine den_region TTok ?_
  intro K hK
  simp -implicitDefEqProofs (disch := first | decide | assumption | omega) only [go_sem, wrap_id, sbs, Int.toNat_zero]
  refine hK _ _ ?_
  clear hK K
  refine den_cond rfl (fun c1 => ?_) (fun c1 => ?_)
  ·try simp only [ddA] at c1
   refine den_seq ?_
   refine den_region TTok ?_
   intro K hK
   simp -implicitDefEqProofs (disch := first | decide | assumption | omega) only [go_sem, wrap_id, sbs, Int.toNat_zero]
   refine hK _ _ ?_
   clear hK K
   refine den_ret ?_
   simp (disch := decide) only [resP_1, puts_same, puts_ne]
   exact absurd c1 (by first | (simp; done) | (simp; omega) | omega | (simp [eqC_self]; done))
  ·try simp only [ddA] at c1
   refine den_skip ?_
   refine den_seq ?_
   refine den_seq ?_
   refine den_region TTok ?_
   intro K hK
   simp -implicitDefEqProofs (disch := first | decide | assumption | omega) only [go_sem, wrap_id, sbs, Int.toNat_zero]
   refine hK _ _ ?_
   clear hK K
   refine den_cond rfl (fun c2 => ?_) (fun c2 => ?_)
   ·try simp only [ddA] at c2
    refine den_seq ?_
    refine den_region TTok ?_
    intro K hK
    simp -implicitDefEqProofs (disch := first | decide | assumption | omega) only [go_sem, wrap_id, sbs, Int.toNat_zero]
    refine hK _ _ ?_
    clear hK K
    refine den_ret ?_
    simp (disch := decide) only [resP_1, puts_same, puts_ne]
    exact absurd c2 (by first | (simp; done) | (simp; omega) | omega | (simp [eqC_self]; done))
   ·try simp only [ddA] at c2
    refine den_skip ?_
    refine den_seq ?_
    refine den_region TTok ?_
    intro K hK
    simp -implicitDefEqProofs (disch := first | decide | assumption | omega) only [go_sem, BoxAt.dgs hb0_0, BoxAt.dgLL hb0_0, BoxAt.dgDegL hb0_0, BoxAt.dgLevL hb0_0, BoxAt.dgDifA hb0_0, BoxAt.dgTabA hb0_0, wrap_id, sbs, Int.toNat_zero]
    try simp -implicitDefEqProofs (disch := first | decide | assumption | omega) only [go_sem, wrap_id, sbs, Int.toNat_zero]
    refine CallA.mono (toDg_ok  X _  ) ?_
    intro v_ h13_1
    rintro ⟨rfl, e13_1⟩
    replace how1_2_0 := OS.ext how1_2_0 e13_1
    replace hog6_2 := OS.ext hog6_2 e13_1
    replace hb0_0 := BoxAt.ext hb0_0 e13_1
    have := Ext.size e13_1
    replace eB := Ext.trans eB e13_1
    try simp -implicitDefEqProofs (disch := first | decide | assumption | omega) only [go_sem, wrap_id, sbs, Int.toNat_zero]
    try simp -implicitDefEqProofs (disch := first | decide | assumption | omega) only [go_sem, wrap_id, sbs, Int.toNat_zero]
    refine CallA.mono (iHS_ok  X _  hB) ?_
    intro v_ h13_2
    rintro ⟨vw13_2_0, fw13_2_0, rfl, how13_2_0, hfw13_2_0, e13_2⟩
    replace how1_2_0 := OS.ext how1_2_0 e13_2
    replace hog6_2 := OS.ext hog6_2 e13_2
    replace hb0_0 := BoxAt.ext hb0_0 e13_2
    have := Ext.size e13_2
    replace eB := Ext.trans eB e13_2
    have hlhow13_2_0 := OS.lt how13_2_0
    try simp -implicitDefEqProofs (disch := first | decide | assumption | omega) only [go_sem, wrap_id, sbs, Int.toNat_zero]
    refine hK _ _ ?_
    clear hK K
    refine den_seq ?_
    refine den_seq ?_
    refine den_mergeH [(57, .bool (((!(true)) || (((hsR X).2) != ((hsR X).2)))))] [5, 7] ?_ ?_
     -- a way
    ·refine den_region TTok ?_
     intro K hK
     simp -implicitDefEqProofs (disch := first | decide | assumption | (simp (disch := decide) only [gvA, eq_self, if_true, if_false, Bool.false_eq_true]; done) | omega) only [go_sem, wrap_id, sbs, Int.toNat_zero]
     try simp -implicitDefEqProofs (disch := first | decide | assumption | omega) only [go_sem, wrap_id, sbs, Int.toNat_zero]
     refine CallA.pure (eqS_same _ _ _ _ (OS.rd how13_2_0) (OS.rd how1_2_0)) ?_
     try simp -implicitDefEqProofs (disch := first | decide | assumption | (simp (disch := decide) only [gvA, eq_self, if_true, if_false, Bool.false_eq_true]; done) | omega) only [go_sem, wrap_id, sbs, Int.toNat_zero]
     try simp -implicitDefEqProofs (disch := first | decide | assumption | (simp (disch := decide) only [gvA, eq_self, if_true, if_false, Bool.false_eq_true]; done) | omega) only [go_sem, wrap_id, sbs, Int.toNat_zero]
     refine hK _ _ ?_
     clear hK K
     refine den_stop ?_
     refine ⟨?_, rfl⟩
     first | (simp (disch := decide) only [go_sem, eq_self, Bool.true_and, Bool.and_true, Bool.false_and, Bool.and_false, Bool.true_or, Bool.or_true, Bool.false_or, Bool.or_false, if_true, if_false, Bool.false_eq_true]; done) | simp [HasL, sel, puts_at]
    intro en4
    simp (disch := decide) only [go_sem]
    refine den_cond rfl (fun c3 => ?_) (fun c3 => ?_)
    ·try simp only [ddA] at c3
     refine den_seq ?_
     refine den_region TTok ?_
     intro K hK
     simp -implicitDefEqProofs (disch := first | decide | assumption | omega) only [go_sem, wrap_id, sbs, Int.toNat_zero]
     refine hK _ _ ?_
     clear hK K
     refine den_ret ?_
     simp (disch := decide) only [resP_1, puts_same, puts_ne]
     exact absurd c3 (by first | (simp; done) | (simp; omega) | omega | (simp [eqC_self]; done))
    ·try simp only [ddA] at c3
     refine den_skip ?_
     refine den_seq ?_
     refine den_region TTok ?_
     intro K hK
     simp -implicitDefEqProofs (disch := first | decide | assumption | omega) only [go_sem, wrap_id, sbs, Int.toNat_zero]
     refine hK _ _ ?_
     clear hK K
     refine den_seq ?_
     refine den_region TTok ?_
     intro K hK
     simp -implicitDefEqProofs (disch := first | decide | assumption | omega) only [go_sem, wrap_id, sbs, Int.toNat_zero]
     try simp -implicitDefEqProofs (disch := first | decide | assumption | omega) only [go_sem, wrap_id, sbs, Int.toNat_zero]
     refine CallA.pure (heldS_ok _ ((hsR X).1) (1 : Int) _ (OS.rd hog6_2) (by omega)) ?_
     try simp -implicitDefEqProofs (disch := first | decide | assumption | omega) only [go_sem, wrap_id, sbs, Int.toNat_zero]
     refine hK _ _ ?_
     clear hK K
     refine den_seq ?_
     refine den_seq ?_
     refine den_region TTok ?_
     intro K hK
     simp -implicitDefEqProofs (disch := first | decide | assumption | omega) only [go_sem, wrap_id, sbs, Int.toNat_zero]
     refine hK _ _ ?_
     clear hK K
     refine den_cond rfl (fun c4 => ?_) (fun c4 => ?_)
     ·try simp only [ddA] at c4
      refine den_seq ?_
      refine den_region TTok ?_
      intro K hK
      simp -implicitDefEqProofs (disch := first | decide | assumption | omega) only [go_sem, wrap_id, sbs, Int.toNat_zero]
      refine hK _ _ ?_
      clear hK K
      refine den_ret ?_
      simp (disch := decide) only [resP_1, puts_same, puts_ne]
      exact absurd c4 (by first | (simp; done) | (simp; omega) | omega | (simp [eqC_self]; done))
     ·try simp only [ddA] at c4
      refine den_skip ?_
      refine den_seq ?_
      refine den_seq ?_
      refine den_region TTok ?_
      intro K hK
      simp -implicitDefEqProofs (disch := first | decide | assumption | omega) only [go_sem, wrap_id, sbs, Int.toNat_zero]
      refine hK _ _ ?_
      clear hK K
      refine den_cond rfl (fun c5 => ?_) (fun c5 => ?_)
      ·try simp only [ddA] at c5
       refine den_seq ?_
       refine den_region TTok ?_
       intro K hK
       simp -implicitDefEqProofs (disch := first | decide | assumption | omega) only [go_sem, wrap_id, sbs, Int.toNat_zero]
       refine hK _ _ ?_
       clear hK K
       refine den_ret ?_
       simp (disch := decide) only [resP_1, puts_same, puts_ne]
       exact absurd c5 (by first | (simp; done) | (simp; omega) | omega | (simp [eqC_self]; done))
      ·try simp only [ddA] at c5
       refine den_skip ?_
       refine den_seq ?_
       refine den_region TTok ?_
       intro K hK
       simp -implicitDefEqProofs (disch := first | decide | assumption | omega) only [go_sem, wrap_id, sbs, Int.toNat_zero]
       refine hK _ _ ?_
       clear hK K
       refine den_ret ?_
       simp (disch := decide) only [resP_1, puts_same, puts_ne]
       exact ⟨by first | rfl | trivial, eB⟩
end Go.Proofs.Ytacajcjibhifmaa
