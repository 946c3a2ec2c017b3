/-
  What the statement FnExactFilteredOf uses of the walks, part 4.
  Conditions: each theorem's own.
-/
import Derived.Test.YtacajcjibhifmaaG16
import Derived.Test.YtacajcjibhifmaaG17
import Derived.Test.YtacajcjibhifmaaG14
import Derived.Test.YtacajcjibhifmaaG13
import Derived.Test.YtacajcjibhifmaaG15
import Derived.Test.YtacajcjibhifmaaG18
import Derived.Test.YtacajcjibhifmaaG19
import Derived.Test.YtacajcjibhifmaaZFilteredOf1
import Derived.Test.YtacajcjibhifmaaZFilteredOf2
import Derived.Test.YtacajcjibhifmaaZFilteredOf3
set_option linter.unusedVariables false
set_option linter.unusedSimpArgs false
namespace Go.Proofs.Ytacajcjibhifmaa
open Go
/-- The maps while they are filled: up to a place. -/
def flV (X : Dg) (k r c : Nat) : Int := X.dif ((mbP X ((k : Int) + 1)).getD r 0).toNat ((mbP X (k : Int)).getD c 0).toNat
def flM (X : Dg) (L n r c : Nat) : M3 := (List.range L).map fun k : Nat => (List.range (mbP X ((k : Int) + 1)).length).map fun i : Nat => (List.range (mbP X (k : Int)).length).map fun j : Nat => if k + 1 < n ∨ (k + 1 = n ∧ (i < r ∨ (i = r ∧ j < c))) then flV X k i j else 0
def flA (X : Dg) : Nat → Nat := fun k => (mbP X ((k : Int) + 1)).length
def flB (X : Dg) : Nat → Nat := fun k => (mbP X (k : Int)).length
theorem flM_sh (X : Dg) (L n r c : Nat) : Sh L (flA X) (flB X) (flM X L n r c) := by
 refine ⟨by simp [flM], fun k hk => ?_, fun k i hk hi => ?_⟩
 ·rw [flM, getD_map_range _ hk, List.length_map, List.length_range]; rfl
 ·have hi' : i < (mbP X ((k : Int) + 1)).length := hi
  rw [flM, getD_map_range _ hk, getD_map_range _ hi', List.length_map, List.length_range]; rfl
theorem flM_get (X : Dg) {L n r c k i j : Nat} (hk : k < L) (hi : i < flA X k) (hj : j < flB X k) : get3 (flM X L n r c) k i j = if k + 1 < n ∨ (k + 1 = n ∧ (i < r ∨ (i = r ∧ j < c))) then flV X k i j else 0 := by
 have hi' : i < (mbP X ((k : Int) + 1)).length := hi
 rw [get3, flM, getD_map_range _ hk, getD_map_range _ hi']
 exact getD_map_range (α := Int) (fun j => if k + 1 < n ∨ (k + 1 = n ∧ (i < r ∨ (i = r ∧ j < c))) then flV X k i j else 0) hj
theorem flM_same (X : Dg) {L n r c n' r' c' : Nat} (h : ∀ k i j, k < L → i < flA X k → j < flB X k → ((k + 1 < n ∨ (k + 1 = n ∧ (i < r ∨ (i = r ∧ j < c)))) ↔ (k + 1 < n' ∨ (k + 1 = n' ∧ (i < r' ∨ (i = r' ∧ j < c')))))) : flM X L n r c = flM X L n' r' c' :=
 (flM_sh X L n r c).ext (flM_sh X L n' r' c') fun k i j h1 h2 h3 => by
  rw [flM_get X h1 h2 h3, flM_get X h1 h2 h3]
  by_cases q : k + 1 < n ∨ (k + 1 = n ∧ (i < r ∨ (i = r ∧ j < c)))
  ·rw [if_pos q, if_pos ((h k i j h1 h2 h3).1 q)]
  ·rw [if_neg q, if_neg (fun z => q ((h k i j h1 h2 h3).2 z))]
theorem flM_row (X : Dg) {L n r : Nat} (hn : 1 ≤ n) : flM X L n r (flB X (n - 1)) = flM X L n (r + 1) 0 := flM_same X fun k i j _ _ h3 => by
 by_cases e : k + 1 = n
 ·have e2 : n - 1 = k := by omega
  rw [e2]; omega
 ·omega
theorem flM_tab (X : Dg) {L n : Nat} (hn : 1 ≤ n) : flM X L n (flA X (n - 1)) 0 = flM X L (n + 1) 0 0 := flM_same X fun k i j _ h2 _ => by
 by_cases e : k + 1 = n
 ·have e2 : n - 1 = k := by omega
  rw [e2]; omega
 ·omega
theorem flM_end (X : Dg) (L : Nat) : flM X L (L + 1) 0 0 = fcM X L := by
 have hs : Sh L (flA X) (flB X) (fcM X L) := by
  refine ⟨fcM_len X L, fun k hk => ?_, fun k i hk hi => ?_⟩
  ·rw [fcM, getD_map_range _ hk, fcR, List.length_map]; rfl
  ·have hi' : i < (mbP X ((k : Int) + 1)).length := hi
   rw [fcM, getD_map_range _ hk, fcR, List.getD_eq_getElem?_getD, List.getElem?_map, List.getElem?_eq_getElem hi']
   simp only [Option.map_some, Option.getD_some, vcP, List.length_map, Int.add_sub_cancel]; rfl
 refine (flM_sh X L _ 0 0).ext hs fun k i j h1 h2 h3 => ?_
 have hi' : i < (mbP X ((k : Int) + 1)).length := h2
 have hj' : j < (mbP X (k : Int)).length := h3
 have hj'' : j < (mbP X ((k : Int) + 1 - 1)).length := by rw [Int.add_sub_cancel]; exact h3
 rw [flM_get X h1 h2 h3, if_pos (.inl (by omega)), get3, fcM, getD_map_range _ h1, fcR]
 simp only [flV, vcP, List.getD_eq_getElem?_getD, List.getElem?_map, List.getElem?_eq_getElem hi', List.getElem?_eq_getElem hj'', List.getElem?_eq_getElem hj', Option.map_some, Option.getD_some, Int.add_sub_cancel]
theorem flM_0 (X : Dg) (T : Nat) : zblk (fcD X T) (T - 1) = flM X (T - 1) 1 0 0 := by
 have hd : ∀ k, k < T → ((fcD X T).getD k 0).toNat = (mbP X (k : Int)).length := fun k hk => by
  rw [show (fcD X T).getD k 0 = ((mbP X (k : Int)).length : Int) from getD_map_range (α := Int) (fun n : Nat => ((mbP X (n : Int)).length : Int)) hk, Int.toNat_natCast]
 have hz := zblk_sh (fcD X T) (T - 1)
 have hs : Sh (T - 1) (flA X) (flB X) (zblk (fcD X T) (T - 1)) := ⟨hz.len, fun k hk => by rw [hz.rows k hk, hd (k + 1) (by omega)]; rfl, fun k i hk hi => by rw [hz.cols k i hk (by rw [hd (k + 1) (by omega)]; exact hi), hd k (by omega)]; rfl⟩
 refine hs.ext (flM_sh X (T - 1) 1 0 0) fun k i j h1 h2 h3 => ?_
 rw [flM_get X h1 h2 h3, if_neg (by omega), zblk_get _ _ h1 (by rw [hd (k + 1) (by omega)]; exact h2) (by rw [hd k (by omega)]; exact h3)]
theorem flV_bnd {X : Dg} (hB : DgB X) (hf : IsFm X) {k r c : Nat} (hr : r < flA X k) (hc : c < flB X k) : 0 ≤ flV X k r c ∧ flV X k r c < X.p := by
 have h1 := mb_at (X := X) (n := (k : Int) + 1) hr
 have h2 := mb_at (X := X) (n := (k : Int)) hc
 have h3 := hf.s
 exact ⟨(hB.dif _ _).1, ((hf.row ((mbP X ((k : Int) + 1)).getD r 0).toNat (by omega)).el _ (by omega)).1⟩
theorem flM_in3 {X : Dg} (hB : DgB X) (hf : IsFm X) (L n r c : Nat) : In3 X.p L (flA X) (flB X) (flM X L n r c) := fun k i j h1 h2 h3 => by
 have hp := isP_two hf.p
 rw [flM_get X h1 h2 h3]
 split
 ·exact flV_bnd hB hf h2 h3
 ·omega
theorem flM_step {X : Dg} (hB : DgB X) (hf : IsFm X) {L k r c : Nat} (hk : k < L) (hr : r < flA X k) (hc : c < flB X k) : upd3 X.p (flM X L (k + 1) r c) k r c (flV X k r c) = flM X L (k + 1) r (c + 1) := by
 have hp := isP_two hf.p
 have hu : ∀ u ∈ [(((k, r, c), flV X k r c) : Upd)], InU L (flA X) (flB X) u := fun u hu => by
  rw [List.mem_singleton.1 hu]; exact ⟨hk, hr, hc⟩
 have hs := flM_sh X L (k + 1) r c
 have e : upd3 X.p (flM X L (k + 1) r c) k r c (flV X k r c) = applyU X.p (flM X L (k + 1) r c) [((k, r, c), flV X k r c)] := rfl
 rw [e]
 refine (applyU_sh hs hu).ext (flM_sh X L (k + 1) r (c + 1)) fun k' i j h1 h2 h3 => ?_
 have hb := flV_bnd hB hf hr hc
 rw [applyU_get (by omega) h1 h2 h3 hs (flM_in3 hB hf L (k + 1) r c) hu, flM_get X h1 h2 h3, flM_get X h1 h2 h3, sumT, sumT, Int.add_zero]
 by_cases q : (k, r, c) = (k', i, j)
 ·injection q with q1 q2
  injection q2 with q2 q3
  subst q1; subst q2; subst q3
  rw [if_pos rfl, if_neg (by omega), if_pos (by omega), Int.zero_add, Int.emod_eq_of_lt hb.1 hb.2]
 ·have q' : ¬ (k = k' ∧ r = i ∧ c = j) := fun z => q (by rw [z.1, z.2.1, z.2.2])
  rw [if_neg q, Int.add_zero]
  have hb2 := flV_bnd hB hf h2 h3
  by_cases w : k' + 1 < k + 1 ∨ (k' + 1 = k + 1 ∧ (i < r ∨ (i = r ∧ j < c)))
  ·rw [if_pos w, if_pos (by omega), Int.emod_eq_of_lt hb2.1 hb2.2]
  ·rw [if_neg w, if_neg (by omega), Int.zero_emod]
end Go.Proofs.Ytacajcjibhifmaa

namespace Go.Proofs.Ytacajcjibhifmaa
open Go
theorem lenS (A : Option Addr) (n c : Nat) : lenV TT 55 (.slice A n c) = some (.int .i64 n) := by kernel_rfl
theorem OS.vl {α : Type} {e : TypeId} {E : Heap → Value → α → List Nat → Prop} {h : Heap} {v : Value} {xs : List α} {fp : List Nat} (ho : OS e E h v xs fp) : ∃ A c, v = .slice A xs.length c := by
 rcases ho with ⟨rfl, rfl, _⟩ | ⟨b, c, cur, fps, rfl, r⟩
 ·exact ⟨_, _, rfl⟩
 ·exact ⟨_, _, r.val⟩

set_option maxRecDepth 100000 in
theorem sizeV_ok (v : Value) (n : Nat) (h : Heap) (hv : ∃ A c, v = .slice A n c) (hn : (n : Int) ≤ 9223372036854775807) : CallA Try.prog 90 #[v] h fun v' h' => v' = .int .i64 (n : Int) ∧ Ext h h' := by
 obtain ⟨A, c, rfl⟩ := hv
 refine callA_intro TTok (args := [_]) Try.func90 (by kernel_rfl) rfl 5 rfl (by simp) [.tmp 2] rfl ?_
 simp only [idxs, Nat.reduceAdd]
 refine den_seq ?_
 refine den_region TTok ?_
 intro K hK
 simp -implicitDefEqProofs (disch := first | decide | assumption | omega) only [go_sem, wrap_id, lenS]
 refine hK _ _ ?_
 clear hK K
 refine den_seq ?_
 refine den_region TTok ?_
 intro K hK
 simp -implicitDefEqProofs (disch := first | decide | assumption | omega) only [go_sem, wrap_id, lenS]
 refine hK _ _ ?_
 clear hK K
 refine den_ret ?_
 simp (disch := decide) only [resP_1, puts_same, puts_ne]
 exact ⟨by first | rfl | trivial, (Ext.refl _)⟩
end Go.Proofs.Ytacajcjibhifmaa

namespace Go.Proofs.Ytacajcjibhifmaa
open Go
set_option maxRecDepth 100000 in
set_option maxHeartbeats 4000000 in
theorem iFc_ok (X : Dg) (h : Heap)  (hB : DgB X) (hfm : IsFm X) : CallA Try.prog 72 #[.agg (dgA X)] h fun v' h' => ∃ wd0 wm0 wv0 fd0 fm0 fv0, v' = .agg #[.int .i64 (fcP X).c.p, wd0, wm0, wv0] ∧ O1 h' wd0 (fcP X).c.dims fd0 ∧ O3 h' wm0 (fcP X).c.maps fm0 ∧ O2 h' wv0 (fcP X).lv fv0 ∧ Fresh h.size (fd0 ++ (fm0 ++ fv0)) ∧ Ext h h' := by
 have hBd := hB.dif
 have hs := hfm.s
 have htop := (hfm.row (X.s - 1).toNat (by omega)).deg
 have hT : (fcT X : Int) = X.deg (X.s - 1).toNat + 1 := by unfold fcT; omega
 have hpb := isP_bnd hfm.p
 refine callA_intro TTok (args := [_]) Try.func72 (by kernel_rfl) rfl 101 rfl (by simp) [.cell 2 61] rfl ?_
 simp only [idxs, Nat.reduceAdd]
 refine den_seq ?_
 refine den_region TTok ?_
 intro K hK
 simp -implicitDefEqProofs (disch := first | decide | assumption | omega) only [go_sem, wrap_id, cv_u8, cv_i64, Nat.zero_add, wrap_u8, eq_el, ne_el, build_el, Int.toNat_zero, bF0]
 refine op_box (cs := dgA X) rfl ?_
 intro h0_0 e0_0 hb0_0 z0_0
 have := Ext.size e0_0
 have eB := e0_0
 have hfhb0_0 : Fresh h.size [h.size] := Fresh.one _
 have hlhb0_0 := one_lt (show h.size < h0_0.size by omega)
 try simp -implicitDefEqProofs (disch := first | decide | assumption | omega) only [go_sem, wrap_id, cv_u8, cv_i64, Nat.zero_add, wrap_u8, eq_el, ne_el, build_el, Int.toNat_zero, bF0]
 refine op_alloc (cs := #[.int .i64 0, .slice none 0 0, .slice none 0 0, .slice none 0 0]) (by kernel_rfl) ?_
 intro h0_1 e0_1 hb0_1 z0_1
 replace hb0_0 := BoxAt.ext hb0_0 e0_1
 have := Ext.size e0_1
 replace eB := Ext.trans eB e0_1
 have hfhb0_1 : Fresh h0_0.size [h0_0.size] := Fresh.one _
 have hlhb0_1 := one_lt (show h0_0.size < h0_1.size by omega)
 try simp -implicitDefEqProofs (disch := first | decide | assumption | omega) only [go_sem, BoxAt.cell hb0_1, wrap_id, cv_u8, cv_i64, Nat.zero_add, wrap_u8, eq_el, ne_el, build_el, Int.toNat_zero, bF0]
 refine hK _ _ ?_
 clear hK K
 refine den_seq ?_
 refine den_region TTok ?_
 intro K hK
 simp -implicitDefEqProofs (disch := first | decide | assumption | omega) only [go_sem, wrap_id, cv_u8, cv_i64, Nat.zero_add, wrap_u8, eq_el, ne_el, build_el, Int.toNat_zero, bF0]
 refine op_bs0 sz55 OI ?_
 intro v1_1 h1_1 ho1_1 e1_1
 replace hb0_0 := BoxAt.ext hb0_0 e1_1
 replace hb0_1 := BoxAt.ext hb0_1 e1_1
 have := Ext.size e1_1
 replace eB := Ext.trans eB e1_1
 have hfho1_1 : Fresh h0_1.size [h0_1.size] := Fresh.one _
 have hlho1_1 := OS.lt ho1_1
 try simp -implicitDefEqProofs (disch := first | decide | assumption | omega) only [go_sem, BoxAt.cell hb0_1, wrap_id, cv_u8, cv_i64, Nat.zero_add, wrap_u8, eq_el, ne_el, build_el, Int.toNat_zero, bF0]
 refine op_alloc (cs := #[.int .i64 0, .slice none 0 0, .slice none 0 0, .slice none 0 0]) (by kernel_rfl) ?_
 intro h1_2 e1_2 hb1_2 z1_2
 replace ho1_1 := OS.ext ho1_1 e1_2
 replace hb0_0 := BoxAt.ext hb0_0 e1_2
 replace hb0_1 := BoxAt.ext hb0_1 e1_2
 have := Ext.size e1_2
 replace eB := Ext.trans eB e1_2
 have hfhb1_2 : Fresh h1_1.size [h1_1.size] := Fresh.one _
 have hlhb1_2 := one_lt (show h1_1.size < h1_2.size by omega)
 try simp -implicitDefEqProofs (disch := first | decide | assumption | omega) only [go_sem, BoxAt.cell hb0_1, wrap_id, cv_u8, cv_i64, Nat.zero_add, wrap_u8, eq_el, ne_el, build_el, Int.toNat_zero, bF0]
 refine op_storeB (cs' := #[.int .i64 ((0 : Int)), .slice none 0 0, .slice none 0 0, .slice none 0 0]) st61 hb1_2 rfl rfl rfl (by simp) (allOne_mem (l := [.int .i64 ((0 : Int)), .slice none 0 0, .slice none 0 0, .slice none 0 0]) ⟨rfl, rfl, rfl, rfl, trivial⟩) rfl ?_
 intro h1_3 hb1_2 c1_3
 replace ho1_1 := OS.chg ho1_1 c1_3 (apart_lt hlho1_1 hfhb1_2 (by omega))
 replace hb0_0 := BoxAt.chgA hb0_0 c1_3 (apart_lt hlhb0_0 hfhb1_2 (by omega))
 replace hb0_1 := BoxAt.chgA hb0_1 c1_3 (apart_lt hlhb0_1 hfhb1_2 (by omega))
 have := c1_3.size
 replace eB := Ext.then eB c1_3 (ge_of hfhb1_2 (by omega))
 try simp -implicitDefEqProofs (disch := first | decide | assumption | omega) only [go_sem, RdS.len (OS.rd ho1_1) sl55, RdS.idx (OS.rd ho1_1) sl55, R1.intN (OS.rd ho1_1), RdS.cells (OS.rd ho1_1), wrap_id, cv_u8, cv_i64, Nat.zero_add, wrap_u8, eq_el, ne_el, build_el, Int.toNat_zero, bF0]
 refine hK _ _ ?_
 clear hK K
 refine den_seq ?_
 refine den_seq ?_
 refine den_region TTok ?_
 intro K hK
 simp -implicitDefEqProofs (disch := first | decide | assumption | omega) only [go_sem, Int.toNat_zero, fa34_1, fa34_2, ia22, ld2, BoxAt.dgL hb0_0, BoxAt.dgP hb0_0, BoxAt.dgS hb0_0, BoxAt.dgDeg hb0_0, BoxAt.dgLev hb0_0, BoxAt.dgDeg0 hb0_0, BoxAt.dgLev0 hb0_0, BoxAt.dgDifL hb0_0, BoxAt.dgTabL hb0_0, BoxAt.dgTabL0 hb0_0, BoxAt.dgTabL1 hb0_0, BoxAt.dgTabL1' hb0_0, BoxAt.dgDifB hb0_0, BoxAt.dgTabB hb0_0, wrap_id, cv_u8, cv_i64, Nat.zero_add, wrap_u8, eq_el, ne_el, build_el, Int.toNat_zero, bF0]
 refine hK _ _ ?_
 clear hK K
 refine den_block ?_
 have hnil1 : O2 h1_3 (.slice none 0 0) [] [] := OS.nil
 have hfhnil1 : Fresh h1_3.size [] := Fresh.nil _
 have hlhnil1 := OS.lt hnil1
 refine den_sel [4, 23, 1, 2, 3, 22] ?_
 intro env_2
 simp only [go_sem]
 refine den_loopS (σ := Nat × Value × List Nat × Value × List Nat) (fun st_ => [(4, st_.2.2.2.1), (23, .int .i64 (st_.1 : Int))]) (fun st_ H => (st_.1 ≤ fcT X) ∧ (O2 H st_.2.1 (fcL X st_.1) st_.2.2.1) ∧ (Fresh (h1_3.size) st_.2.2.1) ∧ (Sub (([] : List Nat) ++ ([h0_1.size] ++ ([h1_1.size]))) h1_3.size st_.2.2.1) ∧ (O1 H st_.2.2.2.1 (fcD X st_.1) st_.2.2.2.2) ∧ (Fresh (h0_1.size) st_.2.2.2.2) ∧ (Sub (([] : List Nat) ++ ([h0_1.size] ++ ([h1_1.size]))) h1_3.size st_.2.2.2.2) ∧ (BoxAt H (h1_1.size) #[.int .i64 ((0 : Int)), .slice none 0 0, .slice none 0 0, st_.2.1] 61) ∧ (Apart st_.2.2.1 st_.2.2.2.2) ∧ (Apart st_.2.2.1 [h1_1.size]) ∧ (Apart st_.2.2.2.2 [h1_1.size]) ∧ (Chg (([] : List Nat) ++ ([h0_1.size] ++ ([h1_1.size]))) h1_3 H)) (fun st_ => fcT X - st_.1) (0, .slice none 0 0, ([] : List Nat), v1_1, [h0_1.size]) ?_ ?_
 ·exact ⟨by first | (simp; done) | (dsimp only; omega) | (simp; omega), by show O2 _ _ [] _; exact hnil1, hfhnil1, (Sub.left Sub.refl), by show O1 _ _ [] _; exact ho1_1, hfho1_1, (Sub.right (Sub.left Sub.refl)), by simpa using hb1_2, (apart_gt hfhnil1 hlho1_1 (by omega)), (apart_gt hfhnil1 hlhb1_2 (by omega)), (apart_lt hlho1_1 hfhb1_2 (by omega)), Chg.refl _ _⟩
 ·rintro ⟨n, vhV, fphV, vhD, fphD⟩ h5 ee4 ⟨hi0, hV, hfhV, sbhV, hD, hfhD, sbhD, hbx3, ap_hV_hD, ap_hV_hbx3, ap_hD_hbx3, cL3⟩
  dsimp only at hi0 hV hfhV sbhV hD hfhD sbhD hbx3 ap_hV_hD ap_hV_hbx3 ap_hD_hbx3 cL3
  replace hb0_0 := BoxAt.chgA hb0_0 cL3 (Apart.app (apart_lt hlhb0_0 hfhnil1 (by omega)) (Apart.app (apart_lt hlhb0_0 hfho1_1 (by omega)) (apart_lt hlhb0_0 hfhb1_2 (by omega))))
  replace hb0_1 := BoxAt.chgA hb0_1 cL3 (Apart.app (apart_lt hlhb0_1 hfhnil1 (by omega)) (Apart.app (apart_lt hlhb0_1 hfho1_1 (by omega)) (apart_lt hlhb0_1 hfhb1_2 (by omega))))
  have := cL3.size
  replace eB := Ext.then eB cL3 (ge_app (ge_of hfhnil1 (by omega)) (ge_app (ge_of hfho1_1 (by omega)) (ge_of hfhb1_2 (by omega))))
  have hlhV := OS.lt hV
  have hlhD := OS.lt hD
  have hfhbx3 := hfhb1_2
  have hlhbx3 := hlhb1_2
  simp only [List.cons_append, List.nil_append]
  have hlD0 := fcD_len X n
  have hlV0 := fcL_len X n
  have hkl := mbP_len hs (n : Int)
  refine den_seq ?_
  refine den_region TTok ?_
  intro K hK
  simp -implicitDefEqProofs (disch := first | decide | assumption | omega) only [go_sem, wrap_id, cv_u8, cv_i64, Nat.zero_add, wrap_u8, eq_el, ne_el, build_el, Int.toNat_zero, bF0]
  refine hK _ _ ?_
  clear hK K
  refine den_seq ?_
  refine den_cond rfl (fun c0 => ?_) (fun c0 => ?_)
  ·try simp only [decide_eq_true_eq, decide_eq_false_iff_not, beq_iff_eq, beq_eq_false_iff_ne, bne_iff_ne, ne_eq, Bool.not_eq_true', Bool.not_eq_false', Bool.and_eq_true, Bool.or_eq_true, bne_eq_false_iff_eq] at c0
   refine den_skip ?_
   refine den_seq ?_
   refine den_block ?_
   refine den_seq ?_
   refine den_region TTok ?_
   intro K hK
   simp -implicitDefEqProofs (disch := first | decide | assumption | omega) only [go_sem, wrap_id, cv_u8, cv_i64, Nat.zero_add, wrap_u8, eq_el, ne_el, build_el, Int.toNat_zero, bF0]
   refine hK _ _ ?_
   clear hK K
   refine den_seq ?_
   refine den_region TTok ?_
   intro K hK
   simp -implicitDefEqProofs (disch := first | decide | assumption | omega) only [go_sem, BoxAt.cell hb0_1, wrap_id, cv_u8, cv_i64, Nat.zero_add, wrap_u8, eq_el, ne_el, build_el, Int.toNat_zero, bF0]
   refine op_bs0 sz55 OI ?_
   intro v5_0 h5_0 ho5_0 e5_0
   replace hV := OS.ext hV e5_0
   replace hD := OS.ext hD e5_0
   replace hb0_0 := BoxAt.ext hb0_0 e5_0
   replace hb0_1 := BoxAt.ext hb0_1 e5_0
   replace hbx3 := BoxAt.ext hbx3 e5_0
   have := Ext.size e5_0
   replace eB := Ext.trans eB e5_0
   replace cL3 := Chg.stepE cL3 e5_0
   have hfho5_0 : Fresh h5.size [h5.size] := Fresh.one _
   have hlho5_0 := OS.lt ho5_0
   try simp -implicitDefEqProofs (disch := first | decide | assumption | omega) only [go_sem, RdS.len (OS.rd ho5_0) sl55, RdS.idx (OS.rd ho5_0) sl55, R1.intN (OS.rd ho5_0), RdS.cells (OS.rd ho5_0), wrap_id, cv_u8, cv_i64, Nat.zero_add, wrap_u8, eq_el, ne_el, build_el, Int.toNat_zero, bF0]
   refine hK _ _ ?_
   clear hK K
   refine den_seq ?_
   refine den_seq ?_
   refine den_region TTok ?_
   intro K hK
   simp -implicitDefEqProofs (disch := first | decide | assumption | omega) only [go_sem, BoxAt.dgL hb0_0, BoxAt.dgP hb0_0, BoxAt.dgS hb0_0, BoxAt.dgDeg hb0_0, BoxAt.dgLev hb0_0, BoxAt.dgDeg0 hb0_0, BoxAt.dgLev0 hb0_0, BoxAt.dgDifL hb0_0, BoxAt.dgTabL hb0_0, BoxAt.dgTabL0 hb0_0, BoxAt.dgTabL1 hb0_0, BoxAt.dgTabL1' hb0_0, BoxAt.dgDifB hb0_0, BoxAt.dgTabB hb0_0, wrap_id, cv_u8, cv_i64, Nat.zero_add, wrap_u8, eq_el, ne_el, build_el, Int.toNat_zero, bF0]
   try simp -implicitDefEqProofs (disch := first | decide | assumption | omega) only [go_sem, BoxAt.cell hb0_1, wrap_id, cv_u8, cv_i64, Nat.zero_add, wrap_u8, eq_el, ne_el, build_el, Int.toNat_zero, bF0]
   refine CallA.mono (iMb_ok  X (n : Int) _  (by omega)) ?_
   intro vw6_2_0 h6_2
   rintro ⟨zvw6_2_0, fw6_2_0, rfl, how6_2_0, hfw6_2_0, e6_2⟩
   replace hV := OS.ext hV e6_2
   replace hD := OS.ext hD e6_2
   replace ho5_0 := OS.ext ho5_0 e6_2
   replace hb0_0 := BoxAt.ext hb0_0 e6_2
   replace hb0_1 := BoxAt.ext hb0_1 e6_2
   replace hbx3 := BoxAt.ext hbx3 e6_2
   have := Ext.size e6_2
   replace eB := Ext.trans eB e6_2
   replace cL3 := Chg.stepE cL3 e6_2
   have hlhow6_2_0 := OS.lt how6_2_0
   try simp -implicitDefEqProofs (disch := first | decide | assumption | omega) only [go_sem, RdS.len (OS.rd how6_2_0) sl55, RdS.idx (OS.rd how6_2_0) sl55, R1.intN (OS.rd how6_2_0), RdS.cells (OS.rd how6_2_0), wrap_id, cv_u8, cv_i64, Nat.zero_add, wrap_u8, eq_el, ne_el, build_el, Int.toNat_zero, bF0]
   refine hK _ _ ?_
   clear hK K
   refine den_block ?_
   refine den_sel [6, 31, 1, 2, 3, 4, 22, 23, 29, 30] ?_
   intro env_6
   simp only [go_sem]
   refine den_loopS (σ := Nat × Value × List Nat) (fun st_ => [(6, st_.2.1), (31, .int .i64 (st_.1 : Int))]) (fun st_ H => (st_.1 ≤ (mbP X (n : Int)).length) ∧ (O1 H st_.2.1 (((mbP X (n : Int)).take st_.1).map (fun z : Int => X.lev z.toNat)) st_.2.2) ∧ (Fresh (h5.size) st_.2.2) ∧ (Sub [h5.size] h6_2.size st_.2.2) ∧ (Chg [h5.size] h6_2 H)) (fun st_ => (mbP X (n : Int)).length - st_.1) (0, v5_0, [h5.size]) ?_ ?_
   ·exact ⟨by first | (simp; done) | (dsimp only; omega) | (simp; omega), by simpa using ho5_0, hfho5_0, Sub.refl, Chg.refl _ _⟩
   ·rintro ⟨i, vhA, fphA⟩ h9 ee8 ⟨hi0, hA, hfhA, sbhA, cL7⟩
    dsimp only at hi0 hA hfhA sbhA cL7
    replace hV := OS.chg hV cL7 (apart_lt hlhV hfho5_0 (by omega))
    replace hD := OS.chg hD cL7 (apart_lt hlhD hfho5_0 (by omega))
    replace how6_2_0 := OS.chg how6_2_0 cL7 (apart_gt hfw6_2_0 hlho5_0 (by omega))
    replace hb0_0 := BoxAt.chgA hb0_0 cL7 (apart_lt hlhb0_0 hfho5_0 (by omega))
    replace hb0_1 := BoxAt.chgA hb0_1 cL7 (apart_lt hlhb0_1 hfho5_0 (by omega))
    replace hbx3 := BoxAt.chgA hbx3 cL7 (apart_lt hlhbx3 hfho5_0 (by omega))
    have := cL7.size
    replace eB := Ext.then eB cL7 (ge_of hfho5_0 (by omega))
    replace cL3 := Chg.step cL3 cL7 (Sub.fresh hfho5_0 (by omega))
    have ap10 : Apart fw6_2_0 fphA := Apart.sub_ hlhow6_2_0 (by omega) (apart_gt hfw6_2_0 hlho5_0 (by omega)) sbhA
    have hlhA := OS.lt hA
    simp only [List.cons_append, List.nil_append]
    refine den_seq ?_
    refine den_region TTok ?_
    intro K hK
    simp -implicitDefEqProofs (disch := first | decide | assumption | omega) only [go_sem, wrap_id, cv_u8, cv_i64, Nat.zero_add, wrap_u8, eq_el, ne_el, build_el, Int.toNat_zero, bF0]
    refine hK _ _ ?_
    clear hK K
    refine den_seq ?_
    refine den_cond rfl (fun c1 => ?_) (fun c1 => ?_)
    ·try simp only [decide_eq_true_eq, decide_eq_false_iff_not, beq_iff_eq, beq_eq_false_iff_ne, bne_iff_ne, ne_eq, Bool.not_eq_true', Bool.not_eq_false', Bool.and_eq_true, Bool.or_eq_true, bne_eq_false_iff_eq] at c1
     refine den_skip ?_
     refine den_seq ?_
     refine den_block ?_
     refine den_seq ?_
     refine den_region TTok ?_
     intro K hK
     simp -implicitDefEqProofs (disch := first | decide | assumption | omega) only [go_sem, ld2, RdS.len (OS.rd how6_2_0) sl55, RdS.idx (OS.rd how6_2_0) sl55, R1.intN (OS.rd how6_2_0), RdS.cells (OS.rd how6_2_0), wrap_id, cv_u8, cv_i64, Nat.zero_add, wrap_u8, eq_el, ne_el, build_el, Int.toNat_zero, bF0]
     refine hK _ _ ?_
     clear hK K
     have hat := mb_at (X := X) (n := (n : Int)) (k := i) (by omega)
     have hmt : (((mbP X (n : Int)).take i).map (fun z : Int => X.lev z.toNat)).length ≤ 8 := by rw [List.length_map, List.length_take]; omega
     refine den_region TTok ?_
     intro K hK
     simp -implicitDefEqProofs (disch := first | decide | assumption | omega) only [go_sem, Int.toNat_zero, fa34_3, ia22, ld2, RdS.len (OS.rd hA) sl55, RdS.idx (OS.rd hA) sl55, R1.intN (OS.rd hA), RdS.cells (OS.rd hA), BoxAt.dgL hb0_0, BoxAt.dgP hb0_0, BoxAt.dgS hb0_0, BoxAt.dgDeg hb0_0, BoxAt.dgLev hb0_0, BoxAt.dgDeg0 hb0_0, BoxAt.dgLev0 hb0_0, BoxAt.dgDifL hb0_0, BoxAt.dgTabL hb0_0, BoxAt.dgTabL0 hb0_0, BoxAt.dgTabL1 hb0_0, BoxAt.dgTabL1' hb0_0, BoxAt.dgDifB hb0_0, BoxAt.dgTabB hb0_0, wrap_id, cv_u8, cv_i64, Nat.zero_add, wrap_u8, eq_el, ne_el, build_el, Int.toNat_zero, bF0]
     refine op_bs1 sz55 rfl rfl ?_
     try simp -implicitDefEqProofs (disch := first | decide | assumption | omega) only [go_sem, BoxAt.cell hb0_1, wrap_id, cv_u8, cv_i64, Nat.zero_add, wrap_u8, eq_el, ne_el, build_el, Int.toNat_zero, bF0]
     refine op_append1 sz55 hA hfhA.nodup ⟨rfl, rfl⟩ List.nodup_nil (Apart.nil _) (by first | omega | (simp; omega)) rfl rfl ?_
     intro v9_6 h9_6 fp9_6 ho9_6 hn9_6 hs9_6 c9_6
     have hsz9_6 := c9_6.size
     have hfho9_6 : Fresh h5.size fp9_6 := Fresh.appd hfhA (Fresh.nil h9.size) (by omega) (by omega) hn9_6 hs9_6
     have sb11 : Sub [h5.size] h6_2.size fp9_6 := Sub.grow sbhA Sub.nil (by omega) hs9_6
     replace hV := OS.chg hV c9_6 (apart_lt hlhV hfhA (by omega))
     replace hD := OS.chg hD c9_6 (apart_lt hlhD hfhA (by omega))
     replace how6_2_0 := OS.chg how6_2_0 c9_6 ap10
     replace hb0_0 := BoxAt.chgA hb0_0 c9_6 (apart_lt hlhb0_0 hfhA (by omega))
     replace hb0_1 := BoxAt.chgA hb0_1 c9_6 (apart_lt hlhb0_1 hfhA (by omega))
     replace hbx3 := BoxAt.chgA hbx3 c9_6 (apart_lt hlhbx3 hfhA (by omega))
     have := c9_6.size
     replace eB := Ext.then eB c9_6 (ge_of hfhA (by omega))
     replace cL3 := Chg.step cL3 c9_6 (Sub.fresh hfhA (by omega))
     replace cL7 := Chg.step cL7 c9_6 sbhA
     have ap12 : Apart fw6_2_0 fp9_6 := Apart.grow hlhow6_2_0 (by omega) ap10 (Apart.nil _) hs9_6
     have hlho9_6 := OS.lt ho9_6
     try simp -implicitDefEqProofs (disch := first | decide | assumption | omega) only [go_sem, RdS.len (OS.rd ho9_6) sl55, RdS.idx (OS.rd ho9_6) sl55, R1.intN (OS.rd ho9_6), RdS.cells (OS.rd ho9_6), wrap_id, cv_u8, cv_i64, Nat.zero_add, wrap_u8, eq_el, ne_el, build_el, Int.toNat_zero, bF0]
     refine hK _ _ ?_
     clear hK K
     refine den_blk ?_
     refine den_region TTok ?_
     intro K hK
     simp -implicitDefEqProofs (disch := first | decide | assumption | omega) only [go_sem, wrap_id, cv_u8, cv_i64, Nat.zero_add, wrap_u8, eq_el, ne_el, build_el, Int.toNat_zero, bF0]
     refine hK _ _ ?_
     clear hK K
     refine den_stop ?_
     rw [map_takeL (f := fun z : Int => X.lev z.toNat) (d := 0) (by omega)] at ho9_6
     exact ⟨(i + 1, v9_6, fp9_6), by simp [HasL, puts_at], ⟨by first | omega | (dsimp only; omega), ho9_6, hfho9_6, sb11, cL7⟩, by first | omega | (dsimp only; omega)⟩
    ·try simp only [decide_eq_true_eq, decide_eq_false_iff_not, beq_iff_eq, beq_eq_false_iff_ne, bne_iff_ne, ne_eq, Bool.not_eq_true', Bool.not_eq_false', Bool.and_eq_true, Bool.or_eq_true, bne_eq_false_iff_eq] at c1
     refine den_exit ?_
     refine denX_code ?_
     refine denX_stop ?_
     refine denX_hit ?_
     have hlvl : (((mbP X (n : Int)).take i).map (fun z : Int => X.lev z.toNat)) = fcV X (n : Int) := map_takeE (by omega)
     have hlv_ : (((mbP X (n : Int)).take i).map (fun z : Int => X.lev z.toNat)).length = (mbP X (n : Int)).length := by rw [hlvl, fcV, List.length_map]
     refine den_region TTok ?_
     intro K hK
     simp -implicitDefEqProofs (disch := first | decide | assumption | omega) only [go_sem, fa61_1, ld59, RdS.len (OS.rd hV) sl59, RdS.idx (OS.rd hV) sl59, RdS.cellN (OS.rd hV), RdS.cells (OS.rd hV), RdS.len (OS.rd hA) sl55, RdS.idx (OS.rd hA) sl55, R1.intN (OS.rd hA), RdS.cells (OS.rd hA), BoxAt.cell hbx3, wrap_id, cv_u8, cv_i64, Nat.zero_add, wrap_u8, eq_el, ne_el, build_el, Int.toNat_zero, bF0]
     refine op_bs1 sz59 rfl (OS.one hA).2 ?_
     try simp -implicitDefEqProofs (disch := first | decide | assumption | omega) only [go_sem, BoxAt.cell hb0_1, wrap_id, cv_u8, cv_i64, Nat.zero_add, wrap_u8, eq_el, ne_el, build_el, Int.toNat_zero, bF0]
     refine op_append1 sz59 hV hfhV.nodup hA hfhA.nodup (apart_lt hlhV hfhA (by omega)) (by first | omega | (simp; omega)) rfl rfl ?_
     intro v11_4 h11_4 fp11_4 ho11_4 hn11_4 hs11_4 c11_4
     have hsz11_4 := c11_4.size
     have hfho11_4 : Fresh h1_3.size fp11_4 := Fresh.appd hfhV hfhA (by omega) (by omega) hn11_4 hs11_4
     have sb13 : Sub (([] : List Nat) ++ ([h0_1.size] ++ ([h1_1.size]))) h1_3.size fp11_4 := Sub.grow sbhV (Sub.fresh hfhA (by omega)) (by omega) hs11_4
     replace hD := OS.chg hD c11_4 (Apart.symm ap_hV_hD)
     replace hb0_0 := BoxAt.chgA hb0_0 c11_4 (apart_lt hlhb0_0 hfhV (by omega))
     replace hb0_1 := BoxAt.chgA hb0_1 c11_4 (apart_lt hlhb0_1 hfhV (by omega))
     replace hbx3 := BoxAt.chgA hbx3 c11_4 (Apart.symm ap_hV_hbx3)
     have := c11_4.size
     replace eB := Ext.then eB c11_4 (ge_of hfhV (by omega))
     replace cL3 := Chg.step cL3 c11_4 sbhV
     have ap14 : Apart fphD fp11_4 := Apart.grow hlhD (by omega) (Apart.symm ap_hV_hD) (apart_lt hlhD hfhA (by omega)) hs11_4
     have ap15 : Apart [h1_1.size] fp11_4 := Apart.grow hlhbx3 (by omega) (Apart.symm ap_hV_hbx3) (apart_lt hlhbx3 hfhA (by omega)) hs11_4
     have hlho11_4 := OS.lt ho11_4
     try simp -implicitDefEqProofs (disch := first | decide | assumption | omega) only [go_sem, RdS.len (OS.rd hD) sl55, RdS.idx (OS.rd hD) sl55, R1.intN (OS.rd hD), RdS.cells (OS.rd hD), wrap_id, cv_u8, cv_i64, Nat.zero_add, wrap_u8, eq_el, ne_el, build_el, Int.toNat_zero, bF0]
     try simp -implicitDefEqProofs (disch := first | decide | assumption | omega) only [go_sem, BoxAt.cell hb0_1, wrap_id, cv_u8, cv_i64, Nat.zero_add, wrap_u8, eq_el, ne_el, build_el, Int.toNat_zero, bF0]
     refine CallA.mono (sizeV_ok _ _ _ (OS.vl hA) (by omega)) ?_
     intro v_ h11_7
     rintro ⟨rfl, e11_7⟩
     replace hD := OS.ext hD e11_7
     replace ho11_4 := OS.ext ho11_4 e11_7
     replace hb0_0 := BoxAt.ext hb0_0 e11_7
     replace hb0_1 := BoxAt.ext hb0_1 e11_7
     replace hbx3 := BoxAt.ext hbx3 e11_7
     have := Ext.size e11_7
     replace eB := Ext.trans eB e11_7
     replace cL3 := Chg.stepE cL3 e11_7
     try simp -implicitDefEqProofs (disch := first | decide | assumption | omega) only [go_sem, BoxAt.cell hb0_1, wrap_id, cv_u8, cv_i64, Nat.zero_add, wrap_u8, eq_el, ne_el, build_el, Int.toNat_zero, bF0]
     refine op_bs1 sz55 rfl rfl ?_
     try simp -implicitDefEqProofs (disch := first | decide | assumption | omega) only [go_sem, BoxAt.cell hb0_1, wrap_id, cv_u8, cv_i64, Nat.zero_add, wrap_u8, eq_el, ne_el, build_el, Int.toNat_zero, bF0]
     refine op_append1 sz55 hD hfhD.nodup ⟨rfl, rfl⟩ List.nodup_nil (Apart.nil _) (by first | omega | (simp; omega)) rfl rfl ?_
     intro v11_9 h11_9 fp11_9 ho11_9 hn11_9 hs11_9 c11_9
     have hsz11_9 := c11_9.size
     have hfho11_9 : Fresh h0_1.size fp11_9 := Fresh.appd hfhD (Fresh.nil h11_7.size) (by omega) (by omega) hn11_9 hs11_9
     have sb16 : Sub (([] : List Nat) ++ ([h0_1.size] ++ ([h1_1.size]))) h1_3.size fp11_9 := Sub.grow sbhD Sub.nil (by omega) hs11_9
     replace ho11_4 := OS.chg ho11_4 c11_9 (Apart.symm ap14)
     replace hb0_0 := BoxAt.chgA hb0_0 c11_9 (apart_lt hlhb0_0 hfhD (by omega))
     replace hb0_1 := BoxAt.chgA hb0_1 c11_9 (apart_lt hlhb0_1 hfhD (by omega))
     replace hbx3 := BoxAt.chgA hbx3 c11_9 (Apart.symm ap_hD_hbx3)
     have := c11_9.size
     replace eB := Ext.then eB c11_9 (ge_of hfhD (by omega))
     replace cL3 := Chg.step cL3 c11_9 sbhD
     have ap17 : Apart fp11_4 fp11_9 := Apart.grow hlho11_4 (by omega) (Apart.symm ap14) (Apart.nil _) hs11_9
     have ap18 : Apart [h1_1.size] fp11_9 := Apart.grow hlhbx3 (by omega) (Apart.symm ap_hD_hbx3) (Apart.nil _) hs11_9
     have hlho11_9 := OS.lt ho11_9
     try simp -implicitDefEqProofs (disch := first | decide | assumption | omega) only [go_sem, fa61_1, BoxAt.cell hbx3, wrap_id, cv_u8, cv_i64, Nat.zero_add, wrap_u8, eq_el, ne_el, build_el, Int.toNat_zero, bF0]
     refine op_storeB (cs' := #[.int .i64 ((0 : Int)), .slice none 0 0, .slice none 0 0, v11_4]) st59 hbx3 rfl (OS.one ho11_4).2 rfl (by simp) (allOne_mem (l := [v11_4]) ⟨(OS.one ho11_4).1, trivial⟩) rfl ?_
     intro h11_11 hbx3 c11_11
     replace ho11_4 := OS.chg ho11_4 c11_11 (Apart.symm ap15)
     replace ho11_9 := OS.chg ho11_9 c11_11 (Apart.symm ap18)
     replace hb0_0 := BoxAt.chgA hb0_0 c11_11 (apart_lt hlhb0_0 hfhbx3 (by omega))
     replace hb0_1 := BoxAt.chgA hb0_1 c11_11 (apart_lt hlhb0_1 hfhbx3 (by omega))
     have := c11_11.size
     replace eB := Ext.then eB c11_11 (ge_of hfhbx3 (by omega))
     replace cL3 := Chg.step cL3 c11_11 (Sub.right (Sub.right Sub.refl))
     try simp -implicitDefEqProofs (disch := first | decide | assumption | omega) only [go_sem, RdS.len (OS.rd ho11_9) sl55, RdS.idx (OS.rd ho11_9) sl55, R1.intN (OS.rd ho11_9), RdS.cells (OS.rd ho11_9), wrap_id, cv_u8, cv_i64, Nat.zero_add, wrap_u8, eq_el, ne_el, build_el, Int.toNat_zero, bF0]
     refine hK _ _ ?_
     clear hK K
     refine den_blk ?_
     refine den_region TTok ?_
     intro K hK
     simp -implicitDefEqProofs (disch := first | decide | assumption | omega) only [go_sem, wrap_id, cv_u8, cv_i64, Nat.zero_add, wrap_u8, eq_el, ne_el, build_el, Int.toNat_zero, bF0]
     refine hK _ _ ?_
     clear hK K
     refine den_stop ?_
     rw [hlv_, fcD_step] at ho11_9
     rw [hlvl, fcL_step] at ho11_4
     exact ⟨(n + 1, v11_4, fp11_4, v11_9, fp11_9), by simp [HasL, puts_at], ⟨by first | omega | (dsimp only; omega), ho11_4, hfho11_4, sb13, ho11_9, hfho11_9, sb16, hbx3, ap17, (Apart.symm ap15), (Apart.symm ap18), cL3⟩, by first | omega | (dsimp only; omega)⟩
  ·try simp only [decide_eq_true_eq, decide_eq_false_iff_not, beq_iff_eq, beq_eq_false_iff_ne, bne_iff_ne, ne_eq, Bool.not_eq_true', Bool.not_eq_false', Bool.and_eq_true, Bool.or_eq_true, bne_eq_false_iff_eq] at c0
   refine den_exit ?_
   refine denX_code ?_
   refine denX_stop ?_
   refine denX_hit ?_
   refine den_seq ?_
   rw [show n = fcT X by omega] at hD hV
   have hdl := fcD_len X (fcT X)
   have hbL : (fcD X (fcT X)).length ≤ 16 := by omega
   have hbD : (fcD X (fcT X)).all (fun x => in3 x 0 8) = true := List.all_eq_true.2 fun x hx => by
    obtain ⟨m, _, rfl⟩ := List.mem_map.1 hx
    have := mbP_len hs (m : Int)
    exact in3_iff.2 ⟨by omega, by omega⟩
   refine den_region TTok ?_
   intro K hK
   simp -implicitDefEqProofs (disch := first | decide | assumption | omega) only [go_sem, fa34_0, ld2, RdS.len (OS.rd hD) sl55, RdS.idx (OS.rd hD) sl55, R1.intN (OS.rd hD), RdS.cells (OS.rd hD), BoxAt.dgL hb0_0, BoxAt.dgP hb0_0, BoxAt.dgS hb0_0, BoxAt.dgDeg hb0_0, BoxAt.dgLev hb0_0, BoxAt.dgDeg0 hb0_0, BoxAt.dgLev0 hb0_0, BoxAt.dgDifL hb0_0, BoxAt.dgTabL hb0_0, BoxAt.dgTabL0 hb0_0, BoxAt.dgTabL1 hb0_0, BoxAt.dgTabL1' hb0_0, BoxAt.dgDifB hb0_0, BoxAt.dgTabB hb0_0, wrap_id, cv_u8, cv_i64, Nat.zero_add, wrap_u8, eq_el, ne_el, build_el, Int.toNat_zero, bF0]
   try simp -implicitDefEqProofs (disch := first | decide | assumption | omega) only [go_sem, BoxAt.cell hb0_1, wrap_id, cv_u8, cv_i64, Nat.zero_add, wrap_u8, eq_el, ne_el, build_el, Int.toNat_zero, bF0]
   refine CallA.mono (blank_ok _ _ (fcD X (fcT X)) _ (OS.rd hD) hbD hbL) ?_
   intro v_ h13_3
   rintro ⟨vw13_3, fw13_3, rfl, how13_3, hfw13_3, e13_3⟩
   replace hV := OS.ext hV e13_3
   replace hD := OS.ext hD e13_3
   replace hb0_0 := BoxAt.ext hb0_0 e13_3
   replace hb0_1 := BoxAt.ext hb0_1 e13_3
   replace hbx3 := BoxAt.ext hbx3 e13_3
   have := Ext.size e13_3
   replace eB := Ext.trans eB e13_3
   have hlhow13_3 := OS.lt how13_3
   try simp -implicitDefEqProofs (disch := first | decide | assumption | omega) only [go_sem, fa61_0, RdS.len (OS.rd hV) sl59, RdS.idx (OS.rd hV) sl59, RdS.cellN (OS.rd hV), RdS.cells (OS.rd hV), BoxAt.cell hbx3, wrap_id, cv_u8, cv_i64, Nat.zero_add, wrap_u8, eq_el, ne_el, build_el, Int.toNat_zero, bF0]
   refine op_storeB (cs' := #[.int .i64 (X.p), vhD, vw13_3, vhV]) st58 hbx3 rfl rfl rfl (by simp) (allOne_mem (l := [.int .i64 (X.p), vhD, vw13_3]) ⟨rfl, (OS.one hD).1, (OS.one how13_3).1, trivial⟩) rfl ?_
   intro h13_5 hbx3 c13_5
   replace hV := OS.chg hV c13_5 ap_hV_hbx3
   replace hD := OS.chg hD c13_5 ap_hD_hbx3
   replace how13_3 := OS.chg how13_3 c13_5 (apart_gt hfw13_3 hlhbx3 (by omega))
   replace hb0_0 := BoxAt.chgA hb0_0 c13_5 (apart_lt hlhb0_0 hfhbx3 (by omega))
   replace hb0_1 := BoxAt.chgA hb0_1 c13_5 (apart_lt hlhb0_1 hfhbx3 (by omega))
   have := c13_5.size
   replace eB := Ext.then eB c13_5 (ge_of hfhbx3 (by omega))
   try simp -implicitDefEqProofs (disch := first | decide | assumption | omega) only [go_sem, BoxAt.cell hb0_1, wrap_id, cv_u8, cv_i64, Nat.zero_add, wrap_u8, eq_el, ne_el, build_el, Int.toNat_zero, bF0]
   refine hK _ _ ?_
   clear hK K
   refine den_seq ?_
   refine den_seq ?_
   refine den_region TTok ?_
   intro K hK
   simp -implicitDefEqProofs (disch := first | decide | assumption | omega) only [go_sem, wrap_id, cv_u8, cv_i64, Nat.zero_add, wrap_u8, eq_el, ne_el, build_el, Int.toNat_zero, bF0]
   refine hK _ _ ?_
   clear hK K
   refine den_block ?_
   refine den_sel [9, 1, 2, 3, 4] ?_
   intro env_19
   simp only [go_sem]
   refine den_loopS (σ := Nat × Value × List Nat) (fun st_ => [(9, .int .i64 (st_.1 : Int))]) (fun st_ H => (1 ≤ st_.1) ∧ (st_.1 ≤ fcT X) ∧ (O3 H st_.2.1 (flM X (fcT X - 1) st_.1 0 0) st_.2.2) ∧ (Fresh (h5.size) st_.2.2) ∧ (Sub (fw13_3 ++ ([h1_1.size])) h13_5.size st_.2.2) ∧ (BoxAt H (h1_1.size) #[.int .i64 (X.p), vhD, st_.2.1, vhV] 61) ∧ (Apart st_.2.2 [h1_1.size]) ∧ (Chg (fw13_3 ++ ([h1_1.size])) h13_5 H)) (fun st_ => fcT X - st_.1) (1, vw13_3, fw13_3) ?_ ?_
   ·exact ⟨by first | (simp; done) | (dsimp only; omega) | (simp; omega), by first | (simp; done) | (dsimp only; omega) | (simp; omega), by have hq := how13_3; rw [hdl, flM_0] at hq; exact hq, hfw13_3, (Sub.left Sub.refl), by simpa using hbx3, (apart_gt hfw13_3 hlhbx3 (by omega)), Chg.refl _ _⟩
   ·rintro ⟨n, vhM, fphM⟩ h22 ee21 ⟨hi0, hi1, hM, hfhM, sbhM, hbx3, ap_hM_hbx3, cL20⟩
    dsimp only at hi0 hi1 hM hfhM sbhM hbx3 ap_hM_hbx3 cL20
    replace hV := OS.chg hV cL20 (Apart.app (apart_lt hlhV hfw13_3 (by omega)) ap_hV_hbx3)
    replace hD := OS.chg hD cL20 (Apart.app (apart_lt hlhD hfw13_3 (by omega)) ap_hD_hbx3)
    replace hb0_0 := BoxAt.chgA hb0_0 cL20 (Apart.app (apart_lt hlhb0_0 hfw13_3 (by omega)) (apart_lt hlhb0_0 hfhbx3 (by omega)))
    replace hb0_1 := BoxAt.chgA hb0_1 cL20 (Apart.app (apart_lt hlhb0_1 hfw13_3 (by omega)) (apart_lt hlhb0_1 hfhbx3 (by omega)))
    have := cL20.size
    replace eB := Ext.then eB cL20 (ge_app (ge_of hfw13_3 (by omega)) (ge_of hfhbx3 (by omega)))
    have hlhM := OS.lt hM
    have hfhbx3 := hfhbx3
    have hlhbx3 := hlhbx3
    simp only [List.cons_append, List.nil_append]
    have hA1 : flA X (n - 1) = (mbP X (n : Int)).length := by unfold flA; rw [show ((n - 1 : Nat) : Int) + 1 = (n : Int) by omega]
    have hB1 : flB X (n - 1) = (mbP X ((n : Int) - 1)).length := by unfold flB; rw [show ((n - 1 : Nat) : Int) = (n : Int) - 1 by omega]
    have hml1 := mbP_len hs (n : Int)
    have hml2 := mbP_len hs ((n : Int) - 1)
    refine den_seq ?_
    refine den_seq ?_
    refine den_region TTok ?_
    intro K hK
    simp -implicitDefEqProofs (disch := first | decide | assumption | omega) only [go_sem, RdS.len (OS.rd hD) sl55, RdS.idx (OS.rd hD) sl55, R1.intN (OS.rd hD), RdS.cells (OS.rd hD), wrap_id, cv_u8, cv_i64, Nat.zero_add, wrap_u8, eq_el, ne_el, build_el, Int.toNat_zero, bF0]
    try simp -implicitDefEqProofs (disch := first | decide | assumption | omega) only [go_sem, BoxAt.cell hb0_1, wrap_id, cv_u8, cv_i64, Nat.zero_add, wrap_u8, eq_el, ne_el, build_el, Int.toNat_zero, bF0]
    refine CallA.pure (size1_ok _ _ _ (OS.rd hD)) ?_
    try simp -implicitDefEqProofs (disch := first | decide | assumption | omega) only [go_sem, wrap_id, cv_u8, cv_i64, Nat.zero_add, wrap_u8, eq_el, ne_el, build_el, Int.toNat_zero, bF0]
    refine hK _ _ ?_
    clear hK K
    refine den_cond rfl (fun c2 => ?_) (fun c2 => ?_)
    ·try simp only [decide_eq_true_eq, decide_eq_false_iff_not, beq_iff_eq, beq_eq_false_iff_ne, bne_iff_ne, ne_eq, Bool.not_eq_true', Bool.not_eq_false', Bool.and_eq_true, Bool.or_eq_true, bne_eq_false_iff_eq] at c2
     refine den_skip ?_
     refine den_seq ?_
     refine den_block ?_
     refine den_seq ?_
     refine den_region TTok ?_
     intro K hK
     simp -implicitDefEqProofs (disch := first | decide | assumption | omega) only [go_sem, BoxAt.dgL hb0_0, BoxAt.dgP hb0_0, BoxAt.dgS hb0_0, BoxAt.dgDeg hb0_0, BoxAt.dgLev hb0_0, BoxAt.dgDeg0 hb0_0, BoxAt.dgLev0 hb0_0, BoxAt.dgDifL hb0_0, BoxAt.dgTabL hb0_0, BoxAt.dgTabL0 hb0_0, BoxAt.dgTabL1 hb0_0, BoxAt.dgTabL1' hb0_0, BoxAt.dgDifB hb0_0, BoxAt.dgTabB hb0_0, wrap_id, cv_u8, cv_i64, Nat.zero_add, wrap_u8, eq_el, ne_el, build_el, Int.toNat_zero, bF0]
     try simp -implicitDefEqProofs (disch := first | decide | assumption | omega) only [go_sem, BoxAt.cell hb0_1, wrap_id, cv_u8, cv_i64, Nat.zero_add, wrap_u8, eq_el, ne_el, build_el, Int.toNat_zero, bF0]
     refine CallA.mono (iMb_ok  X (n : Int) _  (by omega)) ?_
     intro vw17_2_0 h17_2
     rintro ⟨zvw17_2_0, fw17_2_0, rfl, how17_2_0, hfw17_2_0, e17_2⟩
     replace hV := OS.ext hV e17_2
     replace hD := OS.ext hD e17_2
     replace hM := OS.ext hM e17_2
     replace hb0_0 := BoxAt.ext hb0_0 e17_2
     replace hb0_1 := BoxAt.ext hb0_1 e17_2
     replace hbx3 := BoxAt.ext hbx3 e17_2
     have := Ext.size e17_2
     replace eB := Ext.trans eB e17_2
     replace cL20 := Chg.stepE cL20 e17_2
     have hlhow17_2_0 := OS.lt how17_2_0
     try simp -implicitDefEqProofs (disch := first | decide | assumption | omega) only [go_sem, RdS.len (OS.rd how17_2_0) sl55, RdS.idx (OS.rd how17_2_0) sl55, R1.intN (OS.rd how17_2_0), RdS.cells (OS.rd how17_2_0), wrap_id, cv_u8, cv_i64, Nat.zero_add, wrap_u8, eq_el, ne_el, build_el, Int.toNat_zero, bF0]
     refine hK _ _ ?_
     clear hK K
     refine den_block ?_
     refine den_sel [70, 1, 2, 3, 4, 9, 68, 69] ?_
     intro env_23
     simp only [go_sem]
     refine den_loopS (σ := Nat × Value × List Nat) (fun st_ => [(70, .int .i64 (st_.1 : Int))]) (fun st_ H => (st_.1 ≤ (mbP X (n : Int)).length) ∧ (O3 H st_.2.1 (flM X (fcT X - 1) n st_.1 0) st_.2.2) ∧ (Fresh (h5.size) st_.2.2) ∧ (Sub (fphM ++ ([h1_1.size])) h17_2.size st_.2.2) ∧ (BoxAt H (h1_1.size) #[.int .i64 (X.p), vhD, st_.2.1, vhV] 61) ∧ (Apart st_.2.2 [h1_1.size]) ∧ (Chg (fphM ++ ([h1_1.size])) h17_2 H)) (fun st_ => (mbP X (n : Int)).length - st_.1) (0, vhM, fphM) ?_ ?_
     ·exact ⟨by first | (simp; done) | (dsimp only; omega) | (simp; omega), by exact hM, hfhM, (Sub.left Sub.refl), by simpa using hbx3, ap_hM_hbx3, Chg.refl _ _⟩
     ·rintro ⟨r, vhMr, fphMr⟩ h26 ee25 ⟨hi0, hMr, hfhMr, sbhMr, hbx3, ap_hMr_hbx3, cL24⟩
      dsimp only at hi0 hMr hfhMr sbhMr hbx3 ap_hMr_hbx3 cL24
      replace hV := OS.chg hV cL24 (Apart.app (apart_lt hlhV hfhM (by omega)) ap_hV_hbx3)
      replace hD := OS.chg hD cL24 (Apart.app (apart_lt hlhD hfhM (by omega)) ap_hD_hbx3)
      replace how17_2_0 := OS.chg how17_2_0 cL24 (Apart.app (apart_gt hfw17_2_0 hlhM (by omega)) (apart_gt hfw17_2_0 hlhbx3 (by omega)))
      replace hb0_0 := BoxAt.chgA hb0_0 cL24 (Apart.app (apart_lt hlhb0_0 hfhM (by omega)) (apart_lt hlhb0_0 hfhbx3 (by omega)))
      replace hb0_1 := BoxAt.chgA hb0_1 cL24 (Apart.app (apart_lt hlhb0_1 hfhM (by omega)) (apart_lt hlhb0_1 hfhbx3 (by omega)))
      have := cL24.size
      replace eB := Ext.then eB cL24 (ge_app (ge_of hfhM (by omega)) (ge_of hfhbx3 (by omega)))
      replace cL20 := Chg.step cL20 cL24 (Sub.app sbhM (Sub.right Sub.refl))
      have ap27 : Apart fw17_2_0 fphMr := Apart.sub_ hlhow17_2_0 (by omega) (Apart.app (apart_gt hfw17_2_0 hlhM (by omega)) (apart_gt hfw17_2_0 hlhbx3 (by omega))) sbhMr
      have sb28 : Sub (fw13_3 ++ ([h1_1.size])) h13_5.size fphMr := Sub.trans sbhMr (Sub.app sbhM (Sub.right Sub.refl)) (by omega)
      have hlhMr := OS.lt hMr
      have hfhbx3 := hfhbx3
      have hlhbx3 := hlhbx3
      simp only [List.cons_append, List.nil_append]
      refine den_seq ?_
      refine den_region TTok ?_
      intro K hK
      simp -implicitDefEqProofs (disch := first | decide | assumption | omega) only [go_sem, wrap_id, cv_u8, cv_i64, Nat.zero_add, wrap_u8, eq_el, ne_el, build_el, Int.toNat_zero, bF0]
      refine hK _ _ ?_
      clear hK K
      refine den_seq ?_
      refine den_cond rfl (fun c3 => ?_) (fun c3 => ?_)
      ·try simp only [decide_eq_true_eq, decide_eq_false_iff_not, beq_iff_eq, beq_eq_false_iff_ne, bne_iff_ne, ne_eq, Bool.not_eq_true', Bool.not_eq_false', Bool.and_eq_true, Bool.or_eq_true, bne_eq_false_iff_eq] at c3
       refine den_skip ?_
       refine den_seq ?_
       refine den_block ?_
       refine den_seq ?_
       have hatr := mb_at (X := X) (n := (n : Int)) (k := r) (by omega)
       refine den_region TTok ?_
       intro K hK
       simp -implicitDefEqProofs (disch := first | decide | assumption | omega) only [go_sem, ld2, RdS.len (OS.rd how17_2_0) sl55, RdS.idx (OS.rd how17_2_0) sl55, R1.intN (OS.rd how17_2_0), RdS.cells (OS.rd how17_2_0), wrap_id, cv_u8, cv_i64, Nat.zero_add, wrap_u8, eq_el, ne_el, build_el, Int.toNat_zero, bF0]
       refine hK _ _ ?_
       clear hK K
       refine den_seq ?_
       refine den_region TTok ?_
       intro K hK
       simp -implicitDefEqProofs (disch := first | decide | assumption | omega) only [go_sem, BoxAt.dgL hb0_0, BoxAt.dgP hb0_0, BoxAt.dgS hb0_0, BoxAt.dgDeg hb0_0, BoxAt.dgLev hb0_0, BoxAt.dgDeg0 hb0_0, BoxAt.dgLev0 hb0_0, BoxAt.dgDifL hb0_0, BoxAt.dgTabL hb0_0, BoxAt.dgTabL0 hb0_0, BoxAt.dgTabL1 hb0_0, BoxAt.dgTabL1' hb0_0, BoxAt.dgDifB hb0_0, BoxAt.dgTabB hb0_0, wrap_id, cv_u8, cv_i64, Nat.zero_add, wrap_u8, eq_el, ne_el, build_el, Int.toNat_zero, bF0]
       try simp -implicitDefEqProofs (disch := first | decide | assumption | omega) only [go_sem, BoxAt.cell hb0_1, wrap_id, cv_u8, cv_i64, Nat.zero_add, wrap_u8, eq_el, ne_el, build_el, Int.toNat_zero, bF0]
       refine CallA.mono (iMb_ok  X ((n : Int) - (1 : Int)) _  (by omega)) ?_
       intro vw20_3_0 h20_3
       rintro ⟨zvw20_3_0, fw20_3_0, rfl, how20_3_0, hfw20_3_0, e20_3⟩
       replace hV := OS.ext hV e20_3
       replace hD := OS.ext hD e20_3
       replace how17_2_0 := OS.ext how17_2_0 e20_3
       replace hMr := OS.ext hMr e20_3
       replace hb0_0 := BoxAt.ext hb0_0 e20_3
       replace hb0_1 := BoxAt.ext hb0_1 e20_3
       replace hbx3 := BoxAt.ext hbx3 e20_3
       have := Ext.size e20_3
       replace eB := Ext.trans eB e20_3
       replace cL20 := Chg.stepE cL20 e20_3
       replace cL24 := Chg.stepE cL24 e20_3
       have hlhow20_3_0 := OS.lt how20_3_0
       try simp -implicitDefEqProofs (disch := first | decide | assumption | omega) only [go_sem, RdS.len (OS.rd how20_3_0) sl55, RdS.idx (OS.rd how20_3_0) sl55, R1.intN (OS.rd how20_3_0), RdS.cells (OS.rd how20_3_0), wrap_id, cv_u8, cv_i64, Nat.zero_add, wrap_u8, eq_el, ne_el, build_el, Int.toNat_zero, bF0]
       refine hK _ _ ?_
       clear hK K
       refine den_block ?_
       refine den_sel [80, 1, 2, 3, 4, 9, 10, 11, 68, 69, 70, 78, 79] ?_
       intro env_29
       simp only [go_sem]
       refine den_loopS (σ := Nat × Value × List Nat) (fun st_ => [(80, .int .i64 (st_.1 : Int))]) (fun st_ H => (st_.1 ≤ (mbP X ((n : Int) - 1)).length) ∧ (O3 H st_.2.1 (flM X (fcT X - 1) n r st_.1) st_.2.2) ∧ (Fresh (h5.size) st_.2.2) ∧ (Sub (fphMr ++ ([h1_1.size])) h20_3.size st_.2.2) ∧ (BoxAt H (h1_1.size) #[.int .i64 (X.p), vhD, st_.2.1, vhV] 61) ∧ (Apart st_.2.2 [h1_1.size]) ∧ (Chg (fphMr ++ ([h1_1.size])) h20_3 H)) (fun st_ => (mbP X ((n : Int) - 1)).length - st_.1) (0, vhMr, fphMr) ?_ ?_
       ·exact ⟨by first | (simp; done) | (dsimp only; omega) | (simp; omega), by exact hMr, hfhMr, (Sub.left Sub.refl), by simpa using hbx3, ap_hMr_hbx3, Chg.refl _ _⟩
       ·rintro ⟨c, vhMc, fphMc⟩ h32 ee31 ⟨hi0, hMc, hfhMc, sbhMc, hbx3, ap_hMc_hbx3, cL30⟩
        dsimp only at hi0 hMc hfhMc sbhMc hbx3 ap_hMc_hbx3 cL30
        replace hV := OS.chg hV cL30 (Apart.app (apart_lt hlhV hfhMr (by omega)) ap_hV_hbx3)
        replace hD := OS.chg hD cL30 (Apart.app (apart_lt hlhD hfhMr (by omega)) ap_hD_hbx3)
        replace how17_2_0 := OS.chg how17_2_0 cL30 (Apart.app ap27 (apart_gt hfw17_2_0 hlhbx3 (by omega)))
        replace how20_3_0 := OS.chg how20_3_0 cL30 (Apart.app (apart_gt hfw20_3_0 hlhMr (by omega)) (apart_gt hfw20_3_0 hlhbx3 (by omega)))
        replace hb0_0 := BoxAt.chgA hb0_0 cL30 (Apart.app (apart_lt hlhb0_0 hfhMr (by omega)) (apart_lt hlhb0_0 hfhbx3 (by omega)))
        replace hb0_1 := BoxAt.chgA hb0_1 cL30 (Apart.app (apart_lt hlhb0_1 hfhMr (by omega)) (apart_lt hlhb0_1 hfhbx3 (by omega)))
        have := cL30.size
        replace eB := Ext.then eB cL30 (ge_app (ge_of hfhMr (by omega)) (ge_of hfhbx3 (by omega)))
        replace cL20 := Chg.step cL20 cL30 (Sub.app sb28 (Sub.right Sub.refl))
        replace cL24 := Chg.step cL24 cL30 (Sub.app sbhMr (Sub.right Sub.refl))
        have ap33 : Apart fw17_2_0 fphMc := Apart.sub_ hlhow17_2_0 (by omega) (Apart.app ap27 (apart_gt hfw17_2_0 hlhbx3 (by omega))) sbhMc
        have ap34 : Apart fw20_3_0 fphMc := Apart.sub_ hlhow20_3_0 (by omega) (Apart.app (apart_gt hfw20_3_0 hlhMr (by omega)) (apart_gt hfw20_3_0 hlhbx3 (by omega))) sbhMc
        have sb35 : Sub (fw13_3 ++ ([h1_1.size])) h13_5.size fphMc := Sub.trans sbhMc (Sub.app sb28 (Sub.right Sub.refl)) (by omega)
        have sb36 : Sub (fphM ++ ([h1_1.size])) h17_2.size fphMc := Sub.trans sbhMc (Sub.app sbhMr (Sub.right Sub.refl)) (by omega)
        have hlhMc := OS.lt hMc
        have hfhbx3 := hfhbx3
        have hlhbx3 := hlhbx3
        simp only [List.cons_append, List.nil_append]
        refine den_seq ?_
        refine den_region TTok ?_
        intro K hK
        simp -implicitDefEqProofs (disch := first | decide | assumption | omega) only [go_sem, wrap_id, cv_u8, cv_i64, Nat.zero_add, wrap_u8, eq_el, ne_el, build_el, Int.toNat_zero, bF0]
        refine hK _ _ ?_
        clear hK K
        refine den_seq ?_
        refine den_cond rfl (fun c4 => ?_) (fun c4 => ?_)
        ·try simp only [decide_eq_true_eq, decide_eq_false_iff_not, beq_iff_eq, beq_eq_false_iff_ne, bne_iff_ne, ne_eq, Bool.not_eq_true', Bool.not_eq_false', Bool.and_eq_true, Bool.or_eq_true, bne_eq_false_iff_eq] at c4
         refine den_skip ?_
         refine den_seq ?_
         refine den_block ?_
         refine den_seq ?_
         refine den_region TTok ?_
         intro K hK
         simp -implicitDefEqProofs (disch := first | decide | assumption | omega) only [go_sem, ld2, RdS.len (OS.rd how20_3_0) sl55, RdS.idx (OS.rd how20_3_0) sl55, R1.intN (OS.rd how20_3_0), RdS.cells (OS.rd how20_3_0), wrap_id, cv_u8, cv_i64, Nat.zero_add, wrap_u8, eq_el, ne_el, build_el, Int.toNat_zero, bF0]
         refine hK _ _ ?_
         clear hK K
         have hatr := mb_at (X := X) (n := (n : Int)) (k := r) (by omega)
         have hatc := mb_at (X := X) (n := (n : Int) - 1) (k := c) (by omega)
         have hdb := hBd ((mbP X (n : Int)).getD r 0).toNat ((mbP X ((n : Int) - 1)).getD c 0).toNat
         have hsh := flM_sh X (fcT X - 1) n r c
         have hlen := hsh.len
         have hrow := hsh.rows (n - 1) (by omega)
         have hcol := hsh.cols (n - 1) r (by omega) (by omega)
         have hi3 := flM_in3 hB hfm (fcT X - 1) n r c (n - 1) r c (by omega) (by omega) (by omega)
         have hfv := flV_bnd hB hfm (k := n - 1) (r := r) (c := c) (by omega) (by omega)
         have hn1 : ((n : Int) - 1).toNat = n - 1 := by omega
         have hflv : X.dif ((mbP X (n : Int)).getD r 0).toNat ((mbP X ((n : Int) - 1)).getD c 0).toNat = flV X (n - 1) r c := by unfold flV; rw [show ((n - 1 : Nat) : Int) + 1 = (n : Int) by omega, show ((n - 1 : Nat) : Int) = (n : Int) - 1 by omega]
         refine den_draw TTok mixed [12] [(0, true), (1, true), (2, true), (3, true), (4, true), (5, true), (6, true), (7, true), (8, true), (9, true), (10, true), (11, true), (12, false)] (by kernel_rfl) ?_
         intro K hK
         simp -implicitDefEqProofs (disch := first | decide | assumption | omega) only [go_sem, Int.toNat_zero, T2, T5, fa34_4, fa61_0, ia31, ia30, ld58, ld5, RdS.len (OS.rd hV) sl59, RdS.idx (OS.rd hV) sl59, RdS.cellN (OS.rd hV), RdS.cells (OS.rd hV), RdS.len (OS.rd hD) sl55, RdS.idx (OS.rd hD) sl55, R1.intN (OS.rd hD), RdS.cells (OS.rd hD), RdS.len (OS.rd hMc) sl56, RdS.idx (OS.rd hMc) sl56, RdS.cellN (OS.rd hMc), RdS.cells (OS.rd hMc), BoxAt.dgL hb0_0, BoxAt.dgP hb0_0, BoxAt.dgS hb0_0, BoxAt.dgDeg hb0_0, BoxAt.dgLev hb0_0, BoxAt.dgDeg0 hb0_0, BoxAt.dgLev0 hb0_0, BoxAt.dgDifL hb0_0, BoxAt.dgTabL hb0_0, BoxAt.dgTabL0 hb0_0, BoxAt.dgTabL1 hb0_0, BoxAt.dgTabL1' hb0_0, BoxAt.dgDifB hb0_0, BoxAt.dgTabB hb0_0, BoxAt.cell hbx3, wrap_id, cv_u8, cv_i64, Nat.zero_add, wrap_u8, eq_el, ne_el, build_el, Int.toNat_zero, bF0]
         try simp -implicitDefEqProofs (disch := first | decide | assumption | omega) only [go_sem, BoxAt.cell hb0_1, wrap_id, cv_u8, cv_i64, Nat.zero_add, wrap_u8, eq_el, ne_el, build_el, Int.toNat_zero, bF0]
         refine CallA.mono (addAt_ok X.p _ _ _ _ _ (n : Int) (r : Int) (c : Int) _ _ (OS.rd hD) hMc hfhMc.nodup hpb (by omega) (by rw [hn1]; omega) (by rw [hn1, Int.toNat_natCast]; omega) (by rw [hn1, Int.toNat_natCast, Int.toNat_natCast]; exact hi3) (by rw [hflv]; omega)) ?_
         intro v_ h23_12
         rintro ⟨rfl, hog23_12, cg23_12⟩
         replace hV := OS.chg hV cg23_12 (apart_lt hlhV hfhMc (by omega))
         replace hD := OS.chg hD cg23_12 (apart_lt hlhD hfhMc (by omega))
         replace how17_2_0 := OS.chg how17_2_0 cg23_12 ap33
         replace how20_3_0 := OS.chg how20_3_0 cg23_12 ap34
         replace hb0_0 := BoxAt.chgA hb0_0 cg23_12 (apart_lt hlhb0_0 hfhMc (by omega))
         replace hb0_1 := BoxAt.chgA hb0_1 cg23_12 (apart_lt hlhb0_1 hfhMc (by omega))
         replace hbx3 := BoxAt.chgA hbx3 cg23_12 (Apart.symm ap_hMc_hbx3)
         have := cg23_12.size
         replace eB := Ext.then eB cg23_12 (ge_of hfhMc (by omega))
         replace cL20 := Chg.step cL20 cg23_12 sb35
         replace cL24 := Chg.step cL24 cg23_12 sb36
         replace cL30 := Chg.step cL30 cg23_12 sbhMc
         have ap37 : Apart fw17_2_0 fphMc := ap33
         have ap38 : Apart fw20_3_0 fphMc := ap34
         have ap39 : Apart [h1_1.size] fphMc := (Apart.symm ap_hMc_hbx3)
         have hlhog23_12 := hlhMc
         rw [show ((n : Int) - 1).toNat = n - 1 by omega, Int.toNat_natCast, Int.toNat_natCast, hflv] at hog23_12
         try simp (disch := decide) only [outv_some, outv_none, put_puts]
         refine plK_last (by decide) ?_
         try simp -implicitDefEqProofs (disch := first | decide | assumption | omega) only [go_sem, BoxAt.cell hb0_1, wrap_id, cv_u8, cv_i64, Nat.zero_add, wrap_u8, eq_el, ne_el, build_el, Int.toNat_zero, bF0]
         refine hK _ _ ?_
         clear hK K
         refine den_blk ?_
         refine den_region TTok ?_
         intro K hK
         simp -implicitDefEqProofs (disch := first | decide | assumption | omega) only [go_sem, wrap_id, cv_u8, cv_i64, Nat.zero_add, wrap_u8, eq_el, ne_el, build_el, Int.toNat_zero, bF0]
         refine hK _ _ ?_
         clear hK K
         refine den_stop ?_
         have hst := flM_step hB hfm (L := fcT X - 1) (k := n - 1) (r := r) (c := c) (by omega) (by omega) (by omega)
         rw [show n - 1 + 1 = n by omega] at hst
         rw [hst] at hog23_12
         exact ⟨(c + 1, vhMc, fphMc), by simp [HasL, puts_at], ⟨by first | omega | (dsimp only; omega), hog23_12, hfhMc, sbhMc, hbx3, (Apart.symm ap39), cL30⟩, by first | omega | (dsimp only; omega)⟩
        ·try simp only [decide_eq_true_eq, decide_eq_false_iff_not, beq_iff_eq, beq_eq_false_iff_ne, bne_iff_ne, ne_eq, Bool.not_eq_true', Bool.not_eq_false', Bool.and_eq_true, Bool.or_eq_true, bne_eq_false_iff_eq] at c4
         refine den_exit ?_
         refine denX_code ?_
         refine denX_stop ?_
         refine denX_hit ?_
         refine den_blk ?_
         refine den_region TTok ?_
         intro K hK
         simp -implicitDefEqProofs (disch := first | decide | assumption | omega) only [go_sem, wrap_id, cv_u8, cv_i64, Nat.zero_add, wrap_u8, eq_el, ne_el, build_el, Int.toNat_zero, bF0]
         refine hK _ _ ?_
         clear hK K
         refine den_stop ?_
         rw [show c = flB X (n - 1) by omega, flM_row X (by omega)] at hMc
         exact ⟨(r + 1, vhMc, fphMc), by simp [HasL, puts_at], ⟨by first | omega | (dsimp only; omega), hMc, hfhMc, sb36, hbx3, ap_hMc_hbx3, cL24⟩, by first | omega | (dsimp only; omega)⟩
      ·try simp only [decide_eq_true_eq, decide_eq_false_iff_not, beq_iff_eq, beq_eq_false_iff_ne, bne_iff_ne, ne_eq, Bool.not_eq_true', Bool.not_eq_false', Bool.and_eq_true, Bool.or_eq_true, bne_eq_false_iff_eq] at c3
       refine den_exit ?_
       refine denX_code ?_
       refine denX_stop ?_
       refine denX_hit ?_
       refine den_blk ?_
       refine den_region TTok ?_
       intro K hK
       simp -implicitDefEqProofs (disch := first | decide | assumption | omega) only [go_sem, wrap_id, cv_u8, cv_i64, Nat.zero_add, wrap_u8, eq_el, ne_el, build_el, Int.toNat_zero, bF0]
       refine hK _ _ ?_
       clear hK K
       refine den_stop ?_
       rw [show r = flA X (n - 1) by omega, flM_tab X (by omega)] at hMr
       exact ⟨(n + 1, vhMr, fphMr), by simp [HasL, puts_at], ⟨by first | omega | (dsimp only; omega), by first | omega | (dsimp only; omega), hMr, hfhMr, sb28, hbx3, ap_hMr_hbx3, cL20⟩, by first | omega | (dsimp only; omega)⟩
    ·try simp only [decide_eq_true_eq, decide_eq_false_iff_not, beq_iff_eq, beq_eq_false_iff_ne, bne_iff_ne, ne_eq, Bool.not_eq_true', Bool.not_eq_false', Bool.and_eq_true, Bool.or_eq_true, bne_eq_false_iff_eq] at c2
     refine den_exit ?_
     refine denX_code ?_
     refine denX_stop ?_
     refine denX_hit ?_
     refine den_seq ?_
     refine den_region TTok ?_
     intro K hK
     simp -implicitDefEqProofs (disch := first | decide | assumption | omega) only [go_sem, ld61, RdS.len (OS.rd hV) sl59, RdS.idx (OS.rd hV) sl59, RdS.cellN (OS.rd hV), RdS.cells (OS.rd hV), RdS.len (OS.rd hD) sl55, RdS.idx (OS.rd hD) sl55, R1.intN (OS.rd hD), RdS.cells (OS.rd hD), RdS.len (OS.rd hM) sl56, RdS.idx (OS.rd hM) sl56, RdS.cellN (OS.rd hM), RdS.cells (OS.rd hM), BoxAt.cell hbx3, wrap_id, cv_u8, cv_i64, Nat.zero_add, wrap_u8, eq_el, ne_el, build_el, Int.toNat_zero, bF0]
     refine op_storeB (cs' := #[.int .i64 (X.p), vhD, vhM, vhV]) st61 hb0_1 rfl rfl rfl (by simp) (allOne_mem (l := [.int .i64 (X.p), vhD, vhM, vhV]) ⟨rfl, (OS.one hD).1, (OS.one hM).1, (OS.one hV).1, trivial⟩) rfl ?_
     intro h26_1 hb0_1 c26_1
     replace hV := OS.chg hV c26_1 (apart_gt hfhV hlhb0_1 (by omega))
     replace hD := OS.chg hD c26_1 (apart_gt hfhD hlhb0_1 (by omega))
     replace hM := OS.chg hM c26_1 (apart_gt hfhM hlhb0_1 (by omega))
     replace hbx3 := BoxAt.chgA hbx3 c26_1 (apart_gt hfhbx3 hlhb0_1 (by omega))
     have := c26_1.size
     replace eB := Ext.then eB c26_1 (ge_of hfhb0_1 (by omega))
     try simp -implicitDefEqProofs (disch := first | decide | assumption | omega) only [go_sem, RdS.len (OS.rd hV) sl59, RdS.idx (OS.rd hV) sl59, RdS.cellN (OS.rd hV), RdS.cells (OS.rd hV), RdS.len (OS.rd hD) sl55, RdS.idx (OS.rd hD) sl55, R1.intN (OS.rd hD), RdS.cells (OS.rd hD), RdS.len (OS.rd hM) sl56, RdS.idx (OS.rd hM) sl56, RdS.cellN (OS.rd hM), RdS.cells (OS.rd hM), BoxAt.cell hb0_1, wrap_id, cv_u8, cv_i64, Nat.zero_add, wrap_u8, eq_el, ne_el, build_el, Int.toNat_zero, bF0]
     refine hK _ _ ?_
     clear hK K
     refine den_ret ?_
     simp -implicitDefEqProofs (disch := first | decide | assumption | omega) only [go_sem, RdS.len (OS.rd hV) sl59, RdS.idx (OS.rd hV) sl59, RdS.cellN (OS.rd hV), RdS.cells (OS.rd hV), RdS.len (OS.rd hD) sl55, RdS.idx (OS.rd hD) sl55, R1.intN (OS.rd hD), RdS.cells (OS.rd hD), RdS.len (OS.rd hM) sl56, RdS.idx (OS.rd hM) sl56, RdS.cellN (OS.rd hM), RdS.cells (OS.rd hM), BoxAt.cell hb0_1, wrap_id, cv_u8, cv_i64, Nat.zero_add, wrap_u8, eq_el, ne_el, build_el, Int.toNat_zero, bF0, resP_c1, ld61]
     have hD := hD
     have hM := hM
     have hV := hV
     rw [show n = fcT X - 1 + 1 by omega, flM_end] at hM
     exact ⟨_, _, _, _, _, _, rfl, hD, hM, hV, Fresh.two (lo := h.size) hfhD (Fresh.two (lo := h.size) hfhM hfhV (apart_gt hfhM hlhV (by omega)) (by omega) (by omega)) (Apart.app (apart_lt hlhD hfhM (by omega)) (Apart.symm ap_hV_hD)) (by omega) (by omega), eB⟩
end Go.Proofs.Ytacajcjibhifmaa

namespace Go.Proofs.Ytacajcjibhifmaa
open Go
noncomputable def foR (X : Dg) : Fl × Int := if dgB X = true then (fcP X, 0) else (⟨⟨0, [], []⟩, []⟩, 1)
theorem foR_y {X : Dg} (h : dgB X = true) : foR X = (fcP X, 0) := if_pos h
theorem foR_n {X : Dg} (h : ¬ dgB X = true) : foR X = (⟨⟨0, [], []⟩, []⟩, 1) := if_neg h

set_option maxRecDepth 100000 in
set_option maxHeartbeats 4000000 in
theorem iFO_ok (X : Dg) (h : Heap)  (hB : DgB X) : CallA Try.prog 28 #[.agg (dgA X)] h fun v' h' => ∃ wd0 wm0 wv0 fd0 fm0 fv0, v' = .tuple #[.agg #[.int .i64 ((foR X).1).c.p, wd0, wm0, wv0], .int .i64 ((foR X).2)] ∧ O1 h' wd0 ((foR X).1).c.dims fd0 ∧ O3 h' wm0 ((foR X).1).c.maps fm0 ∧ O2 h' wv0 ((foR X).1).lv fv0 ∧ Fresh h.size (fd0 ++ (fm0 ++ fv0)) ∧ Ext h h' := by
 refine callA_intro TTok (args := [_]) Try.func28 (by kernel_rfl) rfl 10 rfl (by simp) [.cell 2 61, .tmp 3] rfl ?_
 simp only [idxs, Nat.reduceAdd]
 refine den_seq ?_
 refine den_region TTok ?_
 intro K hK
 simp -implicitDefEqProofs (disch := first | decide | assumption | omega) only [go_sem, wrap_id, cv_u8, cv_i64, Nat.zero_add, wrap_u8, eq_el, ne_el, build_el, Int.toNat_zero, bF0]
 refine op_box (cs := dgA X) rfl ?_
 intro h0_0 e0_0 hb0_0 z0_0
 have := Ext.size e0_0
 have eB := e0_0
 have hfhb0_0 : Fresh h.size [h.size] := Fresh.one _
 have hlhb0_0 := one_lt (show h.size < h0_0.size by omega)
 try simp -implicitDefEqProofs (disch := first | decide | assumption | omega) only [go_sem, wrap_id, cv_u8, cv_i64, Nat.zero_add, wrap_u8, eq_el, ne_el, build_el, Int.toNat_zero, bF0]
 refine op_alloc (cs := #[.int .i64 0, .slice none 0 0, .slice none 0 0, .slice none 0 0]) (by kernel_rfl) ?_
 intro h0_1 e0_1 hb0_1 z0_1
 replace hb0_0 := BoxAt.ext hb0_0 e0_1
 have := Ext.size e0_1
 replace eB := Ext.trans eB e0_1
 have hfhb0_1 : Fresh h0_0.size [h0_0.size] := Fresh.one _
 have hlhb0_1 := one_lt (show h0_0.size < h0_1.size by omega)
 try simp -implicitDefEqProofs (disch := first | decide | assumption | omega) only [go_sem, wrap_id, cv_u8, cv_i64, Nat.zero_add, wrap_u8, eq_el, ne_el, build_el, Int.toNat_zero, bF0]
 refine hK _ _ ?_
 clear hK K
 refine den_seq ?_
 refine den_seq ?_
 refine den_region TTok ?_
 intro K hK
 simp -implicitDefEqProofs (disch := first | decide | assumption | omega) only [go_sem, BoxAt.dgL hb0_0, BoxAt.dgP hb0_0, BoxAt.dgS hb0_0, BoxAt.dgDeg hb0_0, BoxAt.dgLev hb0_0, BoxAt.dgDeg0 hb0_0, BoxAt.dgLev0 hb0_0, BoxAt.dgDifL hb0_0, BoxAt.dgTabL hb0_0, BoxAt.dgTabL0 hb0_0, BoxAt.dgTabL1 hb0_0, BoxAt.dgTabL1' hb0_0, BoxAt.dgDifB hb0_0, BoxAt.dgTabB hb0_0, wrap_id, cv_u8, cv_i64, Nat.zero_add, wrap_u8, eq_el, ne_el, build_el, Int.toNat_zero, bF0]
 try simp -implicitDefEqProofs (disch := first | decide | assumption | omega) only [go_sem, BoxAt.cell hb0_1, wrap_id, cv_u8, cv_i64, Nat.zero_add, wrap_u8, eq_el, ne_el, build_el, Int.toNat_zero, bF0]
 refine CallA.mono (iDg_ok  X _  hB) ?_
 intro v_ h1_1
 rintro ⟨rfl, e1_1⟩
 replace hb0_0 := BoxAt.ext hb0_0 e1_1
 replace hb0_1 := BoxAt.ext hb0_1 e1_1
 have := Ext.size e1_1
 replace eB := Ext.trans eB e1_1
 try simp -implicitDefEqProofs (disch := first | decide | assumption | omega) only [go_sem, wrap_id, cv_u8, cv_i64, Nat.zero_add, wrap_u8, eq_el, ne_el, build_el, Int.toNat_zero, bF0]
 refine hK _ _ ?_
 clear hK K
 refine den_cond rfl (fun c0 => ?_) (fun c0 => ?_)
 ·try simp only [decide_eq_true_eq, decide_eq_false_iff_not, beq_iff_eq, beq_eq_false_iff_ne, bne_iff_ne, ne_eq, Bool.not_eq_true', Bool.not_eq_false', Bool.and_eq_true, Bool.or_eq_true, bne_eq_false_iff_eq, Bool.not_eq_true, Bool.not_eq_false] at c0
  refine den_seq ?_
  refine den_region TTok ?_
  intro K hK
  simp -implicitDefEqProofs (disch := first | decide | assumption | omega) only [go_sem, wrap_id, cv_u8, cv_i64, Nat.zero_add, wrap_u8, eq_el, ne_el, build_el, Int.toNat_zero, bF0]
  refine op_storeB (cs' := #[.int .i64 ((0 : Int)), .slice none 0 0, .slice none 0 0, .slice none 0 0]) st61 hb0_1 rfl rfl rfl (by simp) (allOne_mem (l := [.int .i64 ((0 : Int)), .slice none 0 0, .slice none 0 0, .slice none 0 0]) ⟨rfl, rfl, rfl, rfl, trivial⟩) rfl ?_
  intro h2_1 hb0_1 c2_1
  have := c2_1.size
  replace eB := Ext.then eB c2_1 (ge_of hfhb0_1 (by omega))
  try simp -implicitDefEqProofs (disch := first | decide | assumption | omega) only [go_sem, wrap_id, cv_u8, cv_i64, Nat.zero_add, wrap_u8, eq_el, ne_el, build_el, Int.toNat_zero, bF0]
  refine hK _ _ ?_
  clear hK K
  refine den_ret ?_
  simp -implicitDefEqProofs (disch := first | decide | assumption | omega) only [go_sem, BoxAt.cell hb0_1, wrap_id, cv_u8, cv_i64, Nat.zero_add, wrap_u8, eq_el, ne_el, build_el, Int.toNat_zero, bF0, resP_ct, ld61]
  have hz := foR_n (X := X) (by rw [c0]; decide)
  rw [hz]
  exact ⟨.slice none 0 0, .slice none 0 0, .slice none 0 0, [], [], [], rfl, OS.nil, OS.nil, OS.nil, Fresh.nil _, eB⟩
 ·try simp only [decide_eq_true_eq, decide_eq_false_iff_not, beq_iff_eq, beq_eq_false_iff_ne, bne_iff_ne, ne_eq, Bool.not_eq_true', Bool.not_eq_false', Bool.and_eq_true, Bool.or_eq_true, bne_eq_false_iff_eq, Bool.not_eq_true, Bool.not_eq_false] at c0
  have hfm := (dgB_t.1 c0).fm
  refine den_skip ?_
  refine den_seq ?_
  refine den_region TTok ?_
  intro K hK
  simp -implicitDefEqProofs (disch := first | decide | assumption | omega) only [go_sem, BoxAt.dgL hb0_0, BoxAt.dgP hb0_0, BoxAt.dgS hb0_0, BoxAt.dgDeg hb0_0, BoxAt.dgLev hb0_0, BoxAt.dgDeg0 hb0_0, BoxAt.dgLev0 hb0_0, BoxAt.dgDifL hb0_0, BoxAt.dgTabL hb0_0, BoxAt.dgTabL0 hb0_0, BoxAt.dgTabL1 hb0_0, BoxAt.dgTabL1' hb0_0, BoxAt.dgDifB hb0_0, BoxAt.dgTabB hb0_0, wrap_id, cv_u8, cv_i64, Nat.zero_add, wrap_u8, eq_el, ne_el, build_el, Int.toNat_zero, bF0]
  try simp -implicitDefEqProofs (disch := first | decide | assumption | omega) only [go_sem, BoxAt.cell hb0_1, wrap_id, cv_u8, cv_i64, Nat.zero_add, wrap_u8, eq_el, ne_el, build_el, Int.toNat_zero, bF0]
  refine CallA.mono (iFc_ok  X _  hB hfm) ?_
  intro v_ h3_1
  rintro ⟨vd3_1_0, vm3_1_0, vv3_1_0, fd3_1_0, fm3_1_0, fv3_1_0, rfl, hod3_1_0, hom3_1_0, hov3_1_0, hf3_1_0, e3_1⟩
  replace hb0_0 := BoxAt.ext hb0_0 e3_1
  replace hb0_1 := BoxAt.ext hb0_1 e3_1
  have := Ext.size e3_1
  replace eB := Ext.trans eB e3_1
  have hfd3_1_0 := hf3_1_0.left
  have hf3_1_0r0 := hf3_1_0.right
  have hfm3_1_0 := hf3_1_0r0.left
  have hfv3_1_0 := hf3_1_0r0.right
  have hlhod3_1_0 := OS.lt hod3_1_0
  have hlhom3_1_0 := OS.lt hom3_1_0
  have hlhov3_1_0 := OS.lt hov3_1_0
  have ap1 : Apart fd3_1_0 fm3_1_0 := Apart.lft (apart_nodup hf3_1_0)
  have ap2 : Apart fd3_1_0 fv3_1_0 := Apart.rgt (apart_nodup hf3_1_0)
  have ap3 : Apart fm3_1_0 fv3_1_0 := apart_nodup hf3_1_0r0
  try simp -implicitDefEqProofs (disch := first | decide | assumption | omega) only [go_sem, BoxAt.cell hb0_1, wrap_id, cv_u8, cv_i64, Nat.zero_add, wrap_u8, eq_el, ne_el, build_el, Int.toNat_zero, bF0]
  refine op_storeB (cs' := #[.int .i64 (((fcP X).c.p)), vd3_1_0, vm3_1_0, vv3_1_0]) st61 hb0_1 rfl rfl rfl (by simp) (allOne_mem (l := [.int .i64 (((fcP X).c.p)), vd3_1_0, vm3_1_0, vv3_1_0]) ⟨rfl, (OS.one hod3_1_0).1, (OS.one hom3_1_0).1, (OS.one hov3_1_0).1, trivial⟩) rfl ?_
  intro h3_2 hb0_1 c3_2
  replace hod3_1_0 := OS.chg hod3_1_0 c3_2 (apart_gt hfd3_1_0 hlhb0_1 (by omega))
  replace hom3_1_0 := OS.chg hom3_1_0 c3_2 (apart_gt hfm3_1_0 hlhb0_1 (by omega))
  replace hov3_1_0 := OS.chg hov3_1_0 c3_2 (apart_gt hfv3_1_0 hlhb0_1 (by omega))
  replace hb0_0 := BoxAt.chgA hb0_0 c3_2 (apart_lt hlhb0_0 hfhb0_1 (by omega))
  have := c3_2.size
  replace eB := Ext.then eB c3_2 (ge_of hfhb0_1 (by omega))
  try simp -implicitDefEqProofs (disch := first | decide | assumption | omega) only [go_sem, wrap_id, cv_u8, cv_i64, Nat.zero_add, wrap_u8, eq_el, ne_el, build_el, Int.toNat_zero, bF0]
  refine hK _ _ ?_
  clear hK K
  refine den_ret ?_
  simp -implicitDefEqProofs (disch := first | decide | assumption | omega) only [go_sem, RdS.len (OS.rd hod3_1_0) sl55, RdS.idx (OS.rd hod3_1_0) sl55, R1.intN (OS.rd hod3_1_0), RdS.cells (OS.rd hod3_1_0), RdS.len (OS.rd hom3_1_0) sl56, RdS.idx (OS.rd hom3_1_0) sl56, RdS.cellN (OS.rd hom3_1_0), RdS.cells (OS.rd hom3_1_0), RdS.len (OS.rd hov3_1_0) sl59, RdS.idx (OS.rd hov3_1_0) sl59, RdS.cellN (OS.rd hov3_1_0), RdS.cells (OS.rd hov3_1_0), BoxAt.cell hb0_1, wrap_id, cv_u8, cv_i64, Nat.zero_add, wrap_u8, eq_el, ne_el, build_el, Int.toNat_zero, bF0, resP_ct, ld61]
  rw [foR_y c0]
  have hD := hod3_1_0
  have hM := hom3_1_0
  have hV := hov3_1_0
  exact ⟨_, _, _, _, _, _, rfl, hD, hM, hV, Fresh.two (lo := h.size) hfd3_1_0 (Fresh.two (lo := h.size) hfm3_1_0 hfv3_1_0 ap3 (by omega) (by omega)) (Apart.app ap1 ap2) (by omega) (by omega), eB⟩

set_option maxRecDepth 100000 in
set_option maxHeartbeats 4000000 in
theorem sFO_ok (X : Dg) (h : Heap)  (hB : DgB X) : CallA Try.prog 27 #[.agg (dgA X)] h fun v' h' => ∃ wd0 wm0 wv0 fd0 fm0 fv0, v' = .tuple #[.agg #[.int .i64 ((foR X).1).c.p, wd0, wm0, wv0], .int .i64 ((foR X).2)] ∧ O1 h' wd0 ((foR X).1).c.dims fd0 ∧ O3 h' wm0 ((foR X).1).c.maps fm0 ∧ O2 h' wv0 ((foR X).1).lv fv0 ∧ Fresh h.size (fd0 ++ (fm0 ++ fv0)) ∧ Ext h h' := by
 refine callA_intro TTok (args := [_]) Try.func27 (by kernel_rfl) rfl 13 rfl (by simp) [.cell 2 61, .tmp 3] rfl ?_
 simp only [idxs, Nat.reduceAdd]
 refine den_seq ?_
 refine den_region TTok ?_
 intro K hK
 simp -implicitDefEqProofs (disch := first | decide | assumption | omega) only [go_sem, wrap_id, cv_u8, cv_i64, Nat.zero_add, wrap_u8, eq_el, ne_el, build_el, Int.toNat_zero, bF0]
 refine op_box (cs := dgA X) rfl ?_
 intro h0_0 e0_0 hb0_0 z0_0
 have := Ext.size e0_0
 have eB := e0_0
 have hfhb0_0 : Fresh h.size [h.size] := Fresh.one _
 have hlhb0_0 := one_lt (show h.size < h0_0.size by omega)
 try simp -implicitDefEqProofs (disch := first | decide | assumption | omega) only [go_sem, wrap_id, cv_u8, cv_i64, Nat.zero_add, wrap_u8, eq_el, ne_el, build_el, Int.toNat_zero, bF0]
 refine op_alloc (cs := #[.int .i64 0, .slice none 0 0, .slice none 0 0, .slice none 0 0]) (by kernel_rfl) ?_
 intro h0_1 e0_1 hb0_1 z0_1
 replace hb0_0 := BoxAt.ext hb0_0 e0_1
 have := Ext.size e0_1
 replace eB := Ext.trans eB e0_1
 have hfhb0_1 : Fresh h0_0.size [h0_0.size] := Fresh.one _
 have hlhb0_1 := one_lt (show h0_0.size < h0_1.size by omega)
 try simp -implicitDefEqProofs (disch := first | decide | assumption | omega) only [go_sem, wrap_id, cv_u8, cv_i64, Nat.zero_add, wrap_u8, eq_el, ne_el, build_el, Int.toNat_zero, bF0]
 refine hK _ _ ?_
 clear hK K
 refine den_seq ?_
 refine den_seq ?_
 refine den_region TTok ?_
 intro K hK
 simp -implicitDefEqProofs (disch := first | decide | assumption | omega) only [go_sem, BoxAt.dgL hb0_0, BoxAt.dgP hb0_0, BoxAt.dgS hb0_0, BoxAt.dgDeg hb0_0, BoxAt.dgLev hb0_0, BoxAt.dgDeg0 hb0_0, BoxAt.dgLev0 hb0_0, BoxAt.dgDifL hb0_0, BoxAt.dgTabL hb0_0, BoxAt.dgTabL0 hb0_0, BoxAt.dgTabL1 hb0_0, BoxAt.dgTabL1' hb0_0, BoxAt.dgDifB hb0_0, BoxAt.dgTabB hb0_0, wrap_id, cv_u8, cv_i64, Nat.zero_add, wrap_u8, eq_el, ne_el, build_el, Int.toNat_zero, bF0]
 try simp -implicitDefEqProofs (disch := first | decide | assumption | omega) only [go_sem, BoxAt.cell hb0_1, wrap_id, cv_u8, cv_i64, Nat.zero_add, wrap_u8, eq_el, ne_el, build_el, Int.toNat_zero, bF0]
 refine CallA.mono (sCd_ok X _ hB) ?_
 intro v_ h1_1
 rintro ⟨rfl, e1_1⟩
 replace hb0_0 := BoxAt.ext hb0_0 e1_1
 replace hb0_1 := BoxAt.ext hb0_1 e1_1
 have := Ext.size e1_1
 replace eB := Ext.trans eB e1_1
 try simp -implicitDefEqProofs (disch := first | decide | assumption | omega) only [go_sem, wrap_id, cv_u8, cv_i64, Nat.zero_add, wrap_u8, eq_el, ne_el, build_el, Int.toNat_zero, bF0]
 refine hK _ _ ?_
 clear hK K
 refine den_seq ?_
 refine den_region TTok ?_
 intro K hK
 simp -implicitDefEqProofs (disch := first | decide | assumption | omega) only [go_sem, wrap_id, cv_u8, cv_i64, Nat.zero_add, wrap_u8, eq_el, ne_el, build_el, Int.toNat_zero, bF0]
 refine hK _ _ ?_
 clear hK K
 refine den_cond rfl (fun c0 => ?_) (fun c0 => ?_)
 ·try simp only [decide_eq_true_eq, decide_eq_false_iff_not, beq_iff_eq, beq_eq_false_iff_ne, bne_iff_ne, ne_eq, Bool.not_eq_true', Bool.not_eq_false', Bool.and_eq_true, Bool.or_eq_true, bne_eq_false_iff_eq, Bool.not_eq_true, Bool.not_eq_false] at c0
  refine den_seq ?_
  refine den_region TTok ?_
  intro K hK
  simp -implicitDefEqProofs (disch := first | decide | assumption | omega) only [go_sem, wrap_id, cv_u8, cv_i64, Nat.zero_add, wrap_u8, eq_el, ne_el, build_el, Int.toNat_zero, bF0]
  refine op_storeB (cs' := #[.int .i64 ((0 : Int)), .slice none 0 0, .slice none 0 0, .slice none 0 0]) st61 hb0_1 rfl rfl rfl (by simp) (allOne_mem (l := [.int .i64 ((0 : Int)), .slice none 0 0, .slice none 0 0, .slice none 0 0]) ⟨rfl, rfl, rfl, rfl, trivial⟩) rfl ?_
  intro h3_2 hb0_1 c3_2
  have := c3_2.size
  replace eB := Ext.then eB c3_2 (ge_of hfhb0_1 (by omega))
  try simp -implicitDefEqProofs (disch := first | decide | assumption | omega) only [go_sem, wrap_id, cv_u8, cv_i64, Nat.zero_add, wrap_u8, eq_el, ne_el, build_el, Int.toNat_zero, bF0]
  refine hK _ _ ?_
  clear hK K
  refine den_ret ?_
  simp -implicitDefEqProofs (disch := first | decide | assumption | omega) only [go_sem, BoxAt.cell hb0_1, wrap_id, cv_u8, cv_i64, Nat.zero_add, wrap_u8, eq_el, ne_el, build_el, Int.toNat_zero, bF0, resP_ct, ld61]
  have hq : ¬ dgB X = true := fun hq => by rw [if_pos hq] at c0; exact c0 rfl
  have hz := foR_n hq
  rw [if_neg hq]
  rw [hz]
  exact ⟨.slice none 0 0, .slice none 0 0, .slice none 0 0, [], [], [], rfl, OS.nil, OS.nil, OS.nil, Fresh.nil _, eB⟩
 ·try simp only [decide_eq_true_eq, decide_eq_false_iff_not, beq_iff_eq, beq_eq_false_iff_ne, bne_iff_ne, ne_eq, Bool.not_eq_true', Bool.not_eq_false', Bool.and_eq_true, Bool.or_eq_true, bne_eq_false_iff_eq, Bool.not_eq_true, Bool.not_eq_false] at c0
  have hdb : dgB X = true := by
   by_cases hq : dgB X = true
   ·exact hq
   ·rw [if_neg hq] at c0; exact absurd c0 (by decide)
  have hfm := (dgB_t.1 hdb).fm
  refine den_skip ?_
  refine den_seq ?_
  refine den_region TTok ?_
  intro K hK
  simp -implicitDefEqProofs (disch := first | decide | assumption | omega) only [go_sem, BoxAt.dgL hb0_0, BoxAt.dgP hb0_0, BoxAt.dgS hb0_0, BoxAt.dgDeg hb0_0, BoxAt.dgLev hb0_0, BoxAt.dgDeg0 hb0_0, BoxAt.dgLev0 hb0_0, BoxAt.dgDifL hb0_0, BoxAt.dgTabL hb0_0, BoxAt.dgTabL0 hb0_0, BoxAt.dgTabL1 hb0_0, BoxAt.dgTabL1' hb0_0, BoxAt.dgDifB hb0_0, BoxAt.dgTabB hb0_0, wrap_id, cv_u8, cv_i64, Nat.zero_add, wrap_u8, eq_el, ne_el, build_el, Int.toNat_zero, bF0]
  try simp -implicitDefEqProofs (disch := first | decide | assumption | omega) only [go_sem, BoxAt.cell hb0_1, wrap_id, cv_u8, cv_i64, Nat.zero_add, wrap_u8, eq_el, ne_el, build_el, Int.toNat_zero, bF0]
  refine CallA.mono (sFc_ok  X _  hB hfm) ?_
  intro v_ h4_1
  rintro ⟨vd4_1_0, vm4_1_0, vv4_1_0, fd4_1_0, fm4_1_0, fv4_1_0, rfl, hod4_1_0, hom4_1_0, hov4_1_0, hf4_1_0, e4_1⟩
  replace hb0_0 := BoxAt.ext hb0_0 e4_1
  replace hb0_1 := BoxAt.ext hb0_1 e4_1
  have := Ext.size e4_1
  replace eB := Ext.trans eB e4_1
  have hfd4_1_0 := hf4_1_0.left
  have hf4_1_0r0 := hf4_1_0.right
  have hfm4_1_0 := hf4_1_0r0.left
  have hfv4_1_0 := hf4_1_0r0.right
  have hlhod4_1_0 := OS.lt hod4_1_0
  have hlhom4_1_0 := OS.lt hom4_1_0
  have hlhov4_1_0 := OS.lt hov4_1_0
  have ap1 : Apart fd4_1_0 fm4_1_0 := Apart.lft (apart_nodup hf4_1_0)
  have ap2 : Apart fd4_1_0 fv4_1_0 := Apart.rgt (apart_nodup hf4_1_0)
  have ap3 : Apart fm4_1_0 fv4_1_0 := apart_nodup hf4_1_0r0
  try simp -implicitDefEqProofs (disch := first | decide | assumption | omega) only [go_sem, BoxAt.cell hb0_1, wrap_id, cv_u8, cv_i64, Nat.zero_add, wrap_u8, eq_el, ne_el, build_el, Int.toNat_zero, bF0]
  refine op_storeB (cs' := #[.int .i64 (((fcP X).c.p)), vd4_1_0, vm4_1_0, vv4_1_0]) st61 hb0_1 rfl rfl rfl (by simp) (allOne_mem (l := [.int .i64 (((fcP X).c.p)), vd4_1_0, vm4_1_0, vv4_1_0]) ⟨rfl, (OS.one hod4_1_0).1, (OS.one hom4_1_0).1, (OS.one hov4_1_0).1, trivial⟩) rfl ?_
  intro h4_2 hb0_1 c4_2
  replace hod4_1_0 := OS.chg hod4_1_0 c4_2 (apart_gt hfd4_1_0 hlhb0_1 (by omega))
  replace hom4_1_0 := OS.chg hom4_1_0 c4_2 (apart_gt hfm4_1_0 hlhb0_1 (by omega))
  replace hov4_1_0 := OS.chg hov4_1_0 c4_2 (apart_gt hfv4_1_0 hlhb0_1 (by omega))
  replace hb0_0 := BoxAt.chgA hb0_0 c4_2 (apart_lt hlhb0_0 hfhb0_1 (by omega))
  have := c4_2.size
  replace eB := Ext.then eB c4_2 (ge_of hfhb0_1 (by omega))
  try simp -implicitDefEqProofs (disch := first | decide | assumption | omega) only [go_sem, wrap_id, cv_u8, cv_i64, Nat.zero_add, wrap_u8, eq_el, ne_el, build_el, Int.toNat_zero, bF0]
  refine hK _ _ ?_
  clear hK K
  refine den_ret ?_
  simp -implicitDefEqProofs (disch := first | decide | assumption | omega) only [go_sem, RdS.len (OS.rd hod4_1_0) sl55, RdS.idx (OS.rd hod4_1_0) sl55, R1.intN (OS.rd hod4_1_0), RdS.cells (OS.rd hod4_1_0), RdS.len (OS.rd hom4_1_0) sl56, RdS.idx (OS.rd hom4_1_0) sl56, RdS.cellN (OS.rd hom4_1_0), RdS.cells (OS.rd hom4_1_0), RdS.len (OS.rd hov4_1_0) sl59, RdS.idx (OS.rd hov4_1_0) sl59, RdS.cellN (OS.rd hov4_1_0), RdS.cells (OS.rd hov4_1_0), BoxAt.cell hb0_1, wrap_id, cv_u8, cv_i64, Nat.zero_add, wrap_u8, eq_el, ne_el, build_el, Int.toNat_zero, bF0, resP_ct, ld61]
  rw [foR_y hdb]
  have hD := hod4_1_0
  have hM := hom4_1_0
  have hV := hov4_1_0
  exact ⟨_, _, _, _, _, _, rfl, hD, hM, hV, Fresh.two (lo := h.size) hfd4_1_0 (Fresh.two (lo := h.size) hfm4_1_0 hfv4_1_0 ap3 (by omega) (by omega)) (Apart.app ap1 ap2) (by omega) (by omega), eB⟩
end Go.Proofs.Ytacajcjibhifmaa

namespace Go.Proofs.Ytacajcjibhifmaa
open Go
def in8A (u : Nat → Int) : Array Value := Array.ofFn (n := 8) fun i => .int .i64 (u i)
def el8A (f : Nat → Nat → Int) : Array Value := Array.ofFn (n := 64) fun i => .int .u8 (f (i / 8) (i % 8))
def el88A (f : Nat → Nat → Nat → Int) : Array Value := Array.ofFn (n := 512) fun i => .int .u8 (f (i / 64) (i / 8 % 8) (i % 8))
def z64 : Nat → Nat → Int := fun _ => z8
def z512 : Nat → Nat → Nat → Int := fun _ => z64
def dgZ : Dg := ⟨0, 0, z8, z8, z64, z512⟩
def updF {α : Type} (f : Nat → α) (i : Nat) (x : α) : Nat → α := fun k => if k = i then x else f k
theorem in8_at {u : Nat → Int} {i : Nat} (h : i < 8) : (in8A u)[i]? = some (.int .i64 (u i)) := by rw [in8A, Array.getElem?_ofFn, dif_pos h]
theorem el8_at {f : Nat → Nat → Int} {o : Nat} (h : o < 64) : (el8A f)[o]? = some (.int .u8 (f (o / 8) (o % 8))) := by rw [el8A, Array.getElem?_ofFn, dif_pos h]
theorem el88_at {f : Nat → Nat → Nat → Int} {o : Nat} (h : o < 512) : (el88A f)[o]? = some (.int .u8 (f (o / 64) (o / 8 % 8) (o % 8))) := by rw [el88A, Array.getElem?_ofFn, dif_pos h]
theorem ofFn_one {n : Nat} {f : Fin n → Value} (h : ∀ i, (f i).oneCell' = true) : ∀ v ∈ (Array.ofFn f).toList, v.oneCell' = true := by
 intro v hv
 rw [Array.mem_toList_iff, Array.mem_ofFn] at hv
 obtain ⟨i, rfl⟩ := hv
 exact h i
theorem splice_at {l vs : List Value} {o m : Nat} (hm : vs.length = m) (hl : o + m ≤ l.length) (q : Nat) : (l.take o ++ vs ++ l.drop (o + m))[q]? = if q < o then l[q]? else if q < o + m then vs[q - o]? else l[q]? := by
 have h1 : (l.take o).length = o := by rw [List.length_take]; omega
 by_cases h : q < o
 ·rw [if_pos h, List.append_assoc, List.getElem?_append_left (by omega), List.getElem?_take, if_pos h]
 ·rw [if_neg h]
  by_cases h2 : q < o + m
  ·rw [if_pos h2, List.append_assoc, List.getElem?_append_right (by omega), h1, List.getElem?_append_left (by omega)]
  ·rw [if_neg h2, List.getElem?_append_right (by rw [List.length_append]; omega), List.getElem?_drop, List.length_append, h1, hm]
   congr 1; omega
/-- What a store leaves, cell by cell. -/
theorem splice_eq {cs vs cs' : Array Value} {o m : Nat} (hm : vs.size = m) (hl : o + m ≤ cs.size) (h : ∀ q : Nat, (if q < o then cs[q]? else if q < o + m then vs[q - o]? else cs[q]?) = cs'[q]?) : (cs.toList.take o ++ vs.toList ++ cs.toList.drop (o + m)).toArray = cs' := by
 refine Array.ext_getElem? fun q => ?_
 rw [List.getElem?_toArray, splice_at (by simpa using hm) (by simpa using hl), ← h q]
 simp only [Array.getElem?_toList]
section
variable {h : Heap} {b : Nat} {cs : Array Value} {t tb : TypeId}
theorem ldArr {n : Nat} (hl : ∀ (h : Heap) (a : Addr), loadV TT h t a = (hcells h a 0 n).map fun cs => .agg cs.toArray) (hb : BoxAt h b cs tb) (f : Nat → Value) (o : Nat) (hf : ∀ q, q < n → cs[o + q]? = some (f q)) : loadV TT h t ⟨b, o, none⟩ = some (.agg (Array.ofFn (n := n) fun q => f q)) := by
 rw [hl, hcells_arr hb f o n 0 (fun q _ h2 => hf q (by omega)), Option.map_some]
 refine congrArg (fun z => some (Value.agg z)) (Array.ext_getElem? fun q => ?_)
 rw [Array.getElem?_ofFn, List.getElem?_toArray, List.getElem?_map]
 by_cases hq : q < n
 ·rw [dif_pos hq, List.getElem?_range' hq, Option.map_some]
  simp
 ·rw [dif_neg hq, List.getElem?_eq_none (by rw [List.length_range']; omega)]; rfl
end
/-! An algebra as an argument. -/
theorem get_1 {l : List Value} {i : Nat} {v : Value} (h : (l.drop i).take 1 = [v]) : l[i]? = some v := by
 have : ((l.drop i).take 1)[0]? = some v := by rw [h]; rfl
 rw [List.getElem?_take, if_pos (by omega), List.getElem?_drop] at this
 exact this
theorem get_sub {l : List Value} {a m i : Nat} {v : Value} (h : ((l.drop a).take m)[i]? = some v) : l[a + i]? = some v := by
 rw [List.getElem?_take] at h
 split at h
 ·rwa [List.getElem?_drop] at h
 ·cases h
theorem pick8 {α : Type} (d : α) {Q : Nat → α → Prop} (h : ∀ i, i < 8 → ∃ a, Q i a) : ∃ f : Nat → α, (∀ i, i < 8 → Q i (f i)) ∧ ∀ i, ¬ i < 8 → f i = d :=
 ⟨fun i => if hi : i < 8 then Classical.choose (h i hi) else d, fun i hi => by dsimp only; rw [dif_pos hi]; exact Classical.choose_spec (h i hi), fun i hi => by dsimp only; rw [dif_neg hi]⟩
theorem wf_u8 {n : Int} (h : (Lit.int .u8 n).wf = true) : 0 ≤ n ∧ n ≤ 255 := by
 simp [Lit.wf, IntKind.min, IntKind.max, IntKind.signed, IntKind.bits] at h
 omega
theorem wf_i64 {n : Int} (h : (Lit.int .i64 n).wf = true) : -9223372036854775808 ≤ n ∧ n ≤ 9223372036854775807 := by
 simp [Lit.wf, IntKind.min, IntKind.max, IntKind.signed, IntKind.bits] at h
 omega
section
variable {H : Type} {enc : TypeId × Value → H} {w : World} {base : Nat} {spare : Nat → Bool} {held : Bool} {fuel : Nat} {cs : List Value} {x : DataW H × List MemPlace}
theorem op_in8 (h : DataW.trod enc Try.prog w base spare held fuel 22 cs = some x) : ∃ u : Nat → Int, (∀ i, i < 8 → cs[i]? = some (.int .i64 (u i))) ∧ ∀ i, -9223372036854775808 ≤ u i ∧ u i ≤ 9223372036854775807 := by
 obtain ⟨xs, m, _, _, _, hl, hel⟩ := DataW.trod_array Try.underlying22 h
 have hc : Try.prog.cellsOf 2 = 1 := by kernel_rfl
 obtain ⟨u, hu, hu2⟩ := pick8 (0 : Int) (Q := fun i a => cs[i]? = some (.int .i64 a) ∧ -9223372036854775808 ≤ a ∧ a ≤ 9223372036854775807) (fun i hi => by
  have h1 := hel i hi
  rw [hc, Nat.mul_one, List.getElem?_eq_getElem (by omega)] at h1
  obtain ⟨n, e, _, hw⟩ := DataW.trod_int Try.underlying2 h1
  exact ⟨n, get_1 e, wf_i64 hw⟩)
 refine ⟨u, fun i hi => (hu i hi).1, fun i => ?_⟩
 by_cases hi : i < 8
 ·exact (hu i hi).2
 ·rw [hu2 i hi]; omega
theorem op_el (h : DataW.trod enc Try.prog w base spare held fuel 23 cs = some x) : ∃ u : Nat → Int, (∀ i, i < 8 → cs[i]? = some (.int .u8 (u i))) ∧ By u := by
 obtain ⟨xs, m, _, _, _, hl, hel⟩ := DataW.trod_array Try.underlying23 h
 have hc : Try.prog.cellsOf 5 = 1 := by kernel_rfl
 obtain ⟨u, hu, hu2⟩ := pick8 (0 : Int) (Q := fun i a => cs[i]? = some (.int .u8 a) ∧ 0 ≤ a ∧ a ≤ 255) (fun i hi => by
  have h1 := hel i hi
  rw [hc, Nat.mul_one, List.getElem?_eq_getElem (by omega)] at h1
  obtain ⟨n, e, _, hw⟩ := DataW.trod_int Try.underlying5 h1
  exact ⟨n, get_1 e, wf_u8 hw⟩)
 refine ⟨u, fun i hi => (hu i hi).1, fun i => ?_⟩
 by_cases hi : i < 8
 ·exact (hu i hi).2
 ·rw [hu2 i hi]; omega
theorem op_el8 (h : DataW.trod enc Try.prog w base spare held fuel 24 cs = some x) : ∃ f : Nat → Nat → Int, (∀ i, i < 8 → ∀ k, k < 8 → cs[i * 8 + k]? = some (.int .u8 (f i k))) ∧ ∀ i, By (f i) := by
 obtain ⟨xs, m, _, _, _, hl, hel⟩ := DataW.trod_array Try.underlying24 h
 have hc : Try.prog.cellsOf 23 = 8 := by kernel_rfl
 obtain ⟨f, hu, hu2⟩ := pick8 z8 (Q := fun i a => (∀ k, k < 8 → cs[i * 8 + k]? = some (.int .u8 (a k))) ∧ By a) (fun i hi => by
  have h1 := hel i hi
  rw [hc, List.getElem?_eq_getElem (by omega)] at h1
  obtain ⟨u, e, hb⟩ := op_el h1
  exact ⟨u, fun k hk => get_sub (e k hk), hb⟩)
 refine ⟨f, fun i hi => (hu i hi).1, fun i => ?_⟩
 by_cases hi : i < 8
 ·exact (hu i hi).2
 ·rw [hu2 i hi]; exact By.z8
theorem op_el88 (h : DataW.trod enc Try.prog w base spare held fuel 25 cs = some x) : ∃ f : Nat → Nat → Nat → Int, (∀ i, i < 8 → ∀ j, j < 8 → ∀ k, k < 8 → cs[i * 64 + (j * 8 + k)]? = some (.int .u8 (f i j k))) ∧ ∀ i j, By (f i j) := by
 obtain ⟨xs, m, _, _, _, hl, hel⟩ := DataW.trod_array Try.underlying25 h
 have hc : Try.prog.cellsOf 24 = 64 := by kernel_rfl
 obtain ⟨f, hu, hu2⟩ := pick8 z64 (Q := fun i a => (∀ j, j < 8 → ∀ k, k < 8 → cs[i * 64 + (j * 8 + k)]? = some (.int .u8 (a j k))) ∧ ∀ j, By (a j)) (fun i hi => by
  have h1 := hel i hi
  rw [hc, List.getElem?_eq_getElem (by omega)] at h1
  obtain ⟨u, e, hb⟩ := op_el8 h1
  exact ⟨u, fun j hj k hk => get_sub (e j hj k hk), hb⟩)
 refine ⟨f, fun i hi => (hu i hi).1, fun i => ?_⟩
 by_cases hi : i < 8
 ·exact (hu i hi).2
 ·rw [hu2 i hi]; exact fun _ => By.z8
end
set_option maxRecDepth 100000 in
theorem open_dga {H : Type} {enc : TypeId × Value → H} {w : World} {base : Nat} {spare : Nat → Bool} {held : Bool} {r : Reach} {b0 : Nat} {v : Value} {d : DataW H} {p : List MemPlace}
  (hv : Value.okWide Try.prog w r b0 27 v) (h : DataW.Trod enc Try.prog w base spare held 27 v d p) : ∃ X, v = .agg (dgA X) ∧ DgB X := by
 obtain ⟨cs, rfl, hsz⟩ := Go.WideShapes.okWide_struct Try.underlying27 hv
 have hc : Try.prog.cellsOf 27 = 594 := by kernel_rfl
 rw [hc] at hsz
 obtain ⟨fuel, hf⟩ := h
 obtain ⟨xs, n, _, _, _, hl, hg⟩ := DataW.trod_struct Try.underlying27 hf
 have k1 : Try.prog.cellsOf 2 = 1 := by kernel_rfl
 have k2 : Try.prog.cellsOf 22 = 8 := by kernel_rfl
 have k3 : Try.prog.cellsOf 24 = 64 := by kernel_rfl
 have k4 : Try.prog.cellsOf 25 = 512 := by kernel_rfl
 have hn : ∀ q, q < 6 → ∃ y, xs[q]? = some y := fun q hq => ⟨_, List.getElem?_eq_getElem (by rw [hl]; exact hq)⟩
 obtain ⟨y0, e0⟩ := hn 0 (by decide)
 obtain ⟨y1, e1⟩ := hn 1 (by decide)
 obtain ⟨y2, e2⟩ := hn 2 (by decide)
 obtain ⟨y3, e3⟩ := hn 3 (by decide)
 obtain ⟨y4, e4⟩ := hn 4 (by decide)
 obtain ⟨y5, e5⟩ := hn 5 (by decide)
 have g0 := hg 0 _ rfl
 have g1 := hg 1 _ rfl
 have g2_ := hg 2 _ rfl
 have g3 := hg 3 _ rfl
 have g4 := hg 4 _ rfl
 have g5 := hg 5 _ rfl
 simp only [k1, k2, k3, k4, Value.cells, e0, e1, e2, e3, e4, e5] at g0 g1 g2_ g3 g4 g5
 obtain ⟨a0, q0, _, _⟩ := DataW.trod_int Try.underlying2 g0
 obtain ⟨a1, q1, _, _⟩ := DataW.trod_int Try.underlying2 g1
 obtain ⟨a2, q2, b2⟩ := op_in8 g2_
 obtain ⟨a3, q3, b3⟩ := op_in8 g3
 obtain ⟨a4, q4, b4⟩ := op_el8 g4
 obtain ⟨a5, q5, b5⟩ := op_el88 g5
 refine ⟨⟨a0, a1, a2, a3, a4, a5⟩, congrArg Value.agg (Array.ext_getElem? fun o => ?_), ⟨b4, b5, b2, b3⟩⟩
 by_cases ho : o < 594
 ·rw [dgA_at ho, ← Array.getElem?_toList]
  unfold dgF
  split
  ·rename_i h; subst h; exact get_1 q0
  ·split
   ·rename_i h; subst h; exact get_1 q1
   ·split
    ·have this : cs.toList[2 + (o - 2)]? = some (.int .i64 (a2 (o - 2))) := get_sub (q2 (o - 2) (by omega)); rwa [show 2 + (o - 2) = o by omega] at this
    ·split
     ·have this : cs.toList[10 + (o - 10)]? = some (.int .i64 (a3 (o - 10))) := get_sub (q3 (o - 10) (by omega)); rwa [show 10 + (o - 10) = o by omega] at this
     ·split
      ·have this : cs.toList[18 + ((o - 18) / 8 * 8 + (o - 18) % 8)]? = some (.int .u8 (a4 ((o - 18) / 8) ((o - 18) % 8))) := get_sub (q4 ((o - 18) / 8) (by omega) ((o - 18) % 8) (by omega)); rwa [show 18 + ((o - 18) / 8 * 8 + (o - 18) % 8) = o by omega] at this
      ·have this : cs.toList[82 + ((o - 82) / 64 * 64 + ((o - 82) / 8 % 8 * 8 + (o - 82) % 8))]? = some (.int .u8 (a5 ((o - 82) / 64) ((o - 82) / 8 % 8) ((o - 82) % 8))) := get_sub (q5 ((o - 82) / 64) (by omega) ((o - 82) / 8 % 8) (by omega) ((o - 82) % 8) (by omega)); rwa [show 82 + ((o - 82) / 64 * 64 + ((o - 82) / 8 % 8 * 8 + (o - 82) % 8)) = o by omega] at this
 ·rw [Array.getElem?_eq_none (by omega), Array.getElem?_eq_none (by rw [dgA_size]; omega)]
end Go.Proofs.Ytacajcjibhifmaa

namespace Go.Proofs.Ytacajcjibhifmaa
open Go
theorem in8A_sz (u : Nat → Int) : (in8A u).size = 8 := Array.size_ofFn
theorem el8A_sz (f : Nat → Nat → Int) : (el8A f).size = 64 := Array.size_ofFn
theorem el88A_sz (f : Nat → Nat → Nat → Int) : (el88A f).size = 512 := Array.size_ofFn
theorem dgA_sz (X : Dg) : (dgA X).size = 594 := Array.size_ofFn
theorem in8A_one {u : Nat → Int} : ∀ v ∈ (in8A u).toList, v.oneCell' = true := ofFn_one fun _ => rfl
theorem el8A_one {f : Nat → Nat → Int} : ∀ v ∈ (el8A f).toList, v.oneCell' = true := ofFn_one fun _ => rfl
theorem el88A_one {f : Nat → Nat → Nat → Int} : ∀ v ∈ (el88A f).toList, v.oneCell' = true := ofFn_one fun _ => rfl
theorem dgF_one (X : Dg) (o : Nat) : (dgF X o).oneCell' = true := by
 unfold dgF
 split
 ·rfl
 ·split
  ·rfl
  ·split
   ·rfl
   ·split
    ·rfl
    ·split <;> rfl
theorem dgA_one {X : Dg} : ∀ v ∈ (dgA X).toList, v.oneCell' = true := ofFn_one fun i => dgF_one X i
theorem i64_one {x : Int} : ∀ v ∈ (#[Value.int .i64 x] : Array Value).toList, v.oneCell' = true := by
 intro v hv
 simp only [List.mem_cons, List.not_mem_nil, or_false] at hv
 subst hv; rfl
theorem all_eq {cs vs : Array Value} {n : Nat} (h1 : cs.size = n) (h2 : vs.size = n) : (cs.toList.take 0 ++ vs.toList ++ cs.toList.drop (0 + n)).toArray = vs := by
 rw [List.take_zero, List.nil_append, List.drop_of_length_le (by rw [Array.length_toList]; omega), List.append_nil]
theorem in8A_all {u v : Nat → Int} : ((in8A u).toList.take 0 ++ (in8A v).toList ++ (in8A u).toList.drop (0 + 8)).toArray = in8A v := all_eq (in8A_sz u) (in8A_sz v)
theorem el8A_all {u v : Nat → Nat → Int} : ((el8A u).toList.take 0 ++ (el8A v).toList ++ (el8A u).toList.drop (0 + 64)).toArray = el8A v := all_eq (el8A_sz u) (el8A_sz v)
theorem el88A_all {u v : Nat → Nat → Nat → Int} : ((el88A u).toList.take 0 ++ (el88A v).toList ++ (el88A u).toList.drop (0 + 512)).toArray = el88A v := all_eq (el88A_sz u) (el88A_sz v)
theorem dgA_all {X Y : Dg} : ((dgA X).toList.take 0 ++ (dgA Y).toList ++ (dgA X).toList.drop (0 + 594)).toArray = dgA Y := all_eq (dgA_sz X) (dgA_sz Y)
theorem none_of {cs : Array Value} {n q : Nat} (h : cs.size = n) (hq : ¬ q < n) : cs[q]? = none := Array.getElem?_eq_none (by omega)
/-- Stores by cells: F before, G after. -/
theorem store_eq {cs vs cs' : Array Value} {o m n : Nat} {F G W : Nat → Value} (h1 : cs.size = n) (h2 : cs'.size = n) (hm : vs.size = m) (hl : o + m ≤ n) (f : ∀ q, q < n → cs[q]? = some (F q)) (g : ∀ q, q < n → cs'[q]? = some (G q)) (w : ∀ q, q < m → vs[q]? = some (W q)) (ha : ∀ q, q < n → (q < o ∨ o + m ≤ q) → G q = F q) (hb : ∀ q, q < m → G (o + q) = W q) : (cs.toList.take o ++ vs.toList ++ cs.toList.drop (o + m)).toArray = cs' := by
 refine splice_eq hm (by omega) fun q => ?_
 by_cases hq : q < n
 ·rw [g q hq]
  by_cases c1 : q < o
  ·rw [if_pos c1, f q hq, ha q hq (.inl c1)]
  ·rw [if_neg c1]
   by_cases c2 : q < o + m
   ·rw [if_pos c2, w (q - o) (by omega), ← hb (q - o) (by omega), show o + (q - o) = q by omega]
   ·rw [if_neg c2, f q hq, ha q hq (.inr (by omega))]
 ·rw [if_neg (by omega), if_neg (by omega), none_of h1 hq, none_of h2 hq]
theorem one_at {x : Value} : ∀ q, q < 1 → (#[x] : Array Value)[q]? = some ((fun _ => x) q) := fun q hq => by
 obtain rfl : q = 0 := by omega
 rfl
theorem in8_upd {u : Nat → Int} {i : Nat} {x : Int} (h : i < 8) : ((in8A u).toList.take i ++ (#[Value.int .i64 x] : Array Value).toList ++ (in8A u).toList.drop (i + 1)).toArray = in8A (upd u i x) :=
 store_eq (in8A_sz _) (in8A_sz _) rfl (by omega) (fun q hq => in8_at hq) (fun q hq => in8_at hq) one_at (fun q hq hc => by show Value.int .i64 (upd u i x q) = _; rw [upd, if_neg (by omega)]) (fun q hq => by
  obtain rfl : q = 0 := by omega
  show Value.int .i64 (upd u i x (i + 0)) = _; rw [upd, if_pos (by omega)])
theorem el8_upd {f : Nat → Nat → Int} {i : Nat} {v : Nat → Int} (h : i < 8) : ((el8A f).toList.take (i * 8) ++ (elA v).toList ++ (el8A f).toList.drop (i * 8 + 8)).toArray = el8A (updF f i v) :=
 store_eq (el8A_sz _) (el8A_sz _) (elA_sz v) (by omega) (fun q hq => el8_at hq) (fun q hq => el8_at hq) (fun q hq => elA_at hq) (fun q hq hc => by show Value.int .u8 (updF f i v (q / 8) (q % 8)) = _; rw [updF, if_neg (by omega)]) (fun q hq => by
  show Value.int .u8 (updF f i v ((i * 8 + q) / 8) ((i * 8 + q) % 8)) = _; rw [updF, if_pos (by omega), show (i * 8 + q) % 8 = q by omega])
theorem el88_upd {f : Nat → Nat → Nat → Int} {i : Nat} {v : Nat → Nat → Int} (h : i < 8) : ((el88A f).toList.take (i * 64) ++ (el8A v).toList ++ (el88A f).toList.drop (i * 64 + 64)).toArray = el88A (updF f i v) :=
 store_eq (el88A_sz _) (el88A_sz _) (el8A_sz v) (by omega) (fun q hq => el88_at hq) (fun q hq => el88_at hq) (fun q hq => el8_at hq) (fun q hq hc => by show Value.int .u8 (updF f i v (q / 64) (q / 8 % 8) (q % 8)) = _; rw [updF, if_neg (by omega)]) (fun q hq => by
  show Value.int .u8 (updF f i v ((i * 64 + q) / 64) ((i * 64 + q) / 8 % 8) ((i * 64 + q) % 8)) = _; rw [updF, if_pos (by omega), show (i * 64 + q) % 8 = q % 8 by omega, show (i * 64 + q) / 8 % 8 = q / 8 by omega])
section
variable {X : Dg}
theorem dg_p {x : Int} : ((dgA X).toList.take 0 ++ (#[Value.int .i64 x] : Array Value).toList ++ (dgA X).toList.drop (0 + 1)).toArray = dgA { X with p := x } :=
 store_eq (dgA_sz _) (dgA_sz _) rfl (by omega) (fun q hq => dgA_at hq) (fun q hq => dgA_at hq) one_at (fun q hq hc => by
  unfold dgF
  by_cases h0 : q = 0 <;> by_cases h1 : q = 1 <;> by_cases h2 : q < 10 <;> by_cases h3 : q < 18 <;> first | (exfalso; omega) | simp [h0, h1, h2, h3]) (fun q hq => by
  obtain rfl : q = 0 := by omega
  rfl)
theorem dg_s {x : Int} : ((dgA X).toList.take 1 ++ (#[Value.int .i64 x] : Array Value).toList ++ (dgA X).toList.drop (1 + 1)).toArray = dgA { X with s := x } :=
 store_eq (dgA_sz _) (dgA_sz _) rfl (by omega) (fun q hq => dgA_at hq) (fun q hq => dgA_at hq) one_at (fun q hq hc => by
  unfold dgF
  by_cases h0 : q = 0 <;> by_cases h1 : q = 1 <;> by_cases h2 : q < 10 <;> by_cases h3 : q < 18 <;> first | (exfalso; omega) | simp [h0, h1, h2, h3]) (fun q hq => by
  obtain rfl : q = 0 := by omega
  rfl)
theorem dg_deg {u : Nat → Int} : ((dgA X).toList.take 2 ++ (in8A u).toList ++ (dgA X).toList.drop (2 + 8)).toArray = dgA { X with deg := u } :=
 store_eq (dgA_sz _) (dgA_sz _) (in8A_sz u) (by omega) (fun q hq => dgA_at hq) (fun q hq => dgA_at hq) (fun q hq => in8_at hq) (fun q hq hc => by
  unfold dgF
  by_cases h0 : q = 0 <;> by_cases h1 : q = 1 <;> by_cases h2 : q < 10 <;> by_cases h3 : q < 18 <;> first | (exfalso; omega) | simp [h0, h1, h2, h3]) (fun q hq => dgF_deg (X := { X with deg := u }) hq)
theorem dg_lev {u : Nat → Int} : ((dgA X).toList.take 10 ++ (in8A u).toList ++ (dgA X).toList.drop (10 + 8)).toArray = dgA { X with lev := u } :=
 store_eq (dgA_sz _) (dgA_sz _) (in8A_sz u) (by omega) (fun q hq => dgA_at hq) (fun q hq => dgA_at hq) (fun q hq => in8_at hq) (fun q hq hc => by
  unfold dgF
  by_cases h0 : q = 0 <;> by_cases h1 : q = 1 <;> by_cases h2 : q < 10 <;> by_cases h3 : q < 18 <;> first | (exfalso; omega) | simp [h0, h1, h2, h3]) (fun q hq => dgF_lev (X := { X with lev := u }) hq)
theorem dgF_diff {o : Nat} (h : 18 ≤ o ∧ o < 82) : dgF X o = .int .u8 (X.dif ((o - 18) / 8) ((o - 18) % 8)) := by
 unfold dgF
 rw [if_neg (by omega), if_neg (by omega), if_neg (by omega), if_neg (by omega), if_pos (by omega)]
theorem dgF_table {o : Nat} (h : 82 ≤ o) : dgF X o = .int .u8 (X.tab ((o - 82) / 64) ((o - 82) / 8 % 8) ((o - 82) % 8)) := by
 unfold dgF
 rw [if_neg (by omega), if_neg (by omega), if_neg (by omega), if_neg (by omega), if_neg (by omega)]
theorem dgF_low {Y : Dg} (hp : Y.p = X.p) (hs : Y.s = X.s) (hd : Y.deg = X.deg) (hl : Y.lev = X.lev) {o : Nat} (h : o < 18) : dgF Y o = dgF X o := by
 unfold dgF
 rw [hp, hs, hd, hl]
 by_cases h0 : o = 0 <;> by_cases h1 : o = 1 <;> by_cases h2 : o < 10 <;> simp [h0, h1, h2, h]
theorem dg_dif {f : Nat → Nat → Int} : ((dgA X).toList.take 18 ++ (el8A f).toList ++ (dgA X).toList.drop (18 + 64)).toArray = dgA { X with dif := f } :=
 store_eq (dgA_sz _) (dgA_sz _) (el8A_sz f) (by omega) (fun q hq => dgA_at hq) (fun q hq => dgA_at hq) (fun q hq => el8_at hq) (fun q hq hc => by
  by_cases h2 : q < 18
  ·exact dgF_low (X := X) (Y := { X with dif := f }) rfl rfl rfl rfl h2
  ·rw [dgF_table (by omega), dgF_table (by omega)]) (fun q hq => by
  rw [dgF_diff (by omega), show 18 + q - 18 = q by omega])
theorem dg_tab {f : Nat → Nat → Nat → Int} : ((dgA X).toList.take 82 ++ (el88A f).toList ++ (dgA X).toList.drop (82 + 512)).toArray = dgA { X with tab := f } :=
 store_eq (dgA_sz _) (dgA_sz _) (el88A_sz f) (by omega) (fun q hq => dgA_at hq) (fun q hq => dgA_at hq) (fun q hq => el88_at hq) (fun q hq hc => by
  by_cases h2 : q < 18
  ·exact dgF_low (X := X) (Y := { X with tab := f }) rfl rfl rfl rfl h2
  ·rw [dgF_diff (by omega), dgF_diff (by omega)]) (fun q hq => by
  rw [dgF_table (by omega), show 82 + q - 82 = q by omega])
variable {h : Heap} {b : Nat} {t : TypeId} {u : Nat → Int} {f : Nat → Nat → Int} {g : Nat → Nat → Nat → Int}
theorem BoxAt.in8C (hb : BoxAt h b (in8A u) t) {i : Nat} (hi : i < 8) : hcell h ⟨b, i, none⟩ = some (.int .i64 (u i)) := by rw [hb.cell, in8_at hi]
theorem BoxAt.in8L (hb : BoxAt h b (in8A u) t) : loadV TT h 22 ⟨b, 0, none⟩ = some (.agg (in8A u)) := ldArr ld22 hb (fun q => .int .i64 (u q)) 0 (fun q hq => by rw [Nat.zero_add]; exact in8_at hq)
theorem BoxAt.elL2 (hb : BoxAt h b (elA u) t) : loadV TT h 23 ⟨b, 0, none⟩ = some (.agg (elA u)) := ldArr ld23 hb (fun q => .int .u8 (u q)) 0 (fun q hq => by rw [Nat.zero_add]; exact elA_at hq)
theorem BoxAt.el8E (hb : BoxAt h b (el8A f) t) {i : Nat} (hi : i < 8) : loadV TT h 23 ⟨b, i * 8, none⟩ = some (.agg (elA (f i))) := ldArr ld23 hb (fun q => .int .u8 (f i q)) (i * 8) (fun q hq => by rw [el8_at (by omega), show (i * 8 + q) / 8 = i by omega, show (i * 8 + q) % 8 = q by omega])
theorem BoxAt.el8L (hb : BoxAt h b (el8A f) t) : loadV TT h 24 ⟨b, 0, none⟩ = some (.agg (el8A f)) := ldArr ld24 hb (fun q => .int .u8 (f (q / 8) (q % 8))) 0 (fun q hq => by rw [Nat.zero_add]; exact el8_at hq)
theorem BoxAt.el8L2 (hb : BoxAt h b (el8A f) t) : loadV TT h 31 ⟨b, 0, none⟩ = some (.agg (el8A f)) := ldArr ld31 hb (fun q => .int .u8 (f (q / 8) (q % 8))) 0 (fun q hq => by rw [Nat.zero_add]; exact el8_at hq)
theorem BoxAt.el88R (hb : BoxAt h b (el88A g) t) {i : Nat} (hi : i < 8) : loadV TT h 24 ⟨b, i * 64, none⟩ = some (.agg (el8A (g i))) := ldArr ld24 hb (fun q => .int .u8 (g i (q / 8) (q % 8))) (i * 64) (fun q hq => by rw [el88_at (by omega), show (i * 64 + q) / 64 = i by omega, show (i * 64 + q) / 8 % 8 = q / 8 by omega, show (i * 64 + q) % 8 = q % 8 by omega])
theorem BoxAt.el88L (hb : BoxAt h b (el88A g) t) : loadV TT h 32 ⟨b, 0, none⟩ = some (.agg (el88A g)) := ldArr ld32 hb (fun q => .int .u8 (g (q / 64) (q / 8 % 8) (q % 8))) 0 (fun q hq => by rw [Nat.zero_add]; exact el88_at hq)
theorem BoxAt.dgLL (hb : BoxAt h b (dgA X) t) : loadV TT h 27 ⟨b, 0, none⟩ = some (.agg (dgA X)) := ldArr ld27 hb (fun q => dgF X q) 0 (fun q hq => by rw [Nat.zero_add]; exact dgA_at hq)
theorem BoxAt.dgDegL (hb : BoxAt h b (dgA X) t) : loadV TT h 22 ⟨b, 2, none⟩ = some (.agg (in8A X.deg)) := ldArr ld22 hb (fun q => .int .i64 (X.deg q)) 2 (fun q hq => by rw [dgA_at (by omega), dgF_deg hq])
theorem BoxAt.dgLevL (hb : BoxAt h b (dgA X) t) : loadV TT h 22 ⟨b, 10, none⟩ = some (.agg (in8A X.lev)) := ldArr ld22 hb (fun q => .int .i64 (X.lev q)) 10 (fun q hq => by rw [dgA_at (by omega), dgF_lev hq])
theorem BoxAt.dgDifA (hb : BoxAt h b (dgA X) t) : loadV TT h 24 ⟨b, 18, none⟩ = some (.agg (el8A X.dif)) := ldArr ld24 hb (fun q => .int .u8 (X.dif (q / 8) (q % 8))) 18 (fun q hq => by rw [dgA_at (by omega), dgF_diff (by omega), show 18 + q - 18 = q by omega])
theorem BoxAt.dgTabA (hb : BoxAt h b (dgA X) t) : loadV TT h 25 ⟨b, 82, none⟩ = some (.agg (el88A X.tab)) := ldArr ld25 hb (fun q => .int .u8 (X.tab (q / 64) (q / 8 % 8) (q % 8))) 82 (fun q hq => by rw [dgA_at (by omega), dgF_table (by omega), show 82 + q - 82 = q by omega])
end
end Go.Proofs.Ytacajcjibhifmaa

namespace Go.Proofs.Ytacajcjibhifmaa
open Go
def cpF {α : Type} (d : α) (u : Nat → α) (n : Nat) : Nat → α := fun k => if k < n then u k else d
theorem cpF_z8 (u : Nat → Int) : cpF 0 u 0 = z8 := by funext k; simp [cpF, z8]
theorem cpF_z64 (u : Nat → Nat → Int) : cpF z8 u 0 = z64 := by funext k; simp [cpF, z64]
theorem cpF_z512 (u : Nat → Nat → Nat → Int) : cpF z64 u 0 = z512 := by funext k; simp [cpF, z512]
theorem cpF_step {α : Type} (d : α) (u : Nat → α) (n : Nat) : (fun k => if k = n then u n else cpF d u n k) = cpF d u (n + 1) := by
 funext k
 unfold cpF
 by_cases h : k = n
 ·subst h; rw [if_pos rfl, if_pos (by omega)]
 ·rw [if_neg h]
  by_cases h2 : k < n
  ·rw [if_pos h2, if_pos (by omega)]
  ·rw [if_neg h2, if_neg (by omega)]
theorem cp_upd (u : Nat → Int) (n : Nat) : upd (cpF 0 u n) n (u n) = cpF 0 u (n + 1) := cpF_step 0 u n
theorem cp_updF {α : Type} (d : α) (u : Nat → α) (n : Nat) : updF (cpF d u n) n (u n) = cpF d u (n + 1) := cpF_step d u n
theorem el_cp (u : Nat → Int) : elA (cpF 0 u 8) = elA u := rfl
theorem in8_cp (u : Nat → Int) : in8A (cpF 0 u 8) = in8A u := by
 refine Array.ext_getElem? fun q => ?_
 by_cases h : q < 8
 ·rw [in8_at h, in8_at h, cpF, if_pos h]
 ·rw [none_of (in8A_sz _) h, none_of (in8A_sz _) h]
theorem el8_cp (u : Nat → Nat → Int) : el8A (cpF z8 u 8) = el8A u := by
 refine Array.ext_getElem? fun q => ?_
 by_cases h : q < 64
 ·rw [el8_at h, el8_at h, cpF, if_pos (by omega)]
 ·rw [none_of (el8A_sz _) h, none_of (el8A_sz _) h]
theorem el88_cp (u : Nat → Nat → Nat → Int) : el88A (cpF z64 u 8) = el88A u := by
 refine Array.ext_getElem? fun q => ?_
 by_cases h : q < 512
 ·rw [el88_at h, el88_at h, cpF, if_pos (by omega)]
 ·rw [none_of (el88A_sz _) h, none_of (el88A_sz _) h]

attribute [local irreducible] el8A el88A in8A dgA
set_option maxRecDepth 100000 in
set_option maxHeartbeats 4000000 in
theorem toEl_ok (u : Nat → Int) (h : Heap)   : CallA Try.prog 85 #[.agg (elA u)] h fun v' h' => v' = .agg (elA (u)) ∧ Ext h h' := by
 refine callA_intro TTok (args := [_]) Try.func85 (by kernel_rfl) rfl 15 rfl (by simp) [.cell 2 30] rfl ?_
 simp only [idxs, Nat.reduceAdd]
 refine den_seq ?_
 refine den_region TTok ?_
 intro K hK
 simp -implicitDefEqProofs (disch := first | decide | assumption | omega) only [go_sem, wrap_id, cv_u8, cv_i64, Nat.zero_add, wrap_u8, eq_el, ne_el, build_el, Int.toNat_zero]
 refine op_box (cs := elA u) rfl ?_
 intro h0_0 e0_0 hb0_0 z0_0
 have := Ext.size e0_0
 have eB := e0_0
 have hfhb0_0 : Fresh h.size [h.size] := Fresh.one _
 have hlhb0_0 := one_lt (show h.size < h0_0.size by omega)
 try simp -implicitDefEqProofs (disch := first | decide | assumption | omega) only [go_sem, wrap_id, cv_u8, cv_i64, Nat.zero_add, wrap_u8, eq_el, ne_el, build_el, Int.toNat_zero]
 refine op_alloc (cs := elA z8) (by kernel_rfl) ?_
 intro h0_1 e0_1 hb0_1 z0_1
 replace hb0_0 := BoxAt.ext hb0_0 e0_1
 have := Ext.size e0_1
 replace eB := Ext.trans eB e0_1
 have hfhb0_1 : Fresh h0_0.size [h0_0.size] := Fresh.one _
 have hlhb0_1 := one_lt (show h0_0.size < h0_1.size by omega)
 try simp -implicitDefEqProofs (disch := first | decide | assumption | omega) only [go_sem, BoxAt.elC hb0_1, BoxAt.elL hb0_1, BoxAt.elL2 hb0_1, wrap_id, cv_u8, cv_i64, Nat.zero_add, wrap_u8, eq_el, ne_el, build_el, Int.toNat_zero]
 refine hK _ _ ?_
 clear hK K
 refine den_seq ?_
 refine den_region TTok ?_
 intro K hK
 simp -implicitDefEqProofs (disch := first | decide | assumption | omega) only [go_sem, BoxAt.elC hb0_1, BoxAt.elL hb0_1, BoxAt.elL2 hb0_1, wrap_id, cv_u8, cv_i64, Nat.zero_add, wrap_u8, eq_el, ne_el, build_el, Int.toNat_zero]
 refine op_alloc (cs := elA z8) (by kernel_rfl) ?_
 intro h1_0 e1_0 hb1_0 z1_0
 replace hb0_0 := BoxAt.ext hb0_0 e1_0
 replace hb0_1 := BoxAt.ext hb0_1 e1_0
 have := Ext.size e1_0
 replace eB := Ext.trans eB e1_0
 have hfhb1_0 : Fresh h0_1.size [h0_1.size] := Fresh.one _
 have hlhb1_0 := one_lt (show h0_1.size < h1_0.size by omega)
 try simp -implicitDefEqProofs (disch := first | decide | assumption | omega) only [go_sem, BoxAt.elC hb0_1, BoxAt.elL hb0_1, BoxAt.elL2 hb0_1, wrap_id, cv_u8, cv_i64, Nat.zero_add, wrap_u8, eq_el, ne_el, build_el, Int.toNat_zero]
 refine hK _ _ ?_
 clear hK K
 refine den_seq ?_
 refine den_seq ?_
 refine den_region TTok ?_
 intro K hK
 simp -implicitDefEqProofs (disch := first | decide | assumption | omega) only [go_sem, wrap_id, cv_u8, cv_i64, Nat.zero_add, wrap_u8, eq_el, ne_el, build_el, Int.toNat_zero]
 refine hK _ _ ?_
 clear hK K
 refine den_block ?_
 refine den_sel [4, 1, 2, 3] ?_
 intro env_1
 simp only [go_sem]
 refine den_loopS (σ := Nat) (fun st_ => [(4, .int .i64 (st_ : Int))]) (fun st_ H => (st_ ≤ 8) ∧ (BoxAt H (h0_1.size) (elA (cpF 0 u st_)) 30) ∧ (Chg [h0_1.size] h1_0 H)) (fun st_ => 8 - st_) 0 ?_ ?_
 ·exact ⟨by first | (simp; done) | (dsimp only; omega) | (simp; omega), by rw [cpF_z8]; exact hb1_0, Chg.refl _ _⟩
 ·rintro i h4 ee3 ⟨hi0, hbx3, cL2⟩
  replace hb0_0 := BoxAt.chgA hb0_0 cL2 (apart_lt hlhb0_0 hfhb1_0 (by omega))
  replace hb0_1 := BoxAt.chgA hb0_1 cL2 (apart_lt hlhb0_1 hfhb1_0 (by omega))
  have := cL2.size
  replace eB := Ext.then eB cL2 (ge_of hfhb1_0 (by omega))
  have hfhbx3 := hfhb1_0
  have hlhbx3 := hlhb1_0
  simp only [List.cons_append, List.nil_append]
  refine den_seq ?_
  refine den_seq ?_
  refine den_region TTok ?_
  intro K hK
  simp -implicitDefEqProofs (disch := first | decide | assumption | omega) only [go_sem, wrap_id, cv_u8, cv_i64, Nat.zero_add, wrap_u8, eq_el, ne_el, build_el, Int.toNat_zero]
  refine hK _ _ ?_
  clear hK K
  refine den_cond rfl (fun c0 => ?_) (fun c0 => ?_)
  ·try simp only [decide_eq_true_eq, decide_eq_false_iff_not, beq_iff_eq, beq_eq_false_iff_ne, bne_iff_ne, ne_eq, Bool.not_eq_true', Bool.not_eq_false', Bool.and_eq_true, Bool.or_eq_true, bne_eq_false_iff_eq] at c0
   refine den_skip ?_
   refine den_seq ?_
   refine den_block ?_
   refine den_region TTok ?_
   intro K hK
   simp -implicitDefEqProofs (disch := first | decide | assumption | omega) only [go_sem, Int.toNat_zero, ia23, ia30, ld5, BoxAt.elC hb0_0, BoxAt.elL hb0_0, BoxAt.elL2 hb0_0, BoxAt.elC hbx3, BoxAt.elL hbx3, BoxAt.elL2 hbx3, wrap_id, cv_u8, cv_i64, Nat.zero_add, wrap_u8, eq_el, ne_el, build_el, Int.toNat_zero]
   refine op_storeB (o := i) (vs := #[.int .u8 (u i)]) (cs' := elA (upd (cpF 0 u i) i (u i))) st5 hbx3 rfl rfl rfl (by show _ + 1 ≤ 8; omega) u8_one (elA_upd (by omega)) ?_
   intro h5_5 hbx3 c5_5
   replace hb0_0 := BoxAt.chgA hb0_0 c5_5 (apart_lt hlhb0_0 hfhbx3 (by omega))
   replace hb0_1 := BoxAt.chgA hb0_1 c5_5 (apart_lt hlhb0_1 hfhbx3 (by omega))
   have := c5_5.size
   replace eB := Ext.then eB c5_5 (ge_of hfhbx3 (by omega))
   replace cL2 := Chg.step cL2 c5_5 Sub.refl
   try simp -implicitDefEqProofs (disch := first | decide | assumption | omega) only [go_sem, BoxAt.elC hb0_1, BoxAt.elL hb0_1, BoxAt.elL2 hb0_1, wrap_id, cv_u8, cv_i64, Nat.zero_add, wrap_u8, eq_el, ne_el, build_el, Int.toNat_zero]
   refine hK _ _ ?_
   clear hK K
   refine den_blk ?_
   refine den_region TTok ?_
   intro K hK
   simp -implicitDefEqProofs (disch := first | decide | assumption | omega) only [go_sem, wrap_id, cv_u8, cv_i64, Nat.zero_add, wrap_u8, eq_el, ne_el, build_el, Int.toNat_zero]
   refine hK _ _ ?_
   clear hK K
   refine den_stop ?_
   rw [cp_upd] at hbx3
   exact ⟨i + 1, by simp [HasL, puts_at], ⟨by first | omega | (dsimp only; omega), hbx3, cL2⟩, by first | omega | (dsimp only; omega)⟩
  ·try simp only [decide_eq_true_eq, decide_eq_false_iff_not, beq_iff_eq, beq_eq_false_iff_ne, bne_iff_ne, ne_eq, Bool.not_eq_true', Bool.not_eq_false', Bool.and_eq_true, Bool.or_eq_true, bne_eq_false_iff_eq] at c0
   refine den_exit ?_
   refine denX_code ?_
   refine denX_stop ?_
   refine denX_hit ?_
   refine den_seq ?_
   refine den_region TTok ?_
   intro K hK
   simp -implicitDefEqProofs (disch := first | decide | assumption | omega) only [go_sem, BoxAt.elC hbx3, BoxAt.elL hbx3, BoxAt.elL2 hbx3, wrap_id, cv_u8, cv_i64, Nat.zero_add, wrap_u8, eq_el, ne_el, build_el, Int.toNat_zero]
   refine op_storeB (o := 0) (vs := elA (cpF 0 u i)) (cs' := elA (cpF 0 u i)) st30 hb0_1 rfl rfl (elA_sz _) (by rw [elA_sz]; decide) elA_one elA_all ?_
   intro h6_1 hb0_1 c6_1
   replace hbx3 := BoxAt.chgA hbx3 c6_1 (apart_gt hfhbx3 hlhb0_1 (by omega))
   have := c6_1.size
   replace eB := Ext.then eB c6_1 (ge_of hfhb0_1 (by omega))
   try simp -implicitDefEqProofs (disch := first | decide | assumption | omega) only [go_sem, BoxAt.elC hb0_1, BoxAt.elL hb0_1, BoxAt.elL2 hb0_1, wrap_id, cv_u8, cv_i64, Nat.zero_add, wrap_u8, eq_el, ne_el, build_el, Int.toNat_zero]
   refine hK _ _ ?_
   clear hK K
   refine den_ret ?_
   simp -implicitDefEqProofs (disch := first | decide | assumption | omega) only [go_sem, BoxAt.elC hb0_1, BoxAt.elL hb0_1, BoxAt.elL2 hb0_1, wrap_id, cv_u8, cv_i64, Nat.zero_add, wrap_u8, eq_el, ne_el, build_el, Int.toNat_zero, resP_c1, ld30]
   rw [show i = 8 by omega]
   exact ⟨by rw [el_cp], eB⟩

set_option maxRecDepth 100000 in
set_option maxHeartbeats 4000000 in
theorem toI8_ok (u : Nat → Int) (h : Heap)   : CallA Try.prog 40 #[.agg (in8A u)] h fun v' h' => v' = .agg (in8A (u)) ∧ Ext h h' := by
 refine callA_intro TTok (args := [_]) Try.func40 (by kernel_rfl) rfl 15 rfl (by simp) [.cell 2 22] rfl ?_
 simp only [idxs, Nat.reduceAdd]
 refine den_seq ?_
 refine den_region TTok ?_
 intro K hK
 simp -implicitDefEqProofs (disch := first | decide | assumption | omega) only [go_sem, wrap_id, cv_u8, cv_i64, Nat.zero_add, wrap_u8, eq_el, ne_el, build_el, Int.toNat_zero]
 refine op_box (cs := in8A u) rfl ?_
 intro h0_0 e0_0 hb0_0 z0_0
 have := Ext.size e0_0
 have eB := e0_0
 have hfhb0_0 : Fresh h.size [h.size] := Fresh.one _
 have hlhb0_0 := one_lt (show h.size < h0_0.size by omega)
 try simp -implicitDefEqProofs (disch := first | decide | assumption | omega) only [go_sem, wrap_id, cv_u8, cv_i64, Nat.zero_add, wrap_u8, eq_el, ne_el, build_el, Int.toNat_zero]
 refine op_alloc (cs := in8A z8) (by kernel_rfl) ?_
 intro h0_1 e0_1 hb0_1 z0_1
 replace hb0_0 := BoxAt.ext hb0_0 e0_1
 have := Ext.size e0_1
 replace eB := Ext.trans eB e0_1
 have hfhb0_1 : Fresh h0_0.size [h0_0.size] := Fresh.one _
 have hlhb0_1 := one_lt (show h0_0.size < h0_1.size by omega)
 try simp -implicitDefEqProofs (disch := first | decide | assumption | omega) only [go_sem, BoxAt.in8C hb0_1, BoxAt.in8L hb0_1, wrap_id, cv_u8, cv_i64, Nat.zero_add, wrap_u8, eq_el, ne_el, build_el, Int.toNat_zero]
 refine hK _ _ ?_
 clear hK K
 refine den_seq ?_
 refine den_region TTok ?_
 intro K hK
 simp -implicitDefEqProofs (disch := first | decide | assumption | omega) only [go_sem, BoxAt.in8C hb0_1, BoxAt.in8L hb0_1, wrap_id, cv_u8, cv_i64, Nat.zero_add, wrap_u8, eq_el, ne_el, build_el, Int.toNat_zero]
 refine op_alloc (cs := in8A z8) (by kernel_rfl) ?_
 intro h1_0 e1_0 hb1_0 z1_0
 replace hb0_0 := BoxAt.ext hb0_0 e1_0
 replace hb0_1 := BoxAt.ext hb0_1 e1_0
 have := Ext.size e1_0
 replace eB := Ext.trans eB e1_0
 have hfhb1_0 : Fresh h0_1.size [h0_1.size] := Fresh.one _
 have hlhb1_0 := one_lt (show h0_1.size < h1_0.size by omega)
 try simp -implicitDefEqProofs (disch := first | decide | assumption | omega) only [go_sem, BoxAt.in8C hb0_1, BoxAt.in8L hb0_1, wrap_id, cv_u8, cv_i64, Nat.zero_add, wrap_u8, eq_el, ne_el, build_el, Int.toNat_zero]
 refine hK _ _ ?_
 clear hK K
 refine den_seq ?_
 refine den_seq ?_
 refine den_region TTok ?_
 intro K hK
 simp -implicitDefEqProofs (disch := first | decide | assumption | omega) only [go_sem, wrap_id, cv_u8, cv_i64, Nat.zero_add, wrap_u8, eq_el, ne_el, build_el, Int.toNat_zero]
 refine hK _ _ ?_
 clear hK K
 refine den_block ?_
 refine den_sel [4, 1, 2, 3] ?_
 intro env_1
 simp only [go_sem]
 refine den_loopS (σ := Nat) (fun st_ => [(4, .int .i64 (st_ : Int))]) (fun st_ H => (st_ ≤ 8) ∧ (BoxAt H (h0_1.size) (in8A (cpF 0 u st_)) 22) ∧ (Chg [h0_1.size] h1_0 H)) (fun st_ => 8 - st_) 0 ?_ ?_
 ·exact ⟨by first | (simp; done) | (dsimp only; omega) | (simp; omega), by rw [cpF_z8]; exact hb1_0, Chg.refl _ _⟩
 ·rintro i h4 ee3 ⟨hi0, hbx3, cL2⟩
  replace hb0_0 := BoxAt.chgA hb0_0 cL2 (apart_lt hlhb0_0 hfhb1_0 (by omega))
  replace hb0_1 := BoxAt.chgA hb0_1 cL2 (apart_lt hlhb0_1 hfhb1_0 (by omega))
  have := cL2.size
  replace eB := Ext.then eB cL2 (ge_of hfhb1_0 (by omega))
  have hfhbx3 := hfhb1_0
  have hlhbx3 := hlhb1_0
  simp only [List.cons_append, List.nil_append]
  refine den_seq ?_
  refine den_seq ?_
  refine den_region TTok ?_
  intro K hK
  simp -implicitDefEqProofs (disch := first | decide | assumption | omega) only [go_sem, wrap_id, cv_u8, cv_i64, Nat.zero_add, wrap_u8, eq_el, ne_el, build_el, Int.toNat_zero]
  refine hK _ _ ?_
  clear hK K
  refine den_cond rfl (fun c0 => ?_) (fun c0 => ?_)
  ·try simp only [decide_eq_true_eq, decide_eq_false_iff_not, beq_iff_eq, beq_eq_false_iff_ne, bne_iff_ne, ne_eq, Bool.not_eq_true', Bool.not_eq_false', Bool.and_eq_true, Bool.or_eq_true, bne_eq_false_iff_eq] at c0
   refine den_skip ?_
   refine den_seq ?_
   refine den_block ?_
   refine den_region TTok ?_
   intro K hK
   simp -implicitDefEqProofs (disch := first | decide | assumption | omega) only [go_sem, Int.toNat_zero, ia22, ld2, BoxAt.in8C hb0_0, BoxAt.in8L hb0_0, BoxAt.in8C hbx3, BoxAt.in8L hbx3, wrap_id, cv_u8, cv_i64, Nat.zero_add, wrap_u8, eq_el, ne_el, build_el, Int.toNat_zero]
   refine op_storeB (o := i) (vs := #[.int .i64 (u i)]) (cs' := in8A (upd (cpF 0 u i) i (u i))) st2 hbx3 rfl rfl rfl (by rw [in8A_sz]; omega) i64_one (in8_upd (by omega)) ?_
   intro h5_5 hbx3 c5_5
   replace hb0_0 := BoxAt.chgA hb0_0 c5_5 (apart_lt hlhb0_0 hfhbx3 (by omega))
   replace hb0_1 := BoxAt.chgA hb0_1 c5_5 (apart_lt hlhb0_1 hfhbx3 (by omega))
   have := c5_5.size
   replace eB := Ext.then eB c5_5 (ge_of hfhbx3 (by omega))
   replace cL2 := Chg.step cL2 c5_5 Sub.refl
   try simp -implicitDefEqProofs (disch := first | decide | assumption | omega) only [go_sem, BoxAt.in8C hb0_1, BoxAt.in8L hb0_1, wrap_id, cv_u8, cv_i64, Nat.zero_add, wrap_u8, eq_el, ne_el, build_el, Int.toNat_zero]
   refine hK _ _ ?_
   clear hK K
   refine den_blk ?_
   refine den_region TTok ?_
   intro K hK
   simp -implicitDefEqProofs (disch := first | decide | assumption | omega) only [go_sem, wrap_id, cv_u8, cv_i64, Nat.zero_add, wrap_u8, eq_el, ne_el, build_el, Int.toNat_zero]
   refine hK _ _ ?_
   clear hK K
   refine den_stop ?_
   rw [cp_upd] at hbx3
   exact ⟨i + 1, by simp [HasL, puts_at], ⟨by first | omega | (dsimp only; omega), hbx3, cL2⟩, by first | omega | (dsimp only; omega)⟩
  ·try simp only [decide_eq_true_eq, decide_eq_false_iff_not, beq_iff_eq, beq_eq_false_iff_ne, bne_iff_ne, ne_eq, Bool.not_eq_true', Bool.not_eq_false', Bool.and_eq_true, Bool.or_eq_true, bne_eq_false_iff_eq] at c0
   refine den_exit ?_
   refine denX_code ?_
   refine denX_stop ?_
   refine denX_hit ?_
   refine den_seq ?_
   refine den_region TTok ?_
   intro K hK
   simp -implicitDefEqProofs (disch := first | decide | assumption | omega) only [go_sem, BoxAt.in8C hbx3, BoxAt.in8L hbx3, wrap_id, cv_u8, cv_i64, Nat.zero_add, wrap_u8, eq_el, ne_el, build_el, Int.toNat_zero]
   refine op_storeB (o := 0) (vs := in8A (cpF 0 u i)) (cs' := in8A (cpF 0 u i)) st22 hb0_1 rfl rfl (in8A_sz _) (by rw [in8A_sz]; decide) in8A_one in8A_all ?_
   intro h6_1 hb0_1 c6_1
   replace hbx3 := BoxAt.chgA hbx3 c6_1 (apart_gt hfhbx3 hlhb0_1 (by omega))
   have := c6_1.size
   replace eB := Ext.then eB c6_1 (ge_of hfhb0_1 (by omega))
   try simp -implicitDefEqProofs (disch := first | decide | assumption | omega) only [go_sem, BoxAt.in8C hb0_1, BoxAt.in8L hb0_1, wrap_id, cv_u8, cv_i64, Nat.zero_add, wrap_u8, eq_el, ne_el, build_el, Int.toNat_zero]
   refine hK _ _ ?_
   clear hK K
   refine den_ret ?_
   simp -implicitDefEqProofs (disch := first | decide | assumption | omega) only [go_sem, BoxAt.in8C hb0_1, BoxAt.in8L hb0_1, wrap_id, cv_u8, cv_i64, Nat.zero_add, wrap_u8, eq_el, ne_el, build_el, Int.toNat_zero, resP_c1, ld22]
   rw [show i = 8 by omega]
   exact ⟨by rw [in8_cp], eB⟩

set_option maxRecDepth 100000 in
set_option maxHeartbeats 4000000 in
theorem toE8_ok (f : Nat → Nat → Int) (h : Heap)   : CallA Try.prog 41 #[.agg (el8A f)] h fun v' h' => v' = .agg (el8A (f)) ∧ Ext h h' := by
 refine callA_intro TTok (args := [_]) Try.func41 (by kernel_rfl) rfl 16 rfl (by simp) [.cell 2 31] rfl ?_
 simp only [idxs, Nat.reduceAdd]
 refine den_seq ?_
 refine den_region TTok ?_
 intro K hK
 simp -implicitDefEqProofs (disch := first | decide | assumption | omega) only [go_sem, wrap_id, cv_u8, cv_i64, Nat.zero_add, wrap_u8, eq_el, ne_el, build_el, Int.toNat_zero]
 refine op_box (cs := el8A f) rfl ?_
 intro h0_0 e0_0 hb0_0 z0_0
 have := Ext.size e0_0
 have eB := e0_0
 have hfhb0_0 : Fresh h.size [h.size] := Fresh.one _
 have hlhb0_0 := one_lt (show h.size < h0_0.size by omega)
 try simp -implicitDefEqProofs (disch := first | decide | assumption | omega) only [go_sem, wrap_id, cv_u8, cv_i64, Nat.zero_add, wrap_u8, eq_el, ne_el, build_el, Int.toNat_zero]
 refine op_alloc (cs := el8A z64) (by kernel_rfl) ?_
 intro h0_1 e0_1 hb0_1 z0_1
 replace hb0_0 := BoxAt.ext hb0_0 e0_1
 have := Ext.size e0_1
 replace eB := Ext.trans eB e0_1
 have hfhb0_1 : Fresh h0_0.size [h0_0.size] := Fresh.one _
 have hlhb0_1 := one_lt (show h0_0.size < h0_1.size by omega)
 try simp -implicitDefEqProofs (disch := first | decide | assumption | omega) only [go_sem, BoxAt.el8E hb0_1, BoxAt.el8L hb0_1, BoxAt.el8L2 hb0_1, wrap_id, cv_u8, cv_i64, Nat.zero_add, wrap_u8, eq_el, ne_el, build_el, Int.toNat_zero]
 refine hK _ _ ?_
 clear hK K
 refine den_seq ?_
 refine den_region TTok ?_
 intro K hK
 simp -implicitDefEqProofs (disch := first | decide | assumption | omega) only [go_sem, BoxAt.el8E hb0_1, BoxAt.el8L hb0_1, BoxAt.el8L2 hb0_1, wrap_id, cv_u8, cv_i64, Nat.zero_add, wrap_u8, eq_el, ne_el, build_el, Int.toNat_zero]
 refine op_alloc (cs := el8A z64) (by kernel_rfl) ?_
 intro h1_0 e1_0 hb1_0 z1_0
 replace hb0_0 := BoxAt.ext hb0_0 e1_0
 replace hb0_1 := BoxAt.ext hb0_1 e1_0
 have := Ext.size e1_0
 replace eB := Ext.trans eB e1_0
 have hfhb1_0 : Fresh h0_1.size [h0_1.size] := Fresh.one _
 have hlhb1_0 := one_lt (show h0_1.size < h1_0.size by omega)
 try simp -implicitDefEqProofs (disch := first | decide | assumption | omega) only [go_sem, BoxAt.el8E hb0_1, BoxAt.el8L hb0_1, BoxAt.el8L2 hb0_1, wrap_id, cv_u8, cv_i64, Nat.zero_add, wrap_u8, eq_el, ne_el, build_el, Int.toNat_zero]
 refine hK _ _ ?_
 clear hK K
 refine den_seq ?_
 refine den_seq ?_
 refine den_region TTok ?_
 intro K hK
 simp -implicitDefEqProofs (disch := first | decide | assumption | omega) only [go_sem, wrap_id, cv_u8, cv_i64, Nat.zero_add, wrap_u8, eq_el, ne_el, build_el, Int.toNat_zero]
 refine hK _ _ ?_
 clear hK K
 refine den_block ?_
 refine den_sel [4, 1, 2, 3] ?_
 intro env_1
 simp only [go_sem]
 refine den_loopS (σ := Nat) (fun st_ => [(4, .int .i64 (st_ : Int))]) (fun st_ H => (st_ ≤ 8) ∧ (BoxAt H (h0_1.size) (el8A (cpF z8 f st_)) 31) ∧ (Chg [h0_1.size] h1_0 H)) (fun st_ => 8 - st_) 0 ?_ ?_
 ·exact ⟨by first | (simp; done) | (dsimp only; omega) | (simp; omega), by rw [cpF_z64]; exact hb1_0, Chg.refl _ _⟩
 ·rintro i h4 ee3 ⟨hi0, hbx3, cL2⟩
  replace hb0_0 := BoxAt.chgA hb0_0 cL2 (apart_lt hlhb0_0 hfhb1_0 (by omega))
  replace hb0_1 := BoxAt.chgA hb0_1 cL2 (apart_lt hlhb0_1 hfhb1_0 (by omega))
  have := cL2.size
  replace eB := Ext.then eB cL2 (ge_of hfhb1_0 (by omega))
  have hfhbx3 := hfhb1_0
  have hlhbx3 := hlhb1_0
  simp only [List.cons_append, List.nil_append]
  refine den_seq ?_
  refine den_seq ?_
  refine den_region TTok ?_
  intro K hK
  simp -implicitDefEqProofs (disch := first | decide | assumption | omega) only [go_sem, wrap_id, cv_u8, cv_i64, Nat.zero_add, wrap_u8, eq_el, ne_el, build_el, Int.toNat_zero]
  refine hK _ _ ?_
  clear hK K
  refine den_cond rfl (fun c0 => ?_) (fun c0 => ?_)
  ·try simp only [decide_eq_true_eq, decide_eq_false_iff_not, beq_iff_eq, beq_eq_false_iff_ne, bne_iff_ne, ne_eq, Bool.not_eq_true', Bool.not_eq_false', Bool.and_eq_true, Bool.or_eq_true, bne_eq_false_iff_eq] at c0
   refine den_skip ?_
   refine den_seq ?_
   refine den_block ?_
   refine den_region TTok ?_
   intro K hK
   simp -implicitDefEqProofs (disch := first | decide | assumption | omega) only [go_sem, Int.toNat_zero, ia24, BoxAt.el8E hb0_0, BoxAt.el8L hb0_0, BoxAt.el8L2 hb0_0, wrap_id, cv_u8, cv_i64, Nat.zero_add, wrap_u8, eq_el, ne_el, build_el, Int.toNat_zero]
   try simp -implicitDefEqProofs (disch := first | decide | assumption | omega) only [go_sem, BoxAt.el8E hb0_1, BoxAt.el8L hb0_1, BoxAt.el8L2 hb0_1, wrap_id, cv_u8, cv_i64, Nat.zero_add, wrap_u8, eq_el, ne_el, build_el, Int.toNat_zero]
   refine CallA.mono (toEl_ok  (f i) _  ) ?_
   intro v_ h5_4
   rintro ⟨rfl, e5_4⟩
   replace hb0_0 := BoxAt.ext hb0_0 e5_4
   replace hb0_1 := BoxAt.ext hb0_1 e5_4
   replace hbx3 := BoxAt.ext hbx3 e5_4
   have := Ext.size e5_4
   replace eB := Ext.trans eB e5_4
   replace cL2 := Chg.stepE cL2 e5_4
   try simp -implicitDefEqProofs (disch := first | decide | assumption | omega) only [go_sem, Int.toNat_zero, ia31, BoxAt.el8E hbx3, BoxAt.el8L hbx3, BoxAt.el8L2 hbx3, wrap_id, cv_u8, cv_i64, Nat.zero_add, wrap_u8, eq_el, ne_el, build_el, Int.toNat_zero]
   refine op_storeB (o := i * 8) (vs := elA (f i)) (cs' := el8A (updF (cpF z8 f i) i (f i))) st30 hbx3 rfl rfl (elA_sz _) (by rw [el8A_sz]; omega) elA_one (el8_upd (by omega)) ?_
   intro h5_6 hbx3 c5_6
   replace hb0_0 := BoxAt.chgA hb0_0 c5_6 (apart_lt hlhb0_0 hfhbx3 (by omega))
   replace hb0_1 := BoxAt.chgA hb0_1 c5_6 (apart_lt hlhb0_1 hfhbx3 (by omega))
   have := c5_6.size
   replace eB := Ext.then eB c5_6 (ge_of hfhbx3 (by omega))
   replace cL2 := Chg.step cL2 c5_6 Sub.refl
   try simp -implicitDefEqProofs (disch := first | decide | assumption | omega) only [go_sem, BoxAt.el8E hb0_1, BoxAt.el8L hb0_1, BoxAt.el8L2 hb0_1, wrap_id, cv_u8, cv_i64, Nat.zero_add, wrap_u8, eq_el, ne_el, build_el, Int.toNat_zero]
   refine hK _ _ ?_
   clear hK K
   refine den_blk ?_
   refine den_region TTok ?_
   intro K hK
   simp -implicitDefEqProofs (disch := first | decide | assumption | omega) only [go_sem, wrap_id, cv_u8, cv_i64, Nat.zero_add, wrap_u8, eq_el, ne_el, build_el, Int.toNat_zero]
   refine hK _ _ ?_
   clear hK K
   refine den_stop ?_
   rw [cp_updF] at hbx3
   exact ⟨i + 1, by simp [HasL, puts_at], ⟨by first | omega | (dsimp only; omega), hbx3, cL2⟩, by first | omega | (dsimp only; omega)⟩
  ·try simp only [decide_eq_true_eq, decide_eq_false_iff_not, beq_iff_eq, beq_eq_false_iff_ne, bne_iff_ne, ne_eq, Bool.not_eq_true', Bool.not_eq_false', Bool.and_eq_true, Bool.or_eq_true, bne_eq_false_iff_eq] at c0
   refine den_exit ?_
   refine denX_code ?_
   refine denX_stop ?_
   refine denX_hit ?_
   refine den_seq ?_
   refine den_region TTok ?_
   intro K hK
   simp -implicitDefEqProofs (disch := first | decide | assumption | omega) only [go_sem, BoxAt.el8E hbx3, BoxAt.el8L hbx3, BoxAt.el8L2 hbx3, wrap_id, cv_u8, cv_i64, Nat.zero_add, wrap_u8, eq_el, ne_el, build_el, Int.toNat_zero]
   refine op_storeB (o := 0) (vs := el8A (cpF z8 f i)) (cs' := el8A (cpF z8 f i)) st31 hb0_1 rfl rfl (el8A_sz _) (by rw [el8A_sz]; decide) el8A_one el8A_all ?_
   intro h6_1 hb0_1 c6_1
   replace hbx3 := BoxAt.chgA hbx3 c6_1 (apart_gt hfhbx3 hlhb0_1 (by omega))
   have := c6_1.size
   replace eB := Ext.then eB c6_1 (ge_of hfhb0_1 (by omega))
   try simp -implicitDefEqProofs (disch := first | decide | assumption | omega) only [go_sem, BoxAt.el8E hb0_1, BoxAt.el8L hb0_1, BoxAt.el8L2 hb0_1, wrap_id, cv_u8, cv_i64, Nat.zero_add, wrap_u8, eq_el, ne_el, build_el, Int.toNat_zero]
   refine hK _ _ ?_
   clear hK K
   refine den_ret ?_
   simp -implicitDefEqProofs (disch := first | decide | assumption | omega) only [go_sem, BoxAt.el8E hb0_1, BoxAt.el8L hb0_1, BoxAt.el8L2 hb0_1, wrap_id, cv_u8, cv_i64, Nat.zero_add, wrap_u8, eq_el, ne_el, build_el, Int.toNat_zero, resP_c1, ld31]
   rw [show i = 8 by omega]
   exact ⟨by rw [el8_cp], eB⟩

set_option maxRecDepth 100000 in
set_option maxHeartbeats 4000000 in
theorem toE88_ok (f : Nat → Nat → Nat → Int) (h : Heap)   : CallA Try.prog 42 #[.agg (el88A f)] h fun v' h' => v' = .agg (el88A (f)) ∧ Ext h h' := by
 refine callA_intro TTok (args := [_]) Try.func42 (by kernel_rfl) rfl 16 rfl (by simp) [.cell 2 32] rfl ?_
 simp only [idxs, Nat.reduceAdd]
 refine den_seq ?_
 refine den_region TTok ?_
 intro K hK
 simp -implicitDefEqProofs (disch := first | decide | assumption | omega) only [go_sem, wrap_id, cv_u8, cv_i64, Nat.zero_add, wrap_u8, eq_el, ne_el, build_el, Int.toNat_zero]
 refine op_box (cs := el88A f) rfl ?_
 intro h0_0 e0_0 hb0_0 z0_0
 have := Ext.size e0_0
 have eB := e0_0
 have hfhb0_0 : Fresh h.size [h.size] := Fresh.one _
 have hlhb0_0 := one_lt (show h.size < h0_0.size by omega)
 try simp -implicitDefEqProofs (disch := first | decide | assumption | omega) only [go_sem, wrap_id, cv_u8, cv_i64, Nat.zero_add, wrap_u8, eq_el, ne_el, build_el, Int.toNat_zero]
 refine op_alloc (cs := el88A z512) (by kernel_rfl) ?_
 intro h0_1 e0_1 hb0_1 z0_1
 replace hb0_0 := BoxAt.ext hb0_0 e0_1
 have := Ext.size e0_1
 replace eB := Ext.trans eB e0_1
 have hfhb0_1 : Fresh h0_0.size [h0_0.size] := Fresh.one _
 have hlhb0_1 := one_lt (show h0_0.size < h0_1.size by omega)
 try simp -implicitDefEqProofs (disch := first | decide | assumption | omega) only [go_sem, BoxAt.el88R hb0_1, BoxAt.el88L hb0_1, wrap_id, cv_u8, cv_i64, Nat.zero_add, wrap_u8, eq_el, ne_el, build_el, Int.toNat_zero]
 refine hK _ _ ?_
 clear hK K
 refine den_seq ?_
 refine den_region TTok ?_
 intro K hK
 simp -implicitDefEqProofs (disch := first | decide | assumption | omega) only [go_sem, BoxAt.el88R hb0_1, BoxAt.el88L hb0_1, wrap_id, cv_u8, cv_i64, Nat.zero_add, wrap_u8, eq_el, ne_el, build_el, Int.toNat_zero]
 refine op_alloc (cs := el88A z512) (by kernel_rfl) ?_
 intro h1_0 e1_0 hb1_0 z1_0
 replace hb0_0 := BoxAt.ext hb0_0 e1_0
 replace hb0_1 := BoxAt.ext hb0_1 e1_0
 have := Ext.size e1_0
 replace eB := Ext.trans eB e1_0
 have hfhb1_0 : Fresh h0_1.size [h0_1.size] := Fresh.one _
 have hlhb1_0 := one_lt (show h0_1.size < h1_0.size by omega)
 try simp -implicitDefEqProofs (disch := first | decide | assumption | omega) only [go_sem, BoxAt.el88R hb0_1, BoxAt.el88L hb0_1, wrap_id, cv_u8, cv_i64, Nat.zero_add, wrap_u8, eq_el, ne_el, build_el, Int.toNat_zero]
 refine hK _ _ ?_
 clear hK K
 refine den_seq ?_
 refine den_seq ?_
 refine den_region TTok ?_
 intro K hK
 simp -implicitDefEqProofs (disch := first | decide | assumption | omega) only [go_sem, wrap_id, cv_u8, cv_i64, Nat.zero_add, wrap_u8, eq_el, ne_el, build_el, Int.toNat_zero]
 refine hK _ _ ?_
 clear hK K
 refine den_block ?_
 refine den_sel [4, 1, 2, 3] ?_
 intro env_1
 simp only [go_sem]
 refine den_loopS (σ := Nat) (fun st_ => [(4, .int .i64 (st_ : Int))]) (fun st_ H => (st_ ≤ 8) ∧ (BoxAt H (h0_1.size) (el88A (cpF z64 f st_)) 32) ∧ (Chg [h0_1.size] h1_0 H)) (fun st_ => 8 - st_) 0 ?_ ?_
 ·exact ⟨by first | (simp; done) | (dsimp only; omega) | (simp; omega), by rw [cpF_z512]; exact hb1_0, Chg.refl _ _⟩
 ·rintro i h4 ee3 ⟨hi0, hbx3, cL2⟩
  replace hb0_0 := BoxAt.chgA hb0_0 cL2 (apart_lt hlhb0_0 hfhb1_0 (by omega))
  replace hb0_1 := BoxAt.chgA hb0_1 cL2 (apart_lt hlhb0_1 hfhb1_0 (by omega))
  have := cL2.size
  replace eB := Ext.then eB cL2 (ge_of hfhb1_0 (by omega))
  have hfhbx3 := hfhb1_0
  have hlhbx3 := hlhb1_0
  simp only [List.cons_append, List.nil_append]
  refine den_seq ?_
  refine den_seq ?_
  refine den_region TTok ?_
  intro K hK
  simp -implicitDefEqProofs (disch := first | decide | assumption | omega) only [go_sem, wrap_id, cv_u8, cv_i64, Nat.zero_add, wrap_u8, eq_el, ne_el, build_el, Int.toNat_zero]
  refine hK _ _ ?_
  clear hK K
  refine den_cond rfl (fun c0 => ?_) (fun c0 => ?_)
  ·try simp only [decide_eq_true_eq, decide_eq_false_iff_not, beq_iff_eq, beq_eq_false_iff_ne, bne_iff_ne, ne_eq, Bool.not_eq_true', Bool.not_eq_false', Bool.and_eq_true, Bool.or_eq_true, bne_eq_false_iff_eq] at c0
   refine den_skip ?_
   refine den_seq ?_
   refine den_block ?_
   refine den_region TTok ?_
   intro K hK
   simp -implicitDefEqProofs (disch := first | decide | assumption | omega) only [go_sem, Int.toNat_zero, ia25, BoxAt.el88R hb0_0, BoxAt.el88L hb0_0, wrap_id, cv_u8, cv_i64, Nat.zero_add, wrap_u8, eq_el, ne_el, build_el, Int.toNat_zero]
   try simp -implicitDefEqProofs (disch := first | decide | assumption | omega) only [go_sem, BoxAt.el88R hb0_1, BoxAt.el88L hb0_1, wrap_id, cv_u8, cv_i64, Nat.zero_add, wrap_u8, eq_el, ne_el, build_el, Int.toNat_zero]
   refine CallA.mono (toE8_ok  (f i) _  ) ?_
   intro v_ h5_4
   rintro ⟨rfl, e5_4⟩
   replace hb0_0 := BoxAt.ext hb0_0 e5_4
   replace hb0_1 := BoxAt.ext hb0_1 e5_4
   replace hbx3 := BoxAt.ext hbx3 e5_4
   have := Ext.size e5_4
   replace eB := Ext.trans eB e5_4
   replace cL2 := Chg.stepE cL2 e5_4
   try simp -implicitDefEqProofs (disch := first | decide | assumption | omega) only [go_sem, Int.toNat_zero, ia32, BoxAt.el88R hbx3, BoxAt.el88L hbx3, wrap_id, cv_u8, cv_i64, Nat.zero_add, wrap_u8, eq_el, ne_el, build_el, Int.toNat_zero]
   refine op_storeB (o := i * 64) (vs := el8A (f i)) (cs' := el88A (updF (cpF z64 f i) i (f i))) st31 hbx3 rfl rfl (el8A_sz _) (by rw [el88A_sz]; omega) el8A_one (el88_upd (by omega)) ?_
   intro h5_6 hbx3 c5_6
   replace hb0_0 := BoxAt.chgA hb0_0 c5_6 (apart_lt hlhb0_0 hfhbx3 (by omega))
   replace hb0_1 := BoxAt.chgA hb0_1 c5_6 (apart_lt hlhb0_1 hfhbx3 (by omega))
   have := c5_6.size
   replace eB := Ext.then eB c5_6 (ge_of hfhbx3 (by omega))
   replace cL2 := Chg.step cL2 c5_6 Sub.refl
   try simp -implicitDefEqProofs (disch := first | decide | assumption | omega) only [go_sem, BoxAt.el88R hb0_1, BoxAt.el88L hb0_1, wrap_id, cv_u8, cv_i64, Nat.zero_add, wrap_u8, eq_el, ne_el, build_el, Int.toNat_zero]
   refine hK _ _ ?_
   clear hK K
   refine den_blk ?_
   refine den_region TTok ?_
   intro K hK
   simp -implicitDefEqProofs (disch := first | decide | assumption | omega) only [go_sem, wrap_id, cv_u8, cv_i64, Nat.zero_add, wrap_u8, eq_el, ne_el, build_el, Int.toNat_zero]
   refine hK _ _ ?_
   clear hK K
   refine den_stop ?_
   rw [cp_updF] at hbx3
   exact ⟨i + 1, by simp [HasL, puts_at], ⟨by first | omega | (dsimp only; omega), hbx3, cL2⟩, by first | omega | (dsimp only; omega)⟩
  ·try simp only [decide_eq_true_eq, decide_eq_false_iff_not, beq_iff_eq, beq_eq_false_iff_ne, bne_iff_ne, ne_eq, Bool.not_eq_true', Bool.not_eq_false', Bool.and_eq_true, Bool.or_eq_true, bne_eq_false_iff_eq] at c0
   refine den_exit ?_
   refine denX_code ?_
   refine denX_stop ?_
   refine denX_hit ?_
   refine den_seq ?_
   refine den_region TTok ?_
   intro K hK
   simp -implicitDefEqProofs (disch := first | decide | assumption | omega) only [go_sem, BoxAt.el88R hbx3, BoxAt.el88L hbx3, wrap_id, cv_u8, cv_i64, Nat.zero_add, wrap_u8, eq_el, ne_el, build_el, Int.toNat_zero]
   refine op_storeB (o := 0) (vs := el88A (cpF z64 f i)) (cs' := el88A (cpF z64 f i)) st32 hb0_1 rfl rfl (el88A_sz _) (by rw [el88A_sz]; decide) el88A_one el88A_all ?_
   intro h6_1 hb0_1 c6_1
   replace hbx3 := BoxAt.chgA hbx3 c6_1 (apart_gt hfhbx3 hlhb0_1 (by omega))
   have := c6_1.size
   replace eB := Ext.then eB c6_1 (ge_of hfhb0_1 (by omega))
   try simp -implicitDefEqProofs (disch := first | decide | assumption | omega) only [go_sem, BoxAt.el88R hb0_1, BoxAt.el88L hb0_1, wrap_id, cv_u8, cv_i64, Nat.zero_add, wrap_u8, eq_el, ne_el, build_el, Int.toNat_zero]
   refine hK _ _ ?_
   clear hK K
   refine den_ret ?_
   simp -implicitDefEqProofs (disch := first | decide | assumption | omega) only [go_sem, BoxAt.el88R hb0_1, BoxAt.el88L hb0_1, wrap_id, cv_u8, cv_i64, Nat.zero_add, wrap_u8, eq_el, ne_el, build_el, Int.toNat_zero, resP_c1, ld32]
   rw [show i = 8 by omega]
   exact ⟨by rw [el88_cp], eB⟩

set_option maxRecDepth 100000 in
set_option maxHeartbeats 4000000 in
theorem toDg_ok (X : Dg) (h : Heap)   : CallA Try.prog 9 #[.agg (dgA X)] h fun v' h' => v' = .agg (dgA (X)) ∧ Ext h h' := by
 refine callA_intro TTok (args := [_]) Try.func9 (by kernel_rfl) rfl 27 rfl (by simp) [.cell 2 34] rfl ?_
 simp only [idxs, Nat.reduceAdd]
 refine den_seq ?_
 refine den_region TTok ?_
 intro K hK
 simp -implicitDefEqProofs (disch := first | decide | assumption | omega) only [go_sem, wrap_id, cv_u8, cv_i64, Nat.zero_add, wrap_u8, eq_el, ne_el, build_el, Int.toNat_zero]
 refine op_box (cs := dgA X) rfl ?_
 intro h0_0 e0_0 hb0_0 z0_0
 have := Ext.size e0_0
 have eB := e0_0
 have hfhb0_0 : Fresh h.size [h.size] := Fresh.one _
 have hlhb0_0 := one_lt (show h.size < h0_0.size by omega)
 try simp -implicitDefEqProofs (disch := first | decide | assumption | omega) only [go_sem, wrap_id, cv_u8, cv_i64, Nat.zero_add, wrap_u8, eq_el, ne_el, build_el, Int.toNat_zero]
 refine op_alloc (cs := dgA dgZ) (by kernel_rfl) ?_
 intro h0_1 e0_1 hb0_1 z0_1
 replace hb0_0 := BoxAt.ext hb0_0 e0_1
 have := Ext.size e0_1
 replace eB := Ext.trans eB e0_1
 have hfhb0_1 : Fresh h0_0.size [h0_0.size] := Fresh.one _
 have hlhb0_1 := one_lt (show h0_0.size < h0_1.size by omega)
 try simp -implicitDefEqProofs (disch := first | decide | assumption | omega) only [go_sem, BoxAt.dgL hb0_1, BoxAt.dgP hb0_1, BoxAt.dgS hb0_1, BoxAt.dgDeg hb0_1, BoxAt.dgLev hb0_1, BoxAt.dgDeg0 hb0_1, BoxAt.dgLev0 hb0_1, BoxAt.dgDifL hb0_1, BoxAt.dgTabL hb0_1, BoxAt.dgTabL0 hb0_1, BoxAt.dgTabL1 hb0_1, BoxAt.dgTabL1' hb0_1, BoxAt.dgDifB hb0_1, BoxAt.dgTabB hb0_1, BoxAt.dgLL hb0_1, BoxAt.dgDegL hb0_1, BoxAt.dgLevL hb0_1, BoxAt.dgDifA hb0_1, BoxAt.dgTabA hb0_1, wrap_id, cv_u8, cv_i64, Nat.zero_add, wrap_u8, eq_el, ne_el, build_el, Int.toNat_zero]
 refine hK _ _ ?_
 clear hK K
 refine den_seq ?_
 refine den_region TTok ?_
 intro K hK
 simp -implicitDefEqProofs (disch := first | decide | assumption | omega) only [go_sem, BoxAt.dgL hb0_1, BoxAt.dgP hb0_1, BoxAt.dgS hb0_1, BoxAt.dgDeg hb0_1, BoxAt.dgLev hb0_1, BoxAt.dgDeg0 hb0_1, BoxAt.dgLev0 hb0_1, BoxAt.dgDifL hb0_1, BoxAt.dgTabL hb0_1, BoxAt.dgTabL0 hb0_1, BoxAt.dgTabL1 hb0_1, BoxAt.dgTabL1' hb0_1, BoxAt.dgDifB hb0_1, BoxAt.dgTabB hb0_1, BoxAt.dgLL hb0_1, BoxAt.dgDegL hb0_1, BoxAt.dgLevL hb0_1, BoxAt.dgDifA hb0_1, BoxAt.dgTabA hb0_1, wrap_id, cv_u8, cv_i64, Nat.zero_add, wrap_u8, eq_el, ne_el, build_el, Int.toNat_zero]
 refine op_alloc (cs := dgA dgZ) (by kernel_rfl) ?_
 intro h1_0 e1_0 hb1_0 z1_0
 replace hb0_0 := BoxAt.ext hb0_0 e1_0
 replace hb0_1 := BoxAt.ext hb0_1 e1_0
 have := Ext.size e1_0
 replace eB := Ext.trans eB e1_0
 have hfhb1_0 : Fresh h0_1.size [h0_1.size] := Fresh.one _
 have hlhb1_0 := one_lt (show h0_1.size < h1_0.size by omega)
 try simp -implicitDefEqProofs (disch := first | decide | assumption | omega) only [go_sem, BoxAt.dgL hb0_1, BoxAt.dgP hb0_1, BoxAt.dgS hb0_1, BoxAt.dgDeg hb0_1, BoxAt.dgLev hb0_1, BoxAt.dgDeg0 hb0_1, BoxAt.dgLev0 hb0_1, BoxAt.dgDifL hb0_1, BoxAt.dgTabL hb0_1, BoxAt.dgTabL0 hb0_1, BoxAt.dgTabL1 hb0_1, BoxAt.dgTabL1' hb0_1, BoxAt.dgDifB hb0_1, BoxAt.dgTabB hb0_1, BoxAt.dgLL hb0_1, BoxAt.dgDegL hb0_1, BoxAt.dgLevL hb0_1, BoxAt.dgDifA hb0_1, BoxAt.dgTabA hb0_1, wrap_id, cv_u8, cv_i64, Nat.zero_add, wrap_u8, eq_el, ne_el, build_el, Int.toNat_zero]
 refine hK _ _ ?_
 clear hK K
 refine den_seq ?_
 refine den_region TTok ?_
 intro K hK
 simp -implicitDefEqProofs (disch := first | decide | assumption | omega) only [go_sem, fa34_0, fa27_0, ld2, BoxAt.dgL hb0_0, BoxAt.dgP hb0_0, BoxAt.dgS hb0_0, BoxAt.dgDeg hb0_0, BoxAt.dgLev hb0_0, BoxAt.dgDeg0 hb0_0, BoxAt.dgLev0 hb0_0, BoxAt.dgDifL hb0_0, BoxAt.dgTabL hb0_0, BoxAt.dgTabL0 hb0_0, BoxAt.dgTabL1 hb0_0, BoxAt.dgTabL1' hb0_0, BoxAt.dgDifB hb0_0, BoxAt.dgTabB hb0_0, BoxAt.dgLL hb0_0, BoxAt.dgDegL hb0_0, BoxAt.dgLevL hb0_0, BoxAt.dgDifA hb0_0, BoxAt.dgTabA hb0_0, BoxAt.dgL hb1_0, BoxAt.dgP hb1_0, BoxAt.dgS hb1_0, BoxAt.dgDeg hb1_0, BoxAt.dgLev hb1_0, BoxAt.dgDeg0 hb1_0, BoxAt.dgLev0 hb1_0, BoxAt.dgDifL hb1_0, BoxAt.dgTabL hb1_0, BoxAt.dgTabL0 hb1_0, BoxAt.dgTabL1 hb1_0, BoxAt.dgTabL1' hb1_0, BoxAt.dgDifB hb1_0, BoxAt.dgTabB hb1_0, BoxAt.dgLL hb1_0, BoxAt.dgDegL hb1_0, BoxAt.dgLevL hb1_0, BoxAt.dgDifA hb1_0, BoxAt.dgTabA hb1_0, wrap_id, cv_u8, cv_i64, Nat.zero_add, wrap_u8, eq_el, ne_el, build_el, Int.toNat_zero]
 refine op_storeB (o := 0) (vs := #[.int .i64 X.p]) (cs' := dgA ({ dgZ with p := X.p })) st2 hb1_0 rfl rfl rfl (by rw [dgA_sz]; decide) i64_one dg_p ?_
 intro h2_3 hb1_0 c2_3
 replace hb0_0 := BoxAt.chgA hb0_0 c2_3 (apart_lt hlhb0_0 hfhb1_0 (by omega))
 replace hb0_1 := BoxAt.chgA hb0_1 c2_3 (apart_lt hlhb0_1 hfhb1_0 (by omega))
 have := c2_3.size
 replace eB := Ext.then eB c2_3 (ge_of hfhb1_0 (by omega))
 try simp -implicitDefEqProofs (disch := first | decide | assumption | omega) only [go_sem, BoxAt.dgL hb0_1, BoxAt.dgP hb0_1, BoxAt.dgS hb0_1, BoxAt.dgDeg hb0_1, BoxAt.dgLev hb0_1, BoxAt.dgDeg0 hb0_1, BoxAt.dgLev0 hb0_1, BoxAt.dgDifL hb0_1, BoxAt.dgTabL hb0_1, BoxAt.dgTabL0 hb0_1, BoxAt.dgTabL1 hb0_1, BoxAt.dgTabL1' hb0_1, BoxAt.dgDifB hb0_1, BoxAt.dgTabB hb0_1, BoxAt.dgLL hb0_1, BoxAt.dgDegL hb0_1, BoxAt.dgLevL hb0_1, BoxAt.dgDifA hb0_1, BoxAt.dgTabA hb0_1, wrap_id, cv_u8, cv_i64, Nat.zero_add, wrap_u8, eq_el, ne_el, build_el, Int.toNat_zero]
 refine hK _ _ ?_
 clear hK K
 refine den_seq ?_
 refine den_region TTok ?_
 intro K hK
 simp -implicitDefEqProofs (disch := first | decide | assumption | omega) only [go_sem, fa34_1, fa27_1, ld2, BoxAt.dgL hb0_0, BoxAt.dgP hb0_0, BoxAt.dgS hb0_0, BoxAt.dgDeg hb0_0, BoxAt.dgLev hb0_0, BoxAt.dgDeg0 hb0_0, BoxAt.dgLev0 hb0_0, BoxAt.dgDifL hb0_0, BoxAt.dgTabL hb0_0, BoxAt.dgTabL0 hb0_0, BoxAt.dgTabL1 hb0_0, BoxAt.dgTabL1' hb0_0, BoxAt.dgDifB hb0_0, BoxAt.dgTabB hb0_0, BoxAt.dgLL hb0_0, BoxAt.dgDegL hb0_0, BoxAt.dgLevL hb0_0, BoxAt.dgDifA hb0_0, BoxAt.dgTabA hb0_0, BoxAt.dgL hb1_0, BoxAt.dgP hb1_0, BoxAt.dgS hb1_0, BoxAt.dgDeg hb1_0, BoxAt.dgLev hb1_0, BoxAt.dgDeg0 hb1_0, BoxAt.dgLev0 hb1_0, BoxAt.dgDifL hb1_0, BoxAt.dgTabL hb1_0, BoxAt.dgTabL0 hb1_0, BoxAt.dgTabL1 hb1_0, BoxAt.dgTabL1' hb1_0, BoxAt.dgDifB hb1_0, BoxAt.dgTabB hb1_0, BoxAt.dgLL hb1_0, BoxAt.dgDegL hb1_0, BoxAt.dgLevL hb1_0, BoxAt.dgDifA hb1_0, BoxAt.dgTabA hb1_0, wrap_id, cv_u8, cv_i64, Nat.zero_add, wrap_u8, eq_el, ne_el, build_el, Int.toNat_zero]
 refine op_storeB (o := 1) (vs := #[.int .i64 X.s]) (cs' := dgA ({ { dgZ with p := X.p } with s := X.s })) st2 hb1_0 rfl rfl rfl (by rw [dgA_sz]; decide) i64_one dg_s ?_
 intro h3_3 hb1_0 c3_3
 replace hb0_0 := BoxAt.chgA hb0_0 c3_3 (apart_lt hlhb0_0 hfhb1_0 (by omega))
 replace hb0_1 := BoxAt.chgA hb0_1 c3_3 (apart_lt hlhb0_1 hfhb1_0 (by omega))
 have := c3_3.size
 replace eB := Ext.then eB c3_3 (ge_of hfhb1_0 (by omega))
 try simp -implicitDefEqProofs (disch := first | decide | assumption | omega) only [go_sem, BoxAt.dgL hb0_1, BoxAt.dgP hb0_1, BoxAt.dgS hb0_1, BoxAt.dgDeg hb0_1, BoxAt.dgLev hb0_1, BoxAt.dgDeg0 hb0_1, BoxAt.dgLev0 hb0_1, BoxAt.dgDifL hb0_1, BoxAt.dgTabL hb0_1, BoxAt.dgTabL0 hb0_1, BoxAt.dgTabL1 hb0_1, BoxAt.dgTabL1' hb0_1, BoxAt.dgDifB hb0_1, BoxAt.dgTabB hb0_1, BoxAt.dgLL hb0_1, BoxAt.dgDegL hb0_1, BoxAt.dgLevL hb0_1, BoxAt.dgDifA hb0_1, BoxAt.dgTabA hb0_1, wrap_id, cv_u8, cv_i64, Nat.zero_add, wrap_u8, eq_el, ne_el, build_el, Int.toNat_zero]
 refine hK _ _ ?_
 clear hK K
 refine den_seq ?_
 refine den_region TTok ?_
 intro K hK
 simp -implicitDefEqProofs (disch := first | decide | assumption | omega) only [go_sem, fa27_2, BoxAt.dgL hb0_0, BoxAt.dgP hb0_0, BoxAt.dgS hb0_0, BoxAt.dgDeg hb0_0, BoxAt.dgLev hb0_0, BoxAt.dgDeg0 hb0_0, BoxAt.dgLev0 hb0_0, BoxAt.dgDifL hb0_0, BoxAt.dgTabL hb0_0, BoxAt.dgTabL0 hb0_0, BoxAt.dgTabL1 hb0_0, BoxAt.dgTabL1' hb0_0, BoxAt.dgDifB hb0_0, BoxAt.dgTabB hb0_0, BoxAt.dgLL hb0_0, BoxAt.dgDegL hb0_0, BoxAt.dgLevL hb0_0, BoxAt.dgDifA hb0_0, BoxAt.dgTabA hb0_0, wrap_id, cv_u8, cv_i64, Nat.zero_add, wrap_u8, eq_el, ne_el, build_el, Int.toNat_zero]
 try simp -implicitDefEqProofs (disch := first | decide | assumption | omega) only [go_sem, BoxAt.dgL hb0_1, BoxAt.dgP hb0_1, BoxAt.dgS hb0_1, BoxAt.dgDeg hb0_1, BoxAt.dgLev hb0_1, BoxAt.dgDeg0 hb0_1, BoxAt.dgLev0 hb0_1, BoxAt.dgDifL hb0_1, BoxAt.dgTabL hb0_1, BoxAt.dgTabL0 hb0_1, BoxAt.dgTabL1 hb0_1, BoxAt.dgTabL1' hb0_1, BoxAt.dgDifB hb0_1, BoxAt.dgTabB hb0_1, BoxAt.dgLL hb0_1, BoxAt.dgDegL hb0_1, BoxAt.dgLevL hb0_1, BoxAt.dgDifA hb0_1, BoxAt.dgTabA hb0_1, wrap_id, cv_u8, cv_i64, Nat.zero_add, wrap_u8, eq_el, ne_el, build_el, Int.toNat_zero]
 refine CallA.mono (toI8_ok  X.deg _  ) ?_
 intro v_ h4_2
 rintro ⟨rfl, e4_2⟩
 replace hb0_0 := BoxAt.ext hb0_0 e4_2
 replace hb0_1 := BoxAt.ext hb0_1 e4_2
 replace hb1_0 := BoxAt.ext hb1_0 e4_2
 have := Ext.size e4_2
 replace eB := Ext.trans eB e4_2
 try simp -implicitDefEqProofs (disch := first | decide | assumption | omega) only [go_sem, fa34_2, BoxAt.dgL hb1_0, BoxAt.dgP hb1_0, BoxAt.dgS hb1_0, BoxAt.dgDeg hb1_0, BoxAt.dgLev hb1_0, BoxAt.dgDeg0 hb1_0, BoxAt.dgLev0 hb1_0, BoxAt.dgDifL hb1_0, BoxAt.dgTabL hb1_0, BoxAt.dgTabL0 hb1_0, BoxAt.dgTabL1 hb1_0, BoxAt.dgTabL1' hb1_0, BoxAt.dgDifB hb1_0, BoxAt.dgTabB hb1_0, BoxAt.dgLL hb1_0, BoxAt.dgDegL hb1_0, BoxAt.dgLevL hb1_0, BoxAt.dgDifA hb1_0, BoxAt.dgTabA hb1_0, wrap_id, cv_u8, cv_i64, Nat.zero_add, wrap_u8, eq_el, ne_el, build_el, Int.toNat_zero]
 refine op_storeB (o := 2) (vs := in8A X.deg) (cs' := dgA ({ { { dgZ with p := X.p } with s := X.s } with deg := X.deg })) st22 hb1_0 rfl rfl (in8A_sz _) (by rw [dgA_sz]; decide) in8A_one dg_deg ?_
 intro h4_4 hb1_0 c4_4
 replace hb0_0 := BoxAt.chgA hb0_0 c4_4 (apart_lt hlhb0_0 hfhb1_0 (by omega))
 replace hb0_1 := BoxAt.chgA hb0_1 c4_4 (apart_lt hlhb0_1 hfhb1_0 (by omega))
 have := c4_4.size
 replace eB := Ext.then eB c4_4 (ge_of hfhb1_0 (by omega))
 try simp -implicitDefEqProofs (disch := first | decide | assumption | omega) only [go_sem, BoxAt.dgL hb0_1, BoxAt.dgP hb0_1, BoxAt.dgS hb0_1, BoxAt.dgDeg hb0_1, BoxAt.dgLev hb0_1, BoxAt.dgDeg0 hb0_1, BoxAt.dgLev0 hb0_1, BoxAt.dgDifL hb0_1, BoxAt.dgTabL hb0_1, BoxAt.dgTabL0 hb0_1, BoxAt.dgTabL1 hb0_1, BoxAt.dgTabL1' hb0_1, BoxAt.dgDifB hb0_1, BoxAt.dgTabB hb0_1, BoxAt.dgLL hb0_1, BoxAt.dgDegL hb0_1, BoxAt.dgLevL hb0_1, BoxAt.dgDifA hb0_1, BoxAt.dgTabA hb0_1, wrap_id, cv_u8, cv_i64, Nat.zero_add, wrap_u8, eq_el, ne_el, build_el, Int.toNat_zero]
 refine hK _ _ ?_
 clear hK K
 refine den_seq ?_
 refine den_region TTok ?_
 intro K hK
 simp -implicitDefEqProofs (disch := first | decide | assumption | omega) only [go_sem, fa27_3, BoxAt.dgL hb0_0, BoxAt.dgP hb0_0, BoxAt.dgS hb0_0, BoxAt.dgDeg hb0_0, BoxAt.dgLev hb0_0, BoxAt.dgDeg0 hb0_0, BoxAt.dgLev0 hb0_0, BoxAt.dgDifL hb0_0, BoxAt.dgTabL hb0_0, BoxAt.dgTabL0 hb0_0, BoxAt.dgTabL1 hb0_0, BoxAt.dgTabL1' hb0_0, BoxAt.dgDifB hb0_0, BoxAt.dgTabB hb0_0, BoxAt.dgLL hb0_0, BoxAt.dgDegL hb0_0, BoxAt.dgLevL hb0_0, BoxAt.dgDifA hb0_0, BoxAt.dgTabA hb0_0, wrap_id, cv_u8, cv_i64, Nat.zero_add, wrap_u8, eq_el, ne_el, build_el, Int.toNat_zero]
 try simp -implicitDefEqProofs (disch := first | decide | assumption | omega) only [go_sem, BoxAt.dgL hb0_1, BoxAt.dgP hb0_1, BoxAt.dgS hb0_1, BoxAt.dgDeg hb0_1, BoxAt.dgLev hb0_1, BoxAt.dgDeg0 hb0_1, BoxAt.dgLev0 hb0_1, BoxAt.dgDifL hb0_1, BoxAt.dgTabL hb0_1, BoxAt.dgTabL0 hb0_1, BoxAt.dgTabL1 hb0_1, BoxAt.dgTabL1' hb0_1, BoxAt.dgDifB hb0_1, BoxAt.dgTabB hb0_1, BoxAt.dgLL hb0_1, BoxAt.dgDegL hb0_1, BoxAt.dgLevL hb0_1, BoxAt.dgDifA hb0_1, BoxAt.dgTabA hb0_1, wrap_id, cv_u8, cv_i64, Nat.zero_add, wrap_u8, eq_el, ne_el, build_el, Int.toNat_zero]
 refine CallA.mono (toI8_ok  X.lev _  ) ?_
 intro v_ h5_2
 rintro ⟨rfl, e5_2⟩
 replace hb0_0 := BoxAt.ext hb0_0 e5_2
 replace hb0_1 := BoxAt.ext hb0_1 e5_2
 replace hb1_0 := BoxAt.ext hb1_0 e5_2
 have := Ext.size e5_2
 replace eB := Ext.trans eB e5_2
 try simp -implicitDefEqProofs (disch := first | decide | assumption | omega) only [go_sem, fa34_3, BoxAt.dgL hb1_0, BoxAt.dgP hb1_0, BoxAt.dgS hb1_0, BoxAt.dgDeg hb1_0, BoxAt.dgLev hb1_0, BoxAt.dgDeg0 hb1_0, BoxAt.dgLev0 hb1_0, BoxAt.dgDifL hb1_0, BoxAt.dgTabL hb1_0, BoxAt.dgTabL0 hb1_0, BoxAt.dgTabL1 hb1_0, BoxAt.dgTabL1' hb1_0, BoxAt.dgDifB hb1_0, BoxAt.dgTabB hb1_0, BoxAt.dgLL hb1_0, BoxAt.dgDegL hb1_0, BoxAt.dgLevL hb1_0, BoxAt.dgDifA hb1_0, BoxAt.dgTabA hb1_0, wrap_id, cv_u8, cv_i64, Nat.zero_add, wrap_u8, eq_el, ne_el, build_el, Int.toNat_zero]
 refine op_storeB (o := 10) (vs := in8A X.lev) (cs' := dgA ({ { { { dgZ with p := X.p } with s := X.s } with deg := X.deg } with lev := X.lev })) st22 hb1_0 rfl rfl (in8A_sz _) (by rw [dgA_sz]; decide) in8A_one dg_lev ?_
 intro h5_4 hb1_0 c5_4
 replace hb0_0 := BoxAt.chgA hb0_0 c5_4 (apart_lt hlhb0_0 hfhb1_0 (by omega))
 replace hb0_1 := BoxAt.chgA hb0_1 c5_4 (apart_lt hlhb0_1 hfhb1_0 (by omega))
 have := c5_4.size
 replace eB := Ext.then eB c5_4 (ge_of hfhb1_0 (by omega))
 try simp -implicitDefEqProofs (disch := first | decide | assumption | omega) only [go_sem, BoxAt.dgL hb0_1, BoxAt.dgP hb0_1, BoxAt.dgS hb0_1, BoxAt.dgDeg hb0_1, BoxAt.dgLev hb0_1, BoxAt.dgDeg0 hb0_1, BoxAt.dgLev0 hb0_1, BoxAt.dgDifL hb0_1, BoxAt.dgTabL hb0_1, BoxAt.dgTabL0 hb0_1, BoxAt.dgTabL1 hb0_1, BoxAt.dgTabL1' hb0_1, BoxAt.dgDifB hb0_1, BoxAt.dgTabB hb0_1, BoxAt.dgLL hb0_1, BoxAt.dgDegL hb0_1, BoxAt.dgLevL hb0_1, BoxAt.dgDifA hb0_1, BoxAt.dgTabA hb0_1, wrap_id, cv_u8, cv_i64, Nat.zero_add, wrap_u8, eq_el, ne_el, build_el, Int.toNat_zero]
 refine hK _ _ ?_
 clear hK K
 refine den_seq ?_
 refine den_region TTok ?_
 intro K hK
 simp -implicitDefEqProofs (disch := first | decide | assumption | omega) only [go_sem, fa27_4, BoxAt.dgL hb0_0, BoxAt.dgP hb0_0, BoxAt.dgS hb0_0, BoxAt.dgDeg hb0_0, BoxAt.dgLev hb0_0, BoxAt.dgDeg0 hb0_0, BoxAt.dgLev0 hb0_0, BoxAt.dgDifL hb0_0, BoxAt.dgTabL hb0_0, BoxAt.dgTabL0 hb0_0, BoxAt.dgTabL1 hb0_0, BoxAt.dgTabL1' hb0_0, BoxAt.dgDifB hb0_0, BoxAt.dgTabB hb0_0, BoxAt.dgLL hb0_0, BoxAt.dgDegL hb0_0, BoxAt.dgLevL hb0_0, BoxAt.dgDifA hb0_0, BoxAt.dgTabA hb0_0, wrap_id, cv_u8, cv_i64, Nat.zero_add, wrap_u8, eq_el, ne_el, build_el, Int.toNat_zero]
 try simp -implicitDefEqProofs (disch := first | decide | assumption | omega) only [go_sem, BoxAt.dgL hb0_1, BoxAt.dgP hb0_1, BoxAt.dgS hb0_1, BoxAt.dgDeg hb0_1, BoxAt.dgLev hb0_1, BoxAt.dgDeg0 hb0_1, BoxAt.dgLev0 hb0_1, BoxAt.dgDifL hb0_1, BoxAt.dgTabL hb0_1, BoxAt.dgTabL0 hb0_1, BoxAt.dgTabL1 hb0_1, BoxAt.dgTabL1' hb0_1, BoxAt.dgDifB hb0_1, BoxAt.dgTabB hb0_1, BoxAt.dgLL hb0_1, BoxAt.dgDegL hb0_1, BoxAt.dgLevL hb0_1, BoxAt.dgDifA hb0_1, BoxAt.dgTabA hb0_1, wrap_id, cv_u8, cv_i64, Nat.zero_add, wrap_u8, eq_el, ne_el, build_el, Int.toNat_zero]
 refine CallA.mono (toE8_ok  X.dif _  ) ?_
 intro v_ h6_2
 rintro ⟨rfl, e6_2⟩
 replace hb0_0 := BoxAt.ext hb0_0 e6_2
 replace hb0_1 := BoxAt.ext hb0_1 e6_2
 replace hb1_0 := BoxAt.ext hb1_0 e6_2
 have := Ext.size e6_2
 replace eB := Ext.trans eB e6_2
 try simp -implicitDefEqProofs (disch := first | decide | assumption | omega) only [go_sem, fa34_4, BoxAt.dgL hb1_0, BoxAt.dgP hb1_0, BoxAt.dgS hb1_0, BoxAt.dgDeg hb1_0, BoxAt.dgLev hb1_0, BoxAt.dgDeg0 hb1_0, BoxAt.dgLev0 hb1_0, BoxAt.dgDifL hb1_0, BoxAt.dgTabL hb1_0, BoxAt.dgTabL0 hb1_0, BoxAt.dgTabL1 hb1_0, BoxAt.dgTabL1' hb1_0, BoxAt.dgDifB hb1_0, BoxAt.dgTabB hb1_0, BoxAt.dgLL hb1_0, BoxAt.dgDegL hb1_0, BoxAt.dgLevL hb1_0, BoxAt.dgDifA hb1_0, BoxAt.dgTabA hb1_0, wrap_id, cv_u8, cv_i64, Nat.zero_add, wrap_u8, eq_el, ne_el, build_el, Int.toNat_zero]
 refine op_storeB (o := 18) (vs := el8A X.dif) (cs' := dgA ({ { { { { dgZ with p := X.p } with s := X.s } with deg := X.deg } with lev := X.lev } with dif := X.dif })) st31 hb1_0 rfl rfl (el8A_sz _) (by rw [dgA_sz]; decide) el8A_one dg_dif ?_
 intro h6_4 hb1_0 c6_4
 replace hb0_0 := BoxAt.chgA hb0_0 c6_4 (apart_lt hlhb0_0 hfhb1_0 (by omega))
 replace hb0_1 := BoxAt.chgA hb0_1 c6_4 (apart_lt hlhb0_1 hfhb1_0 (by omega))
 have := c6_4.size
 replace eB := Ext.then eB c6_4 (ge_of hfhb1_0 (by omega))
 try simp -implicitDefEqProofs (disch := first | decide | assumption | omega) only [go_sem, BoxAt.dgL hb0_1, BoxAt.dgP hb0_1, BoxAt.dgS hb0_1, BoxAt.dgDeg hb0_1, BoxAt.dgLev hb0_1, BoxAt.dgDeg0 hb0_1, BoxAt.dgLev0 hb0_1, BoxAt.dgDifL hb0_1, BoxAt.dgTabL hb0_1, BoxAt.dgTabL0 hb0_1, BoxAt.dgTabL1 hb0_1, BoxAt.dgTabL1' hb0_1, BoxAt.dgDifB hb0_1, BoxAt.dgTabB hb0_1, BoxAt.dgLL hb0_1, BoxAt.dgDegL hb0_1, BoxAt.dgLevL hb0_1, BoxAt.dgDifA hb0_1, BoxAt.dgTabA hb0_1, wrap_id, cv_u8, cv_i64, Nat.zero_add, wrap_u8, eq_el, ne_el, build_el, Int.toNat_zero]
 refine hK _ _ ?_
 clear hK K
 refine den_seq ?_
 refine den_region TTok ?_
 intro K hK
 simp -implicitDefEqProofs (disch := first | decide | assumption | omega) only [go_sem, fa27_5, BoxAt.dgL hb0_0, BoxAt.dgP hb0_0, BoxAt.dgS hb0_0, BoxAt.dgDeg hb0_0, BoxAt.dgLev hb0_0, BoxAt.dgDeg0 hb0_0, BoxAt.dgLev0 hb0_0, BoxAt.dgDifL hb0_0, BoxAt.dgTabL hb0_0, BoxAt.dgTabL0 hb0_0, BoxAt.dgTabL1 hb0_0, BoxAt.dgTabL1' hb0_0, BoxAt.dgDifB hb0_0, BoxAt.dgTabB hb0_0, BoxAt.dgLL hb0_0, BoxAt.dgDegL hb0_0, BoxAt.dgLevL hb0_0, BoxAt.dgDifA hb0_0, BoxAt.dgTabA hb0_0, wrap_id, cv_u8, cv_i64, Nat.zero_add, wrap_u8, eq_el, ne_el, build_el, Int.toNat_zero]
 try simp -implicitDefEqProofs (disch := first | decide | assumption | omega) only [go_sem, BoxAt.dgL hb0_1, BoxAt.dgP hb0_1, BoxAt.dgS hb0_1, BoxAt.dgDeg hb0_1, BoxAt.dgLev hb0_1, BoxAt.dgDeg0 hb0_1, BoxAt.dgLev0 hb0_1, BoxAt.dgDifL hb0_1, BoxAt.dgTabL hb0_1, BoxAt.dgTabL0 hb0_1, BoxAt.dgTabL1 hb0_1, BoxAt.dgTabL1' hb0_1, BoxAt.dgDifB hb0_1, BoxAt.dgTabB hb0_1, BoxAt.dgLL hb0_1, BoxAt.dgDegL hb0_1, BoxAt.dgLevL hb0_1, BoxAt.dgDifA hb0_1, BoxAt.dgTabA hb0_1, wrap_id, cv_u8, cv_i64, Nat.zero_add, wrap_u8, eq_el, ne_el, build_el, Int.toNat_zero]
 refine CallA.mono (toE88_ok  X.tab _  ) ?_
 intro v_ h7_2
 rintro ⟨rfl, e7_2⟩
 replace hb0_0 := BoxAt.ext hb0_0 e7_2
 replace hb0_1 := BoxAt.ext hb0_1 e7_2
 replace hb1_0 := BoxAt.ext hb1_0 e7_2
 have := Ext.size e7_2
 replace eB := Ext.trans eB e7_2
 try simp -implicitDefEqProofs (disch := first | decide | assumption | omega) only [go_sem, fa34_5, BoxAt.dgL hb1_0, BoxAt.dgP hb1_0, BoxAt.dgS hb1_0, BoxAt.dgDeg hb1_0, BoxAt.dgLev hb1_0, BoxAt.dgDeg0 hb1_0, BoxAt.dgLev0 hb1_0, BoxAt.dgDifL hb1_0, BoxAt.dgTabL hb1_0, BoxAt.dgTabL0 hb1_0, BoxAt.dgTabL1 hb1_0, BoxAt.dgTabL1' hb1_0, BoxAt.dgDifB hb1_0, BoxAt.dgTabB hb1_0, BoxAt.dgLL hb1_0, BoxAt.dgDegL hb1_0, BoxAt.dgLevL hb1_0, BoxAt.dgDifA hb1_0, BoxAt.dgTabA hb1_0, wrap_id, cv_u8, cv_i64, Nat.zero_add, wrap_u8, eq_el, ne_el, build_el, Int.toNat_zero]
 refine op_storeB (o := 82) (vs := el88A X.tab) (cs' := dgA ({ { { { { { dgZ with p := X.p } with s := X.s } with deg := X.deg } with lev := X.lev } with dif := X.dif } with tab := X.tab })) st32 hb1_0 rfl rfl (el88A_sz _) (by rw [dgA_sz]; decide) el88A_one dg_tab ?_
 intro h7_4 hb1_0 c7_4
 replace hb0_0 := BoxAt.chgA hb0_0 c7_4 (apart_lt hlhb0_0 hfhb1_0 (by omega))
 replace hb0_1 := BoxAt.chgA hb0_1 c7_4 (apart_lt hlhb0_1 hfhb1_0 (by omega))
 have := c7_4.size
 replace eB := Ext.then eB c7_4 (ge_of hfhb1_0 (by omega))
 try simp -implicitDefEqProofs (disch := first | decide | assumption | omega) only [go_sem, BoxAt.dgL hb0_1, BoxAt.dgP hb0_1, BoxAt.dgS hb0_1, BoxAt.dgDeg hb0_1, BoxAt.dgLev hb0_1, BoxAt.dgDeg0 hb0_1, BoxAt.dgLev0 hb0_1, BoxAt.dgDifL hb0_1, BoxAt.dgTabL hb0_1, BoxAt.dgTabL0 hb0_1, BoxAt.dgTabL1 hb0_1, BoxAt.dgTabL1' hb0_1, BoxAt.dgDifB hb0_1, BoxAt.dgTabB hb0_1, BoxAt.dgLL hb0_1, BoxAt.dgDegL hb0_1, BoxAt.dgLevL hb0_1, BoxAt.dgDifA hb0_1, BoxAt.dgTabA hb0_1, wrap_id, cv_u8, cv_i64, Nat.zero_add, wrap_u8, eq_el, ne_el, build_el, Int.toNat_zero]
 refine hK _ _ ?_
 clear hK K
 refine den_seq ?_
 refine den_region TTok ?_
 intro K hK
 simp -implicitDefEqProofs (disch := first | decide | assumption | omega) only [go_sem, BoxAt.dgL hb1_0, BoxAt.dgP hb1_0, BoxAt.dgS hb1_0, BoxAt.dgDeg hb1_0, BoxAt.dgLev hb1_0, BoxAt.dgDeg0 hb1_0, BoxAt.dgLev0 hb1_0, BoxAt.dgDifL hb1_0, BoxAt.dgTabL hb1_0, BoxAt.dgTabL0 hb1_0, BoxAt.dgTabL1 hb1_0, BoxAt.dgTabL1' hb1_0, BoxAt.dgDifB hb1_0, BoxAt.dgTabB hb1_0, BoxAt.dgLL hb1_0, BoxAt.dgDegL hb1_0, BoxAt.dgLevL hb1_0, BoxAt.dgDifA hb1_0, BoxAt.dgTabA hb1_0, wrap_id, cv_u8, cv_i64, Nat.zero_add, wrap_u8, eq_el, ne_el, build_el, Int.toNat_zero]
 refine op_storeB (o := 0) (vs := dgA ({ { { { { { dgZ with p := X.p } with s := X.s } with deg := X.deg } with lev := X.lev } with dif := X.dif } with tab := X.tab })) (cs' := dgA ({ { { { { { dgZ with p := X.p } with s := X.s } with deg := X.deg } with lev := X.lev } with dif := X.dif } with tab := X.tab })) st34 hb0_1 rfl rfl (dgA_sz _) (by rw [dgA_sz]; decide) dgA_one dgA_all ?_
 intro h8_1 hb0_1 c8_1
 replace hb1_0 := BoxAt.chgA hb1_0 c8_1 (apart_gt hfhb1_0 hlhb0_1 (by omega))
 have := c8_1.size
 replace eB := Ext.then eB c8_1 (ge_of hfhb0_1 (by omega))
 try simp -implicitDefEqProofs (disch := first | decide | assumption | omega) only [go_sem, BoxAt.dgL hb0_1, BoxAt.dgP hb0_1, BoxAt.dgS hb0_1, BoxAt.dgDeg hb0_1, BoxAt.dgLev hb0_1, BoxAt.dgDeg0 hb0_1, BoxAt.dgLev0 hb0_1, BoxAt.dgDifL hb0_1, BoxAt.dgTabL hb0_1, BoxAt.dgTabL0 hb0_1, BoxAt.dgTabL1 hb0_1, BoxAt.dgTabL1' hb0_1, BoxAt.dgDifB hb0_1, BoxAt.dgTabB hb0_1, BoxAt.dgLL hb0_1, BoxAt.dgDegL hb0_1, BoxAt.dgLevL hb0_1, BoxAt.dgDifA hb0_1, BoxAt.dgTabA hb0_1, wrap_id, cv_u8, cv_i64, Nat.zero_add, wrap_u8, eq_el, ne_el, build_el, Int.toNat_zero]
 refine hK _ _ ?_
 clear hK K
 refine den_ret ?_
 simp -implicitDefEqProofs (disch := first | decide | assumption | omega) only [go_sem, BoxAt.dgL hb0_1, BoxAt.dgP hb0_1, BoxAt.dgS hb0_1, BoxAt.dgDeg hb0_1, BoxAt.dgLev hb0_1, BoxAt.dgDeg0 hb0_1, BoxAt.dgLev0 hb0_1, BoxAt.dgDifL hb0_1, BoxAt.dgTabL hb0_1, BoxAt.dgTabL0 hb0_1, BoxAt.dgTabL1 hb0_1, BoxAt.dgTabL1' hb0_1, BoxAt.dgDifB hb0_1, BoxAt.dgTabB hb0_1, BoxAt.dgLL hb0_1, BoxAt.dgDegL hb0_1, BoxAt.dgLevL hb0_1, BoxAt.dgDifA hb0_1, BoxAt.dgTabA hb0_1, wrap_id, cv_u8, cv_i64, Nat.zero_add, wrap_u8, eq_el, ne_el, build_el, Int.toNat_zero, resP_c1, ld34]
 first | exact eB | exact ⟨by first | rfl | trivial, eB⟩
end Go.Proofs.Ytacajcjibhifmaa

namespace Go.Proofs.Ytacajcjibhifmaa
open Go
theorem cnt_fc {X : Dg} (hf : IsFm X) : 0 ≤ cnt1 (fcP X).c.dims ∧ cnt1 (fcP X).c.dims ≤ 6 ∧ 0 ≤ cntL cnt2 (fcP X).c.maps ∧ cntL cnt2 (fcP X).c.maps ≤ 384 ∧ 0 ≤ cntL cnt1 (fcP X).lv ∧ cntL cnt1 (fcP X).lv ≤ 48 := by
 have hs := hf.s
 have htop := (hf.row (X.s - 1).toNat (by omega)).deg
 have hT : fcT X ≤ 6 := by unfold fcT; omega
 have h1 := cntL_bnd (ct := cnt2) (c := 64) (by omega) (xs := fcM X (fcT X - 1)) (m := 6) (fun x hx => by
  obtain ⟨m, _, rfl⟩ := List.mem_map.1 hx
  have := cntL_bnd (ct := cnt1) (c := 8) (by omega) (xs := fcR X ((m : Int) + 1)) (m := 8) (fun y hy => by
   obtain ⟨z, _, rfl⟩ := List.mem_map.1 hy
   have := mbP_len hs ((m : Int) + 1 - 1)
   rw [cnt1, vcP, List.length_map]; omega) (by rw [fcR, List.length_map]; exact mbP_len hs _)
  have e : cntL cnt1 (fcR X ((m : Int) + 1)) = cnt2 (fcR X ((m : Int) + 1)) := rfl
  exact ⟨by omega, by omega⟩) (by rw [fcM_len]; omega)
 have h2 := cntL_bnd (ct := cnt1) (c := 8) (by omega) (xs := fcL X (fcT X)) (m := 6) (fun x hx => by
  obtain ⟨m, _, rfl⟩ := List.mem_map.1 hx
  have := mbP_len hs (m : Int)
  rw [cnt1, fcV, List.length_map]; omega) (by rw [fcL_len]; omega)
 refine ⟨cnt1_nn _, ?_, h1.1, by have := h1.2; show cntL cnt2 (fcM X (fcT X - 1)) ≤ 384; omega, h2.1, by have := h2.2; show cntL cnt1 (fcL X (fcT X)) ≤ 48; omega⟩
 show cnt1 (fcD X (fcT X)) ≤ 6
 rw [cnt1, fcD_len]; omega
theorem cnt_foR (X : Dg) : 0 ≤ cnt1 (foR X).1.c.dims ∧ cnt1 (foR X).1.c.dims ≤ 6 ∧ 0 ≤ cntL cnt2 (foR X).1.c.maps ∧ cntL cnt2 (foR X).1.c.maps ≤ 384 ∧ 0 ≤ cntL cnt1 (foR X).1.lv ∧ cntL cnt1 (foR X).1.lv ≤ 48 := by
 by_cases h : dgB X = true
 ·rw [foR_y h]; exact cnt_fc (dgB_t.1 h).fm
 ·rw [foR_n h]
  exact ⟨cnt1_nn _, by show cnt1 [] ≤ 6; decide, Int.le_refl _, by show (0 : Int) ≤ _; decide, Int.le_refl _, by show (0 : Int) ≤ _; decide⟩
end Go.Proofs.Ytacajcjibhifmaa

namespace Go.Proofs.Ytacajcjibhifmaa
open Go
set_option maxRecDepth 100000 in
set_option maxHeartbeats 4000000 in
theorem exactFilteredOf_law (X : Dg) (h : Heap)  (hB : DgB X) : CallA Try.prog 5 #[.agg (dgA X)] h fun v' h' => v' = .bool (true) ∧ Ext h h' := by
 have hci := cnt_foR X
 refine callA_intro TTok (args := [_]) Try.func5 (by kernel_rfl) rfl 66 rfl (by simp) [.tmp 2] rfl ?_
 simp only [idxs, Nat.reduceAdd]
 refine den_seq ?_
 refine den_region TTok ?_
 intro K hK
 simp -implicitDefEqProofs (disch := first | decide | assumption | omega) only [go_sem, wrap_id, cv_u8, cv_i64, Nat.zero_add, wrap_u8, eq_el, ne_el, build_el, Int.toNat_zero]
 refine op_box (cs := dgA X) rfl ?_
 intro h0_0 e0_0 hb0_0 z0_0
 have := Ext.size e0_0
 have eB := e0_0
 have hfhb0_0 : Fresh h.size [h.size] := Fresh.one _
 have hlhb0_0 := one_lt (show h.size < h0_0.size by omega)
 try simp -implicitDefEqProofs (disch := first | decide | assumption | omega) only [go_sem, wrap_id, cv_u8, cv_i64, Nat.zero_add, wrap_u8, eq_el, ne_el, build_el, Int.toNat_zero]
 refine hK _ _ ?_
 clear hK K
 refine den_seq ?_
 refine den_region TTok ?_
 intro K hK
 simp -implicitDefEqProofs (disch := first | decide | assumption | omega) only [go_sem, BoxAt.dgL hb0_0, BoxAt.dgP hb0_0, BoxAt.dgS hb0_0, BoxAt.dgDeg hb0_0, BoxAt.dgLev hb0_0, BoxAt.dgDeg0 hb0_0, BoxAt.dgLev0 hb0_0, BoxAt.dgDifL hb0_0, BoxAt.dgTabL hb0_0, BoxAt.dgTabL0 hb0_0, BoxAt.dgTabL1 hb0_0, BoxAt.dgTabL1' hb0_0, BoxAt.dgDifB hb0_0, BoxAt.dgTabB hb0_0, BoxAt.dgLL hb0_0, BoxAt.dgDegL hb0_0, BoxAt.dgLevL hb0_0, BoxAt.dgDifA hb0_0, BoxAt.dgTabA hb0_0, wrap_id, cv_u8, cv_i64, Nat.zero_add, wrap_u8, eq_el, ne_el, build_el, Int.toNat_zero]
 try simp -implicitDefEqProofs (disch := first | decide | assumption | omega) only [go_sem, wrap_id, cv_u8, cv_i64, Nat.zero_add, wrap_u8, eq_el, ne_el, build_el, Int.toNat_zero]
 refine CallA.mono (toDg_ok  X _  ) ?_
 intro v_ h1_1
 rintro ⟨rfl, e1_1⟩
 replace hb0_0 := BoxAt.ext hb0_0 e1_1
 have := Ext.size e1_1
 replace eB := Ext.trans eB e1_1
 try simp -implicitDefEqProofs (disch := first | decide | assumption | omega) only [go_sem, wrap_id, cv_u8, cv_i64, Nat.zero_add, wrap_u8, eq_el, ne_el, build_el, Int.toNat_zero]
 try simp -implicitDefEqProofs (disch := first | decide | assumption | omega) only [go_sem, wrap_id, cv_u8, cv_i64, Nat.zero_add, wrap_u8, eq_el, ne_el, build_el, Int.toNat_zero]
 refine CallA.mono (sFO_ok  X _  hB) ?_
 intro v_ h1_2
 rintro ⟨vd1_2_0, vm1_2_0, vv1_2_0, fd1_2_0, fm1_2_0, fv1_2_0, rfl, hod1_2_0, hom1_2_0, hov1_2_0, hf1_2_0, e1_2⟩
 replace hb0_0 := BoxAt.ext hb0_0 e1_2
 have := Ext.size e1_2
 replace eB := Ext.trans eB e1_2
 have hfd1_2_0 := hf1_2_0.left
 have hf1_2_0r0 := hf1_2_0.right
 have hfm1_2_0 := hf1_2_0r0.left
 have hfv1_2_0 := hf1_2_0r0.right
 have hlhod1_2_0 := OS.lt hod1_2_0
 have hlhom1_2_0 := OS.lt hom1_2_0
 have hlhov1_2_0 := OS.lt hov1_2_0
 have ap1 : Apart fd1_2_0 fm1_2_0 := Apart.lft (apart_nodup hf1_2_0)
 have ap2 : Apart fd1_2_0 fv1_2_0 := Apart.rgt (apart_nodup hf1_2_0)
 have ap3 : Apart fm1_2_0 fv1_2_0 := apart_nodup hf1_2_0r0
 try simp -implicitDefEqProofs (disch := first | decide | assumption | omega) only [go_sem, wrap_id, cv_u8, cv_i64, Nat.zero_add, wrap_u8, eq_el, ne_el, build_el, Int.toNat_zero]
 refine op_alloc (cs := #[.int .i64 0, .slice none 0 0, .slice none 0 0, .slice none 0 0]) (by kernel_rfl) ?_
 intro h1_6 e1_6 hb1_6 z1_6
 replace hod1_2_0 := OS.ext hod1_2_0 e1_6
 replace hom1_2_0 := OS.ext hom1_2_0 e1_6
 replace hov1_2_0 := OS.ext hov1_2_0 e1_6
 replace hb0_0 := BoxAt.ext hb0_0 e1_6
 have := Ext.size e1_6
 replace eB := Ext.trans eB e1_6
 have hfhb1_6 : Fresh h1_2.size [h1_2.size] := Fresh.one _
 have hlhb1_6 := one_lt (show h1_2.size < h1_6.size by omega)
 try simp -implicitDefEqProofs (disch := first | decide | assumption | omega) only [go_sem, wrap_id, cv_u8, cv_i64, Nat.zero_add, wrap_u8, eq_el, ne_el, build_el, Int.toNat_zero]
 refine op_storeB (cs' := #[.int .i64 ((((foR X).1).c.p)), vd1_2_0, vm1_2_0, vv1_2_0]) st61 hb1_6 rfl rfl rfl (by simp) (allOne_mem (l := [.int .i64 ((((foR X).1).c.p)), vd1_2_0, vm1_2_0, vv1_2_0]) ⟨rfl, (OS.one hod1_2_0).1, (OS.one hom1_2_0).1, (OS.one hov1_2_0).1, trivial⟩) rfl ?_
 intro h1_7 hb1_6 c1_7
 replace hod1_2_0 := OS.chg hod1_2_0 c1_7 (apart_lt hlhod1_2_0 hfhb1_6 (by omega))
 replace hom1_2_0 := OS.chg hom1_2_0 c1_7 (apart_lt hlhom1_2_0 hfhb1_6 (by omega))
 replace hov1_2_0 := OS.chg hov1_2_0 c1_7 (apart_lt hlhov1_2_0 hfhb1_6 (by omega))
 replace hb0_0 := BoxAt.chgA hb0_0 c1_7 (apart_lt hlhb0_0 hfhb1_6 (by omega))
 have := c1_7.size
 replace eB := Ext.then eB c1_7 (ge_of hfhb1_6 (by omega))
 try simp -implicitDefEqProofs (disch := first | decide | assumption | omega) only [go_sem, wrap_id, cv_u8, cv_i64, Nat.zero_add, wrap_u8, eq_el, ne_el, build_el, Int.toNat_zero]
 refine hK _ _ ?_
 clear hK K
 refine den_seq ?_
 refine den_region TTok ?_
 intro K hK
 simp -implicitDefEqProofs (disch := first | decide | assumption | omega) only [go_sem, BoxAt.dgL hb0_0, BoxAt.dgP hb0_0, BoxAt.dgS hb0_0, BoxAt.dgDeg hb0_0, BoxAt.dgLev hb0_0, BoxAt.dgDeg0 hb0_0, BoxAt.dgLev0 hb0_0, BoxAt.dgDifL hb0_0, BoxAt.dgTabL hb0_0, BoxAt.dgTabL0 hb0_0, BoxAt.dgTabL1 hb0_0, BoxAt.dgTabL1' hb0_0, BoxAt.dgDifB hb0_0, BoxAt.dgTabB hb0_0, BoxAt.dgLL hb0_0, BoxAt.dgDegL hb0_0, BoxAt.dgLevL hb0_0, BoxAt.dgDifA hb0_0, BoxAt.dgTabA hb0_0, wrap_id, cv_u8, cv_i64, Nat.zero_add, wrap_u8, eq_el, ne_el, build_el, Int.toNat_zero]
 try simp -implicitDefEqProofs (disch := first | decide | assumption | omega) only [go_sem, wrap_id, cv_u8, cv_i64, Nat.zero_add, wrap_u8, eq_el, ne_el, build_el, Int.toNat_zero]
 refine CallA.mono (toDg_ok  X _  ) ?_
 intro v_ h2_1
 rintro ⟨rfl, e2_1⟩
 replace hod1_2_0 := OS.ext hod1_2_0 e2_1
 replace hom1_2_0 := OS.ext hom1_2_0 e2_1
 replace hov1_2_0 := OS.ext hov1_2_0 e2_1
 replace hb0_0 := BoxAt.ext hb0_0 e2_1
 replace hb1_6 := BoxAt.ext hb1_6 e2_1
 have := Ext.size e2_1
 replace eB := Ext.trans eB e2_1
 try simp -implicitDefEqProofs (disch := first | decide | assumption | omega) only [go_sem, wrap_id, cv_u8, cv_i64, Nat.zero_add, wrap_u8, eq_el, ne_el, build_el, Int.toNat_zero]
 try simp -implicitDefEqProofs (disch := first | decide | assumption | omega) only [go_sem, wrap_id, cv_u8, cv_i64, Nat.zero_add, wrap_u8, eq_el, ne_el, build_el, Int.toNat_zero]
 refine CallA.mono (iFO_ok  X _  hB) ?_
 intro v_ h2_2
 rintro ⟨vd2_2_0, vm2_2_0, vv2_2_0, fd2_2_0, fm2_2_0, fv2_2_0, rfl, hod2_2_0, hom2_2_0, hov2_2_0, hf2_2_0, e2_2⟩
 replace hod1_2_0 := OS.ext hod1_2_0 e2_2
 replace hom1_2_0 := OS.ext hom1_2_0 e2_2
 replace hov1_2_0 := OS.ext hov1_2_0 e2_2
 replace hb0_0 := BoxAt.ext hb0_0 e2_2
 replace hb1_6 := BoxAt.ext hb1_6 e2_2
 have := Ext.size e2_2
 replace eB := Ext.trans eB e2_2
 have hfd2_2_0 := hf2_2_0.left
 have hf2_2_0r0 := hf2_2_0.right
 have hfm2_2_0 := hf2_2_0r0.left
 have hfv2_2_0 := hf2_2_0r0.right
 have hlhod2_2_0 := OS.lt hod2_2_0
 have hlhom2_2_0 := OS.lt hom2_2_0
 have hlhov2_2_0 := OS.lt hov2_2_0
 have ap4 : Apart fd2_2_0 fm2_2_0 := Apart.lft (apart_nodup hf2_2_0)
 have ap5 : Apart fd2_2_0 fv2_2_0 := Apart.rgt (apart_nodup hf2_2_0)
 have ap6 : Apart fm2_2_0 fv2_2_0 := apart_nodup hf2_2_0r0
 try simp -implicitDefEqProofs (disch := first | decide | assumption | omega) only [go_sem, wrap_id, cv_u8, cv_i64, Nat.zero_add, wrap_u8, eq_el, ne_el, build_el, Int.toNat_zero]
 refine op_alloc (cs := #[.int .i64 0, .slice none 0 0, .slice none 0 0, .slice none 0 0]) (by kernel_rfl) ?_
 intro h2_6 e2_6 hb2_6 z2_6
 replace hod1_2_0 := OS.ext hod1_2_0 e2_6
 replace hom1_2_0 := OS.ext hom1_2_0 e2_6
 replace hov1_2_0 := OS.ext hov1_2_0 e2_6
 replace hod2_2_0 := OS.ext hod2_2_0 e2_6
 replace hom2_2_0 := OS.ext hom2_2_0 e2_6
 replace hov2_2_0 := OS.ext hov2_2_0 e2_6
 replace hb0_0 := BoxAt.ext hb0_0 e2_6
 replace hb1_6 := BoxAt.ext hb1_6 e2_6
 have := Ext.size e2_6
 replace eB := Ext.trans eB e2_6
 have hfhb2_6 : Fresh h2_2.size [h2_2.size] := Fresh.one _
 have hlhb2_6 := one_lt (show h2_2.size < h2_6.size by omega)
 try simp -implicitDefEqProofs (disch := first | decide | assumption | omega) only [go_sem, wrap_id, cv_u8, cv_i64, Nat.zero_add, wrap_u8, eq_el, ne_el, build_el, Int.toNat_zero]
 refine op_storeB (cs' := #[.int .i64 ((((foR X).1).c.p)), vd2_2_0, vm2_2_0, vv2_2_0]) st61 hb2_6 rfl rfl rfl (by simp) (allOne_mem (l := [.int .i64 ((((foR X).1).c.p)), vd2_2_0, vm2_2_0, vv2_2_0]) ⟨rfl, (OS.one hod2_2_0).1, (OS.one hom2_2_0).1, (OS.one hov2_2_0).1, trivial⟩) rfl ?_
 intro h2_7 hb2_6 c2_7
 replace hod1_2_0 := OS.chg hod1_2_0 c2_7 (apart_lt hlhod1_2_0 hfhb2_6 (by omega))
 replace hom1_2_0 := OS.chg hom1_2_0 c2_7 (apart_lt hlhom1_2_0 hfhb2_6 (by omega))
 replace hov1_2_0 := OS.chg hov1_2_0 c2_7 (apart_lt hlhov1_2_0 hfhb2_6 (by omega))
 replace hod2_2_0 := OS.chg hod2_2_0 c2_7 (apart_lt hlhod2_2_0 hfhb2_6 (by omega))
 replace hom2_2_0 := OS.chg hom2_2_0 c2_7 (apart_lt hlhom2_2_0 hfhb2_6 (by omega))
 replace hov2_2_0 := OS.chg hov2_2_0 c2_7 (apart_lt hlhov2_2_0 hfhb2_6 (by omega))
 replace hb0_0 := BoxAt.chgA hb0_0 c2_7 (apart_lt hlhb0_0 hfhb2_6 (by omega))
 replace hb1_6 := BoxAt.chgA hb1_6 c2_7 (apart_lt hlhb1_6 hfhb2_6 (by omega))
 have := c2_7.size
 replace eB := Ext.then eB c2_7 (ge_of hfhb2_6 (by omega))
 try simp -implicitDefEqProofs (disch := first | decide | assumption | omega) only [go_sem, wrap_id, cv_u8, cv_i64, Nat.zero_add, wrap_u8, eq_el, ne_el, build_el, Int.toNat_zero]
 refine hK _ _ ?_
 clear hK K
 refine den_seq ?_
 refine den_seq ?_
 refine den_merge [(31, .bool (((!(true)) || (((foR X).2) != ((foR X).2)))))] [1, 3, 4, 5] (fun H => Ext h2_7 H) ?_ ?_
  -- a way
 ·refine den_region TTok ?_
  intro K hK
  simp -implicitDefEqProofs (disch := first | decide | assumption | (simp (disch := decide) only [slotOf_zero, slotOf_succ, Option.map_some, puts_same, puts_ne, gv_bool, gv_undef, tt, tf, ft, ff, eq_self, if_true, if_false, Bool.false_eq_true, Bool.not_true, Bool.not_false]; done) | omega) only [go_sem, ld61, BoxAt.cell hb1_6, BoxAt.cell hb2_6, wrap_id, cv_u8, cv_i64, Nat.zero_add, wrap_u8, eq_el, ne_el, build_el, Int.toNat_zero]
  try simp -implicitDefEqProofs (disch := first | decide | assumption | omega) only [go_sem, wrap_id, cv_u8, cv_i64, Nat.zero_add, wrap_u8, eq_el, ne_el, build_el, Int.toNat_zero]
  refine CallA.mono (eqF_same _ _ ((foR X).1) _ ⟨_, _, _, rfl, (OS.rd hod2_2_0), (OS.rd hom2_2_0), (OS.rd hov2_2_0)⟩ ⟨_, _, _, rfl, (OS.rd hod1_2_0), (OS.rd hom1_2_0), (OS.rd hov1_2_0)⟩) ?_
  intro v_ h3_2
  rintro ⟨rfl, e3_2⟩
  replace hod1_2_0 := OS.ext hod1_2_0 e3_2
  replace hom1_2_0 := OS.ext hom1_2_0 e3_2
  replace hov1_2_0 := OS.ext hov1_2_0 e3_2
  replace hod2_2_0 := OS.ext hod2_2_0 e3_2
  replace hom2_2_0 := OS.ext hom2_2_0 e3_2
  replace hov2_2_0 := OS.ext hov2_2_0 e3_2
  replace hb0_0 := BoxAt.ext hb0_0 e3_2
  replace hb1_6 := BoxAt.ext hb1_6 e3_2
  replace hb2_6 := BoxAt.ext hb2_6 e3_2
  have := Ext.size e3_2
  replace eB := Ext.trans eB e3_2
  try simp -implicitDefEqProofs (disch := first | decide | assumption | (simp (disch := decide) only [slotOf_zero, slotOf_succ, Option.map_some, puts_same, puts_ne, gv_bool, gv_undef, tt, tf, ft, ff, eq_self, if_true, if_false, Bool.false_eq_true, Bool.not_true, Bool.not_false]; done) | omega) only [go_sem, wrap_id, cv_u8, cv_i64, Nat.zero_add, wrap_u8, eq_el, ne_el, build_el, Int.toNat_zero]
  try simp -implicitDefEqProofs (disch := first | decide | assumption | (simp (disch := decide) only [slotOf_zero, slotOf_succ, Option.map_some, puts_same, puts_ne, gv_bool, gv_undef, tt, tf, ft, ff, eq_self, if_true, if_false, Bool.false_eq_true, Bool.not_true, Bool.not_false]; done) | omega) only [go_sem, wrap_id, cv_u8, cv_i64, Nat.zero_add, wrap_u8, eq_el, ne_el, build_el, Int.toNat_zero]
  refine hK _ _ ?_
  clear hK K
  refine den_stop ?_
  refine ⟨?_, e3_2⟩
  first | (simp (disch := decide) only [go_sem, eq_self, Bool.true_and, Bool.and_true, Bool.false_and, Bool.and_false, Bool.true_or, Bool.or_true, Bool.false_or, Bool.or_false, if_true, if_false, Bool.false_eq_true]; done) | simp [HasL, sel, puts_at]
 intro en7 h8 e9
 replace hod1_2_0 := OS.ext hod1_2_0 e9
 replace hom1_2_0 := OS.ext hom1_2_0 e9
 replace hov1_2_0 := OS.ext hov1_2_0 e9
 replace hod2_2_0 := OS.ext hod2_2_0 e9
 replace hom2_2_0 := OS.ext hom2_2_0 e9
 replace hov2_2_0 := OS.ext hov2_2_0 e9
 replace hb0_0 := BoxAt.ext hb0_0 e9
 replace hb1_6 := BoxAt.ext hb1_6 e9
 replace hb2_6 := BoxAt.ext hb2_6 e9
 have := Ext.size e9
 replace eB := Ext.trans eB e9
 simp (disch := decide) only [go_sem]
 refine den_cond rfl (fun c0 => ?_) (fun c0 => ?_)
 ·try simp only [decide_eq_true_eq, decide_eq_false_iff_not, beq_iff_eq, beq_eq_false_iff_ne, bne_iff_ne, ne_eq, Bool.not_eq_true', Bool.not_eq_false', Bool.and_eq_true, Bool.or_eq_true, bne_eq_false_iff_eq] at c0
  refine den_seq ?_
  refine den_region TTok ?_
  intro K hK
  simp -implicitDefEqProofs (disch := first | decide | assumption | omega) only [go_sem, wrap_id, cv_u8, cv_i64, Nat.zero_add, wrap_u8, eq_el, ne_el, build_el, Int.toNat_zero]
  refine hK _ _ ?_
  clear hK K
  refine den_ret ?_
  simp (disch := decide) only [resP_1, puts_same, puts_ne]
  exact absurd c0 (by first | (simp; done) | (simp; omega) | omega | (simp [eqC_self]; done))
 ·try simp only [decide_eq_true_eq, decide_eq_false_iff_not, beq_iff_eq, beq_eq_false_iff_ne, bne_iff_ne, ne_eq, Bool.not_eq_true', Bool.not_eq_false', Bool.and_eq_true, Bool.or_eq_true, bne_eq_false_iff_eq] at c0
  refine den_skip ?_
  refine den_seq ?_
  refine den_region TTok ?_
  intro K hK
  simp -implicitDefEqProofs (disch := first | decide | assumption | omega) only [go_sem, wrap_id, cv_u8, cv_i64, Nat.zero_add, wrap_u8, eq_el, ne_el, build_el, Int.toNat_zero]
  refine hK _ _ ?_
  clear hK K
  refine den_seq ?_
  refine den_region TTok ?_
  intro K hK
  simp -implicitDefEqProofs (disch := first | decide | assumption | omega) only [go_sem, ld61, BoxAt.cell hb2_6, wrap_id, cv_u8, cv_i64, Nat.zero_add, wrap_u8, eq_el, ne_el, build_el, Int.toNat_zero]
  try simp -implicitDefEqProofs (disch := first | decide | assumption | omega) only [go_sem, wrap_id, cv_u8, cv_i64, Nat.zero_add, wrap_u8, eq_el, ne_el, build_el, Int.toNat_zero]
  refine CallA.mono (markF_ok _ _ _ ((foR X).1) (1 : Int) _ _ _ _ hod2_2_0 hom2_2_0 hov2_2_0 (Fresh.two (lo := 0) hfd2_2_0 (Fresh.two (lo := 0) hfm2_2_0 hfv2_2_0 ap6 (Nat.zero_le _) (Nat.zero_le _)) (Apart.app ap4 ap5) (Nat.zero_le _) (Nat.zero_le _)).nodup (by omega)) ?_
  intro v_ h6_2
  rintro ⟨rfl, hogd6_2, hogm6_2, hogv6_2, cg6_2⟩
  replace hod1_2_0 := OS.chg hod1_2_0 cg6_2 (Apart.app (apart_lt hlhod1_2_0 hfd2_2_0 (by omega)) (Apart.app (apart_lt hlhod1_2_0 hfm2_2_0 (by omega)) (apart_lt hlhod1_2_0 hfv2_2_0 (by omega))))
  replace hom1_2_0 := OS.chg hom1_2_0 cg6_2 (Apart.app (apart_lt hlhom1_2_0 hfd2_2_0 (by omega)) (Apart.app (apart_lt hlhom1_2_0 hfm2_2_0 (by omega)) (apart_lt hlhom1_2_0 hfv2_2_0 (by omega))))
  replace hov1_2_0 := OS.chg hov1_2_0 cg6_2 (Apart.app (apart_lt hlhov1_2_0 hfd2_2_0 (by omega)) (Apart.app (apart_lt hlhov1_2_0 hfm2_2_0 (by omega)) (apart_lt hlhov1_2_0 hfv2_2_0 (by omega))))
  replace hb0_0 := BoxAt.chgA hb0_0 cg6_2 (Apart.app (apart_lt hlhb0_0 hfd2_2_0 (by omega)) (Apart.app (apart_lt hlhb0_0 hfm2_2_0 (by omega)) (apart_lt hlhb0_0 hfv2_2_0 (by omega))))
  replace hb1_6 := BoxAt.chgA hb1_6 cg6_2 (Apart.app (apart_lt hlhb1_6 hfd2_2_0 (by omega)) (Apart.app (apart_lt hlhb1_6 hfm2_2_0 (by omega)) (apart_lt hlhb1_6 hfv2_2_0 (by omega))))
  replace hb2_6 := BoxAt.chgA hb2_6 cg6_2 (Apart.app (apart_gt hfhb2_6 hlhod2_2_0 (by omega)) (Apart.app (apart_gt hfhb2_6 hlhom2_2_0 (by omega)) (apart_gt hfhb2_6 hlhov2_2_0 (by omega))))
  have := cg6_2.size
  replace eB := Ext.then eB cg6_2 (ge_app (ge_of hfd2_2_0 (by omega)) (ge_app (ge_of hfm2_2_0 (by omega)) (ge_of hfv2_2_0 (by omega))))
  have ap10 : Apart fm2_2_0 fd2_2_0 := (Apart.symm ap4)
  have ap11 : Apart fv2_2_0 fd2_2_0 := (Apart.symm ap5)
  have hlhogd6_2 := hlhod2_2_0
  have ap12 : Apart fv2_2_0 fm2_2_0 := (Apart.symm ap6)
  have ap13 : Apart fd2_2_0 fm2_2_0 := (Apart.symm ap10)
  have hlhogm6_2 := hlhom2_2_0
  have ap14 : Apart fd2_2_0 fv2_2_0 := (Apart.symm ap11)
  have ap15 : Apart fm2_2_0 fv2_2_0 := (Apart.symm ap12)
  have hlhogv6_2 := hlhov2_2_0
  try simp -implicitDefEqProofs (disch := first | decide | assumption | omega) only [go_sem, wrap_id, cv_u8, cv_i64, Nat.zero_add, wrap_u8, eq_el, ne_el, build_el, Int.toNat_zero]
  refine hK _ _ ?_
  clear hK K
  refine den_seq ?_
  refine den_region TTok ?_
  intro K hK
  simp -implicitDefEqProofs (disch := first | decide | assumption | omega) only [go_sem, wrap_id, cv_u8, cv_i64, Nat.zero_add, wrap_u8, eq_el, ne_el, build_el, Int.toNat_zero]
  refine hK _ _ ?_
  clear hK K
  refine den_seq ?_
  refine den_region TTok ?_
  intro K hK
  simp -implicitDefEqProofs (disch := first | decide | assumption | omega) only [go_sem, ld61, BoxAt.cell hb2_6, wrap_id, cv_u8, cv_i64, Nat.zero_add, wrap_u8, eq_el, ne_el, build_el, Int.toNat_zero]
  try simp -implicitDefEqProofs (disch := first | decide | assumption | omega) only [go_sem, wrap_id, cv_u8, cv_i64, Nat.zero_add, wrap_u8, eq_el, ne_el, build_el, Int.toNat_zero]
  refine CallA.mono (heldF_ok _ _ _ ((foR X).1) (1 : Int) _ (OS.rd hogd6_2) (OS.rd hogm6_2) (OS.rd hogv6_2) (by omega)) ?_
  intro v_ h8_2
  rintro ⟨rfl, e8_2⟩
  replace hod1_2_0 := OS.ext hod1_2_0 e8_2
  replace hom1_2_0 := OS.ext hom1_2_0 e8_2
  replace hov1_2_0 := OS.ext hov1_2_0 e8_2
  replace hogd6_2 := OS.ext hogd6_2 e8_2
  replace hogm6_2 := OS.ext hogm6_2 e8_2
  replace hogv6_2 := OS.ext hogv6_2 e8_2
  replace hb0_0 := BoxAt.ext hb0_0 e8_2
  replace hb1_6 := BoxAt.ext hb1_6 e8_2
  replace hb2_6 := BoxAt.ext hb2_6 e8_2
  have := Ext.size e8_2
  replace eB := Ext.trans eB e8_2
  try simp -implicitDefEqProofs (disch := first | decide | assumption | omega) only [go_sem, wrap_id, cv_u8, cv_i64, Nat.zero_add, wrap_u8, eq_el, ne_el, build_el, Int.toNat_zero]
  refine hK _ _ ?_
  clear hK K
  refine den_seq ?_
  refine den_seq ?_
  refine den_region TTok ?_
  intro K hK
  simp -implicitDefEqProofs (disch := first | decide | assumption | omega) only [go_sem, wrap_id, cv_u8, cv_i64, Nat.zero_add, wrap_u8, eq_el, ne_el, build_el, Int.toNat_zero]
  refine hK _ _ ?_
  clear hK K
  refine den_cond rfl (fun c1 => ?_) (fun c1 => ?_)
  ·try simp only [decide_eq_true_eq, decide_eq_false_iff_not, beq_iff_eq, beq_eq_false_iff_ne, bne_iff_ne, ne_eq, Bool.not_eq_true', Bool.not_eq_false', Bool.and_eq_true, Bool.or_eq_true, bne_eq_false_iff_eq] at c1
   refine den_seq ?_
   refine den_region TTok ?_
   intro K hK
   simp -implicitDefEqProofs (disch := first | decide | assumption | omega) only [go_sem, wrap_id, cv_u8, cv_i64, Nat.zero_add, wrap_u8, eq_el, ne_el, build_el, Int.toNat_zero]
   refine hK _ _ ?_
   clear hK K
   refine den_ret ?_
   simp (disch := decide) only [resP_1, puts_same, puts_ne]
   exact absurd c1 (by first | (simp; done) | (simp; omega) | omega | (simp [eqC_self]; done))
  ·try simp only [decide_eq_true_eq, decide_eq_false_iff_not, beq_iff_eq, beq_eq_false_iff_ne, bne_iff_ne, ne_eq, Bool.not_eq_true', Bool.not_eq_false', Bool.and_eq_true, Bool.or_eq_true, bne_eq_false_iff_eq] at c1
   refine den_skip ?_
   refine den_seq ?_
   refine den_seq ?_
   refine den_region TTok ?_
   intro K hK
   simp -implicitDefEqProofs (disch := first | decide | assumption | omega) only [go_sem, wrap_id, cv_u8, cv_i64, Nat.zero_add, wrap_u8, eq_el, ne_el, build_el, Int.toNat_zero]
   refine hK _ _ ?_
   clear hK K
   refine den_cond rfl (fun c2 => ?_) (fun c2 => ?_)
   ·try simp only [decide_eq_true_eq, decide_eq_false_iff_not, beq_iff_eq, beq_eq_false_iff_ne, bne_iff_ne, ne_eq, Bool.not_eq_true', Bool.not_eq_false', Bool.and_eq_true, Bool.or_eq_true, bne_eq_false_iff_eq] at c2
    refine den_seq ?_
    refine den_region TTok ?_
    intro K hK
    simp -implicitDefEqProofs (disch := first | decide | assumption | omega) only [go_sem, wrap_id, cv_u8, cv_i64, Nat.zero_add, wrap_u8, eq_el, ne_el, build_el, Int.toNat_zero]
    refine hK _ _ ?_
    clear hK K
    refine den_ret ?_
    simp (disch := decide) only [resP_1, puts_same, puts_ne]
    exact absurd c2 (by first | (simp; done) | (simp; omega) | omega | (simp [eqC_self]; done))
   ·try simp only [decide_eq_true_eq, decide_eq_false_iff_not, beq_iff_eq, beq_eq_false_iff_ne, bne_iff_ne, ne_eq, Bool.not_eq_true', Bool.not_eq_false', Bool.and_eq_true, Bool.or_eq_true, bne_eq_false_iff_eq] at c2
    refine den_skip ?_
    refine den_seq ?_
    refine den_region TTok ?_
    intro K hK
    simp -implicitDefEqProofs (disch := first | decide | assumption | omega) only [go_sem, BoxAt.dgL hb0_0, BoxAt.dgP hb0_0, BoxAt.dgS hb0_0, BoxAt.dgDeg hb0_0, BoxAt.dgLev hb0_0, BoxAt.dgDeg0 hb0_0, BoxAt.dgLev0 hb0_0, BoxAt.dgDifL hb0_0, BoxAt.dgTabL hb0_0, BoxAt.dgTabL0 hb0_0, BoxAt.dgTabL1 hb0_0, BoxAt.dgTabL1' hb0_0, BoxAt.dgDifB hb0_0, BoxAt.dgTabB hb0_0, BoxAt.dgLL hb0_0, BoxAt.dgDegL hb0_0, BoxAt.dgLevL hb0_0, BoxAt.dgDifA hb0_0, BoxAt.dgTabA hb0_0, wrap_id, cv_u8, cv_i64, Nat.zero_add, wrap_u8, eq_el, ne_el, build_el, Int.toNat_zero]
    try simp -implicitDefEqProofs (disch := first | decide | assumption | omega) only [go_sem, wrap_id, cv_u8, cv_i64, Nat.zero_add, wrap_u8, eq_el, ne_el, build_el, Int.toNat_zero]
    refine CallA.mono (toDg_ok  X _  ) ?_
    intro v_ h13_1
    rintro ⟨rfl, e13_1⟩
    replace hod1_2_0 := OS.ext hod1_2_0 e13_1
    replace hom1_2_0 := OS.ext hom1_2_0 e13_1
    replace hov1_2_0 := OS.ext hov1_2_0 e13_1
    replace hogd6_2 := OS.ext hogd6_2 e13_1
    replace hogm6_2 := OS.ext hogm6_2 e13_1
    replace hogv6_2 := OS.ext hogv6_2 e13_1
    replace hb0_0 := BoxAt.ext hb0_0 e13_1
    replace hb1_6 := BoxAt.ext hb1_6 e13_1
    replace hb2_6 := BoxAt.ext hb2_6 e13_1
    have := Ext.size e13_1
    replace eB := Ext.trans eB e13_1
    try simp -implicitDefEqProofs (disch := first | decide | assumption | omega) only [go_sem, wrap_id, cv_u8, cv_i64, Nat.zero_add, wrap_u8, eq_el, ne_el, build_el, Int.toNat_zero]
    try simp -implicitDefEqProofs (disch := first | decide | assumption | omega) only [go_sem, wrap_id, cv_u8, cv_i64, Nat.zero_add, wrap_u8, eq_el, ne_el, build_el, Int.toNat_zero]
    refine CallA.mono (iFO_ok  X _  hB) ?_
    intro v_ h13_2
    rintro ⟨vd13_2_0, vm13_2_0, vv13_2_0, fd13_2_0, fm13_2_0, fv13_2_0, rfl, hod13_2_0, hom13_2_0, hov13_2_0, hf13_2_0, e13_2⟩
    replace hod1_2_0 := OS.ext hod1_2_0 e13_2
    replace hom1_2_0 := OS.ext hom1_2_0 e13_2
    replace hov1_2_0 := OS.ext hov1_2_0 e13_2
    replace hogd6_2 := OS.ext hogd6_2 e13_2
    replace hogm6_2 := OS.ext hogm6_2 e13_2
    replace hogv6_2 := OS.ext hogv6_2 e13_2
    replace hb0_0 := BoxAt.ext hb0_0 e13_2
    replace hb1_6 := BoxAt.ext hb1_6 e13_2
    replace hb2_6 := BoxAt.ext hb2_6 e13_2
    have := Ext.size e13_2
    replace eB := Ext.trans eB e13_2
    have hfd13_2_0 := hf13_2_0.left
    have hf13_2_0r0 := hf13_2_0.right
    have hfm13_2_0 := hf13_2_0r0.left
    have hfv13_2_0 := hf13_2_0r0.right
    have hlhod13_2_0 := OS.lt hod13_2_0
    have hlhom13_2_0 := OS.lt hom13_2_0
    have hlhov13_2_0 := OS.lt hov13_2_0
    have ap16 : Apart fd13_2_0 fm13_2_0 := Apart.lft (apart_nodup hf13_2_0)
    have ap17 : Apart fd13_2_0 fv13_2_0 := Apart.rgt (apart_nodup hf13_2_0)
    have ap18 : Apart fm13_2_0 fv13_2_0 := apart_nodup hf13_2_0r0
    try simp -implicitDefEqProofs (disch := first | decide | assumption | omega) only [go_sem, wrap_id, cv_u8, cv_i64, Nat.zero_add, wrap_u8, eq_el, ne_el, build_el, Int.toNat_zero]
    refine op_alloc (cs := #[.int .i64 0, .slice none 0 0, .slice none 0 0, .slice none 0 0]) (by kernel_rfl) ?_
    intro h13_6 e13_6 hb13_6 z13_6
    replace hod1_2_0 := OS.ext hod1_2_0 e13_6
    replace hom1_2_0 := OS.ext hom1_2_0 e13_6
    replace hov1_2_0 := OS.ext hov1_2_0 e13_6
    replace hogd6_2 := OS.ext hogd6_2 e13_6
    replace hogm6_2 := OS.ext hogm6_2 e13_6
    replace hogv6_2 := OS.ext hogv6_2 e13_6
    replace hod13_2_0 := OS.ext hod13_2_0 e13_6
    replace hom13_2_0 := OS.ext hom13_2_0 e13_6
    replace hov13_2_0 := OS.ext hov13_2_0 e13_6
    replace hb0_0 := BoxAt.ext hb0_0 e13_6
    replace hb1_6 := BoxAt.ext hb1_6 e13_6
    replace hb2_6 := BoxAt.ext hb2_6 e13_6
    have := Ext.size e13_6
    replace eB := Ext.trans eB e13_6
    have hfhb13_6 : Fresh h13_2.size [h13_2.size] := Fresh.one _
    have hlhb13_6 := one_lt (show h13_2.size < h13_6.size by omega)
    try simp -implicitDefEqProofs (disch := first | decide | assumption | omega) only [go_sem, wrap_id, cv_u8, cv_i64, Nat.zero_add, wrap_u8, eq_el, ne_el, build_el, Int.toNat_zero]
    refine op_storeB (cs' := #[.int .i64 ((((foR X).1).c.p)), vd13_2_0, vm13_2_0, vv13_2_0]) st61 hb13_6 rfl rfl rfl (by simp) (allOne_mem (l := [.int .i64 ((((foR X).1).c.p)), vd13_2_0, vm13_2_0, vv13_2_0]) ⟨rfl, (OS.one hod13_2_0).1, (OS.one hom13_2_0).1, (OS.one hov13_2_0).1, trivial⟩) rfl ?_
    intro h13_7 hb13_6 c13_7
    replace hod1_2_0 := OS.chg hod1_2_0 c13_7 (apart_lt hlhod1_2_0 hfhb13_6 (by omega))
    replace hom1_2_0 := OS.chg hom1_2_0 c13_7 (apart_lt hlhom1_2_0 hfhb13_6 (by omega))
    replace hov1_2_0 := OS.chg hov1_2_0 c13_7 (apart_lt hlhov1_2_0 hfhb13_6 (by omega))
    replace hogd6_2 := OS.chg hogd6_2 c13_7 (apart_lt hlhogd6_2 hfhb13_6 (by omega))
    replace hogm6_2 := OS.chg hogm6_2 c13_7 (apart_lt hlhogm6_2 hfhb13_6 (by omega))
    replace hogv6_2 := OS.chg hogv6_2 c13_7 (apart_lt hlhogv6_2 hfhb13_6 (by omega))
    replace hod13_2_0 := OS.chg hod13_2_0 c13_7 (apart_lt hlhod13_2_0 hfhb13_6 (by omega))
    replace hom13_2_0 := OS.chg hom13_2_0 c13_7 (apart_lt hlhom13_2_0 hfhb13_6 (by omega))
    replace hov13_2_0 := OS.chg hov13_2_0 c13_7 (apart_lt hlhov13_2_0 hfhb13_6 (by omega))
    replace hb0_0 := BoxAt.chgA hb0_0 c13_7 (apart_lt hlhb0_0 hfhb13_6 (by omega))
    replace hb1_6 := BoxAt.chgA hb1_6 c13_7 (apart_lt hlhb1_6 hfhb13_6 (by omega))
    replace hb2_6 := BoxAt.chgA hb2_6 c13_7 (apart_lt hlhb2_6 hfhb13_6 (by omega))
    have := c13_7.size
    replace eB := Ext.then eB c13_7 (ge_of hfhb13_6 (by omega))
    try simp -implicitDefEqProofs (disch := first | decide | assumption | omega) only [go_sem, wrap_id, cv_u8, cv_i64, Nat.zero_add, wrap_u8, eq_el, ne_el, build_el, Int.toNat_zero]
    refine hK _ _ ?_
    clear hK K
    refine den_seq ?_
    refine den_seq ?_
    refine den_merge [(57, .bool (((!(true)) || (((foR X).2) != ((foR X).2)))))] [5, 7] (fun H => Ext h13_7 H) ?_ ?_
     -- a way
    ·refine den_region TTok ?_
     intro K hK
     simp -implicitDefEqProofs (disch := first | decide | assumption | (simp (disch := decide) only [slotOf_zero, slotOf_succ, Option.map_some, puts_same, puts_ne, gv_bool, gv_undef, tt, tf, ft, ff, eq_self, if_true, if_false, Bool.false_eq_true, Bool.not_true, Bool.not_false]; done) | omega) only [go_sem, ld61, BoxAt.cell hb1_6, BoxAt.cell hb13_6, wrap_id, cv_u8, cv_i64, Nat.zero_add, wrap_u8, eq_el, ne_el, build_el, Int.toNat_zero]
     try simp -implicitDefEqProofs (disch := first | decide | assumption | omega) only [go_sem, wrap_id, cv_u8, cv_i64, Nat.zero_add, wrap_u8, eq_el, ne_el, build_el, Int.toNat_zero]
     refine CallA.mono (eqF_same _ _ ((foR X).1) _ ⟨_, _, _, rfl, (OS.rd hod13_2_0), (OS.rd hom13_2_0), (OS.rd hov13_2_0)⟩ ⟨_, _, _, rfl, (OS.rd hod1_2_0), (OS.rd hom1_2_0), (OS.rd hov1_2_0)⟩) ?_
     intro v_ h14_2
     rintro ⟨rfl, e14_2⟩
     replace hod1_2_0 := OS.ext hod1_2_0 e14_2
     replace hom1_2_0 := OS.ext hom1_2_0 e14_2
     replace hov1_2_0 := OS.ext hov1_2_0 e14_2
     replace hogd6_2 := OS.ext hogd6_2 e14_2
     replace hogm6_2 := OS.ext hogm6_2 e14_2
     replace hogv6_2 := OS.ext hogv6_2 e14_2
     replace hod13_2_0 := OS.ext hod13_2_0 e14_2
     replace hom13_2_0 := OS.ext hom13_2_0 e14_2
     replace hov13_2_0 := OS.ext hov13_2_0 e14_2
     replace hb1_6 := BoxAt.ext hb1_6 e14_2
     replace hb2_6 := BoxAt.ext hb2_6 e14_2
     replace hb13_6 := BoxAt.ext hb13_6 e14_2
     have := Ext.size e14_2
     replace eB := Ext.trans eB e14_2
     try simp -implicitDefEqProofs (disch := first | decide | assumption | (simp (disch := decide) only [slotOf_zero, slotOf_succ, Option.map_some, puts_same, puts_ne, gv_bool, gv_undef, tt, tf, ft, ff, eq_self, if_true, if_false, Bool.false_eq_true, Bool.not_true, Bool.not_false]; done) | omega) only [go_sem, wrap_id, cv_u8, cv_i64, Nat.zero_add, wrap_u8, eq_el, ne_el, build_el, Int.toNat_zero]
     try simp -implicitDefEqProofs (disch := first | decide | assumption | (simp (disch := decide) only [slotOf_zero, slotOf_succ, Option.map_some, puts_same, puts_ne, gv_bool, gv_undef, tt, tf, ft, ff, eq_self, if_true, if_false, Bool.false_eq_true, Bool.not_true, Bool.not_false]; done) | omega) only [go_sem, wrap_id, cv_u8, cv_i64, Nat.zero_add, wrap_u8, eq_el, ne_el, build_el, Int.toNat_zero]
     refine hK _ _ ?_
     clear hK K
     refine den_stop ?_
     refine ⟨?_, e14_2⟩
     first | (simp (disch := decide) only [go_sem, eq_self, Bool.true_and, Bool.and_true, Bool.false_and, Bool.and_false, Bool.true_or, Bool.or_true, Bool.false_or, Bool.or_false, if_true, if_false, Bool.false_eq_true]; done) | simp [HasL, sel, puts_at]
    intro en19 h20 e21
    replace hod1_2_0 := OS.ext hod1_2_0 e21
    replace hom1_2_0 := OS.ext hom1_2_0 e21
    replace hov1_2_0 := OS.ext hov1_2_0 e21
    replace hogd6_2 := OS.ext hogd6_2 e21
    replace hogm6_2 := OS.ext hogm6_2 e21
    replace hogv6_2 := OS.ext hogv6_2 e21
    replace hod13_2_0 := OS.ext hod13_2_0 e21
    replace hom13_2_0 := OS.ext hom13_2_0 e21
    replace hov13_2_0 := OS.ext hov13_2_0 e21
    replace hb1_6 := BoxAt.ext hb1_6 e21
    replace hb2_6 := BoxAt.ext hb2_6 e21
    replace hb13_6 := BoxAt.ext hb13_6 e21
    have := Ext.size e21
    replace eB := Ext.trans eB e21
    simp (disch := decide) only [go_sem]
    refine den_cond rfl (fun c3 => ?_) (fun c3 => ?_)
    ·try simp only [decide_eq_true_eq, decide_eq_false_iff_not, beq_iff_eq, beq_eq_false_iff_ne, bne_iff_ne, ne_eq, Bool.not_eq_true', Bool.not_eq_false', Bool.and_eq_true, Bool.or_eq_true, bne_eq_false_iff_eq] at c3
     refine den_seq ?_
     refine den_region TTok ?_
     intro K hK
     simp -implicitDefEqProofs (disch := first | decide | assumption | omega) only [go_sem, wrap_id, cv_u8, cv_i64, Nat.zero_add, wrap_u8, eq_el, ne_el, build_el, Int.toNat_zero]
     refine hK _ _ ?_
     clear hK K
     refine den_ret ?_
     simp (disch := decide) only [resP_1, puts_same, puts_ne]
     exact absurd c3 (by first | (simp; done) | (simp; omega) | omega | (simp [eqC_self]; done))
    ·try simp only [decide_eq_true_eq, decide_eq_false_iff_not, beq_iff_eq, beq_eq_false_iff_ne, bne_iff_ne, ne_eq, Bool.not_eq_true', Bool.not_eq_false', Bool.and_eq_true, Bool.or_eq_true, bne_eq_false_iff_eq] at c3
     refine den_skip ?_
     refine den_seq ?_
     refine den_region TTok ?_
     intro K hK
     simp -implicitDefEqProofs (disch := first | decide | assumption | omega) only [go_sem, wrap_id, cv_u8, cv_i64, Nat.zero_add, wrap_u8, eq_el, ne_el, build_el, Int.toNat_zero]
     refine hK _ _ ?_
     clear hK K
     refine den_seq ?_
     refine den_region TTok ?_
     intro K hK
     simp -implicitDefEqProofs (disch := first | decide | assumption | omega) only [go_sem, ld61, BoxAt.cell hb2_6, wrap_id, cv_u8, cv_i64, Nat.zero_add, wrap_u8, eq_el, ne_el, build_el, Int.toNat_zero]
     try simp -implicitDefEqProofs (disch := first | decide | assumption | omega) only [go_sem, wrap_id, cv_u8, cv_i64, Nat.zero_add, wrap_u8, eq_el, ne_el, build_el, Int.toNat_zero]
     refine CallA.mono (heldF_ok _ _ _ ((foR X).1) (1 : Int) _ (OS.rd hogd6_2) (OS.rd hogm6_2) (OS.rd hogv6_2) (by omega)) ?_
     intro v_ h17_2
     rintro ⟨rfl, e17_2⟩
     replace hogd6_2 := OS.ext hogd6_2 e17_2
     replace hogm6_2 := OS.ext hogm6_2 e17_2
     replace hogv6_2 := OS.ext hogv6_2 e17_2
     replace hb2_6 := BoxAt.ext hb2_6 e17_2
     have := Ext.size e17_2
     replace eB := Ext.trans eB e17_2
     try simp -implicitDefEqProofs (disch := first | decide | assumption | omega) only [go_sem, wrap_id, cv_u8, cv_i64, Nat.zero_add, wrap_u8, eq_el, ne_el, build_el, Int.toNat_zero]
     refine hK _ _ ?_
     clear hK K
     refine den_seq ?_
     refine den_seq ?_
     refine den_region TTok ?_
     intro K hK
     simp -implicitDefEqProofs (disch := first | decide | assumption | omega) only [go_sem, wrap_id, cv_u8, cv_i64, Nat.zero_add, wrap_u8, eq_el, ne_el, build_el, Int.toNat_zero]
     refine hK _ _ ?_
     clear hK K
     refine den_cond rfl (fun c4 => ?_) (fun c4 => ?_)
     ·try simp only [decide_eq_true_eq, decide_eq_false_iff_not, beq_iff_eq, beq_eq_false_iff_ne, bne_iff_ne, ne_eq, Bool.not_eq_true', Bool.not_eq_false', Bool.and_eq_true, Bool.or_eq_true, bne_eq_false_iff_eq] at c4
      refine den_seq ?_
      refine den_region TTok ?_
      intro K hK
      simp -implicitDefEqProofs (disch := first | decide | assumption | omega) only [go_sem, wrap_id, cv_u8, cv_i64, Nat.zero_add, wrap_u8, eq_el, ne_el, build_el, Int.toNat_zero]
      refine hK _ _ ?_
      clear hK K
      refine den_ret ?_
      simp (disch := decide) only [resP_1, puts_same, puts_ne]
      exact absurd c4 (by first | (simp; done) | (simp; omega) | omega | (simp [eqC_self]; done))
     ·try simp only [decide_eq_true_eq, decide_eq_false_iff_not, beq_iff_eq, beq_eq_false_iff_ne, bne_iff_ne, ne_eq, Bool.not_eq_true', Bool.not_eq_false', Bool.and_eq_true, Bool.or_eq_true, bne_eq_false_iff_eq] at c4
      refine den_skip ?_
      refine den_seq ?_
      refine den_seq ?_
      refine den_region TTok ?_
      intro K hK
      simp -implicitDefEqProofs (disch := first | decide | assumption | omega) only [go_sem, wrap_id, cv_u8, cv_i64, Nat.zero_add, wrap_u8, eq_el, ne_el, build_el, Int.toNat_zero]
      refine hK _ _ ?_
      clear hK K
      refine den_cond rfl (fun c5 => ?_) (fun c5 => ?_)
      ·try simp only [decide_eq_true_eq, decide_eq_false_iff_not, beq_iff_eq, beq_eq_false_iff_ne, bne_iff_ne, ne_eq, Bool.not_eq_true', Bool.not_eq_false', Bool.and_eq_true, Bool.or_eq_true, bne_eq_false_iff_eq] at c5
       refine den_seq ?_
       refine den_region TTok ?_
       intro K hK
       simp -implicitDefEqProofs (disch := first | decide | assumption | omega) only [go_sem, wrap_id, cv_u8, cv_i64, Nat.zero_add, wrap_u8, eq_el, ne_el, build_el, Int.toNat_zero]
       refine hK _ _ ?_
       clear hK K
       refine den_ret ?_
       simp (disch := decide) only [resP_1, puts_same, puts_ne]
       exact absurd c5 (by first | (simp; done) | (simp; omega) | omega | (simp [eqC_self]; done))
      ·try simp only [decide_eq_true_eq, decide_eq_false_iff_not, beq_iff_eq, beq_eq_false_iff_ne, bne_iff_ne, ne_eq, Bool.not_eq_true', Bool.not_eq_false', Bool.and_eq_true, Bool.or_eq_true, bne_eq_false_iff_eq] at c5
       refine den_skip ?_
       refine den_seq ?_
       refine den_region TTok ?_
       intro K hK
       simp -implicitDefEqProofs (disch := first | decide | assumption | omega) only [go_sem, wrap_id, cv_u8, cv_i64, Nat.zero_add, wrap_u8, eq_el, ne_el, build_el, Int.toNat_zero]
       refine hK _ _ ?_
       clear hK K
       refine den_ret ?_
       simp (disch := decide) only [resP_1, puts_same, puts_ne]
       exact ⟨by first | rfl | trivial, eB⟩
end Go.Proofs.Ytacajcjibhifmaa
