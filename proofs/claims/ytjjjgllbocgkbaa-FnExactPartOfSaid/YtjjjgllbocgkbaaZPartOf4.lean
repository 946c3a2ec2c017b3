/-
  What the statement FnExactPartOf uses of the walks, part 4.
  Conditions: each theorem's own.
-/
import Derived.Test.YtjjjgllbocgkbaaG16
import Derived.Test.YtjjjgllbocgkbaaG17
import Derived.Test.YtjjjgllbocgkbaaG14
import Derived.Test.YtjjjgllbocgkbaaG13
import Derived.Test.YtjjjgllbocgkbaaG15
import Derived.Test.YtjjjgllbocgkbaaG18
import Derived.Test.YtjjjgllbocgkbaaG19
import Derived.Test.YtjjjgllbocgkbaaZPartOf1
import Derived.Test.YtjjjgllbocgkbaaZPartOf2
import Derived.Test.YtjjjgllbocgkbaaZPartOf3
set_option linter.unusedVariables false
set_option linter.unusedSimpArgs false
namespace Go.Proofs.Ytjjjgllbocgkbaa
open Go
theorem keptT_pw (X : Fl) (n q : Int) (m : Nat) : (keptT X n q m).Pairwise (· < ·) := by
 unfold keptT
 rw [List.pairwise_map]
 refine List.Pairwise.imp ?_ ((List.pairwise_lt_range (n := m)).filter _)
 intro a b h
 omega
theorem kept_lt {X : Fl} {n q : Int} {a b : Nat} (h : a < b) (hb : b < (keptP X n q).length) : (keptP X n q).getD a 0 < (keptP X n q).getD b 0 := by
 have := List.pairwise_iff_getElem.1 (keptT_pw X n q (dimP X.c n).toNat) a b (by unfold keptP at hb; omega) hb h
 rw [List.getD_eq_getElem?_getD, List.getElem?_eq_getElem (by omega), List.getD_eq_getElem?_getD, List.getElem?_eq_getElem hb]
 exact this
theorem kept_pos {X : Fl} {n q : Int} {r : Nat} (h : r < (keptP X n q).length) : posI (keptP X n q) ((keptP X n q).getD r 0) = r :=
 posI_hit (fun a ha e => by have := kept_lt ha h; omega) h rfl
def parU (X : Fl) (q : Int) : UF := fun k i j v => if 0 ≤ posI (keptP X ((k : Int) + 1) q) (i : Int) ∧ 0 ≤ posI (keptP X (k : Int) q) (j : Int) then [((k, (posI (keptP X ((k : Int) + 1) q) (i : Int)).toNat, (posI (keptP X (k : Int) q) (j : Int)).toNat), v)] else []
def parT (X : Fl) (q : Int) (L : Nat) (k i j : Nat) : Nat × Nat × Nat := if 0 ≤ posI (keptP X ((k : Int) + 1) q) (i : Int) ∧ 0 ≤ posI (keptP X (k : Int) q) (j : Int) then (k, (posI (keptP X ((k : Int) + 1) q) (i : Int)).toNat, (posI (keptP X (k : Int) q) (j : Int)).toNat) else (L, 0, 0)
def parV (X : Fl) (q : Int) (L : Nat) : UF := fun k i j v => [(parT X q L k i j, v)]
theorem sumT_cong {U V : UF} {t : Nat × Nat × Nat} (h : ∀ k i j v, sumT t (U k i j v) = sumT t (V k i j v)) (M : M3) (m : Nat) : sumT t (uK U M m) = sumT t (uK V M m) := by
 have hJ : ∀ k i row m, sumT t (uJ U k i row m) = sumT t (uJ V k i row m) := fun k i row m => by
  induction m with
  | zero => rfl
  | succ m ih => rw [uJ, uJ, sumT_app, sumT_app, ih, h]
 have hI : ∀ k R m, sumT t (uI U k R m) = sumT t (uI V k R m) := fun k R m => by
  induction m with
  | zero => rfl
  | succ m ih => rw [uI, uI, sumT_app, sumT_app, ih, hJ]
 induction m with
 | zero => rfl
 | succ m ih => rw [uK, uK, sumT_app, sumT_app, ih, hI]
theorem par_uv {X : Fl} {q : Int} {L : Nat} {t : Nat × Nat × Nat} (ht : t.1 < L) (k i j : Nat) (v : Int) : sumT t (parU X q k i j v) = sumT t (parV X q L k i j v) := by
 unfold parU parV parT
 split
 ·rfl
 ·rw [sumT, sumT, sumT, if_neg (fun e => by rw [← e] at ht; exact absurd ht (Nat.lt_irrefl _)), Int.add_zero]
abbrev parA (X : Fl) (q : Int) : Nat → Nat := fun k => ((pdmP X q X.c.dims.length).getD (k + 1) 0).toNat
abbrev parB (X : Fl) (q : Int) : Nat → Nat := fun k => ((pdmP X q X.c.dims.length).getD k 0).toNat
theorem pdm_get (X : Fl) (q : Int) {k m : Nat} (h : k < m) : (pdmP X q m).getD k 0 = ((keptP X (k : Int) q).length : Int) := getD_map_range (α := Int) _ h
theorem parA_eq (X : Fl) (q : Int) {k : Nat} (h : k + 1 < X.c.dims.length) : parA X q k = (keptP X ((k : Int) + 1) q).length := by
 show ((pdmP X q X.c.dims.length).getD (k + 1) 0).toNat = _
 rw [pdm_get X q h, Int.toNat_natCast]; rfl
theorem parB_eq (X : Fl) (q : Int) {k : Nat} (h : k < X.c.dims.length) : parB X q k = (keptP X (k : Int) q).length := by
 show ((pdmP X q X.c.dims.length).getD k 0).toNat = _
 rw [pdm_get X q h, Int.toNat_natCast]
theorem par_inU {X : Fl} (hC : IsC X.c) {q : Int} {k i j : Nat} (hk : k < X.c.maps.length) (v : Int) : ∀ u ∈ parU X q k i j v, InU (X.c.dims.length - 1) (parA X q) (parB X q) u := fun u hu => by
 have hm := hC.ml
 unfold parU at hu
 split at hu
 ·rename_i h
  rw [List.mem_singleton] at hu
  subst hu
  have h1 := posI_ge (i : Int) (keptP X ((k : Int) + 1) q)
  have h2 := posI_ge (j : Int) (keptP X (k : Int) q)
  refine ⟨by show k < _; omega, ?_, ?_⟩
  ·show (posI (keptP X ((k : Int) + 1) q) (i : Int)).toNat < parA X q k
   rw [parA_eq X q (by omega)]; omega
  ·show (posI (keptP X (k : Int) q) (j : Int)).toNat < parB X q k
   rw [parB_eq X q (by omega)]; omega
 ·cases hu
theorem pmp_sh (X : Fl) (q : Int) : Sh (X.c.dims.length - 1) (parA X q) (parB X q) (pmpP X q (X.c.dims.length - 1)) := by
 refine ⟨pmpP_len X q _, fun k hk => ?_, fun k r hk hr => ?_⟩
 ·rw [pmpP, getD_map_range _ hk, pentP_len, parA_eq X q (by omega)]
 ·rw [parA_eq X q (by omega)] at hr
  rw [pmpP, getD_map_range _ hk, pentP, List.getD_eq_getElem?_getD, List.getElem?_map, List.getElem?_eq_getElem hr]
  simp only [Option.map_some, Option.getD_some, List.length_map]
  rw [parB_eq X q (by omega), Int.add_sub_cancel]
theorem pmp_get (X : Fl) (q : Int) {k r c : Nat} (hk : k < X.c.dims.length - 1) (hr : r < (keptP X ((k : Int) + 1) q).length) (hc : c < (keptP X (k : Int) q).length) : get3 (pmpP X q (X.c.dims.length - 1)) k r c = entP X ((k : Int) + 1) ((keptP X ((k : Int) + 1) q).getD r 0) ((keptP X (k : Int) q).getD c 0).toNat := by
 have hc' : c < (keptP X ((k : Int) + 1 - 1) q).length := by rw [Int.add_sub_cancel]; exact hc
 rw [get3, pmpP, getD_map_range _ hk, pentP]
 simp only [List.getD_eq_getElem?_getD, List.getElem?_map, List.getElem?_eq_getElem hr, List.getElem?_eq_getElem hc', Option.map_some, Option.getD_some, Int.add_sub_cancel, List.getElem?_eq_getElem hc]
theorem par_eq {X : Fl} (hF : IsF X) (q : Int) : applyU X.c.p (zblk (pdmP X q X.c.dims.length) (X.c.dims.length - 1)) (uK (parU X q) X.c.maps X.c.maps.length) = pmpP X q (X.c.dims.length - 1) := by
 have hC := hF.c
 have hm := hC.ml
 have hp := isP_bnd hC.p
 have hz : Sh (X.c.dims.length - 1) (parA X q) (parB X q) (zblk (pdmP X q X.c.dims.length) (X.c.dims.length - 1)) := zblk_sh _ _
 have hi : In3 X.c.p (X.c.dims.length - 1) (parA X q) (parB X q) (zblk (pdmP X q X.c.dims.length) (X.c.dims.length - 1)) := fun k r c h1 h2 h3 => by rw [zblk_get _ _ h1 h2 h3]; omega
 have hu : ∀ u ∈ uK (parU X q) X.c.maps X.c.maps.length, InU (X.c.dims.length - 1) (parA X q) (parB X q) u := uK_all (fun k i j hk _ _ u hu => par_inU hC hk _ u hu)
 refine Sh.ext (applyU_sh hz hu) (pmp_sh X q) (fun k r c h1 h2 h3 => ?_)
 rw [applyU_get hp.1 h1 h2 h3 hz hi hu, zblk_get _ _ h1 h2 h3, Int.zero_add]
 rw [parA_eq X q (by omega)] at h2
 rw [parB_eq X q (by omega)] at h3
 have hk : k < X.c.maps.length := by omega
 have a1 := keptP_at h2
 have a2 := keptP_at h3
 obtain ⟨i0, hi0⟩ := Int.eq_ofNat_of_zero_le a1.1
 obtain ⟨j0, hj0⟩ := Int.eq_ofNat_of_zero_le a2.1
 have e := mapP_q hC (n := k + 1) (by omega) (by omega)
 rw [show k + 1 - 1 = k by omega, show ((k + 1 : Nat) : Int) = (k : Int) + 1 by omega] at e
 have ht := mapP_tbl hC ((k : Int) + 1)
 rw [e, Int.add_sub_cancel] at ht
 have hil : i0 < (X.c.maps.getD k default).length := by omega
 have hjl := (ht.2 _ (getD_mem hil)).1
 rw [if_pos (by omega)] at hjl
 have hpos : parT X q (X.c.dims.length - 1) k i0 j0 = (k, r, c) := by
  unfold parT
  rw [← hi0, ← hj0, kept_pos h2, kept_pos h3, if_pos ⟨by omega, by omega⟩]; simp
 rw [sumT_cong (fun k' i' j' v => par_uv (L := X.c.dims.length - 1) (t := (k, r, c)) h1 k' i' j' v), sumT_uK (U := parV X q (X.c.dims.length - 1)) (τ := parT X q (X.c.dims.length - 1)) (ω := fun _ _ _ v => v) (fun _ _ _ _ => rfl) (k0 := k) (i0 := i0) (j0 := j0) hpos X.c.maps.length (fun k' hk' i' _ j' _ ee => by
  unfold parT at ee
  split at ee
  ·rename_i h
   injection ee with e1 e2
   injection e2 with e2 e3
   subst e1
   have q1 := posI_get h.1
   have q2 := posI_get h.2
   rw [e2, hi0] at q1
   rw [e3, hj0] at q2
   exact ⟨rfl, by omega, by omega⟩
  ·injection ee with e1 e2
   exact absurd e1 (by omega)) hil (by omega), if_pos hk, pmp_get X q h1 h2 h3, entP, e, hi0, hj0]
 have hnm := hC.num hk hil (j := j0) (by omega)
 rw [Int.emod_eq_of_lt hnm.1 hnm.2, Int.toNat_natCast, Int.toNat_natCast]

set_option maxRecDepth 100000 in
theorem part1_ok (X : Fl) (q : Int) (vdX vmX vvX vD vw vV : Value) (D : List Int) (M : M3) (f : List Nat) (k i j : Nat) (x : Int) (bX bQ bO : Nat) (h0 h : Heap) (hdX : R1 h0 vdX X.c.dims) (hmX : R3 h0 vmX X.c.maps) (hvX : R2 h0 vvX X.lv) (rD : R1 h vD D) (hom : O3 h vw M f) (eB : Ext h0 h) (hbO : BoxAt h bO #[.int .i64 X.c.p, vD, vw, vV] 33) (hbX : BoxAt h bX #[.int .i64 X.c.p, vdX, vmX, vvX] 33) (hbQ : BoxAt h bQ #[.int .i64 q] 2) (hF : IsF X) (hn : f.Nodup) (hk : k < X.c.maps.length) (hij : i ≤ 8 ∧ j ≤ 8) (hq : 0 ≤ q ∧ q ≤ 5) (hx : 0 ≤ x ∧ x < X.c.p) (hs : 0 ≤ posI (keptP X ((k : Int) + 1) q) (i : Int) → 0 ≤ posI (keptP X (k : Int) q) (j : Int) → k < M.length ∧ (posI (keptP X ((k : Int) + 1) q) (i : Int)).toNat < (M.getD k default).length ∧ (posI (keptP X (k : Int) q) (j : Int)).toNat < ((M.getD k default).getD (posI (keptP X ((k : Int) + 1) q) (i : Int)).toNat default).length ∧ 0 ≤ get3 M k (posI (keptP X ((k : Int) + 1) q) (i : Int)).toNat (posI (keptP X (k : Int) q) (j : Int)).toNat ∧ get3 M k (posI (keptP X ((k : Int) + 1) q) (i : Int)).toNat (posI (keptP X (k : Int) q) (j : Int)).toNat < X.c.p) : CallA Try.prog 84 #[.int .i64 ((k : Int) + 1), .int .i64 (i : Int), .int .i64 (j : Int), .int .i64 x, .pointer (some ⟨bX, 0, none⟩), .pointer (some ⟨bQ, 0, none⟩), .pointer (some ⟨bO, 0, none⟩)] h fun v' h' => v' = .tuple #[] ∧ O3 h' vw (applyU X.c.p M (parU X q k i j x)) f ∧ Chg f h h' := by
 have hlM := OS.lt hom
 have hC := hF.c
 have hml := hC.ml
 have hlC := hC.len
 have hpb := isP_bnd hC.p
 have hg1 := posI_ge (i : Int) (keptP X ((k : Int) + 1) q)
 have hg2 := posI_ge (j : Int) (keptP X (k : Int) q)
 have hkl1 := keptP_len hF ((k : Int) + 1) q
 have hkl2 := keptP_len hF (k : Int) q
 have hek : ((k : Int) + 1 - 1).toNat = k := by omega
 refine callA_intro TTok (args := [_, _, _, _, _, _, _]) Try.func84 (by kernel_rfl) rfl 39 rfl (by simp) [] rfl ?_
 simp only [idxs, Nat.reduceAdd]
 refine den_seq ?_
 refine den_draw TTok mixed [] [(0, true), (1, true), (2, true), (4, true), (6, true), (7, true), (8, true), (9, true), (11, true), (3, false), (5, false), (10, false), (12, false), (13, true), (14, true)] (by kernel_rfl) ?_
 intro K hK
 simp -implicitDefEqProofs (disch := first | decide | assumption | omega) only [go_sem, ld2, ld33, RdS.len hdX sl22, RdS.idx hdX sl22, R1.intB hdX (Ext.pres eB), RdS.cells hdX, RdS.len hmX sl23, RdS.idx hmX sl23, RdS.cellB hmX (Ext.pres eB), RdS.cells hmX, RdS.len hvX sl26, RdS.idx hvX sl26, RdS.cellB hvX (Ext.pres eB), RdS.cells hvX, BoxAt.cell hbX, BoxAt.cell hbQ, wrap_id, Int.add_sub_cancel]
 try simp -implicitDefEqProofs (disch := first | decide | assumption | omega) only [go_sem, wrap_id, Int.add_sub_cancel]
 refine CallA.mono (iKept_ok _ X ((k : Int) + (1 : Int)) q _ ⟨_, _, _, rfl, (RdS.pres hdX (Ext.pres eB)), (RdS.pres hmX (Ext.pres eB)), (RdS.pres hvX (Ext.pres eB))⟩ hF (by omega)) ?_
 intro vw0_3_0 h0_3
 rintro ⟨zvw0_3_0, fw0_3_0, rfl, how0_3_0, hfw0_3_0, e0_3⟩
 replace hom := OS.ext hom e0_3
 replace hbX := BoxAt.ext hbX e0_3
 replace hbQ := BoxAt.ext hbQ e0_3
 replace hbO := BoxAt.ext hbO e0_3
 replace rD := RdS.pres rD (Ext.pres e0_3)
 have := Ext.size e0_3
 replace eB := Ext.trans eB e0_3
 have hlhow0_3_0 := OS.lt how0_3_0
 try simp (disch := decide) only [outv_some, outv_none, put_puts]
 refine plK_pres (Ext.pres e0_3) ?_
 try simp -implicitDefEqProofs (disch := first | decide | assumption | omega) only [go_sem, wrap_id, Int.add_sub_cancel]
 try simp -implicitDefEqProofs (disch := first | decide | assumption | omega) only [go_sem, wrap_id, Int.add_sub_cancel]
 refine CallA.mono (index1_ok _ (keptP X ((k : Int) + (1 : Int)) q) (i : Int) _ (OS.rd how0_3_0) ) ?_
 intro v_ h0_5
 rintro ⟨rfl, e0_5⟩
 replace hom := OS.ext hom e0_5
 replace how0_3_0 := OS.ext how0_3_0 e0_5
 replace hbX := BoxAt.ext hbX e0_5
 replace hbQ := BoxAt.ext hbQ e0_5
 replace hbO := BoxAt.ext hbO e0_5
 replace rD := RdS.pres rD (Ext.pres e0_5)
 have := Ext.size e0_5
 replace eB := Ext.trans eB e0_5
 try simp (disch := decide) only [outv_some, outv_none, put_puts]
 refine plK_pres (Ext.pres e0_5) ?_
 try simp -implicitDefEqProofs (disch := first | decide | assumption | omega) only [go_sem, wrap_id, Int.add_sub_cancel]
 try simp -implicitDefEqProofs (disch := first | decide | assumption | omega) only [go_sem, wrap_id, Int.add_sub_cancel]
 refine CallA.mono (iKept_ok _ X (k : Int) q _ ⟨_, _, _, rfl, (RdS.pres hdX (Ext.pres eB)), (RdS.pres hmX (Ext.pres eB)), (RdS.pres hvX (Ext.pres eB))⟩ hF (by omega)) ?_
 intro vw0_10_0 h0_10
 rintro ⟨zvw0_10_0, fw0_10_0, rfl, how0_10_0, hfw0_10_0, e0_10⟩
 replace hom := OS.ext hom e0_10
 replace how0_3_0 := OS.ext how0_3_0 e0_10
 replace hbX := BoxAt.ext hbX e0_10
 replace hbQ := BoxAt.ext hbQ e0_10
 replace hbO := BoxAt.ext hbO e0_10
 replace rD := RdS.pres rD (Ext.pres e0_10)
 have := Ext.size e0_10
 replace eB := Ext.trans eB e0_10
 have hlhow0_10_0 := OS.lt how0_10_0
 try simp (disch := decide) only [outv_some, outv_none, put_puts]
 refine plK_pres (Ext.pres e0_10) ?_
 try simp -implicitDefEqProofs (disch := first | decide | assumption | omega) only [go_sem, wrap_id, Int.add_sub_cancel]
 try simp -implicitDefEqProofs (disch := first | decide | assumption | omega) only [go_sem, wrap_id, Int.add_sub_cancel]
 refine CallA.mono (index1_ok _ (keptP X (k : Int) q) (j : Int) _ (OS.rd how0_10_0) ) ?_
 intro v_ h0_12
 rintro ⟨rfl, e0_12⟩
 replace hom := OS.ext hom e0_12
 replace how0_3_0 := OS.ext how0_3_0 e0_12
 replace how0_10_0 := OS.ext how0_10_0 e0_12
 replace hbX := BoxAt.ext hbX e0_12
 replace hbQ := BoxAt.ext hbQ e0_12
 replace hbO := BoxAt.ext hbO e0_12
 replace rD := RdS.pres rD (Ext.pres e0_12)
 have := Ext.size e0_12
 replace eB := Ext.trans eB e0_12
 try simp (disch := decide) only [outv_some, outv_none, put_puts]
 refine plK_pres (Ext.pres e0_12) ?_
 try simp -implicitDefEqProofs (disch := first | decide | assumption | omega) only [go_sem, wrap_id, Int.add_sub_cancel]
 refine hK _ _ ?_
 clear hK K
 refine den_seq ?_
 refine den_mergeH [(31, .bool (((decide ((0 : Int) ≤ (posI (keptP X ((k : Int) + (1 : Int)) q) (i : Int)))) && (decide ((0 : Int) ≤ (posI (keptP X (k : Int) q) (j : Int)))))))] [0, 3, 6, 11, 12] ?_ ?_
  -- a way
 ·refine den_region TTok ?_
  intro K hK
  simp -implicitDefEqProofs (disch := first | decide | assumption | (simp (disch := decide) only [slotOf_zero, slotOf_succ, Option.map_some, puts_same, puts_ne, gv_bool, gv_undef, tt, tf, ft, ff, eq_self, if_true, if_false, Bool.false_eq_true, Bool.not_true, Bool.not_false]; done) | omega) only [go_sem, wrap_id, Int.add_sub_cancel]
  refine opsP_T (by simp (disch := decide) only [slotOf_zero, slotOf_succ, Option.map_some, puts_same, puts_ne, gv_bool, gv_undef, tt, tf, ft, ff, eq_self, if_true, if_false, Bool.false_eq_true, Bool.not_true, Bool.not_false]; rfl) (fun g1 => ?_) (fun g1 => ?_)
  ·try simp -implicitDefEqProofs (disch := first | decide | assumption | (simp (disch := decide) only [slotOf_zero, slotOf_succ, Option.map_some, puts_same, puts_ne, gv_bool, gv_undef, tt, tf, ft, ff, eq_self, if_true, if_false, Bool.false_eq_true, Bool.not_true, Bool.not_false, g1]; done) | omega) only [go_sem, wrap_id, Int.add_sub_cancel, g1, eq_self, if_true, if_false, Bool.false_eq_true]
   refine hK _ _ ?_
   clear hK K
   refine den_stop ?_
   refine ⟨?_, rfl⟩
   first | (simp (disch := decide) only [go_sem, g1, eq_self, Bool.true_and, Bool.and_true, Bool.false_and, Bool.and_false, Bool.true_or, Bool.or_true, Bool.false_or, Bool.or_false, if_true, if_false, Bool.false_eq_true]; done) | simp [HasL, sel, puts_at, g1]
  ·try simp -implicitDefEqProofs (disch := first | decide | assumption | (simp (disch := decide) only [slotOf_zero, slotOf_succ, Option.map_some, puts_same, puts_ne, gv_bool, gv_undef, tt, tf, ft, ff, eq_self, if_true, if_false, Bool.false_eq_true, Bool.not_true, Bool.not_false, g1]; done) | omega) only [go_sem, wrap_id, Int.add_sub_cancel, g1, eq_self, if_true, if_false, Bool.false_eq_true]
   refine hK _ _ ?_
   clear hK K
   refine den_stop ?_
   refine ⟨?_, rfl⟩
   first | (simp (disch := decide) only [go_sem, g1, eq_self, Bool.true_and, Bool.and_true, Bool.false_and, Bool.and_false, Bool.true_or, Bool.or_true, Bool.false_or, Bool.or_false, if_true, if_false, Bool.false_eq_true]; done) | simp [HasL, sel, puts_at, g1]
 intro en2
 simp (disch := decide) only [go_sem]
 refine den_cond rfl (fun c0 => ?_) (fun c0 => ?_)
 ·try simp only [decide_eq_true_eq, decide_eq_false_iff_not, beq_iff_eq, beq_eq_false_iff_ne, bne_iff_ne, ne_eq, Bool.not_eq_true', Bool.not_eq_false', Bool.and_eq_true, Bool.or_eq_true, bne_eq_false_iff_eq] at c0
  refine den_region TTok ?_
  intro K hK
  simp -implicitDefEqProofs (disch := first | decide | assumption | omega) only [go_sem, fa33_0, ld31, RdS.len (OS.rd hom) sl23, RdS.idx (OS.rd hom) sl23, RdS.cellN (OS.rd hom), RdS.cells (OS.rd hom), BoxAt.cell hbO, wrap_id, Int.add_sub_cancel]
  try simp -implicitDefEqProofs (disch := first | decide | assumption | omega) only [go_sem, wrap_id, Int.add_sub_cancel]
  have hs2 := hs c0.1 c0.2
  refine CallA.mono (addAt_ok X.c.p _ _ D M f ((k : Int) + 1) (posI (keptP X ((k : Int) + 1) q) (i : Int)) (posI (keptP X (k : Int) q) (j : Int)) x _ rD hom hn hpb (by omega) (by rw [hek]; omega) (by rw [hek]; omega) (by rw [hek]; exact hs2.2.2.2) (by omega)) ?_
  intro v_ h2_6
  rintro ⟨rfl, hom2, c9⟩
  rw [hek] at hom2
  try simp -implicitDefEqProofs (disch := first | decide | assumption | omega) only [go_sem, wrap_id, Int.add_sub_cancel]
  refine hK _ _ ?_
  clear hK K
  refine den_nil ?_
  simp (disch := decide) only [resP_0, puts_same, puts_ne]
  have hz : parU X q k i j x = [((k, (posI (keptP X ((k : Int) + 1) q) (i : Int)).toNat, (posI (keptP X (k : Int) q) (j : Int)).toNat), x)] := if_pos c0
  rw [hz]
  exact ⟨by first | rfl | trivial, hom2, (Ext.chg (((e0_3.trans e0_5).trans e0_10).trans e0_12) _).trans c9⟩
 ·try simp only [decide_eq_true_eq, decide_eq_false_iff_not, beq_iff_eq, beq_eq_false_iff_ne, bne_iff_ne, ne_eq, Bool.not_eq_true', Bool.not_eq_false', Bool.and_eq_true, Bool.or_eq_true, bne_eq_false_iff_eq] at c0
  refine den_skip ?_
  refine den_nil ?_
  simp (disch := decide) only [resP_0, puts_same, puts_ne]
  have hz : parU X q k i j x = [] := if_neg (fun h => by have h1 := h.1; have h2 := h.2; first | omega | simp_all)
  rw [hz]
  exact ⟨by first | rfl | trivial, hom, Ext.chg (((e0_3.trans e0_5).trans e0_10).trans e0_12) _⟩
end Go.Proofs.Ytjjjgllbocgkbaa

namespace Go.Proofs.Ytjjjgllbocgkbaa
open Go
theorem partR_y {X : Fl} {q : Int} (h : pgC X 0 0 q = 0) : partR X q = (partP X q, 0) := by
 obtain ⟨hF, _, _, hq⟩ := pgC_0 h
 rw [partR, if_pos (isF_t.2 hF), if_pos (in3_iff.2 hq)]
theorem partR_n {X : Fl} {q : Int} (h : pgC X 0 0 q ≠ 0) : partR X q = (⟨⟨0, [], []⟩, []⟩, pgC X 0 0 q) := by
 unfold partR
 by_cases h1 : isF X = true
 ·have hl := (isF_t.1 h1).c.len
  have e : pgC X 0 0 q = if in3 q 0 5 = true then 0 else 2 := by
   rw [pgC, if_pos h1]
   by_cases h2 : in3 q 0 5 = true
   ·rw [if_pos ⟨by decide, in3_iff.2 ⟨by omega, by omega⟩, h2⟩, if_pos h2]
   ·rw [if_neg (fun k => h2 k.2.2), if_neg h2]
  rw [e] at h
  rw [if_pos h1, e]
  by_cases h2 : in3 q 0 5 = true
  ·rw [if_pos h2] at h; exact absurd rfl h
  ·rw [if_neg h2, if_neg h2]
 ·rw [if_neg h1, pgC, if_neg h1]

theorem lenS (A : Option Addr) (n c : Nat) : lenV TT 22 (.slice A n c) = some (.int .i64 n) := by kernel_rfl
theorem OS.vl {α : Type} {e : TypeId} {E : Heap → Value → α → List Nat → Prop} {h : Heap} {v : Value} {xs : List α} {fp : List Nat} (ho : OS e E h v xs fp) : ∃ A c, v = .slice A xs.length c := by
 rcases ho with ⟨rfl, rfl, _⟩ | ⟨b, c, cur, fps, rfl, r⟩
 ·exact ⟨_, _, rfl⟩
 ·exact ⟨_, _, r.val⟩

set_option maxRecDepth 100000 in
theorem sizeV_ok (v : Value) (n : Nat) (h : Heap) (hv : ∃ A c, v = .slice A n c) (hn : (n : Int) ≤ 9223372036854775807) : CallA Try.prog 71 #[v] h fun v' h' => v' = .int .i64 (n : Int) ∧ Ext h h' := by
 obtain ⟨A, c, rfl⟩ := hv
 refine callA_intro TTok (args := [_]) Try.func71 (by kernel_rfl) rfl 5 rfl (by simp) [.tmp 2] rfl ?_
 simp only [idxs, Nat.reduceAdd]
 refine den_seq ?_
 refine den_region TTok ?_
 intro K hK
 simp -implicitDefEqProofs (disch := first | decide | assumption | omega) only [go_sem, wrap_id, lenS]
 refine hK _ _ ?_
 clear hK K
 refine den_seq ?_
 refine den_region TTok ?_
 intro K hK
 simp -implicitDefEqProofs (disch := first | decide | assumption | omega) only [go_sem, wrap_id, lenS]
 refine hK _ _ ?_
 clear hK K
 refine den_ret ?_
 simp (disch := decide) only [resP_1, puts_same, puts_ne]
 exact ⟨by first | rfl | trivial, (Ext.refl _)⟩

set_option maxRecDepth 100000 in
set_option maxHeartbeats 4000000 in
theorem iPart_ok (vX : Value) (X : Fl) (q : Int) (h : Heap) (rX : RF h vX X)  : CallA Try.prog 21 #[vX, .int .i64 q] h fun v' h' => ∃ wd0 wm0 wv0 fd0 fm0 fv0, v' = .tuple #[.agg #[.int .i64 ((partR X q).1).c.p, wd0, wm0, wv0], .int .i64 ((partR X q).2)] ∧ O1 h' wd0 ((partR X q).1).c.dims fd0 ∧ O3 h' wm0 ((partR X q).1).c.maps fm0 ∧ O2 h' wv0 ((partR X q).1).lv fv0 ∧ Fresh h.size (fd0 ++ (fm0 ++ fv0)) ∧ Ext h h' := by
 obtain ⟨vdX, vmX, vvX, rfl, hdX, hmX, hvX⟩ := rX
 have hledX := RdS.le hdX
 have hlemX := RdS.le hmX
 have hlevX := RdS.le hvX
 refine callA_intro TTok (args := [_, _]) Try.func21 (by kernel_rfl) rfl 74 rfl (by simp) [.cell 4 33, .tmp 5] rfl ?_
 simp only [idxs, Nat.reduceAdd]
 refine den_seq ?_
 refine den_region TTok ?_
 intro K hK
 simp -implicitDefEqProofs (disch := first | decide | assumption | omega) only [go_sem, wrap_id, bF0]
 refine op_box (cs := #[.int .i64 (X.c.p), vdX, vmX, vvX]) rfl ?_
 intro h0_0 e0_0 hb0_0 z0_0
 have := Ext.size e0_0
 have eB := e0_0
 have hfhb0_0 : Fresh h.size [h.size] := Fresh.one _
 have hlhb0_0 := one_lt (show h.size < h0_0.size by omega)
 try simp -implicitDefEqProofs (disch := first | decide | assumption | omega) only [go_sem, wrap_id, bF0]
 refine op_box (cs := #[.int .i64 (q)]) rfl ?_
 intro h0_1 e0_1 hb0_1 z0_1
 replace hb0_0 := BoxAt.ext hb0_0 e0_1
 have := Ext.size e0_1
 replace eB := Ext.trans eB e0_1
 have hfhb0_1 : Fresh h0_0.size [h0_0.size] := Fresh.one _
 have hlhb0_1 := one_lt (show h0_0.size < h0_1.size by omega)
 try simp -implicitDefEqProofs (disch := first | decide | assumption | omega) only [go_sem, wrap_id, bF0]
 refine op_alloc (cs := #[.int .i64 0, .slice none 0 0, .slice none 0 0, .slice none 0 0]) (by kernel_rfl) ?_
 intro h0_2 e0_2 hb0_2 z0_2
 replace hb0_0 := BoxAt.ext hb0_0 e0_2
 replace hb0_1 := BoxAt.ext hb0_1 e0_2
 have := Ext.size e0_2
 replace eB := Ext.trans eB e0_2
 have hfhb0_2 : Fresh h0_1.size [h0_1.size] := Fresh.one _
 have hlhb0_2 := one_lt (show h0_1.size < h0_2.size by omega)
 try simp -implicitDefEqProofs (disch := first | decide | assumption | omega) only [go_sem, wrap_id, bF0]
 refine hK _ _ ?_
 clear hK K
 refine den_seq ?_
 refine den_seq ?_
 refine den_region TTok ?_
 intro K hK
 simp -implicitDefEqProofs (disch := first | decide | assumption | omega) only [go_sem, ld2, ld33, RdS.len hdX sl22, RdS.idx hdX sl22, R1.intB hdX (Ext.pres eB), RdS.cells hdX, RdS.len hmX sl23, RdS.idx hmX sl23, RdS.cellB hmX (Ext.pres eB), RdS.cells hmX, RdS.len hvX sl26, RdS.idx hvX sl26, RdS.cellB hvX (Ext.pres eB), RdS.cells hvX, BoxAt.cell hb0_0, BoxAt.cell hb0_1, wrap_id, bF0]
 try simp -implicitDefEqProofs (disch := first | decide | assumption | omega) only [go_sem, BoxAt.cell hb0_2, wrap_id, bF0]
 refine CallA.mono (iPg_ok _ X (0 : Int) (0 : Int) q _ ⟨_, _, _, rfl, (RdS.pres hdX (Ext.pres eB)), (RdS.pres hmX (Ext.pres eB)), (RdS.pres hvX (Ext.pres eB))⟩ ) ?_
 intro v_ h1_2
 rintro ⟨rfl, e1_2⟩
 replace hb0_0 := BoxAt.ext hb0_0 e1_2
 replace hb0_1 := BoxAt.ext hb0_1 e1_2
 replace hb0_2 := BoxAt.ext hb0_2 e1_2
 have := Ext.size e1_2
 replace eB := Ext.trans eB e1_2
 try simp -implicitDefEqProofs (disch := first | decide | assumption | omega) only [go_sem, wrap_id, bF0]
 refine hK _ _ ?_
 clear hK K
 refine den_seq ?_
 refine den_region TTok ?_
 intro K hK
 simp -implicitDefEqProofs (disch := first | decide | assumption | omega) only [go_sem, wrap_id, bF0]
 refine hK _ _ ?_
 clear hK K
 refine den_cond rfl (fun c0 => ?_) (fun c0 => ?_)
 ·try simp only [decide_eq_true_eq, decide_eq_false_iff_not, beq_iff_eq, beq_eq_false_iff_ne, bne_iff_ne, ne_eq, Bool.not_eq_true', Bool.not_eq_false', Bool.and_eq_true, Bool.or_eq_true, bne_eq_false_iff_eq] at c0
  refine den_seq ?_
  refine den_region TTok ?_
  intro K hK
  simp -implicitDefEqProofs (disch := first | decide | assumption | omega) only [go_sem, wrap_id, bF0]
  refine op_storeB (cs' := #[.int .i64 ((0 : Int)), .slice none 0 0, .slice none 0 0, .slice none 0 0]) st33 hb0_2 rfl rfl rfl (by simp) (allOne_mem (l := [.int .i64 ((0 : Int)), .slice none 0 0, .slice none 0 0, .slice none 0 0]) ⟨rfl, rfl, rfl, rfl, trivial⟩) rfl ?_
  intro h3_2 hb0_2 c3_2
  have := c3_2.size
  replace eB := Ext.then eB c3_2 (ge_of hfhb0_2 (by omega))
  try simp -implicitDefEqProofs (disch := first | decide | assumption | omega) only [go_sem, wrap_id, bF0]
  refine hK _ _ ?_
  clear hK K
  refine den_ret ?_
  simp -implicitDefEqProofs (disch := first | decide | assumption | omega) only [go_sem, BoxAt.cell hb0_2, wrap_id, bF0, resP_ct, ld33]
  obtain ⟨m, hm, hm2⟩ := pgC_ne c0
  rw [hm]
  have hz : partR X q = (⟨⟨0, [], []⟩, []⟩, m) := by rw [← hm]; exact partR_n c0
  rw [hz]
  exact ⟨.slice none 0 0, .slice none 0 0, .slice none 0 0, [], [], [], rfl, OS.nil, OS.nil, OS.nil, Fresh.nil _, eB⟩
 ·try simp only [decide_eq_true_eq, decide_eq_false_iff_not, beq_iff_eq, beq_eq_false_iff_ne, bne_iff_ne, ne_eq, Bool.not_eq_true', Bool.not_eq_false', Bool.and_eq_true, Bool.or_eq_true, bne_eq_false_iff_eq] at c0
  obtain ⟨hF, _, _, hq5⟩ := pgC_0 c0
  have hC := hF.c
  have hlC := hC.len
  have hml := hC.ml
  have hln := hF.ln
  have hpb := isP_bnd hC.p
  refine den_skip ?_
  refine den_seq ?_
  refine den_region TTok ?_
  intro K hK
  simp -implicitDefEqProofs (disch := first | decide | assumption | omega) only [go_sem, fa33_0, ld31, RdS.len hdX sl22, RdS.idx hdX sl22, R1.intB hdX (Ext.pres eB), RdS.cells hdX, RdS.len hmX sl23, RdS.idx hmX sl23, RdS.cellB hmX (Ext.pres eB), RdS.cells hmX, RdS.len hvX sl26, RdS.idx hvX sl26, RdS.cellB hvX (Ext.pres eB), RdS.cells hvX, BoxAt.cell hb0_0, wrap_id, bF0]
  refine op_alloc (cs := #[.int .i64 0, .slice none 0 0, .slice none 0 0]) (by kernel_rfl) ?_
  intro h4_3 e4_3 hb4_3 z4_3
  replace hb0_0 := BoxAt.ext hb0_0 e4_3
  replace hb0_1 := BoxAt.ext hb0_1 e4_3
  replace hb0_2 := BoxAt.ext hb0_2 e4_3
  have := Ext.size e4_3
  replace eB := Ext.trans eB e4_3
  have hfhb4_3 : Fresh h1_2.size [h1_2.size] := Fresh.one _
  have hlhb4_3 := one_lt (show h1_2.size < h4_3.size by omega)
  try simp -implicitDefEqProofs (disch := first | decide | assumption | omega) only [go_sem, BoxAt.cell hb0_2, wrap_id, bF0]
  refine op_alloc (cs := #[.int .i64 0, .slice none 0 0, .slice none 0 0, .slice none 0 0]) (by kernel_rfl) ?_
  intro h4_4 e4_4 hb4_4 z4_4
  replace hb0_0 := BoxAt.ext hb0_0 e4_4
  replace hb0_1 := BoxAt.ext hb0_1 e4_4
  replace hb0_2 := BoxAt.ext hb0_2 e4_4
  replace hb4_3 := BoxAt.ext hb4_3 e4_4
  have := Ext.size e4_4
  replace eB := Ext.trans eB e4_4
  have hfhb4_4 : Fresh h4_3.size [h4_3.size] := Fresh.one _
  have hlhb4_4 := one_lt (show h4_3.size < h4_4.size by omega)
  try simp -implicitDefEqProofs (disch := first | decide | assumption | omega) only [go_sem, BoxAt.cell hb0_2, wrap_id, bF0]
  refine op_storeB (cs' := #[.int .i64 (X.c.p), vdX, vmX]) st31 hb4_3 rfl rfl rfl (by simp) (allOne_mem (l := [.int .i64 (X.c.p), vdX, vmX]) ⟨rfl, (RdS.one hdX), (RdS.one hmX), trivial⟩) rfl ?_
  intro h4_5 hb4_3 c4_5
  replace hb0_0 := BoxAt.chgA hb0_0 c4_5 (apart_lt hlhb0_0 hfhb4_3 (by omega))
  replace hb0_1 := BoxAt.chgA hb0_1 c4_5 (apart_lt hlhb0_1 hfhb4_3 (by omega))
  replace hb0_2 := BoxAt.chgA hb0_2 c4_5 (apart_lt hlhb0_2 hfhb4_3 (by omega))
  replace hb4_4 := BoxAt.chgA hb4_4 c4_5 (apart_gt hfhb4_4 hlhb4_3 (by omega))
  have := c4_5.size
  replace eB := Ext.then eB c4_5 (ge_of hfhb4_3 (by omega))
  try simp -implicitDefEqProofs (disch := first | decide | assumption | omega) only [go_sem, BoxAt.cell hb0_2, wrap_id, bF0]
  refine op_storeB (cs' := #[.int .i64 ((0 : Int)), .slice none 0 0, .slice none 0 0, .slice none 0 0]) st33 hb4_4 rfl rfl rfl (by simp) (allOne_mem (l := [.int .i64 ((0 : Int)), .slice none 0 0, .slice none 0 0, .slice none 0 0]) ⟨rfl, rfl, rfl, rfl, trivial⟩) rfl ?_
  intro h4_6 hb4_4 c4_6
  replace hb0_0 := BoxAt.chgA hb0_0 c4_6 (apart_lt hlhb0_0 hfhb4_4 (by omega))
  replace hb0_1 := BoxAt.chgA hb0_1 c4_6 (apart_lt hlhb0_1 hfhb4_4 (by omega))
  replace hb0_2 := BoxAt.chgA hb0_2 c4_6 (apart_lt hlhb0_2 hfhb4_4 (by omega))
  replace hb4_3 := BoxAt.chgA hb4_3 c4_6 (apart_lt hlhb4_3 hfhb4_4 (by omega))
  have := c4_6.size
  replace eB := Ext.then eB c4_6 (ge_of hfhb4_4 (by omega))
  try simp -implicitDefEqProofs (disch := first | decide | assumption | omega) only [go_sem, BoxAt.cell hb0_2, wrap_id, bF0]
  refine hK _ _ ?_
  clear hK K
  refine den_seq ?_
  refine den_region TTok ?_
  intro K hK
  simp -implicitDefEqProofs (disch := first | decide | assumption | omega) only [go_sem, BoxAt.cell hb0_2, wrap_id, bF0]
  refine op_bs0 sz22 OI ?_
  intro v5_0 h5_0 ho5_0 e5_0
  replace hb0_0 := BoxAt.ext hb0_0 e5_0
  replace hb0_1 := BoxAt.ext hb0_1 e5_0
  replace hb0_2 := BoxAt.ext hb0_2 e5_0
  replace hb4_3 := BoxAt.ext hb4_3 e5_0
  replace hb4_4 := BoxAt.ext hb4_4 e5_0
  have := Ext.size e5_0
  replace eB := Ext.trans eB e5_0
  have hfho5_0 : Fresh h4_6.size [h4_6.size] := Fresh.one _
  have hlho5_0 := OS.lt ho5_0
  try simp -implicitDefEqProofs (disch := first | decide | assumption | omega) only [go_sem, RdS.len (OS.rd ho5_0) sl22, RdS.idx (OS.rd ho5_0) sl22, R1.intN (OS.rd ho5_0), RdS.cells (OS.rd ho5_0), wrap_id, bF0]
  refine hK _ _ ?_
  clear hK K
  refine den_seq ?_
  refine den_seq ?_
  refine den_region TTok ?_
  intro K hK
  simp -implicitDefEqProofs (disch := first | decide | assumption | omega) only [go_sem, fa31_1, ld22, RdS.len hdX sl22, RdS.idx hdX sl22, R1.intB hdX (Ext.pres eB), RdS.cells hdX, RdS.len hmX sl23, RdS.idx hmX sl23, RdS.cellB hmX (Ext.pres eB), RdS.cells hmX, BoxAt.cell hb4_3, wrap_id, bF0]
  refine hK _ _ ?_
  clear hK K
  refine den_block ?_
  have hnil1 : O2 h5_0 (.slice none 0 0) [] [] := OS.nil
  have hfhnil1 : Fresh h5_0.size [] := Fresh.nil _
  have hlhnil1 := OS.lt hnil1
  refine den_sel [9, 28, 2, 3, 4, 7, 8, 27] ?_
  intro env_2
  simp only [go_sem]
  refine den_loopS (σ := Nat × Value × List Nat × Value × List Nat) (fun st_ => [(9, st_.2.2.2.1), (28, .int .i64 (st_.1 : Int))]) (fun st_ H => (st_.1 ≤ X.c.dims.length) ∧ (O2 H st_.2.1 (plvP X q st_.1) st_.2.2.1) ∧ (Fresh (h5_0.size) st_.2.2.1) ∧ (Sub (([] : List Nat) ++ ([h4_6.size] ++ ([h4_3.size]))) h5_0.size st_.2.2.1) ∧ (O1 H st_.2.2.2.1 (pdmP X q st_.1) st_.2.2.2.2) ∧ (Fresh (h4_6.size) st_.2.2.2.2) ∧ (Sub (([] : List Nat) ++ ([h4_6.size] ++ ([h4_3.size]))) h5_0.size st_.2.2.2.2) ∧ (BoxAt H (h4_3.size) #[.int .i64 ((0 : Int)), .slice none 0 0, .slice none 0 0, st_.2.1] 33) ∧ (Apart st_.2.2.1 st_.2.2.2.2) ∧ (Apart st_.2.2.1 [h4_3.size]) ∧ (Apart st_.2.2.2.2 [h4_3.size]) ∧ (Chg (([] : List Nat) ++ ([h4_6.size] ++ ([h4_3.size]))) h5_0 H)) (fun st_ => X.c.dims.length - st_.1) (0, .slice none 0 0, ([] : List Nat), v5_0, [h4_6.size]) ?_ ?_
  ·exact ⟨by first | (simp; done) | (dsimp only; omega) | (simp; omega), by show O2 _ _ [] _; exact hnil1, hfhnil1, (Sub.left Sub.refl), by show O1 _ _ [] _; exact ho5_0, hfho5_0, (Sub.right (Sub.left Sub.refl)), by simpa using hb4_4, (apart_gt hfhnil1 hlho5_0 (by omega)), (apart_gt hfhnil1 hlhb4_4 (by omega)), (apart_gt hfho5_0 hlhb4_4 (by omega)), Chg.refl _ _⟩
  ·rintro ⟨n, vhV, fphV, vhD, fphD⟩ h5 ee4 ⟨hi0, hV, hfhV, sbhV, hD, hfhD, sbhD, hbx8, ap_hV_hD, ap_hV_hbx8, ap_hD_hbx8, cL3⟩
   dsimp only at hi0 hV hfhV sbhV hD hfhD sbhD hbx8 ap_hV_hD ap_hV_hbx8 ap_hD_hbx8 cL3
   replace hb0_0 := BoxAt.chgA hb0_0 cL3 (Apart.app (apart_lt hlhb0_0 hfhnil1 (by omega)) (Apart.app (apart_lt hlhb0_0 hfho5_0 (by omega)) (apart_lt hlhb0_0 hfhb4_4 (by omega))))
   replace hb0_1 := BoxAt.chgA hb0_1 cL3 (Apart.app (apart_lt hlhb0_1 hfhnil1 (by omega)) (Apart.app (apart_lt hlhb0_1 hfho5_0 (by omega)) (apart_lt hlhb0_1 hfhb4_4 (by omega))))
   replace hb0_2 := BoxAt.chgA hb0_2 cL3 (Apart.app (apart_lt hlhb0_2 hfhnil1 (by omega)) (Apart.app (apart_lt hlhb0_2 hfho5_0 (by omega)) (apart_lt hlhb0_2 hfhb4_4 (by omega))))
   replace hb4_3 := BoxAt.chgA hb4_3 cL3 (Apart.app (apart_lt hlhb4_3 hfhnil1 (by omega)) (Apart.app (apart_lt hlhb4_3 hfho5_0 (by omega)) (apart_lt hlhb4_3 hfhb4_4 (by omega))))
   have := cL3.size
   replace eB := Ext.then eB cL3 (ge_app (ge_of hfhnil1 (by omega)) (ge_app (ge_of hfho5_0 (by omega)) (ge_of hfhb4_4 (by omega))))
   have hlhV := OS.lt hV
   have hlhD := OS.lt hD
   have hfhbx8 := hfhb4_4
   have hlhbx8 := hlhb4_4
   simp only [List.cons_append, List.nil_append]
   have hlD0 := pdmP_len X q n
   have hlV0 := plvP_len X q n
   have hkl := keptP_len hF (n : Int) q
   refine den_seq ?_
   refine den_region TTok ?_
   intro K hK
   simp -implicitDefEqProofs (disch := first | decide | assumption | omega) only [go_sem, wrap_id, bF0]
   refine hK _ _ ?_
   clear hK K
   refine den_seq ?_
   refine den_cond rfl (fun c1 => ?_) (fun c1 => ?_)
   ·try simp only [decide_eq_true_eq, decide_eq_false_iff_not, beq_iff_eq, beq_eq_false_iff_ne, bne_iff_ne, ne_eq, Bool.not_eq_true', Bool.not_eq_false', Bool.and_eq_true, Bool.or_eq_true, bne_eq_false_iff_eq] at c1
    refine den_skip ?_
    refine den_seq ?_
    refine den_block ?_
    refine den_seq ?_
    refine den_region TTok ?_
    intro K hK
    simp -implicitDefEqProofs (disch := first | decide | assumption | omega) only [go_sem, wrap_id, bF0]
    refine hK _ _ ?_
    clear hK K
    refine den_seq ?_
    refine den_region TTok ?_
    intro K hK
    simp -implicitDefEqProofs (disch := first | decide | assumption | omega) only [go_sem, BoxAt.cell hb0_2, wrap_id, bF0]
    refine op_bs0 sz22 OI ?_
    intro v9_0 h9_0 ho9_0 e9_0
    replace hV := OS.ext hV e9_0
    replace hD := OS.ext hD e9_0
    replace hb0_0 := BoxAt.ext hb0_0 e9_0
    replace hb0_1 := BoxAt.ext hb0_1 e9_0
    replace hb0_2 := BoxAt.ext hb0_2 e9_0
    replace hb4_3 := BoxAt.ext hb4_3 e9_0
    replace hbx8 := BoxAt.ext hbx8 e9_0
    have := Ext.size e9_0
    replace eB := Ext.trans eB e9_0
    replace cL3 := Chg.stepE cL3 e9_0
    have hfho9_0 : Fresh h5.size [h5.size] := Fresh.one _
    have hlho9_0 := OS.lt ho9_0
    try simp -implicitDefEqProofs (disch := first | decide | assumption | omega) only [go_sem, RdS.len (OS.rd ho9_0) sl22, RdS.idx (OS.rd ho9_0) sl22, R1.intN (OS.rd ho9_0), RdS.cells (OS.rd ho9_0), wrap_id, bF0]
    refine hK _ _ ?_
    clear hK K
    refine den_seq ?_
    refine den_seq ?_
    refine den_region TTok ?_
    intro K hK
    simp -implicitDefEqProofs (disch := first | decide | assumption | omega) only [go_sem, ld2, ld33, RdS.len hdX sl22, RdS.idx hdX sl22, R1.intB hdX (Ext.pres eB), RdS.cells hdX, RdS.len hmX sl23, RdS.idx hmX sl23, RdS.cellB hmX (Ext.pres eB), RdS.cells hmX, RdS.len hvX sl26, RdS.idx hvX sl26, RdS.cellB hvX (Ext.pres eB), RdS.cells hvX, BoxAt.cell hb0_0, BoxAt.cell hb0_1, wrap_id, bF0]
    try simp -implicitDefEqProofs (disch := first | decide | assumption | omega) only [go_sem, BoxAt.cell hb0_2, wrap_id, bF0]
    refine CallA.mono (iKept_ok _ X (n : Int) q _ ⟨_, _, _, rfl, (RdS.pres hdX (Ext.pres eB)), (RdS.pres hmX (Ext.pres eB)), (RdS.pres hvX (Ext.pres eB))⟩ hF (by omega)) ?_
    intro vw10_3_0 h10_3
    rintro ⟨zvw10_3_0, fw10_3_0, rfl, how10_3_0, hfw10_3_0, e10_3⟩
    replace hV := OS.ext hV e10_3
    replace hD := OS.ext hD e10_3
    replace ho9_0 := OS.ext ho9_0 e10_3
    replace hb0_0 := BoxAt.ext hb0_0 e10_3
    replace hb0_1 := BoxAt.ext hb0_1 e10_3
    replace hb0_2 := BoxAt.ext hb0_2 e10_3
    replace hb4_3 := BoxAt.ext hb4_3 e10_3
    replace hbx8 := BoxAt.ext hbx8 e10_3
    have := Ext.size e10_3
    replace eB := Ext.trans eB e10_3
    replace cL3 := Chg.stepE cL3 e10_3
    have hlhow10_3_0 := OS.lt how10_3_0
    try simp -implicitDefEqProofs (disch := first | decide | assumption | omega) only [go_sem, RdS.len (OS.rd how10_3_0) sl22, RdS.idx (OS.rd how10_3_0) sl22, R1.intN (OS.rd how10_3_0), RdS.cells (OS.rd how10_3_0), wrap_id, bF0]
    refine hK _ _ ?_
    clear hK K
    refine den_block ?_
    refine den_sel [11, 37, 2, 3, 4, 7, 8, 9, 10, 27, 28, 35, 36] ?_
    intro env_6
    simp only [go_sem]
    refine den_loopS (σ := Nat × Value × List Nat) (fun st_ => [(11, st_.2.1), (37, .int .i64 (st_.1 : Int))]) (fun st_ H => (st_.1 ≤ (keptP X (n : Int) q).length) ∧ (O1 H st_.2.1 (((keptP X (n : Int) q).take st_.1).map fun z : Int => lvP X (n : Int) z) st_.2.2) ∧ (Fresh (h5.size) st_.2.2) ∧ (Sub [h5.size] h10_3.size st_.2.2) ∧ (Chg [h5.size] h10_3 H)) (fun st_ => (keptP X (n : Int) q).length - st_.1) (0, v9_0, [h5.size]) ?_ ?_
    ·exact ⟨by first | (simp; done) | (dsimp only; omega) | (simp; omega), by simpa using ho9_0, hfho9_0, Sub.refl, Chg.refl _ _⟩
    ·rintro ⟨i, vhL, fphL⟩ h9 ee8 ⟨hi0, hL, hfhL, sbhL, cL7⟩
     dsimp only at hi0 hL hfhL sbhL cL7
     replace hV := OS.chg hV cL7 (apart_lt hlhV hfho9_0 (by omega))
     replace hD := OS.chg hD cL7 (apart_lt hlhD hfho9_0 (by omega))
     replace how10_3_0 := OS.chg how10_3_0 cL7 (apart_gt hfw10_3_0 hlho9_0 (by omega))
     replace hb0_0 := BoxAt.chgA hb0_0 cL7 (apart_lt hlhb0_0 hfho9_0 (by omega))
     replace hb0_1 := BoxAt.chgA hb0_1 cL7 (apart_lt hlhb0_1 hfho9_0 (by omega))
     replace hb0_2 := BoxAt.chgA hb0_2 cL7 (apart_lt hlhb0_2 hfho9_0 (by omega))
     replace hb4_3 := BoxAt.chgA hb4_3 cL7 (apart_lt hlhb4_3 hfho9_0 (by omega))
     replace hbx8 := BoxAt.chgA hbx8 cL7 (apart_lt hlhbx8 hfho9_0 (by omega))
     have := cL7.size
     replace eB := Ext.then eB cL7 (ge_of hfho9_0 (by omega))
     replace cL3 := Chg.step cL3 cL7 (Sub.fresh hfho9_0 (by omega))
     have ap10 : Apart fw10_3_0 fphL := Apart.sub_ hlhow10_3_0 (by omega) (apart_gt hfw10_3_0 hlho9_0 (by omega)) sbhL
     have hlhL := OS.lt hL
     simp only [List.cons_append, List.nil_append]
     refine den_seq ?_
     refine den_region TTok ?_
     intro K hK
     simp -implicitDefEqProofs (disch := first | decide | assumption | omega) only [go_sem, wrap_id, bF0]
     refine hK _ _ ?_
     clear hK K
     refine den_seq ?_
     refine den_cond rfl (fun c2 => ?_) (fun c2 => ?_)
     ·try simp only [decide_eq_true_eq, decide_eq_false_iff_not, beq_iff_eq, beq_eq_false_iff_ne, bne_iff_ne, ne_eq, Bool.not_eq_true', Bool.not_eq_false', Bool.and_eq_true, Bool.or_eq_true, bne_eq_false_iff_eq] at c2
      refine den_skip ?_
      refine den_seq ?_
      refine den_block ?_
      refine den_seq ?_
      refine den_region TTok ?_
      intro K hK
      simp -implicitDefEqProofs (disch := first | decide | assumption | omega) only [go_sem, ld2, RdS.len (OS.rd how10_3_0) sl22, RdS.idx (OS.rd how10_3_0) sl22, R1.intN (OS.rd how10_3_0), RdS.cells (OS.rd how10_3_0), wrap_id, bF0]
      refine hK _ _ ?_
      clear hK K
      have hlp := lvl_pre hF (n := (n : Int)) (q := q) (i := i) (by omega)
      rw [Int.toNat_natCast] at hlp
      have hmt : (((keptP X (n : Int) q).take i).map fun z : Int => lvP X (n : Int) z).length ≤ 8 := by rw [List.length_map, List.length_take]; omega
      refine den_region TTok ?_
      intro K hK
      have hr11 := RdS.rowN hvX n (by omega)
      have hlhr11 := RdS.le hr11
      simp -implicitDefEqProofs (disch := first | decide | assumption | omega) only [go_sem, fa33_1, ld26, ld22, ld2, RdS.len hdX sl22, RdS.idx hdX sl22, R1.intB hdX (Ext.pres eB), RdS.cells hdX, RdS.len hmX sl23, RdS.idx hmX sl23, RdS.cellB hmX (Ext.pres eB), RdS.cells hmX, RdS.len hvX sl26, RdS.idx hvX sl26, RdS.cellB hvX (Ext.pres eB), RdS.cells hvX, RdS.len hr11 sl22, RdS.idx hr11 sl22, R1.intB hr11 (Ext.pres eB), RdS.cells hr11, RdS.len (OS.rd hL) sl22, RdS.idx (OS.rd hL) sl22, R1.intN (OS.rd hL), RdS.cells (OS.rd hL), BoxAt.cell hb0_0, wrap_id, bF0]
      refine op_bs1 sz22 rfl rfl ?_
      try simp -implicitDefEqProofs (disch := first | decide | assumption | omega) only [go_sem, BoxAt.cell hb0_2, wrap_id, bF0]
      refine op_append1 sz22 hL hfhL.nodup ⟨rfl, rfl⟩ List.nodup_nil (Apart.nil _) (by first | omega | (simp; omega)) rfl rfl ?_
      intro v13_10 h13_10 fp13_10 ho13_10 hn13_10 hs13_10 c13_10
      have hsz13_10 := c13_10.size
      have hfho13_10 : Fresh h5.size fp13_10 := Fresh.appd hfhL (Fresh.nil h9.size) (by omega) (by omega) hn13_10 hs13_10
      have sb12 : Sub [h5.size] h10_3.size fp13_10 := Sub.grow sbhL Sub.nil (by omega) hs13_10
      replace hV := OS.chg hV c13_10 (apart_lt hlhV hfhL (by omega))
      replace hD := OS.chg hD c13_10 (apart_lt hlhD hfhL (by omega))
      replace how10_3_0 := OS.chg how10_3_0 c13_10 ap10
      replace hb0_0 := BoxAt.chgA hb0_0 c13_10 (apart_lt hlhb0_0 hfhL (by omega))
      replace hb0_1 := BoxAt.chgA hb0_1 c13_10 (apart_lt hlhb0_1 hfhL (by omega))
      replace hb0_2 := BoxAt.chgA hb0_2 c13_10 (apart_lt hlhb0_2 hfhL (by omega))
      replace hb4_3 := BoxAt.chgA hb4_3 c13_10 (apart_lt hlhb4_3 hfhL (by omega))
      replace hbx8 := BoxAt.chgA hbx8 c13_10 (apart_lt hlhbx8 hfhL (by omega))
      have := c13_10.size
      replace eB := Ext.then eB c13_10 (ge_of hfhL (by omega))
      replace cL3 := Chg.step cL3 c13_10 (Sub.fresh hfhL (by omega))
      replace cL7 := Chg.step cL7 c13_10 sbhL
      have ap13 : Apart fw10_3_0 fp13_10 := Apart.grow hlhow10_3_0 (by omega) ap10 (Apart.nil _) hs13_10
      have hlho13_10 := OS.lt ho13_10
      try simp -implicitDefEqProofs (disch := first | decide | assumption | omega) only [go_sem, RdS.len (OS.rd ho13_10) sl22, RdS.idx (OS.rd ho13_10) sl22, R1.intN (OS.rd ho13_10), RdS.cells (OS.rd ho13_10), wrap_id, bF0]
      refine hK _ _ ?_
      clear hK K
      refine den_blk ?_
      refine den_region TTok ?_
      intro K hK
      simp -implicitDefEqProofs (disch := first | decide | assumption | omega) only [go_sem, wrap_id, bF0]
      refine hK _ _ ?_
      clear hK K
      refine den_stop ?_
      rw [show (X.lv.getD n default).getD ((keptP X (n : Int) q).getD i 0).toNat 0 = lvP X (n : Int) ((keptP X (n : Int) q).getD i 0) by rw [lvP, Int.toNat_natCast], map_takeL (f := fun z : Int => lvP X (n : Int) z) (d := 0) (by omega)] at ho13_10
      exact ⟨(i + 1, v13_10, fp13_10), by simp [HasL, puts_at], ⟨by first | omega | (dsimp only; omega), ho13_10, hfho13_10, sb12, cL7⟩, by first | omega | (dsimp only; omega)⟩
     ·try simp only [decide_eq_true_eq, decide_eq_false_iff_not, beq_iff_eq, beq_eq_false_iff_ne, bne_iff_ne, ne_eq, Bool.not_eq_true', Bool.not_eq_false', Bool.and_eq_true, Bool.or_eq_true, bne_eq_false_iff_eq] at c2
      refine den_exit ?_
      refine denX_code ?_
      refine denX_stop ?_
      refine denX_hit ?_
      have hlvl : (((keptP X (n : Int) q).take i).map fun z : Int => lvP X (n : Int) z) = lvlP X q (n : Int) := map_takeE (by omega)
      have hlv_ : (((keptP X (n : Int) q).take i).map fun z : Int => lvP X (n : Int) z).length = (keptP X (n : Int) q).length := by rw [hlvl, lvlP_len]
      refine den_region TTok ?_
      intro K hK
      simp -implicitDefEqProofs (disch := first | decide | assumption | omega) only [go_sem, fa33_1, ld26, RdS.len (OS.rd hV) sl26, RdS.idx (OS.rd hV) sl26, RdS.cellN (OS.rd hV), RdS.cells (OS.rd hV), RdS.len (OS.rd hL) sl22, RdS.idx (OS.rd hL) sl22, R1.intN (OS.rd hL), RdS.cells (OS.rd hL), BoxAt.cell hbx8, wrap_id, bF0]
      refine op_bs1 sz26 rfl (OS.one hL).2 ?_
      try simp -implicitDefEqProofs (disch := first | decide | assumption | omega) only [go_sem, BoxAt.cell hb0_2, wrap_id, bF0]
      refine op_append1 sz26 hV hfhV.nodup hL hfhL.nodup (apart_lt hlhV hfhL (by omega)) (by first | omega | (simp; omega)) rfl rfl ?_
      intro v15_4 h15_4 fp15_4 ho15_4 hn15_4 hs15_4 c15_4
      have hsz15_4 := c15_4.size
      have hfho15_4 : Fresh h5_0.size fp15_4 := Fresh.appd hfhV hfhL (by omega) (by omega) hn15_4 hs15_4
      have sb14 : Sub (([] : List Nat) ++ ([h4_6.size] ++ ([h4_3.size]))) h5_0.size fp15_4 := Sub.grow sbhV (Sub.fresh hfhL (by omega)) (by omega) hs15_4
      replace hD := OS.chg hD c15_4 (Apart.symm ap_hV_hD)
      replace hb0_0 := BoxAt.chgA hb0_0 c15_4 (apart_lt hlhb0_0 hfhV (by omega))
      replace hb0_1 := BoxAt.chgA hb0_1 c15_4 (apart_lt hlhb0_1 hfhV (by omega))
      replace hb0_2 := BoxAt.chgA hb0_2 c15_4 (apart_lt hlhb0_2 hfhV (by omega))
      replace hb4_3 := BoxAt.chgA hb4_3 c15_4 (apart_lt hlhb4_3 hfhV (by omega))
      replace hbx8 := BoxAt.chgA hbx8 c15_4 (Apart.symm ap_hV_hbx8)
      have := c15_4.size
      replace eB := Ext.then eB c15_4 (ge_of hfhV (by omega))
      replace cL3 := Chg.step cL3 c15_4 sbhV
      have ap15 : Apart fphD fp15_4 := Apart.grow hlhD (by omega) (Apart.symm ap_hV_hD) (apart_lt hlhD hfhL (by omega)) hs15_4
      have ap16 : Apart [h4_3.size] fp15_4 := Apart.grow hlhbx8 (by omega) (Apart.symm ap_hV_hbx8) (apart_lt hlhbx8 hfhL (by omega)) hs15_4
      have hlho15_4 := OS.lt ho15_4
      try simp -implicitDefEqProofs (disch := first | decide | assumption | omega) only [go_sem, RdS.len (OS.rd hD) sl22, RdS.idx (OS.rd hD) sl22, R1.intN (OS.rd hD), RdS.cells (OS.rd hD), wrap_id, bF0]
      try simp -implicitDefEqProofs (disch := first | decide | assumption | omega) only [go_sem, BoxAt.cell hb0_2, wrap_id, bF0]
      refine CallA.mono (sizeV_ok _ _ _ (OS.vl hL) (by omega)) ?_
      intro v_ h15_7
      rintro ⟨rfl, e15_7⟩
      replace hD := OS.ext hD e15_7
      replace ho15_4 := OS.ext ho15_4 e15_7
      replace hb0_0 := BoxAt.ext hb0_0 e15_7
      replace hb0_1 := BoxAt.ext hb0_1 e15_7
      replace hb0_2 := BoxAt.ext hb0_2 e15_7
      replace hb4_3 := BoxAt.ext hb4_3 e15_7
      replace hbx8 := BoxAt.ext hbx8 e15_7
      have := Ext.size e15_7
      replace eB := Ext.trans eB e15_7
      replace cL3 := Chg.stepE cL3 e15_7
      try simp -implicitDefEqProofs (disch := first | decide | assumption | omega) only [go_sem, BoxAt.cell hb0_2, wrap_id, bF0]
      refine op_bs1 sz22 rfl rfl ?_
      try simp -implicitDefEqProofs (disch := first | decide | assumption | omega) only [go_sem, BoxAt.cell hb0_2, wrap_id, bF0]
      refine op_append1 sz22 hD hfhD.nodup ⟨rfl, rfl⟩ List.nodup_nil (Apart.nil _) (by first | omega | (simp; omega)) rfl rfl ?_
      intro v15_9 h15_9 fp15_9 ho15_9 hn15_9 hs15_9 c15_9
      have hsz15_9 := c15_9.size
      have hfho15_9 : Fresh h4_6.size fp15_9 := Fresh.appd hfhD (Fresh.nil h15_7.size) (by omega) (by omega) hn15_9 hs15_9
      have sb17 : Sub (([] : List Nat) ++ ([h4_6.size] ++ ([h4_3.size]))) h5_0.size fp15_9 := Sub.grow sbhD Sub.nil (by omega) hs15_9
      replace ho15_4 := OS.chg ho15_4 c15_9 (Apart.symm ap15)
      replace hb0_0 := BoxAt.chgA hb0_0 c15_9 (apart_lt hlhb0_0 hfhD (by omega))
      replace hb0_1 := BoxAt.chgA hb0_1 c15_9 (apart_lt hlhb0_1 hfhD (by omega))
      replace hb0_2 := BoxAt.chgA hb0_2 c15_9 (apart_lt hlhb0_2 hfhD (by omega))
      replace hb4_3 := BoxAt.chgA hb4_3 c15_9 (apart_lt hlhb4_3 hfhD (by omega))
      replace hbx8 := BoxAt.chgA hbx8 c15_9 (Apart.symm ap_hD_hbx8)
      have := c15_9.size
      replace eB := Ext.then eB c15_9 (ge_of hfhD (by omega))
      replace cL3 := Chg.step cL3 c15_9 sbhD
      have ap18 : Apart fp15_4 fp15_9 := Apart.grow hlho15_4 (by omega) (Apart.symm ap15) (Apart.nil _) hs15_9
      have ap19 : Apart [h4_3.size] fp15_9 := Apart.grow hlhbx8 (by omega) (Apart.symm ap_hD_hbx8) (Apart.nil _) hs15_9
      have hlho15_9 := OS.lt ho15_9
      try simp -implicitDefEqProofs (disch := first | decide | assumption | omega) only [go_sem, fa33_1, BoxAt.cell hbx8, wrap_id, bF0]
      refine op_storeB (cs' := #[.int .i64 ((0 : Int)), .slice none 0 0, .slice none 0 0, v15_4]) st26 hbx8 rfl (OS.one ho15_4).2 rfl (by simp) (allOne_mem (l := [v15_4]) ⟨(OS.one ho15_4).1, trivial⟩) rfl ?_
      intro h15_11 hbx8 c15_11
      replace ho15_4 := OS.chg ho15_4 c15_11 (Apart.symm ap16)
      replace ho15_9 := OS.chg ho15_9 c15_11 (Apart.symm ap19)
      replace hb0_0 := BoxAt.chgA hb0_0 c15_11 (apart_lt hlhb0_0 hfhbx8 (by omega))
      replace hb0_1 := BoxAt.chgA hb0_1 c15_11 (apart_lt hlhb0_1 hfhbx8 (by omega))
      replace hb0_2 := BoxAt.chgA hb0_2 c15_11 (apart_lt hlhb0_2 hfhbx8 (by omega))
      replace hb4_3 := BoxAt.chgA hb4_3 c15_11 (apart_lt hlhb4_3 hfhbx8 (by omega))
      have := c15_11.size
      replace eB := Ext.then eB c15_11 (ge_of hfhbx8 (by omega))
      replace cL3 := Chg.step cL3 c15_11 (Sub.right (Sub.right Sub.refl))
      try simp -implicitDefEqProofs (disch := first | decide | assumption | omega) only [go_sem, RdS.len (OS.rd ho15_9) sl22, RdS.idx (OS.rd ho15_9) sl22, R1.intN (OS.rd ho15_9), RdS.cells (OS.rd ho15_9), wrap_id, bF0]
      refine hK _ _ ?_
      clear hK K
      refine den_blk ?_
      refine den_region TTok ?_
      intro K hK
      simp -implicitDefEqProofs (disch := first | decide | assumption | omega) only [go_sem, wrap_id, bF0]
      refine hK _ _ ?_
      clear hK K
      refine den_stop ?_
      rw [hlv_, pdmP_step] at ho15_9
      rw [hlvl, plvP_step] at ho15_4
      exact ⟨(n + 1, v15_4, fp15_4, v15_9, fp15_9), by simp [HasL, puts_at], ⟨by first | omega | (dsimp only; omega), ho15_4, hfho15_4, sb14, ho15_9, hfho15_9, sb17, hbx8, ap18, (Apart.symm ap16), (Apart.symm ap19), cL3⟩, by first | omega | (dsimp only; omega)⟩
   ·try simp only [decide_eq_true_eq, decide_eq_false_iff_not, beq_iff_eq, beq_eq_false_iff_ne, bne_iff_ne, ne_eq, Bool.not_eq_true', Bool.not_eq_false', Bool.and_eq_true, Bool.or_eq_true, bne_eq_false_iff_eq] at c1
    refine den_exit ?_
    refine denX_code ?_
    refine denX_stop ?_
    refine denX_hit ?_
    refine den_seq ?_
    rw [show n = X.c.dims.length by omega] at hD
    have hdl := pdmP_len X q X.c.dims.length
    have hbL : (pdmP X q X.c.dims.length).length ≤ 16 := by omega
    have hbD : (pdmP X q X.c.dims.length).all (fun x => in3 x 0 8) = true := List.all_eq_true.2 fun x hx => by
     obtain ⟨m, _, rfl⟩ := List.mem_map.1 hx
     have := keptP_len hF (m : Int) q
     exact in3_iff.2 ⟨by omega, by omega⟩
    refine den_region TTok ?_
    intro K hK
    simp -implicitDefEqProofs (disch := first | decide | assumption | omega) only [go_sem, fa31_0, ld2, RdS.len hdX sl22, RdS.idx hdX sl22, R1.intB hdX (Ext.pres eB), RdS.cells hdX, RdS.len hmX sl23, RdS.idx hmX sl23, RdS.cellB hmX (Ext.pres eB), RdS.cells hmX, RdS.len (OS.rd hD) sl22, RdS.idx (OS.rd hD) sl22, R1.intN (OS.rd hD), RdS.cells (OS.rd hD), BoxAt.cell hb4_3, wrap_id, bF0]
    try simp -implicitDefEqProofs (disch := first | decide | assumption | omega) only [go_sem, BoxAt.cell hb0_2, wrap_id, bF0]
    refine CallA.mono (blank_ok _ _ (pdmP X q X.c.dims.length) _ (OS.rd hD) hbD hbL) ?_
    intro v_ h17_3
    rintro ⟨vw17_3, fw17_3, rfl, how17_3, hfw17_3, e17_3⟩
    replace hV := OS.ext hV e17_3
    replace hD := OS.ext hD e17_3
    replace hb0_0 := BoxAt.ext hb0_0 e17_3
    replace hb0_1 := BoxAt.ext hb0_1 e17_3
    replace hb0_2 := BoxAt.ext hb0_2 e17_3
    replace hb4_3 := BoxAt.ext hb4_3 e17_3
    replace hbx8 := BoxAt.ext hbx8 e17_3
    have := Ext.size e17_3
    replace eB := Ext.trans eB e17_3
    have hlhow17_3 := OS.lt how17_3
    try simp -implicitDefEqProofs (disch := first | decide | assumption | omega) only [go_sem, fa33_0, RdS.len (OS.rd hV) sl26, RdS.idx (OS.rd hV) sl26, RdS.cellN (OS.rd hV), RdS.cells (OS.rd hV), BoxAt.cell hbx8, wrap_id, bF0]
    refine op_storeB (cs' := #[.int .i64 (X.c.p), vhD, vw17_3, vhV]) st31 hbx8 rfl rfl rfl (by simp) (allOne_mem (l := [.int .i64 (X.c.p), vhD, vw17_3]) ⟨rfl, (OS.one hD).1, (OS.one how17_3).1, trivial⟩) rfl ?_
    intro h17_5 hbx8 c17_5
    replace hV := OS.chg hV c17_5 ap_hV_hbx8
    replace hD := OS.chg hD c17_5 ap_hD_hbx8
    replace how17_3 := OS.chg how17_3 c17_5 (apart_gt hfw17_3 hlhbx8 (by omega))
    replace hb0_0 := BoxAt.chgA hb0_0 c17_5 (apart_lt hlhb0_0 hfhbx8 (by omega))
    replace hb0_1 := BoxAt.chgA hb0_1 c17_5 (apart_lt hlhb0_1 hfhbx8 (by omega))
    replace hb0_2 := BoxAt.chgA hb0_2 c17_5 (apart_lt hlhb0_2 hfhbx8 (by omega))
    replace hb4_3 := BoxAt.chgA hb4_3 c17_5 (apart_lt hlhb4_3 hfhbx8 (by omega))
    have := c17_5.size
    replace eB := Ext.then eB c17_5 (ge_of hfhbx8 (by omega))
    try simp -implicitDefEqProofs (disch := first | decide | assumption | omega) only [go_sem, BoxAt.cell hb0_2, wrap_id, bF0]
    refine hK _ _ ?_
    clear hK K
    refine den_seq ?_
    have hl_ : (pdmP X q X.c.dims.length).length - 1 = X.c.dims.length - 1 := by omega
    have hzs : Sh (X.c.dims.length - 1) (parA X q) (parB X q) (zblk (pdmP X q X.c.dims.length) ((pdmP X q X.c.dims.length).length - 1)) := by rw [hl_]; exact zblk_sh _ _
    have hzi : In3 X.c.p (X.c.dims.length - 1) (parA X q) (parB X q) (zblk (pdmP X q X.c.dims.length) ((pdmP X q X.c.dims.length).length - 1)) := fun k r c h1 h2 h3 => by rw [hl_, zblk_get _ _ h1 h2 h3]; omega
    refine den_region TTok ?_
    intro K hK
    simp -implicitDefEqProofs (disch := first | decide | assumption | omega) only [go_sem, ld31, RdS.len hdX sl22, RdS.idx hdX sl22, R1.intB hdX (Ext.pres eB), RdS.cells hdX, RdS.len hmX sl23, RdS.idx hmX sl23, RdS.cellB hmX (Ext.pres eB), RdS.cells hmX, RdS.len hvX sl26, RdS.idx hvX sl26, RdS.cellB hvX (Ext.pres eB), RdS.cells hvX, RdS.len (OS.rd hV) sl26, RdS.idx (OS.rd hV) sl26, RdS.cellN (OS.rd hV), RdS.cells (OS.rd hV), RdS.len (OS.rd hD) sl22, RdS.idx (OS.rd hD) sl22, R1.intN (OS.rd hD), RdS.cells (OS.rd hD), RdS.len (OS.rd how17_3) sl23, RdS.idx (OS.rd how17_3) sl23, RdS.cellN (OS.rd how17_3), RdS.cells (OS.rd how17_3), BoxAt.cell hb0_0, BoxAt.cell hb0_1, BoxAt.cell hb4_3, BoxAt.cell hbx8, wrap_id, bF0]
    try simp -implicitDefEqProofs (disch := first | decide | assumption | omega) only [go_sem, BoxAt.cell hb0_2, wrap_id, bF0]
    refine CallA.mono (each_upd (X := X.c) (p := X.c.p) (L := X.c.dims.length - 1) (A := parA X q) (B := parB X q) (U := parU X q) (Ot := (fun H => BoxAt H (h4_3.size) #[.int .i64 X.c.p, vhD, vw17_3, vhV] 33 ∧ BoxAt H (h.size) #[.int .i64 X.c.p, vdX, vmX, vvX] 33 ∧ BoxAt H (h0_0.size) #[.int .i64 q] 2 ∧ O1 H vhD (pdmP X q X.c.dims.length) fphD)) hpb.1 hdX hmX ⟨how17_3, hzs, hzi, eB, hbx8, hb0_0, hb0_1, hD⟩ (fun H H' c o => ⟨BoxAt.chgA o.1 c (apart_lt hlhbx8 hfw17_3 (by omega)), BoxAt.chgA o.2.1 c (apart_lt hlhb0_0 hfw17_3 (by omega)), BoxAt.chgA o.2.2.1 c (apart_lt hlhb0_1 hfw17_3 (by omega)), OS.chg o.2.2.2 c (apart_lt hlhD hfw17_3 (by omega))⟩) (ge_of hfw17_3 (by omega)) (fun k i j hk hi hj u hu => par_inU hC hk _ u hu) (fun s H k i j hk hi hj r => by
  simp only [List.append_toArray, List.cons_append, List.nil_append]
  have hnm := hC.num hk hi hj
  have hle := hC.lens hk
  have hle2 := hle.2 i hi
  have hd1 := dm_at hC.dm (k := k + 1) (by omega)
  have hd0 := dm_at hC.dm (k := k) (by omega)
  have hg1 := posI_ge (i : Int) (keptP X ((k : Int) + 1) q)
  have hg2 := posI_ge (j : Int) (keptP X (k : Int) q)
  have hr1 := r.sh.rows k (by omega)
  rw [parA_eq X q (by omega)] at hr1
  have hsl := r.sh.len
  refine (part1_ok X q _ _ _ _ _ _ (pdmP X q X.c.dims.length) s _ k i j _ _ _ _ h H hdX hmX hvX (OS.rd r.ot.2.2.2) r.o r.e r.ot.1 r.ot.2.1 r.ot.2.2.1 hF hfw17_3.nodup hk (by omega) hq5 hnm (fun q1 q2 => ?_)).mono (fun u H' q => ⟨q.2.1, q.2.2⟩)
  have hr2 := r.sh.cols k (posI (keptP X ((k : Int) + 1) q) (i : Int)).toNat (by omega) (by rw [parA_eq X q (by omega)]; omega)
  rw [parB_eq X q (by omega)] at hr2
  have hi3 := r.i3 k (posI (keptP X ((k : Int) + 1) q) (i : Int)).toNat (posI (keptP X (k : Int) q) (j : Int)).toNat (by omega) (by rw [parA_eq X q (by omega)]; omega) (by rw [parB_eq X q (by omega)]; omega)
  exact ⟨by omega, by omega, by omega, hi3⟩)) ?_
    intro v_ h18_2
    rintro ⟨rfl, hog18_2, cg18_2⟩
    replace hV := OS.chg hV cg18_2 (apart_lt hlhV hfw17_3 (by omega))
    replace hD := OS.chg hD cg18_2 (apart_lt hlhD hfw17_3 (by omega))
    replace hb0_0 := BoxAt.chgA hb0_0 cg18_2 (apart_lt hlhb0_0 hfw17_3 (by omega))
    replace hb0_1 := BoxAt.chgA hb0_1 cg18_2 (apart_lt hlhb0_1 hfw17_3 (by omega))
    replace hb0_2 := BoxAt.chgA hb0_2 cg18_2 (apart_lt hlhb0_2 hfw17_3 (by omega))
    replace hb4_3 := BoxAt.chgA hb4_3 cg18_2 (apart_lt hlhb4_3 hfw17_3 (by omega))
    replace hbx8 := BoxAt.chgA hbx8 cg18_2 (apart_lt hlhbx8 hfw17_3 (by omega))
    have := cg18_2.size
    replace eB := Ext.then eB cg18_2 (ge_of hfw17_3 (by omega))
    have hlhog18_2 := hlhow17_3
    try simp -implicitDefEqProofs (disch := first | decide | assumption | omega) only [go_sem, BoxAt.cell hb0_2, wrap_id, bF0]
    refine hK _ _ ?_
    clear hK K
    refine den_seq ?_
    refine den_region TTok ?_
    intro K hK
    simp -implicitDefEqProofs (disch := first | decide | assumption | omega) only [go_sem, ld33, RdS.len (OS.rd hV) sl26, RdS.idx (OS.rd hV) sl26, RdS.cellN (OS.rd hV), RdS.cells (OS.rd hV), RdS.len (OS.rd hD) sl22, RdS.idx (OS.rd hD) sl22, R1.intN (OS.rd hD), RdS.cells (OS.rd hD), RdS.len (OS.rd hog18_2) sl23, RdS.idx (OS.rd hog18_2) sl23, RdS.cellN (OS.rd hog18_2), RdS.cells (OS.rd hog18_2), BoxAt.cell hbx8, wrap_id, bF0]
    refine op_storeB (cs' := #[.int .i64 (X.c.p), vhD, vw17_3, vhV]) st33 hb0_2 rfl rfl rfl (by simp) (allOne_mem (l := [.int .i64 (X.c.p), vhD, vw17_3, vhV]) ⟨rfl, (OS.one hD).1, (OS.one hog18_2).1, (OS.one hV).1, trivial⟩) rfl ?_
    intro h19_1 hb0_2 c19_1
    replace hV := OS.chg hV c19_1 (apart_gt hfhV hlhb0_2 (by omega))
    replace hD := OS.chg hD c19_1 (apart_gt hfhD hlhb0_2 (by omega))
    replace hog18_2 := OS.chg hog18_2 c19_1 (apart_gt hfw17_3 hlhb0_2 (by omega))
    replace hbx8 := BoxAt.chgA hbx8 c19_1 (apart_gt hfhbx8 hlhb0_2 (by omega))
    have := c19_1.size
    replace eB := Ext.then eB c19_1 (ge_of hfhb0_2 (by omega))
    try simp -implicitDefEqProofs (disch := first | decide | assumption | omega) only [go_sem, wrap_id, bF0]
    refine hK _ _ ?_
    clear hK K
    refine den_ret ?_
    simp -implicitDefEqProofs (disch := first | decide | assumption | omega) only [go_sem, RdS.len (OS.rd hV) sl26, RdS.idx (OS.rd hV) sl26, RdS.cellN (OS.rd hV), RdS.cells (OS.rd hV), RdS.len (OS.rd hD) sl22, RdS.idx (OS.rd hD) sl22, R1.intN (OS.rd hD), RdS.cells (OS.rd hD), RdS.len (OS.rd hog18_2) sl23, RdS.idx (OS.rd hog18_2) sl23, RdS.cellN (OS.rd hog18_2), RdS.cells (OS.rd hog18_2), BoxAt.cell hb0_2, wrap_id, bF0, resP_ct, ld33]
    have hz : partR X q = (partP X q, 0) := partR_y c0
    rw [hz]
    have hD := hD
    have hM := hog18_2
    have hV := hV
    change OS _ _ _ _ (applyU X.c.p (zblk (pdmP X q X.c.dims.length) ((pdmP X q X.c.dims.length).length - 1)) (uK (parU X q) X.c.maps X.c.maps.length)) _ at hM
    rw [hl_, par_eq hF] at hM
    rw [show n = X.c.dims.length by omega] at hV
    exact ⟨_, _, _, _, _, _, rfl, hD, hM, hV, Fresh.two (lo := h.size) hfhD (Fresh.two (lo := h.size) hfw17_3 hfhV (apart_gt hfw17_3 hlhV (by omega)) (by omega) (by omega)) (Apart.app (apart_lt hlhD hfw17_3 (by omega)) (Apart.symm ap_hV_hD)) (by omega) (by omega), eB⟩
end Go.Proofs.Ytjjjgllbocgkbaa

namespace Go.Proofs.Ytjjjgllbocgkbaa
open Go
set_option maxRecDepth 100000 in
set_option maxHeartbeats 4000000 in
theorem exactPartOf_law (vX : Value) (X : Fl) (q : Int) (h : Heap) (rX : RF h vX X)  : CallA Try.prog 4 #[vX, .int .i64 q] h fun v' h' => v' = .bool (true) ∧ Ext h h' := by
 obtain ⟨vdX, vmX, vvX, rfl, hdX, hmX, hvX⟩ := rX
 have hledX := RdS.le hdX
 have hlemX := RdS.le hmX
 have hlevX := RdS.le hvX
 refine callA_intro TTok (args := [_, _]) Try.func4 (by kernel_rfl) rfl 101 rfl (by simp) [.tmp 4] rfl ?_
 simp only [idxs, Nat.reduceAdd]
 refine den_seq ?_
 refine den_region TTok ?_
 intro K hK
 simp -implicitDefEqProofs (disch := first | decide | assumption | omega) only [go_sem, wrap_id]
 refine op_box (cs := #[.int .i64 (X.c.p), vdX, vmX, vvX]) rfl ?_
 intro h0_0 e0_0 hb0_0 z0_0
 have := Ext.size e0_0
 have eB := e0_0
 have hfhb0_0 : Fresh h.size [h.size] := Fresh.one _
 have hlhb0_0 := one_lt (show h.size < h0_0.size by omega)
 try simp -implicitDefEqProofs (disch := first | decide | assumption | omega) only [go_sem, wrap_id]
 refine hK _ _ ?_
 clear hK K
 refine den_seq ?_
 refine den_region TTok ?_
 intro K hK
 simp -implicitDefEqProofs (disch := first | decide | assumption | omega) only [go_sem, wrap_id]
 refine hK _ _ ?_
 clear hK K
 refine den_seq ?_
 refine den_region TTok ?_
 intro K hK
 simp -implicitDefEqProofs (disch := first | decide | assumption | omega) only [go_sem, ld28, BoxAt.cell hb0_0, wrap_id]
 try simp -implicitDefEqProofs (disch := first | decide | assumption | omega) only [go_sem, wrap_id]
 refine CallA.mono (szF_ok _ X _ _ ⟨_, _, _, rfl, (RdS.pres hdX (Ext.pres eB)), (RdS.pres hmX (Ext.pres eB)), (RdS.pres hvX (Ext.pres eB))⟩ (by omega) (by omega)) ?_
 intro v_ h2_2
 rintro ⟨rfl, e2_2⟩
 replace hb0_0 := BoxAt.ext hb0_0 e2_2
 have := Ext.size e2_2
 replace eB := Ext.trans eB e2_2
 have := szF_le X (1048576 : Int) (by omega)
 try simp -implicitDefEqProofs (disch := first | decide | assumption | omega) only [go_sem, wrap_id]
 refine hK _ _ ?_
 clear hK K
 refine den_seq ?_
 refine den_seq ?_
 refine den_region TTok ?_
 intro K hK
 simp -implicitDefEqProofs (disch := first | decide | assumption | omega) only [go_sem, wrap_id]
 refine hK _ _ ?_
 clear hK K
 refine den_cond rfl (fun c0 => ?_) (fun c0 => ?_)
 ·try simp only [decide_eq_true_eq, decide_eq_false_iff_not, beq_iff_eq, beq_eq_false_iff_ne, bne_iff_ne, ne_eq, Bool.not_eq_true', Bool.not_eq_false', Bool.and_eq_true, Bool.or_eq_true, bne_eq_false_iff_eq] at c0
  refine den_seq ?_
  refine den_region TTok ?_
  intro K hK
  simp -implicitDefEqProofs (disch := first | decide | assumption | omega) only [go_sem, wrap_id]
  refine hK _ _ ?_
  clear hK K
  refine den_ret ?_
  simp (disch := decide) only [resP_1, puts_same, puts_ne]
  exact ⟨by first | rfl | trivial, eB⟩
 ·try simp only [decide_eq_true_eq, decide_eq_false_iff_not, beq_iff_eq, beq_eq_false_iff_ne, bne_iff_ne, ne_eq, Bool.not_eq_true', Bool.not_eq_false', Bool.and_eq_true, Bool.or_eq_true, bne_eq_false_iff_eq] at c0
  have hMX := szF_ok' (by omega) (by omega) c0
  have hcnX := szF_cntA (by omega) (by omega) c0
  have hci := cnt_partR X q
  refine den_skip ?_
  refine den_seq ?_
  refine den_region TTok ?_
  intro K hK
  simp -implicitDefEqProofs (disch := first | decide | assumption | omega) only [go_sem, ld28, BoxAt.cell hb0_0, wrap_id]
  try simp -implicitDefEqProofs (disch := first | decide | assumption | omega) only [go_sem, wrap_id]
  refine CallA.mono (toF_ok _ X _ ⟨_, _, _, rfl, (RdS.pres hdX (Ext.pres eB)), (RdS.pres hmX (Ext.pres eB)), (RdS.pres hvX (Ext.pres eB))⟩ hMX) ?_
  intro v_ h5_1
  rintro ⟨vd5_1, vm5_1, vv5_1, fd5_1, fm5_1, fv5_1, rfl, hod5_1, hom5_1, hov5_1, hf5_1, e5_1⟩
  replace hb0_0 := BoxAt.ext hb0_0 e5_1
  have := Ext.size e5_1
  replace eB := Ext.trans eB e5_1
  have hfd5_1 := hf5_1.left
  have hf5_1r0 := hf5_1.right
  have hfm5_1 := hf5_1r0.left
  have hfv5_1 := hf5_1r0.right
  have hlhod5_1 := OS.lt hod5_1
  have hlhom5_1 := OS.lt hom5_1
  have hlhov5_1 := OS.lt hov5_1
  have ap1 : Apart fd5_1 fm5_1 := Apart.lft (apart_nodup hf5_1)
  have ap2 : Apart fd5_1 fv5_1 := Apart.rgt (apart_nodup hf5_1)
  have ap3 : Apart fm5_1 fv5_1 := apart_nodup hf5_1r0
  try simp -implicitDefEqProofs (disch := first | decide | assumption | omega) only [go_sem, wrap_id]
  try simp -implicitDefEqProofs (disch := first | decide | assumption | omega) only [go_sem, wrap_id]
  refine CallA.mono (sPart_ok _ X q _ ⟨_, _, _, rfl, (OS.rd hod5_1), (OS.rd hom5_1), (OS.rd hov5_1)⟩ ) ?_
  intro v_ h5_3
  rintro ⟨vd5_3_0, vm5_3_0, vv5_3_0, fd5_3_0, fm5_3_0, fv5_3_0, rfl, hod5_3_0, hom5_3_0, hov5_3_0, hf5_3_0, e5_3⟩
  replace hod5_1 := OS.ext hod5_1 e5_3
  replace hom5_1 := OS.ext hom5_1 e5_3
  replace hov5_1 := OS.ext hov5_1 e5_3
  replace hb0_0 := BoxAt.ext hb0_0 e5_3
  have := Ext.size e5_3
  replace eB := Ext.trans eB e5_3
  have hfd5_3_0 := hf5_3_0.left
  have hf5_3_0r0 := hf5_3_0.right
  have hfm5_3_0 := hf5_3_0r0.left
  have hfv5_3_0 := hf5_3_0r0.right
  have hlhod5_3_0 := OS.lt hod5_3_0
  have hlhom5_3_0 := OS.lt hom5_3_0
  have hlhov5_3_0 := OS.lt hov5_3_0
  have ap4 : Apart fd5_3_0 fm5_3_0 := Apart.lft (apart_nodup hf5_3_0)
  have ap5 : Apart fd5_3_0 fv5_3_0 := Apart.rgt (apart_nodup hf5_3_0)
  have ap6 : Apart fm5_3_0 fv5_3_0 := apart_nodup hf5_3_0r0
  try simp -implicitDefEqProofs (disch := first | decide | assumption | omega) only [go_sem, wrap_id]
  refine op_alloc (cs := #[.int .i64 0, .slice none 0 0, .slice none 0 0, .slice none 0 0]) (by kernel_rfl) ?_
  intro h5_7 e5_7 hb5_7 z5_7
  replace hod5_1 := OS.ext hod5_1 e5_7
  replace hom5_1 := OS.ext hom5_1 e5_7
  replace hov5_1 := OS.ext hov5_1 e5_7
  replace hod5_3_0 := OS.ext hod5_3_0 e5_7
  replace hom5_3_0 := OS.ext hom5_3_0 e5_7
  replace hov5_3_0 := OS.ext hov5_3_0 e5_7
  replace hb0_0 := BoxAt.ext hb0_0 e5_7
  have := Ext.size e5_7
  replace eB := Ext.trans eB e5_7
  have hfhb5_7 : Fresh h5_3.size [h5_3.size] := Fresh.one _
  have hlhb5_7 := one_lt (show h5_3.size < h5_7.size by omega)
  try simp -implicitDefEqProofs (disch := first | decide | assumption | omega) only [go_sem, wrap_id]
  refine op_storeB (cs' := #[.int .i64 ((((partR X q).1).c.p)), vd5_3_0, vm5_3_0, vv5_3_0]) st33 hb5_7 rfl rfl rfl (by simp) (allOne_mem (l := [.int .i64 ((((partR X q).1).c.p)), vd5_3_0, vm5_3_0, vv5_3_0]) ⟨rfl, (OS.one hod5_3_0).1, (OS.one hom5_3_0).1, (OS.one hov5_3_0).1, trivial⟩) rfl ?_
  intro h5_8 hb5_7 c5_8
  replace hod5_1 := OS.chg hod5_1 c5_8 (apart_lt hlhod5_1 hfhb5_7 (by omega))
  replace hom5_1 := OS.chg hom5_1 c5_8 (apart_lt hlhom5_1 hfhb5_7 (by omega))
  replace hov5_1 := OS.chg hov5_1 c5_8 (apart_lt hlhov5_1 hfhb5_7 (by omega))
  replace hod5_3_0 := OS.chg hod5_3_0 c5_8 (apart_lt hlhod5_3_0 hfhb5_7 (by omega))
  replace hom5_3_0 := OS.chg hom5_3_0 c5_8 (apart_lt hlhom5_3_0 hfhb5_7 (by omega))
  replace hov5_3_0 := OS.chg hov5_3_0 c5_8 (apart_lt hlhov5_3_0 hfhb5_7 (by omega))
  replace hb0_0 := BoxAt.chgA hb0_0 c5_8 (apart_lt hlhb0_0 hfhb5_7 (by omega))
  have := c5_8.size
  replace eB := Ext.then eB c5_8 (ge_of hfhb5_7 (by omega))
  try simp -implicitDefEqProofs (disch := first | decide | assumption | omega) only [go_sem, wrap_id]
  refine hK _ _ ?_
  clear hK K
  refine den_seq ?_
  refine den_region TTok ?_
  intro K hK
  simp -implicitDefEqProofs (disch := first | decide | assumption | omega) only [go_sem, ld28, BoxAt.cell hb0_0, wrap_id]
  try simp -implicitDefEqProofs (disch := first | decide | assumption | omega) only [go_sem, wrap_id]
  refine CallA.mono (toF_ok _ X _ ⟨_, _, _, rfl, (RdS.pres hdX (Ext.pres eB)), (RdS.pres hmX (Ext.pres eB)), (RdS.pres hvX (Ext.pres eB))⟩ hMX) ?_
  intro v_ h6_1
  rintro ⟨vd6_1, vm6_1, vv6_1, fd6_1, fm6_1, fv6_1, rfl, hod6_1, hom6_1, hov6_1, hf6_1, e6_1⟩
  replace hod5_3_0 := OS.ext hod5_3_0 e6_1
  replace hom5_3_0 := OS.ext hom5_3_0 e6_1
  replace hov5_3_0 := OS.ext hov5_3_0 e6_1
  replace hb0_0 := BoxAt.ext hb0_0 e6_1
  replace hb5_7 := BoxAt.ext hb5_7 e6_1
  have := Ext.size e6_1
  replace eB := Ext.trans eB e6_1
  have hfd6_1 := hf6_1.left
  have hf6_1r0 := hf6_1.right
  have hfm6_1 := hf6_1r0.left
  have hfv6_1 := hf6_1r0.right
  have hlhod6_1 := OS.lt hod6_1
  have hlhom6_1 := OS.lt hom6_1
  have hlhov6_1 := OS.lt hov6_1
  have ap7 : Apart fd6_1 fm6_1 := Apart.lft (apart_nodup hf6_1)
  have ap8 : Apart fd6_1 fv6_1 := Apart.rgt (apart_nodup hf6_1)
  have ap9 : Apart fm6_1 fv6_1 := apart_nodup hf6_1r0
  try simp -implicitDefEqProofs (disch := first | decide | assumption | omega) only [go_sem, wrap_id]
  refine op_alloc (cs := #[.int .i64 0, .slice none 0 0, .slice none 0 0, .slice none 0 0]) (by kernel_rfl) ?_
  intro h6_2 e6_2 hb6_2 z6_2
  replace hod5_3_0 := OS.ext hod5_3_0 e6_2
  replace hom5_3_0 := OS.ext hom5_3_0 e6_2
  replace hov5_3_0 := OS.ext hov5_3_0 e6_2
  replace hod6_1 := OS.ext hod6_1 e6_2
  replace hom6_1 := OS.ext hom6_1 e6_2
  replace hov6_1 := OS.ext hov6_1 e6_2
  replace hb0_0 := BoxAt.ext hb0_0 e6_2
  replace hb5_7 := BoxAt.ext hb5_7 e6_2
  have := Ext.size e6_2
  replace eB := Ext.trans eB e6_2
  have hfhb6_2 : Fresh h6_1.size [h6_1.size] := Fresh.one _
  have hlhb6_2 := one_lt (show h6_1.size < h6_2.size by omega)
  try simp -implicitDefEqProofs (disch := first | decide | assumption | omega) only [go_sem, wrap_id]
  refine op_storeB (cs' := #[.int .i64 (X.c.p), vd6_1, vm6_1, vv6_1]) st33 hb6_2 rfl rfl rfl (by simp) (allOne_mem (l := [.int .i64 (X.c.p), vd6_1, vm6_1, vv6_1]) ⟨rfl, (OS.one hod6_1).1, (OS.one hom6_1).1, (OS.one hov6_1).1, trivial⟩) rfl ?_
  intro h6_3 hb6_2 c6_3
  replace hod5_3_0 := OS.chg hod5_3_0 c6_3 (apart_lt hlhod5_3_0 hfhb6_2 (by omega))
  replace hom5_3_0 := OS.chg hom5_3_0 c6_3 (apart_lt hlhom5_3_0 hfhb6_2 (by omega))
  replace hov5_3_0 := OS.chg hov5_3_0 c6_3 (apart_lt hlhov5_3_0 hfhb6_2 (by omega))
  replace hod6_1 := OS.chg hod6_1 c6_3 (apart_lt hlhod6_1 hfhb6_2 (by omega))
  replace hom6_1 := OS.chg hom6_1 c6_3 (apart_lt hlhom6_1 hfhb6_2 (by omega))
  replace hov6_1 := OS.chg hov6_1 c6_3 (apart_lt hlhov6_1 hfhb6_2 (by omega))
  replace hb0_0 := BoxAt.chgA hb0_0 c6_3 (apart_lt hlhb0_0 hfhb6_2 (by omega))
  replace hb5_7 := BoxAt.chgA hb5_7 c6_3 (apart_lt hlhb5_7 hfhb6_2 (by omega))
  have := c6_3.size
  replace eB := Ext.then eB c6_3 (ge_of hfhb6_2 (by omega))
  try simp -implicitDefEqProofs (disch := first | decide | assumption | omega) only [go_sem, wrap_id]
  refine hK _ _ ?_
  clear hK K
  refine den_seq ?_
  refine den_region TTok ?_
  intro K hK
  simp -implicitDefEqProofs (disch := first | decide | assumption | omega) only [go_sem, ld33, BoxAt.cell hb6_2, wrap_id]
  try simp -implicitDefEqProofs (disch := first | decide | assumption | omega) only [go_sem, wrap_id]
  refine CallA.mono (iPart_ok _ X q _ ⟨_, _, _, rfl, (OS.rd hod6_1), (OS.rd hom6_1), (OS.rd hov6_1)⟩ ) ?_
  intro v_ h7_2
  rintro ⟨vd7_2_0, vm7_2_0, vv7_2_0, fd7_2_0, fm7_2_0, fv7_2_0, rfl, hod7_2_0, hom7_2_0, hov7_2_0, hf7_2_0, e7_2⟩
  replace hod5_3_0 := OS.ext hod5_3_0 e7_2
  replace hom5_3_0 := OS.ext hom5_3_0 e7_2
  replace hov5_3_0 := OS.ext hov5_3_0 e7_2
  replace hod6_1 := OS.ext hod6_1 e7_2
  replace hom6_1 := OS.ext hom6_1 e7_2
  replace hov6_1 := OS.ext hov6_1 e7_2
  replace hb0_0 := BoxAt.ext hb0_0 e7_2
  replace hb5_7 := BoxAt.ext hb5_7 e7_2
  replace hb6_2 := BoxAt.ext hb6_2 e7_2
  have := Ext.size e7_2
  replace eB := Ext.trans eB e7_2
  have hfd7_2_0 := hf7_2_0.left
  have hf7_2_0r0 := hf7_2_0.right
  have hfm7_2_0 := hf7_2_0r0.left
  have hfv7_2_0 := hf7_2_0r0.right
  have hlhod7_2_0 := OS.lt hod7_2_0
  have hlhom7_2_0 := OS.lt hom7_2_0
  have hlhov7_2_0 := OS.lt hov7_2_0
  have ap10 : Apart fd7_2_0 fm7_2_0 := Apart.lft (apart_nodup hf7_2_0)
  have ap11 : Apart fd7_2_0 fv7_2_0 := Apart.rgt (apart_nodup hf7_2_0)
  have ap12 : Apart fm7_2_0 fv7_2_0 := apart_nodup hf7_2_0r0
  try simp -implicitDefEqProofs (disch := first | decide | assumption | omega) only [go_sem, wrap_id]
  refine op_alloc (cs := #[.int .i64 0, .slice none 0 0, .slice none 0 0, .slice none 0 0]) (by kernel_rfl) ?_
  intro h7_6 e7_6 hb7_6 z7_6
  replace hod5_3_0 := OS.ext hod5_3_0 e7_6
  replace hom5_3_0 := OS.ext hom5_3_0 e7_6
  replace hov5_3_0 := OS.ext hov5_3_0 e7_6
  replace hod6_1 := OS.ext hod6_1 e7_6
  replace hom6_1 := OS.ext hom6_1 e7_6
  replace hov6_1 := OS.ext hov6_1 e7_6
  replace hod7_2_0 := OS.ext hod7_2_0 e7_6
  replace hom7_2_0 := OS.ext hom7_2_0 e7_6
  replace hov7_2_0 := OS.ext hov7_2_0 e7_6
  replace hb0_0 := BoxAt.ext hb0_0 e7_6
  replace hb5_7 := BoxAt.ext hb5_7 e7_6
  replace hb6_2 := BoxAt.ext hb6_2 e7_6
  have := Ext.size e7_6
  replace eB := Ext.trans eB e7_6
  have hfhb7_6 : Fresh h7_2.size [h7_2.size] := Fresh.one _
  have hlhb7_6 := one_lt (show h7_2.size < h7_6.size by omega)
  try simp -implicitDefEqProofs (disch := first | decide | assumption | omega) only [go_sem, wrap_id]
  refine op_storeB (cs' := #[.int .i64 ((((partR X q).1).c.p)), vd7_2_0, vm7_2_0, vv7_2_0]) st33 hb7_6 rfl rfl rfl (by simp) (allOne_mem (l := [.int .i64 ((((partR X q).1).c.p)), vd7_2_0, vm7_2_0, vv7_2_0]) ⟨rfl, (OS.one hod7_2_0).1, (OS.one hom7_2_0).1, (OS.one hov7_2_0).1, trivial⟩) rfl ?_
  intro h7_7 hb7_6 c7_7
  replace hod5_3_0 := OS.chg hod5_3_0 c7_7 (apart_lt hlhod5_3_0 hfhb7_6 (by omega))
  replace hom5_3_0 := OS.chg hom5_3_0 c7_7 (apart_lt hlhom5_3_0 hfhb7_6 (by omega))
  replace hov5_3_0 := OS.chg hov5_3_0 c7_7 (apart_lt hlhov5_3_0 hfhb7_6 (by omega))
  replace hod6_1 := OS.chg hod6_1 c7_7 (apart_lt hlhod6_1 hfhb7_6 (by omega))
  replace hom6_1 := OS.chg hom6_1 c7_7 (apart_lt hlhom6_1 hfhb7_6 (by omega))
  replace hov6_1 := OS.chg hov6_1 c7_7 (apart_lt hlhov6_1 hfhb7_6 (by omega))
  replace hod7_2_0 := OS.chg hod7_2_0 c7_7 (apart_lt hlhod7_2_0 hfhb7_6 (by omega))
  replace hom7_2_0 := OS.chg hom7_2_0 c7_7 (apart_lt hlhom7_2_0 hfhb7_6 (by omega))
  replace hov7_2_0 := OS.chg hov7_2_0 c7_7 (apart_lt hlhov7_2_0 hfhb7_6 (by omega))
  replace hb0_0 := BoxAt.chgA hb0_0 c7_7 (apart_lt hlhb0_0 hfhb7_6 (by omega))
  replace hb5_7 := BoxAt.chgA hb5_7 c7_7 (apart_lt hlhb5_7 hfhb7_6 (by omega))
  replace hb6_2 := BoxAt.chgA hb6_2 c7_7 (apart_lt hlhb6_2 hfhb7_6 (by omega))
  have := c7_7.size
  replace eB := Ext.then eB c7_7 (ge_of hfhb7_6 (by omega))
  try simp -implicitDefEqProofs (disch := first | decide | assumption | omega) only [go_sem, wrap_id]
  refine hK _ _ ?_
  clear hK K
  refine den_seq ?_
  refine den_seq ?_
  refine den_merge [(44, .bool (((!(true)) || (((partR X q).2) != ((partR X q).2)))))] [1, 2, 6, 7, 8, 9, 10] (fun H => Ext h7_7 H) ?_ ?_
   -- a way
  ·refine den_region TTok ?_
   intro K hK
   simp -implicitDefEqProofs (disch := first | decide | assumption | (simp (disch := decide) only [slotOf_zero, slotOf_succ, Option.map_some, puts_same, puts_ne, gv_bool, gv_undef, tt, tf, ft, ff, eq_self, if_true, if_false, Bool.false_eq_true, Bool.not_true, Bool.not_false]; done) | omega) only [go_sem, ld33, BoxAt.cell hb5_7, BoxAt.cell hb7_6, wrap_id]
   try simp -implicitDefEqProofs (disch := first | decide | assumption | omega) only [go_sem, wrap_id]
   refine CallA.mono (eqF_same _ _ ((partR X q).1) _ ⟨_, _, _, rfl, (OS.rd hod7_2_0), (OS.rd hom7_2_0), (OS.rd hov7_2_0)⟩ ⟨_, _, _, rfl, (OS.rd hod5_3_0), (OS.rd hom5_3_0), (OS.rd hov5_3_0)⟩) ?_
   intro v_ h8_2
   rintro ⟨rfl, e8_2⟩
   replace hod5_3_0 := OS.ext hod5_3_0 e8_2
   replace hom5_3_0 := OS.ext hom5_3_0 e8_2
   replace hov5_3_0 := OS.ext hov5_3_0 e8_2
   replace hod6_1 := OS.ext hod6_1 e8_2
   replace hom6_1 := OS.ext hom6_1 e8_2
   replace hov6_1 := OS.ext hov6_1 e8_2
   replace hod7_2_0 := OS.ext hod7_2_0 e8_2
   replace hom7_2_0 := OS.ext hom7_2_0 e8_2
   replace hov7_2_0 := OS.ext hov7_2_0 e8_2
   replace hb0_0 := BoxAt.ext hb0_0 e8_2
   replace hb5_7 := BoxAt.ext hb5_7 e8_2
   replace hb6_2 := BoxAt.ext hb6_2 e8_2
   replace hb7_6 := BoxAt.ext hb7_6 e8_2
   have := Ext.size e8_2
   replace eB := Ext.trans eB e8_2
   try simp -implicitDefEqProofs (disch := first | decide | assumption | (simp (disch := decide) only [slotOf_zero, slotOf_succ, Option.map_some, puts_same, puts_ne, gv_bool, gv_undef, tt, tf, ft, ff, eq_self, if_true, if_false, Bool.false_eq_true, Bool.not_true, Bool.not_false]; done) | omega) only [go_sem, wrap_id]
   try simp -implicitDefEqProofs (disch := first | decide | assumption | (simp (disch := decide) only [slotOf_zero, slotOf_succ, Option.map_some, puts_same, puts_ne, gv_bool, gv_undef, tt, tf, ft, ff, eq_self, if_true, if_false, Bool.false_eq_true, Bool.not_true, Bool.not_false]; done) | omega) only [go_sem, wrap_id]
   refine hK _ _ ?_
   clear hK K
   refine den_stop ?_
   refine ⟨?_, e8_2⟩
   first | (simp (disch := decide) only [go_sem, eq_self, Bool.true_and, Bool.and_true, Bool.false_and, Bool.and_false, Bool.true_or, Bool.or_true, Bool.false_or, Bool.or_false, if_true, if_false, Bool.false_eq_true]; done) | simp [HasL, sel, puts_at]
  intro en13 h14 e15
  replace hod5_3_0 := OS.ext hod5_3_0 e15
  replace hom5_3_0 := OS.ext hom5_3_0 e15
  replace hov5_3_0 := OS.ext hov5_3_0 e15
  replace hod6_1 := OS.ext hod6_1 e15
  replace hom6_1 := OS.ext hom6_1 e15
  replace hov6_1 := OS.ext hov6_1 e15
  replace hod7_2_0 := OS.ext hod7_2_0 e15
  replace hom7_2_0 := OS.ext hom7_2_0 e15
  replace hov7_2_0 := OS.ext hov7_2_0 e15
  replace hb0_0 := BoxAt.ext hb0_0 e15
  replace hb5_7 := BoxAt.ext hb5_7 e15
  replace hb6_2 := BoxAt.ext hb6_2 e15
  replace hb7_6 := BoxAt.ext hb7_6 e15
  have := Ext.size e15
  replace eB := Ext.trans eB e15
  simp (disch := decide) only [go_sem]
  refine den_cond rfl (fun c1 => ?_) (fun c1 => ?_)
  ·try simp only [decide_eq_true_eq, decide_eq_false_iff_not, beq_iff_eq, beq_eq_false_iff_ne, bne_iff_ne, ne_eq, Bool.not_eq_true', Bool.not_eq_false', Bool.and_eq_true, Bool.or_eq_true, bne_eq_false_iff_eq] at c1
   refine den_seq ?_
   refine den_region TTok ?_
   intro K hK
   simp -implicitDefEqProofs (disch := first | decide | assumption | omega) only [go_sem, wrap_id]
   refine hK _ _ ?_
   clear hK K
   refine den_ret ?_
   simp (disch := decide) only [resP_1, puts_same, puts_ne]
   exact absurd c1 (by first | (simp; done) | (simp; omega) | omega | (simp [eqC_self]; done))
  ·try simp only [decide_eq_true_eq, decide_eq_false_iff_not, beq_iff_eq, beq_eq_false_iff_ne, bne_iff_ne, ne_eq, Bool.not_eq_true', Bool.not_eq_false', Bool.and_eq_true, Bool.or_eq_true, bne_eq_false_iff_eq] at c1
   refine den_skip ?_
   refine den_seq ?_
   refine den_seq ?_
   refine den_draw TTok mixed [] [(0, true), (1, true), (2, false), (3, false), (4, true)] (by kernel_rfl) ?_
   intro K hK
   simp -implicitDefEqProofs (disch := first | decide | assumption | omega) only [go_sem, ld33, ld28, BoxAt.cell hb0_0, BoxAt.cell hb6_2, wrap_id]
   try simp -implicitDefEqProofs (disch := first | decide | assumption | omega) only [go_sem, wrap_id]
   refine CallA.mono (toF_ok _ X _ ⟨_, _, _, rfl, (RdS.pres hdX (Ext.pres eB)), (RdS.pres hmX (Ext.pres eB)), (RdS.pres hvX (Ext.pres eB))⟩ hMX) ?_
   intro v_ h10_2
   rintro ⟨vd10_2, vm10_2, vv10_2, fd10_2, fm10_2, fv10_2, rfl, hod10_2, hom10_2, hov10_2, hf10_2, e10_2⟩
   replace hod5_3_0 := OS.ext hod5_3_0 e10_2
   replace hom5_3_0 := OS.ext hom5_3_0 e10_2
   replace hov5_3_0 := OS.ext hov5_3_0 e10_2
   replace hod6_1 := OS.ext hod6_1 e10_2
   replace hom6_1 := OS.ext hom6_1 e10_2
   replace hov6_1 := OS.ext hov6_1 e10_2
   replace hod7_2_0 := OS.ext hod7_2_0 e10_2
   replace hom7_2_0 := OS.ext hom7_2_0 e10_2
   replace hov7_2_0 := OS.ext hov7_2_0 e10_2
   replace hb0_0 := BoxAt.ext hb0_0 e10_2
   replace hb5_7 := BoxAt.ext hb5_7 e10_2
   replace hb6_2 := BoxAt.ext hb6_2 e10_2
   replace hb7_6 := BoxAt.ext hb7_6 e10_2
   have := Ext.size e10_2
   replace eB := Ext.trans eB e10_2
   have hfd10_2 := hf10_2.left
   have hf10_2r0 := hf10_2.right
   have hfm10_2 := hf10_2r0.left
   have hfv10_2 := hf10_2r0.right
   have hlhod10_2 := OS.lt hod10_2
   have hlhom10_2 := OS.lt hom10_2
   have hlhov10_2 := OS.lt hov10_2
   have ap16 : Apart fd10_2 fm10_2 := Apart.lft (apart_nodup hf10_2)
   have ap17 : Apart fd10_2 fv10_2 := Apart.rgt (apart_nodup hf10_2)
   have ap18 : Apart fm10_2 fv10_2 := apart_nodup hf10_2r0
   try simp (disch := decide) only [outv_some, outv_none, put_puts]
   refine plK_pres (Ext.pres e10_2) ?_
   try simp -implicitDefEqProofs (disch := first | decide | assumption | omega) only [go_sem, wrap_id]
   try simp -implicitDefEqProofs (disch := first | decide | assumption | omega) only [go_sem, wrap_id]
   refine CallA.mono (eqF_same _ _ X _ ⟨_, _, _, rfl, (OS.rd hod6_1), (OS.rd hom6_1), (OS.rd hov6_1)⟩ ⟨_, _, _, rfl, (OS.rd hod10_2), (OS.rd hom10_2), (OS.rd hov10_2)⟩) ?_
   intro v_ h10_3
   rintro ⟨rfl, e10_3⟩
   replace hod5_3_0 := OS.ext hod5_3_0 e10_3
   replace hom5_3_0 := OS.ext hom5_3_0 e10_3
   replace hov5_3_0 := OS.ext hov5_3_0 e10_3
   replace hod6_1 := OS.ext hod6_1 e10_3
   replace hom6_1 := OS.ext hom6_1 e10_3
   replace hov6_1 := OS.ext hov6_1 e10_3
   replace hod7_2_0 := OS.ext hod7_2_0 e10_3
   replace hom7_2_0 := OS.ext hom7_2_0 e10_3
   replace hov7_2_0 := OS.ext hov7_2_0 e10_3
   replace hod10_2 := OS.ext hod10_2 e10_3
   replace hom10_2 := OS.ext hom10_2 e10_3
   replace hov10_2 := OS.ext hov10_2 e10_3
   replace hb0_0 := BoxAt.ext hb0_0 e10_3
   replace hb5_7 := BoxAt.ext hb5_7 e10_3
   replace hb6_2 := BoxAt.ext hb6_2 e10_3
   replace hb7_6 := BoxAt.ext hb7_6 e10_3
   have := Ext.size e10_3
   replace eB := Ext.trans eB e10_3
   try simp (disch := decide) only [outv_some, outv_none, put_puts]
   refine plK_pres (Ext.pres e10_3) ?_
   try simp -implicitDefEqProofs (disch := first | decide | assumption | omega) only [go_sem, wrap_id]
   refine hK _ _ ?_
   clear hK K
   refine den_cond rfl (fun c2 => ?_) (fun c2 => ?_)
   ·try simp only [decide_eq_true_eq, decide_eq_false_iff_not, beq_iff_eq, beq_eq_false_iff_ne, bne_iff_ne, ne_eq, Bool.not_eq_true', Bool.not_eq_false', Bool.and_eq_true, Bool.or_eq_true, bne_eq_false_iff_eq] at c2
    refine den_seq ?_
    refine den_region TTok ?_
    intro K hK
    simp -implicitDefEqProofs (disch := first | decide | assumption | omega) only [go_sem, wrap_id]
    refine hK _ _ ?_
    clear hK K
    refine den_ret ?_
    simp (disch := decide) only [resP_1, puts_same, puts_ne]
    exact absurd c2 (by first | (simp; done) | (simp; omega) | omega | (simp [eqC_self]; done))
   ·try simp only [decide_eq_true_eq, decide_eq_false_iff_not, beq_iff_eq, beq_eq_false_iff_ne, bne_iff_ne, ne_eq, Bool.not_eq_true', Bool.not_eq_false', Bool.and_eq_true, Bool.or_eq_true, bne_eq_false_iff_eq] at c2
    refine den_skip ?_
    refine den_seq ?_
    refine den_region TTok ?_
    intro K hK
    simp -implicitDefEqProofs (disch := first | decide | assumption | omega) only [go_sem, wrap_id]
    refine hK _ _ ?_
    clear hK K
    refine den_seq ?_
    refine den_region TTok ?_
    intro K hK
    simp -implicitDefEqProofs (disch := first | decide | assumption | omega) only [go_sem, ld33, BoxAt.cell hb6_2, wrap_id]
    try simp -implicitDefEqProofs (disch := first | decide | assumption | omega) only [go_sem, wrap_id]
    refine CallA.mono (markF_ok _ _ _ X (1 : Int) _ _ _ _ hod6_1 hom6_1 hov6_1 (Fresh.two (lo := 0) hfd6_1 (Fresh.two (lo := 0) hfm6_1 hfv6_1 ap9 (Nat.zero_le _) (Nat.zero_le _)) (Apart.app ap7 ap8) (Nat.zero_le _) (Nat.zero_le _)).nodup (by omega)) ?_
    intro v_ h13_2
    rintro ⟨rfl, hogd13_2, hogm13_2, hogv13_2, cg13_2⟩
    replace hod5_3_0 := OS.chg hod5_3_0 cg13_2 (Apart.app (apart_lt hlhod5_3_0 hfd6_1 (by omega)) (Apart.app (apart_lt hlhod5_3_0 hfm6_1 (by omega)) (apart_lt hlhod5_3_0 hfv6_1 (by omega))))
    replace hom5_3_0 := OS.chg hom5_3_0 cg13_2 (Apart.app (apart_lt hlhom5_3_0 hfd6_1 (by omega)) (Apart.app (apart_lt hlhom5_3_0 hfm6_1 (by omega)) (apart_lt hlhom5_3_0 hfv6_1 (by omega))))
    replace hov5_3_0 := OS.chg hov5_3_0 cg13_2 (Apart.app (apart_lt hlhov5_3_0 hfd6_1 (by omega)) (Apart.app (apart_lt hlhov5_3_0 hfm6_1 (by omega)) (apart_lt hlhov5_3_0 hfv6_1 (by omega))))
    replace hod7_2_0 := OS.chg hod7_2_0 cg13_2 (Apart.app (apart_gt hfd7_2_0 hlhod6_1 (by omega)) (Apart.app (apart_gt hfd7_2_0 hlhom6_1 (by omega)) (apart_gt hfd7_2_0 hlhov6_1 (by omega))))
    replace hom7_2_0 := OS.chg hom7_2_0 cg13_2 (Apart.app (apart_gt hfm7_2_0 hlhod6_1 (by omega)) (Apart.app (apart_gt hfm7_2_0 hlhom6_1 (by omega)) (apart_gt hfm7_2_0 hlhov6_1 (by omega))))
    replace hov7_2_0 := OS.chg hov7_2_0 cg13_2 (Apart.app (apart_gt hfv7_2_0 hlhod6_1 (by omega)) (Apart.app (apart_gt hfv7_2_0 hlhom6_1 (by omega)) (apart_gt hfv7_2_0 hlhov6_1 (by omega))))
    replace hb0_0 := BoxAt.chgA hb0_0 cg13_2 (Apart.app (apart_lt hlhb0_0 hfd6_1 (by omega)) (Apart.app (apart_lt hlhb0_0 hfm6_1 (by omega)) (apart_lt hlhb0_0 hfv6_1 (by omega))))
    replace hb5_7 := BoxAt.chgA hb5_7 cg13_2 (Apart.app (apart_lt hlhb5_7 hfd6_1 (by omega)) (Apart.app (apart_lt hlhb5_7 hfm6_1 (by omega)) (apart_lt hlhb5_7 hfv6_1 (by omega))))
    replace hb6_2 := BoxAt.chgA hb6_2 cg13_2 (Apart.app (apart_gt hfhb6_2 hlhod6_1 (by omega)) (Apart.app (apart_gt hfhb6_2 hlhom6_1 (by omega)) (apart_gt hfhb6_2 hlhov6_1 (by omega))))
    replace hb7_6 := BoxAt.chgA hb7_6 cg13_2 (Apart.app (apart_gt hfhb7_6 hlhod6_1 (by omega)) (Apart.app (apart_gt hfhb7_6 hlhom6_1 (by omega)) (apart_gt hfhb7_6 hlhov6_1 (by omega))))
    have := cg13_2.size
    replace eB := Ext.then eB cg13_2 (ge_app (ge_of hfd6_1 (by omega)) (ge_app (ge_of hfm6_1 (by omega)) (ge_of hfv6_1 (by omega))))
    have ap19 : Apart fm6_1 fd6_1 := (Apart.symm ap7)
    have ap20 : Apart fv6_1 fd6_1 := (Apart.symm ap8)
    have hlhogd13_2 := hlhod6_1
    have ap21 : Apart fv6_1 fm6_1 := (Apart.symm ap9)
    have ap22 : Apart fd6_1 fm6_1 := (Apart.symm ap19)
    have hlhogm13_2 := hlhom6_1
    have ap23 : Apart fd6_1 fv6_1 := (Apart.symm ap20)
    have ap24 : Apart fm6_1 fv6_1 := (Apart.symm ap21)
    have hlhogv13_2 := hlhov6_1
    try simp -implicitDefEqProofs (disch := first | decide | assumption | omega) only [go_sem, wrap_id]
    refine hK _ _ ?_
    clear hK K
    refine den_seq ?_
    refine den_seq ?_
    refine den_merge [(65, .bool ((((decide (((1 : Int) + cnt1 X.c.dims + cntL cnt2 X.c.maps + cntL cnt1 X.lv) < (0 : Int))) || (!(true))) || (((partR X q).2) != ((partR X q).2)))))] [1, 2, 6, 7, 9] (fun H => Ext h13_2 H) ?_ ?_
     -- a way
    ·refine den_region TTok ?_
     intro K hK
     simp -implicitDefEqProofs (disch := first | decide | assumption | (simp (disch := decide) only [slotOf_zero, slotOf_succ, Option.map_some, puts_same, puts_ne, gv_bool, gv_undef, tt, tf, ft, ff, eq_self, if_true, if_false, Bool.false_eq_true, Bool.not_true, Bool.not_false]; done) | omega) only [go_sem, wrap_id]
     refine opsP_F (by simp (disch := decide) only [slotOf_zero, slotOf_succ, Option.map_some, puts_same, puts_ne, gv_bool, gv_undef, tt, tf, ft, ff, eq_self, if_true, if_false, Bool.false_eq_true, Bool.not_true, Bool.not_false]; rfl) (fun g25 => ?_) (fun g25 => ?_)
     ·try simp -implicitDefEqProofs (disch := first | decide | assumption | (simp (disch := decide) only [slotOf_zero, slotOf_succ, Option.map_some, puts_same, puts_ne, gv_bool, gv_undef, tt, tf, ft, ff, eq_self, if_true, if_false, Bool.false_eq_true, Bool.not_true, Bool.not_false, g25]; done) | omega) only [go_sem, ld33, BoxAt.cell hb5_7, BoxAt.cell hb7_6, wrap_id, g25, eq_self, if_true, if_false, Bool.false_eq_true]
      try simp -implicitDefEqProofs (disch := first | decide | assumption | omega) only [go_sem, wrap_id]
      refine CallA.mono (eqF_same _ _ ((partR X q).1) _ ⟨_, _, _, rfl, (OS.rd hod7_2_0), (OS.rd hom7_2_0), (OS.rd hov7_2_0)⟩ ⟨_, _, _, rfl, (OS.rd hod5_3_0), (OS.rd hom5_3_0), (OS.rd hov5_3_0)⟩) ?_
      intro v_ h14_5
      rintro ⟨rfl, e14_5⟩
      replace hod5_3_0 := OS.ext hod5_3_0 e14_5
      replace hom5_3_0 := OS.ext hom5_3_0 e14_5
      replace hov5_3_0 := OS.ext hov5_3_0 e14_5
      replace hod7_2_0 := OS.ext hod7_2_0 e14_5
      replace hom7_2_0 := OS.ext hom7_2_0 e14_5
      replace hov7_2_0 := OS.ext hov7_2_0 e14_5
      replace hb0_0 := BoxAt.ext hb0_0 e14_5
      replace hb5_7 := BoxAt.ext hb5_7 e14_5
      replace hb7_6 := BoxAt.ext hb7_6 e14_5
      have := Ext.size e14_5
      replace eB := Ext.trans eB e14_5
      try simp -implicitDefEqProofs (disch := first | decide | assumption | (simp (disch := decide) only [slotOf_zero, slotOf_succ, Option.map_some, puts_same, puts_ne, gv_bool, gv_undef, tt, tf, ft, ff, eq_self, if_true, if_false, Bool.false_eq_true, Bool.not_true, Bool.not_false, g25]; done) | omega) only [go_sem, wrap_id, g25, eq_self, if_true, if_false, Bool.false_eq_true]
      try simp -implicitDefEqProofs (disch := first | decide | assumption | (simp (disch := decide) only [slotOf_zero, slotOf_succ, Option.map_some, puts_same, puts_ne, gv_bool, gv_undef, tt, tf, ft, ff, eq_self, if_true, if_false, Bool.false_eq_true, Bool.not_true, Bool.not_false, g25]; done) | omega) only [go_sem, wrap_id, g25, eq_self, if_true, if_false, Bool.false_eq_true]
      refine hK _ _ ?_
      clear hK K
      refine den_stop ?_
      refine ⟨?_, e14_5⟩
      first | (simp (disch := decide) only [go_sem, g25, eq_self, Bool.true_and, Bool.and_true, Bool.false_and, Bool.and_false, Bool.true_or, Bool.or_true, Bool.false_or, Bool.or_false, if_true, if_false, Bool.false_eq_true]; done) | simp [HasL, sel, puts_at, g25]
     ·try simp -implicitDefEqProofs (disch := first | decide | assumption | (simp (disch := decide) only [slotOf_zero, slotOf_succ, Option.map_some, puts_same, puts_ne, gv_bool, gv_undef, tt, tf, ft, ff, eq_self, if_true, if_false, Bool.false_eq_true, Bool.not_true, Bool.not_false, g25]; done) | omega) only [go_sem, wrap_id, g25, eq_self, if_true, if_false, Bool.false_eq_true]
      try simp -implicitDefEqProofs (disch := first | decide | assumption | (simp (disch := decide) only [slotOf_zero, slotOf_succ, Option.map_some, puts_same, puts_ne, gv_bool, gv_undef, tt, tf, ft, ff, eq_self, if_true, if_false, Bool.false_eq_true, Bool.not_true, Bool.not_false, g25]; done) | omega) only [go_sem, wrap_id, g25, eq_self, if_true, if_false, Bool.false_eq_true]
      refine hK _ _ ?_
      clear hK K
      refine den_stop ?_
      refine ⟨?_, Ext.refl _⟩
      first | (simp (disch := decide) only [go_sem, g25, eq_self, Bool.true_and, Bool.and_true, Bool.false_and, Bool.and_false, Bool.true_or, Bool.or_true, Bool.false_or, Bool.or_false, if_true, if_false, Bool.false_eq_true]; done) | simp [HasL, sel, puts_at, g25]
    intro en26 h27 e28
    replace hod5_3_0 := OS.ext hod5_3_0 e28
    replace hom5_3_0 := OS.ext hom5_3_0 e28
    replace hov5_3_0 := OS.ext hov5_3_0 e28
    replace hod7_2_0 := OS.ext hod7_2_0 e28
    replace hom7_2_0 := OS.ext hom7_2_0 e28
    replace hov7_2_0 := OS.ext hov7_2_0 e28
    replace hb0_0 := BoxAt.ext hb0_0 e28
    replace hb5_7 := BoxAt.ext hb5_7 e28
    replace hb7_6 := BoxAt.ext hb7_6 e28
    have := Ext.size e28
    replace eB := Ext.trans eB e28
    simp (disch := decide) only [go_sem]
    refine den_cond rfl (fun c3 => ?_) (fun c3 => ?_)
    ·try simp only [decide_eq_true_eq, decide_eq_false_iff_not, beq_iff_eq, beq_eq_false_iff_ne, bne_iff_ne, ne_eq, Bool.not_eq_true', Bool.not_eq_false', Bool.and_eq_true, Bool.or_eq_true, bne_eq_false_iff_eq] at c3
     refine den_seq ?_
     refine den_region TTok ?_
     intro K hK
     simp -implicitDefEqProofs (disch := first | decide | assumption | omega) only [go_sem, wrap_id]
     refine hK _ _ ?_
     clear hK K
     refine den_ret ?_
     simp (disch := decide) only [resP_1, puts_same, puts_ne]
     exact absurd c3 (by first | (simp; done) | (simp; omega) | omega | (simp [eqC_self]; done))
    ·try simp only [decide_eq_true_eq, decide_eq_false_iff_not, beq_iff_eq, beq_eq_false_iff_ne, bne_iff_ne, ne_eq, Bool.not_eq_true', Bool.not_eq_false', Bool.and_eq_true, Bool.or_eq_true, bne_eq_false_iff_eq] at c3
     refine den_skip ?_
     refine den_seq ?_
     refine den_region TTok ?_
     intro K hK
     simp -implicitDefEqProofs (disch := first | decide | assumption | omega) only [go_sem, wrap_id]
     refine hK _ _ ?_
     clear hK K
     refine den_seq ?_
     refine den_region TTok ?_
     intro K hK
     simp -implicitDefEqProofs (disch := first | decide | assumption | omega) only [go_sem, ld33, BoxAt.cell hb7_6, wrap_id]
     try simp -implicitDefEqProofs (disch := first | decide | assumption | omega) only [go_sem, wrap_id]
     refine CallA.mono (markF_ok _ _ _ ((partR X q).1) (1 : Int) _ _ _ _ hod7_2_0 hom7_2_0 hov7_2_0 (Fresh.two (lo := 0) hfd7_2_0 (Fresh.two (lo := 0) hfm7_2_0 hfv7_2_0 ap12 (Nat.zero_le _) (Nat.zero_le _)) (Apart.app ap10 ap11) (Nat.zero_le _) (Nat.zero_le _)).nodup (by omega)) ?_
     intro v_ h17_2
     rintro ⟨rfl, hogd17_2, hogm17_2, hogv17_2, cg17_2⟩
     replace hod5_3_0 := OS.chg hod5_3_0 cg17_2 (Apart.app (apart_lt hlhod5_3_0 hfd7_2_0 (by omega)) (Apart.app (apart_lt hlhod5_3_0 hfm7_2_0 (by omega)) (apart_lt hlhod5_3_0 hfv7_2_0 (by omega))))
     replace hom5_3_0 := OS.chg hom5_3_0 cg17_2 (Apart.app (apart_lt hlhom5_3_0 hfd7_2_0 (by omega)) (Apart.app (apart_lt hlhom5_3_0 hfm7_2_0 (by omega)) (apart_lt hlhom5_3_0 hfv7_2_0 (by omega))))
     replace hov5_3_0 := OS.chg hov5_3_0 cg17_2 (Apart.app (apart_lt hlhov5_3_0 hfd7_2_0 (by omega)) (Apart.app (apart_lt hlhov5_3_0 hfm7_2_0 (by omega)) (apart_lt hlhov5_3_0 hfv7_2_0 (by omega))))
     replace hb0_0 := BoxAt.chgA hb0_0 cg17_2 (Apart.app (apart_lt hlhb0_0 hfd7_2_0 (by omega)) (Apart.app (apart_lt hlhb0_0 hfm7_2_0 (by omega)) (apart_lt hlhb0_0 hfv7_2_0 (by omega))))
     replace hb5_7 := BoxAt.chgA hb5_7 cg17_2 (Apart.app (apart_lt hlhb5_7 hfd7_2_0 (by omega)) (Apart.app (apart_lt hlhb5_7 hfm7_2_0 (by omega)) (apart_lt hlhb5_7 hfv7_2_0 (by omega))))
     replace hb7_6 := BoxAt.chgA hb7_6 cg17_2 (Apart.app (apart_gt hfhb7_6 hlhod7_2_0 (by omega)) (Apart.app (apart_gt hfhb7_6 hlhom7_2_0 (by omega)) (apart_gt hfhb7_6 hlhov7_2_0 (by omega))))
     have := cg17_2.size
     replace eB := Ext.then eB cg17_2 (ge_app (ge_of hfd7_2_0 (by omega)) (ge_app (ge_of hfm7_2_0 (by omega)) (ge_of hfv7_2_0 (by omega))))
     have ap29 : Apart fm7_2_0 fd7_2_0 := (Apart.symm ap10)
     have ap30 : Apart fv7_2_0 fd7_2_0 := (Apart.symm ap11)
     have hlhogd17_2 := hlhod7_2_0
     have ap31 : Apart fv7_2_0 fm7_2_0 := (Apart.symm ap12)
     have ap32 : Apart fd7_2_0 fm7_2_0 := (Apart.symm ap29)
     have hlhogm17_2 := hlhom7_2_0
     have ap33 : Apart fd7_2_0 fv7_2_0 := (Apart.symm ap30)
     have ap34 : Apart fm7_2_0 fv7_2_0 := (Apart.symm ap31)
     have hlhogv17_2 := hlhov7_2_0
     try simp -implicitDefEqProofs (disch := first | decide | assumption | omega) only [go_sem, wrap_id]
     refine hK _ _ ?_
     clear hK K
     refine den_seq ?_
     refine den_region TTok ?_
     intro K hK
     simp -implicitDefEqProofs (disch := first | decide | assumption | omega) only [go_sem, wrap_id]
     refine hK _ _ ?_
     clear hK K
     refine den_seq ?_
     refine den_region TTok ?_
     intro K hK
     simp -implicitDefEqProofs (disch := first | decide | assumption | omega) only [go_sem, ld33, BoxAt.cell hb7_6, wrap_id]
     try simp -implicitDefEqProofs (disch := first | decide | assumption | omega) only [go_sem, wrap_id]
     refine CallA.mono (heldF_ok _ _ _ ((partR X q).1) (1 : Int) _ (OS.rd hogd17_2) (OS.rd hogm17_2) (OS.rd hogv17_2) (by omega)) ?_
     intro v_ h19_2
     rintro ⟨rfl, e19_2⟩
     replace hod5_3_0 := OS.ext hod5_3_0 e19_2
     replace hom5_3_0 := OS.ext hom5_3_0 e19_2
     replace hov5_3_0 := OS.ext hov5_3_0 e19_2
     replace hogd17_2 := OS.ext hogd17_2 e19_2
     replace hogm17_2 := OS.ext hogm17_2 e19_2
     replace hogv17_2 := OS.ext hogv17_2 e19_2
     replace hb0_0 := BoxAt.ext hb0_0 e19_2
     replace hb5_7 := BoxAt.ext hb5_7 e19_2
     replace hb7_6 := BoxAt.ext hb7_6 e19_2
     have := Ext.size e19_2
     replace eB := Ext.trans eB e19_2
     try simp -implicitDefEqProofs (disch := first | decide | assumption | omega) only [go_sem, wrap_id]
     refine hK _ _ ?_
     clear hK K
     refine den_seq ?_
     refine den_seq ?_
     refine den_region TTok ?_
     intro K hK
     simp -implicitDefEqProofs (disch := first | decide | assumption | omega) only [go_sem, wrap_id]
     refine hK _ _ ?_
     clear hK K
     refine den_cond rfl (fun c4 => ?_) (fun c4 => ?_)
     ·try simp only [decide_eq_true_eq, decide_eq_false_iff_not, beq_iff_eq, beq_eq_false_iff_ne, bne_iff_ne, ne_eq, Bool.not_eq_true', Bool.not_eq_false', Bool.and_eq_true, Bool.or_eq_true, bne_eq_false_iff_eq] at c4
      refine den_seq ?_
      refine den_region TTok ?_
      intro K hK
      simp -implicitDefEqProofs (disch := first | decide | assumption | omega) only [go_sem, wrap_id]
      refine hK _ _ ?_
      clear hK K
      refine den_ret ?_
      simp (disch := decide) only [resP_1, puts_same, puts_ne]
      exact absurd c4 (by first | (simp; done) | (simp; omega) | omega | (simp [eqC_self]; done))
     ·try simp only [decide_eq_true_eq, decide_eq_false_iff_not, beq_iff_eq, beq_eq_false_iff_ne, bne_iff_ne, ne_eq, Bool.not_eq_true', Bool.not_eq_false', Bool.and_eq_true, Bool.or_eq_true, bne_eq_false_iff_eq] at c4
      refine den_skip ?_
      refine den_seq ?_
      refine den_seq ?_
      refine den_region TTok ?_
      intro K hK
      simp -implicitDefEqProofs (disch := first | decide | assumption | omega) only [go_sem, wrap_id]
      refine hK _ _ ?_
      clear hK K
      refine den_cond rfl (fun c5 => ?_) (fun c5 => ?_)
      ·try simp only [decide_eq_true_eq, decide_eq_false_iff_not, beq_iff_eq, beq_eq_false_iff_ne, bne_iff_ne, ne_eq, Bool.not_eq_true', Bool.not_eq_false', Bool.and_eq_true, Bool.or_eq_true, bne_eq_false_iff_eq] at c5
       refine den_seq ?_
       refine den_region TTok ?_
       intro K hK
       simp -implicitDefEqProofs (disch := first | decide | assumption | omega) only [go_sem, wrap_id]
       refine hK _ _ ?_
       clear hK K
       refine den_ret ?_
       simp (disch := decide) only [resP_1, puts_same, puts_ne]
       exact absurd c5 (by first | (simp; done) | (simp; omega) | omega | (simp [eqC_self]; done))
      ·try simp only [decide_eq_true_eq, decide_eq_false_iff_not, beq_iff_eq, beq_eq_false_iff_ne, bne_iff_ne, ne_eq, Bool.not_eq_true', Bool.not_eq_false', Bool.and_eq_true, Bool.or_eq_true, bne_eq_false_iff_eq] at c5
       refine den_skip ?_
       refine den_seq ?_
       refine den_region TTok ?_
       intro K hK
       simp -implicitDefEqProofs (disch := first | decide | assumption | omega) only [go_sem, ld28, BoxAt.cell hb0_0, wrap_id]
       try simp -implicitDefEqProofs (disch := first | decide | assumption | omega) only [go_sem, wrap_id]
       refine CallA.mono (toF_ok _ X _ ⟨_, _, _, rfl, (RdS.pres hdX (Ext.pres eB)), (RdS.pres hmX (Ext.pres eB)), (RdS.pres hvX (Ext.pres eB))⟩ hMX) ?_
       intro v_ h24_1
       rintro ⟨vd24_1, vm24_1, vv24_1, fd24_1, fm24_1, fv24_1, rfl, hod24_1, hom24_1, hov24_1, hf24_1, e24_1⟩
       replace hod5_3_0 := OS.ext hod5_3_0 e24_1
       replace hom5_3_0 := OS.ext hom5_3_0 e24_1
       replace hov5_3_0 := OS.ext hov5_3_0 e24_1
       replace hogd17_2 := OS.ext hogd17_2 e24_1
       replace hogm17_2 := OS.ext hogm17_2 e24_1
       replace hogv17_2 := OS.ext hogv17_2 e24_1
       replace hb0_0 := BoxAt.ext hb0_0 e24_1
       replace hb5_7 := BoxAt.ext hb5_7 e24_1
       replace hb7_6 := BoxAt.ext hb7_6 e24_1
       have := Ext.size e24_1
       replace eB := Ext.trans eB e24_1
       have hfd24_1 := hf24_1.left
       have hf24_1r0 := hf24_1.right
       have hfm24_1 := hf24_1r0.left
       have hfv24_1 := hf24_1r0.right
       have hlhod24_1 := OS.lt hod24_1
       have hlhom24_1 := OS.lt hom24_1
       have hlhov24_1 := OS.lt hov24_1
       have ap35 : Apart fd24_1 fm24_1 := Apart.lft (apart_nodup hf24_1)
       have ap36 : Apart fd24_1 fv24_1 := Apart.rgt (apart_nodup hf24_1)
       have ap37 : Apart fm24_1 fv24_1 := apart_nodup hf24_1r0
       try simp -implicitDefEqProofs (disch := first | decide | assumption | omega) only [go_sem, wrap_id]
       try simp -implicitDefEqProofs (disch := first | decide | assumption | omega) only [go_sem, wrap_id]
       refine CallA.mono (iPart_ok _ X q _ ⟨_, _, _, rfl, (OS.rd hod24_1), (OS.rd hom24_1), (OS.rd hov24_1)⟩ ) ?_
       intro v_ h24_3
       rintro ⟨vd24_3_0, vm24_3_0, vv24_3_0, fd24_3_0, fm24_3_0, fv24_3_0, rfl, hod24_3_0, hom24_3_0, hov24_3_0, hf24_3_0, e24_3⟩
       replace hod5_3_0 := OS.ext hod5_3_0 e24_3
       replace hom5_3_0 := OS.ext hom5_3_0 e24_3
       replace hov5_3_0 := OS.ext hov5_3_0 e24_3
       replace hogd17_2 := OS.ext hogd17_2 e24_3
       replace hogm17_2 := OS.ext hogm17_2 e24_3
       replace hogv17_2 := OS.ext hogv17_2 e24_3
       replace hod24_1 := OS.ext hod24_1 e24_3
       replace hom24_1 := OS.ext hom24_1 e24_3
       replace hov24_1 := OS.ext hov24_1 e24_3
       replace hb0_0 := BoxAt.ext hb0_0 e24_3
       replace hb5_7 := BoxAt.ext hb5_7 e24_3
       replace hb7_6 := BoxAt.ext hb7_6 e24_3
       have := Ext.size e24_3
       replace eB := Ext.trans eB e24_3
       have hfd24_3_0 := hf24_3_0.left
       have hf24_3_0r0 := hf24_3_0.right
       have hfm24_3_0 := hf24_3_0r0.left
       have hfv24_3_0 := hf24_3_0r0.right
       have hlhod24_3_0 := OS.lt hod24_3_0
       have hlhom24_3_0 := OS.lt hom24_3_0
       have hlhov24_3_0 := OS.lt hov24_3_0
       have ap38 : Apart fd24_3_0 fm24_3_0 := Apart.lft (apart_nodup hf24_3_0)
       have ap39 : Apart fd24_3_0 fv24_3_0 := Apart.rgt (apart_nodup hf24_3_0)
       have ap40 : Apart fm24_3_0 fv24_3_0 := apart_nodup hf24_3_0r0
       try simp -implicitDefEqProofs (disch := first | decide | assumption | omega) only [go_sem, wrap_id]
       refine op_alloc (cs := #[.int .i64 0, .slice none 0 0, .slice none 0 0, .slice none 0 0]) (by kernel_rfl) ?_
       intro h24_7 e24_7 hb24_7 z24_7
       replace hod5_3_0 := OS.ext hod5_3_0 e24_7
       replace hom5_3_0 := OS.ext hom5_3_0 e24_7
       replace hov5_3_0 := OS.ext hov5_3_0 e24_7
       replace hogd17_2 := OS.ext hogd17_2 e24_7
       replace hogm17_2 := OS.ext hogm17_2 e24_7
       replace hogv17_2 := OS.ext hogv17_2 e24_7
       replace hod24_1 := OS.ext hod24_1 e24_7
       replace hom24_1 := OS.ext hom24_1 e24_7
       replace hov24_1 := OS.ext hov24_1 e24_7
       replace hod24_3_0 := OS.ext hod24_3_0 e24_7
       replace hom24_3_0 := OS.ext hom24_3_0 e24_7
       replace hov24_3_0 := OS.ext hov24_3_0 e24_7
       replace hb0_0 := BoxAt.ext hb0_0 e24_7
       replace hb5_7 := BoxAt.ext hb5_7 e24_7
       replace hb7_6 := BoxAt.ext hb7_6 e24_7
       have := Ext.size e24_7
       replace eB := Ext.trans eB e24_7
       have hfhb24_7 : Fresh h24_3.size [h24_3.size] := Fresh.one _
       have hlhb24_7 := one_lt (show h24_3.size < h24_7.size by omega)
       try simp -implicitDefEqProofs (disch := first | decide | assumption | omega) only [go_sem, wrap_id]
       refine op_storeB (cs' := #[.int .i64 ((((partR X q).1).c.p)), vd24_3_0, vm24_3_0, vv24_3_0]) st33 hb24_7 rfl rfl rfl (by simp) (allOne_mem (l := [.int .i64 ((((partR X q).1).c.p)), vd24_3_0, vm24_3_0, vv24_3_0]) ⟨rfl, (OS.one hod24_3_0).1, (OS.one hom24_3_0).1, (OS.one hov24_3_0).1, trivial⟩) rfl ?_
       intro h24_8 hb24_7 c24_8
       replace hod5_3_0 := OS.chg hod5_3_0 c24_8 (apart_lt hlhod5_3_0 hfhb24_7 (by omega))
       replace hom5_3_0 := OS.chg hom5_3_0 c24_8 (apart_lt hlhom5_3_0 hfhb24_7 (by omega))
       replace hov5_3_0 := OS.chg hov5_3_0 c24_8 (apart_lt hlhov5_3_0 hfhb24_7 (by omega))
       replace hogd17_2 := OS.chg hogd17_2 c24_8 (apart_lt hlhogd17_2 hfhb24_7 (by omega))
       replace hogm17_2 := OS.chg hogm17_2 c24_8 (apart_lt hlhogm17_2 hfhb24_7 (by omega))
       replace hogv17_2 := OS.chg hogv17_2 c24_8 (apart_lt hlhogv17_2 hfhb24_7 (by omega))
       replace hod24_1 := OS.chg hod24_1 c24_8 (apart_lt hlhod24_1 hfhb24_7 (by omega))
       replace hom24_1 := OS.chg hom24_1 c24_8 (apart_lt hlhom24_1 hfhb24_7 (by omega))
       replace hov24_1 := OS.chg hov24_1 c24_8 (apart_lt hlhov24_1 hfhb24_7 (by omega))
       replace hod24_3_0 := OS.chg hod24_3_0 c24_8 (apart_lt hlhod24_3_0 hfhb24_7 (by omega))
       replace hom24_3_0 := OS.chg hom24_3_0 c24_8 (apart_lt hlhom24_3_0 hfhb24_7 (by omega))
       replace hov24_3_0 := OS.chg hov24_3_0 c24_8 (apart_lt hlhov24_3_0 hfhb24_7 (by omega))
       replace hb0_0 := BoxAt.chgA hb0_0 c24_8 (apart_lt hlhb0_0 hfhb24_7 (by omega))
       replace hb5_7 := BoxAt.chgA hb5_7 c24_8 (apart_lt hlhb5_7 hfhb24_7 (by omega))
       replace hb7_6 := BoxAt.chgA hb7_6 c24_8 (apart_lt hlhb7_6 hfhb24_7 (by omega))
       have := c24_8.size
       replace eB := Ext.then eB c24_8 (ge_of hfhb24_7 (by omega))
       try simp -implicitDefEqProofs (disch := first | decide | assumption | omega) only [go_sem, wrap_id]
       refine hK _ _ ?_
       clear hK K
       refine den_seq ?_
       refine den_seq ?_
       refine den_merge [(92, .bool (((!(true)) || (((partR X q).2) != ((partR X q).2)))))] [9, 12] (fun H => Ext h24_8 H) ?_ ?_
        -- a way
       ·refine den_region TTok ?_
        intro K hK
        simp -implicitDefEqProofs (disch := first | decide | assumption | (simp (disch := decide) only [slotOf_zero, slotOf_succ, Option.map_some, puts_same, puts_ne, gv_bool, gv_undef, tt, tf, ft, ff, eq_self, if_true, if_false, Bool.false_eq_true, Bool.not_true, Bool.not_false]; done) | omega) only [go_sem, ld33, BoxAt.cell hb5_7, BoxAt.cell hb24_7, wrap_id]
        try simp -implicitDefEqProofs (disch := first | decide | assumption | omega) only [go_sem, wrap_id]
        refine CallA.mono (eqF_same _ _ ((partR X q).1) _ ⟨_, _, _, rfl, (OS.rd hod24_3_0), (OS.rd hom24_3_0), (OS.rd hov24_3_0)⟩ ⟨_, _, _, rfl, (OS.rd hod5_3_0), (OS.rd hom5_3_0), (OS.rd hov5_3_0)⟩) ?_
        intro v_ h25_2
        rintro ⟨rfl, e25_2⟩
        replace hod5_3_0 := OS.ext hod5_3_0 e25_2
        replace hom5_3_0 := OS.ext hom5_3_0 e25_2
        replace hov5_3_0 := OS.ext hov5_3_0 e25_2
        replace hogd17_2 := OS.ext hogd17_2 e25_2
        replace hogm17_2 := OS.ext hogm17_2 e25_2
        replace hogv17_2 := OS.ext hogv17_2 e25_2
        replace hod24_3_0 := OS.ext hod24_3_0 e25_2
        replace hom24_3_0 := OS.ext hom24_3_0 e25_2
        replace hov24_3_0 := OS.ext hov24_3_0 e25_2
        replace hb5_7 := BoxAt.ext hb5_7 e25_2
        replace hb7_6 := BoxAt.ext hb7_6 e25_2
        replace hb24_7 := BoxAt.ext hb24_7 e25_2
        have := Ext.size e25_2
        replace eB := Ext.trans eB e25_2
        try simp -implicitDefEqProofs (disch := first | decide | assumption | (simp (disch := decide) only [slotOf_zero, slotOf_succ, Option.map_some, puts_same, puts_ne, gv_bool, gv_undef, tt, tf, ft, ff, eq_self, if_true, if_false, Bool.false_eq_true, Bool.not_true, Bool.not_false]; done) | omega) only [go_sem, wrap_id]
        try simp -implicitDefEqProofs (disch := first | decide | assumption | (simp (disch := decide) only [slotOf_zero, slotOf_succ, Option.map_some, puts_same, puts_ne, gv_bool, gv_undef, tt, tf, ft, ff, eq_self, if_true, if_false, Bool.false_eq_true, Bool.not_true, Bool.not_false]; done) | omega) only [go_sem, wrap_id]
        refine hK _ _ ?_
        clear hK K
        refine den_stop ?_
        refine ⟨?_, e25_2⟩
        first | (simp (disch := decide) only [go_sem, eq_self, Bool.true_and, Bool.and_true, Bool.false_and, Bool.and_false, Bool.true_or, Bool.or_true, Bool.false_or, Bool.or_false, if_true, if_false, Bool.false_eq_true]; done) | simp [HasL, sel, puts_at]
       intro en41 h42 e43
       replace hod5_3_0 := OS.ext hod5_3_0 e43
       replace hom5_3_0 := OS.ext hom5_3_0 e43
       replace hov5_3_0 := OS.ext hov5_3_0 e43
       replace hogd17_2 := OS.ext hogd17_2 e43
       replace hogm17_2 := OS.ext hogm17_2 e43
       replace hogv17_2 := OS.ext hogv17_2 e43
       replace hod24_3_0 := OS.ext hod24_3_0 e43
       replace hom24_3_0 := OS.ext hom24_3_0 e43
       replace hov24_3_0 := OS.ext hov24_3_0 e43
       replace hb5_7 := BoxAt.ext hb5_7 e43
       replace hb7_6 := BoxAt.ext hb7_6 e43
       replace hb24_7 := BoxAt.ext hb24_7 e43
       have := Ext.size e43
       replace eB := Ext.trans eB e43
       simp (disch := decide) only [go_sem]
       refine den_cond rfl (fun c6 => ?_) (fun c6 => ?_)
       ·try simp only [decide_eq_true_eq, decide_eq_false_iff_not, beq_iff_eq, beq_eq_false_iff_ne, bne_iff_ne, ne_eq, Bool.not_eq_true', Bool.not_eq_false', Bool.and_eq_true, Bool.or_eq_true, bne_eq_false_iff_eq] at c6
        refine den_seq ?_
        refine den_region TTok ?_
        intro K hK
        simp -implicitDefEqProofs (disch := first | decide | assumption | omega) only [go_sem, wrap_id]
        refine hK _ _ ?_
        clear hK K
        refine den_ret ?_
        simp (disch := decide) only [resP_1, puts_same, puts_ne]
        exact absurd c6 (by first | (simp; done) | (simp; omega) | omega | (simp [eqC_self]; done))
       ·try simp only [decide_eq_true_eq, decide_eq_false_iff_not, beq_iff_eq, beq_eq_false_iff_ne, bne_iff_ne, ne_eq, Bool.not_eq_true', Bool.not_eq_false', Bool.and_eq_true, Bool.or_eq_true, bne_eq_false_iff_eq] at c6
        refine den_skip ?_
        refine den_seq ?_
        refine den_region TTok ?_
        intro K hK
        simp -implicitDefEqProofs (disch := first | decide | assumption | omega) only [go_sem, wrap_id]
        refine hK _ _ ?_
        clear hK K
        refine den_seq ?_
        refine den_region TTok ?_
        intro K hK
        simp -implicitDefEqProofs (disch := first | decide | assumption | omega) only [go_sem, ld33, BoxAt.cell hb7_6, wrap_id]
        try simp -implicitDefEqProofs (disch := first | decide | assumption | omega) only [go_sem, wrap_id]
        refine CallA.mono (heldF_ok _ _ _ ((partR X q).1) (1 : Int) _ (OS.rd hogd17_2) (OS.rd hogm17_2) (OS.rd hogv17_2) (by omega)) ?_
        intro v_ h28_2
        rintro ⟨rfl, e28_2⟩
        replace hogd17_2 := OS.ext hogd17_2 e28_2
        replace hogm17_2 := OS.ext hogm17_2 e28_2
        replace hogv17_2 := OS.ext hogv17_2 e28_2
        replace hb7_6 := BoxAt.ext hb7_6 e28_2
        have := Ext.size e28_2
        replace eB := Ext.trans eB e28_2
        try simp -implicitDefEqProofs (disch := first | decide | assumption | omega) only [go_sem, wrap_id]
        refine hK _ _ ?_
        clear hK K
        refine den_seq ?_
        refine den_seq ?_
        refine den_region TTok ?_
        intro K hK
        simp -implicitDefEqProofs (disch := first | decide | assumption | omega) only [go_sem, wrap_id]
        refine hK _ _ ?_
        clear hK K
        refine den_cond rfl (fun c7 => ?_) (fun c7 => ?_)
        ·try simp only [decide_eq_true_eq, decide_eq_false_iff_not, beq_iff_eq, beq_eq_false_iff_ne, bne_iff_ne, ne_eq, Bool.not_eq_true', Bool.not_eq_false', Bool.and_eq_true, Bool.or_eq_true, bne_eq_false_iff_eq] at c7
         refine den_seq ?_
         refine den_region TTok ?_
         intro K hK
         simp -implicitDefEqProofs (disch := first | decide | assumption | omega) only [go_sem, wrap_id]
         refine hK _ _ ?_
         clear hK K
         refine den_ret ?_
         simp (disch := decide) only [resP_1, puts_same, puts_ne]
         exact absurd c7 (by first | (simp; done) | (simp; omega) | omega | (simp [eqC_self]; done))
        ·try simp only [decide_eq_true_eq, decide_eq_false_iff_not, beq_iff_eq, beq_eq_false_iff_ne, bne_iff_ne, ne_eq, Bool.not_eq_true', Bool.not_eq_false', Bool.and_eq_true, Bool.or_eq_true, bne_eq_false_iff_eq] at c7
         refine den_skip ?_
         refine den_seq ?_
         refine den_seq ?_
         refine den_region TTok ?_
         intro K hK
         simp -implicitDefEqProofs (disch := first | decide | assumption | omega) only [go_sem, wrap_id]
         refine hK _ _ ?_
         clear hK K
         refine den_cond rfl (fun c8 => ?_) (fun c8 => ?_)
         ·try simp only [decide_eq_true_eq, decide_eq_false_iff_not, beq_iff_eq, beq_eq_false_iff_ne, bne_iff_ne, ne_eq, Bool.not_eq_true', Bool.not_eq_false', Bool.and_eq_true, Bool.or_eq_true, bne_eq_false_iff_eq] at c8
          refine den_seq ?_
          refine den_region TTok ?_
          intro K hK
          simp -implicitDefEqProofs (disch := first | decide | assumption | omega) only [go_sem, wrap_id]
          refine hK _ _ ?_
          clear hK K
          refine den_ret ?_
          simp (disch := decide) only [resP_1, puts_same, puts_ne]
          exact absurd c8 (by first | (simp; done) | (simp; omega) | omega | (simp [eqC_self]; done))
         ·try simp only [decide_eq_true_eq, decide_eq_false_iff_not, beq_iff_eq, beq_eq_false_iff_ne, bne_iff_ne, ne_eq, Bool.not_eq_true', Bool.not_eq_false', Bool.and_eq_true, Bool.or_eq_true, bne_eq_false_iff_eq] at c8
          refine den_skip ?_
          refine den_seq ?_
          refine den_region TTok ?_
          intro K hK
          simp -implicitDefEqProofs (disch := first | decide | assumption | omega) only [go_sem, wrap_id]
          refine hK _ _ ?_
          clear hK K
          refine den_ret ?_
          simp (disch := decide) only [resP_1, puts_same, puts_ne]
          exact ⟨by first | rfl | trivial, eB⟩
end Go.Proofs.Ytjjjgllbocgkbaa
