/-
  What the statement FnExactAreHomotopic uses of the walks, part 5.
  Conditions: each theorem's own.
-/
import Derived.Test.YtbplnadngahgaaaG16
import Derived.Test.YtbplnadngahgaaaG17
import Derived.Test.YtbplnadngahgaaaG14
import Derived.Test.YtbplnadngahgaaaG13
import Derived.Test.YtbplnadngahgaaaG15
import Derived.Test.YtbplnadngahgaaaG18
import Derived.Test.YtbplnadngahgaaaG19
import Derived.Test.YtbplnadngahgaaaZAreHomotopic1
import Derived.Test.YtbplnadngahgaaaZAreHomotopic2
import Derived.Test.YtbplnadngahgaaaZAreHomotopic3
import Derived.Test.YtbplnadngahgaaaZAreHomotopic4
set_option linter.unusedVariables false
set_option linter.unusedSimpArgs false
namespace Go.Proofs.Ytbplnadngahgaaa
open Go
/-- A row that is one's own, or one that lies in other blocks. -/
def EM (h0 : Heap) (fE : List Nat) (h : Heap) (u : Value) (x : List Int) (fp : List Nat) : Prop := O1 h u x fp ∨ ESt h0 fE h u x fp
instance {h0 : Heap} {fE : List Nat} : Own (EM h0 fE) := ⟨fun hl h => h.elim (fun a => .inl (Own.loc hl a)) .inr, (fun h => h.elim Own.lt fun a b hb => by rw [a.1] at hb; cases hb), (fun h => h.elim Own.one fun a => a.2.1)⟩
abbrev O2M (h0 : Heap) (fE : List Nat) : Heap → Value → List (List Int) → List Nat → Prop := OS 22 (EM h0 fE)
theorem O2M.nil {h0 : Heap} {fE : List Nat} {h : Heap} {v : Value} {fp : List Nat} (ho : O2 h v [] fp) : O2M h0 fE h v [] fp := by
 rcases ho with ⟨h1, _, h3⟩ | ⟨b, c, cur, fps, rfl, r⟩
 ·exact .inl ⟨h1, rfl, h3⟩
 ·exact .inr ⟨b, c, cur, fps, rfl, ⟨r.val, r.box, r.size, r.max, r.le, r.len, fun j hj => by simp at hj⟩⟩
theorem O2M.rd {h0 : Heap} {fE : List Nat} {h : Heap} {v : Value} {xs : List (List Int)} {fp : List Nat} (ho : O2M h0 fE h v xs fp) (hag : Agr fE h0 h) : R2 h v xs := by
 rcases ho with ⟨rfl, rfl, _⟩ | ⟨b, c, cur, fps, _, r⟩
 ·exact ⟨none, 0, rfl, .inr rfl, by simp, by omega, fun j hj => by simp at hj⟩
 ·refine ⟨some ⟨b, 0, none⟩, c, r.val, .inl rfl, r.le, r.max, fun j hj => ?_⟩
  obtain ⟨u, f, h1, _, h4⟩ := r.el j hj
  refine ⟨u, ?_, h4.elim (fun a => OS.rd a) fun a => a.2.2 h hag⟩
  rw [r.val]
  simp only [sA]
  rw [addr_add, r.box.cell, Nat.zero_add, h1]
theorem ES.row {h : Heap} {vE : Value} {E : List (List Int)} {fE : List Nat} (hE : O2 h vE E fE) (hn : fE.Nodup) {i : Nat} (hi : i < E.length) {H : Heap} : ESt h fE H (rowV h vE i) (E.getD i default) [] := by
 obtain ⟨f, hO, hsub, _, _⟩ := OS.elem hE hn i hi
 exact ⟨rfl, Own.one hO, fun h' hg => OS.rd (show O1 h' (rowV h vE i) (E.getD i default) f from Own.loc (fun b hb => hg b (hsub b hb)) hO)⟩
theorem getD_elem {α : Type} [Inhabited α] {xs : List α} {j : Nat} (hj : j < xs.length) : xs[j] = xs.getD j default := by
 rw [List.getD_eq_getElem?_getD, List.getElem?_eq_getElem hj]; rfl
-- ---- ranks
def imgs (X Y : Cx) (f : List (List (List Int))) (n : Int) (L : List (List Int)) : List (List Int) := L.map fun z => imgP X Y f 0 n z
noncomputable def rkL (X Y : Cx) (f : List (List (List Int))) (n : Int) : List (List Int) := bndP Y n ++ imgs X Y f n (cycP X n)
noncomputable def rkP (X Y : Cx) (f : List (List (List Int))) (n : Int) : Int := ((ech X.p (rkL X Y f n)).length : Int) - ((bndP Y n).length : Int)
theorem appP_img {X Y : Cx} {f : List (List (List Int))} {n : Int} (h0 : 0 ≤ n) (h1 : n ≤ (X.dims.length : Int) - 1) (v : List Int) : appP X Y f 0 n v = imgP X Y f 0 n v := by rw [appP, if_pos (in3_iff.2 ⟨h0, h1⟩)]
theorem cyc_vec {X : Cx} (hC : IsC X) {n : Int} (h0 : 0 ≤ n) (h1 : n ≤ (X.dims.length : Int) - 1) : ∀ z ∈ cycP X n, (z.length : Int) = X.dims.getD n.toNat 0 ∧ Bnd X.p z := fun z hz => by
 obtain ⟨l, r⟩ := cyc_rr hC n
 have := r.tbl z hz
 have hd := dimP_bnd hC n
 have e : dimP X n = X.dims.getD n.toNat 0 := by rw [dimP, if_pos (in3_iff.2 ⟨h0, h1⟩)]
 exact ⟨by omega, this.2⟩
structure RkOk (X Y : Cx) (f : List (List (List Int))) (n : Int) : Prop where
 cX : IsC X
 cY : IsC Y
 cf : IsFam X Y f 0
 p : X.p = Y.p
 n0 : 0 ≤ n
 n1 : n ≤ (X.dims.length : Int) - 1
theorem rk_tbl {X Y : Cx} {f : List (List (List Int))} {n : Int} (h : RkOk X Y f n) : ∀ r ∈ rkL X Y f n, r.length = (dimP Y n).toNat ∧ Bnd X.p r := fun r hr => by
 rcases List.mem_append.1 hr with h1 | h1
 ·obtain ⟨l, rb⟩ := bnd_rr h.cY h.n0
  have := rb.tbl r h1
  exact ⟨this.1, h.p ▸ this.2⟩
 ·obtain ⟨z, hz, rfl⟩ := List.mem_map.1 h1
  have hv := cyc_vec h.cX h.n0 h.n1 z hz
  have hl := img_len (s := 0) h.cY h.cf h.n0 h.n1 hv.1
  have hb := img_bnd (s := 0) h.cX h.cY h.cf h.n0 h.n1 hv.1 hv.2
  rw [Int.add_zero] at hl
  exact ⟨by omega, hb⟩
theorem rk_len {X Y : Cx} {f : List (List (List Int))} {n : Int} (h : RkOk X Y f n) : (rkL X Y f n).length ≤ 16 := by
 have := bnd_len h.cY h.n0
 have := cyc_len h.cX n
 simp only [rkL, imgs, List.length_append, List.length_map]; omega
theorem rk_ech {X Y : Cx} {f : List (List (List Int))} {n : Int} (h : RkOk X Y f n) : (ech X.p (rkL X Y f n)).length ≤ 8 := by
 have := ech_len_le h.cX.p (rk_tbl h)
 have := dimP_bnd h.cY n
 omega

set_option maxRecDepth 100000 in
theorem sRk_ok (vX vY vf : Value) (X : Cx) (Y : Cx) (f : List (List (List Int))) (n : Int) (h : Heap) (rX : RC h vX X) (rY : RC h vY Y) (rf : R3 h vf f) (hk : RkOk X Y f n) : CallA Try.prog 58 #[vX, vY, vf, .int .i64 n] h fun v' h' => v' = .int .i64 (rkP X Y f n) ∧ Ext h h' := by
 obtain ⟨vdX, vmX, rfl, hdX, hmX⟩ := rX
 have hledX := RdS.le hdX
 have hlemX := RdS.le hmX
 obtain ⟨vdY, vmY, rfl, hdY, hmY⟩ := rY
 have hledY := RdS.le hdY
 have hlemY := RdS.le hmY
 have hlef := RdS.le rf
 have hX := hk.cX
 have hY := hk.cY
 have hF := hk.cf
 have hn0 := hk.n0
 have hn1 := hk.n1
 have hlX := hX.len
 have hblen := bnd_len hY hn0
 have hclen := cyc_len hX n
 have hdy := dimP_bnd hY n
 have hrt := rk_tbl hk
 have hrl := rk_len hk
 have hre := rk_ech hk
 refine callA_intro TTok (args := [_, _, _, _]) Try.func58 (by kernel_rfl) rfl 48 rfl (by simp) [.tmp 8] rfl ?_
 simp only [idxs, Nat.reduceAdd]
 refine den_seq ?_
 refine den_region TTok ?_
 intro K hK
 simp -implicitDefEqProofs (disch := first | decide | assumption | omega) only [go_sem, RdS.len hdX sl22, RdS.idx hdX sl22, R1.intB hdX (HPres.refl _), RdS.cells hdX, RdS.len hmX sl23, RdS.idx hmX sl23, RdS.cellB hmX (HPres.refl _), RdS.cells hmX, RdS.len hdY sl22, RdS.idx hdY sl22, R1.intB hdY (HPres.refl _), RdS.cells hdY, RdS.len hmY sl23, RdS.idx hmY sl23, RdS.cellB hmY (HPres.refl _), RdS.cells hmY, RdS.len rf sl23, RdS.idx rf sl23, RdS.cellB rf (HPres.refl _), RdS.cells rf, wrap_id]
 refine op_box (cs := #[.int .i64 (X.p), vdX, vmX]) rfl ?_
 intro h0_0 e0_0 hb0_0 z0_0
 have := Ext.size e0_0
 have eB := e0_0
 have hfhb0_0 : Fresh h.size [h.size] := Fresh.one _
 have hlhb0_0 := one_lt (show h.size < h0_0.size by omega)
 try simp -implicitDefEqProofs (disch := first | decide | assumption | omega) only [go_sem, RdS.len hdX sl22, RdS.idx hdX sl22, R1.intB hdX (Ext.pres eB), RdS.cells hdX, RdS.len hmX sl23, RdS.idx hmX sl23, RdS.cellB hmX (Ext.pres eB), RdS.cells hmX, RdS.len hdY sl22, RdS.idx hdY sl22, R1.intB hdY (Ext.pres eB), RdS.cells hdY, RdS.len hmY sl23, RdS.idx hmY sl23, RdS.cellB hmY (Ext.pres eB), RdS.cells hmY, RdS.len rf sl23, RdS.idx rf sl23, RdS.cellB rf (Ext.pres eB), RdS.cells rf, BoxAt.cell hb0_0, wrap_id]
 refine op_box (cs := #[.int .i64 (Y.p), vdY, vmY]) rfl ?_
 intro h0_1 e0_1 hb0_1 z0_1
 replace hb0_0 := BoxAt.ext hb0_0 e0_1
 have := Ext.size e0_1
 replace eB := Ext.trans eB e0_1
 have hfhb0_1 : Fresh h0_0.size [h0_0.size] := Fresh.one _
 have hlhb0_1 := one_lt (show h0_0.size < h0_1.size by omega)
 try simp -implicitDefEqProofs (disch := first | decide | assumption | omega) only [go_sem, RdS.len hdX sl22, RdS.idx hdX sl22, R1.intB hdX (Ext.pres eB), RdS.cells hdX, RdS.len hmX sl23, RdS.idx hmX sl23, RdS.cellB hmX (Ext.pres eB), RdS.cells hmX, RdS.len hdY sl22, RdS.idx hdY sl22, R1.intB hdY (Ext.pres eB), RdS.cells hdY, RdS.len hmY sl23, RdS.idx hmY sl23, RdS.cellB hmY (Ext.pres eB), RdS.cells hmY, RdS.len rf sl23, RdS.idx rf sl23, RdS.cellB rf (Ext.pres eB), RdS.cells rf, BoxAt.cell hb0_0, BoxAt.cell hb0_1, wrap_id]
 refine hK _ _ ?_
 clear hK K
 refine den_seq ?_
 refine den_draw TTok mixed [] [(0, true), (1, true), (3, true), (4, true), (2, false), (5, false), (6, true), (7, true)] (by kernel_rfl) ?_
 intro K hK
 simp -implicitDefEqProofs (disch := first | decide | assumption | omega) only [go_sem, ld30, RdS.len hdX sl22, RdS.idx hdX sl22, R1.intB hdX (Ext.pres eB), RdS.cells hdX, RdS.len hmX sl23, RdS.idx hmX sl23, RdS.cellB hmX (Ext.pres eB), RdS.cells hmX, RdS.len hdY sl22, RdS.idx hdY sl22, R1.intB hdY (Ext.pres eB), RdS.cells hdY, RdS.len hmY sl23, RdS.idx hmY sl23, RdS.cellB hmY (Ext.pres eB), RdS.cells hmY, RdS.len rf sl23, RdS.idx rf sl23, RdS.cellB rf (Ext.pres eB), RdS.cells rf, BoxAt.cell hb0_0, BoxAt.cell hb0_1, wrap_id]
 try simp -implicitDefEqProofs (disch := first | decide | assumption | omega) only [go_sem, RdS.len hdX sl22, RdS.idx hdX sl22, R1.intB hdX (Ext.pres eB), RdS.cells hdX, RdS.len hmX sl23, RdS.idx hmX sl23, RdS.cellB hmX (Ext.pres eB), RdS.cells hmX, RdS.len hdY sl22, RdS.idx hdY sl22, R1.intB hdY (Ext.pres eB), RdS.cells hdY, RdS.len hmY sl23, RdS.idx hmY sl23, RdS.cellB hmY (Ext.pres eB), RdS.cells hmY, RdS.len rf sl23, RdS.idx rf sl23, RdS.cellB rf (Ext.pres eB), RdS.cells rf, BoxAt.cell hb0_0, BoxAt.cell hb0_1, wrap_id]
 refine CallA.mono (sCyc_ok _ X n _ ⟨_, _, rfl, (RdS.pres hdX (Ext.pres eB)), (RdS.pres hmX (Ext.pres eB))⟩ hX (by omega)) ?_
 intro vw1_2_0 h1_2
 rintro ⟨zvw1_2_0, fw1_2_0, rfl, how1_2_0, hfw1_2_0, e1_2⟩
 replace hb0_0 := BoxAt.ext hb0_0 e1_2
 replace hb0_1 := BoxAt.ext hb0_1 e1_2
 have := Ext.size e1_2
 replace eB := Ext.trans eB e1_2
 have hlhow1_2_0 := OS.lt how1_2_0
 try simp (disch := decide) only [outv_some, outv_none, put_puts]
 refine plK_pres (Ext.pres e1_2) ?_
 try simp -implicitDefEqProofs (disch := first | decide | assumption | omega) only [go_sem, RdS.len hdX sl22, RdS.idx hdX sl22, R1.intB hdX (Ext.pres eB), RdS.cells hdX, RdS.len hmX sl23, RdS.idx hmX sl23, RdS.cellB hmX (Ext.pres eB), RdS.cells hmX, RdS.len hdY sl22, RdS.idx hdY sl22, R1.intB hdY (Ext.pres eB), RdS.cells hdY, RdS.len hmY sl23, RdS.idx hmY sl23, RdS.cellB hmY (Ext.pres eB), RdS.cells hmY, RdS.len rf sl23, RdS.idx rf sl23, RdS.cellB rf (Ext.pres eB), RdS.cells rf, RdS.len (OS.rd how1_2_0) sl36, RdS.idx (OS.rd how1_2_0) sl36, RdS.cellN (OS.rd how1_2_0), RdS.cells (OS.rd how1_2_0), BoxAt.cell hb0_0, BoxAt.cell hb0_1, wrap_id]
 try simp -implicitDefEqProofs (disch := first | decide | assumption | omega) only [go_sem, RdS.len hdX sl22, RdS.idx hdX sl22, R1.intB hdX (Ext.pres eB), RdS.cells hdX, RdS.len hmX sl23, RdS.idx hmX sl23, RdS.cellB hmX (Ext.pres eB), RdS.cells hmX, RdS.len hdY sl22, RdS.idx hdY sl22, R1.intB hdY (Ext.pres eB), RdS.cells hdY, RdS.len hmY sl23, RdS.idx hmY sl23, RdS.cellB hmY (Ext.pres eB), RdS.cells hmY, RdS.len rf sl23, RdS.idx rf sl23, RdS.cellB rf (Ext.pres eB), RdS.cells rf, RdS.len (OS.rd how1_2_0) sl36, RdS.idx (OS.rd how1_2_0) sl36, RdS.cellN (OS.rd how1_2_0), RdS.cells (OS.rd how1_2_0), BoxAt.cell hb0_0, BoxAt.cell hb0_1, wrap_id]
 refine CallA.mono (sBnd_ok _ Y n _ ⟨_, _, rfl, (RdS.pres hdY (Ext.pres eB)), (RdS.pres hmY (Ext.pres eB))⟩ hY (by omega)) ?_
 intro vw1_5_0 h1_5
 rintro ⟨zvw1_5_0, fw1_5_0, rfl, how1_5_0, hfw1_5_0, e1_5⟩
 replace how1_2_0 := OS.ext how1_2_0 e1_5
 replace hb0_0 := BoxAt.ext hb0_0 e1_5
 replace hb0_1 := BoxAt.ext hb0_1 e1_5
 have := Ext.size e1_5
 replace eB := Ext.trans eB e1_5
 have hlhow1_5_0 := OS.lt how1_5_0
 try simp (disch := decide) only [outv_some, outv_none, put_puts]
 refine plK_pres (Ext.pres e1_5) ?_
 try simp -implicitDefEqProofs (disch := first | decide | assumption | omega) only [go_sem, RdS.len hdX sl22, RdS.idx hdX sl22, R1.intB hdX (Ext.pres eB), RdS.cells hdX, RdS.len hmX sl23, RdS.idx hmX sl23, RdS.cellB hmX (Ext.pres eB), RdS.cells hmX, RdS.len hdY sl22, RdS.idx hdY sl22, R1.intB hdY (Ext.pres eB), RdS.cells hdY, RdS.len hmY sl23, RdS.idx hmY sl23, RdS.cellB hmY (Ext.pres eB), RdS.cells hmY, RdS.len rf sl23, RdS.idx rf sl23, RdS.cellB rf (Ext.pres eB), RdS.cells rf, RdS.len (OS.rd how1_2_0) sl36, RdS.idx (OS.rd how1_2_0) sl36, RdS.cellN (OS.rd how1_2_0), RdS.cells (OS.rd how1_2_0), RdS.len (OS.rd how1_5_0) sl36, RdS.idx (OS.rd how1_5_0) sl36, RdS.cellN (OS.rd how1_5_0), RdS.cells (OS.rd how1_5_0), BoxAt.cell hb0_0, BoxAt.cell hb0_1, wrap_id]
 refine hK _ _ ?_
 clear hK K
 refine den_seq ?_
 refine den_region TTok ?_
 intro K hK
 simp -implicitDefEqProofs (disch := first | decide | assumption | omega) only [go_sem, RdS.len hdX sl22, RdS.idx hdX sl22, R1.intB hdX (Ext.pres eB), RdS.cells hdX, RdS.len hmX sl23, RdS.idx hmX sl23, RdS.cellB hmX (Ext.pres eB), RdS.cells hmX, RdS.len hdY sl22, RdS.idx hdY sl22, R1.intB hdY (Ext.pres eB), RdS.cells hdY, RdS.len hmY sl23, RdS.idx hmY sl23, RdS.cellB hmY (Ext.pres eB), RdS.cells hmY, RdS.len rf sl23, RdS.idx rf sl23, RdS.cellB rf (Ext.pres eB), RdS.cells rf, RdS.len (OS.rd how1_2_0) sl36, RdS.idx (OS.rd how1_2_0) sl36, RdS.cellN (OS.rd how1_2_0), RdS.cells (OS.rd how1_2_0), RdS.len (OS.rd how1_5_0) sl36, RdS.idx (OS.rd how1_5_0) sl36, RdS.cellN (OS.rd how1_5_0), RdS.cells (OS.rd how1_5_0), BoxAt.cell hb0_0, BoxAt.cell hb0_1, wrap_id]
 refine op_bs0 sz36 O1 ?_
 intro v2_0 h2_0 ho2_0 e2_0
 replace how1_2_0 := OS.ext how1_2_0 e2_0
 replace how1_5_0 := OS.ext how1_5_0 e2_0
 replace hb0_0 := BoxAt.ext hb0_0 e2_0
 replace hb0_1 := BoxAt.ext hb0_1 e2_0
 have := Ext.size e2_0
 replace eB := Ext.trans eB e2_0
 have hfho2_0 : Fresh h1_5.size [h1_5.size] := Fresh.one _
 have hlho2_0 := OS.lt ho2_0
 try simp -implicitDefEqProofs (disch := first | decide | assumption | omega) only [go_sem, RdS.len hdX sl22, RdS.idx hdX sl22, R1.intB hdX (Ext.pres eB), RdS.cells hdX, RdS.len hmX sl23, RdS.idx hmX sl23, RdS.cellB hmX (Ext.pres eB), RdS.cells hmX, RdS.len hdY sl22, RdS.idx hdY sl22, R1.intB hdY (Ext.pres eB), RdS.cells hdY, RdS.len hmY sl23, RdS.idx hmY sl23, RdS.cellB hmY (Ext.pres eB), RdS.cells hmY, RdS.len rf sl23, RdS.idx rf sl23, RdS.cellB rf (Ext.pres eB), RdS.cells rf, RdS.len (OS.rd how1_2_0) sl36, RdS.idx (OS.rd how1_2_0) sl36, RdS.cellN (OS.rd how1_2_0), RdS.cells (OS.rd how1_2_0), RdS.len (OS.rd how1_5_0) sl36, RdS.idx (OS.rd how1_5_0) sl36, RdS.cellN (OS.rd how1_5_0), RdS.cells (OS.rd how1_5_0), RdS.len (OS.rd ho2_0) sl36, RdS.idx (OS.rd ho2_0) sl36, RdS.cellN (OS.rd ho2_0), RdS.cells (OS.rd ho2_0), BoxAt.cell hb0_0, BoxAt.cell hb0_1, wrap_id]
 have hag2_2 := Agr.refl fw1_5_0 h2_0
 replace ho2_0 : O2M h2_0 fw1_5_0 _ _ _ _ := O2M.nil ho2_0
 refine op_appendM sz36 ho2_0 hfho2_0.nodup (OS.rd how1_5_0) rfl (fun j hj => (ES.row (H := h2_0) how1_5_0 hfw1_5_0.nodup hj).2.1.1) (fun j hj h'' => .inr (by rw [getD_elem hj]; exact ES.row how1_5_0 hfw1_5_0.nodup hj)) (by first | omega | (simp; omega)) rfl ?_
 intro v2_2 h2_2 fp2_2 ho2_2 hn2_2 hs2_2 c2_2
 have hsz2_2 := c2_2.size
 have hfho2_2 : Fresh h1_5.size fp2_2 := Fresh.appd hfho2_0 (Fresh.nil h2_0.size) (by omega) (by omega) hn2_2 hs2_2
 replace hag2_2 := Agr.chg hag2_2 (OS.lt how1_5_0) c2_2 (apart_lt hlhow1_5_0 hfho2_0 (by omega))
 replace how1_2_0 := OS.chg how1_2_0 c2_2 (apart_lt hlhow1_2_0 hfho2_0 (by omega))
 replace how1_5_0 := OS.chg how1_5_0 c2_2 (apart_lt hlhow1_5_0 hfho2_0 (by omega))
 replace hb0_0 := BoxAt.chgA hb0_0 c2_2 (apart_lt hlhb0_0 hfho2_0 (by omega))
 replace hb0_1 := BoxAt.chgA hb0_1 c2_2 (apart_lt hlhb0_1 hfho2_0 (by omega))
 have := c2_2.size
 replace eB := Ext.then eB c2_2 (ge_of hfho2_0 (by omega))
 have hlho2_2 := OS.lt ho2_2
 rw [List.nil_append] at ho2_2
 try simp -implicitDefEqProofs (disch := first | decide | assumption | omega) only [go_sem, RdS.len hdX sl22, RdS.idx hdX sl22, R1.intB hdX (Ext.pres eB), RdS.cells hdX, RdS.len hmX sl23, RdS.idx hmX sl23, RdS.cellB hmX (Ext.pres eB), RdS.cells hmX, RdS.len hdY sl22, RdS.idx hdY sl22, R1.intB hdY (Ext.pres eB), RdS.cells hdY, RdS.len hmY sl23, RdS.idx hmY sl23, RdS.cellB hmY (Ext.pres eB), RdS.cells hmY, RdS.len rf sl23, RdS.idx rf sl23, RdS.cellB rf (Ext.pres eB), RdS.cells rf, RdS.len (OS.rd how1_2_0) sl36, RdS.idx (OS.rd how1_2_0) sl36, RdS.cellN (OS.rd how1_2_0), RdS.cells (OS.rd how1_2_0), RdS.len (OS.rd how1_5_0) sl36, RdS.idx (OS.rd how1_5_0) sl36, RdS.cellN (OS.rd how1_5_0), RdS.cells (OS.rd how1_5_0), BoxAt.cell hb0_0, BoxAt.cell hb0_1, wrap_id]
 refine hK _ _ ?_
 clear hK K
 refine den_seq ?_
 refine den_seq ?_
 refine den_region TTok ?_
 intro K hK
 simp -implicitDefEqProofs (disch := first | decide | assumption | omega) only [go_sem, RdS.len hdX sl22, RdS.idx hdX sl22, R1.intB hdX (Ext.pres eB), RdS.cells hdX, RdS.len hmX sl23, RdS.idx hmX sl23, RdS.cellB hmX (Ext.pres eB), RdS.cells hmX, RdS.len hdY sl22, RdS.idx hdY sl22, R1.intB hdY (Ext.pres eB), RdS.cells hdY, RdS.len hmY sl23, RdS.idx hmY sl23, RdS.cellB hmY (Ext.pres eB), RdS.cells hmY, RdS.len rf sl23, RdS.idx rf sl23, RdS.cellB rf (Ext.pres eB), RdS.cells rf, RdS.len (OS.rd how1_2_0) sl36, RdS.idx (OS.rd how1_2_0) sl36, RdS.cellN (OS.rd how1_2_0), RdS.cells (OS.rd how1_2_0), RdS.len (OS.rd how1_5_0) sl36, RdS.idx (OS.rd how1_5_0) sl36, RdS.cellN (OS.rd how1_5_0), RdS.cells (OS.rd how1_5_0), BoxAt.cell hb0_0, BoxAt.cell hb0_1, wrap_id]
 refine hK _ _ ?_
 clear hK K
 refine den_block ?_
 refine den_sel [11, 12, 2, 3, 4, 5, 9, 10] ?_
 intro env_1
 simp only [go_sem]
 refine den_loopS (σ := Nat × Value × List Nat) (fun st_ => [(11, st_.2.1), (12, .int .i64 (st_.1 : Int))]) (fun st_ H => (st_.1 ≤ (cycP X n).length) ∧ (O2M h2_0 fw1_5_0 H st_.2.1 (bndP Y n ++ imgs X Y f n ((cycP X n).take st_.1)) st_.2.2) ∧ (Fresh (h1_5.size) st_.2.2) ∧ (Sub fp2_2 h2_2.size st_.2.2) ∧ (Chg fp2_2 h2_2 H)) (fun st_ => (cycP X n).length - st_.1) (0, v2_2, fp2_2) ?_ ?_
 ·exact ⟨by first | (simp; done) | (dsimp only; omega) | (simp; omega), by simpa [imgs] using ho2_2, hfho2_2, Sub.refl, Chg.refl _ _⟩
 ·rintro ⟨k, vhO, fphO⟩ h4 ee3 ⟨hi0, hO, hfhO, sbhO, cL2⟩
  dsimp only at hi0 hO hfhO sbhO cL2
  replace hag2_2 := Agr.chg hag2_2 (OS.lt how1_5_0) cL2 (apart_lt hlhow1_5_0 hfho2_2 (by omega))
  replace how1_2_0 := OS.chg how1_2_0 cL2 (apart_lt hlhow1_2_0 hfho2_2 (by omega))
  replace how1_5_0 := OS.chg how1_5_0 cL2 (apart_lt hlhow1_5_0 hfho2_2 (by omega))
  replace hb0_0 := BoxAt.chgA hb0_0 cL2 (apart_lt hlhb0_0 hfho2_2 (by omega))
  replace hb0_1 := BoxAt.chgA hb0_1 cL2 (apart_lt hlhb0_1 hfho2_2 (by omega))
  have := cL2.size
  replace eB := Ext.then eB cL2 (ge_of hfho2_2 (by omega))
  have hlhO := OS.lt hO
  simp only [List.cons_append, List.nil_append]
  have hll_ : (bndP Y n ++ imgs X Y f n ((cycP X n).take k)).length = (bndP Y n).length + k := by simp only [List.length_append, imgs, List.length_map, List.length_take]; omega
  refine den_seq ?_
  refine den_seq ?_
  refine den_region TTok ?_
  intro K hK
  simp -implicitDefEqProofs (disch := first | decide | assumption | omega) only [go_sem, RdS.len hdX sl22, RdS.idx hdX sl22, R1.intB hdX (Ext.pres eB), RdS.cells hdX, RdS.len hmX sl23, RdS.idx hmX sl23, RdS.cellB hmX (Ext.pres eB), RdS.cells hmX, RdS.len hdY sl22, RdS.idx hdY sl22, R1.intB hdY (Ext.pres eB), RdS.cells hdY, RdS.len hmY sl23, RdS.idx hmY sl23, RdS.cellB hmY (Ext.pres eB), RdS.cells hmY, RdS.len rf sl23, RdS.idx rf sl23, RdS.cellB rf (Ext.pres eB), RdS.cells rf, RdS.len (OS.rd how1_2_0) sl36, RdS.idx (OS.rd how1_2_0) sl36, RdS.cellN (OS.rd how1_2_0), RdS.cells (OS.rd how1_2_0), RdS.len (OS.rd how1_5_0) sl36, RdS.idx (OS.rd how1_5_0) sl36, RdS.cellN (OS.rd how1_5_0), RdS.cells (OS.rd how1_5_0), BoxAt.cell hb0_0, BoxAt.cell hb0_1, wrap_id]
  refine hK _ _ ?_
  clear hK K
  refine den_cond rfl (fun c0 => ?_) (fun c0 => ?_)
  ·try simp only [decide_eq_true_eq, decide_eq_false_iff_not, beq_iff_eq, beq_eq_false_iff_ne, bne_iff_ne, ne_eq, Bool.not_eq_true', Bool.not_eq_false', Bool.and_eq_true, Bool.or_eq_true, bne_eq_false_iff_eq] at c0
   refine den_skip ?_
   refine den_seq ?_
   refine den_block ?_
   have hvv : 0 ≤ n ∧ n ≤ (X.dims.length : Int) - 1 → (((cycP X n).getD k default).length : Int) = X.dims.getD n.toNat 0 ∧ Bnd X.p ((cycP X n).getD k default) := fun _ => cyc_vec hX hn0 hn1 _ (getD_mem (by omega))
   refine den_draw TTok mixed [11] [(0, true), (1, true), (2, true), (3, true), (4, true), (5, true), (6, true), (7, true), (8, true), (9, false), (10, false), (11, false), (12, true)] (by kernel_rfl) ?_
   intro K hK
   have hr5 := RdS.rowN (OS.rd how1_2_0) k (by omega)
   have hlhr5 := RdS.le hr5
   have xr6 := Ext.refl h4
   simp -implicitDefEqProofs (disch := first | decide | assumption | omega) only [go_sem, ld22, ld30, RdS.len hdX sl22, RdS.idx hdX sl22, R1.intB hdX (Ext.pres eB), RdS.cells hdX, RdS.len hmX sl23, RdS.idx hmX sl23, RdS.cellB hmX (Ext.pres eB), RdS.cells hmX, RdS.len hdY sl22, RdS.idx hdY sl22, R1.intB hdY (Ext.pres eB), RdS.cells hdY, RdS.len hmY sl23, RdS.idx hmY sl23, RdS.cellB hmY (Ext.pres eB), RdS.cells hmY, RdS.len rf sl23, RdS.idx rf sl23, RdS.cellB rf (Ext.pres eB), RdS.cells rf, RdS.len (OS.rd how1_2_0) sl36, RdS.idx (OS.rd how1_2_0) sl36, RdS.cellN (OS.rd how1_2_0), RdS.cells (OS.rd how1_2_0), RdS.len (OS.rd how1_5_0) sl36, RdS.idx (OS.rd how1_5_0) sl36, RdS.cellN (OS.rd how1_5_0), RdS.cells (OS.rd how1_5_0), BoxAt.cell hb0_0, BoxAt.cell hb0_1, RdS.len hr5 sl22, RdS.idx hr5 sl22, R1.intB hr5 (Ext.pres xr6), RdS.cells hr5, wrap_id]
   try simp -implicitDefEqProofs (disch := first | decide | assumption | omega) only [go_sem, RdS.len hdX sl22, RdS.idx hdX sl22, R1.intB hdX (Ext.pres eB), RdS.cells hdX, RdS.len hmX sl23, RdS.idx hmX sl23, RdS.cellB hmX (Ext.pres eB), RdS.cells hmX, RdS.len hdY sl22, RdS.idx hdY sl22, R1.intB hdY (Ext.pres eB), RdS.cells hdY, RdS.len hmY sl23, RdS.idx hmY sl23, RdS.cellB hmY (Ext.pres eB), RdS.cells hmY, RdS.len rf sl23, RdS.idx rf sl23, RdS.cellB rf (Ext.pres eB), RdS.cells rf, RdS.len (OS.rd how1_2_0) sl36, RdS.idx (OS.rd how1_2_0) sl36, RdS.cellN (OS.rd how1_2_0), RdS.cells (OS.rd how1_2_0), RdS.len (OS.rd how1_5_0) sl36, RdS.idx (OS.rd how1_5_0) sl36, RdS.cellN (OS.rd how1_5_0), RdS.cells (OS.rd how1_5_0), BoxAt.cell hb0_0, BoxAt.cell hb0_1, RdS.len hr5 sl22, RdS.idx hr5 sl22, R1.intB hr5 (Ext.pres xr6), RdS.cells hr5, wrap_id]
   refine CallA.mono (sImg_ok _ _ _ _ X Y f n (0 : Int) ((cycP X n).getD k default) _ ⟨_, _, rfl, (RdS.pres hdX (Ext.pres eB)), (RdS.pres hmX (Ext.pres eB))⟩ ⟨_, _, rfl, (RdS.pres hdY (Ext.pres eB)), (RdS.pres hmY (Ext.pres eB))⟩ (RdS.pres rf (Ext.pres eB)) (RdS.pres hr5 (Ext.pres xr6)) hX hY hF (by omega) (by omega) hvv) ?_
   intro vw6_9_0 h6_9
   rintro ⟨zvw6_9_0, fw6_9_0, rfl, how6_9_0, hfw6_9_0, e6_9⟩
   replace hag2_2 := Agr.ext hag2_2 (OS.lt how1_5_0) e6_9
   replace how1_2_0 := OS.ext how1_2_0 e6_9
   replace how1_5_0 := OS.ext how1_5_0 e6_9
   replace hO := OS.ext hO e6_9
   replace hb0_0 := BoxAt.ext hb0_0 e6_9
   replace hb0_1 := BoxAt.ext hb0_1 e6_9
   have := Ext.size e6_9
   replace eB := Ext.trans eB e6_9
   replace xr6 := Ext.trans xr6 e6_9
   replace cL2 := Chg.stepE cL2 e6_9
   have hlhow6_9_0 := OS.lt how6_9_0
   try simp (disch := decide) only [outv_some, outv_none, put_puts]
   refine plK_pres (Ext.pres e6_9) ?_
   try simp -implicitDefEqProofs (disch := first | decide | assumption | omega) only [go_sem, RdS.len hdX sl22, RdS.idx hdX sl22, R1.intB hdX (Ext.pres eB), RdS.cells hdX, RdS.len hmX sl23, RdS.idx hmX sl23, RdS.cellB hmX (Ext.pres eB), RdS.cells hmX, RdS.len hdY sl22, RdS.idx hdY sl22, R1.intB hdY (Ext.pres eB), RdS.cells hdY, RdS.len hmY sl23, RdS.idx hmY sl23, RdS.cellB hmY (Ext.pres eB), RdS.cells hmY, RdS.len rf sl23, RdS.idx rf sl23, RdS.cellB rf (Ext.pres eB), RdS.cells rf, RdS.len (OS.rd how1_2_0) sl36, RdS.idx (OS.rd how1_2_0) sl36, RdS.cellN (OS.rd how1_2_0), RdS.cells (OS.rd how1_2_0), RdS.len (OS.rd how1_5_0) sl36, RdS.idx (OS.rd how1_5_0) sl36, RdS.cellN (OS.rd how1_5_0), RdS.cells (OS.rd how1_5_0), RdS.len (OS.rd how6_9_0) sl22, RdS.idx (OS.rd how6_9_0) sl22, R1.intN (OS.rd how6_9_0), RdS.cells (OS.rd how6_9_0), BoxAt.cell hb0_0, BoxAt.cell hb0_1, RdS.len hr5 sl22, RdS.idx hr5 sl22, R1.intB hr5 (Ext.pres xr6), RdS.cells hr5, wrap_id]
   refine op_bs1 sz36 rfl (OS.one how6_9_0).2 ?_
   try simp (disch := decide) only [outv_some, outv_none, put_puts]
   refine plK_pres (Ext.pres (Ext.push _ _)) ?_
   try simp -implicitDefEqProofs (disch := first | decide | assumption | omega) only [go_sem, RdS.len hdX sl22, RdS.idx hdX sl22, R1.intB hdX (Ext.pres eB), RdS.cells hdX, RdS.len hmX sl23, RdS.idx hmX sl23, RdS.cellB hmX (Ext.pres eB), RdS.cells hmX, RdS.len hdY sl22, RdS.idx hdY sl22, R1.intB hdY (Ext.pres eB), RdS.cells hdY, RdS.len hmY sl23, RdS.idx hmY sl23, RdS.cellB hmY (Ext.pres eB), RdS.cells hmY, RdS.len rf sl23, RdS.idx rf sl23, RdS.cellB rf (Ext.pres eB), RdS.cells rf, RdS.len (OS.rd how1_2_0) sl36, RdS.idx (OS.rd how1_2_0) sl36, RdS.cellN (OS.rd how1_2_0), RdS.cells (OS.rd how1_2_0), RdS.len (OS.rd how1_5_0) sl36, RdS.idx (OS.rd how1_5_0) sl36, RdS.cellN (OS.rd how1_5_0), RdS.cells (OS.rd how1_5_0), RdS.len (OS.rd how6_9_0) sl22, RdS.idx (OS.rd how6_9_0) sl22, R1.intN (OS.rd how6_9_0), RdS.cells (OS.rd how6_9_0), BoxAt.cell hb0_0, BoxAt.cell hb0_1, RdS.len hr5 sl22, RdS.idx hr5 sl22, R1.intB hr5 (Ext.pres xr6), RdS.cells hr5, wrap_id]
   refine op_append1 sz36 hO hfhO.nodup (Or.inl how6_9_0) hfw6_9_0.nodup (apart_lt hlhO hfw6_9_0 (by omega)) (by first | omega | (simp; omega)) rfl rfl ?_
   intro v6_11 h6_11 fp6_11 ho6_11 hn6_11 hs6_11 c6_11
   have hsz6_11 := c6_11.size
   have hfho6_11 : Fresh h1_5.size fp6_11 := Fresh.appd hfhO hfw6_9_0 (by omega) (by omega) hn6_11 hs6_11
   have sb7 : Sub fp2_2 h2_2.size fp6_11 := Sub.grow sbhO (Sub.fresh hfw6_9_0 (by omega)) (by omega) hs6_11
   replace hag2_2 := Agr.chg hag2_2 (OS.lt how1_5_0) c6_11 (apart_lt hlhow1_5_0 hfhO (by omega))
   replace how1_2_0 := OS.chg how1_2_0 c6_11 (apart_lt hlhow1_2_0 hfhO (by omega))
   replace how1_5_0 := OS.chg how1_5_0 c6_11 (apart_lt hlhow1_5_0 hfhO (by omega))
   replace hb0_0 := BoxAt.chgA hb0_0 c6_11 (apart_lt hlhb0_0 hfhO (by omega))
   replace hb0_1 := BoxAt.chgA hb0_1 c6_11 (apart_lt hlhb0_1 hfhO (by omega))
   have := c6_11.size
   replace eB := Ext.then eB c6_11 (ge_of hfhO (by omega))
   replace cL2 := Chg.step cL2 c6_11 sbhO
   have hlho6_11 := OS.lt ho6_11
   try simp (disch := decide) only [outv_some, outv_none, put_puts]
   refine plK_last (by decide) ?_
   try simp -implicitDefEqProofs (disch := first | decide | assumption | omega) only [go_sem, RdS.len hdX sl22, RdS.idx hdX sl22, R1.intB hdX (Ext.pres eB), RdS.cells hdX, RdS.len hmX sl23, RdS.idx hmX sl23, RdS.cellB hmX (Ext.pres eB), RdS.cells hmX, RdS.len hdY sl22, RdS.idx hdY sl22, R1.intB hdY (Ext.pres eB), RdS.cells hdY, RdS.len hmY sl23, RdS.idx hmY sl23, RdS.cellB hmY (Ext.pres eB), RdS.cells hmY, RdS.len rf sl23, RdS.idx rf sl23, RdS.cellB rf (Ext.pres eB), RdS.cells rf, RdS.len (OS.rd how1_2_0) sl36, RdS.idx (OS.rd how1_2_0) sl36, RdS.cellN (OS.rd how1_2_0), RdS.cells (OS.rd how1_2_0), RdS.len (OS.rd how1_5_0) sl36, RdS.idx (OS.rd how1_5_0) sl36, RdS.cellN (OS.rd how1_5_0), RdS.cells (OS.rd how1_5_0), BoxAt.cell hb0_0, BoxAt.cell hb0_1, wrap_id]
   refine hK _ _ ?_
   clear hK K
   refine den_blk ?_
   refine den_region TTok ?_
   intro K hK
   simp -implicitDefEqProofs (disch := first | decide | assumption | omega) only [go_sem, RdS.len hdX sl22, RdS.idx hdX sl22, R1.intB hdX (Ext.pres eB), RdS.cells hdX, RdS.len hmX sl23, RdS.idx hmX sl23, RdS.cellB hmX (Ext.pres eB), RdS.cells hmX, RdS.len hdY sl22, RdS.idx hdY sl22, R1.intB hdY (Ext.pres eB), RdS.cells hdY, RdS.len hmY sl23, RdS.idx hmY sl23, RdS.cellB hmY (Ext.pres eB), RdS.cells hmY, RdS.len rf sl23, RdS.idx rf sl23, RdS.cellB rf (Ext.pres eB), RdS.cells rf, RdS.len (OS.rd how1_2_0) sl36, RdS.idx (OS.rd how1_2_0) sl36, RdS.cellN (OS.rd how1_2_0), RdS.cells (OS.rd how1_2_0), RdS.len (OS.rd how1_5_0) sl36, RdS.idx (OS.rd how1_5_0) sl36, RdS.cellN (OS.rd how1_5_0), RdS.cells (OS.rd how1_5_0), BoxAt.cell hb0_0, BoxAt.cell hb0_1, wrap_id]
   refine hK _ _ ?_
   clear hK K
   refine den_stop ?_
   rw [List.append_assoc, show imgs X Y f n ((cycP X n).take k) ++ [imgP X Y f 0 n ((cycP X n).getD k default)] = imgs X Y f n ((cycP X n).take (k + 1)) from map_takeA (f := fun z => imgP X Y f 0 n z) (by omega)] at ho6_11
   exact ⟨(k + 1, v6_11, fp6_11), by simp [HasL, puts_at], ⟨by first | omega | (dsimp only; omega), ho6_11, hfho6_11, sb7, cL2⟩, by first | omega | (dsimp only; omega)⟩
  ·try simp only [decide_eq_true_eq, decide_eq_false_iff_not, beq_iff_eq, beq_eq_false_iff_ne, bne_iff_ne, ne_eq, Bool.not_eq_true', Bool.not_eq_false', Bool.and_eq_true, Bool.or_eq_true, bne_eq_false_iff_eq] at c0
   refine den_exit ?_
   refine denX_code ?_
   refine denX_stop ?_
   refine denX_hit ?_
   refine den_seq ?_
   rw [show (bndP Y n ++ imgs X Y f n ((cycP X n).take k)) = rkL X Y f n by rw [rkL, List.take_of_length_le (by omega)]] at hO
   have hredT := hrt
   have hP := hX.p
   refine den_region TTok ?_
   intro K hK
   simp -implicitDefEqProofs (disch := first | decide | assumption | omega) only [go_sem, fa30_0, ld2, RdS.len hdX sl22, RdS.idx hdX sl22, R1.intB hdX (Ext.pres eB), RdS.cells hdX, RdS.len hmX sl23, RdS.idx hmX sl23, RdS.cellB hmX (Ext.pres eB), RdS.cells hmX, RdS.len hdY sl22, RdS.idx hdY sl22, R1.intB hdY (Ext.pres eB), RdS.cells hdY, RdS.len hmY sl23, RdS.idx hmY sl23, RdS.cellB hmY (Ext.pres eB), RdS.cells hmY, RdS.len rf sl23, RdS.idx rf sl23, RdS.cellB rf (Ext.pres eB), RdS.cells rf, RdS.len (OS.rd how1_5_0) sl36, RdS.idx (OS.rd how1_5_0) sl36, RdS.cellN (OS.rd how1_5_0), RdS.cells (OS.rd how1_5_0), BoxAt.cell hb0_0, wrap_id]
   try simp -implicitDefEqProofs (disch := first | decide | assumption | omega) only [go_sem, RdS.len hdX sl22, RdS.idx hdX sl22, R1.intB hdX (Ext.pres eB), RdS.cells hdX, RdS.len hmX sl23, RdS.idx hmX sl23, RdS.cellB hmX (Ext.pres eB), RdS.cells hmX, RdS.len hdY sl22, RdS.idx hdY sl22, R1.intB hdY (Ext.pres eB), RdS.cells hdY, RdS.len hmY sl23, RdS.idx hmY sl23, RdS.cellB hmY (Ext.pres eB), RdS.cells hmY, RdS.len rf sl23, RdS.idx rf sl23, RdS.cellB rf (Ext.pres eB), RdS.cells rf, RdS.len (OS.rd how1_5_0) sl36, RdS.idx (OS.rd how1_5_0) sl36, RdS.cellN (OS.rd how1_5_0), RdS.cells (OS.rd how1_5_0), BoxAt.cell hb0_0, wrap_id]
   refine CallA.mono (sEch_ok _ X.p (rkL X Y f n) _ (O2M.rd hO hag2_2) hP hredT (by omega) (by omega)) ?_
   intro vw7_3_0 h7_3
   rintro ⟨zvw7_3_0, fw7_3_0, rfl, how7_3_0, hfw7_3_0, e7_3⟩
   replace hag2_2 := Agr.ext hag2_2 (OS.lt how1_5_0) e7_3
   replace how1_5_0 := OS.ext how1_5_0 e7_3
   replace hO := OS.ext hO e7_3
   replace hb0_0 := BoxAt.ext hb0_0 e7_3
   have := Ext.size e7_3
   replace eB := Ext.trans eB e7_3
   have hlhow7_3_0 := OS.lt how7_3_0
   try simp -implicitDefEqProofs (disch := first | decide | assumption | omega) only [go_sem, RdS.len hdX sl22, RdS.idx hdX sl22, R1.intB hdX (Ext.pres eB), RdS.cells hdX, RdS.len hmX sl23, RdS.idx hmX sl23, RdS.cellB hmX (Ext.pres eB), RdS.cells hmX, RdS.len hdY sl22, RdS.idx hdY sl22, R1.intB hdY (Ext.pres eB), RdS.cells hdY, RdS.len hmY sl23, RdS.idx hmY sl23, RdS.cellB hmY (Ext.pres eB), RdS.cells hmY, RdS.len rf sl23, RdS.idx rf sl23, RdS.cellB rf (Ext.pres eB), RdS.cells rf, RdS.len (OS.rd how1_5_0) sl36, RdS.idx (OS.rd how1_5_0) sl36, RdS.cellN (OS.rd how1_5_0), RdS.cells (OS.rd how1_5_0), RdS.len (OS.rd how7_3_0) sl36, RdS.idx (OS.rd how7_3_0) sl36, RdS.cellN (OS.rd how7_3_0), RdS.cells (OS.rd how7_3_0), BoxAt.cell hb0_0, wrap_id]
   refine hK _ _ ?_
   clear hK K
   refine den_ret ?_
   simp (disch := decide) only [resP_1, puts_same, puts_ne]
   exact ⟨by first | rfl | trivial, eB⟩
end Go.Proofs.Ytbplnadngahgaaa

namespace Go.Proofs.Ytbplnadngahgaaa
open Go
theorem stepRow_cg {p x : Int} {row acc : List Int} {w : Nat} (hl : row.length = acc.length) (hx : 0 ≤ x) (hr : Bnd p row) (ha : Bnd p acc) (j : Nat) : Cg p ((stepRow p x row acc).getD j 0) (acc.getD j 0 + x * row.getD j 0) := by
 rcases Nat.lt_or_ge j acc.length with h | h
 ·have h1 := ha.at h
  have h2 := hr.at (k := j) (by omega)
  have h3 : 0 ≤ x * row.getD j 0 := Int.mul_nonneg hx h2.1
  rw [stepRow_get hl h, tmod_e (by omega)]; exact Cg.mod _
 ·rw [getD_out (by rw [stepRow_len hl]; exact h), getD_out h, getD_out (by omega), Int.mul_zero]; exact Cg.refl _
theorem sm_head (n : Nat) (f : Nat → Int) : sm (n + 1) f = f 0 + sm n fun i => f (i + 1) := by
 induction n with
 | zero => simp [sm]
 | succ n ih => rw [sm, ih, sm]; omega
/-- What a vector makes of rows, as a sum. -/
theorem accP_cg {p : Int} (hp : 0 < p) : ∀ {v : List Int} {rows : List (List Int)} {acc : List Int}, v.length ≤ rows.length → Bnd p v → Tbl p acc.length rows → Bnd p acc → ∀ j, Cg p ((accP p v rows acc).getD j 0) (acc.getD j 0 + sm v.length fun i => v.getD i 0 * g2 rows i j)
 | [], rows, acc, _, _, _, _, j => by cases rows <;> (simp only [accP, List.length_nil, sm]; exact Cg.of_eq (by omega))
 | x :: v, [], acc, h, _, _, _, j => by simp at h
 | x :: v, r :: rows, acc, h, hv, ht, ha, j => by
  have hr := ht r (by simp)
  have hx := hv x (by simp)
  have hsl : (stepRow p x r acc).length = acc.length := stepRow_len (by omega)
  have hsb := stepRow_bnd hp hx.1 hr.2 ha
  rw [accP]
  refine (accP_cg hp (v := v) (rows := rows) (by simpa using h) (fun y hy => hv y (List.mem_cons_of_mem _ hy)) (fun y hy => by rw [hsl]; exact ht y (List.mem_cons_of_mem _ hy)) hsb j).trans ?_
  refine (Cg.add (stepRow_cg (w := acc.length) (by omega) hx.1 hr.2 ha j) (Cg.refl _)).trans (Cg.of_eq ?_)
  rw [List.length_cons, sm_head]
  have e1 : (x :: v).getD 0 0 * g2 (r :: rows) 0 j = x * r.getD j 0 := rfl
  have e2 : (sm v.length fun i => (x :: v).getD (i + 1) 0 * g2 (r :: rows) (i + 1) j) = sm v.length fun i => v.getD i 0 * g2 rows i j := sm_eq fun i _ => rfl
  rw [e1, e2]; omega
theorem zeros_get (n j : Nat) : (List.replicate n (0 : Int)).getD j 0 = 0 := by
 rcases Nat.lt_or_ge j n with h | h
 ·exact getD_repl h
 ·exact getD_out (by simpa using h)
theorem addRow_cg {p k : Int} {a b : List Int} (hl : b.length ≤ a.length) (j : Nat) : Cg p ((addRow p k a b).getD j 0) (a.getD j 0 + k * b.getD j 0) := by
 rcases Nat.lt_or_ge j a.length with h | h
 ·rw [addRow_get p k a b h]; exact Cg.mod _
 ·rw [getD_out (by rw [addRow_len]; exact h), getD_out h, getD_out (by omega), Int.mul_zero]; exact Cg.refl _
theorem img_cg {X Y : Cx} {f : List (List (List Int))} {n : Int} {v : List Int} (hX : IsC X) (hY : IsC Y) (hF : IsFam X Y f 0) (h0 : 0 ≤ n) (h1 : n ≤ (X.dims.length : Int) - 1) (hv : (v.length : Int) = X.dims.getD n.toNat 0) (hb : Bnd X.p v) (j : Nat) : Cg X.p ((imgP X Y f 0 n v).getD j 0) (sm v.length fun i => v.getD i 0 * g2 (f.getD n.toNat default) i j) := by
 obtain ⟨d, l, k, t⟩ := img_pre (s := 0) hY hF h0 h1 hv
 have hp := isP_bnd hX.p
 have hl : (((List.replicate (dimP Y (n + 0)).toNat (0 : Int)).length : Nat) : Int) = dimP Y (n + 0) := by rw [List.length_replicate]; omega
 have := accP_cg hp.1 (v := v) (rows := f.getD n.toNat default) (acc := List.replicate (dimP Y (n + 0)).toNat 0) k hb (by rw [hl]; exact t) (Bnd.zeros hp.1 _) j
 rwa [zeros_get, Int.zero_add] at this
/-- The difference of two images is the image under the difference. -/
theorem img_diff {X Y : Cx} {f g : List (List (List Int))} {n : Int} {v : List Int} (hX : IsC X) (hY : IsC Y) (hF : IsFam X Y f 0) (hG : IsFam X Y g 0) (hD : IsFam X Y (addFam X.p (-1) f g) 0) (h0 : 0 ≤ n) (h1 : n ≤ (X.dims.length : Int) - 1) (hv : (v.length : Int) = X.dims.getD n.toNat 0) (hb : Bnd X.p v) (j : Nat) : Cg X.p ((imgP X Y (addFam X.p (-1) f g) 0 n v).getD j 0) ((imgP X Y f 0 n v).getD j 0 - (imgP X Y g 0 n v).getD j 0) := by
 have lf := hF.len; have lg := hG.len
 have hnf : n.toNat < f.length := by omega
 have rf := hF.at hnf
 have rg := hG.at (n := n.toNat) (by omega)
 refine (img_cg hX hY hD h0 h1 hv hb j).trans ((sm_cg (g := fun i => v.getD i 0 * g2 (f.getD n.toNat default) i j + (-1) * (v.getD i 0 * g2 (g.getD n.toNat default) i j)) fun i hi => ?_).trans ?_)
 ·have e1 : (addFam X.p (-1) f g).getD n.toNat default = addRows X.p (-1) (f.getD n.toNat default) (g.getD n.toNat default) := getD_map_range _ hnf
  have hi' : i < (f.getD n.toNat default).length := by omega
  have e2 : g2 ((addFam X.p (-1) f g).getD n.toNat default) i j = (addRow X.p (-1) ((f.getD n.toNat default).getD i default) ((g.getD n.toNat default).getD i default)).getD j 0 := by
   rw [e1, g2, addRows, getD_map_range (fun i : Nat => addRow X.p (-1) ((f.getD n.toNat default).getD i default) ((g.getD n.toNat default).getD i default)) hi']
  rw [e2]
  have ll := rf.2.at hi'
  have lg' := rg.2.at (k := i) (by omega)
  refine ((Cg.refl (v.getD i 0)).mul (addRow_cg (by omega) j)).trans (Cg.of_eq ?_)
  rw [Int.mul_add, Int.mul_left_comm]
 ·refine (Cg.of_eq (sm_add _ _ _)).trans ?_
  rw [sm_mul]
  have a := img_cg hX hY hF h0 h1 hv hb j
  have b := img_cg hX hY hG h0 h1 hv hb j
  exact (a.sub b).symm.trans (Cg.refl _) |>.symm.symm |> fun c => (Cg.of_eq (by omega)).trans c
theorem famDiff {X Y : Cx} {f g : List (List (List Int))} (hX : IsC X) (hY : IsC Y) (hF : IsFam X Y f 0) (hG : IsFam X Y g 0) : IsFam X Y (addFam X.p (-1) f g) 0 := by
 have lf := hF.len; have lg := hG.len
 have hp := isP_bnd hX.p
 refine ⟨by rw [addFam, List.length_map, List.length_range]; exact lf, fun n hn => ?_⟩
 have hn' : n < f.length := by simpa [addFam] using hn
 have rf := hF.at hn'
 have e1 : (addFam X.p (-1) f g).getD n default = addRows X.p (-1) (f.getD n default) (g.getD n default) := getD_map_range _ hn'
 refine famAt_iff.2 ⟨by rw [e1, addRows, List.length_map, List.length_range]; exact rf.1, ?_⟩
 rw [e1, List.all_eq_true]
 intro r hr
 obtain ⟨i, hi, rfl⟩ := List.mem_map.1 hr
 rw [List.mem_range] at hi
 exact isRow_iff.2 ⟨by rw [addRow_len]; exact (rf.2.at hi).1, addRow_bnd hp.1 _ _⟩
theorem Sp.mem {p : Int} {L : List (List Int)} {x : List Int} (hx : x ∈ L) : Sp p L fun j => x.getD j 0 := by
 obtain ⟨i, hi, rfl⟩ := List.getElem_of_mem hx
 exact Sp.at hi (getD_elem hi).symm
theorem Le.of_mem {p : Int} {A B : List (List Int)} (h : ∀ x ∈ A, Sp p B fun j => x.getD j 0) : Le p A B := fun i hi => h _ (getD_mem hi)
/-- The rank is 0 just if all images are boundaries. -/
theorem rk_zero {X Y : Cx} {f : List (List (List Int))} {n : Int} (h : RkOk X Y f n) : rkP X Y f n ≤ 0 ↔ ∀ z ∈ cycP X n, Sp X.p (bndP Y n) fun j => (imgP X Y f 0 n z).getD j 0 := by
 have hP := h.cX.p
 have hp := (isP_two hP).1
 obtain ⟨lb, rb⟩ := bnd_rr h.cY h.n0
 rw [← h.p] at rb
 obtain ⟨⟨le_, re⟩, ee⟩ := ech_red hP (rk_tbl h)
 have hb : Le X.p (bndP Y n) (rkL X Y f n) := Le.of_mem fun x hx => Sp.mem (List.mem_append_left _ hx)
 have hle := hb.trans ee.2
 have hlen := rb.le_len hp re hle
 constructor
 ·intro hr z hz
  have hl : (bndP Y n).length = (ech X.p (rkL X Y f n)).length := by unfold rkP at hr; omega
  have heq := rb.eq_of_len hp re hle hl
  rw [heq]
  exact Sp.le ee.2 (Sp.mem (List.mem_append_right _ (List.mem_map.2 ⟨z, hz, rfl⟩)))
 ·intro hall
  have heq : ech X.p (rkL X Y f n) = bndP Y n := Red.ech hP (rk_tbl h) ⟨⟨lb, rb⟩, hb, Le.of_mem fun x hx => by
   rcases List.mem_append.1 hx with h1 | h1
   ·exact Sp.mem h1
   ·obtain ⟨z, hz, rfl⟩ := List.mem_map.1 h1
    exact hall z hz⟩
  rw [rkP, heq]; omega
theorem zero_any {xs : List Int} : (!(xs.any fun x => x != 0)) = true ↔ ∀ j, xs.getD j 0 = 0 := by
 rw [zero_lead]
 rcases lead_cases xs with ⟨h1, h2⟩ | ⟨k, hk, h1, h2, h3⟩
 ·exact ⟨fun _ => h2, fun _ => by omega⟩
 ·exact ⟨fun h => by omega, fun h => absurd (h k) h3⟩

def arAt (X Y : Cx) (f g : List (List (List Int))) (n : Nat) (z : List Int) : Prop := ∀ j, (restP X.p (bndP Y (n : Int)) (addRow X.p (X.p - 1) (imgP X Y f 0 (n : Int) z) (imgP X Y g 0 (n : Int) z))).getD j 0 = 0
noncomputable def arR (X Y : Cx) (f g : List (List (List Int))) : Bool × Int := if chnC X Y [f, g] = 0 then (pdec (∀ n : Nat, n < X.dims.length → ∀ z ∈ cycP X (n : Int), arAt X Y f g n z), 0) else (false, chnC X Y [f, g])
structure ArOk (X Y : Cx) (f g : List (List (List Int))) : Prop where
 cX : IsC X
 cY : IsC Y
 cf : IsFam X Y f 0
 cg : IsFam X Y g 0
 p : X.p = Y.p
 l : X.dims.length = Y.dims.length
theorem arC_0 {X Y : Cx} {f g : List (List (List Int))} (h : chnC X Y [f, g] = 0) : ArOk X Y f g := by
 obtain ⟨h1, _⟩ := chnC_0 h
 obtain ⟨h2, h3⟩ := famC_0 h1
 obtain ⟨hX, hY, hp, hl⟩ := pairC_0 h2
 exact ⟨hX, hY, h3 f (by simp), h3 g (by simp), hp, hl⟩
theorem ArOk.rk {X Y : Cx} {f g : List (List (List Int))} (h : ArOk X Y f g) {n : Nat} (hn : n < X.dims.length) : RkOk X Y (addFam X.p (-1) f g) (n : Int) := ⟨h.cX, h.cY, famDiff h.cX h.cY h.cf h.cg, h.p, by omega, by omega⟩
theorem ArOk.by_len {X Y : Cx} {f g : List (List (List Int))} (h : ArOk X Y f g) {n : Nat} (hn : n < X.dims.length) {z : List Int} (hz : (z.length : Int) = X.dims.getD (n : Int).toNat 0 ∧ Bnd X.p z) : ((imgP X Y f 0 (n : Int) z).length : Int) = dimP Y (n : Int) ∧ ((imgP X Y g 0 (n : Int) z).length : Int) = dimP Y (n : Int) ∧ Bnd X.p (imgP X Y f 0 (n : Int) z) ∧ Bnd X.p (imgP X Y g 0 (n : Int) z) := by
 have a := img_len (s := 0) h.cY h.cf (show 0 ≤ (n : Int) by omega) (by omega) hz.1
 have b := img_len (s := 0) h.cY h.cg (show 0 ≤ (n : Int) by omega) (by omega) hz.1
 rw [Int.add_zero] at a b
 exact ⟨a, b, img_bnd (s := 0) h.cX h.cY h.cf (by omega) (by omega) hz.1 hz.2, img_bnd (s := 0) h.cX h.cY h.cg (by omega) (by omega) hz.1 hz.2⟩
theorem ar_iff {X Y : Cx} {f g : List (List (List Int))} (h : ArOk X Y f g) {n : Nat} (hn : n < X.dims.length) : rkP X Y (addFam X.p (-1) f g) (n : Int) ≤ 0 ↔ ∀ z ∈ cycP X (n : Int), arAt X Y f g n z := by
 rw [rk_zero (h.rk hn)]
 have hp := isP_two h.cX.p
 obtain ⟨lb, rb⟩ := bnd_rr h.cY (n := (n : Int)) (by omega)
 rw [← h.p] at rb
 have key : ∀ z ∈ cycP X (n : Int), (Sp X.p (bndP Y (n : Int)) fun j => (imgP X Y (addFam X.p (-1) f g) 0 (n : Int) z).getD j 0) ↔ arAt X Y f g n z := fun z hz => by
  have hv := cyc_vec h.cX (n := (n : Int)) (by omega) (by omega) z hz
  obtain ⟨l1, l2, b1, b2⟩ := h.by_len hn hv
  have hd := dimP_bnd h.cY (n : Int)
  have hlen : (addRow X.p (X.p - 1) (imgP X Y f 0 (n : Int) z) (imgP X Y g 0 (n : Int) z)).length = (dimP Y (n : Int)).toNat := by rw [addRow_len]; omega
  have hbn : Bnd X.p (addRow X.p (X.p - 1) (imgP X Y f 0 (n : Int) z) (imgP X Y g 0 (n : Int) z)) := addRow_bnd (by omega) _ _
  rw [arAt, restP_iff rb (by omega) hlen hbn]
  have hc : ∀ j, Cg X.p ((imgP X Y (addFam X.p (-1) f g) 0 (n : Int) z).getD j 0) ((addRow X.p (X.p - 1) (imgP X Y f 0 (n : Int) z) (imgP X Y g 0 (n : Int) z)).getD j 0) := fun j => by
   have a1 := img_diff h.cX h.cY h.cf h.cg (famDiff h.cX h.cY h.cf h.cg) (show 0 ≤ (n : Int) by omega) (by omega) hv.1 hv.2 j
   have a2 := addRow_cg (p := X.p) (k := X.p - 1) (a := imgP X Y f 0 (n : Int) z) (b := imgP X Y g 0 (n : Int) z) (by omega) j
   have a3 : Cg X.p ((imgP X Y f 0 (n : Int) z).getD j 0 + (X.p - 1) * (imgP X Y g 0 (n : Int) z).getD j 0) ((imgP X Y f 0 (n : Int) z).getD j 0 - (imgP X Y g 0 (n : Int) z).getD j 0) := by
    show _ % X.p = _ % X.p
    rw [Int.sub_mul, Int.one_mul, show (imgP X Y f 0 (n : Int) z).getD j 0 + (X.p * (imgP X Y g 0 (n : Int) z).getD j 0 - (imgP X Y g 0 (n : Int) z).getD j 0) = (imgP X Y f 0 (n : Int) z).getD j 0 - (imgP X Y g 0 (n : Int) z).getD j 0 + X.p * (imgP X Y g 0 (n : Int) z).getD j 0 by omega, Int.add_mul_emod_self_left]
   exact a1.trans (a2.trans a3).symm
  exact ⟨fun s => s.cg fun j => (hc j).symm, fun s => s.cg hc⟩
 exact ⟨fun a z hz => (key z hz).1 (a z hz), fun a z hz => (key z hz).2 (a z hz)⟩
end Go.Proofs.Ytbplnadngahgaaa

namespace Go.Proofs.Ytbplnadngahgaaa
open Go
theorem addFam_lenA (p k : Int) (f g : List (List (List Int))) : (addFam p k f g).length = f.length := by simp [addFam]

set_option maxRecDepth 100000 in
theorem sAH_ok (vX vY vf vg : Value) (X : Cx) (Y : Cx) (f : List (List (List Int))) (g : List (List (List Int))) (h : Heap) (rX : RC h vX X) (rY : RC h vY Y) (rf : R3 h vf f) (rg : R3 h vg g)  : CallA Try.prog 17 #[vX, vY, vf, vg] h fun v' h' => v' = .tuple #[.bool ((arR X Y f g).1), .int .i64 ((arR X Y f g).2)] ∧ Ext h h' := by
 obtain ⟨vdX, vmX, rfl, hdX, hmX⟩ := rX
 have hledX := RdS.le hdX
 have hlemX := RdS.le hmX
 obtain ⟨vdY, vmY, rfl, hdY, hmY⟩ := rY
 have hledY := RdS.le hdY
 have hlemY := RdS.le hmY
 have hlef := RdS.le rf
 have hleg := RdS.le rg
 refine callA_intro TTok (args := [_, _, _, _]) Try.func17 (by kernel_rfl) rfl 39 rfl (by simp) [.tmp 8, .tmp 9] rfl ?_
 simp only [idxs, Nat.reduceAdd]
 refine den_seq ?_
 refine den_region TTok ?_
 intro K hK
 simp -implicitDefEqProofs (disch := first | decide | assumption | omega) only [go_sem, RdS.len hdX sl22, RdS.idx hdX sl22, R1.intB hdX (HPres.refl _), RdS.cells hdX, RdS.len hmX sl23, RdS.idx hmX sl23, RdS.cellB hmX (HPres.refl _), RdS.cells hmX, RdS.len hdY sl22, RdS.idx hdY sl22, R1.intB hdY (HPres.refl _), RdS.cells hdY, RdS.len hmY sl23, RdS.idx hmY sl23, RdS.cellB hmY (HPres.refl _), RdS.cells hmY, RdS.len rf sl23, RdS.idx rf sl23, RdS.cellB rf (HPres.refl _), RdS.cells rf, RdS.len rg sl23, RdS.idx rg sl23, RdS.cellB rg (HPres.refl _), RdS.cells rg, wrap_id]
 refine op_box (cs := #[.int .i64 (X.p), vdX, vmX]) rfl ?_
 intro h0_0 e0_0 hb0_0 z0_0
 have := Ext.size e0_0
 have eB := e0_0
 have hfhb0_0 : Fresh h.size [h.size] := Fresh.one _
 have hlhb0_0 := one_lt (show h.size < h0_0.size by omega)
 try simp -implicitDefEqProofs (disch := first | decide | assumption | omega) only [go_sem, RdS.len hdX sl22, RdS.idx hdX sl22, R1.intB hdX (Ext.pres eB), RdS.cells hdX, RdS.len hmX sl23, RdS.idx hmX sl23, RdS.cellB hmX (Ext.pres eB), RdS.cells hmX, RdS.len hdY sl22, RdS.idx hdY sl22, R1.intB hdY (Ext.pres eB), RdS.cells hdY, RdS.len hmY sl23, RdS.idx hmY sl23, RdS.cellB hmY (Ext.pres eB), RdS.cells hmY, RdS.len rf sl23, RdS.idx rf sl23, RdS.cellB rf (Ext.pres eB), RdS.cells rf, RdS.len rg sl23, RdS.idx rg sl23, RdS.cellB rg (Ext.pres eB), RdS.cells rg, BoxAt.cell hb0_0, wrap_id]
 refine op_box (cs := #[.int .i64 (Y.p), vdY, vmY]) rfl ?_
 intro h0_1 e0_1 hb0_1 z0_1
 replace hb0_0 := BoxAt.ext hb0_0 e0_1
 have := Ext.size e0_1
 replace eB := Ext.trans eB e0_1
 have hfhb0_1 : Fresh h0_0.size [h0_0.size] := Fresh.one _
 have hlhb0_1 := one_lt (show h0_0.size < h0_1.size by omega)
 try simp -implicitDefEqProofs (disch := first | decide | assumption | omega) only [go_sem, RdS.len hdX sl22, RdS.idx hdX sl22, R1.intB hdX (Ext.pres eB), RdS.cells hdX, RdS.len hmX sl23, RdS.idx hmX sl23, RdS.cellB hmX (Ext.pres eB), RdS.cells hmX, RdS.len hdY sl22, RdS.idx hdY sl22, R1.intB hdY (Ext.pres eB), RdS.cells hdY, RdS.len hmY sl23, RdS.idx hmY sl23, RdS.cellB hmY (Ext.pres eB), RdS.cells hmY, RdS.len rf sl23, RdS.idx rf sl23, RdS.cellB rf (Ext.pres eB), RdS.cells rf, RdS.len rg sl23, RdS.idx rg sl23, RdS.cellB rg (Ext.pres eB), RdS.cells rg, BoxAt.cell hb0_0, BoxAt.cell hb0_1, wrap_id]
 refine hK _ _ ?_
 clear hK K
 refine den_seq ?_
 refine den_seq ?_
 refine den_region TTok ?_
 intro K hK
 simp -implicitDefEqProofs (disch := first | decide | assumption | omega) only [go_sem, ld30, RdS.len hdX sl22, RdS.idx hdX sl22, R1.intB hdX (Ext.pres eB), RdS.cells hdX, RdS.len hmX sl23, RdS.idx hmX sl23, RdS.cellB hmX (Ext.pres eB), RdS.cells hmX, RdS.len hdY sl22, RdS.idx hdY sl22, R1.intB hdY (Ext.pres eB), RdS.cells hdY, RdS.len hmY sl23, RdS.idx hmY sl23, RdS.cellB hmY (Ext.pres eB), RdS.cells hmY, RdS.len rf sl23, RdS.idx rf sl23, RdS.cellB rf (Ext.pres eB), RdS.cells rf, RdS.len rg sl23, RdS.idx rg sl23, RdS.cellB rg (Ext.pres eB), RdS.cells rg, BoxAt.cell hb0_0, BoxAt.cell hb0_1, wrap_id]
 refine op_bs2F (RdS.pres rf (Ext.pres eB)) (RdS.pres rg (Ext.pres eB)) ?_
 intro v1_4 h1_4 ho1_4 e1_4
 replace hb0_0 := BoxAt.ext hb0_0 e1_4
 replace hb0_1 := BoxAt.ext hb0_1 e1_4
 have := Ext.size e1_4
 replace eB := Ext.trans eB e1_4
 have xr1 := Ext.refl h1_4
 try simp -implicitDefEqProofs (disch := first | decide | assumption | omega) only [go_sem, RdS.len hdX sl22, RdS.idx hdX sl22, R1.intB hdX (Ext.pres eB), RdS.cells hdX, RdS.len hmX sl23, RdS.idx hmX sl23, RdS.cellB hmX (Ext.pres eB), RdS.cells hmX, RdS.len hdY sl22, RdS.idx hdY sl22, R1.intB hdY (Ext.pres eB), RdS.cells hdY, RdS.len hmY sl23, RdS.idx hmY sl23, RdS.cellB hmY (Ext.pres eB), RdS.cells hmY, RdS.len rf sl23, RdS.idx rf sl23, RdS.cellB rf (Ext.pres eB), RdS.cells rf, RdS.len rg sl23, RdS.idx rg sl23, RdS.cellB rg (Ext.pres eB), RdS.cells rg, BoxAt.cell hb0_0, BoxAt.cell hb0_1, RdS.len ho1_4 sl88, RdS.idx ho1_4 sl88, RdS.cellB ho1_4 (Ext.pres xr1), RdS.cells ho1_4, wrap_id]
 try simp -implicitDefEqProofs (disch := first | decide | assumption | omega) only [go_sem, RdS.len hdX sl22, RdS.idx hdX sl22, R1.intB hdX (Ext.pres eB), RdS.cells hdX, RdS.len hmX sl23, RdS.idx hmX sl23, RdS.cellB hmX (Ext.pres eB), RdS.cells hmX, RdS.len hdY sl22, RdS.idx hdY sl22, R1.intB hdY (Ext.pres eB), RdS.cells hdY, RdS.len hmY sl23, RdS.idx hmY sl23, RdS.cellB hmY (Ext.pres eB), RdS.cells hmY, RdS.len rf sl23, RdS.idx rf sl23, RdS.cellB rf (Ext.pres eB), RdS.cells rf, RdS.len rg sl23, RdS.idx rg sl23, RdS.cellB rg (Ext.pres eB), RdS.cells rg, BoxAt.cell hb0_0, BoxAt.cell hb0_1, RdS.len ho1_4 sl88, RdS.idx ho1_4 sl88, RdS.cellB ho1_4 (Ext.pres xr1), RdS.cells ho1_4, wrap_id]
 refine CallA.mono (sChnC_ok _ _ _ X Y ([f, g]) _ ⟨_, _, rfl, (RdS.pres hdX (Ext.pres eB)), (RdS.pres hmX (Ext.pres eB))⟩ ⟨_, _, rfl, (RdS.pres hdY (Ext.pres eB)), (RdS.pres hmY (Ext.pres eB))⟩ (RdS.pres ho1_4 (Ext.pres xr1)) ) ?_
 intro v_ h1_5
 rintro ⟨rfl, e1_5⟩
 replace hb0_0 := BoxAt.ext hb0_0 e1_5
 replace hb0_1 := BoxAt.ext hb0_1 e1_5
 have := Ext.size e1_5
 replace eB := Ext.trans eB e1_5
 replace xr1 := Ext.trans xr1 e1_5
 try simp -implicitDefEqProofs (disch := first | decide | assumption | omega) only [go_sem, RdS.len hdX sl22, RdS.idx hdX sl22, R1.intB hdX (Ext.pres eB), RdS.cells hdX, RdS.len hmX sl23, RdS.idx hmX sl23, RdS.cellB hmX (Ext.pres eB), RdS.cells hmX, RdS.len hdY sl22, RdS.idx hdY sl22, R1.intB hdY (Ext.pres eB), RdS.cells hdY, RdS.len hmY sl23, RdS.idx hmY sl23, RdS.cellB hmY (Ext.pres eB), RdS.cells hmY, RdS.len rf sl23, RdS.idx rf sl23, RdS.cellB rf (Ext.pres eB), RdS.cells rf, RdS.len rg sl23, RdS.idx rg sl23, RdS.cellB rg (Ext.pres eB), RdS.cells rg, BoxAt.cell hb0_0, BoxAt.cell hb0_1, RdS.len ho1_4 sl88, RdS.idx ho1_4 sl88, RdS.cellB ho1_4 (Ext.pres xr1), RdS.cells ho1_4, wrap_id]
 refine hK _ _ ?_
 clear hK K
 refine den_seq ?_
 refine den_region TTok ?_
 intro K hK
 simp -implicitDefEqProofs (disch := first | decide | assumption | omega) only [go_sem, RdS.len hdX sl22, RdS.idx hdX sl22, R1.intB hdX (Ext.pres eB), RdS.cells hdX, RdS.len hmX sl23, RdS.idx hmX sl23, RdS.cellB hmX (Ext.pres eB), RdS.cells hmX, RdS.len hdY sl22, RdS.idx hdY sl22, R1.intB hdY (Ext.pres eB), RdS.cells hdY, RdS.len hmY sl23, RdS.idx hmY sl23, RdS.cellB hmY (Ext.pres eB), RdS.cells hmY, RdS.len rf sl23, RdS.idx rf sl23, RdS.cellB rf (Ext.pres eB), RdS.cells rf, RdS.len rg sl23, RdS.idx rg sl23, RdS.cellB rg (Ext.pres eB), RdS.cells rg, BoxAt.cell hb0_0, BoxAt.cell hb0_1, RdS.len ho1_4 sl88, RdS.idx ho1_4 sl88, RdS.cellB ho1_4 (Ext.pres xr1), RdS.cells ho1_4, wrap_id]
 refine hK _ _ ?_
 clear hK K
 refine den_cond rfl (fun c0 => ?_) (fun c0 => ?_)
 ·try simp only [decide_eq_true_eq, decide_eq_false_iff_not, beq_iff_eq, beq_eq_false_iff_ne, bne_iff_ne, ne_eq, Bool.not_eq_true', Bool.not_eq_false', Bool.and_eq_true, Bool.or_eq_true, bne_eq_false_iff_eq] at c0
  refine den_seq ?_
  refine den_region TTok ?_
  intro K hK
  simp -implicitDefEqProofs (disch := first | decide | assumption | omega) only [go_sem, RdS.len hdX sl22, RdS.idx hdX sl22, R1.intB hdX (Ext.pres eB), RdS.cells hdX, RdS.len hmX sl23, RdS.idx hmX sl23, RdS.cellB hmX (Ext.pres eB), RdS.cells hmX, RdS.len hdY sl22, RdS.idx hdY sl22, R1.intB hdY (Ext.pres eB), RdS.cells hdY, RdS.len hmY sl23, RdS.idx hmY sl23, RdS.cellB hmY (Ext.pres eB), RdS.cells hmY, RdS.len rf sl23, RdS.idx rf sl23, RdS.cellB rf (Ext.pres eB), RdS.cells rf, RdS.len rg sl23, RdS.idx rg sl23, RdS.cellB rg (Ext.pres eB), RdS.cells rg, RdS.len ho1_4 sl88, RdS.idx ho1_4 sl88, RdS.cellB ho1_4 (Ext.pres xr1), RdS.cells ho1_4, wrap_id]
  refine hK _ _ ?_
  clear hK K
  refine den_ret ?_
  simp (disch := decide) only [resP_2, puts_same, puts_ne]
  have hz : arR X Y f g = (false, chnC X Y [f, g]) := by rw [arR, if_neg c0]
  rw [hz]
  exact ⟨by first | rfl | trivial, eB⟩
 ·try simp only [decide_eq_true_eq, decide_eq_false_iff_not, beq_iff_eq, beq_eq_false_iff_ne, bne_iff_ne, ne_eq, Bool.not_eq_true', Bool.not_eq_false', Bool.and_eq_true, Bool.or_eq_true, bne_eq_false_iff_eq] at c0
  have hok := arC_0 c0
  have hX := hok.cX
  have hY := hok.cY
  have hlX := hX.len
  have hlY := hok.l
  have hpb := isP_bnd hX.p
  have hlf := hok.cf.len
  have hS := sumOk hX hY hok.cf hok.cg
  refine den_skip ?_
  refine den_seq ?_
  refine den_region TTok ?_
  intro K hK
  simp -implicitDefEqProofs (disch := first | decide | assumption | omega) only [go_sem, fa30_0, ld2, RdS.len hdX sl22, RdS.idx hdX sl22, R1.intB hdX (Ext.pres eB), RdS.cells hdX, RdS.len hmX sl23, RdS.idx hmX sl23, RdS.cellB hmX (Ext.pres eB), RdS.cells hmX, RdS.len hdY sl22, RdS.idx hdY sl22, R1.intB hdY (Ext.pres eB), RdS.cells hdY, RdS.len hmY sl23, RdS.idx hmY sl23, RdS.cellB hmY (Ext.pres eB), RdS.cells hmY, RdS.len rf sl23, RdS.idx rf sl23, RdS.cellB rf (Ext.pres eB), RdS.cells rf, RdS.len rg sl23, RdS.idx rg sl23, RdS.cellB rg (Ext.pres eB), RdS.cells rg, BoxAt.cell hb0_0, BoxAt.cell hb0_1, RdS.len ho1_4 sl88, RdS.idx ho1_4 sl88, RdS.cellB ho1_4 (Ext.pres xr1), RdS.cells ho1_4, wrap_id]
  try simp -implicitDefEqProofs (disch := first | decide | assumption | omega) only [go_sem, RdS.len hdX sl22, RdS.idx hdX sl22, R1.intB hdX (Ext.pres eB), RdS.cells hdX, RdS.len hmX sl23, RdS.idx hmX sl23, RdS.cellB hmX (Ext.pres eB), RdS.cells hmX, RdS.len hdY sl22, RdS.idx hdY sl22, R1.intB hdY (Ext.pres eB), RdS.cells hdY, RdS.len hmY sl23, RdS.idx hmY sl23, RdS.cellB hmY (Ext.pres eB), RdS.cells hmY, RdS.len rf sl23, RdS.idx rf sl23, RdS.cellB rf (Ext.pres eB), RdS.cells rf, RdS.len rg sl23, RdS.idx rg sl23, RdS.cellB rg (Ext.pres eB), RdS.cells rg, BoxAt.cell hb0_0, BoxAt.cell hb0_1, RdS.len ho1_4 sl88, RdS.idx ho1_4 sl88, RdS.cellB ho1_4 (Ext.pres xr1), RdS.cells ho1_4, wrap_id]
  refine CallA.mono (sSum_ok _ _ X.p f g (-1 : Int) _ (RdS.pres rf (Ext.pres eB)) (RdS.pres rg (Ext.pres eB)) hS (by omega) (by omega)) ?_
  intro vw4_4_0 h4_4
  rintro ⟨zvw4_4_0, fw4_4_0, rfl, how4_4_0, hfw4_4_0, e4_4⟩
  replace hb0_0 := BoxAt.ext hb0_0 e4_4
  replace hb0_1 := BoxAt.ext hb0_1 e4_4
  have := Ext.size e4_4
  replace eB := Ext.trans eB e4_4
  replace xr1 := Ext.trans xr1 e4_4
  have hlhow4_4_0 := OS.lt how4_4_0
  try simp -implicitDefEqProofs (disch := first | decide | assumption | omega) only [go_sem, RdS.len hdX sl22, RdS.idx hdX sl22, R1.intB hdX (Ext.pres eB), RdS.cells hdX, RdS.len hmX sl23, RdS.idx hmX sl23, RdS.cellB hmX (Ext.pres eB), RdS.cells hmX, RdS.len hdY sl22, RdS.idx hdY sl22, R1.intB hdY (Ext.pres eB), RdS.cells hdY, RdS.len hmY sl23, RdS.idx hmY sl23, RdS.cellB hmY (Ext.pres eB), RdS.cells hmY, RdS.len rf sl23, RdS.idx rf sl23, RdS.cellB rf (Ext.pres eB), RdS.cells rf, RdS.len rg sl23, RdS.idx rg sl23, RdS.cellB rg (Ext.pres eB), RdS.cells rg, RdS.len (OS.rd how4_4_0) sl23, RdS.idx (OS.rd how4_4_0) sl23, RdS.cellN (OS.rd how4_4_0), RdS.cells (OS.rd how4_4_0), BoxAt.cell hb0_0, BoxAt.cell hb0_1, RdS.len ho1_4 sl88, RdS.idx ho1_4 sl88, RdS.cellB ho1_4 (Ext.pres xr1), RdS.cells ho1_4, wrap_id]
  refine hK _ _ ?_
  clear hK K
  refine den_seq ?_
  refine den_seq ?_
  refine den_region TTok ?_
  intro K hK
  simp -implicitDefEqProofs (disch := first | decide | assumption | omega) only [go_sem, RdS.len hdX sl22, RdS.idx hdX sl22, R1.intB hdX (Ext.pres eB), RdS.cells hdX, RdS.len hmX sl23, RdS.idx hmX sl23, RdS.cellB hmX (Ext.pres eB), RdS.cells hmX, RdS.len hdY sl22, RdS.idx hdY sl22, R1.intB hdY (Ext.pres eB), RdS.cells hdY, RdS.len hmY sl23, RdS.idx hmY sl23, RdS.cellB hmY (Ext.pres eB), RdS.cells hmY, RdS.len rf sl23, RdS.idx rf sl23, RdS.cellB rf (Ext.pres eB), RdS.cells rf, RdS.len rg sl23, RdS.idx rg sl23, RdS.cellB rg (Ext.pres eB), RdS.cells rg, RdS.len (OS.rd how4_4_0) sl23, RdS.idx (OS.rd how4_4_0) sl23, RdS.cellN (OS.rd how4_4_0), RdS.cells (OS.rd how4_4_0), BoxAt.cell hb0_0, BoxAt.cell hb0_1, RdS.len ho1_4 sl88, RdS.idx ho1_4 sl88, RdS.cellB ho1_4 (Ext.pres xr1), RdS.cells ho1_4, wrap_id]
  refine hK _ _ ?_
  clear hK K
  refine den_block ?_
  refine den_sel [12, 2, 4, 5, 11] ?_
  intro env_2
  simp only [go_sem]
  refine den_loopS (σ := Nat) (fun st_ => [(12, .int .i64 (st_ : Int))]) (fun st_ H => (st_ ≤ f.length) ∧ (∀ j, j < st_ → ∀ z ∈ cycP X (j : Int), arAt X Y f g j z) ∧ (Ext h4_4 H)) (fun st_ => f.length - st_) 0 ?_ ?_
  ·exact ⟨by simp, fun j hj => by omega, Ext.refl _⟩
  ·rintro n h5 ee4 ⟨hn, hy, cL3⟩
   replace how4_4_0 := OS.ext how4_4_0 cL3
   replace hb0_0 := BoxAt.ext hb0_0 cL3
   replace hb0_1 := BoxAt.ext hb0_1 cL3
   have := Ext.size cL3
   replace eB := Ext.trans eB cL3
   replace xr1 := Ext.trans xr1 cL3
   simp only [List.cons_append, List.nil_append]
   refine den_seq ?_
   refine den_seq ?_
   refine den_region TTok ?_
   intro K hK
   simp -implicitDefEqProofs (disch := first | decide | assumption | omega) only [go_sem, RdS.len hdX sl22, RdS.idx hdX sl22, R1.intB hdX (Ext.pres eB), RdS.cells hdX, RdS.len hmX sl23, RdS.idx hmX sl23, RdS.cellB hmX (Ext.pres eB), RdS.cells hmX, RdS.len hdY sl22, RdS.idx hdY sl22, R1.intB hdY (Ext.pres eB), RdS.cells hdY, RdS.len hmY sl23, RdS.idx hmY sl23, RdS.cellB hmY (Ext.pres eB), RdS.cells hmY, RdS.len rf sl23, RdS.idx rf sl23, RdS.cellB rf (Ext.pres eB), RdS.cells rf, RdS.len rg sl23, RdS.idx rg sl23, RdS.cellB rg (Ext.pres eB), RdS.cells rg, RdS.len (OS.rd how4_4_0) sl23, RdS.idx (OS.rd how4_4_0) sl23, RdS.cellN (OS.rd how4_4_0), RdS.cells (OS.rd how4_4_0), BoxAt.cell hb0_0, BoxAt.cell hb0_1, RdS.len ho1_4 sl88, RdS.idx ho1_4 sl88, RdS.cellB ho1_4 (Ext.pres xr1), RdS.cells ho1_4, wrap_id]
   refine hK _ _ ?_
   clear hK K
   refine den_cond rfl (fun c1 => ?_) (fun c1 => ?_)
   ·try simp only [decide_eq_true_eq, decide_eq_false_iff_not, beq_iff_eq, beq_eq_false_iff_ne, bne_iff_ne, ne_eq, Bool.not_eq_true', Bool.not_eq_false', Bool.and_eq_true, Bool.or_eq_true, bne_eq_false_iff_eq] at c1
    refine den_skip ?_
    refine den_seq ?_
    refine den_block ?_
    refine den_seq ?_
    have haf := addFam_lenA X.p (-1) f g
    have hrk := hok.rk (n := n) (by omega)
    have hiff := ar_iff hok (n := n) (by omega)
    refine den_region TTok ?_
    intro K hK
    simp -implicitDefEqProofs (disch := first | decide | assumption | omega) only [go_sem, ld30, RdS.len hdX sl22, RdS.idx hdX sl22, R1.intB hdX (Ext.pres eB), RdS.cells hdX, RdS.len hmX sl23, RdS.idx hmX sl23, RdS.cellB hmX (Ext.pres eB), RdS.cells hmX, RdS.len hdY sl22, RdS.idx hdY sl22, R1.intB hdY (Ext.pres eB), RdS.cells hdY, RdS.len hmY sl23, RdS.idx hmY sl23, RdS.cellB hmY (Ext.pres eB), RdS.cells hmY, RdS.len rf sl23, RdS.idx rf sl23, RdS.cellB rf (Ext.pres eB), RdS.cells rf, RdS.len rg sl23, RdS.idx rg sl23, RdS.cellB rg (Ext.pres eB), RdS.cells rg, RdS.len (OS.rd how4_4_0) sl23, RdS.idx (OS.rd how4_4_0) sl23, RdS.cellN (OS.rd how4_4_0), RdS.cells (OS.rd how4_4_0), BoxAt.cell hb0_0, BoxAt.cell hb0_1, RdS.len ho1_4 sl88, RdS.idx ho1_4 sl88, RdS.cellB ho1_4 (Ext.pres xr1), RdS.cells ho1_4, wrap_id]
    try simp -implicitDefEqProofs (disch := first | decide | assumption | omega) only [go_sem, RdS.len hdX sl22, RdS.idx hdX sl22, R1.intB hdX (Ext.pres eB), RdS.cells hdX, RdS.len hmX sl23, RdS.idx hmX sl23, RdS.cellB hmX (Ext.pres eB), RdS.cells hmX, RdS.len hdY sl22, RdS.idx hdY sl22, R1.intB hdY (Ext.pres eB), RdS.cells hdY, RdS.len hmY sl23, RdS.idx hmY sl23, RdS.cellB hmY (Ext.pres eB), RdS.cells hmY, RdS.len rf sl23, RdS.idx rf sl23, RdS.cellB rf (Ext.pres eB), RdS.cells rf, RdS.len rg sl23, RdS.idx rg sl23, RdS.cellB rg (Ext.pres eB), RdS.cells rg, RdS.len (OS.rd how4_4_0) sl23, RdS.idx (OS.rd how4_4_0) sl23, RdS.cellN (OS.rd how4_4_0), RdS.cells (OS.rd how4_4_0), BoxAt.cell hb0_0, BoxAt.cell hb0_1, RdS.len ho1_4 sl88, RdS.idx ho1_4 sl88, RdS.cellB ho1_4 (Ext.pres xr1), RdS.cells ho1_4, wrap_id]
    refine CallA.mono (sRk_ok _ _ _ X Y (addFam X.p (-1 : Int) f g) (n : Int) _ ⟨_, _, rfl, (RdS.pres hdX (Ext.pres eB)), (RdS.pres hmX (Ext.pres eB))⟩ ⟨_, _, rfl, (RdS.pres hdY (Ext.pres eB)), (RdS.pres hmY (Ext.pres eB))⟩ (OS.rd how4_4_0) hrk) ?_
    intro v_ h8_4
    rintro ⟨rfl, e8_4⟩
    replace how4_4_0 := OS.ext how4_4_0 e8_4
    replace hb0_0 := BoxAt.ext hb0_0 e8_4
    replace hb0_1 := BoxAt.ext hb0_1 e8_4
    have := Ext.size e8_4
    replace eB := Ext.trans eB e8_4
    replace xr1 := Ext.trans xr1 e8_4
    replace cL3 := Ext.trans cL3 e8_4
    try simp -implicitDefEqProofs (disch := first | decide | assumption | omega) only [go_sem, RdS.len hdX sl22, RdS.idx hdX sl22, R1.intB hdX (Ext.pres eB), RdS.cells hdX, RdS.len hmX sl23, RdS.idx hmX sl23, RdS.cellB hmX (Ext.pres eB), RdS.cells hmX, RdS.len hdY sl22, RdS.idx hdY sl22, R1.intB hdY (Ext.pres eB), RdS.cells hdY, RdS.len hmY sl23, RdS.idx hmY sl23, RdS.cellB hmY (Ext.pres eB), RdS.cells hmY, RdS.len rf sl23, RdS.idx rf sl23, RdS.cellB rf (Ext.pres eB), RdS.cells rf, RdS.len rg sl23, RdS.idx rg sl23, RdS.cellB rg (Ext.pres eB), RdS.cells rg, RdS.len (OS.rd how4_4_0) sl23, RdS.idx (OS.rd how4_4_0) sl23, RdS.cellN (OS.rd how4_4_0), RdS.cells (OS.rd how4_4_0), BoxAt.cell hb0_0, BoxAt.cell hb0_1, RdS.len ho1_4 sl88, RdS.idx ho1_4 sl88, RdS.cellB ho1_4 (Ext.pres xr1), RdS.cells ho1_4, wrap_id]
    refine hK _ _ ?_
    clear hK K
    refine den_cond rfl (fun c2 => ?_) (fun c2 => ?_)
    ·try simp only [decide_eq_true_eq, decide_eq_false_iff_not, beq_iff_eq, beq_eq_false_iff_ne, bne_iff_ne, ne_eq, Bool.not_eq_true', Bool.not_eq_false', Bool.and_eq_true, Bool.or_eq_true, bne_eq_false_iff_eq] at c2
     refine den_seq ?_
     refine den_region TTok ?_
     intro K hK
     simp -implicitDefEqProofs (disch := first | decide | assumption | omega) only [go_sem, RdS.len hdX sl22, RdS.idx hdX sl22, R1.intB hdX (Ext.pres eB), RdS.cells hdX, RdS.len hmX sl23, RdS.idx hmX sl23, RdS.cellB hmX (Ext.pres eB), RdS.cells hmX, RdS.len hdY sl22, RdS.idx hdY sl22, R1.intB hdY (Ext.pres eB), RdS.cells hdY, RdS.len hmY sl23, RdS.idx hmY sl23, RdS.cellB hmY (Ext.pres eB), RdS.cells hmY, RdS.len rf sl23, RdS.idx rf sl23, RdS.cellB rf (Ext.pres eB), RdS.cells rf, RdS.len rg sl23, RdS.idx rg sl23, RdS.cellB rg (Ext.pres eB), RdS.cells rg, RdS.len ho1_4 sl88, RdS.idx ho1_4 sl88, RdS.cellB ho1_4 (Ext.pres xr1), RdS.cells ho1_4, wrap_id]
     refine hK _ _ ?_
     clear hK K
     refine den_ret ?_
     simp (disch := decide) only [resP_2, puts_same, puts_ne]
     have hz : arR X Y f g = (false, 0) := by rw [arR, if_pos c0, pdec_f.2 (fun hH => by
       have h1 := hiff.2 (hH n (by omega))
       omega)]
     rw [hz]
     exact ⟨by first | rfl | trivial, eB⟩
    ·try simp only [decide_eq_true_eq, decide_eq_false_iff_not, beq_iff_eq, beq_eq_false_iff_ne, bne_iff_ne, ne_eq, Bool.not_eq_true', Bool.not_eq_false', Bool.and_eq_true, Bool.or_eq_true, bne_eq_false_iff_eq] at c2
     refine den_skip ?_
     refine den_blk ?_
     refine den_region TTok ?_
     intro K hK
     simp -implicitDefEqProofs (disch := first | decide | assumption | omega) only [go_sem, RdS.len hdX sl22, RdS.idx hdX sl22, R1.intB hdX (Ext.pres eB), RdS.cells hdX, RdS.len hmX sl23, RdS.idx hmX sl23, RdS.cellB hmX (Ext.pres eB), RdS.cells hmX, RdS.len hdY sl22, RdS.idx hdY sl22, R1.intB hdY (Ext.pres eB), RdS.cells hdY, RdS.len hmY sl23, RdS.idx hmY sl23, RdS.cellB hmY (Ext.pres eB), RdS.cells hmY, RdS.len rf sl23, RdS.idx rf sl23, RdS.cellB rf (Ext.pres eB), RdS.cells rf, RdS.len rg sl23, RdS.idx rg sl23, RdS.cellB rg (Ext.pres eB), RdS.cells rg, RdS.len (OS.rd how4_4_0) sl23, RdS.idx (OS.rd how4_4_0) sl23, RdS.cellN (OS.rd how4_4_0), RdS.cells (OS.rd how4_4_0), BoxAt.cell hb0_0, BoxAt.cell hb0_1, RdS.len ho1_4 sl88, RdS.idx ho1_4 sl88, RdS.cellB ho1_4 (Ext.pres xr1), RdS.cells ho1_4, wrap_id]
     refine hK _ _ ?_
     clear hK K
     refine den_stop ?_
     exact ⟨n + 1, by simp [HasL, puts_at], ⟨by omega, (fun j hj => (Nat.lt_succ_iff_lt_or_eq.1 hj).elim (hy j) (fun e => by subst e; exact hiff.1 (by omega))), cL3⟩, by first | omega | (dsimp only; omega)⟩
   ·try simp only [decide_eq_true_eq, decide_eq_false_iff_not, beq_iff_eq, beq_eq_false_iff_ne, bne_iff_ne, ne_eq, Bool.not_eq_true', Bool.not_eq_false', Bool.and_eq_true, Bool.or_eq_true, bne_eq_false_iff_eq] at c1
    refine den_exit ?_
    refine denX_code ?_
    refine denX_stop ?_
    refine denX_hit ?_
    refine den_seq ?_
    refine den_region TTok ?_
    intro K hK
    simp -implicitDefEqProofs (disch := first | decide | assumption | omega) only [go_sem, RdS.len hdX sl22, RdS.idx hdX sl22, R1.intB hdX (Ext.pres eB), RdS.cells hdX, RdS.len hmX sl23, RdS.idx hmX sl23, RdS.cellB hmX (Ext.pres eB), RdS.cells hmX, RdS.len hdY sl22, RdS.idx hdY sl22, R1.intB hdY (Ext.pres eB), RdS.cells hdY, RdS.len hmY sl23, RdS.idx hmY sl23, RdS.cellB hmY (Ext.pres eB), RdS.cells hmY, RdS.len rf sl23, RdS.idx rf sl23, RdS.cellB rf (Ext.pres eB), RdS.cells rf, RdS.len rg sl23, RdS.idx rg sl23, RdS.cellB rg (Ext.pres eB), RdS.cells rg, RdS.len ho1_4 sl88, RdS.idx ho1_4 sl88, RdS.cellB ho1_4 (Ext.pres xr1), RdS.cells ho1_4, wrap_id]
    refine hK _ _ ?_
    clear hK K
    refine den_ret ?_
    simp (disch := decide) only [resP_2, puts_same, puts_ne]
    have hz : arR X Y f g = (true, 0) := by rw [arR, if_pos c0, pdec_t.2 (fun j hj => hy j (by omega))]
    rw [hz]
    exact ⟨by first | rfl | trivial, eB⟩

set_option maxRecDepth 100000 in
theorem iAH_ok (vX vY vf vg : Value) (X : Cx) (Y : Cx) (f : List (List (List Int))) (g : List (List (List Int))) (h : Heap) (rX : RC h vX X) (rY : RC h vY Y) (rf : R3 h vf f) (rg : R3 h vg g)  : CallA Try.prog 20 #[vX, vY, vf, vg] h fun v' h' => v' = .tuple #[.bool ((arR X Y f g).1), .int .i64 ((arR X Y f g).2)] ∧ Ext h h' := by
 obtain ⟨vdX, vmX, rfl, hdX, hmX⟩ := rX
 have hledX := RdS.le hdX
 have hlemX := RdS.le hmX
 obtain ⟨vdY, vmY, rfl, hdY, hmY⟩ := rY
 have hledY := RdS.le hdY
 have hlemY := RdS.le hmY
 have hlef := RdS.le rf
 have hleg := RdS.le rg
 refine callA_intro TTok (args := [_, _, _, _]) Try.func20 (by kernel_rfl) rfl 67 rfl (by simp) [.tmp 8, .tmp 9] rfl ?_
 simp only [idxs, Nat.reduceAdd]
 refine den_seq ?_
 refine den_region TTok ?_
 intro K hK
 simp -implicitDefEqProofs (disch := first | decide | assumption | omega) only [go_sem, RdS.len hdX sl22, RdS.idx hdX sl22, R1.intB hdX (HPres.refl _), RdS.cells hdX, RdS.len hmX sl23, RdS.idx hmX sl23, RdS.cellB hmX (HPres.refl _), RdS.cells hmX, RdS.len hdY sl22, RdS.idx hdY sl22, R1.intB hdY (HPres.refl _), RdS.cells hdY, RdS.len hmY sl23, RdS.idx hmY sl23, RdS.cellB hmY (HPres.refl _), RdS.cells hmY, RdS.len rf sl23, RdS.idx rf sl23, RdS.cellB rf (HPres.refl _), RdS.cells rf, RdS.len rg sl23, RdS.idx rg sl23, RdS.cellB rg (HPres.refl _), RdS.cells rg, wrap_id]
 refine op_box (cs := #[.int .i64 (X.p), vdX, vmX]) rfl ?_
 intro h0_0 e0_0 hb0_0 z0_0
 have := Ext.size e0_0
 have eB := e0_0
 have hfhb0_0 : Fresh h.size [h.size] := Fresh.one _
 have hlhb0_0 := one_lt (show h.size < h0_0.size by omega)
 try simp -implicitDefEqProofs (disch := first | decide | assumption | omega) only [go_sem, RdS.len hdX sl22, RdS.idx hdX sl22, R1.intB hdX (Ext.pres eB), RdS.cells hdX, RdS.len hmX sl23, RdS.idx hmX sl23, RdS.cellB hmX (Ext.pres eB), RdS.cells hmX, RdS.len hdY sl22, RdS.idx hdY sl22, R1.intB hdY (Ext.pres eB), RdS.cells hdY, RdS.len hmY sl23, RdS.idx hmY sl23, RdS.cellB hmY (Ext.pres eB), RdS.cells hmY, RdS.len rf sl23, RdS.idx rf sl23, RdS.cellB rf (Ext.pres eB), RdS.cells rf, RdS.len rg sl23, RdS.idx rg sl23, RdS.cellB rg (Ext.pres eB), RdS.cells rg, BoxAt.cell hb0_0, wrap_id]
 refine op_box (cs := #[.int .i64 (Y.p), vdY, vmY]) rfl ?_
 intro h0_1 e0_1 hb0_1 z0_1
 replace hb0_0 := BoxAt.ext hb0_0 e0_1
 have := Ext.size e0_1
 replace eB := Ext.trans eB e0_1
 have hfhb0_1 : Fresh h0_0.size [h0_0.size] := Fresh.one _
 have hlhb0_1 := one_lt (show h0_0.size < h0_1.size by omega)
 try simp -implicitDefEqProofs (disch := first | decide | assumption | omega) only [go_sem, RdS.len hdX sl22, RdS.idx hdX sl22, R1.intB hdX (Ext.pres eB), RdS.cells hdX, RdS.len hmX sl23, RdS.idx hmX sl23, RdS.cellB hmX (Ext.pres eB), RdS.cells hmX, RdS.len hdY sl22, RdS.idx hdY sl22, R1.intB hdY (Ext.pres eB), RdS.cells hdY, RdS.len hmY sl23, RdS.idx hmY sl23, RdS.cellB hmY (Ext.pres eB), RdS.cells hmY, RdS.len rf sl23, RdS.idx rf sl23, RdS.cellB rf (Ext.pres eB), RdS.cells rf, RdS.len rg sl23, RdS.idx rg sl23, RdS.cellB rg (Ext.pres eB), RdS.cells rg, BoxAt.cell hb0_0, BoxAt.cell hb0_1, wrap_id]
 refine hK _ _ ?_
 clear hK K
 refine den_seq ?_
 refine den_seq ?_
 refine den_region TTok ?_
 intro K hK
 simp -implicitDefEqProofs (disch := first | decide | assumption | omega) only [go_sem, ld30, RdS.len hdX sl22, RdS.idx hdX sl22, R1.intB hdX (Ext.pres eB), RdS.cells hdX, RdS.len hmX sl23, RdS.idx hmX sl23, RdS.cellB hmX (Ext.pres eB), RdS.cells hmX, RdS.len hdY sl22, RdS.idx hdY sl22, R1.intB hdY (Ext.pres eB), RdS.cells hdY, RdS.len hmY sl23, RdS.idx hmY sl23, RdS.cellB hmY (Ext.pres eB), RdS.cells hmY, RdS.len rf sl23, RdS.idx rf sl23, RdS.cellB rf (Ext.pres eB), RdS.cells rf, RdS.len rg sl23, RdS.idx rg sl23, RdS.cellB rg (Ext.pres eB), RdS.cells rg, BoxAt.cell hb0_0, BoxAt.cell hb0_1, wrap_id]
 refine op_bs2F (RdS.pres rf (Ext.pres eB)) (RdS.pres rg (Ext.pres eB)) ?_
 intro v1_4 h1_4 ho1_4 e1_4
 replace hb0_0 := BoxAt.ext hb0_0 e1_4
 replace hb0_1 := BoxAt.ext hb0_1 e1_4
 have := Ext.size e1_4
 replace eB := Ext.trans eB e1_4
 have xr1 := Ext.refl h1_4
 try simp -implicitDefEqProofs (disch := first | decide | assumption | omega) only [go_sem, RdS.len hdX sl22, RdS.idx hdX sl22, R1.intB hdX (Ext.pres eB), RdS.cells hdX, RdS.len hmX sl23, RdS.idx hmX sl23, RdS.cellB hmX (Ext.pres eB), RdS.cells hmX, RdS.len hdY sl22, RdS.idx hdY sl22, R1.intB hdY (Ext.pres eB), RdS.cells hdY, RdS.len hmY sl23, RdS.idx hmY sl23, RdS.cellB hmY (Ext.pres eB), RdS.cells hmY, RdS.len rf sl23, RdS.idx rf sl23, RdS.cellB rf (Ext.pres eB), RdS.cells rf, RdS.len rg sl23, RdS.idx rg sl23, RdS.cellB rg (Ext.pres eB), RdS.cells rg, BoxAt.cell hb0_0, BoxAt.cell hb0_1, RdS.len ho1_4 sl88, RdS.idx ho1_4 sl88, RdS.cellB ho1_4 (Ext.pres xr1), RdS.cells ho1_4, wrap_id]
 try simp -implicitDefEqProofs (disch := first | decide | assumption | omega) only [go_sem, RdS.len hdX sl22, RdS.idx hdX sl22, R1.intB hdX (Ext.pres eB), RdS.cells hdX, RdS.len hmX sl23, RdS.idx hmX sl23, RdS.cellB hmX (Ext.pres eB), RdS.cells hmX, RdS.len hdY sl22, RdS.idx hdY sl22, R1.intB hdY (Ext.pres eB), RdS.cells hdY, RdS.len hmY sl23, RdS.idx hmY sl23, RdS.cellB hmY (Ext.pres eB), RdS.cells hmY, RdS.len rf sl23, RdS.idx rf sl23, RdS.cellB rf (Ext.pres eB), RdS.cells rf, RdS.len rg sl23, RdS.idx rg sl23, RdS.cellB rg (Ext.pres eB), RdS.cells rg, BoxAt.cell hb0_0, BoxAt.cell hb0_1, RdS.len ho1_4 sl88, RdS.idx ho1_4 sl88, RdS.cellB ho1_4 (Ext.pres xr1), RdS.cells ho1_4, wrap_id]
 refine CallA.mono (iChnC_ok _ _ _ X Y ([f, g]) _ ⟨_, _, rfl, (RdS.pres hdX (Ext.pres eB)), (RdS.pres hmX (Ext.pres eB))⟩ ⟨_, _, rfl, (RdS.pres hdY (Ext.pres eB)), (RdS.pres hmY (Ext.pres eB))⟩ (RdS.pres ho1_4 (Ext.pres xr1)) ) ?_
 intro v_ h1_5
 rintro ⟨rfl, e1_5⟩
 replace hb0_0 := BoxAt.ext hb0_0 e1_5
 replace hb0_1 := BoxAt.ext hb0_1 e1_5
 have := Ext.size e1_5
 replace eB := Ext.trans eB e1_5
 replace xr1 := Ext.trans xr1 e1_5
 try simp -implicitDefEqProofs (disch := first | decide | assumption | omega) only [go_sem, RdS.len hdX sl22, RdS.idx hdX sl22, R1.intB hdX (Ext.pres eB), RdS.cells hdX, RdS.len hmX sl23, RdS.idx hmX sl23, RdS.cellB hmX (Ext.pres eB), RdS.cells hmX, RdS.len hdY sl22, RdS.idx hdY sl22, R1.intB hdY (Ext.pres eB), RdS.cells hdY, RdS.len hmY sl23, RdS.idx hmY sl23, RdS.cellB hmY (Ext.pres eB), RdS.cells hmY, RdS.len rf sl23, RdS.idx rf sl23, RdS.cellB rf (Ext.pres eB), RdS.cells rf, RdS.len rg sl23, RdS.idx rg sl23, RdS.cellB rg (Ext.pres eB), RdS.cells rg, BoxAt.cell hb0_0, BoxAt.cell hb0_1, RdS.len ho1_4 sl88, RdS.idx ho1_4 sl88, RdS.cellB ho1_4 (Ext.pres xr1), RdS.cells ho1_4, wrap_id]
 refine hK _ _ ?_
 clear hK K
 refine den_seq ?_
 refine den_region TTok ?_
 intro K hK
 simp -implicitDefEqProofs (disch := first | decide | assumption | omega) only [go_sem, RdS.len hdX sl22, RdS.idx hdX sl22, R1.intB hdX (Ext.pres eB), RdS.cells hdX, RdS.len hmX sl23, RdS.idx hmX sl23, RdS.cellB hmX (Ext.pres eB), RdS.cells hmX, RdS.len hdY sl22, RdS.idx hdY sl22, R1.intB hdY (Ext.pres eB), RdS.cells hdY, RdS.len hmY sl23, RdS.idx hmY sl23, RdS.cellB hmY (Ext.pres eB), RdS.cells hmY, RdS.len rf sl23, RdS.idx rf sl23, RdS.cellB rf (Ext.pres eB), RdS.cells rf, RdS.len rg sl23, RdS.idx rg sl23, RdS.cellB rg (Ext.pres eB), RdS.cells rg, BoxAt.cell hb0_0, BoxAt.cell hb0_1, RdS.len ho1_4 sl88, RdS.idx ho1_4 sl88, RdS.cellB ho1_4 (Ext.pres xr1), RdS.cells ho1_4, wrap_id]
 refine hK _ _ ?_
 clear hK K
 refine den_cond rfl (fun c0 => ?_) (fun c0 => ?_)
 ·try simp only [decide_eq_true_eq, decide_eq_false_iff_not, beq_iff_eq, beq_eq_false_iff_ne, bne_iff_ne, ne_eq, Bool.not_eq_true', Bool.not_eq_false', Bool.and_eq_true, Bool.or_eq_true, bne_eq_false_iff_eq] at c0
  refine den_seq ?_
  refine den_region TTok ?_
  intro K hK
  simp -implicitDefEqProofs (disch := first | decide | assumption | omega) only [go_sem, RdS.len hdX sl22, RdS.idx hdX sl22, R1.intB hdX (Ext.pres eB), RdS.cells hdX, RdS.len hmX sl23, RdS.idx hmX sl23, RdS.cellB hmX (Ext.pres eB), RdS.cells hmX, RdS.len hdY sl22, RdS.idx hdY sl22, R1.intB hdY (Ext.pres eB), RdS.cells hdY, RdS.len hmY sl23, RdS.idx hmY sl23, RdS.cellB hmY (Ext.pres eB), RdS.cells hmY, RdS.len rf sl23, RdS.idx rf sl23, RdS.cellB rf (Ext.pres eB), RdS.cells rf, RdS.len rg sl23, RdS.idx rg sl23, RdS.cellB rg (Ext.pres eB), RdS.cells rg, RdS.len ho1_4 sl88, RdS.idx ho1_4 sl88, RdS.cellB ho1_4 (Ext.pres xr1), RdS.cells ho1_4, wrap_id]
  refine hK _ _ ?_
  clear hK K
  refine den_ret ?_
  simp (disch := decide) only [resP_2, puts_same, puts_ne]
  have hz : arR X Y f g = (false, chnC X Y [f, g]) := by rw [arR, if_neg c0]
  rw [hz]
  exact ⟨by first | rfl | trivial, eB⟩
 ·try simp only [decide_eq_true_eq, decide_eq_false_iff_not, beq_iff_eq, beq_eq_false_iff_ne, bne_iff_ne, ne_eq, Bool.not_eq_true', Bool.not_eq_false', Bool.and_eq_true, Bool.or_eq_true, bne_eq_false_iff_eq] at c0
  have hok := arC_0 c0
  have hX := hok.cX
  have hY := hok.cY
  have hlX := hX.len
  have hlY := hok.l
  have hpb := isP_bnd hX.p
  have hlf := hok.cf.len
  have hS := sumOk hX hY hok.cf hok.cg
  refine den_skip ?_
  refine den_seq ?_
  refine den_region TTok ?_
  intro K hK
  simp -implicitDefEqProofs (disch := first | decide | assumption | omega) only [go_sem, fa30_0, ld2, RdS.len hdX sl22, RdS.idx hdX sl22, R1.intB hdX (Ext.pres eB), RdS.cells hdX, RdS.len hmX sl23, RdS.idx hmX sl23, RdS.cellB hmX (Ext.pres eB), RdS.cells hmX, RdS.len hdY sl22, RdS.idx hdY sl22, R1.intB hdY (Ext.pres eB), RdS.cells hdY, RdS.len hmY sl23, RdS.idx hmY sl23, RdS.cellB hmY (Ext.pres eB), RdS.cells hmY, RdS.len rf sl23, RdS.idx rf sl23, RdS.cellB rf (Ext.pres eB), RdS.cells rf, RdS.len rg sl23, RdS.idx rg sl23, RdS.cellB rg (Ext.pres eB), RdS.cells rg, BoxAt.cell hb0_0, BoxAt.cell hb0_1, RdS.len ho1_4 sl88, RdS.idx ho1_4 sl88, RdS.cellB ho1_4 (Ext.pres xr1), RdS.cells ho1_4, wrap_id]
  refine hK _ _ ?_
  clear hK K
  refine den_seq ?_
  refine den_seq ?_
  refine den_region TTok ?_
  intro K hK
  simp -implicitDefEqProofs (disch := first | decide | assumption | omega) only [go_sem, fa30_1, ld22, RdS.len hdX sl22, RdS.idx hdX sl22, R1.intB hdX (Ext.pres eB), RdS.cells hdX, RdS.len hmX sl23, RdS.idx hmX sl23, RdS.cellB hmX (Ext.pres eB), RdS.cells hmX, RdS.len hdY sl22, RdS.idx hdY sl22, R1.intB hdY (Ext.pres eB), RdS.cells hdY, RdS.len hmY sl23, RdS.idx hmY sl23, RdS.cellB hmY (Ext.pres eB), RdS.cells hmY, RdS.len rf sl23, RdS.idx rf sl23, RdS.cellB rf (Ext.pres eB), RdS.cells rf, RdS.len rg sl23, RdS.idx rg sl23, RdS.cellB rg (Ext.pres eB), RdS.cells rg, BoxAt.cell hb0_0, BoxAt.cell hb0_1, RdS.len ho1_4 sl88, RdS.idx ho1_4 sl88, RdS.cellB ho1_4 (Ext.pres xr1), RdS.cells ho1_4, wrap_id]
  try simp -implicitDefEqProofs (disch := first | decide | assumption | omega) only [go_sem, RdS.len hdX sl22, RdS.idx hdX sl22, R1.intB hdX (Ext.pres eB), RdS.cells hdX, RdS.len hmX sl23, RdS.idx hmX sl23, RdS.cellB hmX (Ext.pres eB), RdS.cells hmX, RdS.len hdY sl22, RdS.idx hdY sl22, R1.intB hdY (Ext.pres eB), RdS.cells hdY, RdS.len hmY sl23, RdS.idx hmY sl23, RdS.cellB hmY (Ext.pres eB), RdS.cells hmY, RdS.len rf sl23, RdS.idx rf sl23, RdS.cellB rf (Ext.pres eB), RdS.cells rf, RdS.len rg sl23, RdS.idx rg sl23, RdS.cellB rg (Ext.pres eB), RdS.cells rg, BoxAt.cell hb0_0, BoxAt.cell hb0_1, RdS.len ho1_4 sl88, RdS.idx ho1_4 sl88, RdS.cellB ho1_4 (Ext.pres xr1), RdS.cells ho1_4, wrap_id]
  refine CallA.pure (size1_ok _ _ _ (RdS.pres hdX (Ext.pres eB))) ?_
  try simp -implicitDefEqProofs (disch := first | decide | assumption | omega) only [go_sem, RdS.len hdX sl22, RdS.idx hdX sl22, R1.intB hdX (Ext.pres eB), RdS.cells hdX, RdS.len hmX sl23, RdS.idx hmX sl23, RdS.cellB hmX (Ext.pres eB), RdS.cells hmX, RdS.len hdY sl22, RdS.idx hdY sl22, R1.intB hdY (Ext.pres eB), RdS.cells hdY, RdS.len hmY sl23, RdS.idx hmY sl23, RdS.cellB hmY (Ext.pres eB), RdS.cells hmY, RdS.len rf sl23, RdS.idx rf sl23, RdS.cellB rf (Ext.pres eB), RdS.cells rf, RdS.len rg sl23, RdS.idx rg sl23, RdS.cellB rg (Ext.pres eB), RdS.cells rg, BoxAt.cell hb0_0, BoxAt.cell hb0_1, RdS.len ho1_4 sl88, RdS.idx ho1_4 sl88, RdS.cellB ho1_4 (Ext.pres xr1), RdS.cells ho1_4, wrap_id]
  refine hK _ _ ?_
  clear hK K
  refine den_block ?_
  refine den_sel [30, 2, 3, 4, 5, 11, 29] ?_
  intro env_2
  simp only [go_sem]
  refine den_loopS (σ := Nat) (fun st_ => [(30, .int .i64 (st_ : Int))]) (fun st_ H => (st_ ≤ X.dims.length) ∧ (∀ j, j < st_ → ∀ z ∈ cycP X (j : Int), arAt X Y f g j z) ∧ (Ext h1_5 H)) (fun st_ => X.dims.length - st_) 0 ?_ ?_
  ·exact ⟨by simp, fun j hj => by omega, Ext.refl _⟩
  ·rintro n h5 ee4 ⟨hn, hy, cL3⟩
   replace hb0_0 := BoxAt.ext hb0_0 cL3
   replace hb0_1 := BoxAt.ext hb0_1 cL3
   have := Ext.size cL3
   replace eB := Ext.trans eB cL3
   replace xr1 := Ext.trans xr1 cL3
   simp only [List.cons_append, List.nil_append]
   refine den_seq ?_
   refine den_region TTok ?_
   intro K hK
   simp -implicitDefEqProofs (disch := first | decide | assumption | omega) only [go_sem, RdS.len hdX sl22, RdS.idx hdX sl22, R1.intB hdX (Ext.pres eB), RdS.cells hdX, RdS.len hmX sl23, RdS.idx hmX sl23, RdS.cellB hmX (Ext.pres eB), RdS.cells hmX, RdS.len hdY sl22, RdS.idx hdY sl22, R1.intB hdY (Ext.pres eB), RdS.cells hdY, RdS.len hmY sl23, RdS.idx hmY sl23, RdS.cellB hmY (Ext.pres eB), RdS.cells hmY, RdS.len rf sl23, RdS.idx rf sl23, RdS.cellB rf (Ext.pres eB), RdS.cells rf, RdS.len rg sl23, RdS.idx rg sl23, RdS.cellB rg (Ext.pres eB), RdS.cells rg, BoxAt.cell hb0_0, BoxAt.cell hb0_1, RdS.len ho1_4 sl88, RdS.idx ho1_4 sl88, RdS.cellB ho1_4 (Ext.pres xr1), RdS.cells ho1_4, wrap_id]
   refine hK _ _ ?_
   clear hK K
   refine den_seq ?_
   refine den_cond rfl (fun c1 => ?_) (fun c1 => ?_)
   ·try simp only [decide_eq_true_eq, decide_eq_false_iff_not, beq_iff_eq, beq_eq_false_iff_ne, bne_iff_ne, ne_eq, Bool.not_eq_true', Bool.not_eq_false', Bool.and_eq_true, Bool.or_eq_true, bne_eq_false_iff_eq] at c1
    refine den_skip ?_
    refine den_seq ?_
    refine den_block ?_
    refine den_seq ?_
    refine den_region TTok ?_
    intro K hK
    simp -implicitDefEqProofs (disch := first | decide | assumption | omega) only [go_sem, RdS.len hdX sl22, RdS.idx hdX sl22, R1.intB hdX (Ext.pres eB), RdS.cells hdX, RdS.len hmX sl23, RdS.idx hmX sl23, RdS.cellB hmX (Ext.pres eB), RdS.cells hmX, RdS.len hdY sl22, RdS.idx hdY sl22, R1.intB hdY (Ext.pres eB), RdS.cells hdY, RdS.len hmY sl23, RdS.idx hmY sl23, RdS.cellB hmY (Ext.pres eB), RdS.cells hmY, RdS.len rf sl23, RdS.idx rf sl23, RdS.cellB rf (Ext.pres eB), RdS.cells rf, RdS.len rg sl23, RdS.idx rg sl23, RdS.cellB rg (Ext.pres eB), RdS.cells rg, BoxAt.cell hb0_0, BoxAt.cell hb0_1, RdS.len ho1_4 sl88, RdS.idx ho1_4 sl88, RdS.cellB ho1_4 (Ext.pres xr1), RdS.cells ho1_4, wrap_id]
    refine hK _ _ ?_
    clear hK K
    refine den_seq ?_
    have hclen := cyc_len hX (n : Int)
    refine den_region TTok ?_
    intro K hK
    simp -implicitDefEqProofs (disch := first | decide | assumption | omega) only [go_sem, ld30, RdS.len hdX sl22, RdS.idx hdX sl22, R1.intB hdX (Ext.pres eB), RdS.cells hdX, RdS.len hmX sl23, RdS.idx hmX sl23, RdS.cellB hmX (Ext.pres eB), RdS.cells hmX, RdS.len hdY sl22, RdS.idx hdY sl22, R1.intB hdY (Ext.pres eB), RdS.cells hdY, RdS.len hmY sl23, RdS.idx hmY sl23, RdS.cellB hmY (Ext.pres eB), RdS.cells hmY, RdS.len rf sl23, RdS.idx rf sl23, RdS.cellB rf (Ext.pres eB), RdS.cells rf, RdS.len rg sl23, RdS.idx rg sl23, RdS.cellB rg (Ext.pres eB), RdS.cells rg, BoxAt.cell hb0_0, BoxAt.cell hb0_1, RdS.len ho1_4 sl88, RdS.idx ho1_4 sl88, RdS.cellB ho1_4 (Ext.pres xr1), RdS.cells ho1_4, wrap_id]
    try simp -implicitDefEqProofs (disch := first | decide | assumption | omega) only [go_sem, RdS.len hdX sl22, RdS.idx hdX sl22, R1.intB hdX (Ext.pres eB), RdS.cells hdX, RdS.len hmX sl23, RdS.idx hmX sl23, RdS.cellB hmX (Ext.pres eB), RdS.cells hmX, RdS.len hdY sl22, RdS.idx hdY sl22, R1.intB hdY (Ext.pres eB), RdS.cells hdY, RdS.len hmY sl23, RdS.idx hmY sl23, RdS.cellB hmY (Ext.pres eB), RdS.cells hmY, RdS.len rf sl23, RdS.idx rf sl23, RdS.cellB rf (Ext.pres eB), RdS.cells rf, RdS.len rg sl23, RdS.idx rg sl23, RdS.cellB rg (Ext.pres eB), RdS.cells rg, BoxAt.cell hb0_0, BoxAt.cell hb0_1, RdS.len ho1_4 sl88, RdS.idx ho1_4 sl88, RdS.cellB ho1_4 (Ext.pres xr1), RdS.cells ho1_4, wrap_id]
    refine CallA.mono (iCyc_ok _ X (n : Int) _ ⟨_, _, rfl, (RdS.pres hdX (Ext.pres eB)), (RdS.pres hmX (Ext.pres eB))⟩ hX (by omega)) ?_
    intro vw8_2_0 h8_2
    rintro ⟨zvw8_2_0, fw8_2_0, rfl, how8_2_0, hfw8_2_0, e8_2⟩
    replace hb0_0 := BoxAt.ext hb0_0 e8_2
    replace hb0_1 := BoxAt.ext hb0_1 e8_2
    have := Ext.size e8_2
    replace eB := Ext.trans eB e8_2
    replace xr1 := Ext.trans xr1 e8_2
    replace cL3 := Ext.trans cL3 e8_2
    have hlhow8_2_0 := OS.lt how8_2_0
    try simp -implicitDefEqProofs (disch := first | decide | assumption | omega) only [go_sem, RdS.len hdX sl22, RdS.idx hdX sl22, R1.intB hdX (Ext.pres eB), RdS.cells hdX, RdS.len hmX sl23, RdS.idx hmX sl23, RdS.cellB hmX (Ext.pres eB), RdS.cells hmX, RdS.len hdY sl22, RdS.idx hdY sl22, R1.intB hdY (Ext.pres eB), RdS.cells hdY, RdS.len hmY sl23, RdS.idx hmY sl23, RdS.cellB hmY (Ext.pres eB), RdS.cells hmY, RdS.len rf sl23, RdS.idx rf sl23, RdS.cellB rf (Ext.pres eB), RdS.cells rf, RdS.len rg sl23, RdS.idx rg sl23, RdS.cellB rg (Ext.pres eB), RdS.cells rg, RdS.len (OS.rd how8_2_0) sl36, RdS.idx (OS.rd how8_2_0) sl36, RdS.cellN (OS.rd how8_2_0), RdS.cells (OS.rd how8_2_0), BoxAt.cell hb0_0, BoxAt.cell hb0_1, RdS.len ho1_4 sl88, RdS.idx ho1_4 sl88, RdS.cellB ho1_4 (Ext.pres xr1), RdS.cells ho1_4, wrap_id]
    refine hK _ _ ?_
    clear hK K
    refine den_block ?_
    refine den_sel [37, 2, 3, 4, 5, 11, 12, 29, 30, 35, 36] ?_
    intro env_6
    simp only [go_sem]
    refine den_loopS (σ := Nat) (fun st_ => [(37, .int .i64 (st_ : Int))]) (fun st_ H => (st_ ≤ (cycP X (n : Int)).length) ∧ (∀ i, i < st_ → arAt X Y f g n ((cycP X (n : Int)).getD i default)) ∧ (Ext h8_2 H)) (fun st_ => (cycP X (n : Int)).length - st_) 0 ?_ ?_
    ·exact ⟨by simp, fun j hj => by omega, Ext.refl _⟩
    ·rintro k h9 ee8 ⟨hk, hyk, cL7⟩
     replace how8_2_0 := OS.ext how8_2_0 cL7
     replace hb0_0 := BoxAt.ext hb0_0 cL7
     replace hb0_1 := BoxAt.ext hb0_1 cL7
     have := Ext.size cL7
     replace eB := Ext.trans eB cL7
     replace xr1 := Ext.trans xr1 cL7
     replace cL3 := Ext.trans cL3 cL7
     simp only [List.cons_append, List.nil_append]
     refine den_seq ?_
     refine den_region TTok ?_
     intro K hK
     simp -implicitDefEqProofs (disch := first | decide | assumption | omega) only [go_sem, RdS.len hdX sl22, RdS.idx hdX sl22, R1.intB hdX (Ext.pres eB), RdS.cells hdX, RdS.len hmX sl23, RdS.idx hmX sl23, RdS.cellB hmX (Ext.pres eB), RdS.cells hmX, RdS.len hdY sl22, RdS.idx hdY sl22, R1.intB hdY (Ext.pres eB), RdS.cells hdY, RdS.len hmY sl23, RdS.idx hmY sl23, RdS.cellB hmY (Ext.pres eB), RdS.cells hmY, RdS.len rf sl23, RdS.idx rf sl23, RdS.cellB rf (Ext.pres eB), RdS.cells rf, RdS.len rg sl23, RdS.idx rg sl23, RdS.cellB rg (Ext.pres eB), RdS.cells rg, RdS.len (OS.rd how8_2_0) sl36, RdS.idx (OS.rd how8_2_0) sl36, RdS.cellN (OS.rd how8_2_0), RdS.cells (OS.rd how8_2_0), BoxAt.cell hb0_0, BoxAt.cell hb0_1, RdS.len ho1_4 sl88, RdS.idx ho1_4 sl88, RdS.cellB ho1_4 (Ext.pres xr1), RdS.cells ho1_4, wrap_id]
     refine hK _ _ ?_
     clear hK K
     refine den_seq ?_
     refine den_cond rfl (fun c2 => ?_) (fun c2 => ?_)
     ·try simp only [decide_eq_true_eq, decide_eq_false_iff_not, beq_iff_eq, beq_eq_false_iff_ne, bne_iff_ne, ne_eq, Bool.not_eq_true', Bool.not_eq_false', Bool.and_eq_true, Bool.or_eq_true, bne_eq_false_iff_eq] at c2
      refine den_skip ?_
      refine den_seq ?_
      refine den_block ?_
      refine den_seq ?_
      refine den_region TTok ?_
      intro K hK
      have hr10 := RdS.rowN (OS.rd how8_2_0) k (by omega)
      have hlhr10 := RdS.le hr10
      have xr11 := Ext.refl h9
      simp -implicitDefEqProofs (disch := first | decide | assumption | omega) only [go_sem, ld22, RdS.len hdX sl22, RdS.idx hdX sl22, R1.intB hdX (Ext.pres eB), RdS.cells hdX, RdS.len hmX sl23, RdS.idx hmX sl23, RdS.cellB hmX (Ext.pres eB), RdS.cells hmX, RdS.len hdY sl22, RdS.idx hdY sl22, R1.intB hdY (Ext.pres eB), RdS.cells hdY, RdS.len hmY sl23, RdS.idx hmY sl23, RdS.cellB hmY (Ext.pres eB), RdS.cells hmY, RdS.len rf sl23, RdS.idx rf sl23, RdS.cellB rf (Ext.pres eB), RdS.cells rf, RdS.len rg sl23, RdS.idx rg sl23, RdS.cellB rg (Ext.pres eB), RdS.cells rg, RdS.len (OS.rd how8_2_0) sl36, RdS.idx (OS.rd how8_2_0) sl36, RdS.cellN (OS.rd how8_2_0), RdS.cells (OS.rd how8_2_0), BoxAt.cell hb0_0, BoxAt.cell hb0_1, RdS.len ho1_4 sl88, RdS.idx ho1_4 sl88, RdS.cellB ho1_4 (Ext.pres xr1), RdS.cells ho1_4, RdS.len hr10 sl22, RdS.idx hr10 sl22, R1.intB hr10 (Ext.pres xr11), RdS.cells hr10, wrap_id]
      refine hK _ _ ?_
      clear hK K
      refine den_seq ?_
      have hzk := cyc_vec hX (n := (n : Int)) (by omega) (by omega) _ (getD_mem (show k < (cycP X (n : Int)).length by omega))
      have hvv : 0 ≤ (n : Int) ∧ (n : Int) ≤ (X.dims.length : Int) - 1 → (((cycP X (n : Int)).getD k default).length : Int) = X.dims.getD (n : Int).toNat 0 ∧ Bnd X.p ((cycP X (n : Int)).getD k default) := fun _ => hzk
      have hF := hok.cf
      have hbl := hok.by_len (n := n) (by omega) hzk
      have hdy := dimP_bnd hY (n : Int)
      have hto : ((imgP X Y f 0 (n : Int) ((cycP X (n : Int)).getD k default)).length = (imgP X Y g 0 (n : Int) ((cycP X (n : Int)).getD k default)).length ∧ (imgP X Y f 0 (n : Int) ((cycP X (n : Int)).getD k default)).length ≤ 8) ∧ Bnd X.p (imgP X Y f 0 (n : Int) ((cycP X (n : Int)).getD k default)) ∧ Bnd X.p (imgP X Y g 0 (n : Int) ((cycP X (n : Int)).getD k default)) := by
       obtain ⟨l1, l2, b1, b2⟩ := hbl
       exact ⟨by omega, b1, b2⟩
      have ha1 := appP_img (X := X) (Y := Y) (f := f) (n := (n : Int)) (by omega) (by omega) ((cycP X (n : Int)).getD k default)
      have ha2 := appP_img (X := X) (Y := Y) (f := g) (n := (n : Int)) (by omega) (by omega) ((cycP X (n : Int)).getD k default)
      refine den_draw TTok mixed [] [(0, true), (1, true), (2, true), (3, true), (4, true), (5, true), (7, true), (8, true), (9, true), (10, true), (11, true), (13, true), (14, true), (6, false), (12, false), (15, false), (16, true)] (by kernel_rfl) ?_
      intro K hK
      simp -implicitDefEqProofs (disch := first | decide | assumption | omega) only [go_sem, ld30, RdS.len hdX sl22, RdS.idx hdX sl22, R1.intB hdX (Ext.pres eB), RdS.cells hdX, RdS.len hmX sl23, RdS.idx hmX sl23, RdS.cellB hmX (Ext.pres eB), RdS.cells hmX, RdS.len hdY sl22, RdS.idx hdY sl22, R1.intB hdY (Ext.pres eB), RdS.cells hdY, RdS.len hmY sl23, RdS.idx hmY sl23, RdS.cellB hmY (Ext.pres eB), RdS.cells hmY, RdS.len rf sl23, RdS.idx rf sl23, RdS.cellB rf (Ext.pres eB), RdS.cells rf, RdS.len rg sl23, RdS.idx rg sl23, RdS.cellB rg (Ext.pres eB), RdS.cells rg, RdS.len (OS.rd how8_2_0) sl36, RdS.idx (OS.rd how8_2_0) sl36, RdS.cellN (OS.rd how8_2_0), RdS.cells (OS.rd how8_2_0), BoxAt.cell hb0_0, BoxAt.cell hb0_1, RdS.len ho1_4 sl88, RdS.idx ho1_4 sl88, RdS.cellB ho1_4 (Ext.pres xr1), RdS.cells ho1_4, RdS.len hr10 sl22, RdS.idx hr10 sl22, R1.intB hr10 (Ext.pres xr11), RdS.cells hr10, wrap_id]
      try simp -implicitDefEqProofs (disch := first | decide | assumption | omega) only [go_sem, RdS.len hdX sl22, RdS.idx hdX sl22, R1.intB hdX (Ext.pres eB), RdS.cells hdX, RdS.len hmX sl23, RdS.idx hmX sl23, RdS.cellB hmX (Ext.pres eB), RdS.cells hmX, RdS.len hdY sl22, RdS.idx hdY sl22, R1.intB hdY (Ext.pres eB), RdS.cells hdY, RdS.len hmY sl23, RdS.idx hmY sl23, RdS.cellB hmY (Ext.pres eB), RdS.cells hmY, RdS.len rf sl23, RdS.idx rf sl23, RdS.cellB rf (Ext.pres eB), RdS.cells rf, RdS.len rg sl23, RdS.idx rg sl23, RdS.cellB rg (Ext.pres eB), RdS.cells rg, RdS.len (OS.rd how8_2_0) sl36, RdS.idx (OS.rd how8_2_0) sl36, RdS.cellN (OS.rd how8_2_0), RdS.cells (OS.rd how8_2_0), BoxAt.cell hb0_0, BoxAt.cell hb0_1, RdS.len ho1_4 sl88, RdS.idx ho1_4 sl88, RdS.cellB ho1_4 (Ext.pres xr1), RdS.cells ho1_4, RdS.len hr10 sl22, RdS.idx hr10 sl22, R1.intB hr10 (Ext.pres xr11), RdS.cells hr10, wrap_id]
      refine CallA.mono (iApp_ok _ _ _ _ X Y f (0 : Int) (n : Int) ((cycP X (n : Int)).getD k default) _ ⟨_, _, rfl, (RdS.pres hdX (Ext.pres eB)), (RdS.pres hmX (Ext.pres eB))⟩ ⟨_, _, rfl, (RdS.pres hdY (Ext.pres eB)), (RdS.pres hmY (Ext.pres eB))⟩ (RdS.pres rf (Ext.pres eB)) (RdS.pres hr10 (Ext.pres xr11)) hX hY hok.cf (by omega) (by omega) hvv) ?_
      intro vw11_6_0 h11_6
      rintro ⟨zvw11_6_0, fw11_6_0, rfl, how11_6_0, hfw11_6_0, e11_6⟩
      replace how8_2_0 := OS.ext how8_2_0 e11_6
      replace hb0_0 := BoxAt.ext hb0_0 e11_6
      replace hb0_1 := BoxAt.ext hb0_1 e11_6
      have := Ext.size e11_6
      replace eB := Ext.trans eB e11_6
      replace xr1 := Ext.trans xr1 e11_6
      replace xr11 := Ext.trans xr11 e11_6
      replace cL3 := Ext.trans cL3 e11_6
      replace cL7 := Ext.trans cL7 e11_6
      rw [ha1] at how11_6_0
      have hlhow11_6_0 := OS.lt how11_6_0
      try simp (disch := decide) only [outv_some, outv_none, put_puts]
      refine plK_pres (Ext.pres e11_6) ?_
      try simp -implicitDefEqProofs (disch := first | decide | assumption | omega) only [go_sem, RdS.len hdX sl22, RdS.idx hdX sl22, R1.intB hdX (Ext.pres eB), RdS.cells hdX, RdS.len hmX sl23, RdS.idx hmX sl23, RdS.cellB hmX (Ext.pres eB), RdS.cells hmX, RdS.len hdY sl22, RdS.idx hdY sl22, R1.intB hdY (Ext.pres eB), RdS.cells hdY, RdS.len hmY sl23, RdS.idx hmY sl23, RdS.cellB hmY (Ext.pres eB), RdS.cells hmY, RdS.len rf sl23, RdS.idx rf sl23, RdS.cellB rf (Ext.pres eB), RdS.cells rf, RdS.len rg sl23, RdS.idx rg sl23, RdS.cellB rg (Ext.pres eB), RdS.cells rg, RdS.len (OS.rd how8_2_0) sl36, RdS.idx (OS.rd how8_2_0) sl36, RdS.cellN (OS.rd how8_2_0), RdS.cells (OS.rd how8_2_0), RdS.len (OS.rd how11_6_0) sl22, RdS.idx (OS.rd how11_6_0) sl22, R1.intN (OS.rd how11_6_0), RdS.cells (OS.rd how11_6_0), BoxAt.cell hb0_0, BoxAt.cell hb0_1, RdS.len ho1_4 sl88, RdS.idx ho1_4 sl88, RdS.cellB ho1_4 (Ext.pres xr1), RdS.cells ho1_4, RdS.len hr10 sl22, RdS.idx hr10 sl22, R1.intB hr10 (Ext.pres xr11), RdS.cells hr10, wrap_id]
      try simp -implicitDefEqProofs (disch := first | decide | assumption | omega) only [go_sem, RdS.len hdX sl22, RdS.idx hdX sl22, R1.intB hdX (Ext.pres eB), RdS.cells hdX, RdS.len hmX sl23, RdS.idx hmX sl23, RdS.cellB hmX (Ext.pres eB), RdS.cells hmX, RdS.len hdY sl22, RdS.idx hdY sl22, R1.intB hdY (Ext.pres eB), RdS.cells hdY, RdS.len hmY sl23, RdS.idx hmY sl23, RdS.cellB hmY (Ext.pres eB), RdS.cells hmY, RdS.len rf sl23, RdS.idx rf sl23, RdS.cellB rf (Ext.pres eB), RdS.cells rf, RdS.len rg sl23, RdS.idx rg sl23, RdS.cellB rg (Ext.pres eB), RdS.cells rg, RdS.len (OS.rd how8_2_0) sl36, RdS.idx (OS.rd how8_2_0) sl36, RdS.cellN (OS.rd how8_2_0), RdS.cells (OS.rd how8_2_0), RdS.len (OS.rd how11_6_0) sl22, RdS.idx (OS.rd how11_6_0) sl22, R1.intN (OS.rd how11_6_0), RdS.cells (OS.rd how11_6_0), BoxAt.cell hb0_0, BoxAt.cell hb0_1, RdS.len ho1_4 sl88, RdS.idx ho1_4 sl88, RdS.cellB ho1_4 (Ext.pres xr1), RdS.cells ho1_4, RdS.len hr10 sl22, RdS.idx hr10 sl22, R1.intB hr10 (Ext.pres xr11), RdS.cells hr10, wrap_id]
      refine CallA.mono (iApp_ok _ _ _ _ X Y g (0 : Int) (n : Int) ((cycP X (n : Int)).getD k default) _ ⟨_, _, rfl, (RdS.pres hdX (Ext.pres eB)), (RdS.pres hmX (Ext.pres eB))⟩ ⟨_, _, rfl, (RdS.pres hdY (Ext.pres eB)), (RdS.pres hmY (Ext.pres eB))⟩ (RdS.pres rg (Ext.pres eB)) (RdS.pres hr10 (Ext.pres xr11)) hX hY hok.cg (by omega) (by omega) hvv) ?_
      intro vw11_12_0 h11_12
      rintro ⟨zvw11_12_0, fw11_12_0, rfl, how11_12_0, hfw11_12_0, e11_12⟩
      replace how8_2_0 := OS.ext how8_2_0 e11_12
      replace how11_6_0 := OS.ext how11_6_0 e11_12
      replace hb0_0 := BoxAt.ext hb0_0 e11_12
      replace hb0_1 := BoxAt.ext hb0_1 e11_12
      have := Ext.size e11_12
      replace eB := Ext.trans eB e11_12
      replace xr1 := Ext.trans xr1 e11_12
      replace xr11 := Ext.trans xr11 e11_12
      replace cL3 := Ext.trans cL3 e11_12
      replace cL7 := Ext.trans cL7 e11_12
      rw [ha2] at how11_12_0
      have hlhow11_12_0 := OS.lt how11_12_0
      try simp (disch := decide) only [outv_some, outv_none, put_puts]
      refine plK_pres (Ext.pres e11_12) ?_
      try simp -implicitDefEqProofs (disch := first | decide | assumption | omega) only [go_sem, RdS.len hdX sl22, RdS.idx hdX sl22, R1.intB hdX (Ext.pres eB), RdS.cells hdX, RdS.len hmX sl23, RdS.idx hmX sl23, RdS.cellB hmX (Ext.pres eB), RdS.cells hmX, RdS.len hdY sl22, RdS.idx hdY sl22, R1.intB hdY (Ext.pres eB), RdS.cells hdY, RdS.len hmY sl23, RdS.idx hmY sl23, RdS.cellB hmY (Ext.pres eB), RdS.cells hmY, RdS.len rf sl23, RdS.idx rf sl23, RdS.cellB rf (Ext.pres eB), RdS.cells rf, RdS.len rg sl23, RdS.idx rg sl23, RdS.cellB rg (Ext.pres eB), RdS.cells rg, RdS.len (OS.rd how8_2_0) sl36, RdS.idx (OS.rd how8_2_0) sl36, RdS.cellN (OS.rd how8_2_0), RdS.cells (OS.rd how8_2_0), RdS.len (OS.rd how11_6_0) sl22, RdS.idx (OS.rd how11_6_0) sl22, R1.intN (OS.rd how11_6_0), RdS.cells (OS.rd how11_6_0), RdS.len (OS.rd how11_12_0) sl22, RdS.idx (OS.rd how11_12_0) sl22, R1.intN (OS.rd how11_12_0), RdS.cells (OS.rd how11_12_0), BoxAt.cell hb0_0, BoxAt.cell hb0_1, RdS.len ho1_4 sl88, RdS.idx ho1_4 sl88, RdS.cellB ho1_4 (Ext.pres xr1), RdS.cells ho1_4, RdS.len hr10 sl22, RdS.idx hr10 sl22, R1.intB hr10 (Ext.pres xr11), RdS.cells hr10, wrap_id]
      try simp -implicitDefEqProofs (disch := first | decide | assumption | omega) only [go_sem, RdS.len hdX sl22, RdS.idx hdX sl22, R1.intB hdX (Ext.pres eB), RdS.cells hdX, RdS.len hmX sl23, RdS.idx hmX sl23, RdS.cellB hmX (Ext.pres eB), RdS.cells hmX, RdS.len hdY sl22, RdS.idx hdY sl22, R1.intB hdY (Ext.pres eB), RdS.cells hdY, RdS.len hmY sl23, RdS.idx hmY sl23, RdS.cellB hmY (Ext.pres eB), RdS.cells hmY, RdS.len rf sl23, RdS.idx rf sl23, RdS.cellB rf (Ext.pres eB), RdS.cells rf, RdS.len rg sl23, RdS.idx rg sl23, RdS.cellB rg (Ext.pres eB), RdS.cells rg, RdS.len (OS.rd how8_2_0) sl36, RdS.idx (OS.rd how8_2_0) sl36, RdS.cellN (OS.rd how8_2_0), RdS.cells (OS.rd how8_2_0), RdS.len (OS.rd how11_6_0) sl22, RdS.idx (OS.rd how11_6_0) sl22, R1.intN (OS.rd how11_6_0), RdS.cells (OS.rd how11_6_0), RdS.len (OS.rd how11_12_0) sl22, RdS.idx (OS.rd how11_12_0) sl22, R1.intN (OS.rd how11_12_0), RdS.cells (OS.rd how11_12_0), BoxAt.cell hb0_0, BoxAt.cell hb0_1, RdS.len ho1_4 sl88, RdS.idx ho1_4 sl88, RdS.cellB ho1_4 (Ext.pres xr1), RdS.cells ho1_4, RdS.len hr10 sl22, RdS.idx hr10 sl22, R1.intB hr10 (Ext.pres xr11), RdS.cells hr10, wrap_id]
      refine CallA.mono (iTog_ok _ _ X.p (imgP X Y f 0 (n : Int) ((cycP X (n : Int)).getD k default)) (imgP X Y g 0 (n : Int) ((cycP X (n : Int)).getD k default)) (X.p - (1 : Int)) _ (OS.rd how11_6_0) (OS.rd how11_12_0) (by omega) hto.1 hto.2.1 hto.2.2 (by omega)) ?_
      intro vw11_15_0 h11_15
      rintro ⟨zvw11_15_0, fw11_15_0, rfl, how11_15_0, hfw11_15_0, e11_15⟩
      replace how8_2_0 := OS.ext how8_2_0 e11_15
      replace how11_6_0 := OS.ext how11_6_0 e11_15
      replace how11_12_0 := OS.ext how11_12_0 e11_15
      replace hb0_0 := BoxAt.ext hb0_0 e11_15
      replace hb0_1 := BoxAt.ext hb0_1 e11_15
      have := Ext.size e11_15
      replace eB := Ext.trans eB e11_15
      replace xr1 := Ext.trans xr1 e11_15
      replace xr11 := Ext.trans xr11 e11_15
      replace cL3 := Ext.trans cL3 e11_15
      replace cL7 := Ext.trans cL7 e11_15
      have hlhow11_15_0 := OS.lt how11_15_0
      try simp (disch := decide) only [outv_some, outv_none, put_puts]
      refine plK_pres (Ext.pres e11_15) ?_
      try simp -implicitDefEqProofs (disch := first | decide | assumption | omega) only [go_sem, RdS.len hdX sl22, RdS.idx hdX sl22, R1.intB hdX (Ext.pres eB), RdS.cells hdX, RdS.len hmX sl23, RdS.idx hmX sl23, RdS.cellB hmX (Ext.pres eB), RdS.cells hmX, RdS.len hdY sl22, RdS.idx hdY sl22, R1.intB hdY (Ext.pres eB), RdS.cells hdY, RdS.len hmY sl23, RdS.idx hmY sl23, RdS.cellB hmY (Ext.pres eB), RdS.cells hmY, RdS.len rf sl23, RdS.idx rf sl23, RdS.cellB rf (Ext.pres eB), RdS.cells rf, RdS.len rg sl23, RdS.idx rg sl23, RdS.cellB rg (Ext.pres eB), RdS.cells rg, RdS.len (OS.rd how8_2_0) sl36, RdS.idx (OS.rd how8_2_0) sl36, RdS.cellN (OS.rd how8_2_0), RdS.cells (OS.rd how8_2_0), RdS.len (OS.rd how11_6_0) sl22, RdS.idx (OS.rd how11_6_0) sl22, R1.intN (OS.rd how11_6_0), RdS.cells (OS.rd how11_6_0), RdS.len (OS.rd how11_12_0) sl22, RdS.idx (OS.rd how11_12_0) sl22, R1.intN (OS.rd how11_12_0), RdS.cells (OS.rd how11_12_0), RdS.len (OS.rd how11_15_0) sl22, RdS.idx (OS.rd how11_15_0) sl22, R1.intN (OS.rd how11_15_0), RdS.cells (OS.rd how11_15_0), BoxAt.cell hb0_0, BoxAt.cell hb0_1, RdS.len ho1_4 sl88, RdS.idx ho1_4 sl88, RdS.cellB ho1_4 (Ext.pres xr1), RdS.cells ho1_4, RdS.len hr10 sl22, RdS.idx hr10 sl22, R1.intB hr10 (Ext.pres xr11), RdS.cells hr10, wrap_id]
      refine hK _ _ ?_
      clear hK K
      refine den_seq ?_
      obtain ⟨lb, hrB⟩ := bnd_rr hY (n := (n : Int)) (by omega)
      rw [← hok.p] at hrB
      have hP := hX.p
      have hrr := hrB
      have hrv : (addRow X.p (X.p - 1) (imgP X Y f 0 (n : Int) ((cycP X (n : Int)).getD k default)) (imgP X Y g 0 (n : Int) ((cycP X (n : Int)).getD k default))).length = (dimP Y (n : Int)).toNat ∧ (dimP Y (n : Int)).toNat ≤ 1000 := by rw [addRow_len]; obtain ⟨l1, _⟩ := hbl; omega
      have hrb : Bnd X.p (addRow X.p (X.p - 1) (imgP X Y f 0 (n : Int) ((cycP X (n : Int)).getD k default)) (imgP X Y g 0 (n : Int) ((cycP X (n : Int)).getD k default))) := addRow_bnd hpb.1 _ _
      refine den_region TTok ?_
      intro K hK
      simp -implicitDefEqProofs (disch := first | decide | assumption | omega) only [go_sem, ld30, RdS.len hdX sl22, RdS.idx hdX sl22, R1.intB hdX (Ext.pres eB), RdS.cells hdX, RdS.len hmX sl23, RdS.idx hmX sl23, RdS.cellB hmX (Ext.pres eB), RdS.cells hmX, RdS.len hdY sl22, RdS.idx hdY sl22, R1.intB hdY (Ext.pres eB), RdS.cells hdY, RdS.len hmY sl23, RdS.idx hmY sl23, RdS.cellB hmY (Ext.pres eB), RdS.cells hmY, RdS.len rf sl23, RdS.idx rf sl23, RdS.cellB rf (Ext.pres eB), RdS.cells rf, RdS.len rg sl23, RdS.idx rg sl23, RdS.cellB rg (Ext.pres eB), RdS.cells rg, RdS.len (OS.rd how8_2_0) sl36, RdS.idx (OS.rd how8_2_0) sl36, RdS.cellN (OS.rd how8_2_0), RdS.cells (OS.rd how8_2_0), RdS.len (OS.rd how11_15_0) sl22, RdS.idx (OS.rd how11_15_0) sl22, R1.intN (OS.rd how11_15_0), RdS.cells (OS.rd how11_15_0), BoxAt.cell hb0_0, BoxAt.cell hb0_1, RdS.len ho1_4 sl88, RdS.idx ho1_4 sl88, RdS.cellB ho1_4 (Ext.pres xr1), RdS.cells ho1_4, RdS.len hr10 sl22, RdS.idx hr10 sl22, R1.intB hr10 (Ext.pres xr11), RdS.cells hr10, wrap_id]
      try simp -implicitDefEqProofs (disch := first | decide | assumption | omega) only [go_sem, RdS.len hdX sl22, RdS.idx hdX sl22, R1.intB hdX (Ext.pres eB), RdS.cells hdX, RdS.len hmX sl23, RdS.idx hmX sl23, RdS.cellB hmX (Ext.pres eB), RdS.cells hmX, RdS.len hdY sl22, RdS.idx hdY sl22, R1.intB hdY (Ext.pres eB), RdS.cells hdY, RdS.len hmY sl23, RdS.idx hmY sl23, RdS.cellB hmY (Ext.pres eB), RdS.cells hmY, RdS.len rf sl23, RdS.idx rf sl23, RdS.cellB rf (Ext.pres eB), RdS.cells rf, RdS.len rg sl23, RdS.idx rg sl23, RdS.cellB rg (Ext.pres eB), RdS.cells rg, RdS.len (OS.rd how8_2_0) sl36, RdS.idx (OS.rd how8_2_0) sl36, RdS.cellN (OS.rd how8_2_0), RdS.cells (OS.rd how8_2_0), RdS.len (OS.rd how11_15_0) sl22, RdS.idx (OS.rd how11_15_0) sl22, R1.intN (OS.rd how11_15_0), RdS.cells (OS.rd how11_15_0), BoxAt.cell hb0_0, BoxAt.cell hb0_1, RdS.len ho1_4 sl88, RdS.idx ho1_4 sl88, RdS.cellB ho1_4 (Ext.pres xr1), RdS.cells ho1_4, RdS.len hr10 sl22, RdS.idx hr10 sl22, R1.intB hr10 (Ext.pres xr11), RdS.cells hr10, wrap_id]
      refine CallA.mono (iBnd_ok _ Y (n : Int) _ ⟨_, _, rfl, (RdS.pres hdY (Ext.pres eB)), (RdS.pres hmY (Ext.pres eB))⟩ hY (by omega)) ?_
      intro vw12_4_0 h12_4
      rintro ⟨zvw12_4_0, fw12_4_0, rfl, how12_4_0, hfw12_4_0, e12_4⟩
      replace how8_2_0 := OS.ext how8_2_0 e12_4
      replace how11_15_0 := OS.ext how11_15_0 e12_4
      replace hb0_0 := BoxAt.ext hb0_0 e12_4
      replace hb0_1 := BoxAt.ext hb0_1 e12_4
      have := Ext.size e12_4
      replace eB := Ext.trans eB e12_4
      replace xr1 := Ext.trans xr1 e12_4
      replace xr11 := Ext.trans xr11 e12_4
      replace cL3 := Ext.trans cL3 e12_4
      replace cL7 := Ext.trans cL7 e12_4
      have hlhow12_4_0 := OS.lt how12_4_0
      try simp -implicitDefEqProofs (disch := first | decide | assumption | omega) only [go_sem, RdS.len hdX sl22, RdS.idx hdX sl22, R1.intB hdX (Ext.pres eB), RdS.cells hdX, RdS.len hmX sl23, RdS.idx hmX sl23, RdS.cellB hmX (Ext.pres eB), RdS.cells hmX, RdS.len hdY sl22, RdS.idx hdY sl22, R1.intB hdY (Ext.pres eB), RdS.cells hdY, RdS.len hmY sl23, RdS.idx hmY sl23, RdS.cellB hmY (Ext.pres eB), RdS.cells hmY, RdS.len rf sl23, RdS.idx rf sl23, RdS.cellB rf (Ext.pres eB), RdS.cells rf, RdS.len rg sl23, RdS.idx rg sl23, RdS.cellB rg (Ext.pres eB), RdS.cells rg, RdS.len (OS.rd how8_2_0) sl36, RdS.idx (OS.rd how8_2_0) sl36, RdS.cellN (OS.rd how8_2_0), RdS.cells (OS.rd how8_2_0), RdS.len (OS.rd how11_15_0) sl22, RdS.idx (OS.rd how11_15_0) sl22, R1.intN (OS.rd how11_15_0), RdS.cells (OS.rd how11_15_0), RdS.len (OS.rd how12_4_0) sl36, RdS.idx (OS.rd how12_4_0) sl36, RdS.cellN (OS.rd how12_4_0), RdS.cells (OS.rd how12_4_0), BoxAt.cell hb0_0, BoxAt.cell hb0_1, RdS.len ho1_4 sl88, RdS.idx ho1_4 sl88, RdS.cellB ho1_4 (Ext.pres xr1), RdS.cells ho1_4, RdS.len hr10 sl22, RdS.idx hr10 sl22, R1.intB hr10 (Ext.pres xr11), RdS.cells hr10, wrap_id]
      try simp -implicitDefEqProofs (disch := first | decide | assumption | omega) only [go_sem, RdS.len hdX sl22, RdS.idx hdX sl22, R1.intB hdX (Ext.pres eB), RdS.cells hdX, RdS.len hmX sl23, RdS.idx hmX sl23, RdS.cellB hmX (Ext.pres eB), RdS.cells hmX, RdS.len hdY sl22, RdS.idx hdY sl22, R1.intB hdY (Ext.pres eB), RdS.cells hdY, RdS.len hmY sl23, RdS.idx hmY sl23, RdS.cellB hmY (Ext.pres eB), RdS.cells hmY, RdS.len rf sl23, RdS.idx rf sl23, RdS.cellB rf (Ext.pres eB), RdS.cells rf, RdS.len rg sl23, RdS.idx rg sl23, RdS.cellB rg (Ext.pres eB), RdS.cells rg, RdS.len (OS.rd how8_2_0) sl36, RdS.idx (OS.rd how8_2_0) sl36, RdS.cellN (OS.rd how8_2_0), RdS.cells (OS.rd how8_2_0), RdS.len (OS.rd how11_15_0) sl22, RdS.idx (OS.rd how11_15_0) sl22, R1.intN (OS.rd how11_15_0), RdS.cells (OS.rd how11_15_0), RdS.len (OS.rd how12_4_0) sl36, RdS.idx (OS.rd how12_4_0) sl36, RdS.cellN (OS.rd how12_4_0), RdS.cells (OS.rd how12_4_0), BoxAt.cell hb0_0, BoxAt.cell hb0_1, RdS.len ho1_4 sl88, RdS.idx ho1_4 sl88, RdS.cellB ho1_4 (Ext.pres xr1), RdS.cells ho1_4, RdS.len hr10 sl22, RdS.idx hr10 sl22, R1.intB hr10 (Ext.pres xr11), RdS.cells hr10, wrap_id]
      refine CallA.mono (iModulo_ok _ _ X.p (addRow X.p (X.p - (1 : Int)) (imgP X Y f 0 (n : Int) ((cycP X (n : Int)).getD k default)) (imgP X Y g 0 (n : Int) ((cycP X (n : Int)).getD k default))) (bndP Y (n : Int)) _ (OS.rd how11_15_0) (OS.rd how12_4_0) hP hrr hrv hrb) ?_
      intro vw12_5_0 h12_5
      rintro ⟨zvw12_5_0, fw12_5_0, rfl, how12_5_0, hfw12_5_0, e12_5⟩
      replace how8_2_0 := OS.ext how8_2_0 e12_5
      replace how11_15_0 := OS.ext how11_15_0 e12_5
      replace how12_4_0 := OS.ext how12_4_0 e12_5
      replace hb0_0 := BoxAt.ext hb0_0 e12_5
      replace hb0_1 := BoxAt.ext hb0_1 e12_5
      have := Ext.size e12_5
      replace eB := Ext.trans eB e12_5
      replace xr1 := Ext.trans xr1 e12_5
      replace xr11 := Ext.trans xr11 e12_5
      replace cL3 := Ext.trans cL3 e12_5
      replace cL7 := Ext.trans cL7 e12_5
      have hlhow12_5_0 := OS.lt how12_5_0
      try simp -implicitDefEqProofs (disch := first | decide | assumption | omega) only [go_sem, RdS.len hdX sl22, RdS.idx hdX sl22, R1.intB hdX (Ext.pres eB), RdS.cells hdX, RdS.len hmX sl23, RdS.idx hmX sl23, RdS.cellB hmX (Ext.pres eB), RdS.cells hmX, RdS.len hdY sl22, RdS.idx hdY sl22, R1.intB hdY (Ext.pres eB), RdS.cells hdY, RdS.len hmY sl23, RdS.idx hmY sl23, RdS.cellB hmY (Ext.pres eB), RdS.cells hmY, RdS.len rf sl23, RdS.idx rf sl23, RdS.cellB rf (Ext.pres eB), RdS.cells rf, RdS.len rg sl23, RdS.idx rg sl23, RdS.cellB rg (Ext.pres eB), RdS.cells rg, RdS.len (OS.rd how8_2_0) sl36, RdS.idx (OS.rd how8_2_0) sl36, RdS.cellN (OS.rd how8_2_0), RdS.cells (OS.rd how8_2_0), RdS.len (OS.rd how11_15_0) sl22, RdS.idx (OS.rd how11_15_0) sl22, R1.intN (OS.rd how11_15_0), RdS.cells (OS.rd how11_15_0), RdS.len (OS.rd how12_4_0) sl36, RdS.idx (OS.rd how12_4_0) sl36, RdS.cellN (OS.rd how12_4_0), RdS.cells (OS.rd how12_4_0), RdS.len (OS.rd how12_5_0) sl22, RdS.idx (OS.rd how12_5_0) sl22, R1.intN (OS.rd how12_5_0), RdS.cells (OS.rd how12_5_0), BoxAt.cell hb0_0, BoxAt.cell hb0_1, RdS.len ho1_4 sl88, RdS.idx ho1_4 sl88, RdS.cellB ho1_4 (Ext.pres xr1), RdS.cells ho1_4, RdS.len hr10 sl22, RdS.idx hr10 sl22, R1.intB hr10 (Ext.pres xr11), RdS.cells hr10, wrap_id]
      try simp -implicitDefEqProofs (disch := first | decide | assumption | omega) only [go_sem, RdS.len hdX sl22, RdS.idx hdX sl22, R1.intB hdX (Ext.pres eB), RdS.cells hdX, RdS.len hmX sl23, RdS.idx hmX sl23, RdS.cellB hmX (Ext.pres eB), RdS.cells hmX, RdS.len hdY sl22, RdS.idx hdY sl22, R1.intB hdY (Ext.pres eB), RdS.cells hdY, RdS.len hmY sl23, RdS.idx hmY sl23, RdS.cellB hmY (Ext.pres eB), RdS.cells hmY, RdS.len rf sl23, RdS.idx rf sl23, RdS.cellB rf (Ext.pres eB), RdS.cells rf, RdS.len rg sl23, RdS.idx rg sl23, RdS.cellB rg (Ext.pres eB), RdS.cells rg, RdS.len (OS.rd how8_2_0) sl36, RdS.idx (OS.rd how8_2_0) sl36, RdS.cellN (OS.rd how8_2_0), RdS.cells (OS.rd how8_2_0), RdS.len (OS.rd how11_15_0) sl22, RdS.idx (OS.rd how11_15_0) sl22, R1.intN (OS.rd how11_15_0), RdS.cells (OS.rd how11_15_0), RdS.len (OS.rd how12_4_0) sl36, RdS.idx (OS.rd how12_4_0) sl36, RdS.cellN (OS.rd how12_4_0), RdS.cells (OS.rd how12_4_0), RdS.len (OS.rd how12_5_0) sl22, RdS.idx (OS.rd how12_5_0) sl22, R1.intN (OS.rd how12_5_0), RdS.cells (OS.rd how12_5_0), BoxAt.cell hb0_0, BoxAt.cell hb0_1, RdS.len ho1_4 sl88, RdS.idx ho1_4 sl88, RdS.cellB ho1_4 (Ext.pres xr1), RdS.cells ho1_4, RdS.len hr10 sl22, RdS.idx hr10 sl22, R1.intB hr10 (Ext.pres xr11), RdS.cells hr10, wrap_id]
      refine CallA.mono (isZero_ok _ _ _ (OS.rd how12_5_0)) ?_
      intro v_ h12_6
      rintro ⟨rfl, e12_6⟩
      replace how8_2_0 := OS.ext how8_2_0 e12_6
      replace how11_15_0 := OS.ext how11_15_0 e12_6
      replace how12_4_0 := OS.ext how12_4_0 e12_6
      replace how12_5_0 := OS.ext how12_5_0 e12_6
      replace hb0_0 := BoxAt.ext hb0_0 e12_6
      replace hb0_1 := BoxAt.ext hb0_1 e12_6
      have := Ext.size e12_6
      replace eB := Ext.trans eB e12_6
      replace xr1 := Ext.trans xr1 e12_6
      replace xr11 := Ext.trans xr11 e12_6
      replace cL3 := Ext.trans cL3 e12_6
      replace cL7 := Ext.trans cL7 e12_6
      try simp -implicitDefEqProofs (disch := first | decide | assumption | omega) only [go_sem, RdS.len hdX sl22, RdS.idx hdX sl22, R1.intB hdX (Ext.pres eB), RdS.cells hdX, RdS.len hmX sl23, RdS.idx hmX sl23, RdS.cellB hmX (Ext.pres eB), RdS.cells hmX, RdS.len hdY sl22, RdS.idx hdY sl22, R1.intB hdY (Ext.pres eB), RdS.cells hdY, RdS.len hmY sl23, RdS.idx hmY sl23, RdS.cellB hmY (Ext.pres eB), RdS.cells hmY, RdS.len rf sl23, RdS.idx rf sl23, RdS.cellB rf (Ext.pres eB), RdS.cells rf, RdS.len rg sl23, RdS.idx rg sl23, RdS.cellB rg (Ext.pres eB), RdS.cells rg, RdS.len (OS.rd how8_2_0) sl36, RdS.idx (OS.rd how8_2_0) sl36, RdS.cellN (OS.rd how8_2_0), RdS.cells (OS.rd how8_2_0), RdS.len (OS.rd how11_15_0) sl22, RdS.idx (OS.rd how11_15_0) sl22, R1.intN (OS.rd how11_15_0), RdS.cells (OS.rd how11_15_0), RdS.len (OS.rd how12_4_0) sl36, RdS.idx (OS.rd how12_4_0) sl36, RdS.cellN (OS.rd how12_4_0), RdS.cells (OS.rd how12_4_0), RdS.len (OS.rd how12_5_0) sl22, RdS.idx (OS.rd how12_5_0) sl22, R1.intN (OS.rd how12_5_0), RdS.cells (OS.rd how12_5_0), BoxAt.cell hb0_0, BoxAt.cell hb0_1, RdS.len ho1_4 sl88, RdS.idx ho1_4 sl88, RdS.cellB ho1_4 (Ext.pres xr1), RdS.cells ho1_4, RdS.len hr10 sl22, RdS.idx hr10 sl22, R1.intB hr10 (Ext.pres xr11), RdS.cells hr10, wrap_id]
      refine hK _ _ ?_
      clear hK K
      refine den_cond rfl (fun c3 => ?_) (fun c3 => ?_)
      ·try simp only [decide_eq_true_eq, decide_eq_false_iff_not, beq_iff_eq, beq_eq_false_iff_ne, bne_iff_ne, ne_eq, Bool.not_eq_true', Bool.not_eq_false', Bool.and_eq_true, Bool.or_eq_true, bne_eq_false_iff_eq] at c3
       refine den_seq ?_
       refine den_region TTok ?_
       intro K hK
       simp -implicitDefEqProofs (disch := first | decide | assumption | omega) only [go_sem, RdS.len hdX sl22, RdS.idx hdX sl22, R1.intB hdX (Ext.pres eB), RdS.cells hdX, RdS.len hmX sl23, RdS.idx hmX sl23, RdS.cellB hmX (Ext.pres eB), RdS.cells hmX, RdS.len hdY sl22, RdS.idx hdY sl22, R1.intB hdY (Ext.pres eB), RdS.cells hdY, RdS.len hmY sl23, RdS.idx hmY sl23, RdS.cellB hmY (Ext.pres eB), RdS.cells hmY, RdS.len rf sl23, RdS.idx rf sl23, RdS.cellB rf (Ext.pres eB), RdS.cells rf, RdS.len rg sl23, RdS.idx rg sl23, RdS.cellB rg (Ext.pres eB), RdS.cells rg, RdS.len ho1_4 sl88, RdS.idx ho1_4 sl88, RdS.cellB ho1_4 (Ext.pres xr1), RdS.cells ho1_4, RdS.len hr10 sl22, RdS.idx hr10 sl22, R1.intB hr10 (Ext.pres xr11), RdS.cells hr10, wrap_id]
       refine hK _ _ ?_
       clear hK K
       refine den_ret ?_
       simp (disch := decide) only [resP_2, puts_same, puts_ne]
       have hz : arR X Y f g = (false, 0) := by rw [arR, if_pos c0, pdec_f.2 (fun hH => by
         have h1 := hH n (by omega) _ (getD_mem (show k < (cycP X (n : Int)).length by omega))
         have h2 := zero_any.2 h1
         simp only [Bool.not_eq_true'] at h2
         have h3 := c3
         rw [h2] at h3
         cases h3)]
       rw [hz]
       exact ⟨by first | rfl | trivial, eB⟩
      ·try simp only [decide_eq_true_eq, decide_eq_false_iff_not, beq_iff_eq, beq_eq_false_iff_ne, bne_iff_ne, ne_eq, Bool.not_eq_true', Bool.not_eq_false', Bool.and_eq_true, Bool.or_eq_true, bne_eq_false_iff_eq] at c3
       refine den_skip ?_
       refine den_blk ?_
       refine den_region TTok ?_
       intro K hK
       simp -implicitDefEqProofs (disch := first | decide | assumption | omega) only [go_sem, RdS.len hdX sl22, RdS.idx hdX sl22, R1.intB hdX (Ext.pres eB), RdS.cells hdX, RdS.len hmX sl23, RdS.idx hmX sl23, RdS.cellB hmX (Ext.pres eB), RdS.cells hmX, RdS.len hdY sl22, RdS.idx hdY sl22, R1.intB hdY (Ext.pres eB), RdS.cells hdY, RdS.len hmY sl23, RdS.idx hmY sl23, RdS.cellB hmY (Ext.pres eB), RdS.cells hmY, RdS.len rf sl23, RdS.idx rf sl23, RdS.cellB rf (Ext.pres eB), RdS.cells rf, RdS.len rg sl23, RdS.idx rg sl23, RdS.cellB rg (Ext.pres eB), RdS.cells rg, RdS.len (OS.rd how8_2_0) sl36, RdS.idx (OS.rd how8_2_0) sl36, RdS.cellN (OS.rd how8_2_0), RdS.cells (OS.rd how8_2_0), BoxAt.cell hb0_0, BoxAt.cell hb0_1, RdS.len ho1_4 sl88, RdS.idx ho1_4 sl88, RdS.cellB ho1_4 (Ext.pres xr1), RdS.cells ho1_4, RdS.len hr10 sl22, RdS.idx hr10 sl22, R1.intB hr10 (Ext.pres xr11), RdS.cells hr10, wrap_id]
       refine hK _ _ ?_
       clear hK K
       refine den_stop ?_
       exact ⟨k + 1, by simp [HasL, puts_at], ⟨by omega, (fun i hi => (Nat.lt_succ_iff_lt_or_eq.1 hi).elim (hyk i) (fun e => by
 subst e
 exact zero_any.1 (by simpa using c3))), cL7⟩, by first | omega | (dsimp only; omega)⟩
     ·try simp only [decide_eq_true_eq, decide_eq_false_iff_not, beq_iff_eq, beq_eq_false_iff_ne, bne_iff_ne, ne_eq, Bool.not_eq_true', Bool.not_eq_false', Bool.and_eq_true, Bool.or_eq_true, bne_eq_false_iff_eq] at c2
      refine den_exit ?_
      refine denX_code ?_
      refine denX_stop ?_
      refine denX_hit ?_
      refine den_blk ?_
      refine den_region TTok ?_
      intro K hK
      simp -implicitDefEqProofs (disch := first | decide | assumption | omega) only [go_sem, RdS.len hdX sl22, RdS.idx hdX sl22, R1.intB hdX (Ext.pres eB), RdS.cells hdX, RdS.len hmX sl23, RdS.idx hmX sl23, RdS.cellB hmX (Ext.pres eB), RdS.cells hmX, RdS.len hdY sl22, RdS.idx hdY sl22, R1.intB hdY (Ext.pres eB), RdS.cells hdY, RdS.len hmY sl23, RdS.idx hmY sl23, RdS.cellB hmY (Ext.pres eB), RdS.cells hmY, RdS.len rf sl23, RdS.idx rf sl23, RdS.cellB rf (Ext.pres eB), RdS.cells rf, RdS.len rg sl23, RdS.idx rg sl23, RdS.cellB rg (Ext.pres eB), RdS.cells rg, BoxAt.cell hb0_0, BoxAt.cell hb0_1, RdS.len ho1_4 sl88, RdS.idx ho1_4 sl88, RdS.cellB ho1_4 (Ext.pres xr1), RdS.cells ho1_4, wrap_id]
      refine hK _ _ ?_
      clear hK K
      refine den_stop ?_
      exact ⟨n + 1, by simp [HasL, puts_at], ⟨by omega, (fun j hj => (Nat.lt_succ_iff_lt_or_eq.1 hj).elim (hy j) (fun e => by
 subst e
 intro z hz
 obtain ⟨i, hi, rfl⟩ := List.getElem_of_mem hz
 rw [getD_elem hi]
 exact hyk i (by omega))), cL3⟩, by first | omega | (dsimp only; omega)⟩
   ·try simp only [decide_eq_true_eq, decide_eq_false_iff_not, beq_iff_eq, beq_eq_false_iff_ne, bne_iff_ne, ne_eq, Bool.not_eq_true', Bool.not_eq_false', Bool.and_eq_true, Bool.or_eq_true, bne_eq_false_iff_eq] at c1
    refine den_exit ?_
    refine denX_code ?_
    refine denX_stop ?_
    refine denX_hit ?_
    refine den_seq ?_
    refine den_region TTok ?_
    intro K hK
    simp -implicitDefEqProofs (disch := first | decide | assumption | omega) only [go_sem, RdS.len hdX sl22, RdS.idx hdX sl22, R1.intB hdX (Ext.pres eB), RdS.cells hdX, RdS.len hmX sl23, RdS.idx hmX sl23, RdS.cellB hmX (Ext.pres eB), RdS.cells hmX, RdS.len hdY sl22, RdS.idx hdY sl22, R1.intB hdY (Ext.pres eB), RdS.cells hdY, RdS.len hmY sl23, RdS.idx hmY sl23, RdS.cellB hmY (Ext.pres eB), RdS.cells hmY, RdS.len rf sl23, RdS.idx rf sl23, RdS.cellB rf (Ext.pres eB), RdS.cells rf, RdS.len rg sl23, RdS.idx rg sl23, RdS.cellB rg (Ext.pres eB), RdS.cells rg, RdS.len ho1_4 sl88, RdS.idx ho1_4 sl88, RdS.cellB ho1_4 (Ext.pres xr1), RdS.cells ho1_4, wrap_id]
    refine hK _ _ ?_
    clear hK K
    refine den_ret ?_
    simp (disch := decide) only [resP_2, puts_same, puts_ne]
    have hz : arR X Y f g = (true, 0) := by rw [arR, if_pos c0, pdec_t.2 (fun j hj => hy j (by omega))]
    rw [hz]
    exact ⟨by first | rfl | trivial, eB⟩
end Go.Proofs.Ytbplnadngahgaaa

namespace Go.Proofs.Ytbplnadngahgaaa
open Go
set_option maxRecDepth 100000 in
set_option maxHeartbeats 4000000 in
theorem exactAreHomotopic_law (vX vY vf vg : Value) (X : Cx) (Y : Cx) (f : List (List (List Int))) (g : List (List (List Int))) (h : Heap) (rX : RC h vX X) (rY : RC h vY Y) (rf : R3 h vf f) (rg : R3 h vg g)  : CallA Try.prog 3 #[vX, vY, vf, vg] h fun v' h' => v' = .bool (true) ∧ Ext h h' := by
 obtain ⟨vdX, vmX, rfl, hdX, hmX⟩ := rX
 have hledX := RdS.le hdX
 have hlemX := RdS.le hmX
 obtain ⟨vdY, vmY, rfl, hdY, hmY⟩ := rY
 have hledY := RdS.le hdY
 have hlemY := RdS.le hmY
 have hlef := RdS.le rf
 have hleg := RdS.le rg
 refine callA_intro TTok (args := [_, _, _, _]) Try.func3 (by kernel_rfl) rfl 94 rfl (by simp) [.tmp 8] rfl ?_
 simp only [idxs, Nat.reduceAdd]
 refine den_seq ?_
 refine den_region TTok ?_
 intro K hK
 simp -implicitDefEqProofs (disch := first | decide | assumption | omega) only [go_sem, wrap_id]
 refine op_box (cs := #[.int .i64 (X.p), vdX, vmX]) rfl ?_
 intro h0_0 e0_0 hb0_0 z0_0
 have := Ext.size e0_0
 have eB := e0_0
 have hfhb0_0 : Fresh h.size [h.size] := Fresh.one _
 have hlhb0_0 := one_lt (show h.size < h0_0.size by omega)
 try simp -implicitDefEqProofs (disch := first | decide | assumption | omega) only [go_sem, BoxAt.cell hb0_0, wrap_id]
 refine op_box (cs := #[.int .i64 (Y.p), vdY, vmY]) rfl ?_
 intro h0_1 e0_1 hb0_1 z0_1
 replace hb0_0 := BoxAt.ext hb0_0 e0_1
 have := Ext.size e0_1
 replace eB := Ext.trans eB e0_1
 have hfhb0_1 : Fresh h0_0.size [h0_0.size] := Fresh.one _
 have hlhb0_1 := one_lt (show h0_0.size < h0_1.size by omega)
 try simp -implicitDefEqProofs (disch := first | decide | assumption | omega) only [go_sem, BoxAt.cell hb0_0, BoxAt.cell hb0_1, wrap_id]
 refine hK _ _ ?_
 clear hK K
 refine den_seq ?_
 refine den_region TTok ?_
 intro K hK
 simp -implicitDefEqProofs (disch := first | decide | assumption | omega) only [go_sem, BoxAt.cell hb0_0, BoxAt.cell hb0_1, wrap_id]
 refine hK _ _ ?_
 clear hK K
 refine den_seq ?_
 refine den_region TTok ?_
 intro K hK
 simp -implicitDefEqProofs (disch := first | decide | assumption | omega) only [go_sem, ld25, BoxAt.cell hb0_0, BoxAt.cell hb0_1, wrap_id]
 try simp -implicitDefEqProofs (disch := first | decide | assumption | omega) only [go_sem, BoxAt.cell hb0_0, BoxAt.cell hb0_1, wrap_id]
 refine CallA.mono (szC_ok _ X _ _ ⟨_, _, rfl, (RdS.pres hdX (Ext.pres eB)), (RdS.pres hmX (Ext.pres eB))⟩ (by omega) (by omega)) ?_
 intro v_ h2_2
 rintro ⟨rfl, e2_2⟩
 replace hb0_0 := BoxAt.ext hb0_0 e2_2
 replace hb0_1 := BoxAt.ext hb0_1 e2_2
 have := Ext.size e2_2
 replace eB := Ext.trans eB e2_2
 have := szC_le X (1048576 : Int) (by omega)
 try simp -implicitDefEqProofs (disch := first | decide | assumption | omega) only [go_sem, BoxAt.cell hb0_0, BoxAt.cell hb0_1, wrap_id]
 refine hK _ _ ?_
 clear hK K
 refine den_seq ?_
 refine den_seq ?_
 refine den_region TTok ?_
 intro K hK
 simp -implicitDefEqProofs (disch := first | decide | assumption | omega) only [go_sem, BoxAt.cell hb0_0, BoxAt.cell hb0_1, wrap_id]
 refine hK _ _ ?_
 clear hK K
 refine den_cond rfl (fun c0 => ?_) (fun c0 => ?_)
 ·try simp only [decide_eq_true_eq, decide_eq_false_iff_not, beq_iff_eq, beq_eq_false_iff_ne, bne_iff_ne, ne_eq, Bool.not_eq_true', Bool.not_eq_false', Bool.and_eq_true, Bool.or_eq_true, bne_eq_false_iff_eq] at c0
  refine den_seq ?_
  refine den_region TTok ?_
  intro K hK
  simp -implicitDefEqProofs (disch := first | decide | assumption | omega) only [go_sem, wrap_id]
  refine hK _ _ ?_
  clear hK K
  refine den_ret ?_
  simp (disch := decide) only [resP_1, puts_same, puts_ne]
  exact ⟨by first | rfl | trivial, eB⟩
 ·try simp only [decide_eq_true_eq, decide_eq_false_iff_not, beq_iff_eq, beq_eq_false_iff_ne, bne_iff_ne, ne_eq, Bool.not_eq_true', Bool.not_eq_false', Bool.and_eq_true, Bool.or_eq_true, bne_eq_false_iff_eq] at c0
  have hMX := szC_ok' (by omega) (by omega) c0
  have hcnX := szC_cntA (by omega) (by omega) c0
  refine den_skip ?_
  refine den_seq ?_
  refine den_region TTok ?_
  intro K hK
  simp -implicitDefEqProofs (disch := first | decide | assumption | omega) only [go_sem, ld25, BoxAt.cell hb0_0, BoxAt.cell hb0_1, wrap_id]
  try simp -implicitDefEqProofs (disch := first | decide | assumption | omega) only [go_sem, BoxAt.cell hb0_0, BoxAt.cell hb0_1, wrap_id]
  refine CallA.mono (szC_ok _ Y _ _ ⟨_, _, rfl, (RdS.pres hdY (Ext.pres eB)), (RdS.pres hmY (Ext.pres eB))⟩ (by omega) (by omega)) ?_
  intro v_ h5_2
  rintro ⟨rfl, e5_2⟩
  replace hb0_0 := BoxAt.ext hb0_0 e5_2
  replace hb0_1 := BoxAt.ext hb0_1 e5_2
  have := Ext.size e5_2
  replace eB := Ext.trans eB e5_2
  have := szC_le Y (szC X (1048576 : Int)) (by omega)
  try simp -implicitDefEqProofs (disch := first | decide | assumption | omega) only [go_sem, BoxAt.cell hb0_0, BoxAt.cell hb0_1, wrap_id]
  refine hK _ _ ?_
  clear hK K
  refine den_seq ?_
  refine den_seq ?_
  refine den_region TTok ?_
  intro K hK
  simp -implicitDefEqProofs (disch := first | decide | assumption | omega) only [go_sem, BoxAt.cell hb0_0, BoxAt.cell hb0_1, wrap_id]
  refine hK _ _ ?_
  clear hK K
  refine den_cond rfl (fun c1 => ?_) (fun c1 => ?_)
  ·try simp only [decide_eq_true_eq, decide_eq_false_iff_not, beq_iff_eq, beq_eq_false_iff_ne, bne_iff_ne, ne_eq, Bool.not_eq_true', Bool.not_eq_false', Bool.and_eq_true, Bool.or_eq_true, bne_eq_false_iff_eq] at c1
   refine den_seq ?_
   refine den_region TTok ?_
   intro K hK
   simp -implicitDefEqProofs (disch := first | decide | assumption | omega) only [go_sem, wrap_id]
   refine hK _ _ ?_
   clear hK K
   refine den_ret ?_
   simp (disch := decide) only [resP_1, puts_same, puts_ne]
   exact ⟨by first | rfl | trivial, eB⟩
  ·try simp only [decide_eq_true_eq, decide_eq_false_iff_not, beq_iff_eq, beq_eq_false_iff_ne, bne_iff_ne, ne_eq, Bool.not_eq_true', Bool.not_eq_false', Bool.and_eq_true, Bool.or_eq_true, bne_eq_false_iff_eq] at c1
   have hMY := szC_ok' (by omega) (by omega) c1
   have hcnY := szC_cntA (by omega) (by omega) c1
   refine den_skip ?_
   refine den_seq ?_
   refine den_region TTok ?_
   intro K hK
   simp -implicitDefEqProofs (disch := first | decide | assumption | omega) only [go_sem, BoxAt.cell hb0_0, BoxAt.cell hb0_1, wrap_id]
   try simp -implicitDefEqProofs (disch := first | decide | assumption | omega) only [go_sem, BoxAt.cell hb0_0, BoxAt.cell hb0_1, wrap_id]
   refine CallA.pure (szSSS_ok _ f _ _ (RdS.pres rf (Ext.pres eB)) (by omega) (by omega)) ?_
   have := sz3_le f (szC Y (szC X (1048576 : Int))) (by omega)
   try simp -implicitDefEqProofs (disch := first | decide | assumption | omega) only [go_sem, BoxAt.cell hb0_0, BoxAt.cell hb0_1, wrap_id]
   refine hK _ _ ?_
   clear hK K
   refine den_seq ?_
   refine den_seq ?_
   refine den_region TTok ?_
   intro K hK
   simp -implicitDefEqProofs (disch := first | decide | assumption | omega) only [go_sem, BoxAt.cell hb0_0, BoxAt.cell hb0_1, wrap_id]
   refine hK _ _ ?_
   clear hK K
   refine den_cond rfl (fun c2 => ?_) (fun c2 => ?_)
   ·try simp only [decide_eq_true_eq, decide_eq_false_iff_not, beq_iff_eq, beq_eq_false_iff_ne, bne_iff_ne, ne_eq, Bool.not_eq_true', Bool.not_eq_false', Bool.and_eq_true, Bool.or_eq_true, bne_eq_false_iff_eq] at c2
    refine den_seq ?_
    refine den_region TTok ?_
    intro K hK
    simp -implicitDefEqProofs (disch := first | decide | assumption | omega) only [go_sem, wrap_id]
    refine hK _ _ ?_
    clear hK K
    refine den_ret ?_
    simp (disch := decide) only [resP_1, puts_same, puts_ne]
    exact ⟨by first | rfl | trivial, eB⟩
   ·try simp only [decide_eq_true_eq, decide_eq_false_iff_not, beq_iff_eq, beq_eq_false_iff_ne, bne_iff_ne, ne_eq, Bool.not_eq_true', Bool.not_eq_false', Bool.and_eq_true, Bool.or_eq_true, bne_eq_false_iff_eq] at c2
    have hMf := sz3_ok (by omega) (by omega) c2
    have hcnf := sz3_cntA (by omega) (by omega) c2
    refine den_skip ?_
    refine den_seq ?_
    refine den_region TTok ?_
    intro K hK
    simp -implicitDefEqProofs (disch := first | decide | assumption | omega) only [go_sem, BoxAt.cell hb0_0, BoxAt.cell hb0_1, wrap_id]
    try simp -implicitDefEqProofs (disch := first | decide | assumption | omega) only [go_sem, BoxAt.cell hb0_0, BoxAt.cell hb0_1, wrap_id]
    refine CallA.pure (szSSS_ok _ g _ _ (RdS.pres rg (Ext.pres eB)) (by omega) (by omega)) ?_
    have := sz3_le g (sz3 f (szC Y (szC X (1048576 : Int)))) (by omega)
    try simp -implicitDefEqProofs (disch := first | decide | assumption | omega) only [go_sem, BoxAt.cell hb0_0, BoxAt.cell hb0_1, wrap_id]
    refine hK _ _ ?_
    clear hK K
    refine den_seq ?_
    refine den_seq ?_
    refine den_region TTok ?_
    intro K hK
    simp -implicitDefEqProofs (disch := first | decide | assumption | omega) only [go_sem, BoxAt.cell hb0_0, BoxAt.cell hb0_1, wrap_id]
    refine hK _ _ ?_
    clear hK K
    refine den_cond rfl (fun c3 => ?_) (fun c3 => ?_)
    ·try simp only [decide_eq_true_eq, decide_eq_false_iff_not, beq_iff_eq, beq_eq_false_iff_ne, bne_iff_ne, ne_eq, Bool.not_eq_true', Bool.not_eq_false', Bool.and_eq_true, Bool.or_eq_true, bne_eq_false_iff_eq] at c3
     refine den_seq ?_
     refine den_region TTok ?_
     intro K hK
     simp -implicitDefEqProofs (disch := first | decide | assumption | omega) only [go_sem, wrap_id]
     refine hK _ _ ?_
     clear hK K
     refine den_ret ?_
     simp (disch := decide) only [resP_1, puts_same, puts_ne]
     exact ⟨by first | rfl | trivial, eB⟩
    ·try simp only [decide_eq_true_eq, decide_eq_false_iff_not, beq_iff_eq, beq_eq_false_iff_ne, bne_iff_ne, ne_eq, Bool.not_eq_true', Bool.not_eq_false', Bool.and_eq_true, Bool.or_eq_true, bne_eq_false_iff_eq] at c3
     have hMg := sz3_ok (by omega) (by omega) c3
     have hcng := sz3_cntA (by omega) (by omega) c3
     refine den_skip ?_
     refine den_seq ?_
     refine den_draw TTok mixed [] [(0, true), (2, true), (4, true), (6, true), (1, false), (3, false), (5, false), (7, false), (8, false), (9, true), (10, true), (11, true), (12, true), (13, true)] (by kernel_rfl) ?_
     intro K hK
     simp -implicitDefEqProofs (disch := first | decide | assumption | omega) only [go_sem, ld25, BoxAt.cell hb0_0, BoxAt.cell hb0_1, wrap_id]
     try simp -implicitDefEqProofs (disch := first | decide | assumption | omega) only [go_sem, BoxAt.cell hb0_0, BoxAt.cell hb0_1, wrap_id]
     refine CallA.mono (toC_ok _ X _ ⟨_, _, rfl, (RdS.pres hdX (Ext.pres eB)), (RdS.pres hmX (Ext.pres eB))⟩ hMX) ?_
     intro v_ h14_1
     rintro ⟨vd14_1, vm14_1, fd14_1, fm14_1, rfl, hod14_1, hom14_1, hf14_1, e14_1⟩
     replace hb0_0 := BoxAt.ext hb0_0 e14_1
     replace hb0_1 := BoxAt.ext hb0_1 e14_1
     have := Ext.size e14_1
     replace eB := Ext.trans eB e14_1
     have hfd14_1 := hf14_1.left
     have hfm14_1 := hf14_1.right
     have hlhod14_1 := OS.lt hod14_1
     have hlhom14_1 := OS.lt hom14_1
     have ap1 : Apart fd14_1 fm14_1 := apart_nodup hf14_1
     try simp (disch := decide) only [outv_some, outv_none, put_puts]
     refine plK_pres (Ext.pres e14_1) ?_
     try simp -implicitDefEqProofs (disch := first | decide | assumption | omega) only [go_sem, BoxAt.cell hb0_0, BoxAt.cell hb0_1, wrap_id]
     try simp -implicitDefEqProofs (disch := first | decide | assumption | omega) only [go_sem, BoxAt.cell hb0_0, BoxAt.cell hb0_1, wrap_id]
     refine CallA.mono (toC_ok _ Y _ ⟨_, _, rfl, (RdS.pres hdY (Ext.pres eB)), (RdS.pres hmY (Ext.pres eB))⟩ hMY) ?_
     intro v_ h14_3
     rintro ⟨vd14_3, vm14_3, fd14_3, fm14_3, rfl, hod14_3, hom14_3, hf14_3, e14_3⟩
     replace hod14_1 := OS.ext hod14_1 e14_3
     replace hom14_1 := OS.ext hom14_1 e14_3
     replace hb0_0 := BoxAt.ext hb0_0 e14_3
     replace hb0_1 := BoxAt.ext hb0_1 e14_3
     have := Ext.size e14_3
     replace eB := Ext.trans eB e14_3
     have hfd14_3 := hf14_3.left
     have hfm14_3 := hf14_3.right
     have hlhod14_3 := OS.lt hod14_3
     have hlhom14_3 := OS.lt hom14_3
     have ap2 : Apart fd14_3 fm14_3 := apart_nodup hf14_3
     try simp (disch := decide) only [outv_some, outv_none, put_puts]
     refine plK_pres (Ext.pres e14_3) ?_
     try simp -implicitDefEqProofs (disch := first | decide | assumption | omega) only [go_sem, BoxAt.cell hb0_0, BoxAt.cell hb0_1, wrap_id]
     try simp -implicitDefEqProofs (disch := first | decide | assumption | omega) only [go_sem, BoxAt.cell hb0_0, BoxAt.cell hb0_1, wrap_id]
     refine CallA.mono (toSSS_ok _ f _ (RdS.pres rf (Ext.pres eB)) hMf) ?_
     intro v14_5 h14_5
     rintro ⟨f14_5, ho14_5, hf14_5, e14_5⟩
     replace hod14_1 := OS.ext hod14_1 e14_5
     replace hom14_1 := OS.ext hom14_1 e14_5
     replace hod14_3 := OS.ext hod14_3 e14_5
     replace hom14_3 := OS.ext hom14_3 e14_5
     replace hb0_0 := BoxAt.ext hb0_0 e14_5
     replace hb0_1 := BoxAt.ext hb0_1 e14_5
     have := Ext.size e14_5
     replace eB := Ext.trans eB e14_5
     have hlho14_5 := OS.lt ho14_5
     try simp (disch := decide) only [outv_some, outv_none, put_puts]
     refine plK_pres (Ext.pres e14_5) ?_
     try simp -implicitDefEqProofs (disch := first | decide | assumption | omega) only [go_sem, BoxAt.cell hb0_0, BoxAt.cell hb0_1, wrap_id]
     try simp -implicitDefEqProofs (disch := first | decide | assumption | omega) only [go_sem, BoxAt.cell hb0_0, BoxAt.cell hb0_1, wrap_id]
     refine CallA.mono (toSSS_ok _ g _ (RdS.pres rg (Ext.pres eB)) hMg) ?_
     intro v14_7 h14_7
     rintro ⟨f14_7, ho14_7, hf14_7, e14_7⟩
     replace hod14_1 := OS.ext hod14_1 e14_7
     replace hom14_1 := OS.ext hom14_1 e14_7
     replace hod14_3 := OS.ext hod14_3 e14_7
     replace hom14_3 := OS.ext hom14_3 e14_7
     replace ho14_5 := OS.ext ho14_5 e14_7
     replace hb0_0 := BoxAt.ext hb0_0 e14_7
     replace hb0_1 := BoxAt.ext hb0_1 e14_7
     have := Ext.size e14_7
     replace eB := Ext.trans eB e14_7
     have hlho14_7 := OS.lt ho14_7
     try simp (disch := decide) only [outv_some, outv_none, put_puts]
     refine plK_pres (Ext.pres e14_7) ?_
     try simp -implicitDefEqProofs (disch := first | decide | assumption | omega) only [go_sem, BoxAt.cell hb0_0, BoxAt.cell hb0_1, wrap_id]
     try simp -implicitDefEqProofs (disch := first | decide | assumption | omega) only [go_sem, BoxAt.cell hb0_0, BoxAt.cell hb0_1, wrap_id]
     refine CallA.mono (sAH_ok _ _ _ _ X Y f g _ ⟨_, _, rfl, (OS.rd hod14_1), (OS.rd hom14_1)⟩ ⟨_, _, rfl, (OS.rd hod14_3), (OS.rd hom14_3)⟩ (OS.rd ho14_5) (OS.rd ho14_7) ) ?_
     intro v_ h14_8
     rintro ⟨rfl, e14_8⟩
     replace hod14_1 := OS.ext hod14_1 e14_8
     replace hom14_1 := OS.ext hom14_1 e14_8
     replace hod14_3 := OS.ext hod14_3 e14_8
     replace hom14_3 := OS.ext hom14_3 e14_8
     replace ho14_5 := OS.ext ho14_5 e14_8
     replace ho14_7 := OS.ext ho14_7 e14_8
     replace hb0_0 := BoxAt.ext hb0_0 e14_8
     replace hb0_1 := BoxAt.ext hb0_1 e14_8
     have := Ext.size e14_8
     replace eB := Ext.trans eB e14_8
     try simp (disch := decide) only [outv_some, outv_none, put_puts]
     refine plK_pres (Ext.pres e14_8) ?_
     try simp -implicitDefEqProofs (disch := first | decide | assumption | omega) only [go_sem, BoxAt.cell hb0_0, BoxAt.cell hb0_1, wrap_id]
     refine hK _ _ ?_
     clear hK K
     refine den_seq ?_
     refine den_region TTok ?_
     intro K hK
     simp -implicitDefEqProofs (disch := first | decide | assumption | omega) only [go_sem, ld25, BoxAt.cell hb0_0, BoxAt.cell hb0_1, wrap_id]
     try simp -implicitDefEqProofs (disch := first | decide | assumption | omega) only [go_sem, BoxAt.cell hb0_0, BoxAt.cell hb0_1, wrap_id]
     refine CallA.mono (toC_ok _ X _ ⟨_, _, rfl, (RdS.pres hdX (Ext.pres eB)), (RdS.pres hmX (Ext.pres eB))⟩ hMX) ?_
     intro v_ h15_1
     rintro ⟨vd15_1, vm15_1, fd15_1, fm15_1, rfl, hod15_1, hom15_1, hf15_1, e15_1⟩
     replace hb0_0 := BoxAt.ext hb0_0 e15_1
     replace hb0_1 := BoxAt.ext hb0_1 e15_1
     have := Ext.size e15_1
     replace eB := Ext.trans eB e15_1
     have hfd15_1 := hf15_1.left
     have hfm15_1 := hf15_1.right
     have hlhod15_1 := OS.lt hod15_1
     have hlhom15_1 := OS.lt hom15_1
     have ap3 : Apart fd15_1 fm15_1 := apart_nodup hf15_1
     try simp -implicitDefEqProofs (disch := first | decide | assumption | omega) only [go_sem, BoxAt.cell hb0_0, BoxAt.cell hb0_1, wrap_id]
     refine op_alloc (cs := #[.int .i64 0, .slice none 0 0, .slice none 0 0]) (by kernel_rfl) ?_
     intro h15_2 e15_2 hb15_2 z15_2
     replace hod15_1 := OS.ext hod15_1 e15_2
     replace hom15_1 := OS.ext hom15_1 e15_2
     replace hb0_0 := BoxAt.ext hb0_0 e15_2
     replace hb0_1 := BoxAt.ext hb0_1 e15_2
     have := Ext.size e15_2
     replace eB := Ext.trans eB e15_2
     have hfhb15_2 : Fresh h15_1.size [h15_1.size] := Fresh.one _
     have hlhb15_2 := one_lt (show h15_1.size < h15_2.size by omega)
     try simp -implicitDefEqProofs (disch := first | decide | assumption | omega) only [go_sem, BoxAt.cell hb0_0, BoxAt.cell hb0_1, BoxAt.cell hb15_2, wrap_id]
     refine op_storeB (cs' := #[.int .i64 (X.p), vd15_1, vm15_1]) st30 hb15_2 rfl rfl rfl (by simp) (allOne_mem (l := [.int .i64 (X.p), vd15_1, vm15_1]) ⟨rfl, (OS.one hod15_1).1, (OS.one hom15_1).1, trivial⟩) rfl ?_
     intro h15_3 hb15_2 c15_3
     replace hod15_1 := OS.chg hod15_1 c15_3 (apart_lt hlhod15_1 hfhb15_2 (by omega))
     replace hom15_1 := OS.chg hom15_1 c15_3 (apart_lt hlhom15_1 hfhb15_2 (by omega))
     replace hb0_0 := BoxAt.chgA hb0_0 c15_3 (apart_lt hlhb0_0 hfhb15_2 (by omega))
     replace hb0_1 := BoxAt.chgA hb0_1 c15_3 (apart_lt hlhb0_1 hfhb15_2 (by omega))
     have := c15_3.size
     replace eB := Ext.then eB c15_3 (ge_of hfhb15_2 (by omega))
     try simp -implicitDefEqProofs (disch := first | decide | assumption | omega) only [go_sem, BoxAt.cell hb0_0, BoxAt.cell hb0_1, BoxAt.cell hb15_2, wrap_id]
     refine hK _ _ ?_
     clear hK K
     refine den_seq ?_
     refine den_region TTok ?_
     intro K hK
     simp -implicitDefEqProofs (disch := first | decide | assumption | omega) only [go_sem, ld25, BoxAt.cell hb0_0, BoxAt.cell hb0_1, BoxAt.cell hb15_2, wrap_id]
     try simp -implicitDefEqProofs (disch := first | decide | assumption | omega) only [go_sem, BoxAt.cell hb0_0, BoxAt.cell hb0_1, BoxAt.cell hb15_2, wrap_id]
     refine CallA.mono (toC_ok _ Y _ ⟨_, _, rfl, (RdS.pres hdY (Ext.pres eB)), (RdS.pres hmY (Ext.pres eB))⟩ hMY) ?_
     intro v_ h16_1
     rintro ⟨vd16_1, vm16_1, fd16_1, fm16_1, rfl, hod16_1, hom16_1, hf16_1, e16_1⟩
     replace hod15_1 := OS.ext hod15_1 e16_1
     replace hom15_1 := OS.ext hom15_1 e16_1
     replace hb0_0 := BoxAt.ext hb0_0 e16_1
     replace hb0_1 := BoxAt.ext hb0_1 e16_1
     replace hb15_2 := BoxAt.ext hb15_2 e16_1
     have := Ext.size e16_1
     replace eB := Ext.trans eB e16_1
     have hfd16_1 := hf16_1.left
     have hfm16_1 := hf16_1.right
     have hlhod16_1 := OS.lt hod16_1
     have hlhom16_1 := OS.lt hom16_1
     have ap4 : Apart fd16_1 fm16_1 := apart_nodup hf16_1
     try simp -implicitDefEqProofs (disch := first | decide | assumption | omega) only [go_sem, BoxAt.cell hb0_0, BoxAt.cell hb0_1, BoxAt.cell hb15_2, wrap_id]
     refine op_alloc (cs := #[.int .i64 0, .slice none 0 0, .slice none 0 0]) (by kernel_rfl) ?_
     intro h16_2 e16_2 hb16_2 z16_2
     replace hod15_1 := OS.ext hod15_1 e16_2
     replace hom15_1 := OS.ext hom15_1 e16_2
     replace hod16_1 := OS.ext hod16_1 e16_2
     replace hom16_1 := OS.ext hom16_1 e16_2
     replace hb0_0 := BoxAt.ext hb0_0 e16_2
     replace hb0_1 := BoxAt.ext hb0_1 e16_2
     replace hb15_2 := BoxAt.ext hb15_2 e16_2
     have := Ext.size e16_2
     replace eB := Ext.trans eB e16_2
     have hfhb16_2 : Fresh h16_1.size [h16_1.size] := Fresh.one _
     have hlhb16_2 := one_lt (show h16_1.size < h16_2.size by omega)
     try simp -implicitDefEqProofs (disch := first | decide | assumption | omega) only [go_sem, BoxAt.cell hb0_0, BoxAt.cell hb0_1, BoxAt.cell hb15_2, BoxAt.cell hb16_2, wrap_id]
     refine op_storeB (cs' := #[.int .i64 (Y.p), vd16_1, vm16_1]) st30 hb16_2 rfl rfl rfl (by simp) (allOne_mem (l := [.int .i64 (Y.p), vd16_1, vm16_1]) ⟨rfl, (OS.one hod16_1).1, (OS.one hom16_1).1, trivial⟩) rfl ?_
     intro h16_3 hb16_2 c16_3
     replace hod15_1 := OS.chg hod15_1 c16_3 (apart_lt hlhod15_1 hfhb16_2 (by omega))
     replace hom15_1 := OS.chg hom15_1 c16_3 (apart_lt hlhom15_1 hfhb16_2 (by omega))
     replace hod16_1 := OS.chg hod16_1 c16_3 (apart_lt hlhod16_1 hfhb16_2 (by omega))
     replace hom16_1 := OS.chg hom16_1 c16_3 (apart_lt hlhom16_1 hfhb16_2 (by omega))
     replace hb0_0 := BoxAt.chgA hb0_0 c16_3 (apart_lt hlhb0_0 hfhb16_2 (by omega))
     replace hb0_1 := BoxAt.chgA hb0_1 c16_3 (apart_lt hlhb0_1 hfhb16_2 (by omega))
     replace hb15_2 := BoxAt.chgA hb15_2 c16_3 (apart_lt hlhb15_2 hfhb16_2 (by omega))
     have := c16_3.size
     replace eB := Ext.then eB c16_3 (ge_of hfhb16_2 (by omega))
     try simp -implicitDefEqProofs (disch := first | decide | assumption | omega) only [go_sem, BoxAt.cell hb0_0, BoxAt.cell hb0_1, BoxAt.cell hb15_2, BoxAt.cell hb16_2, wrap_id]
     refine hK _ _ ?_
     clear hK K
     refine den_seq ?_
     refine den_region TTok ?_
     intro K hK
     simp -implicitDefEqProofs (disch := first | decide | assumption | omega) only [go_sem, BoxAt.cell hb0_0, BoxAt.cell hb0_1, BoxAt.cell hb15_2, BoxAt.cell hb16_2, wrap_id]
     try simp -implicitDefEqProofs (disch := first | decide | assumption | omega) only [go_sem, BoxAt.cell hb0_0, BoxAt.cell hb0_1, BoxAt.cell hb15_2, BoxAt.cell hb16_2, wrap_id]
     refine CallA.mono (toSSS_ok _ f _ (RdS.pres rf (Ext.pres eB)) hMf) ?_
     intro v17_1 h17_1
     rintro ⟨f17_1, ho17_1, hf17_1, e17_1⟩
     replace hod15_1 := OS.ext hod15_1 e17_1
     replace hom15_1 := OS.ext hom15_1 e17_1
     replace hod16_1 := OS.ext hod16_1 e17_1
     replace hom16_1 := OS.ext hom16_1 e17_1
     replace hb0_0 := BoxAt.ext hb0_0 e17_1
     replace hb0_1 := BoxAt.ext hb0_1 e17_1
     replace hb15_2 := BoxAt.ext hb15_2 e17_1
     replace hb16_2 := BoxAt.ext hb16_2 e17_1
     have := Ext.size e17_1
     replace eB := Ext.trans eB e17_1
     have hlho17_1 := OS.lt ho17_1
     try simp -implicitDefEqProofs (disch := first | decide | assumption | omega) only [go_sem, BoxAt.cell hb0_0, BoxAt.cell hb0_1, BoxAt.cell hb15_2, BoxAt.cell hb16_2, wrap_id]
     refine hK _ _ ?_
     clear hK K
     refine den_seq ?_
     refine den_region TTok ?_
     intro K hK
     simp -implicitDefEqProofs (disch := first | decide | assumption | omega) only [go_sem, BoxAt.cell hb0_0, BoxAt.cell hb0_1, BoxAt.cell hb15_2, BoxAt.cell hb16_2, wrap_id]
     try simp -implicitDefEqProofs (disch := first | decide | assumption | omega) only [go_sem, BoxAt.cell hb0_0, BoxAt.cell hb0_1, BoxAt.cell hb15_2, BoxAt.cell hb16_2, wrap_id]
     refine CallA.mono (toSSS_ok _ g _ (RdS.pres rg (Ext.pres eB)) hMg) ?_
     intro v18_1 h18_1
     rintro ⟨f18_1, ho18_1, hf18_1, e18_1⟩
     replace hod15_1 := OS.ext hod15_1 e18_1
     replace hom15_1 := OS.ext hom15_1 e18_1
     replace hod16_1 := OS.ext hod16_1 e18_1
     replace hom16_1 := OS.ext hom16_1 e18_1
     replace ho17_1 := OS.ext ho17_1 e18_1
     replace hb0_0 := BoxAt.ext hb0_0 e18_1
     replace hb0_1 := BoxAt.ext hb0_1 e18_1
     replace hb15_2 := BoxAt.ext hb15_2 e18_1
     replace hb16_2 := BoxAt.ext hb16_2 e18_1
     have := Ext.size e18_1
     replace eB := Ext.trans eB e18_1
     have hlho18_1 := OS.lt ho18_1
     try simp -implicitDefEqProofs (disch := first | decide | assumption | omega) only [go_sem, BoxAt.cell hb0_0, BoxAt.cell hb0_1, BoxAt.cell hb15_2, BoxAt.cell hb16_2, wrap_id]
     refine hK _ _ ?_
     clear hK K
     refine den_seq ?_
     refine den_region TTok ?_
     intro K hK
     simp -implicitDefEqProofs (disch := first | decide | assumption | omega) only [go_sem, ld30, BoxAt.cell hb0_0, BoxAt.cell hb0_1, BoxAt.cell hb15_2, BoxAt.cell hb16_2, wrap_id]
     try simp -implicitDefEqProofs (disch := first | decide | assumption | omega) only [go_sem, BoxAt.cell hb0_0, BoxAt.cell hb0_1, BoxAt.cell hb15_2, BoxAt.cell hb16_2, wrap_id]
     refine CallA.mono (iAH_ok _ _ _ _ X Y f g _ ⟨_, _, rfl, (OS.rd hod15_1), (OS.rd hom15_1)⟩ ⟨_, _, rfl, (OS.rd hod16_1), (OS.rd hom16_1)⟩ (OS.rd ho17_1) (OS.rd ho18_1) ) ?_
     intro v_ h19_4
     rintro ⟨rfl, e19_4⟩
     replace hod15_1 := OS.ext hod15_1 e19_4
     replace hom15_1 := OS.ext hom15_1 e19_4
     replace hod16_1 := OS.ext hod16_1 e19_4
     replace hom16_1 := OS.ext hom16_1 e19_4
     replace ho17_1 := OS.ext ho17_1 e19_4
     replace ho18_1 := OS.ext ho18_1 e19_4
     replace hb0_0 := BoxAt.ext hb0_0 e19_4
     replace hb0_1 := BoxAt.ext hb0_1 e19_4
     replace hb15_2 := BoxAt.ext hb15_2 e19_4
     replace hb16_2 := BoxAt.ext hb16_2 e19_4
     have := Ext.size e19_4
     replace eB := Ext.trans eB e19_4
     try simp -implicitDefEqProofs (disch := first | decide | assumption | omega) only [go_sem, BoxAt.cell hb0_0, BoxAt.cell hb0_1, BoxAt.cell hb15_2, BoxAt.cell hb16_2, wrap_id]
     refine hK _ _ ?_
     clear hK K
     refine den_seq ?_
     refine den_seq ?_
     refine den_mergeH [(73, .bool (((!(((arR X Y f g).1) == ((arR X Y f g).1))) || (((arR X Y f g).2) != ((arR X Y f g).2)))))] [2, 3, 4, 5, 12, 13, 14, 15] ?_ ?_
      -- a way
     ·refine den_region TTok ?_
      intro K hK
      simp -implicitDefEqProofs (disch := first | decide | assumption | (simp (disch := decide) only [slotOf_zero, slotOf_succ, Option.map_some, puts_same, puts_ne, gv_bool, gv_undef, tt, tf, ft, ff, eq_self, if_true, if_false, Bool.false_eq_true, Bool.not_true, Bool.not_false]; done) | omega) only [go_sem, BoxAt.cell hb0_0, BoxAt.cell hb0_1, BoxAt.cell hb15_2, BoxAt.cell hb16_2, wrap_id]
      refine opsP_F (by simp (disch := decide) only [slotOf_zero, slotOf_succ, Option.map_some, puts_same, puts_ne, gv_bool, gv_undef, tt, tf, ft, ff, eq_self, if_true, if_false, Bool.false_eq_true, Bool.not_true, Bool.not_false]; rfl) (fun g5 => ?_) (fun g5 => ?_)
      ·try simp -implicitDefEqProofs (disch := first | decide | assumption | (simp (disch := decide) only [slotOf_zero, slotOf_succ, Option.map_some, puts_same, puts_ne, gv_bool, gv_undef, tt, tf, ft, ff, eq_self, if_true, if_false, Bool.false_eq_true, Bool.not_true, Bool.not_false, g5]; done) | omega) only [go_sem, BoxAt.cell hb0_0, BoxAt.cell hb0_1, BoxAt.cell hb15_2, BoxAt.cell hb16_2, wrap_id, g5, eq_self, if_true, if_false, Bool.false_eq_true]
       refine hK _ _ ?_
       clear hK K
       refine den_stop ?_
       refine ⟨?_, rfl⟩
       first | (simp (disch := decide) only [go_sem, g5, eq_self, Bool.true_and, Bool.and_true, Bool.false_and, Bool.and_false, Bool.true_or, Bool.or_true, Bool.false_or, Bool.or_false, if_true, if_false, Bool.false_eq_true]; done) | simp [HasL, sel, puts_at, g5]
      ·try simp -implicitDefEqProofs (disch := first | decide | assumption | (simp (disch := decide) only [slotOf_zero, slotOf_succ, Option.map_some, puts_same, puts_ne, gv_bool, gv_undef, tt, tf, ft, ff, eq_self, if_true, if_false, Bool.false_eq_true, Bool.not_true, Bool.not_false, g5]; done) | omega) only [go_sem, BoxAt.cell hb0_0, BoxAt.cell hb0_1, BoxAt.cell hb15_2, BoxAt.cell hb16_2, wrap_id, g5, eq_self, if_true, if_false, Bool.false_eq_true]
       refine hK _ _ ?_
       clear hK K
       refine den_stop ?_
       refine ⟨?_, rfl⟩
       first | (simp (disch := decide) only [go_sem, g5, eq_self, Bool.true_and, Bool.and_true, Bool.false_and, Bool.and_false, Bool.true_or, Bool.or_true, Bool.false_or, Bool.or_false, if_true, if_false, Bool.false_eq_true]; done) | simp [HasL, sel, puts_at, g5]
     intro en6
     simp (disch := decide) only [go_sem]
     refine den_cond rfl (fun c4 => ?_) (fun c4 => ?_)
     ·try simp only [decide_eq_true_eq, decide_eq_false_iff_not, beq_iff_eq, beq_eq_false_iff_ne, bne_iff_ne, ne_eq, Bool.not_eq_true', Bool.not_eq_false', Bool.and_eq_true, Bool.or_eq_true, bne_eq_false_iff_eq] at c4
      refine den_seq ?_
      refine den_region TTok ?_
      intro K hK
      simp -implicitDefEqProofs (disch := first | decide | assumption | omega) only [go_sem, wrap_id]
      refine hK _ _ ?_
      clear hK K
      refine den_ret ?_
      simp (disch := decide) only [resP_1, puts_same, puts_ne]
      exact absurd c4 (by first | (simp; done) | (simp; omega) | omega | (simp [eqC_self]; done))
     ·try simp only [decide_eq_true_eq, decide_eq_false_iff_not, beq_iff_eq, beq_eq_false_iff_ne, bne_iff_ne, ne_eq, Bool.not_eq_true', Bool.not_eq_false', Bool.and_eq_true, Bool.or_eq_true, bne_eq_false_iff_eq] at c4
      refine den_skip ?_
      refine den_seq ?_
      refine den_seq ?_
      refine den_draw TTok mixed [] [(0, true), (1, true), (2, false), (3, false), (4, true)] (by kernel_rfl) ?_
      intro K hK
      simp -implicitDefEqProofs (disch := first | decide | assumption | omega) only [go_sem, ld30, ld25, BoxAt.cell hb0_0, BoxAt.cell hb0_1, BoxAt.cell hb15_2, BoxAt.cell hb16_2, wrap_id]
      try simp -implicitDefEqProofs (disch := first | decide | assumption | omega) only [go_sem, BoxAt.cell hb0_0, BoxAt.cell hb0_1, BoxAt.cell hb15_2, BoxAt.cell hb16_2, wrap_id]
      refine CallA.mono (toC_ok _ X _ ⟨_, _, rfl, (RdS.pres hdX (Ext.pres eB)), (RdS.pres hmX (Ext.pres eB))⟩ hMX) ?_
      intro v_ h22_2
      rintro ⟨vd22_2, vm22_2, fd22_2, fm22_2, rfl, hod22_2, hom22_2, hf22_2, e22_2⟩
      replace hod15_1 := OS.ext hod15_1 e22_2
      replace hom15_1 := OS.ext hom15_1 e22_2
      replace hod16_1 := OS.ext hod16_1 e22_2
      replace hom16_1 := OS.ext hom16_1 e22_2
      replace ho17_1 := OS.ext ho17_1 e22_2
      replace ho18_1 := OS.ext ho18_1 e22_2
      replace hb0_0 := BoxAt.ext hb0_0 e22_2
      replace hb0_1 := BoxAt.ext hb0_1 e22_2
      replace hb15_2 := BoxAt.ext hb15_2 e22_2
      replace hb16_2 := BoxAt.ext hb16_2 e22_2
      have := Ext.size e22_2
      replace eB := Ext.trans eB e22_2
      have hfd22_2 := hf22_2.left
      have hfm22_2 := hf22_2.right
      have hlhod22_2 := OS.lt hod22_2
      have hlhom22_2 := OS.lt hom22_2
      have ap9 : Apart fd22_2 fm22_2 := apart_nodup hf22_2
      try simp (disch := decide) only [outv_some, outv_none, put_puts]
      refine plK_pres (Ext.pres e22_2) ?_
      try simp -implicitDefEqProofs (disch := first | decide | assumption | omega) only [go_sem, BoxAt.cell hb0_0, BoxAt.cell hb0_1, BoxAt.cell hb15_2, BoxAt.cell hb16_2, wrap_id]
      try simp -implicitDefEqProofs (disch := first | decide | assumption | omega) only [go_sem, BoxAt.cell hb0_0, BoxAt.cell hb0_1, BoxAt.cell hb15_2, BoxAt.cell hb16_2, wrap_id]
      refine CallA.mono (eqC_same _ _ X _ ⟨_, _, rfl, (OS.rd hod15_1), (OS.rd hom15_1)⟩ ⟨_, _, rfl, (OS.rd hod22_2), (OS.rd hom22_2)⟩) ?_
      intro v_ h22_3
      rintro ⟨rfl, e22_3⟩
      replace hod15_1 := OS.ext hod15_1 e22_3
      replace hom15_1 := OS.ext hom15_1 e22_3
      replace hod16_1 := OS.ext hod16_1 e22_3
      replace hom16_1 := OS.ext hom16_1 e22_3
      replace ho17_1 := OS.ext ho17_1 e22_3
      replace ho18_1 := OS.ext ho18_1 e22_3
      replace hod22_2 := OS.ext hod22_2 e22_3
      replace hom22_2 := OS.ext hom22_2 e22_3
      replace hb0_0 := BoxAt.ext hb0_0 e22_3
      replace hb0_1 := BoxAt.ext hb0_1 e22_3
      replace hb15_2 := BoxAt.ext hb15_2 e22_3
      replace hb16_2 := BoxAt.ext hb16_2 e22_3
      have := Ext.size e22_3
      replace eB := Ext.trans eB e22_3
      try simp (disch := decide) only [outv_some, outv_none, put_puts]
      refine plK_pres (Ext.pres e22_3) ?_
      try simp -implicitDefEqProofs (disch := first | decide | assumption | omega) only [go_sem, BoxAt.cell hb0_0, BoxAt.cell hb0_1, BoxAt.cell hb15_2, BoxAt.cell hb16_2, wrap_id]
      refine hK _ _ ?_
      clear hK K
      refine den_cond rfl (fun c5 => ?_) (fun c5 => ?_)
      ·try simp only [decide_eq_true_eq, decide_eq_false_iff_not, beq_iff_eq, beq_eq_false_iff_ne, bne_iff_ne, ne_eq, Bool.not_eq_true', Bool.not_eq_false', Bool.and_eq_true, Bool.or_eq_true, bne_eq_false_iff_eq] at c5
       refine den_seq ?_
       refine den_region TTok ?_
       intro K hK
       simp -implicitDefEqProofs (disch := first | decide | assumption | omega) only [go_sem, wrap_id]
       refine hK _ _ ?_
       clear hK K
       refine den_ret ?_
       simp (disch := decide) only [resP_1, puts_same, puts_ne]
       exact absurd c5 (by first | (simp; done) | (simp; omega) | omega | (simp [eqC_self]; done))
      ·try simp only [decide_eq_true_eq, decide_eq_false_iff_not, beq_iff_eq, beq_eq_false_iff_ne, bne_iff_ne, ne_eq, Bool.not_eq_true', Bool.not_eq_false', Bool.and_eq_true, Bool.or_eq_true, bne_eq_false_iff_eq] at c5
       refine den_skip ?_
       refine den_seq ?_
       refine den_seq ?_
       refine den_draw TTok mixed [] [(0, true), (1, true), (2, false), (3, false), (4, true)] (by kernel_rfl) ?_
       intro K hK
       simp -implicitDefEqProofs (disch := first | decide | assumption | omega) only [go_sem, ld30, ld25, BoxAt.cell hb0_1, BoxAt.cell hb16_2, wrap_id]
       try simp -implicitDefEqProofs (disch := first | decide | assumption | omega) only [go_sem, BoxAt.cell hb0_1, BoxAt.cell hb16_2, wrap_id]
       refine CallA.mono (toC_ok _ Y _ ⟨_, _, rfl, (RdS.pres hdY (Ext.pres eB)), (RdS.pres hmY (Ext.pres eB))⟩ hMY) ?_
       intro v_ h24_2
       rintro ⟨vd24_2, vm24_2, fd24_2, fm24_2, rfl, hod24_2, hom24_2, hf24_2, e24_2⟩
       replace hod16_1 := OS.ext hod16_1 e24_2
       replace hom16_1 := OS.ext hom16_1 e24_2
       replace ho17_1 := OS.ext ho17_1 e24_2
       replace ho18_1 := OS.ext ho18_1 e24_2
       replace hb0_1 := BoxAt.ext hb0_1 e24_2
       replace hb16_2 := BoxAt.ext hb16_2 e24_2
       have := Ext.size e24_2
       replace eB := Ext.trans eB e24_2
       have hfd24_2 := hf24_2.left
       have hfm24_2 := hf24_2.right
       have hlhod24_2 := OS.lt hod24_2
       have hlhom24_2 := OS.lt hom24_2
       have ap10 : Apart fd24_2 fm24_2 := apart_nodup hf24_2
       try simp (disch := decide) only [outv_some, outv_none, put_puts]
       refine plK_pres (Ext.pres e24_2) ?_
       try simp -implicitDefEqProofs (disch := first | decide | assumption | omega) only [go_sem, BoxAt.cell hb0_1, BoxAt.cell hb16_2, wrap_id]
       try simp -implicitDefEqProofs (disch := first | decide | assumption | omega) only [go_sem, BoxAt.cell hb0_1, BoxAt.cell hb16_2, wrap_id]
       refine CallA.mono (eqC_same _ _ Y _ ⟨_, _, rfl, (OS.rd hod16_1), (OS.rd hom16_1)⟩ ⟨_, _, rfl, (OS.rd hod24_2), (OS.rd hom24_2)⟩) ?_
       intro v_ h24_3
       rintro ⟨rfl, e24_3⟩
       replace hod16_1 := OS.ext hod16_1 e24_3
       replace hom16_1 := OS.ext hom16_1 e24_3
       replace ho17_1 := OS.ext ho17_1 e24_3
       replace ho18_1 := OS.ext ho18_1 e24_3
       replace hod24_2 := OS.ext hod24_2 e24_3
       replace hom24_2 := OS.ext hom24_2 e24_3
       replace hb0_1 := BoxAt.ext hb0_1 e24_3
       replace hb16_2 := BoxAt.ext hb16_2 e24_3
       have := Ext.size e24_3
       replace eB := Ext.trans eB e24_3
       try simp (disch := decide) only [outv_some, outv_none, put_puts]
       refine plK_pres (Ext.pres e24_3) ?_
       try simp -implicitDefEqProofs (disch := first | decide | assumption | omega) only [go_sem, BoxAt.cell hb0_1, BoxAt.cell hb16_2, wrap_id]
       refine hK _ _ ?_
       clear hK K
       refine den_cond rfl (fun c6 => ?_) (fun c6 => ?_)
       ·try simp only [decide_eq_true_eq, decide_eq_false_iff_not, beq_iff_eq, beq_eq_false_iff_ne, bne_iff_ne, ne_eq, Bool.not_eq_true', Bool.not_eq_false', Bool.and_eq_true, Bool.or_eq_true, bne_eq_false_iff_eq] at c6
        refine den_seq ?_
        refine den_region TTok ?_
        intro K hK
        simp -implicitDefEqProofs (disch := first | decide | assumption | omega) only [go_sem, wrap_id]
        refine hK _ _ ?_
        clear hK K
        refine den_ret ?_
        simp (disch := decide) only [resP_1, puts_same, puts_ne]
        exact absurd c6 (by first | (simp; done) | (simp; omega) | omega | (simp [eqC_self]; done))
       ·try simp only [decide_eq_true_eq, decide_eq_false_iff_not, beq_iff_eq, beq_eq_false_iff_ne, bne_iff_ne, ne_eq, Bool.not_eq_true', Bool.not_eq_false', Bool.and_eq_true, Bool.or_eq_true, bne_eq_false_iff_eq] at c6
        refine den_skip ?_
        refine den_seq ?_
        refine den_seq ?_
        refine den_region TTok ?_
        intro K hK
        simp -implicitDefEqProofs (disch := first | decide | assumption | omega) only [go_sem, wrap_id]
        try simp -implicitDefEqProofs (disch := first | decide | assumption | omega) only [go_sem, wrap_id]
        refine CallA.mono (toSSS_ok _ f _ (RdS.pres rf (Ext.pres eB)) hMf) ?_
        intro v26_2 h26_2
        rintro ⟨f26_2, ho26_2, hf26_2, e26_2⟩
        replace ho17_1 := OS.ext ho17_1 e26_2
        replace ho18_1 := OS.ext ho18_1 e26_2
        have := Ext.size e26_2
        replace eB := Ext.trans eB e26_2
        have hlho26_2 := OS.lt ho26_2
        try simp -implicitDefEqProofs (disch := first | decide | assumption | omega) only [go_sem, wrap_id]
        try simp -implicitDefEqProofs (disch := first | decide | assumption | omega) only [go_sem, wrap_id]
        refine CallA.pure (eqSSS_same _ _ _ _ (OS.rd ho17_1) (OS.rd ho26_2)) ?_
        try simp -implicitDefEqProofs (disch := first | decide | assumption | omega) only [go_sem, wrap_id]
        refine hK _ _ ?_
        clear hK K
        refine den_cond rfl (fun c7 => ?_) (fun c7 => ?_)
        ·try simp only [decide_eq_true_eq, decide_eq_false_iff_not, beq_iff_eq, beq_eq_false_iff_ne, bne_iff_ne, ne_eq, Bool.not_eq_true', Bool.not_eq_false', Bool.and_eq_true, Bool.or_eq_true, bne_eq_false_iff_eq] at c7
         refine den_seq ?_
         refine den_region TTok ?_
         intro K hK
         simp -implicitDefEqProofs (disch := first | decide | assumption | omega) only [go_sem, wrap_id]
         refine hK _ _ ?_
         clear hK K
         refine den_ret ?_
         simp (disch := decide) only [resP_1, puts_same, puts_ne]
         exact absurd c7 (by first | (simp; done) | (simp; omega) | omega | (simp [eqC_self]; done))
        ·try simp only [decide_eq_true_eq, decide_eq_false_iff_not, beq_iff_eq, beq_eq_false_iff_ne, bne_iff_ne, ne_eq, Bool.not_eq_true', Bool.not_eq_false', Bool.and_eq_true, Bool.or_eq_true, bne_eq_false_iff_eq] at c7
         refine den_skip ?_
         refine den_seq ?_
         refine den_seq ?_
         refine den_region TTok ?_
         intro K hK
         simp -implicitDefEqProofs (disch := first | decide | assumption | omega) only [go_sem, wrap_id]
         try simp -implicitDefEqProofs (disch := first | decide | assumption | omega) only [go_sem, wrap_id]
         refine CallA.mono (toSSS_ok _ g _ (RdS.pres rg (Ext.pres eB)) hMg) ?_
         intro v28_2 h28_2
         rintro ⟨f28_2, ho28_2, hf28_2, e28_2⟩
         replace ho18_1 := OS.ext ho18_1 e28_2
         have := Ext.size e28_2
         replace eB := Ext.trans eB e28_2
         have hlho28_2 := OS.lt ho28_2
         try simp -implicitDefEqProofs (disch := first | decide | assumption | omega) only [go_sem, wrap_id]
         try simp -implicitDefEqProofs (disch := first | decide | assumption | omega) only [go_sem, wrap_id]
         refine CallA.pure (eqSSS_same _ _ _ _ (OS.rd ho18_1) (OS.rd ho28_2)) ?_
         try simp -implicitDefEqProofs (disch := first | decide | assumption | omega) only [go_sem, wrap_id]
         refine hK _ _ ?_
         clear hK K
         refine den_cond rfl (fun c8 => ?_) (fun c8 => ?_)
         ·try simp only [decide_eq_true_eq, decide_eq_false_iff_not, beq_iff_eq, beq_eq_false_iff_ne, bne_iff_ne, ne_eq, Bool.not_eq_true', Bool.not_eq_false', Bool.and_eq_true, Bool.or_eq_true, bne_eq_false_iff_eq] at c8
          refine den_seq ?_
          refine den_region TTok ?_
          intro K hK
          simp -implicitDefEqProofs (disch := first | decide | assumption | omega) only [go_sem, wrap_id]
          refine hK _ _ ?_
          clear hK K
          refine den_ret ?_
          simp (disch := decide) only [resP_1, puts_same, puts_ne]
          exact absurd c8 (by first | (simp; done) | (simp; omega) | omega | (simp [eqC_self]; done))
         ·try simp only [decide_eq_true_eq, decide_eq_false_iff_not, beq_iff_eq, beq_eq_false_iff_ne, bne_iff_ne, ne_eq, Bool.not_eq_true', Bool.not_eq_false', Bool.and_eq_true, Bool.or_eq_true, bne_eq_false_iff_eq] at c8
          refine den_skip ?_
          refine den_seq ?_
          refine den_region TTok ?_
          intro K hK
          simp -implicitDefEqProofs (disch := first | decide | assumption | omega) only [go_sem, wrap_id]
          refine hK _ _ ?_
          clear hK K
          refine den_ret ?_
          simp (disch := decide) only [resP_1, puts_same, puts_ne]
          exact ⟨by first | rfl | trivial, eB⟩
end Go.Proofs.Ytbplnadngahgaaa
