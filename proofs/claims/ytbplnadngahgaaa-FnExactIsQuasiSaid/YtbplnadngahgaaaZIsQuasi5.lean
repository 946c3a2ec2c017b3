/-
  What the statement FnExactIsQuasi uses of the walks, part 5.
  Conditions: each theorem's own.
-/
import Derived.Test.YtbplnadngahgaaaG16
import Derived.Test.YtbplnadngahgaaaG17
import Derived.Test.YtbplnadngahgaaaG14
import Derived.Test.YtbplnadngahgaaaG13
import Derived.Test.YtbplnadngahgaaaG15
import Derived.Test.YtbplnadngahgaaaG18
import Derived.Test.YtbplnadngahgaaaG19
import Derived.Test.YtbplnadngahgaaaZIsQuasi1
import Derived.Test.YtbplnadngahgaaaZIsQuasi2
import Derived.Test.YtbplnadngahgaaaZIsQuasi3
import Derived.Test.YtbplnadngahgaaaZIsQuasi4
set_option linter.unusedVariables false
set_option linter.unusedSimpArgs false
namespace Go.Proofs.Ytbplnadngahgaaa
open Go
/-- A row that is one's own, or one that lies in other blocks. -/
def EM (h0 : Heap) (fE : List Nat) (h : Heap) (u : Value) (x : List Int) (fp : List Nat) : Prop := O1 h u x fp ∨ ESt h0 fE h u x fp
instance {h0 : Heap} {fE : List Nat} : Own (EM h0 fE) := ⟨fun hl h => h.elim (fun a => .inl (Own.loc hl a)) .inr, (fun h => h.elim Own.lt fun a b hb => by rw [a.1] at hb; cases hb), (fun h => h.elim Own.one fun a => a.2.1)⟩
abbrev O2M (h0 : Heap) (fE : List Nat) : Heap → Value → List (List Int) → List Nat → Prop := OS 22 (EM h0 fE)
theorem O2M.nil {h0 : Heap} {fE : List Nat} {h : Heap} {v : Value} {fp : List Nat} (ho : O2 h v [] fp) : O2M h0 fE h v [] fp := by
  rcases ho with ⟨h1, _, h3⟩ | ⟨b, c, cur, fps, rfl, r⟩
  · exact .inl ⟨h1, rfl, h3⟩
  · exact .inr ⟨b, c, cur, fps, rfl, ⟨r.val, r.box, r.size, r.max, r.le, r.len, fun j hj => by simp at hj⟩⟩
theorem O2M.rd {h0 : Heap} {fE : List Nat} {h : Heap} {v : Value} {xs : List (List Int)} {fp : List Nat} (ho : O2M h0 fE h v xs fp) (hag : Agr fE h0 h) : R2 h v xs := by
  rcases ho with ⟨rfl, rfl, _⟩ | ⟨b, c, cur, fps, _, r⟩
  · exact ⟨none, 0, rfl, .inr rfl, by simp, by omega, fun j hj => by simp at hj⟩
  · refine ⟨some ⟨b, 0, none⟩, c, r.val, .inl rfl, r.le, r.max, fun j hj => ?_⟩
    obtain ⟨u, f, h1, _, h4⟩ := r.el j hj
    refine ⟨u, ?_, h4.elim (fun a => OS.rd a) fun a => a.2.2 h hag⟩
    rw [r.val]
    simp only [sA]
    rw [addr_add, r.box.cell, Nat.zero_add, h1]
theorem ES.row {h : Heap} {vE : Value} {E : List (List Int)} {fE : List Nat} (hE : O2 h vE E fE) (hn : fE.Nodup) {i : Nat} (hi : i < E.length) {H : Heap} : ESt h fE H (rowV h vE i) (E.getD i default) [] := by
  obtain ⟨f, hO, hsub, _, _⟩ := OS.elem hE hn i hi
  exact ⟨rfl, Own.one hO, fun h' hg => OS.rd (show O1 h' (rowV h vE i) (E.getD i default) f from Own.loc (fun b hb => hg b (hsub b hb)) hO)⟩
theorem getD_elem {α : Type} [Inhabited α] {xs : List α} {j : Nat} (hj : j < xs.length) : xs[j] = xs.getD j default := by
  rw [List.getD_eq_getElem?_getD, List.getElem?_eq_getElem hj]; rfl
-- ---- ranks
def imgs (X Y : Cx) (f : List (List (List Int))) (n : Int) (L : List (List Int)) : List (List Int) := L.map fun z => imgP X Y f 0 n z
noncomputable def rkL (X Y : Cx) (f : List (List (List Int))) (n : Int) : List (List Int) := bndP Y n ++ imgs X Y f n (cycP X n)
noncomputable def rkP (X Y : Cx) (f : List (List (List Int))) (n : Int) : Int := ((ech X.p (rkL X Y f n)).length : Int) - ((bndP Y n).length : Int)
theorem appP_img {X Y : Cx} {f : List (List (List Int))} {n : Int} (h0 : 0 ≤ n) (h1 : n ≤ (X.dims.length : Int) - 1) (v : List Int) : appP X Y f 0 n v = imgP X Y f 0 n v := by rw [appP, if_pos (in3_iff.2 ⟨h0, h1⟩)]
theorem cyc_vec {X : Cx} (hC : IsC X) {n : Int} (h0 : 0 ≤ n) (h1 : n ≤ (X.dims.length : Int) - 1) : ∀ z ∈ cycP X n, (z.length : Int) = X.dims.getD n.toNat 0 ∧ Bnd X.p z := fun z hz => by
  obtain ⟨l, r⟩ := cyc_rr hC n
  have := r.tbl z hz
  have hd := dimP_bnd hC n
  have e : dimP X n = X.dims.getD n.toNat 0 := by rw [dimP, if_pos (in3_iff.2 ⟨h0, h1⟩)]
  exact ⟨by omega, this.2⟩
structure RkOk (X Y : Cx) (f : List (List (List Int))) (n : Int) : Prop where
  cX : IsC X
  cY : IsC Y
  cf : IsFam X Y f 0
  p : X.p = Y.p
  n0 : 0 ≤ n
  n1 : n ≤ (X.dims.length : Int) - 1
theorem rk_tbl {X Y : Cx} {f : List (List (List Int))} {n : Int} (h : RkOk X Y f n) : ∀ r ∈ rkL X Y f n, r.length = (dimP Y n).toNat ∧ Bnd X.p r := fun r hr => by
  rcases List.mem_append.1 hr with h1 | h1
  · obtain ⟨l, rb⟩ := bnd_rr h.cY h.n0
    have := rb.tbl r h1
    exact ⟨this.1, h.p ▸ this.2⟩
  · obtain ⟨z, hz, rfl⟩ := List.mem_map.1 h1
    have hv := cyc_vec h.cX h.n0 h.n1 z hz
    have hl := img_len (s := 0) h.cY h.cf h.n0 h.n1 hv.1
    have hb := img_bnd (s := 0) h.cX h.cY h.cf h.n0 h.n1 hv.1 hv.2
    rw [Int.add_zero] at hl
    exact ⟨by omega, hb⟩
theorem rk_len {X Y : Cx} {f : List (List (List Int))} {n : Int} (h : RkOk X Y f n) : (rkL X Y f n).length ≤ 16 := by
  have := bnd_len h.cY h.n0
  have := cyc_len h.cX n
  simp only [rkL, imgs, List.length_append, List.length_map]; omega
theorem rk_ech {X Y : Cx} {f : List (List (List Int))} {n : Int} (h : RkOk X Y f n) : (ech X.p (rkL X Y f n)).length ≤ 8 := by
  have := ech_len_le h.cX.p (rk_tbl h)
  have := dimP_bnd h.cY n
  omega

set_option maxRecDepth 100000 in
theorem iRk_ok (vX vY vf : Value) (X : Cx) (Y : Cx) (f : List (List (List Int))) (n : Int) (h : Heap) (rX : RC h vX X) (rY : RC h vY Y) (rf : R3 h vf f) (hk : RkOk X Y f n) : CallA Try.prog 96 #[vX, vY, vf, .int .i64 n] h fun v' h' => v' = .int .i64 (rkP X Y f n) ∧ Ext h h' := by
  obtain ⟨vdX, vmX, rfl, hdX, hmX⟩ := rX
  have hledX := RdS.le hdX
  have hlemX := RdS.le hmX
  obtain ⟨vdY, vmY, rfl, hdY, hmY⟩ := rY
  have hledY := RdS.le hdY
  have hlemY := RdS.le hmY
  have hlef := RdS.le rf
  have hX := hk.cX
  have hY := hk.cY
  have hF := hk.cf
  have hn0 := hk.n0
  have hn1 := hk.n1
  have hlX := hX.len
  have hblen := bnd_len hY hn0
  have hclen := cyc_len hX n
  have hdy := dimP_bnd hY n
  have hrt := rk_tbl hk
  have hrl := rk_len hk
  have hre := rk_ech hk
  refine callA_intro TTok (args := [_, _, _, _]) Try.func96 (by kernel_rfl) rfl 43 rfl (by simp) [.tmp 8] rfl ?_
  simp only [idxs, Nat.reduceAdd]
  refine den_seq ?_
  refine den_region TTok ?_
  intro K hK
  simp -implicitDefEqProofs (disch := first | decide | assumption | omega) only [go_sem, RdS.len hdX sl22, RdS.idx hdX sl22, R1.intB hdX (HPres.refl _), RdS.cells hdX, RdS.len hmX sl23, RdS.idx hmX sl23, RdS.cellB hmX (HPres.refl _), RdS.cells hmX, RdS.len hdY sl22, RdS.idx hdY sl22, R1.intB hdY (HPres.refl _), RdS.cells hdY, RdS.len hmY sl23, RdS.idx hmY sl23, RdS.cellB hmY (HPres.refl _), RdS.cells hmY, RdS.len rf sl23, RdS.idx rf sl23, RdS.cellB rf (HPres.refl _), RdS.cells rf, wrap_id]
  refine op_box (cs := #[.int .i64 (X.p), vdX, vmX]) rfl ?_
  intro h0_0 e0_0 hb0_0 z0_0
  have := Ext.size e0_0
  have eB := e0_0
  have hfhb0_0 : Fresh h.size [h.size] := Fresh.one _
  have hlhb0_0 := one_lt (show h.size < h0_0.size by omega)
  try simp -implicitDefEqProofs (disch := first | decide | assumption | omega) only [go_sem, RdS.len hdX sl22, RdS.idx hdX sl22, R1.intB hdX (Ext.pres eB), RdS.cells hdX, RdS.len hmX sl23, RdS.idx hmX sl23, RdS.cellB hmX (Ext.pres eB), RdS.cells hmX, RdS.len hdY sl22, RdS.idx hdY sl22, R1.intB hdY (Ext.pres eB), RdS.cells hdY, RdS.len hmY sl23, RdS.idx hmY sl23, RdS.cellB hmY (Ext.pres eB), RdS.cells hmY, RdS.len rf sl23, RdS.idx rf sl23, RdS.cellB rf (Ext.pres eB), RdS.cells rf, BoxAt.cell hb0_0, wrap_id]
  refine op_box (cs := #[.int .i64 (Y.p), vdY, vmY]) rfl ?_
  intro h0_1 e0_1 hb0_1 z0_1
  replace hb0_0 := BoxAt.ext hb0_0 e0_1
  have := Ext.size e0_1
  replace eB := Ext.trans eB e0_1
  have hfhb0_1 : Fresh h0_0.size [h0_0.size] := Fresh.one _
  have hlhb0_1 := one_lt (show h0_0.size < h0_1.size by omega)
  try simp -implicitDefEqProofs (disch := first | decide | assumption | omega) only [go_sem, RdS.len hdX sl22, RdS.idx hdX sl22, R1.intB hdX (Ext.pres eB), RdS.cells hdX, RdS.len hmX sl23, RdS.idx hmX sl23, RdS.cellB hmX (Ext.pres eB), RdS.cells hmX, RdS.len hdY sl22, RdS.idx hdY sl22, R1.intB hdY (Ext.pres eB), RdS.cells hdY, RdS.len hmY sl23, RdS.idx hmY sl23, RdS.cellB hmY (Ext.pres eB), RdS.cells hmY, RdS.len rf sl23, RdS.idx rf sl23, RdS.cellB rf (Ext.pres eB), RdS.cells rf, BoxAt.cell hb0_0, BoxAt.cell hb0_1, wrap_id]
  refine hK _ _ ?_
  clear hK K
  refine den_seq ?_
  refine den_region TTok ?_
  intro K hK
  simp -implicitDefEqProofs (disch := first | decide | assumption | omega) only [go_sem, ld30, RdS.len hdX sl22, RdS.idx hdX sl22, R1.intB hdX (Ext.pres eB), RdS.cells hdX, RdS.len hmX sl23, RdS.idx hmX sl23, RdS.cellB hmX (Ext.pres eB), RdS.cells hmX, RdS.len hdY sl22, RdS.idx hdY sl22, R1.intB hdY (Ext.pres eB), RdS.cells hdY, RdS.len hmY sl23, RdS.idx hmY sl23, RdS.cellB hmY (Ext.pres eB), RdS.cells hmY, RdS.len rf sl23, RdS.idx rf sl23, RdS.cellB rf (Ext.pres eB), RdS.cells rf, BoxAt.cell hb0_0, BoxAt.cell hb0_1, wrap_id]
  try simp -implicitDefEqProofs (disch := first | decide | assumption | omega) only [go_sem, RdS.len hdX sl22, RdS.idx hdX sl22, R1.intB hdX (Ext.pres eB), RdS.cells hdX, RdS.len hmX sl23, RdS.idx hmX sl23, RdS.cellB hmX (Ext.pres eB), RdS.cells hmX, RdS.len hdY sl22, RdS.idx hdY sl22, R1.intB hdY (Ext.pres eB), RdS.cells hdY, RdS.len hmY sl23, RdS.idx hmY sl23, RdS.cellB hmY (Ext.pres eB), RdS.cells hmY, RdS.len rf sl23, RdS.idx rf sl23, RdS.cellB rf (Ext.pres eB), RdS.cells rf, BoxAt.cell hb0_0, BoxAt.cell hb0_1, wrap_id]
  refine CallA.mono (iBnd_ok _ Y n _ ⟨_, _, rfl, (RdS.pres hdY (Ext.pres eB)), (RdS.pres hmY (Ext.pres eB))⟩ hY (by omega)) ?_
  intro vw1_2_0 h1_2
  rintro ⟨zvw1_2_0, fw1_2_0, rfl, how1_2_0, hfw1_2_0, e1_2⟩
  replace hb0_0 := BoxAt.ext hb0_0 e1_2
  replace hb0_1 := BoxAt.ext hb0_1 e1_2
  have := Ext.size e1_2
  replace eB := Ext.trans eB e1_2
  have hlhow1_2_0 := OS.lt how1_2_0
  try simp -implicitDefEqProofs (disch := first | decide | assumption | omega) only [go_sem, RdS.len hdX sl22, RdS.idx hdX sl22, R1.intB hdX (Ext.pres eB), RdS.cells hdX, RdS.len hmX sl23, RdS.idx hmX sl23, RdS.cellB hmX (Ext.pres eB), RdS.cells hmX, RdS.len hdY sl22, RdS.idx hdY sl22, R1.intB hdY (Ext.pres eB), RdS.cells hdY, RdS.len hmY sl23, RdS.idx hmY sl23, RdS.cellB hmY (Ext.pres eB), RdS.cells hmY, RdS.len rf sl23, RdS.idx rf sl23, RdS.cellB rf (Ext.pres eB), RdS.cells rf, RdS.len (OS.rd how1_2_0) sl36, RdS.idx (OS.rd how1_2_0) sl36, RdS.cellN (OS.rd how1_2_0), RdS.cells (OS.rd how1_2_0), BoxAt.cell hb0_0, BoxAt.cell hb0_1, wrap_id]
  refine hK _ _ ?_
  clear hK K
  refine den_seq ?_
  refine den_region TTok ?_
  intro K hK
  simp -implicitDefEqProofs (disch := first | decide | assumption | omega) only [go_sem, RdS.len hdX sl22, RdS.idx hdX sl22, R1.intB hdX (Ext.pres eB), RdS.cells hdX, RdS.len hmX sl23, RdS.idx hmX sl23, RdS.cellB hmX (Ext.pres eB), RdS.cells hmX, RdS.len hdY sl22, RdS.idx hdY sl22, R1.intB hdY (Ext.pres eB), RdS.cells hdY, RdS.len hmY sl23, RdS.idx hmY sl23, RdS.cellB hmY (Ext.pres eB), RdS.cells hmY, RdS.len rf sl23, RdS.idx rf sl23, RdS.cellB rf (Ext.pres eB), RdS.cells rf, RdS.len (OS.rd how1_2_0) sl36, RdS.idx (OS.rd how1_2_0) sl36, RdS.cellN (OS.rd how1_2_0), RdS.cells (OS.rd how1_2_0), BoxAt.cell hb0_0, BoxAt.cell hb0_1, wrap_id]
  refine hK _ _ ?_
  clear hK K
  refine den_seq ?_
  refine den_seq ?_
  refine den_region TTok ?_
  intro K hK
  simp -implicitDefEqProofs (disch := first | decide | assumption | omega) only [go_sem, ld30, RdS.len hdX sl22, RdS.idx hdX sl22, R1.intB hdX (Ext.pres eB), RdS.cells hdX, RdS.len hmX sl23, RdS.idx hmX sl23, RdS.cellB hmX (Ext.pres eB), RdS.cells hmX, RdS.len hdY sl22, RdS.idx hdY sl22, R1.intB hdY (Ext.pres eB), RdS.cells hdY, RdS.len hmY sl23, RdS.idx hmY sl23, RdS.cellB hmY (Ext.pres eB), RdS.cells hmY, RdS.len rf sl23, RdS.idx rf sl23, RdS.cellB rf (Ext.pres eB), RdS.cells rf, RdS.len (OS.rd how1_2_0) sl36, RdS.idx (OS.rd how1_2_0) sl36, RdS.cellN (OS.rd how1_2_0), RdS.cells (OS.rd how1_2_0), BoxAt.cell hb0_0, BoxAt.cell hb0_1, wrap_id]
  try simp -implicitDefEqProofs (disch := first | decide | assumption | omega) only [go_sem, RdS.len hdX sl22, RdS.idx hdX sl22, R1.intB hdX (Ext.pres eB), RdS.cells hdX, RdS.len hmX sl23, RdS.idx hmX sl23, RdS.cellB hmX (Ext.pres eB), RdS.cells hmX, RdS.len hdY sl22, RdS.idx hdY sl22, R1.intB hdY (Ext.pres eB), RdS.cells hdY, RdS.len hmY sl23, RdS.idx hmY sl23, RdS.cellB hmY (Ext.pres eB), RdS.cells hmY, RdS.len rf sl23, RdS.idx rf sl23, RdS.cellB rf (Ext.pres eB), RdS.cells rf, RdS.len (OS.rd how1_2_0) sl36, RdS.idx (OS.rd how1_2_0) sl36, RdS.cellN (OS.rd how1_2_0), RdS.cells (OS.rd how1_2_0), BoxAt.cell hb0_0, BoxAt.cell hb0_1, wrap_id]
  refine CallA.mono (iCyc_ok _ X n _ ⟨_, _, rfl, (RdS.pres hdX (Ext.pres eB)), (RdS.pres hmX (Ext.pres eB))⟩ hX (by omega)) ?_
  intro vw3_2_0 h3_2
  rintro ⟨zvw3_2_0, fw3_2_0, rfl, how3_2_0, hfw3_2_0, e3_2⟩
  replace how1_2_0 := OS.ext how1_2_0 e3_2
  replace hb0_0 := BoxAt.ext hb0_0 e3_2
  replace hb0_1 := BoxAt.ext hb0_1 e3_2
  have := Ext.size e3_2
  replace eB := Ext.trans eB e3_2
  have hlhow3_2_0 := OS.lt how3_2_0
  try simp -implicitDefEqProofs (disch := first | decide | assumption | omega) only [go_sem, RdS.len hdX sl22, RdS.idx hdX sl22, R1.intB hdX (Ext.pres eB), RdS.cells hdX, RdS.len hmX sl23, RdS.idx hmX sl23, RdS.cellB hmX (Ext.pres eB), RdS.cells hmX, RdS.len hdY sl22, RdS.idx hdY sl22, R1.intB hdY (Ext.pres eB), RdS.cells hdY, RdS.len hmY sl23, RdS.idx hmY sl23, RdS.cellB hmY (Ext.pres eB), RdS.cells hmY, RdS.len rf sl23, RdS.idx rf sl23, RdS.cellB rf (Ext.pres eB), RdS.cells rf, RdS.len (OS.rd how1_2_0) sl36, RdS.idx (OS.rd how1_2_0) sl36, RdS.cellN (OS.rd how1_2_0), RdS.cells (OS.rd how1_2_0), RdS.len (OS.rd how3_2_0) sl36, RdS.idx (OS.rd how3_2_0) sl36, RdS.cellN (OS.rd how3_2_0), RdS.cells (OS.rd how3_2_0), BoxAt.cell hb0_0, BoxAt.cell hb0_1, wrap_id]
  refine hK _ _ ?_
  clear hK K
  refine den_block ?_
  refine den_sel [9, 22, 2, 3, 4, 5, 10, 20, 21] ?_
  intro env_1
  simp only [go_sem]
  refine den_loopS (σ := Nat × Value × List Nat) (fun st_ => [(9, st_.2.1), (22, .int .i64 (st_.1 : Int))]) (fun st_ H => (st_.1 ≤ (cycP X n).length) ∧ (O2 H st_.2.1 (bndP Y n ++ imgs X Y f n ((cycP X n).take st_.1)) st_.2.2) ∧ (Fresh (h0_1.size) st_.2.2) ∧ (Sub fw1_2_0 h3_2.size st_.2.2) ∧ (Chg fw1_2_0 h3_2 H)) (fun st_ => (cycP X n).length - st_.1) (0, vw1_2_0, fw1_2_0) ?_ ?_
  · exact ⟨by first | (simp; done) | (dsimp only; omega) | (simp; omega), by simpa [imgs] using how1_2_0, hfw1_2_0, Sub.refl, Chg.refl _ _⟩
  · rintro ⟨k, vhO, fphO⟩ h4 ee3 ⟨hi0, hO, hfhO, sbhO, cL2⟩
    dsimp only at hi0 hO hfhO sbhO cL2
    replace how3_2_0 := OS.chg how3_2_0 cL2 (apart_gt hfw3_2_0 hlhow1_2_0 (by omega))
    replace hb0_0 := BoxAt.chgA hb0_0 cL2 (apart_lt hlhb0_0 hfw1_2_0 (by omega))
    replace hb0_1 := BoxAt.chgA hb0_1 cL2 (apart_lt hlhb0_1 hfw1_2_0 (by omega))
    have := cL2.size
    replace eB := Ext.then eB cL2 (ge_of hfw1_2_0 (by omega))
    have ap5 : Apart fw3_2_0 fphO := Apart.sub_ hlhow3_2_0 (by omega) (apart_gt hfw3_2_0 hlhow1_2_0 (by omega)) sbhO
    have hlhO := OS.lt hO
    simp only [List.cons_append, List.nil_append]
    have hll_ : (bndP Y n ++ imgs X Y f n ((cycP X n).take k)).length = (bndP Y n).length + k := by simp only [List.length_append, imgs, List.length_map, List.length_take]; omega
    refine den_seq ?_
    refine den_region TTok ?_
    intro K hK
    simp -implicitDefEqProofs (disch := first | decide | assumption | omega) only [go_sem, RdS.len hdX sl22, RdS.idx hdX sl22, R1.intB hdX (Ext.pres eB), RdS.cells hdX, RdS.len hmX sl23, RdS.idx hmX sl23, RdS.cellB hmX (Ext.pres eB), RdS.cells hmX, RdS.len hdY sl22, RdS.idx hdY sl22, R1.intB hdY (Ext.pres eB), RdS.cells hdY, RdS.len hmY sl23, RdS.idx hmY sl23, RdS.cellB hmY (Ext.pres eB), RdS.cells hmY, RdS.len rf sl23, RdS.idx rf sl23, RdS.cellB rf (Ext.pres eB), RdS.cells rf, RdS.len (OS.rd how3_2_0) sl36, RdS.idx (OS.rd how3_2_0) sl36, RdS.cellN (OS.rd how3_2_0), RdS.cells (OS.rd how3_2_0), RdS.len (OS.rd hO) sl36, RdS.idx (OS.rd hO) sl36, RdS.cellN (OS.rd hO), RdS.cells (OS.rd hO), BoxAt.cell hb0_0, BoxAt.cell hb0_1, wrap_id]
    refine hK _ _ ?_
    clear hK K
    refine den_seq ?_
    refine den_cond rfl (fun c0 => ?_) (fun c0 => ?_)
    · try simp only [decide_eq_true_eq, decide_eq_false_iff_not, beq_iff_eq, beq_eq_false_iff_ne, bne_iff_ne, ne_eq, Bool.not_eq_true', Bool.not_eq_false', Bool.and_eq_true, Bool.or_eq_true, bne_eq_false_iff_eq] at c0
      refine den_skip ?_
      refine den_seq ?_
      refine den_block ?_
      refine den_seq ?_
      refine den_region TTok ?_
      intro K hK
      have hr6 := RdS.rowN (OS.rd how3_2_0) k (by omega)
      have hlhr6 := RdS.le hr6
      have xr7 := Ext.refl h4
      simp -implicitDefEqProofs (disch := first | decide | assumption | omega) only [go_sem, ld22, RdS.len hdX sl22, RdS.idx hdX sl22, R1.intB hdX (Ext.pres eB), RdS.cells hdX, RdS.len hmX sl23, RdS.idx hmX sl23, RdS.cellB hmX (Ext.pres eB), RdS.cells hmX, RdS.len hdY sl22, RdS.idx hdY sl22, R1.intB hdY (Ext.pres eB), RdS.cells hdY, RdS.len hmY sl23, RdS.idx hmY sl23, RdS.cellB hmY (Ext.pres eB), RdS.cells hmY, RdS.len rf sl23, RdS.idx rf sl23, RdS.cellB rf (Ext.pres eB), RdS.cells rf, RdS.len (OS.rd how3_2_0) sl36, RdS.idx (OS.rd how3_2_0) sl36, RdS.cellN (OS.rd how3_2_0), RdS.cells (OS.rd how3_2_0), RdS.len (OS.rd hO) sl36, RdS.idx (OS.rd hO) sl36, RdS.cellN (OS.rd hO), RdS.cells (OS.rd hO), BoxAt.cell hb0_0, BoxAt.cell hb0_1, RdS.len hr6 sl22, RdS.idx hr6 sl22, R1.intB hr6 (Ext.pres xr7), RdS.cells hr6, wrap_id]
      refine hK _ _ ?_
      clear hK K
      have hvv : 0 ≤ n ∧ n ≤ (X.dims.length : Int) - 1 → (((cycP X n).getD k default).length : Int) = X.dims.getD n.toNat 0 ∧ Bnd X.p ((cycP X n).getD k default) := fun _ => cyc_vec hX hn0 hn1 _ (getD_mem (by omega))
      refine den_region TTok ?_
      intro K hK
      simp -implicitDefEqProofs (disch := first | decide | assumption | omega) only [go_sem, ld30, RdS.len hdX sl22, RdS.idx hdX sl22, R1.intB hdX (Ext.pres eB), RdS.cells hdX, RdS.len hmX sl23, RdS.idx hmX sl23, RdS.cellB hmX (Ext.pres eB), RdS.cells hmX, RdS.len hdY sl22, RdS.idx hdY sl22, R1.intB hdY (Ext.pres eB), RdS.cells hdY, RdS.len hmY sl23, RdS.idx hmY sl23, RdS.cellB hmY (Ext.pres eB), RdS.cells hmY, RdS.len rf sl23, RdS.idx rf sl23, RdS.cellB rf (Ext.pres eB), RdS.cells rf, RdS.len (OS.rd how3_2_0) sl36, RdS.idx (OS.rd how3_2_0) sl36, RdS.cellN (OS.rd how3_2_0), RdS.cells (OS.rd how3_2_0), RdS.len (OS.rd hO) sl36, RdS.idx (OS.rd hO) sl36, RdS.cellN (OS.rd hO), RdS.cells (OS.rd hO), BoxAt.cell hb0_0, BoxAt.cell hb0_1, RdS.len hr6 sl22, RdS.idx hr6 sl22, R1.intB hr6 (Ext.pres xr7), RdS.cells hr6, wrap_id]
      try simp -implicitDefEqProofs (disch := first | decide | assumption | omega) only [go_sem, RdS.len hdX sl22, RdS.idx hdX sl22, R1.intB hdX (Ext.pres eB), RdS.cells hdX, RdS.len hmX sl23, RdS.idx hmX sl23, RdS.cellB hmX (Ext.pres eB), RdS.cells hmX, RdS.len hdY sl22, RdS.idx hdY sl22, R1.intB hdY (Ext.pres eB), RdS.cells hdY, RdS.len hmY sl23, RdS.idx hmY sl23, RdS.cellB hmY (Ext.pres eB), RdS.cells hmY, RdS.len rf sl23, RdS.idx rf sl23, RdS.cellB rf (Ext.pres eB), RdS.cells rf, RdS.len (OS.rd how3_2_0) sl36, RdS.idx (OS.rd how3_2_0) sl36, RdS.cellN (OS.rd how3_2_0), RdS.cells (OS.rd how3_2_0), RdS.len (OS.rd hO) sl36, RdS.idx (OS.rd hO) sl36, RdS.cellN (OS.rd hO), RdS.cells (OS.rd hO), BoxAt.cell hb0_0, BoxAt.cell hb0_1, RdS.len hr6 sl22, RdS.idx hr6 sl22, R1.intB hr6 (Ext.pres xr7), RdS.cells hr6, wrap_id]
      refine CallA.mono (iApp_ok _ _ _ _ X Y f (0 : Int) n ((cycP X n).getD k default) _ ⟨_, _, rfl, (RdS.pres hdX (Ext.pres eB)), (RdS.pres hmX (Ext.pres eB))⟩ ⟨_, _, rfl, (RdS.pres hdY (Ext.pres eB)), (RdS.pres hmY (Ext.pres eB))⟩ (RdS.pres rf (Ext.pres eB)) (RdS.pres hr6 (Ext.pres xr7)) hX hY hF (by omega) (by omega) hvv) ?_
      intro vw6_6_0 h6_6
      rintro ⟨zvw6_6_0, fw6_6_0, rfl, how6_6_0, hfw6_6_0, e6_6⟩
      replace how3_2_0 := OS.ext how3_2_0 e6_6
      replace hO := OS.ext hO e6_6
      replace hb0_0 := BoxAt.ext hb0_0 e6_6
      replace hb0_1 := BoxAt.ext hb0_1 e6_6
      have := Ext.size e6_6
      replace eB := Ext.trans eB e6_6
      replace xr7 := Ext.trans xr7 e6_6
      replace cL2 := Chg.stepE cL2 e6_6
      have hlhow6_6_0 := OS.lt how6_6_0
      try simp -implicitDefEqProofs (disch := first | decide | assumption | omega) only [go_sem, RdS.len hdX sl22, RdS.idx hdX sl22, R1.intB hdX (Ext.pres eB), RdS.cells hdX, RdS.len hmX sl23, RdS.idx hmX sl23, RdS.cellB hmX (Ext.pres eB), RdS.cells hmX, RdS.len hdY sl22, RdS.idx hdY sl22, R1.intB hdY (Ext.pres eB), RdS.cells hdY, RdS.len hmY sl23, RdS.idx hmY sl23, RdS.cellB hmY (Ext.pres eB), RdS.cells hmY, RdS.len rf sl23, RdS.idx rf sl23, RdS.cellB rf (Ext.pres eB), RdS.cells rf, RdS.len (OS.rd how3_2_0) sl36, RdS.idx (OS.rd how3_2_0) sl36, RdS.cellN (OS.rd how3_2_0), RdS.cells (OS.rd how3_2_0), RdS.len (OS.rd hO) sl36, RdS.idx (OS.rd hO) sl36, RdS.cellN (OS.rd hO), RdS.cells (OS.rd hO), RdS.len (OS.rd how6_6_0) sl22, RdS.idx (OS.rd how6_6_0) sl22, R1.intN (OS.rd how6_6_0), RdS.cells (OS.rd how6_6_0), BoxAt.cell hb0_0, BoxAt.cell hb0_1, RdS.len hr6 sl22, RdS.idx hr6 sl22, R1.intB hr6 (Ext.pres xr7), RdS.cells hr6, wrap_id]
      refine op_bs1 sz36 rfl (OS.one how6_6_0).2 ?_
      try simp -implicitDefEqProofs (disch := first | decide | assumption | omega) only [go_sem, RdS.len hdX sl22, RdS.idx hdX sl22, R1.intB hdX (Ext.pres eB), RdS.cells hdX, RdS.len hmX sl23, RdS.idx hmX sl23, RdS.cellB hmX (Ext.pres eB), RdS.cells hmX, RdS.len hdY sl22, RdS.idx hdY sl22, R1.intB hdY (Ext.pres eB), RdS.cells hdY, RdS.len hmY sl23, RdS.idx hmY sl23, RdS.cellB hmY (Ext.pres eB), RdS.cells hmY, RdS.len rf sl23, RdS.idx rf sl23, RdS.cellB rf (Ext.pres eB), RdS.cells rf, RdS.len (OS.rd how3_2_0) sl36, RdS.idx (OS.rd how3_2_0) sl36, RdS.cellN (OS.rd how3_2_0), RdS.cells (OS.rd how3_2_0), RdS.len (OS.rd hO) sl36, RdS.idx (OS.rd hO) sl36, RdS.cellN (OS.rd hO), RdS.cells (OS.rd hO), RdS.len (OS.rd how6_6_0) sl22, RdS.idx (OS.rd how6_6_0) sl22, R1.intN (OS.rd how6_6_0), RdS.cells (OS.rd how6_6_0), BoxAt.cell hb0_0, BoxAt.cell hb0_1, RdS.len hr6 sl22, RdS.idx hr6 sl22, R1.intB hr6 (Ext.pres xr7), RdS.cells hr6, wrap_id]
      refine op_append1 sz36 hO hfhO.nodup how6_6_0 hfw6_6_0.nodup (apart_lt hlhO hfw6_6_0 (by omega)) (by first | omega | (simp; omega)) rfl rfl ?_
      intro v6_8 h6_8 fp6_8 ho6_8 hn6_8 hs6_8 c6_8
      have hsz6_8 := c6_8.size
      have hfho6_8 : Fresh h0_1.size fp6_8 := Fresh.appd hfhO hfw6_6_0 (by omega) (by omega) hn6_8 hs6_8
      have sb8 : Sub fw1_2_0 h3_2.size fp6_8 := Sub.grow sbhO (Sub.fresh hfw6_6_0 (by omega)) (by omega) hs6_8
      replace how3_2_0 := OS.chg how3_2_0 c6_8 ap5
      replace hb0_0 := BoxAt.chgA hb0_0 c6_8 (apart_lt hlhb0_0 hfhO (by omega))
      replace hb0_1 := BoxAt.chgA hb0_1 c6_8 (apart_lt hlhb0_1 hfhO (by omega))
      have := c6_8.size
      replace eB := Ext.then eB c6_8 (ge_of hfhO (by omega))
      replace cL2 := Chg.step cL2 c6_8 sbhO
      have ap9 : Apart fw3_2_0 fp6_8 := Apart.grow hlhow3_2_0 (by omega) ap5 (apart_lt hlhow3_2_0 hfw6_6_0 (by omega)) hs6_8
      have hlho6_8 := OS.lt ho6_8
      try simp -implicitDefEqProofs (disch := first | decide | assumption | omega) only [go_sem, RdS.len hdX sl22, RdS.idx hdX sl22, R1.intB hdX (Ext.pres eB), RdS.cells hdX, RdS.len hmX sl23, RdS.idx hmX sl23, RdS.cellB hmX (Ext.pres eB), RdS.cells hmX, RdS.len hdY sl22, RdS.idx hdY sl22, R1.intB hdY (Ext.pres eB), RdS.cells hdY, RdS.len hmY sl23, RdS.idx hmY sl23, RdS.cellB hmY (Ext.pres eB), RdS.cells hmY, RdS.len rf sl23, RdS.idx rf sl23, RdS.cellB rf (Ext.pres eB), RdS.cells rf, RdS.len (OS.rd how3_2_0) sl36, RdS.idx (OS.rd how3_2_0) sl36, RdS.cellN (OS.rd how3_2_0), RdS.cells (OS.rd how3_2_0), RdS.len (OS.rd ho6_8) sl36, RdS.idx (OS.rd ho6_8) sl36, RdS.cellN (OS.rd ho6_8), RdS.cells (OS.rd ho6_8), BoxAt.cell hb0_0, BoxAt.cell hb0_1, wrap_id]
      refine hK _ _ ?_
      clear hK K
      refine den_blk ?_
      refine den_region TTok ?_
      intro K hK
      simp -implicitDefEqProofs (disch := first | decide | assumption | omega) only [go_sem, RdS.len hdX sl22, RdS.idx hdX sl22, R1.intB hdX (Ext.pres eB), RdS.cells hdX, RdS.len hmX sl23, RdS.idx hmX sl23, RdS.cellB hmX (Ext.pres eB), RdS.cells hmX, RdS.len hdY sl22, RdS.idx hdY sl22, R1.intB hdY (Ext.pres eB), RdS.cells hdY, RdS.len hmY sl23, RdS.idx hmY sl23, RdS.cellB hmY (Ext.pres eB), RdS.cells hmY, RdS.len rf sl23, RdS.idx rf sl23, RdS.cellB rf (Ext.pres eB), RdS.cells rf, RdS.len (OS.rd how3_2_0) sl36, RdS.idx (OS.rd how3_2_0) sl36, RdS.cellN (OS.rd how3_2_0), RdS.cells (OS.rd how3_2_0), RdS.len (OS.rd ho6_8) sl36, RdS.idx (OS.rd ho6_8) sl36, RdS.cellN (OS.rd ho6_8), RdS.cells (OS.rd ho6_8), BoxAt.cell hb0_0, BoxAt.cell hb0_1, wrap_id]
      refine hK _ _ ?_
      clear hK K
      refine den_stop ?_
      rw [appP_img hn0 hn1, List.append_assoc, show imgs X Y f n ((cycP X n).take k) ++ [imgP X Y f 0 n ((cycP X n).getD k default)] = imgs X Y f n ((cycP X n).take (k + 1)) from map_takeA (f := fun z => imgP X Y f 0 n z) (by omega)] at ho6_8
      exact ⟨(k + 1, v6_8, fp6_8), by simp [HasL, puts_at], ⟨by first | omega | (dsimp only; omega), ho6_8, hfho6_8, sb8, cL2⟩, by first | omega | (dsimp only; omega)⟩
    · try simp only [decide_eq_true_eq, decide_eq_false_iff_not, beq_iff_eq, beq_eq_false_iff_ne, bne_iff_ne, ne_eq, Bool.not_eq_true', Bool.not_eq_false', Bool.and_eq_true, Bool.or_eq_true, bne_eq_false_iff_eq] at c0
      refine den_exit ?_
      refine denX_code ?_
      refine denX_stop ?_
      refine denX_hit ?_
      refine den_seq ?_
      rw [show (bndP Y n ++ imgs X Y f n ((cycP X n).take k)) = rkL X Y f n by rw [rkL, List.take_of_length_le (by omega)]] at hO
      have hredT := hrt
      have hP := hX.p
      refine den_region TTok ?_
      intro K hK
      simp -implicitDefEqProofs (disch := first | decide | assumption | omega) only [go_sem, fa30_0, ld2, RdS.len hdX sl22, RdS.idx hdX sl22, R1.intB hdX (Ext.pres eB), RdS.cells hdX, RdS.len hmX sl23, RdS.idx hmX sl23, RdS.cellB hmX (Ext.pres eB), RdS.cells hmX, RdS.len hdY sl22, RdS.idx hdY sl22, R1.intB hdY (Ext.pres eB), RdS.cells hdY, RdS.len hmY sl23, RdS.idx hmY sl23, RdS.cellB hmY (Ext.pres eB), RdS.cells hmY, RdS.len rf sl23, RdS.idx rf sl23, RdS.cellB rf (Ext.pres eB), RdS.cells rf, RdS.len (OS.rd hO) sl36, RdS.idx (OS.rd hO) sl36, RdS.cellN (OS.rd hO), RdS.cells (OS.rd hO), BoxAt.cell hb0_0, wrap_id]
      try simp -implicitDefEqProofs (disch := first | decide | assumption | omega) only [go_sem, RdS.len hdX sl22, RdS.idx hdX sl22, R1.intB hdX (Ext.pres eB), RdS.cells hdX, RdS.len hmX sl23, RdS.idx hmX sl23, RdS.cellB hmX (Ext.pres eB), RdS.cells hmX, RdS.len hdY sl22, RdS.idx hdY sl22, R1.intB hdY (Ext.pres eB), RdS.cells hdY, RdS.len hmY sl23, RdS.idx hmY sl23, RdS.cellB hmY (Ext.pres eB), RdS.cells hmY, RdS.len rf sl23, RdS.idx rf sl23, RdS.cellB rf (Ext.pres eB), RdS.cells rf, RdS.len (OS.rd hO) sl36, RdS.idx (OS.rd hO) sl36, RdS.cellN (OS.rd hO), RdS.cells (OS.rd hO), BoxAt.cell hb0_0, wrap_id]
      refine CallA.mono (iReduce_ok _ X.p (rkL X Y f n) _ (OS.rd hO) hP hredT (by omega) (by omega)) ?_
      intro vw8_3_0 h8_3
      rintro ⟨zvw8_3_0, fw8_3_0, rfl, how8_3_0, hfw8_3_0, e8_3⟩
      replace hO := OS.ext hO e8_3
      replace hb0_0 := BoxAt.ext hb0_0 e8_3
      have := Ext.size e8_3
      replace eB := Ext.trans eB e8_3
      have hlhow8_3_0 := OS.lt how8_3_0
      try simp -implicitDefEqProofs (disch := first | decide | assumption | omega) only [go_sem, RdS.len hdX sl22, RdS.idx hdX sl22, R1.intB hdX (Ext.pres eB), RdS.cells hdX, RdS.len hmX sl23, RdS.idx hmX sl23, RdS.cellB hmX (Ext.pres eB), RdS.cells hmX, RdS.len hdY sl22, RdS.idx hdY sl22, R1.intB hdY (Ext.pres eB), RdS.cells hdY, RdS.len hmY sl23, RdS.idx hmY sl23, RdS.cellB hmY (Ext.pres eB), RdS.cells hmY, RdS.len rf sl23, RdS.idx rf sl23, RdS.cellB rf (Ext.pres eB), RdS.cells rf, RdS.len (OS.rd hO) sl36, RdS.idx (OS.rd hO) sl36, RdS.cellN (OS.rd hO), RdS.cells (OS.rd hO), RdS.len (OS.rd how8_3_0) sl36, RdS.idx (OS.rd how8_3_0) sl36, RdS.cellN (OS.rd how8_3_0), RdS.cells (OS.rd how8_3_0), BoxAt.cell hb0_0, wrap_id]
      refine hK _ _ ?_
      clear hK K
      refine den_ret ?_
      simp (disch := decide) only [resP_1, puts_same, puts_ne]
      exact ⟨by first | rfl | trivial, eB⟩

set_option maxRecDepth 100000 in
theorem sRk_ok (vX vY vf : Value) (X : Cx) (Y : Cx) (f : List (List (List Int))) (n : Int) (h : Heap) (rX : RC h vX X) (rY : RC h vY Y) (rf : R3 h vf f) (hk : RkOk X Y f n) : CallA Try.prog 58 #[vX, vY, vf, .int .i64 n] h fun v' h' => v' = .int .i64 (rkP X Y f n) ∧ Ext h h' := by
  obtain ⟨vdX, vmX, rfl, hdX, hmX⟩ := rX
  have hledX := RdS.le hdX
  have hlemX := RdS.le hmX
  obtain ⟨vdY, vmY, rfl, hdY, hmY⟩ := rY
  have hledY := RdS.le hdY
  have hlemY := RdS.le hmY
  have hlef := RdS.le rf
  have hX := hk.cX
  have hY := hk.cY
  have hF := hk.cf
  have hn0 := hk.n0
  have hn1 := hk.n1
  have hlX := hX.len
  have hblen := bnd_len hY hn0
  have hclen := cyc_len hX n
  have hdy := dimP_bnd hY n
  have hrt := rk_tbl hk
  have hrl := rk_len hk
  have hre := rk_ech hk
  refine callA_intro TTok (args := [_, _, _, _]) Try.func58 (by kernel_rfl) rfl 48 rfl (by simp) [.tmp 8] rfl ?_
  simp only [idxs, Nat.reduceAdd]
  refine den_seq ?_
  refine den_region TTok ?_
  intro K hK
  simp -implicitDefEqProofs (disch := first | decide | assumption | omega) only [go_sem, RdS.len hdX sl22, RdS.idx hdX sl22, R1.intB hdX (HPres.refl _), RdS.cells hdX, RdS.len hmX sl23, RdS.idx hmX sl23, RdS.cellB hmX (HPres.refl _), RdS.cells hmX, RdS.len hdY sl22, RdS.idx hdY sl22, R1.intB hdY (HPres.refl _), RdS.cells hdY, RdS.len hmY sl23, RdS.idx hmY sl23, RdS.cellB hmY (HPres.refl _), RdS.cells hmY, RdS.len rf sl23, RdS.idx rf sl23, RdS.cellB rf (HPres.refl _), RdS.cells rf, wrap_id]
  refine op_box (cs := #[.int .i64 (X.p), vdX, vmX]) rfl ?_
  intro h0_0 e0_0 hb0_0 z0_0
  have := Ext.size e0_0
  have eB := e0_0
  have hfhb0_0 : Fresh h.size [h.size] := Fresh.one _
  have hlhb0_0 := one_lt (show h.size < h0_0.size by omega)
  try simp -implicitDefEqProofs (disch := first | decide | assumption | omega) only [go_sem, RdS.len hdX sl22, RdS.idx hdX sl22, R1.intB hdX (Ext.pres eB), RdS.cells hdX, RdS.len hmX sl23, RdS.idx hmX sl23, RdS.cellB hmX (Ext.pres eB), RdS.cells hmX, RdS.len hdY sl22, RdS.idx hdY sl22, R1.intB hdY (Ext.pres eB), RdS.cells hdY, RdS.len hmY sl23, RdS.idx hmY sl23, RdS.cellB hmY (Ext.pres eB), RdS.cells hmY, RdS.len rf sl23, RdS.idx rf sl23, RdS.cellB rf (Ext.pres eB), RdS.cells rf, BoxAt.cell hb0_0, wrap_id]
  refine op_box (cs := #[.int .i64 (Y.p), vdY, vmY]) rfl ?_
  intro h0_1 e0_1 hb0_1 z0_1
  replace hb0_0 := BoxAt.ext hb0_0 e0_1
  have := Ext.size e0_1
  replace eB := Ext.trans eB e0_1
  have hfhb0_1 : Fresh h0_0.size [h0_0.size] := Fresh.one _
  have hlhb0_1 := one_lt (show h0_0.size < h0_1.size by omega)
  try simp -implicitDefEqProofs (disch := first | decide | assumption | omega) only [go_sem, RdS.len hdX sl22, RdS.idx hdX sl22, R1.intB hdX (Ext.pres eB), RdS.cells hdX, RdS.len hmX sl23, RdS.idx hmX sl23, RdS.cellB hmX (Ext.pres eB), RdS.cells hmX, RdS.len hdY sl22, RdS.idx hdY sl22, R1.intB hdY (Ext.pres eB), RdS.cells hdY, RdS.len hmY sl23, RdS.idx hmY sl23, RdS.cellB hmY (Ext.pres eB), RdS.cells hmY, RdS.len rf sl23, RdS.idx rf sl23, RdS.cellB rf (Ext.pres eB), RdS.cells rf, BoxAt.cell hb0_0, BoxAt.cell hb0_1, wrap_id]
  refine hK _ _ ?_
  clear hK K
  refine den_seq ?_
  refine den_draw TTok mixed [] [(0, true), (1, true), (3, true), (4, true), (2, false), (5, false), (6, true), (7, true)] (by kernel_rfl) ?_
  intro K hK
  simp -implicitDefEqProofs (disch := first | decide | assumption | omega) only [go_sem, ld30, RdS.len hdX sl22, RdS.idx hdX sl22, R1.intB hdX (Ext.pres eB), RdS.cells hdX, RdS.len hmX sl23, RdS.idx hmX sl23, RdS.cellB hmX (Ext.pres eB), RdS.cells hmX, RdS.len hdY sl22, RdS.idx hdY sl22, R1.intB hdY (Ext.pres eB), RdS.cells hdY, RdS.len hmY sl23, RdS.idx hmY sl23, RdS.cellB hmY (Ext.pres eB), RdS.cells hmY, RdS.len rf sl23, RdS.idx rf sl23, RdS.cellB rf (Ext.pres eB), RdS.cells rf, BoxAt.cell hb0_0, BoxAt.cell hb0_1, wrap_id]
  try simp -implicitDefEqProofs (disch := first | decide | assumption | omega) only [go_sem, RdS.len hdX sl22, RdS.idx hdX sl22, R1.intB hdX (Ext.pres eB), RdS.cells hdX, RdS.len hmX sl23, RdS.idx hmX sl23, RdS.cellB hmX (Ext.pres eB), RdS.cells hmX, RdS.len hdY sl22, RdS.idx hdY sl22, R1.intB hdY (Ext.pres eB), RdS.cells hdY, RdS.len hmY sl23, RdS.idx hmY sl23, RdS.cellB hmY (Ext.pres eB), RdS.cells hmY, RdS.len rf sl23, RdS.idx rf sl23, RdS.cellB rf (Ext.pres eB), RdS.cells rf, BoxAt.cell hb0_0, BoxAt.cell hb0_1, wrap_id]
  refine CallA.mono (sCyc_ok _ X n _ ⟨_, _, rfl, (RdS.pres hdX (Ext.pres eB)), (RdS.pres hmX (Ext.pres eB))⟩ hX (by omega)) ?_
  intro vw1_2_0 h1_2
  rintro ⟨zvw1_2_0, fw1_2_0, rfl, how1_2_0, hfw1_2_0, e1_2⟩
  replace hb0_0 := BoxAt.ext hb0_0 e1_2
  replace hb0_1 := BoxAt.ext hb0_1 e1_2
  have := Ext.size e1_2
  replace eB := Ext.trans eB e1_2
  have hlhow1_2_0 := OS.lt how1_2_0
  try simp (disch := decide) only [outv_some, outv_none, put_puts]
  refine plK_pres (Ext.pres e1_2) ?_
  try simp -implicitDefEqProofs (disch := first | decide | assumption | omega) only [go_sem, RdS.len hdX sl22, RdS.idx hdX sl22, R1.intB hdX (Ext.pres eB), RdS.cells hdX, RdS.len hmX sl23, RdS.idx hmX sl23, RdS.cellB hmX (Ext.pres eB), RdS.cells hmX, RdS.len hdY sl22, RdS.idx hdY sl22, R1.intB hdY (Ext.pres eB), RdS.cells hdY, RdS.len hmY sl23, RdS.idx hmY sl23, RdS.cellB hmY (Ext.pres eB), RdS.cells hmY, RdS.len rf sl23, RdS.idx rf sl23, RdS.cellB rf (Ext.pres eB), RdS.cells rf, RdS.len (OS.rd how1_2_0) sl36, RdS.idx (OS.rd how1_2_0) sl36, RdS.cellN (OS.rd how1_2_0), RdS.cells (OS.rd how1_2_0), BoxAt.cell hb0_0, BoxAt.cell hb0_1, wrap_id]
  try simp -implicitDefEqProofs (disch := first | decide | assumption | omega) only [go_sem, RdS.len hdX sl22, RdS.idx hdX sl22, R1.intB hdX (Ext.pres eB), RdS.cells hdX, RdS.len hmX sl23, RdS.idx hmX sl23, RdS.cellB hmX (Ext.pres eB), RdS.cells hmX, RdS.len hdY sl22, RdS.idx hdY sl22, R1.intB hdY (Ext.pres eB), RdS.cells hdY, RdS.len hmY sl23, RdS.idx hmY sl23, RdS.cellB hmY (Ext.pres eB), RdS.cells hmY, RdS.len rf sl23, RdS.idx rf sl23, RdS.cellB rf (Ext.pres eB), RdS.cells rf, RdS.len (OS.rd how1_2_0) sl36, RdS.idx (OS.rd how1_2_0) sl36, RdS.cellN (OS.rd how1_2_0), RdS.cells (OS.rd how1_2_0), BoxAt.cell hb0_0, BoxAt.cell hb0_1, wrap_id]
  refine CallA.mono (sBnd_ok _ Y n _ ⟨_, _, rfl, (RdS.pres hdY (Ext.pres eB)), (RdS.pres hmY (Ext.pres eB))⟩ hY (by omega)) ?_
  intro vw1_5_0 h1_5
  rintro ⟨zvw1_5_0, fw1_5_0, rfl, how1_5_0, hfw1_5_0, e1_5⟩
  replace how1_2_0 := OS.ext how1_2_0 e1_5
  replace hb0_0 := BoxAt.ext hb0_0 e1_5
  replace hb0_1 := BoxAt.ext hb0_1 e1_5
  have := Ext.size e1_5
  replace eB := Ext.trans eB e1_5
  have hlhow1_5_0 := OS.lt how1_5_0
  try simp (disch := decide) only [outv_some, outv_none, put_puts]
  refine plK_pres (Ext.pres e1_5) ?_
  try simp -implicitDefEqProofs (disch := first | decide | assumption | omega) only [go_sem, RdS.len hdX sl22, RdS.idx hdX sl22, R1.intB hdX (Ext.pres eB), RdS.cells hdX, RdS.len hmX sl23, RdS.idx hmX sl23, RdS.cellB hmX (Ext.pres eB), RdS.cells hmX, RdS.len hdY sl22, RdS.idx hdY sl22, R1.intB hdY (Ext.pres eB), RdS.cells hdY, RdS.len hmY sl23, RdS.idx hmY sl23, RdS.cellB hmY (Ext.pres eB), RdS.cells hmY, RdS.len rf sl23, RdS.idx rf sl23, RdS.cellB rf (Ext.pres eB), RdS.cells rf, RdS.len (OS.rd how1_2_0) sl36, RdS.idx (OS.rd how1_2_0) sl36, RdS.cellN (OS.rd how1_2_0), RdS.cells (OS.rd how1_2_0), RdS.len (OS.rd how1_5_0) sl36, RdS.idx (OS.rd how1_5_0) sl36, RdS.cellN (OS.rd how1_5_0), RdS.cells (OS.rd how1_5_0), BoxAt.cell hb0_0, BoxAt.cell hb0_1, wrap_id]
  refine hK _ _ ?_
  clear hK K
  refine den_seq ?_
  refine den_region TTok ?_
  intro K hK
  simp -implicitDefEqProofs (disch := first | decide | assumption | omega) only [go_sem, RdS.len hdX sl22, RdS.idx hdX sl22, R1.intB hdX (Ext.pres eB), RdS.cells hdX, RdS.len hmX sl23, RdS.idx hmX sl23, RdS.cellB hmX (Ext.pres eB), RdS.cells hmX, RdS.len hdY sl22, RdS.idx hdY sl22, R1.intB hdY (Ext.pres eB), RdS.cells hdY, RdS.len hmY sl23, RdS.idx hmY sl23, RdS.cellB hmY (Ext.pres eB), RdS.cells hmY, RdS.len rf sl23, RdS.idx rf sl23, RdS.cellB rf (Ext.pres eB), RdS.cells rf, RdS.len (OS.rd how1_2_0) sl36, RdS.idx (OS.rd how1_2_0) sl36, RdS.cellN (OS.rd how1_2_0), RdS.cells (OS.rd how1_2_0), RdS.len (OS.rd how1_5_0) sl36, RdS.idx (OS.rd how1_5_0) sl36, RdS.cellN (OS.rd how1_5_0), RdS.cells (OS.rd how1_5_0), BoxAt.cell hb0_0, BoxAt.cell hb0_1, wrap_id]
  refine op_bs0 sz36 O1 ?_
  intro v2_0 h2_0 ho2_0 e2_0
  replace how1_2_0 := OS.ext how1_2_0 e2_0
  replace how1_5_0 := OS.ext how1_5_0 e2_0
  replace hb0_0 := BoxAt.ext hb0_0 e2_0
  replace hb0_1 := BoxAt.ext hb0_1 e2_0
  have := Ext.size e2_0
  replace eB := Ext.trans eB e2_0
  have hfho2_0 : Fresh h1_5.size [h1_5.size] := Fresh.one _
  have hlho2_0 := OS.lt ho2_0
  try simp -implicitDefEqProofs (disch := first | decide | assumption | omega) only [go_sem, RdS.len hdX sl22, RdS.idx hdX sl22, R1.intB hdX (Ext.pres eB), RdS.cells hdX, RdS.len hmX sl23, RdS.idx hmX sl23, RdS.cellB hmX (Ext.pres eB), RdS.cells hmX, RdS.len hdY sl22, RdS.idx hdY sl22, R1.intB hdY (Ext.pres eB), RdS.cells hdY, RdS.len hmY sl23, RdS.idx hmY sl23, RdS.cellB hmY (Ext.pres eB), RdS.cells hmY, RdS.len rf sl23, RdS.idx rf sl23, RdS.cellB rf (Ext.pres eB), RdS.cells rf, RdS.len (OS.rd how1_2_0) sl36, RdS.idx (OS.rd how1_2_0) sl36, RdS.cellN (OS.rd how1_2_0), RdS.cells (OS.rd how1_2_0), RdS.len (OS.rd how1_5_0) sl36, RdS.idx (OS.rd how1_5_0) sl36, RdS.cellN (OS.rd how1_5_0), RdS.cells (OS.rd how1_5_0), RdS.len (OS.rd ho2_0) sl36, RdS.idx (OS.rd ho2_0) sl36, RdS.cellN (OS.rd ho2_0), RdS.cells (OS.rd ho2_0), BoxAt.cell hb0_0, BoxAt.cell hb0_1, wrap_id]
  have hag2_2 := Agr.refl fw1_5_0 h2_0
  replace ho2_0 : O2M h2_0 fw1_5_0 _ _ _ _ := O2M.nil ho2_0
  refine op_appendM sz36 ho2_0 hfho2_0.nodup (OS.rd how1_5_0) rfl (fun j hj => (ES.row (H := h2_0) how1_5_0 hfw1_5_0.nodup hj).2.1.1) (fun j hj h'' => .inr (by rw [getD_elem hj]; exact ES.row how1_5_0 hfw1_5_0.nodup hj)) (by first | omega | (simp; omega)) rfl ?_
  intro v2_2 h2_2 fp2_2 ho2_2 hn2_2 hs2_2 c2_2
  have hsz2_2 := c2_2.size
  have hfho2_2 : Fresh h1_5.size fp2_2 := Fresh.appd hfho2_0 (Fresh.nil h2_0.size) (by omega) (by omega) hn2_2 hs2_2
  replace hag2_2 := Agr.chg hag2_2 (OS.lt how1_5_0) c2_2 (apart_lt hlhow1_5_0 hfho2_0 (by omega))
  replace how1_2_0 := OS.chg how1_2_0 c2_2 (apart_lt hlhow1_2_0 hfho2_0 (by omega))
  replace how1_5_0 := OS.chg how1_5_0 c2_2 (apart_lt hlhow1_5_0 hfho2_0 (by omega))
  replace hb0_0 := BoxAt.chgA hb0_0 c2_2 (apart_lt hlhb0_0 hfho2_0 (by omega))
  replace hb0_1 := BoxAt.chgA hb0_1 c2_2 (apart_lt hlhb0_1 hfho2_0 (by omega))
  have := c2_2.size
  replace eB := Ext.then eB c2_2 (ge_of hfho2_0 (by omega))
  have hlho2_2 := OS.lt ho2_2
  rw [List.nil_append] at ho2_2
  try simp -implicitDefEqProofs (disch := first | decide | assumption | omega) only [go_sem, RdS.len hdX sl22, RdS.idx hdX sl22, R1.intB hdX (Ext.pres eB), RdS.cells hdX, RdS.len hmX sl23, RdS.idx hmX sl23, RdS.cellB hmX (Ext.pres eB), RdS.cells hmX, RdS.len hdY sl22, RdS.idx hdY sl22, R1.intB hdY (Ext.pres eB), RdS.cells hdY, RdS.len hmY sl23, RdS.idx hmY sl23, RdS.cellB hmY (Ext.pres eB), RdS.cells hmY, RdS.len rf sl23, RdS.idx rf sl23, RdS.cellB rf (Ext.pres eB), RdS.cells rf, RdS.len (OS.rd how1_2_0) sl36, RdS.idx (OS.rd how1_2_0) sl36, RdS.cellN (OS.rd how1_2_0), RdS.cells (OS.rd how1_2_0), RdS.len (OS.rd how1_5_0) sl36, RdS.idx (OS.rd how1_5_0) sl36, RdS.cellN (OS.rd how1_5_0), RdS.cells (OS.rd how1_5_0), BoxAt.cell hb0_0, BoxAt.cell hb0_1, wrap_id]
  refine hK _ _ ?_
  clear hK K
  refine den_seq ?_
  refine den_seq ?_
  refine den_region TTok ?_
  intro K hK
  simp -implicitDefEqProofs (disch := first | decide | assumption | omega) only [go_sem, RdS.len hdX sl22, RdS.idx hdX sl22, R1.intB hdX (Ext.pres eB), RdS.cells hdX, RdS.len hmX sl23, RdS.idx hmX sl23, RdS.cellB hmX (Ext.pres eB), RdS.cells hmX, RdS.len hdY sl22, RdS.idx hdY sl22, R1.intB hdY (Ext.pres eB), RdS.cells hdY, RdS.len hmY sl23, RdS.idx hmY sl23, RdS.cellB hmY (Ext.pres eB), RdS.cells hmY, RdS.len rf sl23, RdS.idx rf sl23, RdS.cellB rf (Ext.pres eB), RdS.cells rf, RdS.len (OS.rd how1_2_0) sl36, RdS.idx (OS.rd how1_2_0) sl36, RdS.cellN (OS.rd how1_2_0), RdS.cells (OS.rd how1_2_0), RdS.len (OS.rd how1_5_0) sl36, RdS.idx (OS.rd how1_5_0) sl36, RdS.cellN (OS.rd how1_5_0), RdS.cells (OS.rd how1_5_0), BoxAt.cell hb0_0, BoxAt.cell hb0_1, wrap_id]
  refine hK _ _ ?_
  clear hK K
  refine den_block ?_
  refine den_sel [11, 12, 2, 3, 4, 5, 9, 10] ?_
  intro env_1
  simp only [go_sem]
  refine den_loopS (σ := Nat × Value × List Nat) (fun st_ => [(11, st_.2.1), (12, .int .i64 (st_.1 : Int))]) (fun st_ H => (st_.1 ≤ (cycP X n).length) ∧ (O2M h2_0 fw1_5_0 H st_.2.1 (bndP Y n ++ imgs X Y f n ((cycP X n).take st_.1)) st_.2.2) ∧ (Fresh (h1_5.size) st_.2.2) ∧ (Sub fp2_2 h2_2.size st_.2.2) ∧ (Chg fp2_2 h2_2 H)) (fun st_ => (cycP X n).length - st_.1) (0, v2_2, fp2_2) ?_ ?_
  · exact ⟨by first | (simp; done) | (dsimp only; omega) | (simp; omega), by simpa [imgs] using ho2_2, hfho2_2, Sub.refl, Chg.refl _ _⟩
  · rintro ⟨k, vhO, fphO⟩ h4 ee3 ⟨hi0, hO, hfhO, sbhO, cL2⟩
    dsimp only at hi0 hO hfhO sbhO cL2
    replace hag2_2 := Agr.chg hag2_2 (OS.lt how1_5_0) cL2 (apart_lt hlhow1_5_0 hfho2_2 (by omega))
    replace how1_2_0 := OS.chg how1_2_0 cL2 (apart_lt hlhow1_2_0 hfho2_2 (by omega))
    replace how1_5_0 := OS.chg how1_5_0 cL2 (apart_lt hlhow1_5_0 hfho2_2 (by omega))
    replace hb0_0 := BoxAt.chgA hb0_0 cL2 (apart_lt hlhb0_0 hfho2_2 (by omega))
    replace hb0_1 := BoxAt.chgA hb0_1 cL2 (apart_lt hlhb0_1 hfho2_2 (by omega))
    have := cL2.size
    replace eB := Ext.then eB cL2 (ge_of hfho2_2 (by omega))
    have hlhO := OS.lt hO
    simp only [List.cons_append, List.nil_append]
    have hll_ : (bndP Y n ++ imgs X Y f n ((cycP X n).take k)).length = (bndP Y n).length + k := by simp only [List.length_append, imgs, List.length_map, List.length_take]; omega
    refine den_seq ?_
    refine den_seq ?_
    refine den_region TTok ?_
    intro K hK
    simp -implicitDefEqProofs (disch := first | decide | assumption | omega) only [go_sem, RdS.len hdX sl22, RdS.idx hdX sl22, R1.intB hdX (Ext.pres eB), RdS.cells hdX, RdS.len hmX sl23, RdS.idx hmX sl23, RdS.cellB hmX (Ext.pres eB), RdS.cells hmX, RdS.len hdY sl22, RdS.idx hdY sl22, R1.intB hdY (Ext.pres eB), RdS.cells hdY, RdS.len hmY sl23, RdS.idx hmY sl23, RdS.cellB hmY (Ext.pres eB), RdS.cells hmY, RdS.len rf sl23, RdS.idx rf sl23, RdS.cellB rf (Ext.pres eB), RdS.cells rf, RdS.len (OS.rd how1_2_0) sl36, RdS.idx (OS.rd how1_2_0) sl36, RdS.cellN (OS.rd how1_2_0), RdS.cells (OS.rd how1_2_0), RdS.len (OS.rd how1_5_0) sl36, RdS.idx (OS.rd how1_5_0) sl36, RdS.cellN (OS.rd how1_5_0), RdS.cells (OS.rd how1_5_0), BoxAt.cell hb0_0, BoxAt.cell hb0_1, wrap_id]
    refine hK _ _ ?_
    clear hK K
    refine den_cond rfl (fun c0 => ?_) (fun c0 => ?_)
    · try simp only [decide_eq_true_eq, decide_eq_false_iff_not, beq_iff_eq, beq_eq_false_iff_ne, bne_iff_ne, ne_eq, Bool.not_eq_true', Bool.not_eq_false', Bool.and_eq_true, Bool.or_eq_true, bne_eq_false_iff_eq] at c0
      refine den_skip ?_
      refine den_seq ?_
      refine den_block ?_
      have hvv : 0 ≤ n ∧ n ≤ (X.dims.length : Int) - 1 → (((cycP X n).getD k default).length : Int) = X.dims.getD n.toNat 0 ∧ Bnd X.p ((cycP X n).getD k default) := fun _ => cyc_vec hX hn0 hn1 _ (getD_mem (by omega))
      refine den_draw TTok mixed [11] [(0, true), (1, true), (2, true), (3, true), (4, true), (5, true), (6, true), (7, true), (8, true), (9, false), (10, false), (11, false), (12, true)] (by kernel_rfl) ?_
      intro K hK
      have hr5 := RdS.rowN (OS.rd how1_2_0) k (by omega)
      have hlhr5 := RdS.le hr5
      have xr6 := Ext.refl h4
      simp -implicitDefEqProofs (disch := first | decide | assumption | omega) only [go_sem, ld22, ld30, RdS.len hdX sl22, RdS.idx hdX sl22, R1.intB hdX (Ext.pres eB), RdS.cells hdX, RdS.len hmX sl23, RdS.idx hmX sl23, RdS.cellB hmX (Ext.pres eB), RdS.cells hmX, RdS.len hdY sl22, RdS.idx hdY sl22, R1.intB hdY (Ext.pres eB), RdS.cells hdY, RdS.len hmY sl23, RdS.idx hmY sl23, RdS.cellB hmY (Ext.pres eB), RdS.cells hmY, RdS.len rf sl23, RdS.idx rf sl23, RdS.cellB rf (Ext.pres eB), RdS.cells rf, RdS.len (OS.rd how1_2_0) sl36, RdS.idx (OS.rd how1_2_0) sl36, RdS.cellN (OS.rd how1_2_0), RdS.cells (OS.rd how1_2_0), RdS.len (OS.rd how1_5_0) sl36, RdS.idx (OS.rd how1_5_0) sl36, RdS.cellN (OS.rd how1_5_0), RdS.cells (OS.rd how1_5_0), BoxAt.cell hb0_0, BoxAt.cell hb0_1, RdS.len hr5 sl22, RdS.idx hr5 sl22, R1.intB hr5 (Ext.pres xr6), RdS.cells hr5, wrap_id]
      try simp -implicitDefEqProofs (disch := first | decide | assumption | omega) only [go_sem, RdS.len hdX sl22, RdS.idx hdX sl22, R1.intB hdX (Ext.pres eB), RdS.cells hdX, RdS.len hmX sl23, RdS.idx hmX sl23, RdS.cellB hmX (Ext.pres eB), RdS.cells hmX, RdS.len hdY sl22, RdS.idx hdY sl22, R1.intB hdY (Ext.pres eB), RdS.cells hdY, RdS.len hmY sl23, RdS.idx hmY sl23, RdS.cellB hmY (Ext.pres eB), RdS.cells hmY, RdS.len rf sl23, RdS.idx rf sl23, RdS.cellB rf (Ext.pres eB), RdS.cells rf, RdS.len (OS.rd how1_2_0) sl36, RdS.idx (OS.rd how1_2_0) sl36, RdS.cellN (OS.rd how1_2_0), RdS.cells (OS.rd how1_2_0), RdS.len (OS.rd how1_5_0) sl36, RdS.idx (OS.rd how1_5_0) sl36, RdS.cellN (OS.rd how1_5_0), RdS.cells (OS.rd how1_5_0), BoxAt.cell hb0_0, BoxAt.cell hb0_1, RdS.len hr5 sl22, RdS.idx hr5 sl22, R1.intB hr5 (Ext.pres xr6), RdS.cells hr5, wrap_id]
      refine CallA.mono (sImg_ok _ _ _ _ X Y f n (0 : Int) ((cycP X n).getD k default) _ ⟨_, _, rfl, (RdS.pres hdX (Ext.pres eB)), (RdS.pres hmX (Ext.pres eB))⟩ ⟨_, _, rfl, (RdS.pres hdY (Ext.pres eB)), (RdS.pres hmY (Ext.pres eB))⟩ (RdS.pres rf (Ext.pres eB)) (RdS.pres hr5 (Ext.pres xr6)) hX hY hF (by omega) (by omega) hvv) ?_
      intro vw6_9_0 h6_9
      rintro ⟨zvw6_9_0, fw6_9_0, rfl, how6_9_0, hfw6_9_0, e6_9⟩
      replace hag2_2 := Agr.ext hag2_2 (OS.lt how1_5_0) e6_9
      replace how1_2_0 := OS.ext how1_2_0 e6_9
      replace how1_5_0 := OS.ext how1_5_0 e6_9
      replace hO := OS.ext hO e6_9
      replace hb0_0 := BoxAt.ext hb0_0 e6_9
      replace hb0_1 := BoxAt.ext hb0_1 e6_9
      have := Ext.size e6_9
      replace eB := Ext.trans eB e6_9
      replace xr6 := Ext.trans xr6 e6_9
      replace cL2 := Chg.stepE cL2 e6_9
      have hlhow6_9_0 := OS.lt how6_9_0
      try simp (disch := decide) only [outv_some, outv_none, put_puts]
      refine plK_pres (Ext.pres e6_9) ?_
      try simp -implicitDefEqProofs (disch := first | decide | assumption | omega) only [go_sem, RdS.len hdX sl22, RdS.idx hdX sl22, R1.intB hdX (Ext.pres eB), RdS.cells hdX, RdS.len hmX sl23, RdS.idx hmX sl23, RdS.cellB hmX (Ext.pres eB), RdS.cells hmX, RdS.len hdY sl22, RdS.idx hdY sl22, R1.intB hdY (Ext.pres eB), RdS.cells hdY, RdS.len hmY sl23, RdS.idx hmY sl23, RdS.cellB hmY (Ext.pres eB), RdS.cells hmY, RdS.len rf sl23, RdS.idx rf sl23, RdS.cellB rf (Ext.pres eB), RdS.cells rf, RdS.len (OS.rd how1_2_0) sl36, RdS.idx (OS.rd how1_2_0) sl36, RdS.cellN (OS.rd how1_2_0), RdS.cells (OS.rd how1_2_0), RdS.len (OS.rd how1_5_0) sl36, RdS.idx (OS.rd how1_5_0) sl36, RdS.cellN (OS.rd how1_5_0), RdS.cells (OS.rd how1_5_0), RdS.len (OS.rd how6_9_0) sl22, RdS.idx (OS.rd how6_9_0) sl22, R1.intN (OS.rd how6_9_0), RdS.cells (OS.rd how6_9_0), BoxAt.cell hb0_0, BoxAt.cell hb0_1, RdS.len hr5 sl22, RdS.idx hr5 sl22, R1.intB hr5 (Ext.pres xr6), RdS.cells hr5, wrap_id]
      refine op_bs1 sz36 rfl (OS.one how6_9_0).2 ?_
      try simp (disch := decide) only [outv_some, outv_none, put_puts]
      refine plK_pres (Ext.pres (Ext.push _ _)) ?_
      try simp -implicitDefEqProofs (disch := first | decide | assumption | omega) only [go_sem, RdS.len hdX sl22, RdS.idx hdX sl22, R1.intB hdX (Ext.pres eB), RdS.cells hdX, RdS.len hmX sl23, RdS.idx hmX sl23, RdS.cellB hmX (Ext.pres eB), RdS.cells hmX, RdS.len hdY sl22, RdS.idx hdY sl22, R1.intB hdY (Ext.pres eB), RdS.cells hdY, RdS.len hmY sl23, RdS.idx hmY sl23, RdS.cellB hmY (Ext.pres eB), RdS.cells hmY, RdS.len rf sl23, RdS.idx rf sl23, RdS.cellB rf (Ext.pres eB), RdS.cells rf, RdS.len (OS.rd how1_2_0) sl36, RdS.idx (OS.rd how1_2_0) sl36, RdS.cellN (OS.rd how1_2_0), RdS.cells (OS.rd how1_2_0), RdS.len (OS.rd how1_5_0) sl36, RdS.idx (OS.rd how1_5_0) sl36, RdS.cellN (OS.rd how1_5_0), RdS.cells (OS.rd how1_5_0), RdS.len (OS.rd how6_9_0) sl22, RdS.idx (OS.rd how6_9_0) sl22, R1.intN (OS.rd how6_9_0), RdS.cells (OS.rd how6_9_0), BoxAt.cell hb0_0, BoxAt.cell hb0_1, RdS.len hr5 sl22, RdS.idx hr5 sl22, R1.intB hr5 (Ext.pres xr6), RdS.cells hr5, wrap_id]
      refine op_append1 sz36 hO hfhO.nodup (Or.inl how6_9_0) hfw6_9_0.nodup (apart_lt hlhO hfw6_9_0 (by omega)) (by first | omega | (simp; omega)) rfl rfl ?_
      intro v6_11 h6_11 fp6_11 ho6_11 hn6_11 hs6_11 c6_11
      have hsz6_11 := c6_11.size
      have hfho6_11 : Fresh h1_5.size fp6_11 := Fresh.appd hfhO hfw6_9_0 (by omega) (by omega) hn6_11 hs6_11
      have sb7 : Sub fp2_2 h2_2.size fp6_11 := Sub.grow sbhO (Sub.fresh hfw6_9_0 (by omega)) (by omega) hs6_11
      replace hag2_2 := Agr.chg hag2_2 (OS.lt how1_5_0) c6_11 (apart_lt hlhow1_5_0 hfhO (by omega))
      replace how1_2_0 := OS.chg how1_2_0 c6_11 (apart_lt hlhow1_2_0 hfhO (by omega))
      replace how1_5_0 := OS.chg how1_5_0 c6_11 (apart_lt hlhow1_5_0 hfhO (by omega))
      replace hb0_0 := BoxAt.chgA hb0_0 c6_11 (apart_lt hlhb0_0 hfhO (by omega))
      replace hb0_1 := BoxAt.chgA hb0_1 c6_11 (apart_lt hlhb0_1 hfhO (by omega))
      have := c6_11.size
      replace eB := Ext.then eB c6_11 (ge_of hfhO (by omega))
      replace cL2 := Chg.step cL2 c6_11 sbhO
      have hlho6_11 := OS.lt ho6_11
      try simp (disch := decide) only [outv_some, outv_none, put_puts]
      refine plK_last (by decide) ?_
      try simp -implicitDefEqProofs (disch := first | decide | assumption | omega) only [go_sem, RdS.len hdX sl22, RdS.idx hdX sl22, R1.intB hdX (Ext.pres eB), RdS.cells hdX, RdS.len hmX sl23, RdS.idx hmX sl23, RdS.cellB hmX (Ext.pres eB), RdS.cells hmX, RdS.len hdY sl22, RdS.idx hdY sl22, R1.intB hdY (Ext.pres eB), RdS.cells hdY, RdS.len hmY sl23, RdS.idx hmY sl23, RdS.cellB hmY (Ext.pres eB), RdS.cells hmY, RdS.len rf sl23, RdS.idx rf sl23, RdS.cellB rf (Ext.pres eB), RdS.cells rf, RdS.len (OS.rd how1_2_0) sl36, RdS.idx (OS.rd how1_2_0) sl36, RdS.cellN (OS.rd how1_2_0), RdS.cells (OS.rd how1_2_0), RdS.len (OS.rd how1_5_0) sl36, RdS.idx (OS.rd how1_5_0) sl36, RdS.cellN (OS.rd how1_5_0), RdS.cells (OS.rd how1_5_0), BoxAt.cell hb0_0, BoxAt.cell hb0_1, wrap_id]
      refine hK _ _ ?_
      clear hK K
      refine den_blk ?_
      refine den_region TTok ?_
      intro K hK
      simp -implicitDefEqProofs (disch := first | decide | assumption | omega) only [go_sem, RdS.len hdX sl22, RdS.idx hdX sl22, R1.intB hdX (Ext.pres eB), RdS.cells hdX, RdS.len hmX sl23, RdS.idx hmX sl23, RdS.cellB hmX (Ext.pres eB), RdS.cells hmX, RdS.len hdY sl22, RdS.idx hdY sl22, R1.intB hdY (Ext.pres eB), RdS.cells hdY, RdS.len hmY sl23, RdS.idx hmY sl23, RdS.cellB hmY (Ext.pres eB), RdS.cells hmY, RdS.len rf sl23, RdS.idx rf sl23, RdS.cellB rf (Ext.pres eB), RdS.cells rf, RdS.len (OS.rd how1_2_0) sl36, RdS.idx (OS.rd how1_2_0) sl36, RdS.cellN (OS.rd how1_2_0), RdS.cells (OS.rd how1_2_0), RdS.len (OS.rd how1_5_0) sl36, RdS.idx (OS.rd how1_5_0) sl36, RdS.cellN (OS.rd how1_5_0), RdS.cells (OS.rd how1_5_0), BoxAt.cell hb0_0, BoxAt.cell hb0_1, wrap_id]
      refine hK _ _ ?_
      clear hK K
      refine den_stop ?_
      rw [List.append_assoc, show imgs X Y f n ((cycP X n).take k) ++ [imgP X Y f 0 n ((cycP X n).getD k default)] = imgs X Y f n ((cycP X n).take (k + 1)) from map_takeA (f := fun z => imgP X Y f 0 n z) (by omega)] at ho6_11
      exact ⟨(k + 1, v6_11, fp6_11), by simp [HasL, puts_at], ⟨by first | omega | (dsimp only; omega), ho6_11, hfho6_11, sb7, cL2⟩, by first | omega | (dsimp only; omega)⟩
    · try simp only [decide_eq_true_eq, decide_eq_false_iff_not, beq_iff_eq, beq_eq_false_iff_ne, bne_iff_ne, ne_eq, Bool.not_eq_true', Bool.not_eq_false', Bool.and_eq_true, Bool.or_eq_true, bne_eq_false_iff_eq] at c0
      refine den_exit ?_
      refine denX_code ?_
      refine denX_stop ?_
      refine denX_hit ?_
      refine den_seq ?_
      rw [show (bndP Y n ++ imgs X Y f n ((cycP X n).take k)) = rkL X Y f n by rw [rkL, List.take_of_length_le (by omega)]] at hO
      have hredT := hrt
      have hP := hX.p
      refine den_region TTok ?_
      intro K hK
      simp -implicitDefEqProofs (disch := first | decide | assumption | omega) only [go_sem, fa30_0, ld2, RdS.len hdX sl22, RdS.idx hdX sl22, R1.intB hdX (Ext.pres eB), RdS.cells hdX, RdS.len hmX sl23, RdS.idx hmX sl23, RdS.cellB hmX (Ext.pres eB), RdS.cells hmX, RdS.len hdY sl22, RdS.idx hdY sl22, R1.intB hdY (Ext.pres eB), RdS.cells hdY, RdS.len hmY sl23, RdS.idx hmY sl23, RdS.cellB hmY (Ext.pres eB), RdS.cells hmY, RdS.len rf sl23, RdS.idx rf sl23, RdS.cellB rf (Ext.pres eB), RdS.cells rf, RdS.len (OS.rd how1_5_0) sl36, RdS.idx (OS.rd how1_5_0) sl36, RdS.cellN (OS.rd how1_5_0), RdS.cells (OS.rd how1_5_0), BoxAt.cell hb0_0, wrap_id]
      try simp -implicitDefEqProofs (disch := first | decide | assumption | omega) only [go_sem, RdS.len hdX sl22, RdS.idx hdX sl22, R1.intB hdX (Ext.pres eB), RdS.cells hdX, RdS.len hmX sl23, RdS.idx hmX sl23, RdS.cellB hmX (Ext.pres eB), RdS.cells hmX, RdS.len hdY sl22, RdS.idx hdY sl22, R1.intB hdY (Ext.pres eB), RdS.cells hdY, RdS.len hmY sl23, RdS.idx hmY sl23, RdS.cellB hmY (Ext.pres eB), RdS.cells hmY, RdS.len rf sl23, RdS.idx rf sl23, RdS.cellB rf (Ext.pres eB), RdS.cells rf, RdS.len (OS.rd how1_5_0) sl36, RdS.idx (OS.rd how1_5_0) sl36, RdS.cellN (OS.rd how1_5_0), RdS.cells (OS.rd how1_5_0), BoxAt.cell hb0_0, wrap_id]
      refine CallA.mono (sEch_ok _ X.p (rkL X Y f n) _ (O2M.rd hO hag2_2) hP hredT (by omega) (by omega)) ?_
      intro vw7_3_0 h7_3
      rintro ⟨zvw7_3_0, fw7_3_0, rfl, how7_3_0, hfw7_3_0, e7_3⟩
      replace hag2_2 := Agr.ext hag2_2 (OS.lt how1_5_0) e7_3
      replace how1_5_0 := OS.ext how1_5_0 e7_3
      replace hO := OS.ext hO e7_3
      replace hb0_0 := BoxAt.ext hb0_0 e7_3
      have := Ext.size e7_3
      replace eB := Ext.trans eB e7_3
      have hlhow7_3_0 := OS.lt how7_3_0
      try simp -implicitDefEqProofs (disch := first | decide | assumption | omega) only [go_sem, RdS.len hdX sl22, RdS.idx hdX sl22, R1.intB hdX (Ext.pres eB), RdS.cells hdX, RdS.len hmX sl23, RdS.idx hmX sl23, RdS.cellB hmX (Ext.pres eB), RdS.cells hmX, RdS.len hdY sl22, RdS.idx hdY sl22, R1.intB hdY (Ext.pres eB), RdS.cells hdY, RdS.len hmY sl23, RdS.idx hmY sl23, RdS.cellB hmY (Ext.pres eB), RdS.cells hmY, RdS.len rf sl23, RdS.idx rf sl23, RdS.cellB rf (Ext.pres eB), RdS.cells rf, RdS.len (OS.rd how1_5_0) sl36, RdS.idx (OS.rd how1_5_0) sl36, RdS.cellN (OS.rd how1_5_0), RdS.cells (OS.rd how1_5_0), RdS.len (OS.rd how7_3_0) sl36, RdS.idx (OS.rd how7_3_0) sl36, RdS.cellN (OS.rd how7_3_0), RdS.cells (OS.rd how7_3_0), BoxAt.cell hb0_0, wrap_id]
      refine hK _ _ ?_
      clear hK K
      refine den_ret ?_
      simp (disch := decide) only [resP_1, puts_same, puts_ne]
      exact ⟨by first | rfl | trivial, eB⟩
end Go.Proofs.Ytbplnadngahgaaa

namespace Go.Proofs.Ytbplnadngahgaaa
open Go
noncomputable def isQ (X Y : Cx) (f : List (List (List Int))) (n : Nat) : Bool := (homP X (n : Int) == rkP X Y f (n : Int)) && (homP Y (n : Int) == rkP X Y f (n : Int))
noncomputable def iqR (X Y : Cx) (f : List (List (List Int))) : Bool × Int := if chnC X Y [f] = 0 then (pdec (∀ n : Nat, n < X.dims.length → isQ X Y f n = true), 0) else (false, chnC X Y [f])
theorem chn_rk {X Y : Cx} {f : List (List (List Int))} (h : chnC X Y [f] = 0) {n : Nat} (hn : n < X.dims.length) : RkOk X Y f (n : Int) := by
  obtain ⟨h1, _⟩ := chnC_0 h
  obtain ⟨h2, h3⟩ := famC_0 h1
  obtain ⟨hX, hY, hp, _⟩ := pairC_0 h2
  exact ⟨hX, hY, h3 f (by simp), hp, by omega, by omega⟩
structure ArOk (X Y : Cx) (f g : List (List (List Int))) : Prop where
  cX : IsC X
  cY : IsC Y
  cf : IsFam X Y f 0
  cg : IsFam X Y g 0
  p : X.p = Y.p
  l : X.dims.length = Y.dims.length
end Go.Proofs.Ytbplnadngahgaaa

namespace Go.Proofs.Ytbplnadngahgaaa
open Go
set_option maxRecDepth 100000 in
theorem iIQ_ok (vX vY vf : Value) (X : Cx) (Y : Cx) (f : List (List (List Int))) (h : Heap) (rX : RC h vX X) (rY : RC h vY Y) (rf : R3 h vf f)  : CallA Try.prog 53 #[vX, vY, vf] h fun v' h' => v' = .tuple #[.bool ((iqR X Y f).1), .int .i64 ((iqR X Y f).2)] ∧ Ext h h' := by
  obtain ⟨vdX, vmX, rfl, hdX, hmX⟩ := rX
  have hledX := RdS.le hdX
  have hlemX := RdS.le hmX
  obtain ⟨vdY, vmY, rfl, hdY, hmY⟩ := rY
  have hledY := RdS.le hdY
  have hlemY := RdS.le hmY
  have hlef := RdS.le rf
  refine callA_intro TTok (args := [_, _, _]) Try.func53 (by kernel_rfl) rfl 43 rfl (by simp) [.tmp 6, .tmp 7] rfl ?_
  simp only [idxs, Nat.reduceAdd]
  refine den_seq ?_
  refine den_region TTok ?_
  intro K hK
  simp -implicitDefEqProofs (disch := first | decide | assumption | omega) only [go_sem, RdS.len hdX sl22, RdS.idx hdX sl22, R1.intB hdX (HPres.refl _), RdS.cells hdX, RdS.len hmX sl23, RdS.idx hmX sl23, RdS.cellB hmX (HPres.refl _), RdS.cells hmX, RdS.len hdY sl22, RdS.idx hdY sl22, R1.intB hdY (HPres.refl _), RdS.cells hdY, RdS.len hmY sl23, RdS.idx hmY sl23, RdS.cellB hmY (HPres.refl _), RdS.cells hmY, RdS.len rf sl23, RdS.idx rf sl23, RdS.cellB rf (HPres.refl _), RdS.cells rf, wrap_id]
  refine op_box (cs := #[.int .i64 (X.p), vdX, vmX]) rfl ?_
  intro h0_0 e0_0 hb0_0 z0_0
  have := Ext.size e0_0
  have eB := e0_0
  have hfhb0_0 : Fresh h.size [h.size] := Fresh.one _
  have hlhb0_0 := one_lt (show h.size < h0_0.size by omega)
  try simp -implicitDefEqProofs (disch := first | decide | assumption | omega) only [go_sem, RdS.len hdX sl22, RdS.idx hdX sl22, R1.intB hdX (Ext.pres eB), RdS.cells hdX, RdS.len hmX sl23, RdS.idx hmX sl23, RdS.cellB hmX (Ext.pres eB), RdS.cells hmX, RdS.len hdY sl22, RdS.idx hdY sl22, R1.intB hdY (Ext.pres eB), RdS.cells hdY, RdS.len hmY sl23, RdS.idx hmY sl23, RdS.cellB hmY (Ext.pres eB), RdS.cells hmY, RdS.len rf sl23, RdS.idx rf sl23, RdS.cellB rf (Ext.pres eB), RdS.cells rf, BoxAt.cell hb0_0, wrap_id]
  refine op_box (cs := #[.int .i64 (Y.p), vdY, vmY]) rfl ?_
  intro h0_1 e0_1 hb0_1 z0_1
  replace hb0_0 := BoxAt.ext hb0_0 e0_1
  have := Ext.size e0_1
  replace eB := Ext.trans eB e0_1
  have hfhb0_1 : Fresh h0_0.size [h0_0.size] := Fresh.one _
  have hlhb0_1 := one_lt (show h0_0.size < h0_1.size by omega)
  try simp -implicitDefEqProofs (disch := first | decide | assumption | omega) only [go_sem, RdS.len hdX sl22, RdS.idx hdX sl22, R1.intB hdX (Ext.pres eB), RdS.cells hdX, RdS.len hmX sl23, RdS.idx hmX sl23, RdS.cellB hmX (Ext.pres eB), RdS.cells hmX, RdS.len hdY sl22, RdS.idx hdY sl22, R1.intB hdY (Ext.pres eB), RdS.cells hdY, RdS.len hmY sl23, RdS.idx hmY sl23, RdS.cellB hmY (Ext.pres eB), RdS.cells hmY, RdS.len rf sl23, RdS.idx rf sl23, RdS.cellB rf (Ext.pres eB), RdS.cells rf, BoxAt.cell hb0_0, BoxAt.cell hb0_1, wrap_id]
  refine hK _ _ ?_
  clear hK K
  refine den_seq ?_
  refine den_seq ?_
  refine den_region TTok ?_
  intro K hK
  simp -implicitDefEqProofs (disch := first | decide | assumption | omega) only [go_sem, ld30, RdS.len hdX sl22, RdS.idx hdX sl22, R1.intB hdX (Ext.pres eB), RdS.cells hdX, RdS.len hmX sl23, RdS.idx hmX sl23, RdS.cellB hmX (Ext.pres eB), RdS.cells hmX, RdS.len hdY sl22, RdS.idx hdY sl22, R1.intB hdY (Ext.pres eB), RdS.cells hdY, RdS.len hmY sl23, RdS.idx hmY sl23, RdS.cellB hmY (Ext.pres eB), RdS.cells hmY, RdS.len rf sl23, RdS.idx rf sl23, RdS.cellB rf (Ext.pres eB), RdS.cells rf, BoxAt.cell hb0_0, BoxAt.cell hb0_1, wrap_id]
  refine op_bs1F (RdS.pres rf (Ext.pres eB)) ?_
  intro v1_3 h1_3 ho1_3 e1_3
  replace hb0_0 := BoxAt.ext hb0_0 e1_3
  replace hb0_1 := BoxAt.ext hb0_1 e1_3
  have := Ext.size e1_3
  replace eB := Ext.trans eB e1_3
  have xr1 := Ext.refl h1_3
  try simp -implicitDefEqProofs (disch := first | decide | assumption | omega) only [go_sem, RdS.len hdX sl22, RdS.idx hdX sl22, R1.intB hdX (Ext.pres eB), RdS.cells hdX, RdS.len hmX sl23, RdS.idx hmX sl23, RdS.cellB hmX (Ext.pres eB), RdS.cells hmX, RdS.len hdY sl22, RdS.idx hdY sl22, R1.intB hdY (Ext.pres eB), RdS.cells hdY, RdS.len hmY sl23, RdS.idx hmY sl23, RdS.cellB hmY (Ext.pres eB), RdS.cells hmY, RdS.len rf sl23, RdS.idx rf sl23, RdS.cellB rf (Ext.pres eB), RdS.cells rf, BoxAt.cell hb0_0, BoxAt.cell hb0_1, RdS.len ho1_3 sl88, RdS.idx ho1_3 sl88, RdS.cellB ho1_3 (Ext.pres xr1), RdS.cells ho1_3, wrap_id]
  try simp -implicitDefEqProofs (disch := first | decide | assumption | omega) only [go_sem, RdS.len hdX sl22, RdS.idx hdX sl22, R1.intB hdX (Ext.pres eB), RdS.cells hdX, RdS.len hmX sl23, RdS.idx hmX sl23, RdS.cellB hmX (Ext.pres eB), RdS.cells hmX, RdS.len hdY sl22, RdS.idx hdY sl22, R1.intB hdY (Ext.pres eB), RdS.cells hdY, RdS.len hmY sl23, RdS.idx hmY sl23, RdS.cellB hmY (Ext.pres eB), RdS.cells hmY, RdS.len rf sl23, RdS.idx rf sl23, RdS.cellB rf (Ext.pres eB), RdS.cells rf, BoxAt.cell hb0_0, BoxAt.cell hb0_1, RdS.len ho1_3 sl88, RdS.idx ho1_3 sl88, RdS.cellB ho1_3 (Ext.pres xr1), RdS.cells ho1_3, wrap_id]
  refine CallA.mono (iChnC_ok _ _ _ X Y ([f]) _ ⟨_, _, rfl, (RdS.pres hdX (Ext.pres eB)), (RdS.pres hmX (Ext.pres eB))⟩ ⟨_, _, rfl, (RdS.pres hdY (Ext.pres eB)), (RdS.pres hmY (Ext.pres eB))⟩ (RdS.pres ho1_3 (Ext.pres xr1)) ) ?_
  intro v_ h1_4
  rintro ⟨rfl, e1_4⟩
  replace hb0_0 := BoxAt.ext hb0_0 e1_4
  replace hb0_1 := BoxAt.ext hb0_1 e1_4
  have := Ext.size e1_4
  replace eB := Ext.trans eB e1_4
  replace xr1 := Ext.trans xr1 e1_4
  try simp -implicitDefEqProofs (disch := first | decide | assumption | omega) only [go_sem, RdS.len hdX sl22, RdS.idx hdX sl22, R1.intB hdX (Ext.pres eB), RdS.cells hdX, RdS.len hmX sl23, RdS.idx hmX sl23, RdS.cellB hmX (Ext.pres eB), RdS.cells hmX, RdS.len hdY sl22, RdS.idx hdY sl22, R1.intB hdY (Ext.pres eB), RdS.cells hdY, RdS.len hmY sl23, RdS.idx hmY sl23, RdS.cellB hmY (Ext.pres eB), RdS.cells hmY, RdS.len rf sl23, RdS.idx rf sl23, RdS.cellB rf (Ext.pres eB), RdS.cells rf, BoxAt.cell hb0_0, BoxAt.cell hb0_1, RdS.len ho1_3 sl88, RdS.idx ho1_3 sl88, RdS.cellB ho1_3 (Ext.pres xr1), RdS.cells ho1_3, wrap_id]
  refine hK _ _ ?_
  clear hK K
  refine den_seq ?_
  refine den_region TTok ?_
  intro K hK
  simp -implicitDefEqProofs (disch := first | decide | assumption | omega) only [go_sem, RdS.len hdX sl22, RdS.idx hdX sl22, R1.intB hdX (Ext.pres eB), RdS.cells hdX, RdS.len hmX sl23, RdS.idx hmX sl23, RdS.cellB hmX (Ext.pres eB), RdS.cells hmX, RdS.len hdY sl22, RdS.idx hdY sl22, R1.intB hdY (Ext.pres eB), RdS.cells hdY, RdS.len hmY sl23, RdS.idx hmY sl23, RdS.cellB hmY (Ext.pres eB), RdS.cells hmY, RdS.len rf sl23, RdS.idx rf sl23, RdS.cellB rf (Ext.pres eB), RdS.cells rf, BoxAt.cell hb0_0, BoxAt.cell hb0_1, RdS.len ho1_3 sl88, RdS.idx ho1_3 sl88, RdS.cellB ho1_3 (Ext.pres xr1), RdS.cells ho1_3, wrap_id]
  refine hK _ _ ?_
  clear hK K
  refine den_cond rfl (fun c0 => ?_) (fun c0 => ?_)
  · try simp only [decide_eq_true_eq, decide_eq_false_iff_not, beq_iff_eq, beq_eq_false_iff_ne, bne_iff_ne, ne_eq, Bool.not_eq_true', Bool.not_eq_false', Bool.and_eq_true, Bool.or_eq_true, bne_eq_false_iff_eq, Bool.or_eq_false_iff, Bool.or_eq_true] at c0
    refine den_seq ?_
    refine den_region TTok ?_
    intro K hK
    simp -implicitDefEqProofs (disch := first | decide | assumption | omega) only [go_sem, RdS.len hdX sl22, RdS.idx hdX sl22, R1.intB hdX (Ext.pres eB), RdS.cells hdX, RdS.len hmX sl23, RdS.idx hmX sl23, RdS.cellB hmX (Ext.pres eB), RdS.cells hmX, RdS.len hdY sl22, RdS.idx hdY sl22, R1.intB hdY (Ext.pres eB), RdS.cells hdY, RdS.len hmY sl23, RdS.idx hmY sl23, RdS.cellB hmY (Ext.pres eB), RdS.cells hmY, RdS.len rf sl23, RdS.idx rf sl23, RdS.cellB rf (Ext.pres eB), RdS.cells rf, RdS.len ho1_3 sl88, RdS.idx ho1_3 sl88, RdS.cellB ho1_3 (Ext.pres xr1), RdS.cells ho1_3, wrap_id]
    refine hK _ _ ?_
    clear hK K
    refine den_ret ?_
    simp (disch := decide) only [resP_2, puts_same, puts_ne]
    have hz : iqR X Y f = (false, chnC X Y [f]) := by rw [iqR, if_neg c0]
    rw [hz]
    exact ⟨by first | rfl | trivial, eB⟩
  · try simp only [decide_eq_true_eq, decide_eq_false_iff_not, beq_iff_eq, beq_eq_false_iff_ne, bne_iff_ne, ne_eq, Bool.not_eq_true', Bool.not_eq_false', Bool.and_eq_true, Bool.or_eq_true, bne_eq_false_iff_eq, Bool.or_eq_false_iff, Bool.or_eq_true] at c0
    obtain ⟨h1_, _⟩ := chnC_0 c0
    obtain ⟨h0_, hL_⟩ := famC_0 h1_
    obtain ⟨hX, hY, hpp, hll⟩ := pairC_0 h0_
    have hlX := hX.len
    refine den_skip ?_
    refine den_seq ?_
    refine den_seq ?_
    refine den_region TTok ?_
    intro K hK
    simp -implicitDefEqProofs (disch := first | decide | assumption | omega) only [go_sem, fa30_1, ld22, RdS.len hdX sl22, RdS.idx hdX sl22, R1.intB hdX (Ext.pres eB), RdS.cells hdX, RdS.len hmX sl23, RdS.idx hmX sl23, RdS.cellB hmX (Ext.pres eB), RdS.cells hmX, RdS.len hdY sl22, RdS.idx hdY sl22, R1.intB hdY (Ext.pres eB), RdS.cells hdY, RdS.len hmY sl23, RdS.idx hmY sl23, RdS.cellB hmY (Ext.pres eB), RdS.cells hmY, RdS.len rf sl23, RdS.idx rf sl23, RdS.cellB rf (Ext.pres eB), RdS.cells rf, BoxAt.cell hb0_0, BoxAt.cell hb0_1, RdS.len ho1_3 sl88, RdS.idx ho1_3 sl88, RdS.cellB ho1_3 (Ext.pres xr1), RdS.cells ho1_3, wrap_id]
    try simp -implicitDefEqProofs (disch := first | decide | assumption | omega) only [go_sem, RdS.len hdX sl22, RdS.idx hdX sl22, R1.intB hdX (Ext.pres eB), RdS.cells hdX, RdS.len hmX sl23, RdS.idx hmX sl23, RdS.cellB hmX (Ext.pres eB), RdS.cells hmX, RdS.len hdY sl22, RdS.idx hdY sl22, R1.intB hdY (Ext.pres eB), RdS.cells hdY, RdS.len hmY sl23, RdS.idx hmY sl23, RdS.cellB hmY (Ext.pres eB), RdS.cells hmY, RdS.len rf sl23, RdS.idx rf sl23, RdS.cellB rf (Ext.pres eB), RdS.cells rf, BoxAt.cell hb0_0, BoxAt.cell hb0_1, RdS.len ho1_3 sl88, RdS.idx ho1_3 sl88, RdS.cellB ho1_3 (Ext.pres xr1), RdS.cells ho1_3, wrap_id]
    refine CallA.pure (size1_ok _ _ _ (RdS.pres hdX (Ext.pres eB))) ?_
    try simp -implicitDefEqProofs (disch := first | decide | assumption | omega) only [go_sem, RdS.len hdX sl22, RdS.idx hdX sl22, R1.intB hdX (Ext.pres eB), RdS.cells hdX, RdS.len hmX sl23, RdS.idx hmX sl23, RdS.cellB hmX (Ext.pres eB), RdS.cells hmX, RdS.len hdY sl22, RdS.idx hdY sl22, R1.intB hdY (Ext.pres eB), RdS.cells hdY, RdS.len hmY sl23, RdS.idx hmY sl23, RdS.cellB hmY (Ext.pres eB), RdS.cells hmY, RdS.len rf sl23, RdS.idx rf sl23, RdS.cellB rf (Ext.pres eB), RdS.cells rf, BoxAt.cell hb0_0, BoxAt.cell hb0_1, RdS.len ho1_3 sl88, RdS.idx ho1_3 sl88, RdS.cellB ho1_3 (Ext.pres xr1), RdS.cells ho1_3, wrap_id]
    refine hK _ _ ?_
    clear hK K
    refine den_block ?_
    refine den_sel [22, 2, 3, 4, 21] ?_
    intro env_2
    simp only [go_sem]
    refine den_loopS (σ := Nat) (fun st_ => [(22, .int .i64 (st_ : Int))]) (fun st_ H => (st_ ≤ X.dims.length) ∧ (∀ j, j < st_ → isQ X Y f j = true) ∧ (Ext h1_4 H)) (fun st_ => X.dims.length - st_) 0 ?_ ?_
    · exact ⟨by simp, fun j hj => by omega, Ext.refl _⟩
    · rintro n h5 ee4 ⟨hn, hy, cL3⟩
      replace hb0_0 := BoxAt.ext hb0_0 cL3
      replace hb0_1 := BoxAt.ext hb0_1 cL3
      have := Ext.size cL3
      replace eB := Ext.trans eB cL3
      replace xr1 := Ext.trans xr1 cL3
      simp only [List.cons_append, List.nil_append]
      refine den_seq ?_
      refine den_region TTok ?_
      intro K hK
      simp -implicitDefEqProofs (disch := first | decide | assumption | omega) only [go_sem, RdS.len hdX sl22, RdS.idx hdX sl22, R1.intB hdX (Ext.pres eB), RdS.cells hdX, RdS.len hmX sl23, RdS.idx hmX sl23, RdS.cellB hmX (Ext.pres eB), RdS.cells hmX, RdS.len hdY sl22, RdS.idx hdY sl22, R1.intB hdY (Ext.pres eB), RdS.cells hdY, RdS.len hmY sl23, RdS.idx hmY sl23, RdS.cellB hmY (Ext.pres eB), RdS.cells hmY, RdS.len rf sl23, RdS.idx rf sl23, RdS.cellB rf (Ext.pres eB), RdS.cells rf, BoxAt.cell hb0_0, BoxAt.cell hb0_1, RdS.len ho1_3 sl88, RdS.idx ho1_3 sl88, RdS.cellB ho1_3 (Ext.pres xr1), RdS.cells ho1_3, wrap_id]
      refine hK _ _ ?_
      clear hK K
      refine den_seq ?_
      refine den_cond rfl (fun c1 => ?_) (fun c1 => ?_)
      · try simp only [decide_eq_true_eq, decide_eq_false_iff_not, beq_iff_eq, beq_eq_false_iff_ne, bne_iff_ne, ne_eq, Bool.not_eq_true', Bool.not_eq_false', Bool.and_eq_true, Bool.or_eq_true, bne_eq_false_iff_eq, Bool.or_eq_false_iff, Bool.or_eq_true] at c1
        refine den_skip ?_
        refine den_seq ?_
        refine den_block ?_
        refine den_seq ?_
        refine den_region TTok ?_
        intro K hK
        simp -implicitDefEqProofs (disch := first | decide | assumption | omega) only [go_sem, RdS.len hdX sl22, RdS.idx hdX sl22, R1.intB hdX (Ext.pres eB), RdS.cells hdX, RdS.len hmX sl23, RdS.idx hmX sl23, RdS.cellB hmX (Ext.pres eB), RdS.cells hmX, RdS.len hdY sl22, RdS.idx hdY sl22, R1.intB hdY (Ext.pres eB), RdS.cells hdY, RdS.len hmY sl23, RdS.idx hmY sl23, RdS.cellB hmY (Ext.pres eB), RdS.cells hmY, RdS.len rf sl23, RdS.idx rf sl23, RdS.cellB rf (Ext.pres eB), RdS.cells rf, BoxAt.cell hb0_0, BoxAt.cell hb0_1, RdS.len ho1_3 sl88, RdS.idx ho1_3 sl88, RdS.cellB ho1_3 (Ext.pres xr1), RdS.cells ho1_3, wrap_id]
        refine hK _ _ ?_
        clear hK K
        refine den_seq ?_
        have hrk := chn_rk c0 (n := n) (by omega)
        refine den_region TTok ?_
        intro K hK
        simp -implicitDefEqProofs (disch := first | decide | assumption | omega) only [go_sem, ld30, RdS.len hdX sl22, RdS.idx hdX sl22, R1.intB hdX (Ext.pres eB), RdS.cells hdX, RdS.len hmX sl23, RdS.idx hmX sl23, RdS.cellB hmX (Ext.pres eB), RdS.cells hmX, RdS.len hdY sl22, RdS.idx hdY sl22, R1.intB hdY (Ext.pres eB), RdS.cells hdY, RdS.len hmY sl23, RdS.idx hmY sl23, RdS.cellB hmY (Ext.pres eB), RdS.cells hmY, RdS.len rf sl23, RdS.idx rf sl23, RdS.cellB rf (Ext.pres eB), RdS.cells rf, BoxAt.cell hb0_0, BoxAt.cell hb0_1, RdS.len ho1_3 sl88, RdS.idx ho1_3 sl88, RdS.cellB ho1_3 (Ext.pres xr1), RdS.cells ho1_3, wrap_id]
        try simp -implicitDefEqProofs (disch := first | decide | assumption | omega) only [go_sem, RdS.len hdX sl22, RdS.idx hdX sl22, R1.intB hdX (Ext.pres eB), RdS.cells hdX, RdS.len hmX sl23, RdS.idx hmX sl23, RdS.cellB hmX (Ext.pres eB), RdS.cells hmX, RdS.len hdY sl22, RdS.idx hdY sl22, R1.intB hdY (Ext.pres eB), RdS.cells hdY, RdS.len hmY sl23, RdS.idx hmY sl23, RdS.cellB hmY (Ext.pres eB), RdS.cells hmY, RdS.len rf sl23, RdS.idx rf sl23, RdS.cellB rf (Ext.pres eB), RdS.cells rf, BoxAt.cell hb0_0, BoxAt.cell hb0_1, RdS.len ho1_3 sl88, RdS.idx ho1_3 sl88, RdS.cellB ho1_3 (Ext.pres xr1), RdS.cells ho1_3, wrap_id]
        refine CallA.mono (iRk_ok _ _ _ X Y f (n : Int) _ ⟨_, _, rfl, (RdS.pres hdX (Ext.pres eB)), (RdS.pres hmX (Ext.pres eB))⟩ ⟨_, _, rfl, (RdS.pres hdY (Ext.pres eB)), (RdS.pres hmY (Ext.pres eB))⟩ (RdS.pres rf (Ext.pres eB)) hrk) ?_
        intro v_ h7_4
        rintro ⟨rfl, e7_4⟩
        replace hb0_0 := BoxAt.ext hb0_0 e7_4
        replace hb0_1 := BoxAt.ext hb0_1 e7_4
        have := Ext.size e7_4
        replace eB := Ext.trans eB e7_4
        replace xr1 := Ext.trans xr1 e7_4
        replace cL3 := Ext.trans cL3 e7_4
        try simp -implicitDefEqProofs (disch := first | decide | assumption | omega) only [go_sem, RdS.len hdX sl22, RdS.idx hdX sl22, R1.intB hdX (Ext.pres eB), RdS.cells hdX, RdS.len hmX sl23, RdS.idx hmX sl23, RdS.cellB hmX (Ext.pres eB), RdS.cells hmX, RdS.len hdY sl22, RdS.idx hdY sl22, R1.intB hdY (Ext.pres eB), RdS.cells hdY, RdS.len hmY sl23, RdS.idx hmY sl23, RdS.cellB hmY (Ext.pres eB), RdS.cells hmY, RdS.len rf sl23, RdS.idx rf sl23, RdS.cellB rf (Ext.pres eB), RdS.cells rf, BoxAt.cell hb0_0, BoxAt.cell hb0_1, RdS.len ho1_3 sl88, RdS.idx ho1_3 sl88, RdS.cellB ho1_3 (Ext.pres xr1), RdS.cells ho1_3, wrap_id]
        refine hK _ _ ?_
        clear hK K
        refine den_seq ?_
        refine den_merge [(41, .bool ((((homP X (n : Int)) != (rkP X Y f (n : Int))) || ((homP Y (n : Int)) != (rkP X Y f (n : Int))))))] [2, 3, 4, 21, 22] (fun H => Ext h7_4 H) ?_ ?_
          -- a way
        · refine den_region TTok ?_
          intro K hK
          simp -implicitDefEqProofs (disch := first | decide | assumption | (simp (disch := decide) only [slotOf_zero, slotOf_succ, Option.map_some, puts_same, puts_ne, gv_bool, gv_undef, tt, tf, ft, ff, eq_self, if_true, if_false, Bool.false_eq_true, Bool.not_true, Bool.not_false]; done) | omega) only [go_sem, ld30, RdS.len hdX sl22, RdS.idx hdX sl22, R1.intB hdX (Ext.pres eB), RdS.cells hdX, RdS.len hmX sl23, RdS.idx hmX sl23, RdS.cellB hmX (Ext.pres eB), RdS.cells hmX, RdS.len hdY sl22, RdS.idx hdY sl22, R1.intB hdY (Ext.pres eB), RdS.cells hdY, RdS.len hmY sl23, RdS.idx hmY sl23, RdS.cellB hmY (Ext.pres eB), RdS.cells hmY, RdS.len rf sl23, RdS.idx rf sl23, RdS.cellB rf (Ext.pres eB), RdS.cells rf, BoxAt.cell hb0_0, BoxAt.cell hb0_1, RdS.len ho1_3 sl88, RdS.idx ho1_3 sl88, RdS.cellB ho1_3 (Ext.pres xr1), RdS.cells ho1_3, wrap_id]
          try simp -implicitDefEqProofs (disch := first | decide | assumption | omega) only [go_sem, RdS.len hdX sl22, RdS.idx hdX sl22, R1.intB hdX (Ext.pres eB), RdS.cells hdX, RdS.len hmX sl23, RdS.idx hmX sl23, RdS.cellB hmX (Ext.pres eB), RdS.cells hmX, RdS.len hdY sl22, RdS.idx hdY sl22, R1.intB hdY (Ext.pres eB), RdS.cells hdY, RdS.len hmY sl23, RdS.idx hmY sl23, RdS.cellB hmY (Ext.pres eB), RdS.cells hmY, RdS.len rf sl23, RdS.idx rf sl23, RdS.cellB rf (Ext.pres eB), RdS.cells rf, BoxAt.cell hb0_0, BoxAt.cell hb0_1, RdS.len ho1_3 sl88, RdS.idx ho1_3 sl88, RdS.cellB ho1_3 (Ext.pres xr1), RdS.cells ho1_3, wrap_id]
          refine CallA.mono (iHom_ok _ X (n : Int) _ ⟨_, _, rfl, (RdS.pres hdX (Ext.pres eB)), (RdS.pres hmX (Ext.pres eB))⟩ hX (by omega)) ?_
          intro v_ h8_2
          rintro ⟨rfl, e8_2⟩
          replace hb0_0 := BoxAt.ext hb0_0 e8_2
          replace hb0_1 := BoxAt.ext hb0_1 e8_2
          have := Ext.size e8_2
          replace eB := Ext.trans eB e8_2
          replace xr1 := Ext.trans xr1 e8_2
          replace cL3 := Ext.trans cL3 e8_2
          try simp -implicitDefEqProofs (disch := first | decide | assumption | (simp (disch := decide) only [slotOf_zero, slotOf_succ, Option.map_some, puts_same, puts_ne, gv_bool, gv_undef, tt, tf, ft, ff, eq_self, if_true, if_false, Bool.false_eq_true, Bool.not_true, Bool.not_false]; done) | omega) only [go_sem, RdS.len hdX sl22, RdS.idx hdX sl22, R1.intB hdX (Ext.pres eB), RdS.cells hdX, RdS.len hmX sl23, RdS.idx hmX sl23, RdS.cellB hmX (Ext.pres eB), RdS.cells hmX, RdS.len hdY sl22, RdS.idx hdY sl22, R1.intB hdY (Ext.pres eB), RdS.cells hdY, RdS.len hmY sl23, RdS.idx hmY sl23, RdS.cellB hmY (Ext.pres eB), RdS.cells hmY, RdS.len rf sl23, RdS.idx rf sl23, RdS.cellB rf (Ext.pres eB), RdS.cells rf, BoxAt.cell hb0_0, BoxAt.cell hb0_1, RdS.len ho1_3 sl88, RdS.idx ho1_3 sl88, RdS.cellB ho1_3 (Ext.pres xr1), RdS.cells ho1_3, wrap_id]
          refine opsP_F (by simp (disch := decide) only [slotOf_zero, slotOf_succ, Option.map_some, puts_same, puts_ne, gv_bool, gv_undef, tt, tf, ft, ff, eq_self, if_true, if_false, Bool.false_eq_true, Bool.not_true, Bool.not_false]; rfl) (fun g6 => ?_) (fun g6 => ?_)
          · try simp -implicitDefEqProofs (disch := first | decide | assumption | (simp (disch := decide) only [slotOf_zero, slotOf_succ, Option.map_some, puts_same, puts_ne, gv_bool, gv_undef, tt, tf, ft, ff, eq_self, if_true, if_false, Bool.false_eq_true, Bool.not_true, Bool.not_false, g6]; done) | omega) only [go_sem, ld30, RdS.len hdX sl22, RdS.idx hdX sl22, R1.intB hdX (Ext.pres eB), RdS.cells hdX, RdS.len hmX sl23, RdS.idx hmX sl23, RdS.cellB hmX (Ext.pres eB), RdS.cells hmX, RdS.len hdY sl22, RdS.idx hdY sl22, R1.intB hdY (Ext.pres eB), RdS.cells hdY, RdS.len hmY sl23, RdS.idx hmY sl23, RdS.cellB hmY (Ext.pres eB), RdS.cells hmY, RdS.len rf sl23, RdS.idx rf sl23, RdS.cellB rf (Ext.pres eB), RdS.cells rf, BoxAt.cell hb0_0, BoxAt.cell hb0_1, RdS.len ho1_3 sl88, RdS.idx ho1_3 sl88, RdS.cellB ho1_3 (Ext.pres xr1), RdS.cells ho1_3, wrap_id, g6, eq_self, if_true, if_false, Bool.false_eq_true]
            try simp -implicitDefEqProofs (disch := first | decide | assumption | omega) only [go_sem, RdS.len hdX sl22, RdS.idx hdX sl22, R1.intB hdX (Ext.pres eB), RdS.cells hdX, RdS.len hmX sl23, RdS.idx hmX sl23, RdS.cellB hmX (Ext.pres eB), RdS.cells hmX, RdS.len hdY sl22, RdS.idx hdY sl22, R1.intB hdY (Ext.pres eB), RdS.cells hdY, RdS.len hmY sl23, RdS.idx hmY sl23, RdS.cellB hmY (Ext.pres eB), RdS.cells hmY, RdS.len rf sl23, RdS.idx rf sl23, RdS.cellB rf (Ext.pres eB), RdS.cells rf, BoxAt.cell hb0_0, BoxAt.cell hb0_1, RdS.len ho1_3 sl88, RdS.idx ho1_3 sl88, RdS.cellB ho1_3 (Ext.pres xr1), RdS.cells ho1_3, wrap_id]
            refine CallA.mono (iHom_ok _ Y (n : Int) _ ⟨_, _, rfl, (RdS.pres hdY (Ext.pres eB)), (RdS.pres hmY (Ext.pres eB))⟩ hY (by omega)) ?_
            intro v_ h8_8
            rintro ⟨rfl, e8_8⟩
            replace hb0_0 := BoxAt.ext hb0_0 e8_8
            replace hb0_1 := BoxAt.ext hb0_1 e8_8
            have := Ext.size e8_8
            replace eB := Ext.trans eB e8_8
            replace xr1 := Ext.trans xr1 e8_8
            replace cL3 := Ext.trans cL3 e8_8
            try simp -implicitDefEqProofs (disch := first | decide | assumption | (simp (disch := decide) only [slotOf_zero, slotOf_succ, Option.map_some, puts_same, puts_ne, gv_bool, gv_undef, tt, tf, ft, ff, eq_self, if_true, if_false, Bool.false_eq_true, Bool.not_true, Bool.not_false, g6]; done) | omega) only [go_sem, RdS.len hdX sl22, RdS.idx hdX sl22, R1.intB hdX (Ext.pres eB), RdS.cells hdX, RdS.len hmX sl23, RdS.idx hmX sl23, RdS.cellB hmX (Ext.pres eB), RdS.cells hmX, RdS.len hdY sl22, RdS.idx hdY sl22, R1.intB hdY (Ext.pres eB), RdS.cells hdY, RdS.len hmY sl23, RdS.idx hmY sl23, RdS.cellB hmY (Ext.pres eB), RdS.cells hmY, RdS.len rf sl23, RdS.idx rf sl23, RdS.cellB rf (Ext.pres eB), RdS.cells rf, BoxAt.cell hb0_0, BoxAt.cell hb0_1, RdS.len ho1_3 sl88, RdS.idx ho1_3 sl88, RdS.cellB ho1_3 (Ext.pres xr1), RdS.cells ho1_3, wrap_id, g6, eq_self, if_true, if_false, Bool.false_eq_true]
            refine hK _ _ ?_
            clear hK K
            refine den_stop ?_
            refine ⟨?_, (Ext.trans e8_2 e8_8)⟩
            first | (simp (disch := decide) only [go_sem, g6, eq_self, Bool.true_and, Bool.and_true, Bool.false_and, Bool.and_false, Bool.true_or, Bool.or_true, Bool.false_or, Bool.or_false, if_true, if_false, Bool.false_eq_true]; done) | simp [HasL, sel, puts_at, g6]
          · try simp -implicitDefEqProofs (disch := first | decide | assumption | (simp (disch := decide) only [slotOf_zero, slotOf_succ, Option.map_some, puts_same, puts_ne, gv_bool, gv_undef, tt, tf, ft, ff, eq_self, if_true, if_false, Bool.false_eq_true, Bool.not_true, Bool.not_false, g6]; done) | omega) only [go_sem, RdS.len hdX sl22, RdS.idx hdX sl22, R1.intB hdX (Ext.pres eB), RdS.cells hdX, RdS.len hmX sl23, RdS.idx hmX sl23, RdS.cellB hmX (Ext.pres eB), RdS.cells hmX, RdS.len hdY sl22, RdS.idx hdY sl22, R1.intB hdY (Ext.pres eB), RdS.cells hdY, RdS.len hmY sl23, RdS.idx hmY sl23, RdS.cellB hmY (Ext.pres eB), RdS.cells hmY, RdS.len rf sl23, RdS.idx rf sl23, RdS.cellB rf (Ext.pres eB), RdS.cells rf, BoxAt.cell hb0_0, BoxAt.cell hb0_1, RdS.len ho1_3 sl88, RdS.idx ho1_3 sl88, RdS.cellB ho1_3 (Ext.pres xr1), RdS.cells ho1_3, wrap_id, g6, eq_self, if_true, if_false, Bool.false_eq_true]
            refine hK _ _ ?_
            clear hK K
            refine den_stop ?_
            refine ⟨?_, e8_2⟩
            first | (simp (disch := decide) only [go_sem, g6, eq_self, Bool.true_and, Bool.and_true, Bool.false_and, Bool.and_false, Bool.true_or, Bool.or_true, Bool.false_or, Bool.or_false, if_true, if_false, Bool.false_eq_true]; done) | simp [HasL, sel, puts_at, g6]
        intro en7 h8 e9
        replace hb0_0 := BoxAt.ext hb0_0 e9
        replace hb0_1 := BoxAt.ext hb0_1 e9
        have := Ext.size e9
        replace eB := Ext.trans eB e9
        replace xr1 := Ext.trans xr1 e9
        replace cL3 := Ext.trans cL3 e9
        simp (disch := decide) only [go_sem]
        refine den_cond rfl (fun c2 => ?_) (fun c2 => ?_)
        · try simp only [decide_eq_true_eq, decide_eq_false_iff_not, beq_iff_eq, beq_eq_false_iff_ne, bne_iff_ne, ne_eq, Bool.not_eq_true', Bool.not_eq_false', Bool.and_eq_true, Bool.or_eq_true, bne_eq_false_iff_eq, Bool.or_eq_false_iff, Bool.or_eq_true] at c2
          refine den_seq ?_
          refine den_region TTok ?_
          intro K hK
          simp -implicitDefEqProofs (disch := first | decide | assumption | omega) only [go_sem, RdS.len hdX sl22, RdS.idx hdX sl22, R1.intB hdX (Ext.pres eB), RdS.cells hdX, RdS.len hmX sl23, RdS.idx hmX sl23, RdS.cellB hmX (Ext.pres eB), RdS.cells hmX, RdS.len hdY sl22, RdS.idx hdY sl22, R1.intB hdY (Ext.pres eB), RdS.cells hdY, RdS.len hmY sl23, RdS.idx hmY sl23, RdS.cellB hmY (Ext.pres eB), RdS.cells hmY, RdS.len rf sl23, RdS.idx rf sl23, RdS.cellB rf (Ext.pres eB), RdS.cells rf, RdS.len ho1_3 sl88, RdS.idx ho1_3 sl88, RdS.cellB ho1_3 (Ext.pres xr1), RdS.cells ho1_3, wrap_id]
          refine hK _ _ ?_
          clear hK K
          refine den_ret ?_
          simp (disch := decide) only [resP_2, puts_same, puts_ne]
          have hz : iqR X Y f = (false, 0) := by rw [iqR, if_pos c0, pdec_f.2 (fun hH => by
              have h1 := hH n (by omega)
              simp only [isQ, Bool.and_eq_true, beq_iff_eq] at h1
              rcases c2 with h2 | h2 <;> omega)]
          rw [hz]
          exact ⟨by first | rfl | trivial, eB⟩
        · try simp only [decide_eq_true_eq, decide_eq_false_iff_not, beq_iff_eq, beq_eq_false_iff_ne, bne_iff_ne, ne_eq, Bool.not_eq_true', Bool.not_eq_false', Bool.and_eq_true, Bool.or_eq_true, bne_eq_false_iff_eq, Bool.or_eq_false_iff, Bool.or_eq_true] at c2
          refine den_skip ?_
          refine den_blk ?_
          refine den_region TTok ?_
          intro K hK
          simp -implicitDefEqProofs (disch := first | decide | assumption | omega) only [go_sem, RdS.len hdX sl22, RdS.idx hdX sl22, R1.intB hdX (Ext.pres eB), RdS.cells hdX, RdS.len hmX sl23, RdS.idx hmX sl23, RdS.cellB hmX (Ext.pres eB), RdS.cells hmX, RdS.len hdY sl22, RdS.idx hdY sl22, R1.intB hdY (Ext.pres eB), RdS.cells hdY, RdS.len hmY sl23, RdS.idx hmY sl23, RdS.cellB hmY (Ext.pres eB), RdS.cells hmY, RdS.len rf sl23, RdS.idx rf sl23, RdS.cellB rf (Ext.pres eB), RdS.cells rf, BoxAt.cell hb0_0, BoxAt.cell hb0_1, RdS.len ho1_3 sl88, RdS.idx ho1_3 sl88, RdS.cellB ho1_3 (Ext.pres xr1), RdS.cells ho1_3, wrap_id]
          refine hK _ _ ?_
          clear hK K
          refine den_stop ?_
          exact ⟨n + 1, by simp [HasL, puts_at], ⟨by omega, (fun j hj => (Nat.lt_succ_iff_lt_or_eq.1 hj).elim (hy j) (fun e => by
  subst e
  have h1 := c2
  simp only [isQ, Bool.and_eq_true, beq_iff_eq]
  omega)), cL3⟩, by first | omega | (dsimp only; omega)⟩
      · try simp only [decide_eq_true_eq, decide_eq_false_iff_not, beq_iff_eq, beq_eq_false_iff_ne, bne_iff_ne, ne_eq, Bool.not_eq_true', Bool.not_eq_false', Bool.and_eq_true, Bool.or_eq_true, bne_eq_false_iff_eq, Bool.or_eq_false_iff, Bool.or_eq_true] at c1
        refine den_exit ?_
        refine denX_code ?_
        refine denX_stop ?_
        refine denX_hit ?_
        refine den_seq ?_
        refine den_region TTok ?_
        intro K hK
        simp -implicitDefEqProofs (disch := first | decide | assumption | omega) only [go_sem, RdS.len hdX sl22, RdS.idx hdX sl22, R1.intB hdX (Ext.pres eB), RdS.cells hdX, RdS.len hmX sl23, RdS.idx hmX sl23, RdS.cellB hmX (Ext.pres eB), RdS.cells hmX, RdS.len hdY sl22, RdS.idx hdY sl22, R1.intB hdY (Ext.pres eB), RdS.cells hdY, RdS.len hmY sl23, RdS.idx hmY sl23, RdS.cellB hmY (Ext.pres eB), RdS.cells hmY, RdS.len rf sl23, RdS.idx rf sl23, RdS.cellB rf (Ext.pres eB), RdS.cells rf, RdS.len ho1_3 sl88, RdS.idx ho1_3 sl88, RdS.cellB ho1_3 (Ext.pres xr1), RdS.cells ho1_3, wrap_id]
        refine hK _ _ ?_
        clear hK K
        refine den_ret ?_
        simp (disch := decide) only [resP_2, puts_same, puts_ne]
        have hz : iqR X Y f = (true, 0) := by rw [iqR, if_pos c0, pdec_t.2 (fun j hj => hy j (by omega))]
        rw [hz]
        exact ⟨by first | rfl | trivial, eB⟩

set_option maxRecDepth 100000 in
theorem sIQ_ok (vX vY vf : Value) (X : Cx) (Y : Cx) (f : List (List (List Int))) (h : Heap) (rX : RC h vX X) (rY : RC h vY Y) (rf : R3 h vf f)  : CallA Try.prog 52 #[vX, vY, vf] h fun v' h' => v' = .tuple #[.bool ((iqR X Y f).1), .int .i64 ((iqR X Y f).2)] ∧ Ext h h' := by
  obtain ⟨vdX, vmX, rfl, hdX, hmX⟩ := rX
  have hledX := RdS.le hdX
  have hlemX := RdS.le hmX
  obtain ⟨vdY, vmY, rfl, hdY, hmY⟩ := rY
  have hledY := RdS.le hdY
  have hlemY := RdS.le hmY
  have hlef := RdS.le rf
  refine callA_intro TTok (args := [_, _, _]) Try.func52 (by kernel_rfl) rfl 43 rfl (by simp) [.tmp 6, .tmp 7] rfl ?_
  simp only [idxs, Nat.reduceAdd]
  refine den_seq ?_
  refine den_region TTok ?_
  intro K hK
  simp -implicitDefEqProofs (disch := first | decide | assumption | omega) only [go_sem, RdS.len hdX sl22, RdS.idx hdX sl22, R1.intB hdX (HPres.refl _), RdS.cells hdX, RdS.len hmX sl23, RdS.idx hmX sl23, RdS.cellB hmX (HPres.refl _), RdS.cells hmX, RdS.len hdY sl22, RdS.idx hdY sl22, R1.intB hdY (HPres.refl _), RdS.cells hdY, RdS.len hmY sl23, RdS.idx hmY sl23, RdS.cellB hmY (HPres.refl _), RdS.cells hmY, RdS.len rf sl23, RdS.idx rf sl23, RdS.cellB rf (HPres.refl _), RdS.cells rf, wrap_id]
  refine op_box (cs := #[.int .i64 (X.p), vdX, vmX]) rfl ?_
  intro h0_0 e0_0 hb0_0 z0_0
  have := Ext.size e0_0
  have eB := e0_0
  have hfhb0_0 : Fresh h.size [h.size] := Fresh.one _
  have hlhb0_0 := one_lt (show h.size < h0_0.size by omega)
  try simp -implicitDefEqProofs (disch := first | decide | assumption | omega) only [go_sem, RdS.len hdX sl22, RdS.idx hdX sl22, R1.intB hdX (Ext.pres eB), RdS.cells hdX, RdS.len hmX sl23, RdS.idx hmX sl23, RdS.cellB hmX (Ext.pres eB), RdS.cells hmX, RdS.len hdY sl22, RdS.idx hdY sl22, R1.intB hdY (Ext.pres eB), RdS.cells hdY, RdS.len hmY sl23, RdS.idx hmY sl23, RdS.cellB hmY (Ext.pres eB), RdS.cells hmY, RdS.len rf sl23, RdS.idx rf sl23, RdS.cellB rf (Ext.pres eB), RdS.cells rf, BoxAt.cell hb0_0, wrap_id]
  refine op_box (cs := #[.int .i64 (Y.p), vdY, vmY]) rfl ?_
  intro h0_1 e0_1 hb0_1 z0_1
  replace hb0_0 := BoxAt.ext hb0_0 e0_1
  have := Ext.size e0_1
  replace eB := Ext.trans eB e0_1
  have hfhb0_1 : Fresh h0_0.size [h0_0.size] := Fresh.one _
  have hlhb0_1 := one_lt (show h0_0.size < h0_1.size by omega)
  try simp -implicitDefEqProofs (disch := first | decide | assumption | omega) only [go_sem, RdS.len hdX sl22, RdS.idx hdX sl22, R1.intB hdX (Ext.pres eB), RdS.cells hdX, RdS.len hmX sl23, RdS.idx hmX sl23, RdS.cellB hmX (Ext.pres eB), RdS.cells hmX, RdS.len hdY sl22, RdS.idx hdY sl22, R1.intB hdY (Ext.pres eB), RdS.cells hdY, RdS.len hmY sl23, RdS.idx hmY sl23, RdS.cellB hmY (Ext.pres eB), RdS.cells hmY, RdS.len rf sl23, RdS.idx rf sl23, RdS.cellB rf (Ext.pres eB), RdS.cells rf, BoxAt.cell hb0_0, BoxAt.cell hb0_1, wrap_id]
  refine hK _ _ ?_
  clear hK K
  refine den_seq ?_
  refine den_seq ?_
  refine den_region TTok ?_
  intro K hK
  simp -implicitDefEqProofs (disch := first | decide | assumption | omega) only [go_sem, ld30, RdS.len hdX sl22, RdS.idx hdX sl22, R1.intB hdX (Ext.pres eB), RdS.cells hdX, RdS.len hmX sl23, RdS.idx hmX sl23, RdS.cellB hmX (Ext.pres eB), RdS.cells hmX, RdS.len hdY sl22, RdS.idx hdY sl22, R1.intB hdY (Ext.pres eB), RdS.cells hdY, RdS.len hmY sl23, RdS.idx hmY sl23, RdS.cellB hmY (Ext.pres eB), RdS.cells hmY, RdS.len rf sl23, RdS.idx rf sl23, RdS.cellB rf (Ext.pres eB), RdS.cells rf, BoxAt.cell hb0_0, BoxAt.cell hb0_1, wrap_id]
  refine op_bs1F (RdS.pres rf (Ext.pres eB)) ?_
  intro v1_3 h1_3 ho1_3 e1_3
  replace hb0_0 := BoxAt.ext hb0_0 e1_3
  replace hb0_1 := BoxAt.ext hb0_1 e1_3
  have := Ext.size e1_3
  replace eB := Ext.trans eB e1_3
  have xr1 := Ext.refl h1_3
  try simp -implicitDefEqProofs (disch := first | decide | assumption | omega) only [go_sem, RdS.len hdX sl22, RdS.idx hdX sl22, R1.intB hdX (Ext.pres eB), RdS.cells hdX, RdS.len hmX sl23, RdS.idx hmX sl23, RdS.cellB hmX (Ext.pres eB), RdS.cells hmX, RdS.len hdY sl22, RdS.idx hdY sl22, R1.intB hdY (Ext.pres eB), RdS.cells hdY, RdS.len hmY sl23, RdS.idx hmY sl23, RdS.cellB hmY (Ext.pres eB), RdS.cells hmY, RdS.len rf sl23, RdS.idx rf sl23, RdS.cellB rf (Ext.pres eB), RdS.cells rf, BoxAt.cell hb0_0, BoxAt.cell hb0_1, RdS.len ho1_3 sl88, RdS.idx ho1_3 sl88, RdS.cellB ho1_3 (Ext.pres xr1), RdS.cells ho1_3, wrap_id]
  try simp -implicitDefEqProofs (disch := first | decide | assumption | omega) only [go_sem, RdS.len hdX sl22, RdS.idx hdX sl22, R1.intB hdX (Ext.pres eB), RdS.cells hdX, RdS.len hmX sl23, RdS.idx hmX sl23, RdS.cellB hmX (Ext.pres eB), RdS.cells hmX, RdS.len hdY sl22, RdS.idx hdY sl22, R1.intB hdY (Ext.pres eB), RdS.cells hdY, RdS.len hmY sl23, RdS.idx hmY sl23, RdS.cellB hmY (Ext.pres eB), RdS.cells hmY, RdS.len rf sl23, RdS.idx rf sl23, RdS.cellB rf (Ext.pres eB), RdS.cells rf, BoxAt.cell hb0_0, BoxAt.cell hb0_1, RdS.len ho1_3 sl88, RdS.idx ho1_3 sl88, RdS.cellB ho1_3 (Ext.pres xr1), RdS.cells ho1_3, wrap_id]
  refine CallA.mono (sChnC_ok _ _ _ X Y ([f]) _ ⟨_, _, rfl, (RdS.pres hdX (Ext.pres eB)), (RdS.pres hmX (Ext.pres eB))⟩ ⟨_, _, rfl, (RdS.pres hdY (Ext.pres eB)), (RdS.pres hmY (Ext.pres eB))⟩ (RdS.pres ho1_3 (Ext.pres xr1)) ) ?_
  intro v_ h1_4
  rintro ⟨rfl, e1_4⟩
  replace hb0_0 := BoxAt.ext hb0_0 e1_4
  replace hb0_1 := BoxAt.ext hb0_1 e1_4
  have := Ext.size e1_4
  replace eB := Ext.trans eB e1_4
  replace xr1 := Ext.trans xr1 e1_4
  try simp -implicitDefEqProofs (disch := first | decide | assumption | omega) only [go_sem, RdS.len hdX sl22, RdS.idx hdX sl22, R1.intB hdX (Ext.pres eB), RdS.cells hdX, RdS.len hmX sl23, RdS.idx hmX sl23, RdS.cellB hmX (Ext.pres eB), RdS.cells hmX, RdS.len hdY sl22, RdS.idx hdY sl22, R1.intB hdY (Ext.pres eB), RdS.cells hdY, RdS.len hmY sl23, RdS.idx hmY sl23, RdS.cellB hmY (Ext.pres eB), RdS.cells hmY, RdS.len rf sl23, RdS.idx rf sl23, RdS.cellB rf (Ext.pres eB), RdS.cells rf, BoxAt.cell hb0_0, BoxAt.cell hb0_1, RdS.len ho1_3 sl88, RdS.idx ho1_3 sl88, RdS.cellB ho1_3 (Ext.pres xr1), RdS.cells ho1_3, wrap_id]
  refine hK _ _ ?_
  clear hK K
  refine den_seq ?_
  refine den_region TTok ?_
  intro K hK
  simp -implicitDefEqProofs (disch := first | decide | assumption | omega) only [go_sem, RdS.len hdX sl22, RdS.idx hdX sl22, R1.intB hdX (Ext.pres eB), RdS.cells hdX, RdS.len hmX sl23, RdS.idx hmX sl23, RdS.cellB hmX (Ext.pres eB), RdS.cells hmX, RdS.len hdY sl22, RdS.idx hdY sl22, R1.intB hdY (Ext.pres eB), RdS.cells hdY, RdS.len hmY sl23, RdS.idx hmY sl23, RdS.cellB hmY (Ext.pres eB), RdS.cells hmY, RdS.len rf sl23, RdS.idx rf sl23, RdS.cellB rf (Ext.pres eB), RdS.cells rf, BoxAt.cell hb0_0, BoxAt.cell hb0_1, RdS.len ho1_3 sl88, RdS.idx ho1_3 sl88, RdS.cellB ho1_3 (Ext.pres xr1), RdS.cells ho1_3, wrap_id]
  refine hK _ _ ?_
  clear hK K
  refine den_cond rfl (fun c0 => ?_) (fun c0 => ?_)
  · try simp only [decide_eq_true_eq, decide_eq_false_iff_not, beq_iff_eq, beq_eq_false_iff_ne, bne_iff_ne, ne_eq, Bool.not_eq_true', Bool.not_eq_false', Bool.and_eq_true, Bool.or_eq_true, bne_eq_false_iff_eq, Bool.or_eq_false_iff, Bool.or_eq_true] at c0
    refine den_seq ?_
    refine den_region TTok ?_
    intro K hK
    simp -implicitDefEqProofs (disch := first | decide | assumption | omega) only [go_sem, RdS.len hdX sl22, RdS.idx hdX sl22, R1.intB hdX (Ext.pres eB), RdS.cells hdX, RdS.len hmX sl23, RdS.idx hmX sl23, RdS.cellB hmX (Ext.pres eB), RdS.cells hmX, RdS.len hdY sl22, RdS.idx hdY sl22, R1.intB hdY (Ext.pres eB), RdS.cells hdY, RdS.len hmY sl23, RdS.idx hmY sl23, RdS.cellB hmY (Ext.pres eB), RdS.cells hmY, RdS.len rf sl23, RdS.idx rf sl23, RdS.cellB rf (Ext.pres eB), RdS.cells rf, RdS.len ho1_3 sl88, RdS.idx ho1_3 sl88, RdS.cellB ho1_3 (Ext.pres xr1), RdS.cells ho1_3, wrap_id]
    refine hK _ _ ?_
    clear hK K
    refine den_ret ?_
    simp (disch := decide) only [resP_2, puts_same, puts_ne]
    have hz : iqR X Y f = (false, chnC X Y [f]) := by rw [iqR, if_neg c0]
    rw [hz]
    exact ⟨by first | rfl | trivial, eB⟩
  · try simp only [decide_eq_true_eq, decide_eq_false_iff_not, beq_iff_eq, beq_eq_false_iff_ne, bne_iff_ne, ne_eq, Bool.not_eq_true', Bool.not_eq_false', Bool.and_eq_true, Bool.or_eq_true, bne_eq_false_iff_eq, Bool.or_eq_false_iff, Bool.or_eq_true] at c0
    obtain ⟨h1_, _⟩ := chnC_0 c0
    obtain ⟨h0_, hL_⟩ := famC_0 h1_
    obtain ⟨hX, hY, hpp, hll⟩ := pairC_0 h0_
    have hlX := hX.len
    refine den_skip ?_
    refine den_seq ?_
    refine den_seq ?_
    refine den_region TTok ?_
    intro K hK
    simp -implicitDefEqProofs (disch := first | decide | assumption | omega) only [go_sem, RdS.len hdX sl22, RdS.idx hdX sl22, R1.intB hdX (Ext.pres eB), RdS.cells hdX, RdS.len hmX sl23, RdS.idx hmX sl23, RdS.cellB hmX (Ext.pres eB), RdS.cells hmX, RdS.len hdY sl22, RdS.idx hdY sl22, R1.intB hdY (Ext.pres eB), RdS.cells hdY, RdS.len hmY sl23, RdS.idx hmY sl23, RdS.cellB hmY (Ext.pres eB), RdS.cells hmY, RdS.len rf sl23, RdS.idx rf sl23, RdS.cellB rf (Ext.pres eB), RdS.cells rf, BoxAt.cell hb0_0, BoxAt.cell hb0_1, RdS.len ho1_3 sl88, RdS.idx ho1_3 sl88, RdS.cellB ho1_3 (Ext.pres xr1), RdS.cells ho1_3, wrap_id]
    refine hK _ _ ?_
    clear hK K
    refine den_block ?_
    refine den_sel [9, 2, 3, 4] ?_
    intro env_2
    simp only [go_sem]
    refine den_loopS (σ := Nat) (fun st_ => [(9, .int .i64 (st_ : Int))]) (fun st_ H => (st_ ≤ X.dims.length) ∧ (∀ j, j < st_ → isQ X Y f j = true) ∧ (Ext h1_4 H)) (fun st_ => X.dims.length - st_) 0 ?_ ?_
    · exact ⟨by simp, fun j hj => by omega, Ext.refl _⟩
    · rintro n h5 ee4 ⟨hn, hy, cL3⟩
      replace hb0_0 := BoxAt.ext hb0_0 cL3
      replace hb0_1 := BoxAt.ext hb0_1 cL3
      have := Ext.size cL3
      replace eB := Ext.trans eB cL3
      replace xr1 := Ext.trans xr1 cL3
      simp only [List.cons_append, List.nil_append]
      refine den_seq ?_
      refine den_seq ?_
      refine den_region TTok ?_
      intro K hK
      simp -implicitDefEqProofs (disch := first | decide | assumption | omega) only [go_sem, fa30_1, ld22, RdS.len hdX sl22, RdS.idx hdX sl22, R1.intB hdX (Ext.pres eB), RdS.cells hdX, RdS.len hmX sl23, RdS.idx hmX sl23, RdS.cellB hmX (Ext.pres eB), RdS.cells hmX, RdS.len hdY sl22, RdS.idx hdY sl22, R1.intB hdY (Ext.pres eB), RdS.cells hdY, RdS.len hmY sl23, RdS.idx hmY sl23, RdS.cellB hmY (Ext.pres eB), RdS.cells hmY, RdS.len rf sl23, RdS.idx rf sl23, RdS.cellB rf (Ext.pres eB), RdS.cells rf, BoxAt.cell hb0_0, BoxAt.cell hb0_1, RdS.len ho1_3 sl88, RdS.idx ho1_3 sl88, RdS.cellB ho1_3 (Ext.pres xr1), RdS.cells ho1_3, wrap_id]
      refine hK _ _ ?_
      clear hK K
      refine den_cond rfl (fun c1 => ?_) (fun c1 => ?_)
      · try simp only [decide_eq_true_eq, decide_eq_false_iff_not, beq_iff_eq, beq_eq_false_iff_ne, bne_iff_ne, ne_eq, Bool.not_eq_true', Bool.not_eq_false', Bool.and_eq_true, Bool.or_eq_true, bne_eq_false_iff_eq, Bool.or_eq_false_iff, Bool.or_eq_true] at c1
        refine den_skip ?_
        refine den_seq ?_
        refine den_block ?_
        refine den_seq ?_
        have hrk := chn_rk c0 (n := n) (by omega)
        refine den_region TTok ?_
        intro K hK
        simp -implicitDefEqProofs (disch := first | decide | assumption | omega) only [go_sem, ld30, RdS.len hdX sl22, RdS.idx hdX sl22, R1.intB hdX (Ext.pres eB), RdS.cells hdX, RdS.len hmX sl23, RdS.idx hmX sl23, RdS.cellB hmX (Ext.pres eB), RdS.cells hmX, RdS.len hdY sl22, RdS.idx hdY sl22, R1.intB hdY (Ext.pres eB), RdS.cells hdY, RdS.len hmY sl23, RdS.idx hmY sl23, RdS.cellB hmY (Ext.pres eB), RdS.cells hmY, RdS.len rf sl23, RdS.idx rf sl23, RdS.cellB rf (Ext.pres eB), RdS.cells rf, BoxAt.cell hb0_0, BoxAt.cell hb0_1, RdS.len ho1_3 sl88, RdS.idx ho1_3 sl88, RdS.cellB ho1_3 (Ext.pres xr1), RdS.cells ho1_3, wrap_id]
        try simp -implicitDefEqProofs (disch := first | decide | assumption | omega) only [go_sem, RdS.len hdX sl22, RdS.idx hdX sl22, R1.intB hdX (Ext.pres eB), RdS.cells hdX, RdS.len hmX sl23, RdS.idx hmX sl23, RdS.cellB hmX (Ext.pres eB), RdS.cells hmX, RdS.len hdY sl22, RdS.idx hdY sl22, R1.intB hdY (Ext.pres eB), RdS.cells hdY, RdS.len hmY sl23, RdS.idx hmY sl23, RdS.cellB hmY (Ext.pres eB), RdS.cells hmY, RdS.len rf sl23, RdS.idx rf sl23, RdS.cellB rf (Ext.pres eB), RdS.cells rf, BoxAt.cell hb0_0, BoxAt.cell hb0_1, RdS.len ho1_3 sl88, RdS.idx ho1_3 sl88, RdS.cellB ho1_3 (Ext.pres xr1), RdS.cells ho1_3, wrap_id]
        refine CallA.mono (sRk_ok _ _ _ X Y f (n : Int) _ ⟨_, _, rfl, (RdS.pres hdX (Ext.pres eB)), (RdS.pres hmX (Ext.pres eB))⟩ ⟨_, _, rfl, (RdS.pres hdY (Ext.pres eB)), (RdS.pres hmY (Ext.pres eB))⟩ (RdS.pres rf (Ext.pres eB)) hrk) ?_
        intro v_ h7_4
        rintro ⟨rfl, e7_4⟩
        replace hb0_0 := BoxAt.ext hb0_0 e7_4
        replace hb0_1 := BoxAt.ext hb0_1 e7_4
        have := Ext.size e7_4
        replace eB := Ext.trans eB e7_4
        replace xr1 := Ext.trans xr1 e7_4
        replace cL3 := Ext.trans cL3 e7_4
        try simp -implicitDefEqProofs (disch := first | decide | assumption | omega) only [go_sem, RdS.len hdX sl22, RdS.idx hdX sl22, R1.intB hdX (Ext.pres eB), RdS.cells hdX, RdS.len hmX sl23, RdS.idx hmX sl23, RdS.cellB hmX (Ext.pres eB), RdS.cells hmX, RdS.len hdY sl22, RdS.idx hdY sl22, R1.intB hdY (Ext.pres eB), RdS.cells hdY, RdS.len hmY sl23, RdS.idx hmY sl23, RdS.cellB hmY (Ext.pres eB), RdS.cells hmY, RdS.len rf sl23, RdS.idx rf sl23, RdS.cellB rf (Ext.pres eB), RdS.cells rf, BoxAt.cell hb0_0, BoxAt.cell hb0_1, RdS.len ho1_3 sl88, RdS.idx ho1_3 sl88, RdS.cellB ho1_3 (Ext.pres xr1), RdS.cells ho1_3, wrap_id]
        refine hK _ _ ?_
        clear hK K
        refine den_seq ?_
        refine den_merge [(42, .bool ((((rkP X Y f (n : Int)) != (homP X (n : Int))) || ((rkP X Y f (n : Int)) != (homP Y (n : Int))))))] [2, 3, 4, 9] (fun H => Ext h7_4 H) ?_ ?_
          -- a way
        · refine den_region TTok ?_
          intro K hK
          simp -implicitDefEqProofs (disch := first | decide | assumption | (simp (disch := decide) only [slotOf_zero, slotOf_succ, Option.map_some, puts_same, puts_ne, gv_bool, gv_undef, tt, tf, ft, ff, eq_self, if_true, if_false, Bool.false_eq_true, Bool.not_true, Bool.not_false]; done) | omega) only [go_sem, ld30, RdS.len hdX sl22, RdS.idx hdX sl22, R1.intB hdX (Ext.pres eB), RdS.cells hdX, RdS.len hmX sl23, RdS.idx hmX sl23, RdS.cellB hmX (Ext.pres eB), RdS.cells hmX, RdS.len hdY sl22, RdS.idx hdY sl22, R1.intB hdY (Ext.pres eB), RdS.cells hdY, RdS.len hmY sl23, RdS.idx hmY sl23, RdS.cellB hmY (Ext.pres eB), RdS.cells hmY, RdS.len rf sl23, RdS.idx rf sl23, RdS.cellB rf (Ext.pres eB), RdS.cells rf, BoxAt.cell hb0_0, BoxAt.cell hb0_1, RdS.len ho1_3 sl88, RdS.idx ho1_3 sl88, RdS.cellB ho1_3 (Ext.pres xr1), RdS.cells ho1_3, wrap_id]
          try simp -implicitDefEqProofs (disch := first | decide | assumption | omega) only [go_sem, RdS.len hdX sl22, RdS.idx hdX sl22, R1.intB hdX (Ext.pres eB), RdS.cells hdX, RdS.len hmX sl23, RdS.idx hmX sl23, RdS.cellB hmX (Ext.pres eB), RdS.cells hmX, RdS.len hdY sl22, RdS.idx hdY sl22, R1.intB hdY (Ext.pres eB), RdS.cells hdY, RdS.len hmY sl23, RdS.idx hmY sl23, RdS.cellB hmY (Ext.pres eB), RdS.cells hmY, RdS.len rf sl23, RdS.idx rf sl23, RdS.cellB rf (Ext.pres eB), RdS.cells rf, BoxAt.cell hb0_0, BoxAt.cell hb0_1, RdS.len ho1_3 sl88, RdS.idx ho1_3 sl88, RdS.cellB ho1_3 (Ext.pres xr1), RdS.cells ho1_3, wrap_id]
          refine CallA.mono (sHom_ok _ X (n : Int) _ ⟨_, _, rfl, (RdS.pres hdX (Ext.pres eB)), (RdS.pres hmX (Ext.pres eB))⟩ hX (by omega)) ?_
          intro v_ h8_3
          rintro ⟨rfl, e8_3⟩
          replace hb0_0 := BoxAt.ext hb0_0 e8_3
          replace hb0_1 := BoxAt.ext hb0_1 e8_3
          have := Ext.size e8_3
          replace eB := Ext.trans eB e8_3
          replace xr1 := Ext.trans xr1 e8_3
          replace cL3 := Ext.trans cL3 e8_3
          try simp -implicitDefEqProofs (disch := first | decide | assumption | (simp (disch := decide) only [slotOf_zero, slotOf_succ, Option.map_some, puts_same, puts_ne, gv_bool, gv_undef, tt, tf, ft, ff, eq_self, if_true, if_false, Bool.false_eq_true, Bool.not_true, Bool.not_false]; done) | omega) only [go_sem, RdS.len hdX sl22, RdS.idx hdX sl22, R1.intB hdX (Ext.pres eB), RdS.cells hdX, RdS.len hmX sl23, RdS.idx hmX sl23, RdS.cellB hmX (Ext.pres eB), RdS.cells hmX, RdS.len hdY sl22, RdS.idx hdY sl22, R1.intB hdY (Ext.pres eB), RdS.cells hdY, RdS.len hmY sl23, RdS.idx hmY sl23, RdS.cellB hmY (Ext.pres eB), RdS.cells hmY, RdS.len rf sl23, RdS.idx rf sl23, RdS.cellB rf (Ext.pres eB), RdS.cells rf, BoxAt.cell hb0_0, BoxAt.cell hb0_1, RdS.len ho1_3 sl88, RdS.idx ho1_3 sl88, RdS.cellB ho1_3 (Ext.pres xr1), RdS.cells ho1_3, wrap_id]
          refine opsP_F (by simp (disch := decide) only [slotOf_zero, slotOf_succ, Option.map_some, puts_same, puts_ne, gv_bool, gv_undef, tt, tf, ft, ff, eq_self, if_true, if_false, Bool.false_eq_true, Bool.not_true, Bool.not_false]; rfl) (fun g6 => ?_) (fun g6 => ?_)
          · try simp -implicitDefEqProofs (disch := first | decide | assumption | (simp (disch := decide) only [slotOf_zero, slotOf_succ, Option.map_some, puts_same, puts_ne, gv_bool, gv_undef, tt, tf, ft, ff, eq_self, if_true, if_false, Bool.false_eq_true, Bool.not_true, Bool.not_false, g6]; done) | omega) only [go_sem, ld30, RdS.len hdX sl22, RdS.idx hdX sl22, R1.intB hdX (Ext.pres eB), RdS.cells hdX, RdS.len hmX sl23, RdS.idx hmX sl23, RdS.cellB hmX (Ext.pres eB), RdS.cells hmX, RdS.len hdY sl22, RdS.idx hdY sl22, R1.intB hdY (Ext.pres eB), RdS.cells hdY, RdS.len hmY sl23, RdS.idx hmY sl23, RdS.cellB hmY (Ext.pres eB), RdS.cells hmY, RdS.len rf sl23, RdS.idx rf sl23, RdS.cellB rf (Ext.pres eB), RdS.cells rf, BoxAt.cell hb0_0, BoxAt.cell hb0_1, RdS.len ho1_3 sl88, RdS.idx ho1_3 sl88, RdS.cellB ho1_3 (Ext.pres xr1), RdS.cells ho1_3, wrap_id, g6, eq_self, if_true, if_false, Bool.false_eq_true]
            try simp -implicitDefEqProofs (disch := first | decide | assumption | omega) only [go_sem, RdS.len hdX sl22, RdS.idx hdX sl22, R1.intB hdX (Ext.pres eB), RdS.cells hdX, RdS.len hmX sl23, RdS.idx hmX sl23, RdS.cellB hmX (Ext.pres eB), RdS.cells hmX, RdS.len hdY sl22, RdS.idx hdY sl22, R1.intB hdY (Ext.pres eB), RdS.cells hdY, RdS.len hmY sl23, RdS.idx hmY sl23, RdS.cellB hmY (Ext.pres eB), RdS.cells hmY, RdS.len rf sl23, RdS.idx rf sl23, RdS.cellB rf (Ext.pres eB), RdS.cells rf, BoxAt.cell hb0_0, BoxAt.cell hb0_1, RdS.len ho1_3 sl88, RdS.idx ho1_3 sl88, RdS.cellB ho1_3 (Ext.pres xr1), RdS.cells ho1_3, wrap_id]
            refine CallA.mono (sHom_ok _ Y (n : Int) _ ⟨_, _, rfl, (RdS.pres hdY (Ext.pres eB)), (RdS.pres hmY (Ext.pres eB))⟩ hY (by omega)) ?_
            intro v_ h8_9
            rintro ⟨rfl, e8_9⟩
            replace hb0_0 := BoxAt.ext hb0_0 e8_9
            replace hb0_1 := BoxAt.ext hb0_1 e8_9
            have := Ext.size e8_9
            replace eB := Ext.trans eB e8_9
            replace xr1 := Ext.trans xr1 e8_9
            replace cL3 := Ext.trans cL3 e8_9
            try simp -implicitDefEqProofs (disch := first | decide | assumption | (simp (disch := decide) only [slotOf_zero, slotOf_succ, Option.map_some, puts_same, puts_ne, gv_bool, gv_undef, tt, tf, ft, ff, eq_self, if_true, if_false, Bool.false_eq_true, Bool.not_true, Bool.not_false, g6]; done) | omega) only [go_sem, RdS.len hdX sl22, RdS.idx hdX sl22, R1.intB hdX (Ext.pres eB), RdS.cells hdX, RdS.len hmX sl23, RdS.idx hmX sl23, RdS.cellB hmX (Ext.pres eB), RdS.cells hmX, RdS.len hdY sl22, RdS.idx hdY sl22, R1.intB hdY (Ext.pres eB), RdS.cells hdY, RdS.len hmY sl23, RdS.idx hmY sl23, RdS.cellB hmY (Ext.pres eB), RdS.cells hmY, RdS.len rf sl23, RdS.idx rf sl23, RdS.cellB rf (Ext.pres eB), RdS.cells rf, BoxAt.cell hb0_0, BoxAt.cell hb0_1, RdS.len ho1_3 sl88, RdS.idx ho1_3 sl88, RdS.cellB ho1_3 (Ext.pres xr1), RdS.cells ho1_3, wrap_id, g6, eq_self, if_true, if_false, Bool.false_eq_true]
            refine hK _ _ ?_
            clear hK K
            refine den_stop ?_
            refine ⟨?_, (Ext.trans e8_3 e8_9)⟩
            first | (simp (disch := decide) only [go_sem, g6, eq_self, Bool.true_and, Bool.and_true, Bool.false_and, Bool.and_false, Bool.true_or, Bool.or_true, Bool.false_or, Bool.or_false, if_true, if_false, Bool.false_eq_true]; done) | simp [HasL, sel, puts_at, g6]
          · try simp -implicitDefEqProofs (disch := first | decide | assumption | (simp (disch := decide) only [slotOf_zero, slotOf_succ, Option.map_some, puts_same, puts_ne, gv_bool, gv_undef, tt, tf, ft, ff, eq_self, if_true, if_false, Bool.false_eq_true, Bool.not_true, Bool.not_false, g6]; done) | omega) only [go_sem, RdS.len hdX sl22, RdS.idx hdX sl22, R1.intB hdX (Ext.pres eB), RdS.cells hdX, RdS.len hmX sl23, RdS.idx hmX sl23, RdS.cellB hmX (Ext.pres eB), RdS.cells hmX, RdS.len hdY sl22, RdS.idx hdY sl22, R1.intB hdY (Ext.pres eB), RdS.cells hdY, RdS.len hmY sl23, RdS.idx hmY sl23, RdS.cellB hmY (Ext.pres eB), RdS.cells hmY, RdS.len rf sl23, RdS.idx rf sl23, RdS.cellB rf (Ext.pres eB), RdS.cells rf, BoxAt.cell hb0_0, BoxAt.cell hb0_1, RdS.len ho1_3 sl88, RdS.idx ho1_3 sl88, RdS.cellB ho1_3 (Ext.pres xr1), RdS.cells ho1_3, wrap_id, g6, eq_self, if_true, if_false, Bool.false_eq_true]
            refine hK _ _ ?_
            clear hK K
            refine den_stop ?_
            refine ⟨?_, e8_3⟩
            first | (simp (disch := decide) only [go_sem, g6, eq_self, Bool.true_and, Bool.and_true, Bool.false_and, Bool.and_false, Bool.true_or, Bool.or_true, Bool.false_or, Bool.or_false, if_true, if_false, Bool.false_eq_true]; done) | simp [HasL, sel, puts_at, g6]
        intro en7 h8 e9
        replace hb0_0 := BoxAt.ext hb0_0 e9
        replace hb0_1 := BoxAt.ext hb0_1 e9
        have := Ext.size e9
        replace eB := Ext.trans eB e9
        replace xr1 := Ext.trans xr1 e9
        replace cL3 := Ext.trans cL3 e9
        simp (disch := decide) only [go_sem]
        refine den_cond rfl (fun c2 => ?_) (fun c2 => ?_)
        · try simp only [decide_eq_true_eq, decide_eq_false_iff_not, beq_iff_eq, beq_eq_false_iff_ne, bne_iff_ne, ne_eq, Bool.not_eq_true', Bool.not_eq_false', Bool.and_eq_true, Bool.or_eq_true, bne_eq_false_iff_eq, Bool.or_eq_false_iff, Bool.or_eq_true] at c2
          refine den_seq ?_
          refine den_region TTok ?_
          intro K hK
          simp -implicitDefEqProofs (disch := first | decide | assumption | omega) only [go_sem, RdS.len hdX sl22, RdS.idx hdX sl22, R1.intB hdX (Ext.pres eB), RdS.cells hdX, RdS.len hmX sl23, RdS.idx hmX sl23, RdS.cellB hmX (Ext.pres eB), RdS.cells hmX, RdS.len hdY sl22, RdS.idx hdY sl22, R1.intB hdY (Ext.pres eB), RdS.cells hdY, RdS.len hmY sl23, RdS.idx hmY sl23, RdS.cellB hmY (Ext.pres eB), RdS.cells hmY, RdS.len rf sl23, RdS.idx rf sl23, RdS.cellB rf (Ext.pres eB), RdS.cells rf, RdS.len ho1_3 sl88, RdS.idx ho1_3 sl88, RdS.cellB ho1_3 (Ext.pres xr1), RdS.cells ho1_3, wrap_id]
          refine hK _ _ ?_
          clear hK K
          refine den_ret ?_
          simp (disch := decide) only [resP_2, puts_same, puts_ne]
          have hz : iqR X Y f = (false, 0) := by rw [iqR, if_pos c0, pdec_f.2 (fun hH => by
              have h1 := hH n (by omega)
              simp only [isQ, Bool.and_eq_true, beq_iff_eq] at h1
              rcases c2 with h2 | h2 <;> omega)]
          rw [hz]
          exact ⟨by first | rfl | trivial, eB⟩
        · try simp only [decide_eq_true_eq, decide_eq_false_iff_not, beq_iff_eq, beq_eq_false_iff_ne, bne_iff_ne, ne_eq, Bool.not_eq_true', Bool.not_eq_false', Bool.and_eq_true, Bool.or_eq_true, bne_eq_false_iff_eq, Bool.or_eq_false_iff, Bool.or_eq_true] at c2
          refine den_skip ?_
          refine den_blk ?_
          refine den_region TTok ?_
          intro K hK
          simp -implicitDefEqProofs (disch := first | decide | assumption | omega) only [go_sem, RdS.len hdX sl22, RdS.idx hdX sl22, R1.intB hdX (Ext.pres eB), RdS.cells hdX, RdS.len hmX sl23, RdS.idx hmX sl23, RdS.cellB hmX (Ext.pres eB), RdS.cells hmX, RdS.len hdY sl22, RdS.idx hdY sl22, R1.intB hdY (Ext.pres eB), RdS.cells hdY, RdS.len hmY sl23, RdS.idx hmY sl23, RdS.cellB hmY (Ext.pres eB), RdS.cells hmY, RdS.len rf sl23, RdS.idx rf sl23, RdS.cellB rf (Ext.pres eB), RdS.cells rf, BoxAt.cell hb0_0, BoxAt.cell hb0_1, RdS.len ho1_3 sl88, RdS.idx ho1_3 sl88, RdS.cellB ho1_3 (Ext.pres xr1), RdS.cells ho1_3, wrap_id]
          refine hK _ _ ?_
          clear hK K
          refine den_stop ?_
          exact ⟨n + 1, by simp [HasL, puts_at], ⟨by omega, (fun j hj => (Nat.lt_succ_iff_lt_or_eq.1 hj).elim (hy j) (fun e => by
  subst e
  have h1 := c2
  simp only [isQ, Bool.and_eq_true, beq_iff_eq]
  omega)), cL3⟩, by first | omega | (dsimp only; omega)⟩
      · try simp only [decide_eq_true_eq, decide_eq_false_iff_not, beq_iff_eq, beq_eq_false_iff_ne, bne_iff_ne, ne_eq, Bool.not_eq_true', Bool.not_eq_false', Bool.and_eq_true, Bool.or_eq_true, bne_eq_false_iff_eq, Bool.or_eq_false_iff, Bool.or_eq_true] at c1
        refine den_exit ?_
        refine denX_code ?_
        refine denX_stop ?_
        refine denX_hit ?_
        refine den_seq ?_
        refine den_region TTok ?_
        intro K hK
        simp -implicitDefEqProofs (disch := first | decide | assumption | omega) only [go_sem, RdS.len hdX sl22, RdS.idx hdX sl22, R1.intB hdX (Ext.pres eB), RdS.cells hdX, RdS.len hmX sl23, RdS.idx hmX sl23, RdS.cellB hmX (Ext.pres eB), RdS.cells hmX, RdS.len hdY sl22, RdS.idx hdY sl22, R1.intB hdY (Ext.pres eB), RdS.cells hdY, RdS.len hmY sl23, RdS.idx hmY sl23, RdS.cellB hmY (Ext.pres eB), RdS.cells hmY, RdS.len rf sl23, RdS.idx rf sl23, RdS.cellB rf (Ext.pres eB), RdS.cells rf, RdS.len ho1_3 sl88, RdS.idx ho1_3 sl88, RdS.cellB ho1_3 (Ext.pres xr1), RdS.cells ho1_3, wrap_id]
        refine hK _ _ ?_
        clear hK K
        refine den_ret ?_
        simp (disch := decide) only [resP_2, puts_same, puts_ne]
        have hz : iqR X Y f = (true, 0) := by rw [iqR, if_pos c0, pdec_t.2 (fun j hj => hy j (by omega))]
        rw [hz]
        exact ⟨by first | rfl | trivial, eB⟩
end Go.Proofs.Ytbplnadngahgaaa

namespace Go.Proofs.Ytbplnadngahgaaa
open Go
set_option maxRecDepth 100000 in
set_option maxHeartbeats 4000000 in
theorem exactIsQuasi_law (vX vY vf : Value) (X : Cx) (Y : Cx) (f : List (List (List Int))) (h : Heap) (rX : RC h vX X) (rY : RC h vY Y) (rf : R3 h vf f)  : CallA Try.prog 14 #[vX, vY, vf] h fun v' h' => v' = .bool (true) ∧ Ext h h' := by
  obtain ⟨vdX, vmX, rfl, hdX, hmX⟩ := rX
  have hledX := RdS.le hdX
  have hlemX := RdS.le hmX
  obtain ⟨vdY, vmY, rfl, hdY, hmY⟩ := rY
  have hledY := RdS.le hdY
  have hlemY := RdS.le hmY
  have hlef := RdS.le rf
  refine callA_intro TTok (args := [_, _, _]) Try.func14 (by kernel_rfl) rfl 76 rfl (by simp) [.tmp 6] rfl ?_
  simp only [idxs, Nat.reduceAdd]
  refine den_seq ?_
  refine den_region TTok ?_
  intro K hK
  simp -implicitDefEqProofs (disch := first | decide | assumption | omega) only [go_sem, wrap_id]
  refine op_box (cs := #[.int .i64 (X.p), vdX, vmX]) rfl ?_
  intro h0_0 e0_0 hb0_0 z0_0
  have := Ext.size e0_0
  have eB := e0_0
  have hfhb0_0 : Fresh h.size [h.size] := Fresh.one _
  have hlhb0_0 := one_lt (show h.size < h0_0.size by omega)
  try simp -implicitDefEqProofs (disch := first | decide | assumption | omega) only [go_sem, BoxAt.cell hb0_0, wrap_id]
  refine op_box (cs := #[.int .i64 (Y.p), vdY, vmY]) rfl ?_
  intro h0_1 e0_1 hb0_1 z0_1
  replace hb0_0 := BoxAt.ext hb0_0 e0_1
  have := Ext.size e0_1
  replace eB := Ext.trans eB e0_1
  have hfhb0_1 : Fresh h0_0.size [h0_0.size] := Fresh.one _
  have hlhb0_1 := one_lt (show h0_0.size < h0_1.size by omega)
  try simp -implicitDefEqProofs (disch := first | decide | assumption | omega) only [go_sem, BoxAt.cell hb0_0, BoxAt.cell hb0_1, wrap_id]
  refine hK _ _ ?_
  clear hK K
  refine den_seq ?_
  refine den_region TTok ?_
  intro K hK
  simp -implicitDefEqProofs (disch := first | decide | assumption | omega) only [go_sem, BoxAt.cell hb0_0, BoxAt.cell hb0_1, wrap_id]
  refine hK _ _ ?_
  clear hK K
  refine den_seq ?_
  refine den_region TTok ?_
  intro K hK
  simp -implicitDefEqProofs (disch := first | decide | assumption | omega) only [go_sem, ld25, BoxAt.cell hb0_0, BoxAt.cell hb0_1, wrap_id]
  try simp -implicitDefEqProofs (disch := first | decide | assumption | omega) only [go_sem, BoxAt.cell hb0_0, BoxAt.cell hb0_1, wrap_id]
  refine CallA.mono (szC_ok _ X _ _ ⟨_, _, rfl, (RdS.pres hdX (Ext.pres eB)), (RdS.pres hmX (Ext.pres eB))⟩ (by omega) (by omega)) ?_
  intro v_ h2_2
  rintro ⟨rfl, e2_2⟩
  replace hb0_0 := BoxAt.ext hb0_0 e2_2
  replace hb0_1 := BoxAt.ext hb0_1 e2_2
  have := Ext.size e2_2
  replace eB := Ext.trans eB e2_2
  have := szC_le X (1048576 : Int) (by omega)
  try simp -implicitDefEqProofs (disch := first | decide | assumption | omega) only [go_sem, BoxAt.cell hb0_0, BoxAt.cell hb0_1, wrap_id]
  refine hK _ _ ?_
  clear hK K
  refine den_seq ?_
  refine den_seq ?_
  refine den_region TTok ?_
  intro K hK
  simp -implicitDefEqProofs (disch := first | decide | assumption | omega) only [go_sem, BoxAt.cell hb0_0, BoxAt.cell hb0_1, wrap_id]
  refine hK _ _ ?_
  clear hK K
  refine den_cond rfl (fun c0 => ?_) (fun c0 => ?_)
  · try simp only [decide_eq_true_eq, decide_eq_false_iff_not, beq_iff_eq, beq_eq_false_iff_ne, bne_iff_ne, ne_eq, Bool.not_eq_true', Bool.not_eq_false', Bool.and_eq_true, Bool.or_eq_true, bne_eq_false_iff_eq] at c0
    refine den_seq ?_
    refine den_region TTok ?_
    intro K hK
    simp -implicitDefEqProofs (disch := first | decide | assumption | omega) only [go_sem, wrap_id]
    refine hK _ _ ?_
    clear hK K
    refine den_ret ?_
    simp (disch := decide) only [resP_1, puts_same, puts_ne]
    exact ⟨by first | rfl | trivial, eB⟩
  · try simp only [decide_eq_true_eq, decide_eq_false_iff_not, beq_iff_eq, beq_eq_false_iff_ne, bne_iff_ne, ne_eq, Bool.not_eq_true', Bool.not_eq_false', Bool.and_eq_true, Bool.or_eq_true, bne_eq_false_iff_eq] at c0
    have hMX := szC_ok' (by omega) (by omega) c0
    have hcnX := szC_cntA (by omega) (by omega) c0
    refine den_skip ?_
    refine den_seq ?_
    refine den_region TTok ?_
    intro K hK
    simp -implicitDefEqProofs (disch := first | decide | assumption | omega) only [go_sem, ld25, BoxAt.cell hb0_0, BoxAt.cell hb0_1, wrap_id]
    try simp -implicitDefEqProofs (disch := first | decide | assumption | omega) only [go_sem, BoxAt.cell hb0_0, BoxAt.cell hb0_1, wrap_id]
    refine CallA.mono (szC_ok _ Y _ _ ⟨_, _, rfl, (RdS.pres hdY (Ext.pres eB)), (RdS.pres hmY (Ext.pres eB))⟩ (by omega) (by omega)) ?_
    intro v_ h5_2
    rintro ⟨rfl, e5_2⟩
    replace hb0_0 := BoxAt.ext hb0_0 e5_2
    replace hb0_1 := BoxAt.ext hb0_1 e5_2
    have := Ext.size e5_2
    replace eB := Ext.trans eB e5_2
    have := szC_le Y (szC X (1048576 : Int)) (by omega)
    try simp -implicitDefEqProofs (disch := first | decide | assumption | omega) only [go_sem, BoxAt.cell hb0_0, BoxAt.cell hb0_1, wrap_id]
    refine hK _ _ ?_
    clear hK K
    refine den_seq ?_
    refine den_seq ?_
    refine den_region TTok ?_
    intro K hK
    simp -implicitDefEqProofs (disch := first | decide | assumption | omega) only [go_sem, BoxAt.cell hb0_0, BoxAt.cell hb0_1, wrap_id]
    refine hK _ _ ?_
    clear hK K
    refine den_cond rfl (fun c1 => ?_) (fun c1 => ?_)
    · try simp only [decide_eq_true_eq, decide_eq_false_iff_not, beq_iff_eq, beq_eq_false_iff_ne, bne_iff_ne, ne_eq, Bool.not_eq_true', Bool.not_eq_false', Bool.and_eq_true, Bool.or_eq_true, bne_eq_false_iff_eq] at c1
      refine den_seq ?_
      refine den_region TTok ?_
      intro K hK
      simp -implicitDefEqProofs (disch := first | decide | assumption | omega) only [go_sem, wrap_id]
      refine hK _ _ ?_
      clear hK K
      refine den_ret ?_
      simp (disch := decide) only [resP_1, puts_same, puts_ne]
      exact ⟨by first | rfl | trivial, eB⟩
    · try simp only [decide_eq_true_eq, decide_eq_false_iff_not, beq_iff_eq, beq_eq_false_iff_ne, bne_iff_ne, ne_eq, Bool.not_eq_true', Bool.not_eq_false', Bool.and_eq_true, Bool.or_eq_true, bne_eq_false_iff_eq] at c1
      have hMY := szC_ok' (by omega) (by omega) c1
      have hcnY := szC_cntA (by omega) (by omega) c1
      refine den_skip ?_
      refine den_seq ?_
      refine den_region TTok ?_
      intro K hK
      simp -implicitDefEqProofs (disch := first | decide | assumption | omega) only [go_sem, BoxAt.cell hb0_0, BoxAt.cell hb0_1, wrap_id]
      try simp -implicitDefEqProofs (disch := first | decide | assumption | omega) only [go_sem, BoxAt.cell hb0_0, BoxAt.cell hb0_1, wrap_id]
      refine CallA.pure (szSSS_ok _ f _ _ (RdS.pres rf (Ext.pres eB)) (by omega) (by omega)) ?_
      have := sz3_le f (szC Y (szC X (1048576 : Int))) (by omega)
      try simp -implicitDefEqProofs (disch := first | decide | assumption | omega) only [go_sem, BoxAt.cell hb0_0, BoxAt.cell hb0_1, wrap_id]
      refine hK _ _ ?_
      clear hK K
      refine den_seq ?_
      refine den_seq ?_
      refine den_region TTok ?_
      intro K hK
      simp -implicitDefEqProofs (disch := first | decide | assumption | omega) only [go_sem, BoxAt.cell hb0_0, BoxAt.cell hb0_1, wrap_id]
      refine hK _ _ ?_
      clear hK K
      refine den_cond rfl (fun c2 => ?_) (fun c2 => ?_)
      · try simp only [decide_eq_true_eq, decide_eq_false_iff_not, beq_iff_eq, beq_eq_false_iff_ne, bne_iff_ne, ne_eq, Bool.not_eq_true', Bool.not_eq_false', Bool.and_eq_true, Bool.or_eq_true, bne_eq_false_iff_eq] at c2
        refine den_seq ?_
        refine den_region TTok ?_
        intro K hK
        simp -implicitDefEqProofs (disch := first | decide | assumption | omega) only [go_sem, wrap_id]
        refine hK _ _ ?_
        clear hK K
        refine den_ret ?_
        simp (disch := decide) only [resP_1, puts_same, puts_ne]
        exact ⟨by first | rfl | trivial, eB⟩
      · try simp only [decide_eq_true_eq, decide_eq_false_iff_not, beq_iff_eq, beq_eq_false_iff_ne, bne_iff_ne, ne_eq, Bool.not_eq_true', Bool.not_eq_false', Bool.and_eq_true, Bool.or_eq_true, bne_eq_false_iff_eq] at c2
        have hMf := sz3_ok (by omega) (by omega) c2
        have hcnf := sz3_cntA (by omega) (by omega) c2
        refine den_skip ?_
        refine den_seq ?_
        refine den_draw TTok mixed [] [(0, true), (2, true), (4, true), (1, false), (3, false), (5, false), (6, false), (7, true), (8, true), (9, true), (10, true), (11, true)] (by kernel_rfl) ?_
        intro K hK
        simp -implicitDefEqProofs (disch := first | decide | assumption | omega) only [go_sem, ld25, BoxAt.cell hb0_0, BoxAt.cell hb0_1, wrap_id]
        try simp -implicitDefEqProofs (disch := first | decide | assumption | omega) only [go_sem, BoxAt.cell hb0_0, BoxAt.cell hb0_1, wrap_id]
        refine CallA.mono (toC_ok _ X _ ⟨_, _, rfl, (RdS.pres hdX (Ext.pres eB)), (RdS.pres hmX (Ext.pres eB))⟩ hMX) ?_
        intro v_ h11_1
        rintro ⟨vd11_1, vm11_1, fd11_1, fm11_1, rfl, hod11_1, hom11_1, hf11_1, e11_1⟩
        replace hb0_0 := BoxAt.ext hb0_0 e11_1
        replace hb0_1 := BoxAt.ext hb0_1 e11_1
        have := Ext.size e11_1
        replace eB := Ext.trans eB e11_1
        have hfd11_1 := hf11_1.left
        have hfm11_1 := hf11_1.right
        have hlhod11_1 := OS.lt hod11_1
        have hlhom11_1 := OS.lt hom11_1
        have ap1 : Apart fd11_1 fm11_1 := apart_nodup hf11_1
        try simp (disch := decide) only [outv_some, outv_none, put_puts]
        refine plK_pres (Ext.pres e11_1) ?_
        try simp -implicitDefEqProofs (disch := first | decide | assumption | omega) only [go_sem, BoxAt.cell hb0_0, BoxAt.cell hb0_1, wrap_id]
        try simp -implicitDefEqProofs (disch := first | decide | assumption | omega) only [go_sem, BoxAt.cell hb0_0, BoxAt.cell hb0_1, wrap_id]
        refine CallA.mono (toC_ok _ Y _ ⟨_, _, rfl, (RdS.pres hdY (Ext.pres eB)), (RdS.pres hmY (Ext.pres eB))⟩ hMY) ?_
        intro v_ h11_3
        rintro ⟨vd11_3, vm11_3, fd11_3, fm11_3, rfl, hod11_3, hom11_3, hf11_3, e11_3⟩
        replace hod11_1 := OS.ext hod11_1 e11_3
        replace hom11_1 := OS.ext hom11_1 e11_3
        replace hb0_0 := BoxAt.ext hb0_0 e11_3
        replace hb0_1 := BoxAt.ext hb0_1 e11_3
        have := Ext.size e11_3
        replace eB := Ext.trans eB e11_3
        have hfd11_3 := hf11_3.left
        have hfm11_3 := hf11_3.right
        have hlhod11_3 := OS.lt hod11_3
        have hlhom11_3 := OS.lt hom11_3
        have ap2 : Apart fd11_3 fm11_3 := apart_nodup hf11_3
        try simp (disch := decide) only [outv_some, outv_none, put_puts]
        refine plK_pres (Ext.pres e11_3) ?_
        try simp -implicitDefEqProofs (disch := first | decide | assumption | omega) only [go_sem, BoxAt.cell hb0_0, BoxAt.cell hb0_1, wrap_id]
        try simp -implicitDefEqProofs (disch := first | decide | assumption | omega) only [go_sem, BoxAt.cell hb0_0, BoxAt.cell hb0_1, wrap_id]
        refine CallA.mono (toSSS_ok _ f _ (RdS.pres rf (Ext.pres eB)) hMf) ?_
        intro v11_5 h11_5
        rintro ⟨f11_5, ho11_5, hf11_5, e11_5⟩
        replace hod11_1 := OS.ext hod11_1 e11_5
        replace hom11_1 := OS.ext hom11_1 e11_5
        replace hod11_3 := OS.ext hod11_3 e11_5
        replace hom11_3 := OS.ext hom11_3 e11_5
        replace hb0_0 := BoxAt.ext hb0_0 e11_5
        replace hb0_1 := BoxAt.ext hb0_1 e11_5
        have := Ext.size e11_5
        replace eB := Ext.trans eB e11_5
        have hlho11_5 := OS.lt ho11_5
        try simp (disch := decide) only [outv_some, outv_none, put_puts]
        refine plK_pres (Ext.pres e11_5) ?_
        try simp -implicitDefEqProofs (disch := first | decide | assumption | omega) only [go_sem, BoxAt.cell hb0_0, BoxAt.cell hb0_1, wrap_id]
        try simp -implicitDefEqProofs (disch := first | decide | assumption | omega) only [go_sem, BoxAt.cell hb0_0, BoxAt.cell hb0_1, wrap_id]
        refine CallA.mono (sIQ_ok _ _ _ X Y f _ ⟨_, _, rfl, (OS.rd hod11_1), (OS.rd hom11_1)⟩ ⟨_, _, rfl, (OS.rd hod11_3), (OS.rd hom11_3)⟩ (OS.rd ho11_5) ) ?_
        intro v_ h11_6
        rintro ⟨rfl, e11_6⟩
        replace hod11_1 := OS.ext hod11_1 e11_6
        replace hom11_1 := OS.ext hom11_1 e11_6
        replace hod11_3 := OS.ext hod11_3 e11_6
        replace hom11_3 := OS.ext hom11_3 e11_6
        replace ho11_5 := OS.ext ho11_5 e11_6
        replace hb0_0 := BoxAt.ext hb0_0 e11_6
        replace hb0_1 := BoxAt.ext hb0_1 e11_6
        have := Ext.size e11_6
        replace eB := Ext.trans eB e11_6
        try simp (disch := decide) only [outv_some, outv_none, put_puts]
        refine plK_pres (Ext.pres e11_6) ?_
        try simp -implicitDefEqProofs (disch := first | decide | assumption | omega) only [go_sem, BoxAt.cell hb0_0, BoxAt.cell hb0_1, wrap_id]
        refine hK _ _ ?_
        clear hK K
        refine den_seq ?_
        refine den_region TTok ?_
        intro K hK
        simp -implicitDefEqProofs (disch := first | decide | assumption | omega) only [go_sem, ld25, BoxAt.cell hb0_0, BoxAt.cell hb0_1, wrap_id]
        try simp -implicitDefEqProofs (disch := first | decide | assumption | omega) only [go_sem, BoxAt.cell hb0_0, BoxAt.cell hb0_1, wrap_id]
        refine CallA.mono (toC_ok _ X _ ⟨_, _, rfl, (RdS.pres hdX (Ext.pres eB)), (RdS.pres hmX (Ext.pres eB))⟩ hMX) ?_
        intro v_ h12_1
        rintro ⟨vd12_1, vm12_1, fd12_1, fm12_1, rfl, hod12_1, hom12_1, hf12_1, e12_1⟩
        replace hb0_0 := BoxAt.ext hb0_0 e12_1
        replace hb0_1 := BoxAt.ext hb0_1 e12_1
        have := Ext.size e12_1
        replace eB := Ext.trans eB e12_1
        have hfd12_1 := hf12_1.left
        have hfm12_1 := hf12_1.right
        have hlhod12_1 := OS.lt hod12_1
        have hlhom12_1 := OS.lt hom12_1
        have ap3 : Apart fd12_1 fm12_1 := apart_nodup hf12_1
        try simp -implicitDefEqProofs (disch := first | decide | assumption | omega) only [go_sem, BoxAt.cell hb0_0, BoxAt.cell hb0_1, wrap_id]
        refine op_alloc (cs := #[.int .i64 0, .slice none 0 0, .slice none 0 0]) (by kernel_rfl) ?_
        intro h12_2 e12_2 hb12_2 z12_2
        replace hod12_1 := OS.ext hod12_1 e12_2
        replace hom12_1 := OS.ext hom12_1 e12_2
        replace hb0_0 := BoxAt.ext hb0_0 e12_2
        replace hb0_1 := BoxAt.ext hb0_1 e12_2
        have := Ext.size e12_2
        replace eB := Ext.trans eB e12_2
        have hfhb12_2 : Fresh h12_1.size [h12_1.size] := Fresh.one _
        have hlhb12_2 := one_lt (show h12_1.size < h12_2.size by omega)
        try simp -implicitDefEqProofs (disch := first | decide | assumption | omega) only [go_sem, BoxAt.cell hb0_0, BoxAt.cell hb0_1, BoxAt.cell hb12_2, wrap_id]
        refine op_storeB (cs' := #[.int .i64 (X.p), vd12_1, vm12_1]) st30 hb12_2 rfl rfl rfl (by simp) (allOne_mem (l := [.int .i64 (X.p), vd12_1, vm12_1]) ⟨rfl, (OS.one hod12_1).1, (OS.one hom12_1).1, trivial⟩) rfl ?_
        intro h12_3 hb12_2 c12_3
        replace hod12_1 := OS.chg hod12_1 c12_3 (apart_lt hlhod12_1 hfhb12_2 (by omega))
        replace hom12_1 := OS.chg hom12_1 c12_3 (apart_lt hlhom12_1 hfhb12_2 (by omega))
        replace hb0_0 := BoxAt.chgA hb0_0 c12_3 (apart_lt hlhb0_0 hfhb12_2 (by omega))
        replace hb0_1 := BoxAt.chgA hb0_1 c12_3 (apart_lt hlhb0_1 hfhb12_2 (by omega))
        have := c12_3.size
        replace eB := Ext.then eB c12_3 (ge_of hfhb12_2 (by omega))
        try simp -implicitDefEqProofs (disch := first | decide | assumption | omega) only [go_sem, BoxAt.cell hb0_0, BoxAt.cell hb0_1, BoxAt.cell hb12_2, wrap_id]
        refine hK _ _ ?_
        clear hK K
        refine den_seq ?_
        refine den_region TTok ?_
        intro K hK
        simp -implicitDefEqProofs (disch := first | decide | assumption | omega) only [go_sem, ld25, BoxAt.cell hb0_0, BoxAt.cell hb0_1, BoxAt.cell hb12_2, wrap_id]
        try simp -implicitDefEqProofs (disch := first | decide | assumption | omega) only [go_sem, BoxAt.cell hb0_0, BoxAt.cell hb0_1, BoxAt.cell hb12_2, wrap_id]
        refine CallA.mono (toC_ok _ Y _ ⟨_, _, rfl, (RdS.pres hdY (Ext.pres eB)), (RdS.pres hmY (Ext.pres eB))⟩ hMY) ?_
        intro v_ h13_1
        rintro ⟨vd13_1, vm13_1, fd13_1, fm13_1, rfl, hod13_1, hom13_1, hf13_1, e13_1⟩
        replace hod12_1 := OS.ext hod12_1 e13_1
        replace hom12_1 := OS.ext hom12_1 e13_1
        replace hb0_0 := BoxAt.ext hb0_0 e13_1
        replace hb0_1 := BoxAt.ext hb0_1 e13_1
        replace hb12_2 := BoxAt.ext hb12_2 e13_1
        have := Ext.size e13_1
        replace eB := Ext.trans eB e13_1
        have hfd13_1 := hf13_1.left
        have hfm13_1 := hf13_1.right
        have hlhod13_1 := OS.lt hod13_1
        have hlhom13_1 := OS.lt hom13_1
        have ap4 : Apart fd13_1 fm13_1 := apart_nodup hf13_1
        try simp -implicitDefEqProofs (disch := first | decide | assumption | omega) only [go_sem, BoxAt.cell hb0_0, BoxAt.cell hb0_1, BoxAt.cell hb12_2, wrap_id]
        refine op_alloc (cs := #[.int .i64 0, .slice none 0 0, .slice none 0 0]) (by kernel_rfl) ?_
        intro h13_2 e13_2 hb13_2 z13_2
        replace hod12_1 := OS.ext hod12_1 e13_2
        replace hom12_1 := OS.ext hom12_1 e13_2
        replace hod13_1 := OS.ext hod13_1 e13_2
        replace hom13_1 := OS.ext hom13_1 e13_2
        replace hb0_0 := BoxAt.ext hb0_0 e13_2
        replace hb0_1 := BoxAt.ext hb0_1 e13_2
        replace hb12_2 := BoxAt.ext hb12_2 e13_2
        have := Ext.size e13_2
        replace eB := Ext.trans eB e13_2
        have hfhb13_2 : Fresh h13_1.size [h13_1.size] := Fresh.one _
        have hlhb13_2 := one_lt (show h13_1.size < h13_2.size by omega)
        try simp -implicitDefEqProofs (disch := first | decide | assumption | omega) only [go_sem, BoxAt.cell hb0_0, BoxAt.cell hb0_1, BoxAt.cell hb12_2, BoxAt.cell hb13_2, wrap_id]
        refine op_storeB (cs' := #[.int .i64 (Y.p), vd13_1, vm13_1]) st30 hb13_2 rfl rfl rfl (by simp) (allOne_mem (l := [.int .i64 (Y.p), vd13_1, vm13_1]) ⟨rfl, (OS.one hod13_1).1, (OS.one hom13_1).1, trivial⟩) rfl ?_
        intro h13_3 hb13_2 c13_3
        replace hod12_1 := OS.chg hod12_1 c13_3 (apart_lt hlhod12_1 hfhb13_2 (by omega))
        replace hom12_1 := OS.chg hom12_1 c13_3 (apart_lt hlhom12_1 hfhb13_2 (by omega))
        replace hod13_1 := OS.chg hod13_1 c13_3 (apart_lt hlhod13_1 hfhb13_2 (by omega))
        replace hom13_1 := OS.chg hom13_1 c13_3 (apart_lt hlhom13_1 hfhb13_2 (by omega))
        replace hb0_0 := BoxAt.chgA hb0_0 c13_3 (apart_lt hlhb0_0 hfhb13_2 (by omega))
        replace hb0_1 := BoxAt.chgA hb0_1 c13_3 (apart_lt hlhb0_1 hfhb13_2 (by omega))
        replace hb12_2 := BoxAt.chgA hb12_2 c13_3 (apart_lt hlhb12_2 hfhb13_2 (by omega))
        have := c13_3.size
        replace eB := Ext.then eB c13_3 (ge_of hfhb13_2 (by omega))
        try simp -implicitDefEqProofs (disch := first | decide | assumption | omega) only [go_sem, BoxAt.cell hb0_0, BoxAt.cell hb0_1, BoxAt.cell hb12_2, BoxAt.cell hb13_2, wrap_id]
        refine hK _ _ ?_
        clear hK K
        refine den_seq ?_
        refine den_region TTok ?_
        intro K hK
        simp -implicitDefEqProofs (disch := first | decide | assumption | omega) only [go_sem, BoxAt.cell hb0_0, BoxAt.cell hb0_1, BoxAt.cell hb12_2, BoxAt.cell hb13_2, wrap_id]
        try simp -implicitDefEqProofs (disch := first | decide | assumption | omega) only [go_sem, BoxAt.cell hb0_0, BoxAt.cell hb0_1, BoxAt.cell hb12_2, BoxAt.cell hb13_2, wrap_id]
        refine CallA.mono (toSSS_ok _ f _ (RdS.pres rf (Ext.pres eB)) hMf) ?_
        intro v14_1 h14_1
        rintro ⟨f14_1, ho14_1, hf14_1, e14_1⟩
        replace hod12_1 := OS.ext hod12_1 e14_1
        replace hom12_1 := OS.ext hom12_1 e14_1
        replace hod13_1 := OS.ext hod13_1 e14_1
        replace hom13_1 := OS.ext hom13_1 e14_1
        replace hb0_0 := BoxAt.ext hb0_0 e14_1
        replace hb0_1 := BoxAt.ext hb0_1 e14_1
        replace hb12_2 := BoxAt.ext hb12_2 e14_1
        replace hb13_2 := BoxAt.ext hb13_2 e14_1
        have := Ext.size e14_1
        replace eB := Ext.trans eB e14_1
        have hlho14_1 := OS.lt ho14_1
        try simp -implicitDefEqProofs (disch := first | decide | assumption | omega) only [go_sem, BoxAt.cell hb0_0, BoxAt.cell hb0_1, BoxAt.cell hb12_2, BoxAt.cell hb13_2, wrap_id]
        refine hK _ _ ?_
        clear hK K
        refine den_seq ?_
        refine den_region TTok ?_
        intro K hK
        simp -implicitDefEqProofs (disch := first | decide | assumption | omega) only [go_sem, ld30, BoxAt.cell hb0_0, BoxAt.cell hb0_1, BoxAt.cell hb12_2, BoxAt.cell hb13_2, wrap_id]
        try simp -implicitDefEqProofs (disch := first | decide | assumption | omega) only [go_sem, BoxAt.cell hb0_0, BoxAt.cell hb0_1, BoxAt.cell hb12_2, BoxAt.cell hb13_2, wrap_id]
        refine CallA.mono (iIQ_ok _ _ _ X Y f _ ⟨_, _, rfl, (OS.rd hod12_1), (OS.rd hom12_1)⟩ ⟨_, _, rfl, (OS.rd hod13_1), (OS.rd hom13_1)⟩ (OS.rd ho14_1) ) ?_
        intro v_ h15_3
        rintro ⟨rfl, e15_3⟩
        replace hod12_1 := OS.ext hod12_1 e15_3
        replace hom12_1 := OS.ext hom12_1 e15_3
        replace hod13_1 := OS.ext hod13_1 e15_3
        replace hom13_1 := OS.ext hom13_1 e15_3
        replace ho14_1 := OS.ext ho14_1 e15_3
        replace hb0_0 := BoxAt.ext hb0_0 e15_3
        replace hb0_1 := BoxAt.ext hb0_1 e15_3
        replace hb12_2 := BoxAt.ext hb12_2 e15_3
        replace hb13_2 := BoxAt.ext hb13_2 e15_3
        have := Ext.size e15_3
        replace eB := Ext.trans eB e15_3
        try simp -implicitDefEqProofs (disch := first | decide | assumption | omega) only [go_sem, BoxAt.cell hb0_0, BoxAt.cell hb0_1, BoxAt.cell hb12_2, BoxAt.cell hb13_2, wrap_id]
        refine hK _ _ ?_
        clear hK K
        refine den_seq ?_
        refine den_seq ?_
        refine den_mergeH [(60, .bool (((!(((iqR X Y f).1) == ((iqR X Y f).1))) || (((iqR X Y f).2) != ((iqR X Y f).2)))))] [2, 3, 4, 10, 11, 12] ?_ ?_
          -- a way
        · refine den_region TTok ?_
          intro K hK
          simp -implicitDefEqProofs (disch := first | decide | assumption | (simp (disch := decide) only [slotOf_zero, slotOf_succ, Option.map_some, puts_same, puts_ne, gv_bool, gv_undef, tt, tf, ft, ff, eq_self, if_true, if_false, Bool.false_eq_true, Bool.not_true, Bool.not_false]; done) | omega) only [go_sem, BoxAt.cell hb0_0, BoxAt.cell hb0_1, BoxAt.cell hb12_2, BoxAt.cell hb13_2, wrap_id]
          refine opsP_F (by simp (disch := decide) only [slotOf_zero, slotOf_succ, Option.map_some, puts_same, puts_ne, gv_bool, gv_undef, tt, tf, ft, ff, eq_self, if_true, if_false, Bool.false_eq_true, Bool.not_true, Bool.not_false]; rfl) (fun g5 => ?_) (fun g5 => ?_)
          · try simp -implicitDefEqProofs (disch := first | decide | assumption | (simp (disch := decide) only [slotOf_zero, slotOf_succ, Option.map_some, puts_same, puts_ne, gv_bool, gv_undef, tt, tf, ft, ff, eq_self, if_true, if_false, Bool.false_eq_true, Bool.not_true, Bool.not_false, g5]; done) | omega) only [go_sem, BoxAt.cell hb0_0, BoxAt.cell hb0_1, BoxAt.cell hb12_2, BoxAt.cell hb13_2, wrap_id, g5, eq_self, if_true, if_false, Bool.false_eq_true]
            refine hK _ _ ?_
            clear hK K
            refine den_stop ?_
            refine ⟨?_, rfl⟩
            first | (simp (disch := decide) only [go_sem, g5, eq_self, Bool.true_and, Bool.and_true, Bool.false_and, Bool.and_false, Bool.true_or, Bool.or_true, Bool.false_or, Bool.or_false, if_true, if_false, Bool.false_eq_true]; done) | simp [HasL, sel, puts_at, g5]
          · try simp -implicitDefEqProofs (disch := first | decide | assumption | (simp (disch := decide) only [slotOf_zero, slotOf_succ, Option.map_some, puts_same, puts_ne, gv_bool, gv_undef, tt, tf, ft, ff, eq_self, if_true, if_false, Bool.false_eq_true, Bool.not_true, Bool.not_false, g5]; done) | omega) only [go_sem, BoxAt.cell hb0_0, BoxAt.cell hb0_1, BoxAt.cell hb12_2, BoxAt.cell hb13_2, wrap_id, g5, eq_self, if_true, if_false, Bool.false_eq_true]
            refine hK _ _ ?_
            clear hK K
            refine den_stop ?_
            refine ⟨?_, rfl⟩
            first | (simp (disch := decide) only [go_sem, g5, eq_self, Bool.true_and, Bool.and_true, Bool.false_and, Bool.and_false, Bool.true_or, Bool.or_true, Bool.false_or, Bool.or_false, if_true, if_false, Bool.false_eq_true]; done) | simp [HasL, sel, puts_at, g5]
        intro en6
        simp (disch := decide) only [go_sem]
        refine den_cond rfl (fun c3 => ?_) (fun c3 => ?_)
        · try simp only [decide_eq_true_eq, decide_eq_false_iff_not, beq_iff_eq, beq_eq_false_iff_ne, bne_iff_ne, ne_eq, Bool.not_eq_true', Bool.not_eq_false', Bool.and_eq_true, Bool.or_eq_true, bne_eq_false_iff_eq] at c3
          refine den_seq ?_
          refine den_region TTok ?_
          intro K hK
          simp -implicitDefEqProofs (disch := first | decide | assumption | omega) only [go_sem, wrap_id]
          refine hK _ _ ?_
          clear hK K
          refine den_ret ?_
          simp (disch := decide) only [resP_1, puts_same, puts_ne]
          exact absurd c3 (by first | (simp; done) | (simp; omega) | omega | (simp [eqC_self]; done))
        · try simp only [decide_eq_true_eq, decide_eq_false_iff_not, beq_iff_eq, beq_eq_false_iff_ne, bne_iff_ne, ne_eq, Bool.not_eq_true', Bool.not_eq_false', Bool.and_eq_true, Bool.or_eq_true, bne_eq_false_iff_eq] at c3
          refine den_skip ?_
          refine den_seq ?_
          refine den_seq ?_
          refine den_draw TTok mixed [] [(0, true), (1, true), (2, false), (3, false), (4, true)] (by kernel_rfl) ?_
          intro K hK
          simp -implicitDefEqProofs (disch := first | decide | assumption | omega) only [go_sem, ld30, ld25, BoxAt.cell hb0_0, BoxAt.cell hb0_1, BoxAt.cell hb12_2, BoxAt.cell hb13_2, wrap_id]
          try simp -implicitDefEqProofs (disch := first | decide | assumption | omega) only [go_sem, BoxAt.cell hb0_0, BoxAt.cell hb0_1, BoxAt.cell hb12_2, BoxAt.cell hb13_2, wrap_id]
          refine CallA.mono (toC_ok _ X _ ⟨_, _, rfl, (RdS.pres hdX (Ext.pres eB)), (RdS.pres hmX (Ext.pres eB))⟩ hMX) ?_
          intro v_ h18_2
          rintro ⟨vd18_2, vm18_2, fd18_2, fm18_2, rfl, hod18_2, hom18_2, hf18_2, e18_2⟩
          replace hod12_1 := OS.ext hod12_1 e18_2
          replace hom12_1 := OS.ext hom12_1 e18_2
          replace hod13_1 := OS.ext hod13_1 e18_2
          replace hom13_1 := OS.ext hom13_1 e18_2
          replace ho14_1 := OS.ext ho14_1 e18_2
          replace hb0_0 := BoxAt.ext hb0_0 e18_2
          replace hb0_1 := BoxAt.ext hb0_1 e18_2
          replace hb12_2 := BoxAt.ext hb12_2 e18_2
          replace hb13_2 := BoxAt.ext hb13_2 e18_2
          have := Ext.size e18_2
          replace eB := Ext.trans eB e18_2
          have hfd18_2 := hf18_2.left
          have hfm18_2 := hf18_2.right
          have hlhod18_2 := OS.lt hod18_2
          have hlhom18_2 := OS.lt hom18_2
          have ap9 : Apart fd18_2 fm18_2 := apart_nodup hf18_2
          try simp (disch := decide) only [outv_some, outv_none, put_puts]
          refine plK_pres (Ext.pres e18_2) ?_
          try simp -implicitDefEqProofs (disch := first | decide | assumption | omega) only [go_sem, BoxAt.cell hb0_0, BoxAt.cell hb0_1, BoxAt.cell hb12_2, BoxAt.cell hb13_2, wrap_id]
          try simp -implicitDefEqProofs (disch := first | decide | assumption | omega) only [go_sem, BoxAt.cell hb0_0, BoxAt.cell hb0_1, BoxAt.cell hb12_2, BoxAt.cell hb13_2, wrap_id]
          refine CallA.mono (eqC_same _ _ X _ ⟨_, _, rfl, (OS.rd hod12_1), (OS.rd hom12_1)⟩ ⟨_, _, rfl, (OS.rd hod18_2), (OS.rd hom18_2)⟩) ?_
          intro v_ h18_3
          rintro ⟨rfl, e18_3⟩
          replace hod12_1 := OS.ext hod12_1 e18_3
          replace hom12_1 := OS.ext hom12_1 e18_3
          replace hod13_1 := OS.ext hod13_1 e18_3
          replace hom13_1 := OS.ext hom13_1 e18_3
          replace ho14_1 := OS.ext ho14_1 e18_3
          replace hod18_2 := OS.ext hod18_2 e18_3
          replace hom18_2 := OS.ext hom18_2 e18_3
          replace hb0_0 := BoxAt.ext hb0_0 e18_3
          replace hb0_1 := BoxAt.ext hb0_1 e18_3
          replace hb12_2 := BoxAt.ext hb12_2 e18_3
          replace hb13_2 := BoxAt.ext hb13_2 e18_3
          have := Ext.size e18_3
          replace eB := Ext.trans eB e18_3
          try simp (disch := decide) only [outv_some, outv_none, put_puts]
          refine plK_pres (Ext.pres e18_3) ?_
          try simp -implicitDefEqProofs (disch := first | decide | assumption | omega) only [go_sem, BoxAt.cell hb0_0, BoxAt.cell hb0_1, BoxAt.cell hb12_2, BoxAt.cell hb13_2, wrap_id]
          refine hK _ _ ?_
          clear hK K
          refine den_cond rfl (fun c4 => ?_) (fun c4 => ?_)
          · try simp only [decide_eq_true_eq, decide_eq_false_iff_not, beq_iff_eq, beq_eq_false_iff_ne, bne_iff_ne, ne_eq, Bool.not_eq_true', Bool.not_eq_false', Bool.and_eq_true, Bool.or_eq_true, bne_eq_false_iff_eq] at c4
            refine den_seq ?_
            refine den_region TTok ?_
            intro K hK
            simp -implicitDefEqProofs (disch := first | decide | assumption | omega) only [go_sem, wrap_id]
            refine hK _ _ ?_
            clear hK K
            refine den_ret ?_
            simp (disch := decide) only [resP_1, puts_same, puts_ne]
            exact absurd c4 (by first | (simp; done) | (simp; omega) | omega | (simp [eqC_self]; done))
          · try simp only [decide_eq_true_eq, decide_eq_false_iff_not, beq_iff_eq, beq_eq_false_iff_ne, bne_iff_ne, ne_eq, Bool.not_eq_true', Bool.not_eq_false', Bool.and_eq_true, Bool.or_eq_true, bne_eq_false_iff_eq] at c4
            refine den_skip ?_
            refine den_seq ?_
            refine den_seq ?_
            refine den_draw TTok mixed [] [(0, true), (1, true), (2, false), (3, false), (4, true)] (by kernel_rfl) ?_
            intro K hK
            simp -implicitDefEqProofs (disch := first | decide | assumption | omega) only [go_sem, ld30, ld25, BoxAt.cell hb0_1, BoxAt.cell hb13_2, wrap_id]
            try simp -implicitDefEqProofs (disch := first | decide | assumption | omega) only [go_sem, BoxAt.cell hb0_1, BoxAt.cell hb13_2, wrap_id]
            refine CallA.mono (toC_ok _ Y _ ⟨_, _, rfl, (RdS.pres hdY (Ext.pres eB)), (RdS.pres hmY (Ext.pres eB))⟩ hMY) ?_
            intro v_ h20_2
            rintro ⟨vd20_2, vm20_2, fd20_2, fm20_2, rfl, hod20_2, hom20_2, hf20_2, e20_2⟩
            replace hod13_1 := OS.ext hod13_1 e20_2
            replace hom13_1 := OS.ext hom13_1 e20_2
            replace ho14_1 := OS.ext ho14_1 e20_2
            replace hb0_1 := BoxAt.ext hb0_1 e20_2
            replace hb13_2 := BoxAt.ext hb13_2 e20_2
            have := Ext.size e20_2
            replace eB := Ext.trans eB e20_2
            have hfd20_2 := hf20_2.left
            have hfm20_2 := hf20_2.right
            have hlhod20_2 := OS.lt hod20_2
            have hlhom20_2 := OS.lt hom20_2
            have ap10 : Apart fd20_2 fm20_2 := apart_nodup hf20_2
            try simp (disch := decide) only [outv_some, outv_none, put_puts]
            refine plK_pres (Ext.pres e20_2) ?_
            try simp -implicitDefEqProofs (disch := first | decide | assumption | omega) only [go_sem, BoxAt.cell hb0_1, BoxAt.cell hb13_2, wrap_id]
            try simp -implicitDefEqProofs (disch := first | decide | assumption | omega) only [go_sem, BoxAt.cell hb0_1, BoxAt.cell hb13_2, wrap_id]
            refine CallA.mono (eqC_same _ _ Y _ ⟨_, _, rfl, (OS.rd hod13_1), (OS.rd hom13_1)⟩ ⟨_, _, rfl, (OS.rd hod20_2), (OS.rd hom20_2)⟩) ?_
            intro v_ h20_3
            rintro ⟨rfl, e20_3⟩
            replace hod13_1 := OS.ext hod13_1 e20_3
            replace hom13_1 := OS.ext hom13_1 e20_3
            replace ho14_1 := OS.ext ho14_1 e20_3
            replace hod20_2 := OS.ext hod20_2 e20_3
            replace hom20_2 := OS.ext hom20_2 e20_3
            replace hb0_1 := BoxAt.ext hb0_1 e20_3
            replace hb13_2 := BoxAt.ext hb13_2 e20_3
            have := Ext.size e20_3
            replace eB := Ext.trans eB e20_3
            try simp (disch := decide) only [outv_some, outv_none, put_puts]
            refine plK_pres (Ext.pres e20_3) ?_
            try simp -implicitDefEqProofs (disch := first | decide | assumption | omega) only [go_sem, BoxAt.cell hb0_1, BoxAt.cell hb13_2, wrap_id]
            refine hK _ _ ?_
            clear hK K
            refine den_cond rfl (fun c5 => ?_) (fun c5 => ?_)
            · try simp only [decide_eq_true_eq, decide_eq_false_iff_not, beq_iff_eq, beq_eq_false_iff_ne, bne_iff_ne, ne_eq, Bool.not_eq_true', Bool.not_eq_false', Bool.and_eq_true, Bool.or_eq_true, bne_eq_false_iff_eq] at c5
              refine den_seq ?_
              refine den_region TTok ?_
              intro K hK
              simp -implicitDefEqProofs (disch := first | decide | assumption | omega) only [go_sem, wrap_id]
              refine hK _ _ ?_
              clear hK K
              refine den_ret ?_
              simp (disch := decide) only [resP_1, puts_same, puts_ne]
              exact absurd c5 (by first | (simp; done) | (simp; omega) | omega | (simp [eqC_self]; done))
            · try simp only [decide_eq_true_eq, decide_eq_false_iff_not, beq_iff_eq, beq_eq_false_iff_ne, bne_iff_ne, ne_eq, Bool.not_eq_true', Bool.not_eq_false', Bool.and_eq_true, Bool.or_eq_true, bne_eq_false_iff_eq] at c5
              refine den_skip ?_
              refine den_seq ?_
              refine den_seq ?_
              refine den_region TTok ?_
              intro K hK
              simp -implicitDefEqProofs (disch := first | decide | assumption | omega) only [go_sem, wrap_id]
              try simp -implicitDefEqProofs (disch := first | decide | assumption | omega) only [go_sem, wrap_id]
              refine CallA.mono (toSSS_ok _ f _ (RdS.pres rf (Ext.pres eB)) hMf) ?_
              intro v22_2 h22_2
              rintro ⟨f22_2, ho22_2, hf22_2, e22_2⟩
              replace ho14_1 := OS.ext ho14_1 e22_2
              have := Ext.size e22_2
              replace eB := Ext.trans eB e22_2
              have hlho22_2 := OS.lt ho22_2
              try simp -implicitDefEqProofs (disch := first | decide | assumption | omega) only [go_sem, wrap_id]
              try simp -implicitDefEqProofs (disch := first | decide | assumption | omega) only [go_sem, wrap_id]
              refine CallA.pure (eqSSS_same _ _ _ _ (OS.rd ho14_1) (OS.rd ho22_2)) ?_
              try simp -implicitDefEqProofs (disch := first | decide | assumption | omega) only [go_sem, wrap_id]
              refine hK _ _ ?_
              clear hK K
              refine den_cond rfl (fun c6 => ?_) (fun c6 => ?_)
              · try simp only [decide_eq_true_eq, decide_eq_false_iff_not, beq_iff_eq, beq_eq_false_iff_ne, bne_iff_ne, ne_eq, Bool.not_eq_true', Bool.not_eq_false', Bool.and_eq_true, Bool.or_eq_true, bne_eq_false_iff_eq] at c6
                refine den_seq ?_
                refine den_region TTok ?_
                intro K hK
                simp -implicitDefEqProofs (disch := first | decide | assumption | omega) only [go_sem, wrap_id]
                refine hK _ _ ?_
                clear hK K
                refine den_ret ?_
                simp (disch := decide) only [resP_1, puts_same, puts_ne]
                exact absurd c6 (by first | (simp; done) | (simp; omega) | omega | (simp [eqC_self]; done))
              · try simp only [decide_eq_true_eq, decide_eq_false_iff_not, beq_iff_eq, beq_eq_false_iff_ne, bne_iff_ne, ne_eq, Bool.not_eq_true', Bool.not_eq_false', Bool.and_eq_true, Bool.or_eq_true, bne_eq_false_iff_eq] at c6
                refine den_skip ?_
                refine den_seq ?_
                refine den_region TTok ?_
                intro K hK
                simp -implicitDefEqProofs (disch := first | decide | assumption | omega) only [go_sem, wrap_id]
                refine hK _ _ ?_
                clear hK K
                refine den_ret ?_
                simp (disch := decide) only [resP_1, puts_same, puts_ne]
                exact ⟨by first | rfl | trivial, eB⟩
end Go.Proofs.Ytbplnadngahgaaa
