/-
  Walks: the statement's function.
  Conditions: each theorem's own.
-/
import Derived.Test.YtffggocjkhcgeaaB7
set_option linter.unusedVariables false
set_option linter.unusedSimpArgs false
namespace Go.Proofs.Ytffggocjkhcgeaa
open Go
noncomputable def cfC (X Y Z : Cx) (f g : List (List (List Int))) : Int := cadd (pairL [X, Y, Z]) 2 (!(famP X Y f 0) || !(famP Y Z g 0))
noncomputable def cfP (X Y Z : Cx) (f g : List (List (List Int))) : List (List (List Int)) × Int := if cfC X Y Z f g = 0 then (mapFam (fun n r => imgP Y Z g 0 (n : Int) r) f, 0) else ([], cfC X Y Z f g)
structure CfOk (X Y Z : Cx) (f g : List (List (List Int))) : Prop where
  cX : IsC X
  cY : IsC Y
  cZ : IsC Z
  p : X.p = Y.p ∧ Y.p = Z.p
  l : X.dims.length = Y.dims.length ∧ Y.dims.length = Z.dims.length
  cf : IsFam X Y f 0
  cg : IsFam Y Z g 0
theorem pairL3 (X Y Z : Cx) : pairL [X, Y, Z] = if isC X = true ∧ isC Y = true ∧ isC Z = true then (if (X.p = Y.p ∧ X.dims.length = Y.dims.length) ∧ (X.p = Z.p ∧ X.dims.length = Z.dims.length) then 0 else 2) else 1 := by
  have e1 : ([X, Y, Z] : List Cx).all isC = true ↔ isC X = true ∧ isC Y = true ∧ isC Z = true := by simp
  have e2 : (([X, Y, Z] : List Cx).all (fun W => W.p == (([X, Y, Z] : List Cx).getD 0 default).p && W.dims.length == (([X, Y, Z] : List Cx).getD 0 default).dims.length) = true) ↔ ((X.p = Y.p ∧ X.dims.length = Y.dims.length) ∧ (X.p = Z.p ∧ X.dims.length = Z.dims.length)) := by
    simp [eq_comm (a := Y.p), eq_comm (a := Y.dims.length), eq_comm (a := Z.p), eq_comm (a := Z.dims.length)]
  unfold pairL
  simp only [e1, e2]
theorem pairL3_0 {X Y Z : Cx} (h : pairL [X, Y, Z] = 0) : IsC X ∧ IsC Y ∧ IsC Z ∧ (X.p = Y.p ∧ Y.p = Z.p) ∧ X.dims.length = Y.dims.length ∧ Y.dims.length = Z.dims.length := by
  rw [pairL3] at h
  split at h
  · rename_i hc
    split at h
    · rename_i hd; exact ⟨isC_t.1 hc.1, isC_t.1 hc.2.1, isC_t.1 hc.2.2, ⟨hd.1.1, hd.1.1.symm.trans hd.2.1⟩, hd.1.2, hd.1.2.symm.trans hd.2.2⟩
    · cases h
  · cases h
theorem cfC_0 {X Y Z : Cx} {f g : List (List (List Int))} (h : cfC X Y Z f g = 0) : CfOk X Y Z f g := by
  obtain ⟨h1, h2⟩ := (cadd_0 (by decide)).1 h
  obtain ⟨a, b, c, d, e⟩ := pairL3_0 h1
  simp only [Bool.or_eq_false_iff, Bool.not_eq_false'] at h2
  exact ⟨a, b, c, d, e, pdec_t.1 h2.1, pdec_t.1 h2.2⟩
/-- The reference's order of questions. -/
theorem cf_1 {X Y Z : Cx} {f g : List (List (List Int))} (h : pairC X Y = 1 ∨ pairC Y Z = 1) : cfC X Y Z f g = 1 := by
  have : pairL [X, Y, Z] = 1 := by
    rw [pairL3, if_neg]
    rintro ⟨h1, h2, h3⟩
    have a : pairC X Y ≠ 1 := by rw [pairC, if_pos ⟨h1, h2⟩]; split <;> decide
    have b : pairC Y Z ≠ 1 := by rw [pairC, if_pos ⟨h2, h3⟩]; split <;> decide
    exact h.elim a b
  rw [cfC, cadd_n (by rw [this]; decide), this]
theorem cf_2 {X Y Z : Cx} {f g : List (List (List Int))} (h1 : pairC X Y ≠ 1 ∧ pairC Y Z ≠ 1) (h2 : ((pairC X Y ≠ 0 ∨ pairC Y Z ≠ 0) ∨ famP X Y f 0 = false) ∨ famP Y Z g 0 = false) : cfC X Y Z f g = 2 := by
  have hX : isC X = true ∧ isC Y = true := Classical.byContradiction fun hn => h1.1 (by rw [pairC, if_neg hn])
  have hZ : isC Y = true ∧ isC Z = true := Classical.byContradiction fun hn => h1.2 (by rw [pairC, if_neg hn])
  unfold cfC
  by_cases h0 : pairL [X, Y, Z] = 0
  · obtain ⟨a, b, c, d, e⟩ := pairL3_0 h0
    have e1 : pairC X Y = 0 := by rw [pairC, if_pos hX, if_pos ⟨d.1, e.1⟩]
    have e2 : pairC Y Z = 0 := by rw [pairC, if_pos hZ, if_pos ⟨d.2, e.2⟩]
    rw [h0, cadd_z, if_pos]
    rcases h2 with (h2 | h2) | h2
    · rcases h2 with h2 | h2
      · exact absurd e1 h2
      · exact absurd e2 h2
    · rw [h2]; rfl
    · rw [h2]; simp
  · rw [cadd_n h0]
    rw [pairL3, if_pos ⟨hX.1, hX.2, hZ.2⟩] at h0 ⊢
    split at h0
    · exact absurd rfl h0
    · rename_i hn; rw [if_neg hn]
theorem cf_0 {X Y Z : Cx} {f g : List (List (List Int))} (h : ((pairC X Y = 0 ∧ pairC Y Z = 0) ∧ famP X Y f 0 = true) ∧ famP Y Z g 0 = true) : cfC X Y Z f g = 0 := by
  obtain ⟨a, b, c, d⟩ := pairC_0 h.1.1.1
  obtain ⟨a', b', c', d'⟩ := pairC_0 h.1.1.2
  have : pairL [X, Y, Z] = 0 := by rw [pairL3, if_pos ⟨isC_t.2 a, isC_t.2 b, isC_t.2 b'⟩, if_pos ⟨⟨c, d⟩, c.trans c', d.trans d'⟩]
  rw [cfC, this, h.1.2, h.2]; rfl
theorem CfOk.hv {X Y Z : Cx} {f g : List (List (List Int))} (h : CfOk X Y Z f g) {n i : Nat} (hn : n < f.length) (hi : i < (f.getD n default).length) : (((f.getD n default).getD i default).length : Int) = Y.dims.getD (n : Int).toNat 0 ∧ Bnd Y.p ((f.getD n default).getD i default) := by
  have r := (h.cf.at hn).2.at hi
  have l := h.cf.len; have := h.l
  rw [r.1, Int.add_zero, dimP, if_pos (in3_iff.2 ⟨by omega, by omega⟩)]
  exact ⟨rfl, h.p.1 ▸ r.2⟩
theorem CfOk.lens {X Y Z : Cx} {f g : List (List (List Int))} (h : CfOk X Y Z f g) : f.length = X.dims.length ∧ f.length = Y.dims.length ∧ f.length ≤ 6 ∧ ∀ n, n < f.length → (f.getD n default).length ≤ 8 := by
  have l := h.cf.len; have := h.l; have := h.cX.len
  refine ⟨l, by omega, by omega, fun n hn => ?_⟩
  have := (h.cf.at hn).1
  have := dm_at h.cX.dm (k := n) (by omega)
  omega
theorem cnt_cf (X Y Z : Cx) (f g : List (List (List Int))) : 0 ≤ cntL cnt2 (cfP X Y Z f g).1 ∧ cntL cnt2 (cfP X Y Z f g).1 ≤ 384 := by
  unfold cfP
  split
  · rename_i hc
    have hk := cfC_0 hc
    have hl := hk.lens
    exact cnt_mapFam (m := 6) (r := 8) (c := 8) hl.2.2.1 hl.2.2.2 (fun n i hn hi => by
      have hv := hk.hv hn hi
      have := img_len (s := 0) (n := (n : Int)) (v := (f.getD n default).getD i default) hk.cZ hk.cg (by omega) (by have := hl.2.1; omega) hv.1
      have := dimP_bnd hk.cZ ((n : Int) + 0)
      omega)
  · exact ⟨Int.le_refl _, by show (0 : Int) ≤ _; decide⟩

set_option maxRecDepth 100000 in
theorem cf1_ok (Y Z : Cx) (v vdY vmY vdZ vmZ vg : Value) (xs : List Int) (g : List (List (List Int))) (n : Int) (b c d : Nat) (h0 h : Heap) (hdY : R1 h0 vdY Y.dims) (hmY : R3 h0 vmY Y.maps) (hdZ : R1 h0 vdZ Z.dims) (hmZ : R3 h0 vmZ Z.maps) (hg : R3 h0 vg g) (eB : Ext h0 h) (hv : R1 h v xs) (hb : BoxAt h b #[.int .i64 Y.p, vdY, vmY] 30) (hc : BoxAt h c #[.int .i64 Z.p, vdZ, vmZ] 30) (hd : BoxAt h d #[vg] 23) (hY : IsC Y) (hZ : IsC Z) (hF : IsFam Y Z g 0) (hn : 0 ≤ n ∧ n ≤ (Y.dims.length : Int) - 1) (hxs : (xs.length : Int) = Y.dims.getD n.toNat 0 ∧ Bnd Y.p xs) : CallA Try.prog 89 #[.int .i64 n, v, .pointer (some ⟨b, 0, none⟩), .pointer (some ⟨c, 0, none⟩), .pointer (some ⟨d, 0, none⟩)] h fun v' h' => ∃ fp, O1 h' v' (imgP Y Z g 0 n xs) fp ∧ Fresh h.size fp ∧ Ext h h' := by
  have hlY := hY.len
  refine callA_intro TTok (args := [_, _, _, _, _]) Try.func89 (by kernel_rfl) rfl 14 rfl (by simp) [.tmp 7] rfl ?_
  simp only [idxs, Nat.reduceAdd]
  refine den_seq ?_
  refine den_region TTok ?_
  intro K hK
  simp -implicitDefEqProofs (disch := first | decide | assumption | omega) only [go_sem, RdS.len hv sl22, RdS.idx hv sl22, R1.intB hv (HPres.refl _), RdS.cells hv, BoxAt.cell hb, BoxAt.cell hc, BoxAt.cell hd]
  refine hK _ _ ?_
  clear hK K
  refine den_seq ?_
  refine den_region TTok ?_
  intro K hK
  simp -implicitDefEqProofs (disch := first | decide | assumption | omega) only [go_sem, ld23, ld30, RdS.len hv sl22, RdS.idx hv sl22, R1.intB hv (HPres.refl _), RdS.cells hv, BoxAt.cell hb, BoxAt.cell hc, BoxAt.cell hd]
  try simp -implicitDefEqProofs (disch := first | decide | assumption | omega) only [go_sem, RdS.len hv sl22, RdS.idx hv sl22, R1.intB hv (HPres.refl _), RdS.cells hv, BoxAt.cell hb, BoxAt.cell hc, BoxAt.cell hd]
  refine CallA.mono (iApp_ok _ _ _ _ Y Z g 0 n xs _ ⟨_, _, rfl, RdS.pres hdY (Ext.pres eB), RdS.pres hmY (Ext.pres eB)⟩ ⟨_, _, rfl, RdS.pres hdZ (Ext.pres eB), RdS.pres hmZ (Ext.pres eB)⟩ (RdS.pres hg (Ext.pres eB)) hv hY hZ hF (by omega) (by omega) (fun _ => hxs)) ?_
  intro vw h1_5
  rintro ⟨zw, fw, rfl, how, hfw, e1⟩
  try simp -implicitDefEqProofs (disch := first | decide | assumption | omega) only [go_sem, RdS.len hv sl22, RdS.idx hv sl22, R1.intB hv (HPres.refl _), RdS.cells hv, BoxAt.cell hb, BoxAt.cell hc, BoxAt.cell hd]
  refine hK _ _ ?_
  clear hK K
  refine den_ret ?_
  simp (disch := decide) only [resP_1, puts_same, puts_ne]
  have e : appP Y Z g 0 n xs = imgP Y Z g 0 n xs := by rw [appP, if_pos (in3_iff.2 hn)]
  rw [e] at how
  exact ⟨_, how, hfw, e1⟩

set_option maxRecDepth 100000 in
theorem iCf_ok (vX vY vZ vf vg : Value) (X : Cx) (Y : Cx) (Z : Cx) (f : List (List (List Int))) (g : List (List (List Int))) (h : Heap) (rX : RC h vX X) (rY : RC h vY Y) (rZ : RC h vZ Z) (rf : R3 h vf f) (rg : R3 h vg g)  : CallA Try.prog 33 #[vX, vY, vZ, vf, vg] h fun v' h' => ∃ w0 f0, v' = .tuple #[w0, .int .i64 ((cfP X Y Z f g).2)] ∧ O3 h' w0 ((cfP X Y Z f g).1) f0 ∧ Fresh h.size f0 ∧ Ext h h' := by
  obtain ⟨vdX, vmX, rfl, hdX, hmX⟩ := rX
  have hledX := RdS.le hdX
  have hlemX := RdS.le hmX
  obtain ⟨vdY, vmY, rfl, hdY, hmY⟩ := rY
  have hledY := RdS.le hdY
  have hlemY := RdS.le hmY
  obtain ⟨vdZ, vmZ, rfl, hdZ, hmZ⟩ := rZ
  have hledZ := RdS.le hdZ
  have hlemZ := RdS.le hmZ
  have hlef := RdS.le rf
  have hleg := RdS.le rg
  refine callA_intro TTok (args := [_, _, _, _, _]) Try.func33 (by kernel_rfl) rfl 40 rfl (by simp) [.tmp 10, .tmp 11] rfl ?_
  simp only [idxs, Nat.reduceAdd]
  refine den_seq ?_
  refine den_region TTok ?_
  intro K hK
  simp -implicitDefEqProofs (disch := first | decide | assumption | omega) only [go_sem, RdS.len hdX sl22, RdS.idx hdX sl22, R1.intB hdX (HPres.refl _), RdS.cells hdX, RdS.len hmX sl23, RdS.idx hmX sl23, RdS.cellB hmX (HPres.refl _), RdS.cells hmX, RdS.len hdY sl22, RdS.idx hdY sl22, R1.intB hdY (HPres.refl _), RdS.cells hdY, RdS.len hmY sl23, RdS.idx hmY sl23, RdS.cellB hmY (HPres.refl _), RdS.cells hmY, RdS.len hdZ sl22, RdS.idx hdZ sl22, R1.intB hdZ (HPres.refl _), RdS.cells hdZ, RdS.len hmZ sl23, RdS.idx hmZ sl23, RdS.cellB hmZ (HPres.refl _), RdS.cells hmZ, RdS.len rf sl23, RdS.idx rf sl23, RdS.cellB rf (HPres.refl _), RdS.cells rf, RdS.len rg sl23, RdS.idx rg sl23, RdS.cellB rg (HPres.refl _), RdS.cells rg, wrap_id]
  refine op_box (cs := #[.int .i64 (X.p), vdX, vmX]) rfl ?_
  intro h0_0 e0_0 hb0_0 z0_0
  have := Ext.size e0_0
  have eB := e0_0
  have hfhb0_0 : Fresh h.size [h.size] := Fresh.one _
  have hlhb0_0 := one_lt (show h.size < h0_0.size by omega)
  try simp -implicitDefEqProofs (disch := first | decide | assumption | omega) only [go_sem, RdS.len hdX sl22, RdS.idx hdX sl22, R1.intB hdX (Ext.pres eB), RdS.cells hdX, RdS.len hmX sl23, RdS.idx hmX sl23, RdS.cellB hmX (Ext.pres eB), RdS.cells hmX, RdS.len hdY sl22, RdS.idx hdY sl22, R1.intB hdY (Ext.pres eB), RdS.cells hdY, RdS.len hmY sl23, RdS.idx hmY sl23, RdS.cellB hmY (Ext.pres eB), RdS.cells hmY, RdS.len hdZ sl22, RdS.idx hdZ sl22, R1.intB hdZ (Ext.pres eB), RdS.cells hdZ, RdS.len hmZ sl23, RdS.idx hmZ sl23, RdS.cellB hmZ (Ext.pres eB), RdS.cells hmZ, RdS.len rf sl23, RdS.idx rf sl23, RdS.cellB rf (Ext.pres eB), RdS.cells rf, RdS.len rg sl23, RdS.idx rg sl23, RdS.cellB rg (Ext.pres eB), RdS.cells rg, BoxAt.cell hb0_0, wrap_id]
  refine op_box (cs := #[.int .i64 (Y.p), vdY, vmY]) rfl ?_
  intro h0_1 e0_1 hb0_1 z0_1
  replace hb0_0 := BoxAt.ext hb0_0 e0_1
  have := Ext.size e0_1
  replace eB := Ext.trans eB e0_1
  have hfhb0_1 : Fresh h0_0.size [h0_0.size] := Fresh.one _
  have hlhb0_1 := one_lt (show h0_0.size < h0_1.size by omega)
  try simp -implicitDefEqProofs (disch := first | decide | assumption | omega) only [go_sem, RdS.len hdX sl22, RdS.idx hdX sl22, R1.intB hdX (Ext.pres eB), RdS.cells hdX, RdS.len hmX sl23, RdS.idx hmX sl23, RdS.cellB hmX (Ext.pres eB), RdS.cells hmX, RdS.len hdY sl22, RdS.idx hdY sl22, R1.intB hdY (Ext.pres eB), RdS.cells hdY, RdS.len hmY sl23, RdS.idx hmY sl23, RdS.cellB hmY (Ext.pres eB), RdS.cells hmY, RdS.len hdZ sl22, RdS.idx hdZ sl22, R1.intB hdZ (Ext.pres eB), RdS.cells hdZ, RdS.len hmZ sl23, RdS.idx hmZ sl23, RdS.cellB hmZ (Ext.pres eB), RdS.cells hmZ, RdS.len rf sl23, RdS.idx rf sl23, RdS.cellB rf (Ext.pres eB), RdS.cells rf, RdS.len rg sl23, RdS.idx rg sl23, RdS.cellB rg (Ext.pres eB), RdS.cells rg, BoxAt.cell hb0_0, BoxAt.cell hb0_1, wrap_id]
  refine op_box (cs := #[.int .i64 (Z.p), vdZ, vmZ]) rfl ?_
  intro h0_2 e0_2 hb0_2 z0_2
  replace hb0_0 := BoxAt.ext hb0_0 e0_2
  replace hb0_1 := BoxAt.ext hb0_1 e0_2
  have := Ext.size e0_2
  replace eB := Ext.trans eB e0_2
  have hfhb0_2 : Fresh h0_1.size [h0_1.size] := Fresh.one _
  have hlhb0_2 := one_lt (show h0_1.size < h0_2.size by omega)
  try simp -implicitDefEqProofs (disch := first | decide | assumption | omega) only [go_sem, RdS.len hdX sl22, RdS.idx hdX sl22, R1.intB hdX (Ext.pres eB), RdS.cells hdX, RdS.len hmX sl23, RdS.idx hmX sl23, RdS.cellB hmX (Ext.pres eB), RdS.cells hmX, RdS.len hdY sl22, RdS.idx hdY sl22, R1.intB hdY (Ext.pres eB), RdS.cells hdY, RdS.len hmY sl23, RdS.idx hmY sl23, RdS.cellB hmY (Ext.pres eB), RdS.cells hmY, RdS.len hdZ sl22, RdS.idx hdZ sl22, R1.intB hdZ (Ext.pres eB), RdS.cells hdZ, RdS.len hmZ sl23, RdS.idx hmZ sl23, RdS.cellB hmZ (Ext.pres eB), RdS.cells hmZ, RdS.len rf sl23, RdS.idx rf sl23, RdS.cellB rf (Ext.pres eB), RdS.cells rf, RdS.len rg sl23, RdS.idx rg sl23, RdS.cellB rg (Ext.pres eB), RdS.cells rg, BoxAt.cell hb0_0, BoxAt.cell hb0_1, BoxAt.cell hb0_2, wrap_id]
  refine op_box (cs := #[vg]) (RdS.cells rg) ?_
  intro h0_3 e0_3 hb0_3 z0_3
  replace hb0_0 := BoxAt.ext hb0_0 e0_3
  replace hb0_1 := BoxAt.ext hb0_1 e0_3
  replace hb0_2 := BoxAt.ext hb0_2 e0_3
  have := Ext.size e0_3
  replace eB := Ext.trans eB e0_3
  have hfhb0_3 : Fresh h0_2.size [h0_2.size] := Fresh.one _
  have hlhb0_3 := one_lt (show h0_2.size < h0_3.size by omega)
  try simp -implicitDefEqProofs (disch := first | decide | assumption | omega) only [go_sem, RdS.len hdX sl22, RdS.idx hdX sl22, R1.intB hdX (Ext.pres eB), RdS.cells hdX, RdS.len hmX sl23, RdS.idx hmX sl23, RdS.cellB hmX (Ext.pres eB), RdS.cells hmX, RdS.len hdY sl22, RdS.idx hdY sl22, R1.intB hdY (Ext.pres eB), RdS.cells hdY, RdS.len hmY sl23, RdS.idx hmY sl23, RdS.cellB hmY (Ext.pres eB), RdS.cells hmY, RdS.len hdZ sl22, RdS.idx hdZ sl22, R1.intB hdZ (Ext.pres eB), RdS.cells hdZ, RdS.len hmZ sl23, RdS.idx hmZ sl23, RdS.cellB hmZ (Ext.pres eB), RdS.cells hmZ, RdS.len rf sl23, RdS.idx rf sl23, RdS.cellB rf (Ext.pres eB), RdS.cells rf, RdS.len rg sl23, RdS.idx rg sl23, RdS.cellB rg (Ext.pres eB), RdS.cells rg, BoxAt.cell hb0_0, BoxAt.cell hb0_1, BoxAt.cell hb0_2, BoxAt.cell hb0_3, wrap_id]
  refine hK _ _ ?_
  clear hK K
  refine den_seq ?_
  refine den_region TTok ?_
  intro K hK
  simp -implicitDefEqProofs (disch := first | decide | assumption | omega) only [go_sem, ld30, RdS.len hdX sl22, RdS.idx hdX sl22, R1.intB hdX (Ext.pres eB), RdS.cells hdX, RdS.len hmX sl23, RdS.idx hmX sl23, RdS.cellB hmX (Ext.pres eB), RdS.cells hmX, RdS.len hdY sl22, RdS.idx hdY sl22, R1.intB hdY (Ext.pres eB), RdS.cells hdY, RdS.len hmY sl23, RdS.idx hmY sl23, RdS.cellB hmY (Ext.pres eB), RdS.cells hmY, RdS.len hdZ sl22, RdS.idx hdZ sl22, R1.intB hdZ (Ext.pres eB), RdS.cells hdZ, RdS.len hmZ sl23, RdS.idx hmZ sl23, RdS.cellB hmZ (Ext.pres eB), RdS.cells hmZ, RdS.len rf sl23, RdS.idx rf sl23, RdS.cellB rf (Ext.pres eB), RdS.cells rf, RdS.len rg sl23, RdS.idx rg sl23, RdS.cellB rg (Ext.pres eB), RdS.cells rg, BoxAt.cell hb0_0, BoxAt.cell hb0_1, BoxAt.cell hb0_2, BoxAt.cell hb0_3, wrap_id]
  refine op_bs3C (X := X) (Y := Y) (Z := Z) ⟨_, _, rfl, (RdS.pres hdX (Ext.pres eB)), (RdS.pres hmX (Ext.pres eB))⟩ ⟨_, _, rfl, (RdS.pres hdY (Ext.pres eB)), (RdS.pres hmY (Ext.pres eB))⟩ ⟨_, _, rfl, (RdS.pres hdZ (Ext.pres eB)), (RdS.pres hmZ (Ext.pres eB))⟩ ?_
  intro v1_3 h1_3 ho1_3 e1_3
  replace hb0_0 := BoxAt.ext hb0_0 e1_3
  replace hb0_1 := BoxAt.ext hb0_1 e1_3
  replace hb0_2 := BoxAt.ext hb0_2 e1_3
  replace hb0_3 := BoxAt.ext hb0_3 e1_3
  have := Ext.size e1_3
  replace eB := Ext.trans eB e1_3
  try simp -implicitDefEqProofs (disch := first | decide | assumption | omega) only [go_sem, RdS.len hdX sl22, RdS.idx hdX sl22, R1.intB hdX (Ext.pres eB), RdS.cells hdX, RdS.len hmX sl23, RdS.idx hmX sl23, RdS.cellB hmX (Ext.pres eB), RdS.cells hmX, RdS.len hdY sl22, RdS.idx hdY sl22, R1.intB hdY (Ext.pres eB), RdS.cells hdY, RdS.len hmY sl23, RdS.idx hmY sl23, RdS.cellB hmY (Ext.pres eB), RdS.cells hmY, RdS.len hdZ sl22, RdS.idx hdZ sl22, R1.intB hdZ (Ext.pres eB), RdS.cells hdZ, RdS.len hmZ sl23, RdS.idx hmZ sl23, RdS.cellB hmZ (Ext.pres eB), RdS.cells hmZ, RdS.len rf sl23, RdS.idx rf sl23, RdS.cellB rf (Ext.pres eB), RdS.cells rf, RdS.len rg sl23, RdS.idx rg sl23, RdS.cellB rg (Ext.pres eB), RdS.cells rg, BoxAt.cell hb0_0, BoxAt.cell hb0_1, BoxAt.cell hb0_2, BoxAt.cell hb0_3, wrap_id]
  try simp -implicitDefEqProofs (disch := first | decide | assumption | omega) only [go_sem, RdS.len hdX sl22, RdS.idx hdX sl22, R1.intB hdX (Ext.pres eB), RdS.cells hdX, RdS.len hmX sl23, RdS.idx hmX sl23, RdS.cellB hmX (Ext.pres eB), RdS.cells hmX, RdS.len hdY sl22, RdS.idx hdY sl22, R1.intB hdY (Ext.pres eB), RdS.cells hdY, RdS.len hmY sl23, RdS.idx hmY sl23, RdS.cellB hmY (Ext.pres eB), RdS.cells hmY, RdS.len hdZ sl22, RdS.idx hdZ sl22, R1.intB hdZ (Ext.pres eB), RdS.cells hdZ, RdS.len hmZ sl23, RdS.idx hmZ sl23, RdS.cellB hmZ (Ext.pres eB), RdS.cells hmZ, RdS.len rf sl23, RdS.idx rf sl23, RdS.cellB rf (Ext.pres eB), RdS.cells rf, RdS.len rg sl23, RdS.idx rg sl23, RdS.cellB rg (Ext.pres eB), RdS.cells rg, BoxAt.cell hb0_0, BoxAt.cell hb0_1, BoxAt.cell hb0_2, BoxAt.cell hb0_3, wrap_id]
  refine CallA.mono (pairL_ok _ _ _ ho1_3) ?_
  intro v_ h1_4
  rintro ⟨rfl, e1_4⟩
  replace hb0_0 := BoxAt.ext hb0_0 e1_4
  replace hb0_1 := BoxAt.ext hb0_1 e1_4
  replace hb0_2 := BoxAt.ext hb0_2 e1_4
  replace hb0_3 := BoxAt.ext hb0_3 e1_4
  replace ho1_3 := RdA.pres ho1_3 (Ext.pres e1_4)
  have := Ext.size e1_4
  replace eB := Ext.trans eB e1_4
  try simp -implicitDefEqProofs (disch := first | decide | assumption | omega) only [go_sem, RdS.len hdX sl22, RdS.idx hdX sl22, R1.intB hdX (Ext.pres eB), RdS.cells hdX, RdS.len hmX sl23, RdS.idx hmX sl23, RdS.cellB hmX (Ext.pres eB), RdS.cells hmX, RdS.len hdY sl22, RdS.idx hdY sl22, R1.intB hdY (Ext.pres eB), RdS.cells hdY, RdS.len hmY sl23, RdS.idx hmY sl23, RdS.cellB hmY (Ext.pres eB), RdS.cells hmY, RdS.len hdZ sl22, RdS.idx hdZ sl22, R1.intB hdZ (Ext.pres eB), RdS.cells hdZ, RdS.len hmZ sl23, RdS.idx hmZ sl23, RdS.cellB hmZ (Ext.pres eB), RdS.cells hmZ, RdS.len rf sl23, RdS.idx rf sl23, RdS.cellB rf (Ext.pres eB), RdS.cells rf, RdS.len rg sl23, RdS.idx rg sl23, RdS.cellB rg (Ext.pres eB), RdS.cells rg, BoxAt.cell hb0_0, BoxAt.cell hb0_1, BoxAt.cell hb0_2, BoxAt.cell hb0_3, wrap_id]
  refine hK _ _ ?_
  clear hK K
  refine den_seq ?_
  refine den_seq ?_
  refine den_merge [(33, .bool ((((pairL [X, Y, Z]) == (0 : Int)) && ((!((famP X Y f (0 : Int)))) || (!((famP Y Z g (0 : Int))))))))] [3, 6, 7, 9, 12] (fun H => Ext h1_4 H) ?_ ?_
    -- a way
  · refine den_region TTok ?_
    intro K hK
    simp -implicitDefEqProofs (disch := first | decide | assumption | (simp (disch := decide) only [slotOf_zero, slotOf_succ, Option.map_some, puts_same, puts_ne, gv_bool, gv_undef, tt, tf, ft, ff, eq_self, if_true, if_false, Bool.false_eq_true, Bool.not_true, Bool.not_false]; done) | omega) only [go_sem, RdS.len hdX sl22, RdS.idx hdX sl22, R1.intB hdX (Ext.pres eB), RdS.cells hdX, RdS.len hmX sl23, RdS.idx hmX sl23, RdS.cellB hmX (Ext.pres eB), RdS.cells hmX, RdS.len hdY sl22, RdS.idx hdY sl22, R1.intB hdY (Ext.pres eB), RdS.cells hdY, RdS.len hmY sl23, RdS.idx hmY sl23, RdS.cellB hmY (Ext.pres eB), RdS.cells hmY, RdS.len hdZ sl22, RdS.idx hdZ sl22, R1.intB hdZ (Ext.pres eB), RdS.cells hdZ, RdS.len hmZ sl23, RdS.idx hmZ sl23, RdS.cellB hmZ (Ext.pres eB), RdS.cells hmZ, RdS.len rf sl23, RdS.idx rf sl23, RdS.cellB rf (Ext.pres eB), RdS.cells rf, RdS.len rg sl23, RdS.idx rg sl23, RdS.cellB rg (Ext.pres eB), RdS.cells rg, BoxAt.cell hb0_0, BoxAt.cell hb0_1, BoxAt.cell hb0_2, BoxAt.cell hb0_3, wrap_id]
    refine opsP_T (by simp (disch := decide) only [slotOf_zero, slotOf_succ, Option.map_some, puts_same, puts_ne, gv_bool, gv_undef, tt, tf, ft, ff, eq_self, if_true, if_false, Bool.false_eq_true, Bool.not_true, Bool.not_false]; rfl) (fun g1 => ?_) (fun g1 => ?_)
    · obtain ⟨hX, hY, hZ, _⟩ := pairL3_0 (b0 g1)
      try simp -implicitDefEqProofs (disch := first | decide | assumption | (simp (disch := decide) only [slotOf_zero, slotOf_succ, Option.map_some, puts_same, puts_ne, gv_bool, gv_undef, tt, tf, ft, ff, eq_self, if_true, if_false, Bool.false_eq_true, Bool.not_true, Bool.not_false, g1]; done) | omega) only [go_sem, ld30, RdS.len hdX sl22, RdS.idx hdX sl22, R1.intB hdX (Ext.pres eB), RdS.cells hdX, RdS.len hmX sl23, RdS.idx hmX sl23, RdS.cellB hmX (Ext.pres eB), RdS.cells hmX, RdS.len hdY sl22, RdS.idx hdY sl22, R1.intB hdY (Ext.pres eB), RdS.cells hdY, RdS.len hmY sl23, RdS.idx hmY sl23, RdS.cellB hmY (Ext.pres eB), RdS.cells hmY, RdS.len hdZ sl22, RdS.idx hdZ sl22, R1.intB hdZ (Ext.pres eB), RdS.cells hdZ, RdS.len hmZ sl23, RdS.idx hmZ sl23, RdS.cellB hmZ (Ext.pres eB), RdS.cells hmZ, RdS.len rf sl23, RdS.idx rf sl23, RdS.cellB rf (Ext.pres eB), RdS.cells rf, RdS.len rg sl23, RdS.idx rg sl23, RdS.cellB rg (Ext.pres eB), RdS.cells rg, BoxAt.cell hb0_0, BoxAt.cell hb0_1, BoxAt.cell hb0_2, BoxAt.cell hb0_3, wrap_id, g1, eq_self, if_true, if_false, Bool.false_eq_true]
      try simp -implicitDefEqProofs (disch := first | decide | assumption | omega) only [go_sem, RdS.len hdX sl22, RdS.idx hdX sl22, R1.intB hdX (Ext.pres eB), RdS.cells hdX, RdS.len hmX sl23, RdS.idx hmX sl23, RdS.cellB hmX (Ext.pres eB), RdS.cells hmX, RdS.len hdY sl22, RdS.idx hdY sl22, R1.intB hdY (Ext.pres eB), RdS.cells hdY, RdS.len hmY sl23, RdS.idx hmY sl23, RdS.cellB hmY (Ext.pres eB), RdS.cells hmY, RdS.len hdZ sl22, RdS.idx hdZ sl22, R1.intB hdZ (Ext.pres eB), RdS.cells hdZ, RdS.len hmZ sl23, RdS.idx hmZ sl23, RdS.cellB hmZ (Ext.pres eB), RdS.cells hmZ, RdS.len rf sl23, RdS.idx rf sl23, RdS.cellB rf (Ext.pres eB), RdS.cells rf, RdS.len rg sl23, RdS.idx rg sl23, RdS.cellB rg (Ext.pres eB), RdS.cells rg, BoxAt.cell hb0_0, BoxAt.cell hb0_1, BoxAt.cell hb0_2, BoxAt.cell hb0_3, wrap_id]
      refine CallA.mono (iFam_ok _ _ _ X Y f (0 : Int) _ ⟨_, _, rfl, (RdS.pres hdX (Ext.pres eB)), (RdS.pres hmX (Ext.pres eB))⟩ ⟨_, _, rfl, (RdS.pres hdY (Ext.pres eB)), (RdS.pres hmY (Ext.pres eB))⟩ (RdS.pres rf (Ext.pres eB)) hX (by omega)) ?_
      intro v_ h2_6
      rintro ⟨rfl, e2_6⟩
      replace hb0_0 := BoxAt.ext hb0_0 e2_6
      replace hb0_1 := BoxAt.ext hb0_1 e2_6
      replace hb0_2 := BoxAt.ext hb0_2 e2_6
      replace hb0_3 := BoxAt.ext hb0_3 e2_6
      replace ho1_3 := RdA.pres ho1_3 (Ext.pres e2_6)
      have := Ext.size e2_6
      replace eB := Ext.trans eB e2_6
      try simp -implicitDefEqProofs (disch := first | decide | assumption | (simp (disch := decide) only [slotOf_zero, slotOf_succ, Option.map_some, puts_same, puts_ne, gv_bool, gv_undef, tt, tf, ft, ff, eq_self, if_true, if_false, Bool.false_eq_true, Bool.not_true, Bool.not_false, g1]; done) | omega) only [go_sem, RdS.len hdX sl22, RdS.idx hdX sl22, R1.intB hdX (Ext.pres eB), RdS.cells hdX, RdS.len hmX sl23, RdS.idx hmX sl23, RdS.cellB hmX (Ext.pres eB), RdS.cells hmX, RdS.len hdY sl22, RdS.idx hdY sl22, R1.intB hdY (Ext.pres eB), RdS.cells hdY, RdS.len hmY sl23, RdS.idx hmY sl23, RdS.cellB hmY (Ext.pres eB), RdS.cells hmY, RdS.len hdZ sl22, RdS.idx hdZ sl22, R1.intB hdZ (Ext.pres eB), RdS.cells hdZ, RdS.len hmZ sl23, RdS.idx hmZ sl23, RdS.cellB hmZ (Ext.pres eB), RdS.cells hmZ, RdS.len rf sl23, RdS.idx rf sl23, RdS.cellB rf (Ext.pres eB), RdS.cells rf, RdS.len rg sl23, RdS.idx rg sl23, RdS.cellB rg (Ext.pres eB), RdS.cells rg, BoxAt.cell hb0_0, BoxAt.cell hb0_1, BoxAt.cell hb0_2, BoxAt.cell hb0_3, wrap_id, g1, eq_self, if_true, if_false, Bool.false_eq_true]
      refine opsP_F (by simp (disch := decide) only [slotOf_zero, slotOf_succ, Option.map_some, puts_same, puts_ne, gv_bool, gv_undef, tt, tf, ft, ff, eq_self, if_true, if_false, Bool.false_eq_true, Bool.not_true, Bool.not_false, g1]; rfl) (fun g2 => ?_) (fun g2 => ?_)
      · try simp -implicitDefEqProofs (disch := first | decide | assumption | (simp (disch := decide) only [slotOf_zero, slotOf_succ, Option.map_some, puts_same, puts_ne, gv_bool, gv_undef, tt, tf, ft, ff, eq_self, if_true, if_false, Bool.false_eq_true, Bool.not_true, Bool.not_false, g1, g2]; done) | omega) only [go_sem, ld23, ld30, RdS.len hdX sl22, RdS.idx hdX sl22, R1.intB hdX (Ext.pres eB), RdS.cells hdX, RdS.len hmX sl23, RdS.idx hmX sl23, RdS.cellB hmX (Ext.pres eB), RdS.cells hmX, RdS.len hdY sl22, RdS.idx hdY sl22, R1.intB hdY (Ext.pres eB), RdS.cells hdY, RdS.len hmY sl23, RdS.idx hmY sl23, RdS.cellB hmY (Ext.pres eB), RdS.cells hmY, RdS.len hdZ sl22, RdS.idx hdZ sl22, R1.intB hdZ (Ext.pres eB), RdS.cells hdZ, RdS.len hmZ sl23, RdS.idx hmZ sl23, RdS.cellB hmZ (Ext.pres eB), RdS.cells hmZ, RdS.len rf sl23, RdS.idx rf sl23, RdS.cellB rf (Ext.pres eB), RdS.cells rf, RdS.len rg sl23, RdS.idx rg sl23, RdS.cellB rg (Ext.pres eB), RdS.cells rg, BoxAt.cell hb0_0, BoxAt.cell hb0_1, BoxAt.cell hb0_2, BoxAt.cell hb0_3, wrap_id, g1, g2, eq_self, if_true, if_false, Bool.false_eq_true]
        try simp -implicitDefEqProofs (disch := first | decide | assumption | omega) only [go_sem, RdS.len hdX sl22, RdS.idx hdX sl22, R1.intB hdX (Ext.pres eB), RdS.cells hdX, RdS.len hmX sl23, RdS.idx hmX sl23, RdS.cellB hmX (Ext.pres eB), RdS.cells hmX, RdS.len hdY sl22, RdS.idx hdY sl22, R1.intB hdY (Ext.pres eB), RdS.cells hdY, RdS.len hmY sl23, RdS.idx hmY sl23, RdS.cellB hmY (Ext.pres eB), RdS.cells hmY, RdS.len hdZ sl22, RdS.idx hdZ sl22, R1.intB hdZ (Ext.pres eB), RdS.cells hdZ, RdS.len hmZ sl23, RdS.idx hmZ sl23, RdS.cellB hmZ (Ext.pres eB), RdS.cells hmZ, RdS.len rf sl23, RdS.idx rf sl23, RdS.cellB rf (Ext.pres eB), RdS.cells rf, RdS.len rg sl23, RdS.idx rg sl23, RdS.cellB rg (Ext.pres eB), RdS.cells rg, BoxAt.cell hb0_0, BoxAt.cell hb0_1, BoxAt.cell hb0_2, BoxAt.cell hb0_3, wrap_id]
        refine CallA.mono (iFam_ok _ _ _ Y Z g (0 : Int) _ ⟨_, _, rfl, (RdS.pres hdY (Ext.pres eB)), (RdS.pres hmY (Ext.pres eB))⟩ ⟨_, _, rfl, (RdS.pres hdZ (Ext.pres eB)), (RdS.pres hmZ (Ext.pres eB))⟩ (RdS.pres rg (Ext.pres eB)) hY (by omega)) ?_
        intro v_ h2_12
        rintro ⟨rfl, e2_12⟩
        replace hb0_0 := BoxAt.ext hb0_0 e2_12
        replace hb0_1 := BoxAt.ext hb0_1 e2_12
        replace hb0_2 := BoxAt.ext hb0_2 e2_12
        replace hb0_3 := BoxAt.ext hb0_3 e2_12
        replace ho1_3 := RdA.pres ho1_3 (Ext.pres e2_12)
        have := Ext.size e2_12
        replace eB := Ext.trans eB e2_12
        try simp -implicitDefEqProofs (disch := first | decide | assumption | (simp (disch := decide) only [slotOf_zero, slotOf_succ, Option.map_some, puts_same, puts_ne, gv_bool, gv_undef, tt, tf, ft, ff, eq_self, if_true, if_false, Bool.false_eq_true, Bool.not_true, Bool.not_false, g1, g2]; done) | omega) only [go_sem, RdS.len hdX sl22, RdS.idx hdX sl22, R1.intB hdX (Ext.pres eB), RdS.cells hdX, RdS.len hmX sl23, RdS.idx hmX sl23, RdS.cellB hmX (Ext.pres eB), RdS.cells hmX, RdS.len hdY sl22, RdS.idx hdY sl22, R1.intB hdY (Ext.pres eB), RdS.cells hdY, RdS.len hmY sl23, RdS.idx hmY sl23, RdS.cellB hmY (Ext.pres eB), RdS.cells hmY, RdS.len hdZ sl22, RdS.idx hdZ sl22, R1.intB hdZ (Ext.pres eB), RdS.cells hdZ, RdS.len hmZ sl23, RdS.idx hmZ sl23, RdS.cellB hmZ (Ext.pres eB), RdS.cells hmZ, RdS.len rf sl23, RdS.idx rf sl23, RdS.cellB rf (Ext.pres eB), RdS.cells rf, RdS.len rg sl23, RdS.idx rg sl23, RdS.cellB rg (Ext.pres eB), RdS.cells rg, BoxAt.cell hb0_0, BoxAt.cell hb0_1, BoxAt.cell hb0_2, BoxAt.cell hb0_3, wrap_id, g1, g2, eq_self, if_true, if_false, Bool.false_eq_true]
        refine hK _ _ ?_
        clear hK K
        refine den_stop ?_
        refine ⟨?_, (Ext.trans e2_6 e2_12)⟩
        first | (simp (disch := decide) only [go_sem, g1, g2, eq_self, Bool.true_and, Bool.and_true, Bool.false_and, Bool.and_false, Bool.true_or, Bool.or_true, Bool.false_or, Bool.or_false, if_true, if_false, Bool.false_eq_true]; done) | simp [HasL, sel, puts_at, g1, g2]
      · try simp -implicitDefEqProofs (disch := first | decide | assumption | (simp (disch := decide) only [slotOf_zero, slotOf_succ, Option.map_some, puts_same, puts_ne, gv_bool, gv_undef, tt, tf, ft, ff, eq_self, if_true, if_false, Bool.false_eq_true, Bool.not_true, Bool.not_false, g1, g2]; done) | omega) only [go_sem, RdS.len hdX sl22, RdS.idx hdX sl22, R1.intB hdX (Ext.pres eB), RdS.cells hdX, RdS.len hmX sl23, RdS.idx hmX sl23, RdS.cellB hmX (Ext.pres eB), RdS.cells hmX, RdS.len hdY sl22, RdS.idx hdY sl22, R1.intB hdY (Ext.pres eB), RdS.cells hdY, RdS.len hmY sl23, RdS.idx hmY sl23, RdS.cellB hmY (Ext.pres eB), RdS.cells hmY, RdS.len hdZ sl22, RdS.idx hdZ sl22, R1.intB hdZ (Ext.pres eB), RdS.cells hdZ, RdS.len hmZ sl23, RdS.idx hmZ sl23, RdS.cellB hmZ (Ext.pres eB), RdS.cells hmZ, RdS.len rf sl23, RdS.idx rf sl23, RdS.cellB rf (Ext.pres eB), RdS.cells rf, RdS.len rg sl23, RdS.idx rg sl23, RdS.cellB rg (Ext.pres eB), RdS.cells rg, BoxAt.cell hb0_0, BoxAt.cell hb0_1, BoxAt.cell hb0_2, BoxAt.cell hb0_3, wrap_id, g1, g2, eq_self, if_true, if_false, Bool.false_eq_true]
        refine hK _ _ ?_
        clear hK K
        refine den_stop ?_
        refine ⟨?_, e2_6⟩
        first | (simp (disch := decide) only [go_sem, g1, g2, eq_self, Bool.true_and, Bool.and_true, Bool.false_and, Bool.and_false, Bool.true_or, Bool.or_true, Bool.false_or, Bool.or_false, if_true, if_false, Bool.false_eq_true]; done) | simp [HasL, sel, puts_at, g1, g2]
    · try simp -implicitDefEqProofs (disch := first | decide | assumption | (simp (disch := decide) only [slotOf_zero, slotOf_succ, Option.map_some, puts_same, puts_ne, gv_bool, gv_undef, tt, tf, ft, ff, eq_self, if_true, if_false, Bool.false_eq_true, Bool.not_true, Bool.not_false, g1]; done) | omega) only [go_sem, RdS.len hdX sl22, RdS.idx hdX sl22, R1.intB hdX (Ext.pres eB), RdS.cells hdX, RdS.len hmX sl23, RdS.idx hmX sl23, RdS.cellB hmX (Ext.pres eB), RdS.cells hmX, RdS.len hdY sl22, RdS.idx hdY sl22, R1.intB hdY (Ext.pres eB), RdS.cells hdY, RdS.len hmY sl23, RdS.idx hmY sl23, RdS.cellB hmY (Ext.pres eB), RdS.cells hmY, RdS.len hdZ sl22, RdS.idx hdZ sl22, R1.intB hdZ (Ext.pres eB), RdS.cells hdZ, RdS.len hmZ sl23, RdS.idx hmZ sl23, RdS.cellB hmZ (Ext.pres eB), RdS.cells hmZ, RdS.len rf sl23, RdS.idx rf sl23, RdS.cellB rf (Ext.pres eB), RdS.cells rf, RdS.len rg sl23, RdS.idx rg sl23, RdS.cellB rg (Ext.pres eB), RdS.cells rg, BoxAt.cell hb0_0, BoxAt.cell hb0_1, BoxAt.cell hb0_2, BoxAt.cell hb0_3, wrap_id, g1, eq_self, if_true, if_false, Bool.false_eq_true]
      try simp -implicitDefEqProofs (disch := first | decide | assumption | (simp (disch := decide) only [slotOf_zero, slotOf_succ, Option.map_some, puts_same, puts_ne, gv_bool, gv_undef, tt, tf, ft, ff, eq_self, if_true, if_false, Bool.false_eq_true, Bool.not_true, Bool.not_false, g1]; done) | omega) only [go_sem, RdS.len hdX sl22, RdS.idx hdX sl22, R1.intB hdX (Ext.pres eB), RdS.cells hdX, RdS.len hmX sl23, RdS.idx hmX sl23, RdS.cellB hmX (Ext.pres eB), RdS.cells hmX, RdS.len hdY sl22, RdS.idx hdY sl22, R1.intB hdY (Ext.pres eB), RdS.cells hdY, RdS.len hmY sl23, RdS.idx hmY sl23, RdS.cellB hmY (Ext.pres eB), RdS.cells hmY, RdS.len hdZ sl22, RdS.idx hdZ sl22, R1.intB hdZ (Ext.pres eB), RdS.cells hdZ, RdS.len hmZ sl23, RdS.idx hmZ sl23, RdS.cellB hmZ (Ext.pres eB), RdS.cells hmZ, RdS.len rf sl23, RdS.idx rf sl23, RdS.cellB rf (Ext.pres eB), RdS.cells rf, RdS.len rg sl23, RdS.idx rg sl23, RdS.cellB rg (Ext.pres eB), RdS.cells rg, BoxAt.cell hb0_0, BoxAt.cell hb0_1, BoxAt.cell hb0_2, BoxAt.cell hb0_3, wrap_id, g1, eq_self, if_true, if_false, Bool.false_eq_true]
      refine hK _ _ ?_
      clear hK K
      refine den_stop ?_
      refine ⟨?_, Ext.refl _⟩
      first | (simp (disch := decide) only [go_sem, g1, eq_self, Bool.true_and, Bool.and_true, Bool.false_and, Bool.and_false, Bool.true_or, Bool.or_true, Bool.false_or, Bool.or_false, if_true, if_false, Bool.false_eq_true]; done) | simp [HasL, sel, puts_at, g1]
  intro en3 h4 e5
  replace hb0_0 := BoxAt.ext hb0_0 e5
  replace hb0_1 := BoxAt.ext hb0_1 e5
  replace hb0_2 := BoxAt.ext hb0_2 e5
  replace hb0_3 := BoxAt.ext hb0_3 e5
  replace ho1_3 := RdA.pres ho1_3 (Ext.pres e5)
  have := Ext.size e5
  replace eB := Ext.trans eB e5
  simp (disch := decide) only [go_sem]
  refine den_mergeH [(12, .int .i64 ((cadd (pairL [X, Y, Z]) (2 : Int) ((!((famP X Y f (0 : Int)))) || (!((famP Y Z g (0 : Int))))))))] [3, 6, 7, 9] ?_ ?_
  · refine den_cond rfl (fun c0 => ?_) (fun c0 => ?_)
    · refine den_region TTok ?_
      intro K hK
      simp -implicitDefEqProofs (disch := first | decide | assumption | omega) only [go_sem, RdS.len hdX sl22, RdS.idx hdX sl22, R1.intB hdX (Ext.pres eB), RdS.cells hdX, RdS.len hmX sl23, RdS.idx hmX sl23, RdS.cellB hmX (Ext.pres eB), RdS.cells hmX, RdS.len hdY sl22, RdS.idx hdY sl22, R1.intB hdY (Ext.pres eB), RdS.cells hdY, RdS.len hmY sl23, RdS.idx hmY sl23, RdS.cellB hmY (Ext.pres eB), RdS.cells hmY, RdS.len hdZ sl22, RdS.idx hdZ sl22, R1.intB hdZ (Ext.pres eB), RdS.cells hdZ, RdS.len hmZ sl23, RdS.idx hmZ sl23, RdS.cellB hmZ (Ext.pres eB), RdS.cells hmZ, RdS.len rf sl23, RdS.idx rf sl23, RdS.cellB rf (Ext.pres eB), RdS.cells rf, RdS.len rg sl23, RdS.idx rg sl23, RdS.cellB rg (Ext.pres eB), RdS.cells rg, BoxAt.cell hb0_1, BoxAt.cell hb0_2, BoxAt.cell hb0_3, wrap_id]
      refine hK _ _ ?_
      clear hK K
      refine den_stop ?_
      refine ⟨?_, rfl⟩; simp (disch := decide) only [go_sem, c0, caddT c0, eq_self, if_true, if_false, Bool.false_eq_true, reduceCtorEq]
    · refine den_skip ?_
      refine den_stop ?_
      refine ⟨?_, rfl⟩; simp (disch := decide) only [go_sem, c0, caddF c0, eq_self, if_true, if_false, Bool.false_eq_true, reduceCtorEq]
  intro en6
  simp (disch := decide) only [go_sem]
  refine den_seq ?_
  refine den_seq ?_
  refine den_region TTok ?_
  intro K hK
  simp -implicitDefEqProofs (disch := first | decide | assumption | omega) only [go_sem, RdS.len hdX sl22, RdS.idx hdX sl22, R1.intB hdX (Ext.pres eB), RdS.cells hdX, RdS.len hmX sl23, RdS.idx hmX sl23, RdS.cellB hmX (Ext.pres eB), RdS.cells hmX, RdS.len hdY sl22, RdS.idx hdY sl22, R1.intB hdY (Ext.pres eB), RdS.cells hdY, RdS.len hmY sl23, RdS.idx hmY sl23, RdS.cellB hmY (Ext.pres eB), RdS.cells hmY, RdS.len hdZ sl22, RdS.idx hdZ sl22, R1.intB hdZ (Ext.pres eB), RdS.cells hdZ, RdS.len hmZ sl23, RdS.idx hmZ sl23, RdS.cellB hmZ (Ext.pres eB), RdS.cells hmZ, RdS.len rf sl23, RdS.idx rf sl23, RdS.cellB rf (Ext.pres eB), RdS.cells rf, RdS.len rg sl23, RdS.idx rg sl23, RdS.cellB rg (Ext.pres eB), RdS.cells rg, BoxAt.cell hb0_1, BoxAt.cell hb0_2, BoxAt.cell hb0_3, wrap_id]
  refine hK _ _ ?_
  clear hK K
  refine den_cond rfl (fun c1 => ?_) (fun c1 => ?_)
  · try simp only [decide_eq_true_eq, decide_eq_false_iff_not, beq_iff_eq, beq_eq_false_iff_ne, bne_iff_ne, ne_eq, Bool.not_eq_true', Bool.not_eq_false', Bool.and_eq_true, Bool.or_eq_true, bne_eq_false_iff_eq] at c1
    refine den_seq ?_
    refine den_region TTok ?_
    intro K hK
    simp -implicitDefEqProofs (disch := first | decide | assumption | omega) only [go_sem, RdS.len hdX sl22, RdS.idx hdX sl22, R1.intB hdX (Ext.pres eB), RdS.cells hdX, RdS.len hmX sl23, RdS.idx hmX sl23, RdS.cellB hmX (Ext.pres eB), RdS.cells hmX, RdS.len hdY sl22, RdS.idx hdY sl22, R1.intB hdY (Ext.pres eB), RdS.cells hdY, RdS.len hmY sl23, RdS.idx hmY sl23, RdS.cellB hmY (Ext.pres eB), RdS.cells hmY, RdS.len hdZ sl22, RdS.idx hdZ sl22, R1.intB hdZ (Ext.pres eB), RdS.cells hdZ, RdS.len hmZ sl23, RdS.idx hmZ sl23, RdS.cellB hmZ (Ext.pres eB), RdS.cells hmZ, RdS.len rf sl23, RdS.idx rf sl23, RdS.cellB rf (Ext.pres eB), RdS.cells rf, RdS.len rg sl23, RdS.idx rg sl23, RdS.cellB rg (Ext.pres eB), RdS.cells rg, wrap_id]
    refine hK _ _ ?_
    clear hK K
    refine den_ret ?_
    simp (disch := decide) only [resP_2, puts_same, puts_ne]
    have hz : cfP X Y Z f g = ([], cfC X Y Z f g) := by rw [cfP, if_neg (show ¬ cfC X Y Z f g = 0 from c1)]
    rw [hz]
    exact ⟨.slice none 0 0, [], rfl, OS.nil, Fresh.nil _, eB⟩
  · try simp only [decide_eq_true_eq, decide_eq_false_iff_not, beq_iff_eq, beq_eq_false_iff_ne, bne_iff_ne, ne_eq, Bool.not_eq_true', Bool.not_eq_false', Bool.and_eq_true, Bool.or_eq_true, bne_eq_false_iff_eq] at c1
    have hk := cfC_0 (show cfC X Y Z f g = 0 from c1)
    refine den_skip ?_
    refine den_seq ?_
    refine den_region TTok ?_
    intro K hK
    simp -implicitDefEqProofs (disch := first | decide | assumption | omega) only [go_sem, RdS.len hdX sl22, RdS.idx hdX sl22, R1.intB hdX (Ext.pres eB), RdS.cells hdX, RdS.len hmX sl23, RdS.idx hmX sl23, RdS.cellB hmX (Ext.pres eB), RdS.cells hmX, RdS.len hdY sl22, RdS.idx hdY sl22, R1.intB hdY (Ext.pres eB), RdS.cells hdY, RdS.len hmY sl23, RdS.idx hmY sl23, RdS.cellB hmY (Ext.pres eB), RdS.cells hmY, RdS.len hdZ sl22, RdS.idx hdZ sl22, R1.intB hdZ (Ext.pres eB), RdS.cells hdZ, RdS.len hmZ sl23, RdS.idx hmZ sl23, RdS.cellB hmZ (Ext.pres eB), RdS.cells hmZ, RdS.len rf sl23, RdS.idx rf sl23, RdS.cellB rf (Ext.pres eB), RdS.cells rf, RdS.len rg sl23, RdS.idx rg sl23, RdS.cellB rg (Ext.pres eB), RdS.cells rg, BoxAt.cell hb0_1, BoxAt.cell hb0_2, BoxAt.cell hb0_3, wrap_id]
    try simp -implicitDefEqProofs (disch := first | decide | assumption | omega) only [go_sem, RdS.len hdX sl22, RdS.idx hdX sl22, R1.intB hdX (Ext.pres eB), RdS.cells hdX, RdS.len hmX sl23, RdS.idx hmX sl23, RdS.cellB hmX (Ext.pres eB), RdS.cells hmX, RdS.len hdY sl22, RdS.idx hdY sl22, R1.intB hdY (Ext.pres eB), RdS.cells hdY, RdS.len hmY sl23, RdS.idx hmY sl23, RdS.cellB hmY (Ext.pres eB), RdS.cells hmY, RdS.len hdZ sl22, RdS.idx hdZ sl22, R1.intB hdZ (Ext.pres eB), RdS.cells hdZ, RdS.len hmZ sl23, RdS.idx hmZ sl23, RdS.cellB hmZ (Ext.pres eB), RdS.cells hmZ, RdS.len rf sl23, RdS.idx rf sl23, RdS.cellB rf (Ext.pres eB), RdS.cells rf, RdS.len rg sl23, RdS.idx rg sl23, RdS.cellB rg (Ext.pres eB), RdS.cells rg, BoxAt.cell hb0_1, BoxAt.cell hb0_2, BoxAt.cell hb0_3, wrap_id]
    refine CallA.mono (mapped_ok _ f _ _ (fun (w : Nat) r => imgP Y Z g 0 (w : Int) r) _ (RdS.pres rf (Ext.pres eB)) hk.lens.2.2.1 hk.lens.2.2.2 (fun n i hn hi h' e => by
    simp only [List.append_toArray, List.cons_append, List.nil_append]
    exact cf1_ok Y Z _ _ _ _ _ _ _ g n _ _ _ _ _ hdY hmY hdZ hmZ rg (Ext.trans eB e) ((RdS.rowN (RdS.rowN (RdS.pres rf (Ext.pres eB)) n hn) i hi).pres (Ext.pres e)) (BoxAt.ext hb0_1 e) (BoxAt.ext hb0_2 e) (BoxAt.ext hb0_3 e) hk.cY hk.cZ hk.cg (by have := hk.lens.2.1; omega) (hk.hv hn hi))) ?_
    intro vw6_2 h6_2
    rintro ⟨fw6_2, how6_2, hfw6_2, e6_2⟩
    replace hb0_1 := BoxAt.ext hb0_1 e6_2
    replace hb0_2 := BoxAt.ext hb0_2 e6_2
    replace hb0_3 := BoxAt.ext hb0_3 e6_2
    replace ho1_3 := RdA.pres ho1_3 (Ext.pres e6_2)
    have := Ext.size e6_2
    replace eB := Ext.trans eB e6_2
    have hlhow6_2 := OS.lt how6_2
    try simp -implicitDefEqProofs (disch := first | decide | assumption | omega) only [go_sem, RdS.len hdX sl22, RdS.idx hdX sl22, R1.intB hdX (Ext.pres eB), RdS.cells hdX, RdS.len hmX sl23, RdS.idx hmX sl23, RdS.cellB hmX (Ext.pres eB), RdS.cells hmX, RdS.len hdY sl22, RdS.idx hdY sl22, R1.intB hdY (Ext.pres eB), RdS.cells hdY, RdS.len hmY sl23, RdS.idx hmY sl23, RdS.cellB hmY (Ext.pres eB), RdS.cells hmY, RdS.len hdZ sl22, RdS.idx hdZ sl22, R1.intB hdZ (Ext.pres eB), RdS.cells hdZ, RdS.len hmZ sl23, RdS.idx hmZ sl23, RdS.cellB hmZ (Ext.pres eB), RdS.cells hmZ, RdS.len rf sl23, RdS.idx rf sl23, RdS.cellB rf (Ext.pres eB), RdS.cells rf, RdS.len rg sl23, RdS.idx rg sl23, RdS.cellB rg (Ext.pres eB), RdS.cells rg, RdS.len (OS.rd how6_2) sl23, RdS.idx (OS.rd how6_2) sl23, RdS.cellN (OS.rd how6_2), RdS.cells (OS.rd how6_2), BoxAt.cell hb0_1, BoxAt.cell hb0_2, BoxAt.cell hb0_3, wrap_id]
    refine hK _ _ ?_
    clear hK K
    refine den_ret ?_
    simp (disch := decide) only [resP_2, puts_same, puts_ne]
    have hz : cfP X Y Z f g = (mapFam (fun (w : Nat) r => imgP Y Z g 0 (w : Int) r) f, 0) := by rw [cfP, if_pos (show cfC X Y Z f g = 0 from c1)]
    rw [hz]
    exact ⟨_, _, rfl, how6_2, hfw6_2.mono (by omega), eB⟩

set_option maxRecDepth 100000 in
theorem sCf_ok (vX vY vZ vf vg : Value) (X : Cx) (Y : Cx) (Z : Cx) (f : List (List (List Int))) (g : List (List (List Int))) (h : Heap) (rX : RC h vX X) (rY : RC h vY Y) (rZ : RC h vZ Z) (rf : R3 h vf f) (rg : R3 h vg g)  : CallA Try.prog 32 #[vX, vY, vZ, vf, vg] h fun v' h' => ∃ w0 f0, v' = .tuple #[w0, .int .i64 ((cfP X Y Z f g).2)] ∧ O3 h' w0 ((cfP X Y Z f g).1) f0 ∧ Fresh h.size f0 ∧ Ext h h' := by
  obtain ⟨vdX, vmX, rfl, hdX, hmX⟩ := rX
  have hledX := RdS.le hdX
  have hlemX := RdS.le hmX
  obtain ⟨vdY, vmY, rfl, hdY, hmY⟩ := rY
  have hledY := RdS.le hdY
  have hlemY := RdS.le hmY
  obtain ⟨vdZ, vmZ, rfl, hdZ, hmZ⟩ := rZ
  have hledZ := RdS.le hdZ
  have hlemZ := RdS.le hmZ
  have hlef := RdS.le rf
  have hleg := RdS.le rg
  refine callA_intro TTok (args := [_, _, _, _, _]) Try.func32 (by kernel_rfl) rfl 89 rfl (by simp) [.tmp 10, .tmp 11] rfl ?_
  simp only [idxs, Nat.reduceAdd]
  refine den_seq ?_
  refine den_region TTok ?_
  intro K hK
  simp -implicitDefEqProofs (disch := first | decide | assumption | omega) only [go_sem, RdS.len hdX sl22, RdS.idx hdX sl22, R1.intB hdX (HPres.refl _), RdS.cells hdX, RdS.len hmX sl23, RdS.idx hmX sl23, RdS.cellB hmX (HPres.refl _), RdS.cells hmX, RdS.len hdY sl22, RdS.idx hdY sl22, R1.intB hdY (HPres.refl _), RdS.cells hdY, RdS.len hmY sl23, RdS.idx hmY sl23, RdS.cellB hmY (HPres.refl _), RdS.cells hmY, RdS.len hdZ sl22, RdS.idx hdZ sl22, R1.intB hdZ (HPres.refl _), RdS.cells hdZ, RdS.len hmZ sl23, RdS.idx hmZ sl23, RdS.cellB hmZ (HPres.refl _), RdS.cells hmZ, RdS.len rf sl23, RdS.idx rf sl23, RdS.cellB rf (HPres.refl _), RdS.cells rf, RdS.len rg sl23, RdS.idx rg sl23, RdS.cellB rg (HPres.refl _), RdS.cells rg, wrap_id]
  refine op_box (cs := #[.int .i64 (X.p), vdX, vmX]) rfl ?_
  intro h0_0 e0_0 hb0_0 z0_0
  have := Ext.size e0_0
  have eB := e0_0
  have hfhb0_0 : Fresh h.size [h.size] := Fresh.one _
  have hlhb0_0 := one_lt (show h.size < h0_0.size by omega)
  try simp -implicitDefEqProofs (disch := first | decide | assumption | omega) only [go_sem, RdS.len hdX sl22, RdS.idx hdX sl22, R1.intB hdX (Ext.pres eB), RdS.cells hdX, RdS.len hmX sl23, RdS.idx hmX sl23, RdS.cellB hmX (Ext.pres eB), RdS.cells hmX, RdS.len hdY sl22, RdS.idx hdY sl22, R1.intB hdY (Ext.pres eB), RdS.cells hdY, RdS.len hmY sl23, RdS.idx hmY sl23, RdS.cellB hmY (Ext.pres eB), RdS.cells hmY, RdS.len hdZ sl22, RdS.idx hdZ sl22, R1.intB hdZ (Ext.pres eB), RdS.cells hdZ, RdS.len hmZ sl23, RdS.idx hmZ sl23, RdS.cellB hmZ (Ext.pres eB), RdS.cells hmZ, RdS.len rf sl23, RdS.idx rf sl23, RdS.cellB rf (Ext.pres eB), RdS.cells rf, RdS.len rg sl23, RdS.idx rg sl23, RdS.cellB rg (Ext.pres eB), RdS.cells rg, BoxAt.cell hb0_0, wrap_id]
  refine op_box (cs := #[.int .i64 (Y.p), vdY, vmY]) rfl ?_
  intro h0_1 e0_1 hb0_1 z0_1
  replace hb0_0 := BoxAt.ext hb0_0 e0_1
  have := Ext.size e0_1
  replace eB := Ext.trans eB e0_1
  have hfhb0_1 : Fresh h0_0.size [h0_0.size] := Fresh.one _
  have hlhb0_1 := one_lt (show h0_0.size < h0_1.size by omega)
  try simp -implicitDefEqProofs (disch := first | decide | assumption | omega) only [go_sem, RdS.len hdX sl22, RdS.idx hdX sl22, R1.intB hdX (Ext.pres eB), RdS.cells hdX, RdS.len hmX sl23, RdS.idx hmX sl23, RdS.cellB hmX (Ext.pres eB), RdS.cells hmX, RdS.len hdY sl22, RdS.idx hdY sl22, R1.intB hdY (Ext.pres eB), RdS.cells hdY, RdS.len hmY sl23, RdS.idx hmY sl23, RdS.cellB hmY (Ext.pres eB), RdS.cells hmY, RdS.len hdZ sl22, RdS.idx hdZ sl22, R1.intB hdZ (Ext.pres eB), RdS.cells hdZ, RdS.len hmZ sl23, RdS.idx hmZ sl23, RdS.cellB hmZ (Ext.pres eB), RdS.cells hmZ, RdS.len rf sl23, RdS.idx rf sl23, RdS.cellB rf (Ext.pres eB), RdS.cells rf, RdS.len rg sl23, RdS.idx rg sl23, RdS.cellB rg (Ext.pres eB), RdS.cells rg, BoxAt.cell hb0_0, BoxAt.cell hb0_1, wrap_id]
  refine op_box (cs := #[.int .i64 (Z.p), vdZ, vmZ]) rfl ?_
  intro h0_2 e0_2 hb0_2 z0_2
  replace hb0_0 := BoxAt.ext hb0_0 e0_2
  replace hb0_1 := BoxAt.ext hb0_1 e0_2
  have := Ext.size e0_2
  replace eB := Ext.trans eB e0_2
  have hfhb0_2 : Fresh h0_1.size [h0_1.size] := Fresh.one _
  have hlhb0_2 := one_lt (show h0_1.size < h0_2.size by omega)
  try simp -implicitDefEqProofs (disch := first | decide | assumption | omega) only [go_sem, RdS.len hdX sl22, RdS.idx hdX sl22, R1.intB hdX (Ext.pres eB), RdS.cells hdX, RdS.len hmX sl23, RdS.idx hmX sl23, RdS.cellB hmX (Ext.pres eB), RdS.cells hmX, RdS.len hdY sl22, RdS.idx hdY sl22, R1.intB hdY (Ext.pres eB), RdS.cells hdY, RdS.len hmY sl23, RdS.idx hmY sl23, RdS.cellB hmY (Ext.pres eB), RdS.cells hmY, RdS.len hdZ sl22, RdS.idx hdZ sl22, R1.intB hdZ (Ext.pres eB), RdS.cells hdZ, RdS.len hmZ sl23, RdS.idx hmZ sl23, RdS.cellB hmZ (Ext.pres eB), RdS.cells hmZ, RdS.len rf sl23, RdS.idx rf sl23, RdS.cellB rf (Ext.pres eB), RdS.cells rf, RdS.len rg sl23, RdS.idx rg sl23, RdS.cellB rg (Ext.pres eB), RdS.cells rg, BoxAt.cell hb0_0, BoxAt.cell hb0_1, BoxAt.cell hb0_2, wrap_id]
  refine hK _ _ ?_
  clear hK K
  refine den_seq ?_
  refine den_draw TTok mixed [] [(0, true), (1, true), (3, true), (4, true), (2, false), (5, false), (6, true), (7, true)] (by kernel_rfl) ?_
  intro K hK
  simp -implicitDefEqProofs (disch := first | decide | assumption | omega) only [go_sem, ld30, RdS.len hdX sl22, RdS.idx hdX sl22, R1.intB hdX (Ext.pres eB), RdS.cells hdX, RdS.len hmX sl23, RdS.idx hmX sl23, RdS.cellB hmX (Ext.pres eB), RdS.cells hmX, RdS.len hdY sl22, RdS.idx hdY sl22, R1.intB hdY (Ext.pres eB), RdS.cells hdY, RdS.len hmY sl23, RdS.idx hmY sl23, RdS.cellB hmY (Ext.pres eB), RdS.cells hmY, RdS.len hdZ sl22, RdS.idx hdZ sl22, R1.intB hdZ (Ext.pres eB), RdS.cells hdZ, RdS.len hmZ sl23, RdS.idx hmZ sl23, RdS.cellB hmZ (Ext.pres eB), RdS.cells hmZ, RdS.len rf sl23, RdS.idx rf sl23, RdS.cellB rf (Ext.pres eB), RdS.cells rf, RdS.len rg sl23, RdS.idx rg sl23, RdS.cellB rg (Ext.pres eB), RdS.cells rg, BoxAt.cell hb0_0, BoxAt.cell hb0_1, BoxAt.cell hb0_2, wrap_id]
  try simp -implicitDefEqProofs (disch := first | decide | assumption | omega) only [go_sem, RdS.len hdX sl22, RdS.idx hdX sl22, R1.intB hdX (Ext.pres eB), RdS.cells hdX, RdS.len hmX sl23, RdS.idx hmX sl23, RdS.cellB hmX (Ext.pres eB), RdS.cells hmX, RdS.len hdY sl22, RdS.idx hdY sl22, R1.intB hdY (Ext.pres eB), RdS.cells hdY, RdS.len hmY sl23, RdS.idx hmY sl23, RdS.cellB hmY (Ext.pres eB), RdS.cells hmY, RdS.len hdZ sl22, RdS.idx hdZ sl22, R1.intB hdZ (Ext.pres eB), RdS.cells hdZ, RdS.len hmZ sl23, RdS.idx hmZ sl23, RdS.cellB hmZ (Ext.pres eB), RdS.cells hmZ, RdS.len rf sl23, RdS.idx rf sl23, RdS.cellB rf (Ext.pres eB), RdS.cells rf, RdS.len rg sl23, RdS.idx rg sl23, RdS.cellB rg (Ext.pres eB), RdS.cells rg, BoxAt.cell hb0_0, BoxAt.cell hb0_1, BoxAt.cell hb0_2, wrap_id]
  refine CallA.mono (l04Two_ok _ _ X Y _ ⟨_, _, rfl, (RdS.pres hdX (Ext.pres eB)), (RdS.pres hmX (Ext.pres eB))⟩ ⟨_, _, rfl, (RdS.pres hdY (Ext.pres eB)), (RdS.pres hmY (Ext.pres eB))⟩ ) ?_
  intro v_ h1_2
  rintro ⟨rfl, e1_2⟩
  replace hb0_0 := BoxAt.ext hb0_0 e1_2
  replace hb0_1 := BoxAt.ext hb0_1 e1_2
  replace hb0_2 := BoxAt.ext hb0_2 e1_2
  have := Ext.size e1_2
  replace eB := Ext.trans eB e1_2
  try simp (disch := decide) only [outv_some, outv_none, put_puts]
  refine plK_pres (Ext.pres e1_2) ?_
  try simp -implicitDefEqProofs (disch := first | decide | assumption | omega) only [go_sem, RdS.len hdX sl22, RdS.idx hdX sl22, R1.intB hdX (Ext.pres eB), RdS.cells hdX, RdS.len hmX sl23, RdS.idx hmX sl23, RdS.cellB hmX (Ext.pres eB), RdS.cells hmX, RdS.len hdY sl22, RdS.idx hdY sl22, R1.intB hdY (Ext.pres eB), RdS.cells hdY, RdS.len hmY sl23, RdS.idx hmY sl23, RdS.cellB hmY (Ext.pres eB), RdS.cells hmY, RdS.len hdZ sl22, RdS.idx hdZ sl22, R1.intB hdZ (Ext.pres eB), RdS.cells hdZ, RdS.len hmZ sl23, RdS.idx hmZ sl23, RdS.cellB hmZ (Ext.pres eB), RdS.cells hmZ, RdS.len rf sl23, RdS.idx rf sl23, RdS.cellB rf (Ext.pres eB), RdS.cells rf, RdS.len rg sl23, RdS.idx rg sl23, RdS.cellB rg (Ext.pres eB), RdS.cells rg, BoxAt.cell hb0_0, BoxAt.cell hb0_1, BoxAt.cell hb0_2, wrap_id]
  try simp -implicitDefEqProofs (disch := first | decide | assumption | omega) only [go_sem, RdS.len hdX sl22, RdS.idx hdX sl22, R1.intB hdX (Ext.pres eB), RdS.cells hdX, RdS.len hmX sl23, RdS.idx hmX sl23, RdS.cellB hmX (Ext.pres eB), RdS.cells hmX, RdS.len hdY sl22, RdS.idx hdY sl22, R1.intB hdY (Ext.pres eB), RdS.cells hdY, RdS.len hmY sl23, RdS.idx hmY sl23, RdS.cellB hmY (Ext.pres eB), RdS.cells hmY, RdS.len hdZ sl22, RdS.idx hdZ sl22, R1.intB hdZ (Ext.pres eB), RdS.cells hdZ, RdS.len hmZ sl23, RdS.idx hmZ sl23, RdS.cellB hmZ (Ext.pres eB), RdS.cells hmZ, RdS.len rf sl23, RdS.idx rf sl23, RdS.cellB rf (Ext.pres eB), RdS.cells rf, RdS.len rg sl23, RdS.idx rg sl23, RdS.cellB rg (Ext.pres eB), RdS.cells rg, BoxAt.cell hb0_0, BoxAt.cell hb0_1, BoxAt.cell hb0_2, wrap_id]
  refine CallA.mono (l04Two_ok _ _ Y Z _ ⟨_, _, rfl, (RdS.pres hdY (Ext.pres eB)), (RdS.pres hmY (Ext.pres eB))⟩ ⟨_, _, rfl, (RdS.pres hdZ (Ext.pres eB)), (RdS.pres hmZ (Ext.pres eB))⟩ ) ?_
  intro v_ h1_5
  rintro ⟨rfl, e1_5⟩
  replace hb0_0 := BoxAt.ext hb0_0 e1_5
  replace hb0_1 := BoxAt.ext hb0_1 e1_5
  replace hb0_2 := BoxAt.ext hb0_2 e1_5
  have := Ext.size e1_5
  replace eB := Ext.trans eB e1_5
  try simp (disch := decide) only [outv_some, outv_none, put_puts]
  refine plK_pres (Ext.pres e1_5) ?_
  try simp -implicitDefEqProofs (disch := first | decide | assumption | omega) only [go_sem, RdS.len hdX sl22, RdS.idx hdX sl22, R1.intB hdX (Ext.pres eB), RdS.cells hdX, RdS.len hmX sl23, RdS.idx hmX sl23, RdS.cellB hmX (Ext.pres eB), RdS.cells hmX, RdS.len hdY sl22, RdS.idx hdY sl22, R1.intB hdY (Ext.pres eB), RdS.cells hdY, RdS.len hmY sl23, RdS.idx hmY sl23, RdS.cellB hmY (Ext.pres eB), RdS.cells hmY, RdS.len hdZ sl22, RdS.idx hdZ sl22, R1.intB hdZ (Ext.pres eB), RdS.cells hdZ, RdS.len hmZ sl23, RdS.idx hmZ sl23, RdS.cellB hmZ (Ext.pres eB), RdS.cells hmZ, RdS.len rf sl23, RdS.idx rf sl23, RdS.cellB rf (Ext.pres eB), RdS.cells rf, RdS.len rg sl23, RdS.idx rg sl23, RdS.cellB rg (Ext.pres eB), RdS.cells rg, BoxAt.cell hb0_0, BoxAt.cell hb0_1, BoxAt.cell hb0_2, wrap_id]
  refine hK _ _ ?_
  clear hK K
  refine den_seq ?_
  refine den_block ?_
  refine den_seq ?_
  refine den_mergeH [(24, .bool ((((pairC X Y) == (1 : Int)) || ((pairC Y Z) == (1 : Int)))))] [3, 4, 5, 6, 7, 12, 13] ?_ ?_
    -- a way
  · refine den_region TTok ?_
    intro K hK
    simp -implicitDefEqProofs (disch := first | decide | assumption | (simp (disch := decide) only [slotOf_zero, slotOf_succ, Option.map_some, puts_same, puts_ne, gv_bool, gv_undef, tt, tf, ft, ff, eq_self, if_true, if_false, Bool.false_eq_true, Bool.not_true, Bool.not_false]; done) | omega) only [go_sem, RdS.len hdX sl22, RdS.idx hdX sl22, R1.intB hdX (Ext.pres eB), RdS.cells hdX, RdS.len hmX sl23, RdS.idx hmX sl23, RdS.cellB hmX (Ext.pres eB), RdS.cells hmX, RdS.len hdY sl22, RdS.idx hdY sl22, R1.intB hdY (Ext.pres eB), RdS.cells hdY, RdS.len hmY sl23, RdS.idx hmY sl23, RdS.cellB hmY (Ext.pres eB), RdS.cells hmY, RdS.len hdZ sl22, RdS.idx hdZ sl22, R1.intB hdZ (Ext.pres eB), RdS.cells hdZ, RdS.len hmZ sl23, RdS.idx hmZ sl23, RdS.cellB hmZ (Ext.pres eB), RdS.cells hmZ, RdS.len rf sl23, RdS.idx rf sl23, RdS.cellB rf (Ext.pres eB), RdS.cells rf, RdS.len rg sl23, RdS.idx rg sl23, RdS.cellB rg (Ext.pres eB), RdS.cells rg, BoxAt.cell hb0_0, BoxAt.cell hb0_1, BoxAt.cell hb0_2, wrap_id]
    refine opsP_F (by simp (disch := decide) only [slotOf_zero, slotOf_succ, Option.map_some, puts_same, puts_ne, gv_bool, gv_undef, tt, tf, ft, ff, eq_self, if_true, if_false, Bool.false_eq_true, Bool.not_true, Bool.not_false]; rfl) (fun g1 => ?_) (fun g1 => ?_)
    · try simp -implicitDefEqProofs (disch := first | decide | assumption | (simp (disch := decide) only [slotOf_zero, slotOf_succ, Option.map_some, puts_same, puts_ne, gv_bool, gv_undef, tt, tf, ft, ff, eq_self, if_true, if_false, Bool.false_eq_true, Bool.not_true, Bool.not_false, g1]; done) | omega) only [go_sem, RdS.len hdX sl22, RdS.idx hdX sl22, R1.intB hdX (Ext.pres eB), RdS.cells hdX, RdS.len hmX sl23, RdS.idx hmX sl23, RdS.cellB hmX (Ext.pres eB), RdS.cells hmX, RdS.len hdY sl22, RdS.idx hdY sl22, R1.intB hdY (Ext.pres eB), RdS.cells hdY, RdS.len hmY sl23, RdS.idx hmY sl23, RdS.cellB hmY (Ext.pres eB), RdS.cells hmY, RdS.len hdZ sl22, RdS.idx hdZ sl22, R1.intB hdZ (Ext.pres eB), RdS.cells hdZ, RdS.len hmZ sl23, RdS.idx hmZ sl23, RdS.cellB hmZ (Ext.pres eB), RdS.cells hmZ, RdS.len rf sl23, RdS.idx rf sl23, RdS.cellB rf (Ext.pres eB), RdS.cells rf, RdS.len rg sl23, RdS.idx rg sl23, RdS.cellB rg (Ext.pres eB), RdS.cells rg, BoxAt.cell hb0_0, BoxAt.cell hb0_1, BoxAt.cell hb0_2, wrap_id, g1, eq_self, if_true, if_false, Bool.false_eq_true]
      refine hK _ _ ?_
      clear hK K
      refine den_stop ?_
      refine ⟨?_, rfl⟩
      first | (simp (disch := decide) only [go_sem, g1, eq_self, Bool.true_and, Bool.and_true, Bool.false_and, Bool.and_false, Bool.true_or, Bool.or_true, Bool.false_or, Bool.or_false, if_true, if_false, Bool.false_eq_true]; done) | simp [HasL, sel, puts_at, g1]
    · try simp -implicitDefEqProofs (disch := first | decide | assumption | (simp (disch := decide) only [slotOf_zero, slotOf_succ, Option.map_some, puts_same, puts_ne, gv_bool, gv_undef, tt, tf, ft, ff, eq_self, if_true, if_false, Bool.false_eq_true, Bool.not_true, Bool.not_false, g1]; done) | omega) only [go_sem, RdS.len hdX sl22, RdS.idx hdX sl22, R1.intB hdX (Ext.pres eB), RdS.cells hdX, RdS.len hmX sl23, RdS.idx hmX sl23, RdS.cellB hmX (Ext.pres eB), RdS.cells hmX, RdS.len hdY sl22, RdS.idx hdY sl22, R1.intB hdY (Ext.pres eB), RdS.cells hdY, RdS.len hmY sl23, RdS.idx hmY sl23, RdS.cellB hmY (Ext.pres eB), RdS.cells hmY, RdS.len hdZ sl22, RdS.idx hdZ sl22, R1.intB hdZ (Ext.pres eB), RdS.cells hdZ, RdS.len hmZ sl23, RdS.idx hmZ sl23, RdS.cellB hmZ (Ext.pres eB), RdS.cells hmZ, RdS.len rf sl23, RdS.idx rf sl23, RdS.cellB rf (Ext.pres eB), RdS.cells rf, RdS.len rg sl23, RdS.idx rg sl23, RdS.cellB rg (Ext.pres eB), RdS.cells rg, BoxAt.cell hb0_0, BoxAt.cell hb0_1, BoxAt.cell hb0_2, wrap_id, g1, eq_self, if_true, if_false, Bool.false_eq_true]
      refine hK _ _ ?_
      clear hK K
      refine den_stop ?_
      refine ⟨?_, rfl⟩
      first | (simp (disch := decide) only [go_sem, g1, eq_self, Bool.true_and, Bool.and_true, Bool.false_and, Bool.and_false, Bool.true_or, Bool.or_true, Bool.false_or, Bool.or_false, if_true, if_false, Bool.false_eq_true]; done) | simp [HasL, sel, puts_at, g1]
  intro en2
  simp (disch := decide) only [go_sem]
  refine den_cond rfl (fun c0 => ?_) (fun c0 => ?_)
  · try simp only [decide_eq_true_eq, decide_eq_false_iff_not, beq_iff_eq, beq_eq_false_iff_ne, bne_iff_ne, ne_eq, Bool.not_eq_true', Bool.not_eq_false', Bool.and_eq_true, Bool.or_eq_true, bne_eq_false_iff_eq, Bool.or_eq_false_iff, Bool.and_eq_false_iff] at c0
    refine den_seq ?_
    refine den_region TTok ?_
    intro K hK
    simp -implicitDefEqProofs (disch := first | decide | assumption | omega) only [go_sem, RdS.len hdX sl22, RdS.idx hdX sl22, R1.intB hdX (Ext.pres eB), RdS.cells hdX, RdS.len hmX sl23, RdS.idx hmX sl23, RdS.cellB hmX (Ext.pres eB), RdS.cells hmX, RdS.len hdY sl22, RdS.idx hdY sl22, R1.intB hdY (Ext.pres eB), RdS.cells hdY, RdS.len hmY sl23, RdS.idx hmY sl23, RdS.cellB hmY (Ext.pres eB), RdS.cells hmY, RdS.len hdZ sl22, RdS.idx hdZ sl22, R1.intB hdZ (Ext.pres eB), RdS.cells hdZ, RdS.len hmZ sl23, RdS.idx hmZ sl23, RdS.cellB hmZ (Ext.pres eB), RdS.cells hmZ, RdS.len rf sl23, RdS.idx rf sl23, RdS.cellB rf (Ext.pres eB), RdS.cells rf, RdS.len rg sl23, RdS.idx rg sl23, RdS.cellB rg (Ext.pres eB), RdS.cells rg, wrap_id]
    refine hK _ _ ?_
    clear hK K
    refine den_ret ?_
    simp (disch := decide) only [resP_2, puts_same, puts_ne]
    have hz : cfP X Y Z f g = ([], 1) := by rw [cfP, if_neg (by rw [cf_1 c0]; decide), cf_1 c0]
    rw [hz]
    exact ⟨.slice none 0 0, [], rfl, OS.nil, Fresh.nil _, eB⟩
  · try simp only [decide_eq_true_eq, decide_eq_false_iff_not, beq_iff_eq, beq_eq_false_iff_ne, bne_iff_ne, ne_eq, Bool.not_eq_true', Bool.not_eq_false', Bool.and_eq_true, Bool.or_eq_true, bne_eq_false_iff_eq, Bool.or_eq_false_iff, Bool.and_eq_false_iff] at c0
    refine den_seq ?_
    refine den_merge [(31, .bool ((((((pairC X Y) != (0 : Int)) || ((pairC Y Z) != (0 : Int))) || (!((famP X Y f (0 : Int))))) || (!((famP Y Z g (0 : Int)))))))] [3, 4, 6, 7] (fun H => Ext h1_5 H) ?_ ?_
      -- a way
    · refine den_region TTok ?_
      intro K hK
      simp -implicitDefEqProofs (disch := first | decide | assumption | (simp (disch := decide) only [slotOf_zero, slotOf_succ, Option.map_some, puts_same, puts_ne, gv_bool, gv_undef, tt, tf, ft, ff, eq_self, if_true, if_false, Bool.false_eq_true, Bool.not_true, Bool.not_false]; done) | omega) only [go_sem, RdS.len hdX sl22, RdS.idx hdX sl22, R1.intB hdX (Ext.pres eB), RdS.cells hdX, RdS.len hmX sl23, RdS.idx hmX sl23, RdS.cellB hmX (Ext.pres eB), RdS.cells hmX, RdS.len hdY sl22, RdS.idx hdY sl22, R1.intB hdY (Ext.pres eB), RdS.cells hdY, RdS.len hmY sl23, RdS.idx hmY sl23, RdS.cellB hmY (Ext.pres eB), RdS.cells hmY, RdS.len hdZ sl22, RdS.idx hdZ sl22, R1.intB hdZ (Ext.pres eB), RdS.cells hdZ, RdS.len hmZ sl23, RdS.idx hmZ sl23, RdS.cellB hmZ (Ext.pres eB), RdS.cells hmZ, RdS.len rf sl23, RdS.idx rf sl23, RdS.cellB rf (Ext.pres eB), RdS.cells rf, RdS.len rg sl23, RdS.idx rg sl23, RdS.cellB rg (Ext.pres eB), RdS.cells rg, BoxAt.cell hb0_0, BoxAt.cell hb0_1, BoxAt.cell hb0_2, wrap_id]
      refine opsP_F (by simp (disch := decide) only [slotOf_zero, slotOf_succ, Option.map_some, puts_same, puts_ne, gv_bool, gv_undef, tt, tf, ft, ff, eq_self, if_true, if_false, Bool.false_eq_true, Bool.not_true, Bool.not_false]; rfl) (fun g5 => ?_) (fun g5 => ?_)
      · have hg1 : pairC X Y = 0 := by simpa using g5
        obtain ⟨hX, hY, _⟩ := pairC_0 hg1
        try simp -implicitDefEqProofs (disch := first | decide | assumption | (simp (disch := decide) only [slotOf_zero, slotOf_succ, Option.map_some, puts_same, puts_ne, gv_bool, gv_undef, tt, tf, ft, ff, eq_self, if_true, if_false, Bool.false_eq_true, Bool.not_true, Bool.not_false, g5]; done) | omega) only [go_sem, RdS.len hdX sl22, RdS.idx hdX sl22, R1.intB hdX (Ext.pres eB), RdS.cells hdX, RdS.len hmX sl23, RdS.idx hmX sl23, RdS.cellB hmX (Ext.pres eB), RdS.cells hmX, RdS.len hdY sl22, RdS.idx hdY sl22, R1.intB hdY (Ext.pres eB), RdS.cells hdY, RdS.len hmY sl23, RdS.idx hmY sl23, RdS.cellB hmY (Ext.pres eB), RdS.cells hmY, RdS.len hdZ sl22, RdS.idx hdZ sl22, R1.intB hdZ (Ext.pres eB), RdS.cells hdZ, RdS.len hmZ sl23, RdS.idx hmZ sl23, RdS.cellB hmZ (Ext.pres eB), RdS.cells hmZ, RdS.len rf sl23, RdS.idx rf sl23, RdS.cellB rf (Ext.pres eB), RdS.cells rf, RdS.len rg sl23, RdS.idx rg sl23, RdS.cellB rg (Ext.pres eB), RdS.cells rg, BoxAt.cell hb0_0, BoxAt.cell hb0_1, BoxAt.cell hb0_2, wrap_id, g5, eq_self, if_true, if_false, Bool.false_eq_true]
        refine opsP_F (by simp (disch := decide) only [slotOf_zero, slotOf_succ, Option.map_some, puts_same, puts_ne, gv_bool, gv_undef, tt, tf, ft, ff, eq_self, if_true, if_false, Bool.false_eq_true, Bool.not_true, Bool.not_false, g5]; rfl) (fun g6 => ?_) (fun g6 => ?_)
        · have hg2 : pairC Y Z = 0 := by simpa using g6
          obtain ⟨_, hZ, _⟩ := pairC_0 hg2
          try simp -implicitDefEqProofs (disch := first | decide | assumption | (simp (disch := decide) only [slotOf_zero, slotOf_succ, Option.map_some, puts_same, puts_ne, gv_bool, gv_undef, tt, tf, ft, ff, eq_self, if_true, if_false, Bool.false_eq_true, Bool.not_true, Bool.not_false, g5, g6]; done) | omega) only [go_sem, ld30, RdS.len hdX sl22, RdS.idx hdX sl22, R1.intB hdX (Ext.pres eB), RdS.cells hdX, RdS.len hmX sl23, RdS.idx hmX sl23, RdS.cellB hmX (Ext.pres eB), RdS.cells hmX, RdS.len hdY sl22, RdS.idx hdY sl22, R1.intB hdY (Ext.pres eB), RdS.cells hdY, RdS.len hmY sl23, RdS.idx hmY sl23, RdS.cellB hmY (Ext.pres eB), RdS.cells hmY, RdS.len hdZ sl22, RdS.idx hdZ sl22, R1.intB hdZ (Ext.pres eB), RdS.cells hdZ, RdS.len hmZ sl23, RdS.idx hmZ sl23, RdS.cellB hmZ (Ext.pres eB), RdS.cells hmZ, RdS.len rf sl23, RdS.idx rf sl23, RdS.cellB rf (Ext.pres eB), RdS.cells rf, RdS.len rg sl23, RdS.idx rg sl23, RdS.cellB rg (Ext.pres eB), RdS.cells rg, BoxAt.cell hb0_0, BoxAt.cell hb0_1, BoxAt.cell hb0_2, wrap_id, g5, g6, eq_self, if_true, if_false, Bool.false_eq_true]
          try simp -implicitDefEqProofs (disch := first | decide | assumption | omega) only [go_sem, RdS.len hdX sl22, RdS.idx hdX sl22, R1.intB hdX (Ext.pres eB), RdS.cells hdX, RdS.len hmX sl23, RdS.idx hmX sl23, RdS.cellB hmX (Ext.pres eB), RdS.cells hmX, RdS.len hdY sl22, RdS.idx hdY sl22, R1.intB hdY (Ext.pres eB), RdS.cells hdY, RdS.len hmY sl23, RdS.idx hmY sl23, RdS.cellB hmY (Ext.pres eB), RdS.cells hmY, RdS.len hdZ sl22, RdS.idx hdZ sl22, R1.intB hdZ (Ext.pres eB), RdS.cells hdZ, RdS.len hmZ sl23, RdS.idx hmZ sl23, RdS.cellB hmZ (Ext.pres eB), RdS.cells hmZ, RdS.len rf sl23, RdS.idx rf sl23, RdS.cellB rf (Ext.pres eB), RdS.cells rf, RdS.len rg sl23, RdS.idx rg sl23, RdS.cellB rg (Ext.pres eB), RdS.cells rg, BoxAt.cell hb0_0, BoxAt.cell hb0_1, BoxAt.cell hb0_2, wrap_id]
          refine CallA.mono (sFam_ok _ _ _ X Y f (0 : Int) _ ⟨_, _, rfl, (RdS.pres hdX (Ext.pres eB)), (RdS.pres hmX (Ext.pres eB))⟩ ⟨_, _, rfl, (RdS.pres hdY (Ext.pres eB)), (RdS.pres hmY (Ext.pres eB))⟩ (RdS.pres rf (Ext.pres eB)) hX (by omega)) ?_
          intro v_ h4_10
          rintro ⟨rfl, e4_10⟩
          replace hb0_0 := BoxAt.ext hb0_0 e4_10
          replace hb0_1 := BoxAt.ext hb0_1 e4_10
          replace hb0_2 := BoxAt.ext hb0_2 e4_10
          have := Ext.size e4_10
          replace eB := Ext.trans eB e4_10
          try simp -implicitDefEqProofs (disch := first | decide | assumption | (simp (disch := decide) only [slotOf_zero, slotOf_succ, Option.map_some, puts_same, puts_ne, gv_bool, gv_undef, tt, tf, ft, ff, eq_self, if_true, if_false, Bool.false_eq_true, Bool.not_true, Bool.not_false, g5, g6]; done) | omega) only [go_sem, RdS.len hdX sl22, RdS.idx hdX sl22, R1.intB hdX (Ext.pres eB), RdS.cells hdX, RdS.len hmX sl23, RdS.idx hmX sl23, RdS.cellB hmX (Ext.pres eB), RdS.cells hmX, RdS.len hdY sl22, RdS.idx hdY sl22, R1.intB hdY (Ext.pres eB), RdS.cells hdY, RdS.len hmY sl23, RdS.idx hmY sl23, RdS.cellB hmY (Ext.pres eB), RdS.cells hmY, RdS.len hdZ sl22, RdS.idx hdZ sl22, R1.intB hdZ (Ext.pres eB), RdS.cells hdZ, RdS.len hmZ sl23, RdS.idx hmZ sl23, RdS.cellB hmZ (Ext.pres eB), RdS.cells hmZ, RdS.len rf sl23, RdS.idx rf sl23, RdS.cellB rf (Ext.pres eB), RdS.cells rf, RdS.len rg sl23, RdS.idx rg sl23, RdS.cellB rg (Ext.pres eB), RdS.cells rg, BoxAt.cell hb0_0, BoxAt.cell hb0_1, BoxAt.cell hb0_2, wrap_id, g5, g6, eq_self, if_true, if_false, Bool.false_eq_true]
          refine opsP_F (by simp (disch := decide) only [slotOf_zero, slotOf_succ, Option.map_some, puts_same, puts_ne, gv_bool, gv_undef, tt, tf, ft, ff, eq_self, if_true, if_false, Bool.false_eq_true, Bool.not_true, Bool.not_false, g5, g6]; rfl) (fun g7 => ?_) (fun g7 => ?_)
          · try simp -implicitDefEqProofs (disch := first | decide | assumption | (simp (disch := decide) only [slotOf_zero, slotOf_succ, Option.map_some, puts_same, puts_ne, gv_bool, gv_undef, tt, tf, ft, ff, eq_self, if_true, if_false, Bool.false_eq_true, Bool.not_true, Bool.not_false, g5, g6, g7]; done) | omega) only [go_sem, ld30, RdS.len hdX sl22, RdS.idx hdX sl22, R1.intB hdX (Ext.pres eB), RdS.cells hdX, RdS.len hmX sl23, RdS.idx hmX sl23, RdS.cellB hmX (Ext.pres eB), RdS.cells hmX, RdS.len hdY sl22, RdS.idx hdY sl22, R1.intB hdY (Ext.pres eB), RdS.cells hdY, RdS.len hmY sl23, RdS.idx hmY sl23, RdS.cellB hmY (Ext.pres eB), RdS.cells hmY, RdS.len hdZ sl22, RdS.idx hdZ sl22, R1.intB hdZ (Ext.pres eB), RdS.cells hdZ, RdS.len hmZ sl23, RdS.idx hmZ sl23, RdS.cellB hmZ (Ext.pres eB), RdS.cells hmZ, RdS.len rf sl23, RdS.idx rf sl23, RdS.cellB rf (Ext.pres eB), RdS.cells rf, RdS.len rg sl23, RdS.idx rg sl23, RdS.cellB rg (Ext.pres eB), RdS.cells rg, BoxAt.cell hb0_0, BoxAt.cell hb0_1, BoxAt.cell hb0_2, wrap_id, g5, g6, g7, eq_self, if_true, if_false, Bool.false_eq_true]
            try simp -implicitDefEqProofs (disch := first | decide | assumption | omega) only [go_sem, RdS.len hdX sl22, RdS.idx hdX sl22, R1.intB hdX (Ext.pres eB), RdS.cells hdX, RdS.len hmX sl23, RdS.idx hmX sl23, RdS.cellB hmX (Ext.pres eB), RdS.cells hmX, RdS.len hdY sl22, RdS.idx hdY sl22, R1.intB hdY (Ext.pres eB), RdS.cells hdY, RdS.len hmY sl23, RdS.idx hmY sl23, RdS.cellB hmY (Ext.pres eB), RdS.cells hmY, RdS.len hdZ sl22, RdS.idx hdZ sl22, R1.intB hdZ (Ext.pres eB), RdS.cells hdZ, RdS.len hmZ sl23, RdS.idx hmZ sl23, RdS.cellB hmZ (Ext.pres eB), RdS.cells hmZ, RdS.len rf sl23, RdS.idx rf sl23, RdS.cellB rf (Ext.pres eB), RdS.cells rf, RdS.len rg sl23, RdS.idx rg sl23, RdS.cellB rg (Ext.pres eB), RdS.cells rg, BoxAt.cell hb0_0, BoxAt.cell hb0_1, BoxAt.cell hb0_2, wrap_id]
            refine CallA.mono (sFam_ok _ _ _ Y Z g (0 : Int) _ ⟨_, _, rfl, (RdS.pres hdY (Ext.pres eB)), (RdS.pres hmY (Ext.pres eB))⟩ ⟨_, _, rfl, (RdS.pres hdZ (Ext.pres eB)), (RdS.pres hmZ (Ext.pres eB))⟩ (RdS.pres rg (Ext.pres eB)) hY (by omega)) ?_
            intro v_ h4_17
            rintro ⟨rfl, e4_17⟩
            replace hb0_0 := BoxAt.ext hb0_0 e4_17
            replace hb0_1 := BoxAt.ext hb0_1 e4_17
            replace hb0_2 := BoxAt.ext hb0_2 e4_17
            have := Ext.size e4_17
            replace eB := Ext.trans eB e4_17
            try simp -implicitDefEqProofs (disch := first | decide | assumption | (simp (disch := decide) only [slotOf_zero, slotOf_succ, Option.map_some, puts_same, puts_ne, gv_bool, gv_undef, tt, tf, ft, ff, eq_self, if_true, if_false, Bool.false_eq_true, Bool.not_true, Bool.not_false, g5, g6, g7]; done) | omega) only [go_sem, RdS.len hdX sl22, RdS.idx hdX sl22, R1.intB hdX (Ext.pres eB), RdS.cells hdX, RdS.len hmX sl23, RdS.idx hmX sl23, RdS.cellB hmX (Ext.pres eB), RdS.cells hmX, RdS.len hdY sl22, RdS.idx hdY sl22, R1.intB hdY (Ext.pres eB), RdS.cells hdY, RdS.len hmY sl23, RdS.idx hmY sl23, RdS.cellB hmY (Ext.pres eB), RdS.cells hmY, RdS.len hdZ sl22, RdS.idx hdZ sl22, R1.intB hdZ (Ext.pres eB), RdS.cells hdZ, RdS.len hmZ sl23, RdS.idx hmZ sl23, RdS.cellB hmZ (Ext.pres eB), RdS.cells hmZ, RdS.len rf sl23, RdS.idx rf sl23, RdS.cellB rf (Ext.pres eB), RdS.cells rf, RdS.len rg sl23, RdS.idx rg sl23, RdS.cellB rg (Ext.pres eB), RdS.cells rg, BoxAt.cell hb0_0, BoxAt.cell hb0_1, BoxAt.cell hb0_2, wrap_id, g5, g6, g7, eq_self, if_true, if_false, Bool.false_eq_true]
            refine hK _ _ ?_
            clear hK K
            refine den_stop ?_
            refine ⟨?_, (Ext.trans e4_10 e4_17)⟩
            first | (simp (disch := decide) only [go_sem, g5, g6, g7, eq_self, Bool.true_and, Bool.and_true, Bool.false_and, Bool.and_false, Bool.true_or, Bool.or_true, Bool.false_or, Bool.or_false, if_true, if_false, Bool.false_eq_true]; done) | simp [HasL, sel, puts_at, g5, g6, g7]
          · try simp -implicitDefEqProofs (disch := first | decide | assumption | (simp (disch := decide) only [slotOf_zero, slotOf_succ, Option.map_some, puts_same, puts_ne, gv_bool, gv_undef, tt, tf, ft, ff, eq_self, if_true, if_false, Bool.false_eq_true, Bool.not_true, Bool.not_false, g5, g6, g7]; done) | omega) only [go_sem, RdS.len hdX sl22, RdS.idx hdX sl22, R1.intB hdX (Ext.pres eB), RdS.cells hdX, RdS.len hmX sl23, RdS.idx hmX sl23, RdS.cellB hmX (Ext.pres eB), RdS.cells hmX, RdS.len hdY sl22, RdS.idx hdY sl22, R1.intB hdY (Ext.pres eB), RdS.cells hdY, RdS.len hmY sl23, RdS.idx hmY sl23, RdS.cellB hmY (Ext.pres eB), RdS.cells hmY, RdS.len hdZ sl22, RdS.idx hdZ sl22, R1.intB hdZ (Ext.pres eB), RdS.cells hdZ, RdS.len hmZ sl23, RdS.idx hmZ sl23, RdS.cellB hmZ (Ext.pres eB), RdS.cells hmZ, RdS.len rf sl23, RdS.idx rf sl23, RdS.cellB rf (Ext.pres eB), RdS.cells rf, RdS.len rg sl23, RdS.idx rg sl23, RdS.cellB rg (Ext.pres eB), RdS.cells rg, BoxAt.cell hb0_0, BoxAt.cell hb0_1, BoxAt.cell hb0_2, wrap_id, g5, g6, g7, eq_self, if_true, if_false, Bool.false_eq_true]
            refine hK _ _ ?_
            clear hK K
            refine den_stop ?_
            refine ⟨?_, e4_10⟩
            first | (simp (disch := decide) only [go_sem, g5, g6, g7, eq_self, Bool.true_and, Bool.and_true, Bool.false_and, Bool.and_false, Bool.true_or, Bool.or_true, Bool.false_or, Bool.or_false, if_true, if_false, Bool.false_eq_true]; done) | simp [HasL, sel, puts_at, g5, g6, g7]
        · try simp -implicitDefEqProofs (disch := first | decide | assumption | (simp (disch := decide) only [slotOf_zero, slotOf_succ, Option.map_some, puts_same, puts_ne, gv_bool, gv_undef, tt, tf, ft, ff, eq_self, if_true, if_false, Bool.false_eq_true, Bool.not_true, Bool.not_false, g5, g6]; done) | omega) only [go_sem, RdS.len hdX sl22, RdS.idx hdX sl22, R1.intB hdX (Ext.pres eB), RdS.cells hdX, RdS.len hmX sl23, RdS.idx hmX sl23, RdS.cellB hmX (Ext.pres eB), RdS.cells hmX, RdS.len hdY sl22, RdS.idx hdY sl22, R1.intB hdY (Ext.pres eB), RdS.cells hdY, RdS.len hmY sl23, RdS.idx hmY sl23, RdS.cellB hmY (Ext.pres eB), RdS.cells hmY, RdS.len hdZ sl22, RdS.idx hdZ sl22, R1.intB hdZ (Ext.pres eB), RdS.cells hdZ, RdS.len hmZ sl23, RdS.idx hmZ sl23, RdS.cellB hmZ (Ext.pres eB), RdS.cells hmZ, RdS.len rf sl23, RdS.idx rf sl23, RdS.cellB rf (Ext.pres eB), RdS.cells rf, RdS.len rg sl23, RdS.idx rg sl23, RdS.cellB rg (Ext.pres eB), RdS.cells rg, BoxAt.cell hb0_0, BoxAt.cell hb0_1, BoxAt.cell hb0_2, wrap_id, g5, g6, eq_self, if_true, if_false, Bool.false_eq_true]
          try simp -implicitDefEqProofs (disch := first | decide | assumption | (simp (disch := decide) only [slotOf_zero, slotOf_succ, Option.map_some, puts_same, puts_ne, gv_bool, gv_undef, tt, tf, ft, ff, eq_self, if_true, if_false, Bool.false_eq_true, Bool.not_true, Bool.not_false, g5, g6]; done) | omega) only [go_sem, RdS.len hdX sl22, RdS.idx hdX sl22, R1.intB hdX (Ext.pres eB), RdS.cells hdX, RdS.len hmX sl23, RdS.idx hmX sl23, RdS.cellB hmX (Ext.pres eB), RdS.cells hmX, RdS.len hdY sl22, RdS.idx hdY sl22, R1.intB hdY (Ext.pres eB), RdS.cells hdY, RdS.len hmY sl23, RdS.idx hmY sl23, RdS.cellB hmY (Ext.pres eB), RdS.cells hmY, RdS.len hdZ sl22, RdS.idx hdZ sl22, R1.intB hdZ (Ext.pres eB), RdS.cells hdZ, RdS.len hmZ sl23, RdS.idx hmZ sl23, RdS.cellB hmZ (Ext.pres eB), RdS.cells hmZ, RdS.len rf sl23, RdS.idx rf sl23, RdS.cellB rf (Ext.pres eB), RdS.cells rf, RdS.len rg sl23, RdS.idx rg sl23, RdS.cellB rg (Ext.pres eB), RdS.cells rg, BoxAt.cell hb0_0, BoxAt.cell hb0_1, BoxAt.cell hb0_2, wrap_id, g5, g6, eq_self, if_true, if_false, Bool.false_eq_true]
          refine hK _ _ ?_
          clear hK K
          refine den_stop ?_
          refine ⟨?_, Ext.refl _⟩
          first | (simp (disch := decide) only [go_sem, g5, g6, eq_self, Bool.true_and, Bool.and_true, Bool.false_and, Bool.and_false, Bool.true_or, Bool.or_true, Bool.false_or, Bool.or_false, if_true, if_false, Bool.false_eq_true]; done) | simp [HasL, sel, puts_at, g5, g6]
      · try simp -implicitDefEqProofs (disch := first | decide | assumption | (simp (disch := decide) only [slotOf_zero, slotOf_succ, Option.map_some, puts_same, puts_ne, gv_bool, gv_undef, tt, tf, ft, ff, eq_self, if_true, if_false, Bool.false_eq_true, Bool.not_true, Bool.not_false, g5]; done) | omega) only [go_sem, RdS.len hdX sl22, RdS.idx hdX sl22, R1.intB hdX (Ext.pres eB), RdS.cells hdX, RdS.len hmX sl23, RdS.idx hmX sl23, RdS.cellB hmX (Ext.pres eB), RdS.cells hmX, RdS.len hdY sl22, RdS.idx hdY sl22, R1.intB hdY (Ext.pres eB), RdS.cells hdY, RdS.len hmY sl23, RdS.idx hmY sl23, RdS.cellB hmY (Ext.pres eB), RdS.cells hmY, RdS.len hdZ sl22, RdS.idx hdZ sl22, R1.intB hdZ (Ext.pres eB), RdS.cells hdZ, RdS.len hmZ sl23, RdS.idx hmZ sl23, RdS.cellB hmZ (Ext.pres eB), RdS.cells hmZ, RdS.len rf sl23, RdS.idx rf sl23, RdS.cellB rf (Ext.pres eB), RdS.cells rf, RdS.len rg sl23, RdS.idx rg sl23, RdS.cellB rg (Ext.pres eB), RdS.cells rg, BoxAt.cell hb0_0, BoxAt.cell hb0_1, BoxAt.cell hb0_2, wrap_id, g5, eq_self, if_true, if_false, Bool.false_eq_true]
        try simp -implicitDefEqProofs (disch := first | decide | assumption | (simp (disch := decide) only [slotOf_zero, slotOf_succ, Option.map_some, puts_same, puts_ne, gv_bool, gv_undef, tt, tf, ft, ff, eq_self, if_true, if_false, Bool.false_eq_true, Bool.not_true, Bool.not_false, g5]; done) | omega) only [go_sem, RdS.len hdX sl22, RdS.idx hdX sl22, R1.intB hdX (Ext.pres eB), RdS.cells hdX, RdS.len hmX sl23, RdS.idx hmX sl23, RdS.cellB hmX (Ext.pres eB), RdS.cells hmX, RdS.len hdY sl22, RdS.idx hdY sl22, R1.intB hdY (Ext.pres eB), RdS.cells hdY, RdS.len hmY sl23, RdS.idx hmY sl23, RdS.cellB hmY (Ext.pres eB), RdS.cells hmY, RdS.len hdZ sl22, RdS.idx hdZ sl22, R1.intB hdZ (Ext.pres eB), RdS.cells hdZ, RdS.len hmZ sl23, RdS.idx hmZ sl23, RdS.cellB hmZ (Ext.pres eB), RdS.cells hmZ, RdS.len rf sl23, RdS.idx rf sl23, RdS.cellB rf (Ext.pres eB), RdS.cells rf, RdS.len rg sl23, RdS.idx rg sl23, RdS.cellB rg (Ext.pres eB), RdS.cells rg, BoxAt.cell hb0_0, BoxAt.cell hb0_1, BoxAt.cell hb0_2, wrap_id, g5, eq_self, if_true, if_false, Bool.false_eq_true]
        try simp -implicitDefEqProofs (disch := first | decide | assumption | (simp (disch := decide) only [slotOf_zero, slotOf_succ, Option.map_some, puts_same, puts_ne, gv_bool, gv_undef, tt, tf, ft, ff, eq_self, if_true, if_false, Bool.false_eq_true, Bool.not_true, Bool.not_false, g5]; done) | omega) only [go_sem, RdS.len hdX sl22, RdS.idx hdX sl22, R1.intB hdX (Ext.pres eB), RdS.cells hdX, RdS.len hmX sl23, RdS.idx hmX sl23, RdS.cellB hmX (Ext.pres eB), RdS.cells hmX, RdS.len hdY sl22, RdS.idx hdY sl22, R1.intB hdY (Ext.pres eB), RdS.cells hdY, RdS.len hmY sl23, RdS.idx hmY sl23, RdS.cellB hmY (Ext.pres eB), RdS.cells hmY, RdS.len hdZ sl22, RdS.idx hdZ sl22, R1.intB hdZ (Ext.pres eB), RdS.cells hdZ, RdS.len hmZ sl23, RdS.idx hmZ sl23, RdS.cellB hmZ (Ext.pres eB), RdS.cells hmZ, RdS.len rf sl23, RdS.idx rf sl23, RdS.cellB rf (Ext.pres eB), RdS.cells rf, RdS.len rg sl23, RdS.idx rg sl23, RdS.cellB rg (Ext.pres eB), RdS.cells rg, BoxAt.cell hb0_0, BoxAt.cell hb0_1, BoxAt.cell hb0_2, wrap_id, g5, eq_self, if_true, if_false, Bool.false_eq_true]
        refine hK _ _ ?_
        clear hK K
        refine den_stop ?_
        refine ⟨?_, Ext.refl _⟩
        first | (simp (disch := decide) only [go_sem, g5, eq_self, Bool.true_and, Bool.and_true, Bool.false_and, Bool.and_false, Bool.true_or, Bool.or_true, Bool.false_or, Bool.or_false, if_true, if_false, Bool.false_eq_true]; done) | simp [HasL, sel, puts_at, g5]
    intro en8 h9 e10
    replace hb0_0 := BoxAt.ext hb0_0 e10
    replace hb0_1 := BoxAt.ext hb0_1 e10
    replace hb0_2 := BoxAt.ext hb0_2 e10
    have := Ext.size e10
    replace eB := Ext.trans eB e10
    simp (disch := decide) only [go_sem]
    refine den_cond rfl (fun c1 => ?_) (fun c1 => ?_)
    · try simp only [decide_eq_true_eq, decide_eq_false_iff_not, beq_iff_eq, beq_eq_false_iff_ne, bne_iff_ne, ne_eq, Bool.not_eq_true', Bool.not_eq_false', Bool.and_eq_true, Bool.or_eq_true, bne_eq_false_iff_eq, Bool.or_eq_false_iff, Bool.and_eq_false_iff] at c1
      refine den_seq ?_
      refine den_region TTok ?_
      intro K hK
      simp -implicitDefEqProofs (disch := first | decide | assumption | omega) only [go_sem, RdS.len hdX sl22, RdS.idx hdX sl22, R1.intB hdX (Ext.pres eB), RdS.cells hdX, RdS.len hmX sl23, RdS.idx hmX sl23, RdS.cellB hmX (Ext.pres eB), RdS.cells hmX, RdS.len hdY sl22, RdS.idx hdY sl22, R1.intB hdY (Ext.pres eB), RdS.cells hdY, RdS.len hmY sl23, RdS.idx hmY sl23, RdS.cellB hmY (Ext.pres eB), RdS.cells hmY, RdS.len hdZ sl22, RdS.idx hdZ sl22, R1.intB hdZ (Ext.pres eB), RdS.cells hdZ, RdS.len hmZ sl23, RdS.idx hmZ sl23, RdS.cellB hmZ (Ext.pres eB), RdS.cells hmZ, RdS.len rf sl23, RdS.idx rf sl23, RdS.cellB rf (Ext.pres eB), RdS.cells rf, RdS.len rg sl23, RdS.idx rg sl23, RdS.cellB rg (Ext.pres eB), RdS.cells rg, wrap_id]
      refine hK _ _ ?_
      clear hK K
      refine den_ret ?_
      simp (disch := decide) only [resP_2, puts_same, puts_ne]
      have hz : cfP X Y Z f g = ([], 2) := by rw [cfP, if_neg (by rw [cf_2 c0 c1]; decide), cf_2 c0 c1]
      rw [hz]
      exact ⟨.slice none 0 0, [], rfl, OS.nil, Fresh.nil _, eB⟩
    · try simp only [decide_eq_true_eq, decide_eq_false_iff_not, beq_iff_eq, beq_eq_false_iff_ne, bne_iff_ne, ne_eq, Bool.not_eq_true', Bool.not_eq_false', Bool.and_eq_true, Bool.or_eq_true, bne_eq_false_iff_eq, Bool.or_eq_false_iff, Bool.and_eq_false_iff] at c1
      have hz0 := cf_0 (f := f) (g := g) c1
      have hk := cfC_0 hz0
      have hln := hk.lens
      have hKY := hk.cY
      refine den_skip ?_
      refine den_blk ?_
      refine den_seq ?_
      refine den_region TTok ?_
      intro K hK
      simp -implicitDefEqProofs (disch := first | decide | assumption | omega) only [go_sem, RdS.len hdX sl22, RdS.idx hdX sl22, R1.intB hdX (Ext.pres eB), RdS.cells hdX, RdS.len hmX sl23, RdS.idx hmX sl23, RdS.cellB hmX (Ext.pres eB), RdS.cells hmX, RdS.len hdY sl22, RdS.idx hdY sl22, R1.intB hdY (Ext.pres eB), RdS.cells hdY, RdS.len hmY sl23, RdS.idx hmY sl23, RdS.cellB hmY (Ext.pres eB), RdS.cells hmY, RdS.len hdZ sl22, RdS.idx hdZ sl22, R1.intB hdZ (Ext.pres eB), RdS.cells hdZ, RdS.len hmZ sl23, RdS.idx hmZ sl23, RdS.cellB hmZ (Ext.pres eB), RdS.cells hmZ, RdS.len rf sl23, RdS.idx rf sl23, RdS.cellB rf (Ext.pres eB), RdS.cells rf, RdS.len rg sl23, RdS.idx rg sl23, RdS.cellB rg (Ext.pres eB), RdS.cells rg, BoxAt.cell hb0_1, BoxAt.cell hb0_2, wrap_id]
      refine op_bs0 sz23 O2 ?_
      intro v6_0 h6_0 ho6_0 e6_0
      replace hb0_1 := BoxAt.ext hb0_1 e6_0
      replace hb0_2 := BoxAt.ext hb0_2 e6_0
      have := Ext.size e6_0
      replace eB := Ext.trans eB e6_0
      have hfho6_0 : Fresh h9.size [h9.size] := Fresh.one _
      have hlho6_0 := OS.lt ho6_0
      try simp -implicitDefEqProofs (disch := first | decide | assumption | omega) only [go_sem, RdS.len hdX sl22, RdS.idx hdX sl22, R1.intB hdX (Ext.pres eB), RdS.cells hdX, RdS.len hmX sl23, RdS.idx hmX sl23, RdS.cellB hmX (Ext.pres eB), RdS.cells hmX, RdS.len hdY sl22, RdS.idx hdY sl22, R1.intB hdY (Ext.pres eB), RdS.cells hdY, RdS.len hmY sl23, RdS.idx hmY sl23, RdS.cellB hmY (Ext.pres eB), RdS.cells hmY, RdS.len hdZ sl22, RdS.idx hdZ sl22, R1.intB hdZ (Ext.pres eB), RdS.cells hdZ, RdS.len hmZ sl23, RdS.idx hmZ sl23, RdS.cellB hmZ (Ext.pres eB), RdS.cells hmZ, RdS.len rf sl23, RdS.idx rf sl23, RdS.cellB rf (Ext.pres eB), RdS.cells rf, RdS.len rg sl23, RdS.idx rg sl23, RdS.cellB rg (Ext.pres eB), RdS.cells rg, RdS.len (OS.rd ho6_0) sl23, RdS.idx (OS.rd ho6_0) sl23, RdS.cellN (OS.rd ho6_0), RdS.cells (OS.rd ho6_0), BoxAt.cell hb0_1, BoxAt.cell hb0_2, wrap_id]
      refine hK _ _ ?_
      clear hK K
      refine den_seq ?_
      refine den_seq ?_
      refine den_region TTok ?_
      intro K hK
      simp -implicitDefEqProofs (disch := first | decide | assumption | omega) only [go_sem, RdS.len hdX sl22, RdS.idx hdX sl22, R1.intB hdX (Ext.pres eB), RdS.cells hdX, RdS.len hmX sl23, RdS.idx hmX sl23, RdS.cellB hmX (Ext.pres eB), RdS.cells hmX, RdS.len hdY sl22, RdS.idx hdY sl22, R1.intB hdY (Ext.pres eB), RdS.cells hdY, RdS.len hmY sl23, RdS.idx hmY sl23, RdS.cellB hmY (Ext.pres eB), RdS.cells hmY, RdS.len hdZ sl22, RdS.idx hdZ sl22, R1.intB hdZ (Ext.pres eB), RdS.cells hdZ, RdS.len hmZ sl23, RdS.idx hmZ sl23, RdS.cellB hmZ (Ext.pres eB), RdS.cells hmZ, RdS.len rf sl23, RdS.idx rf sl23, RdS.cellB rf (Ext.pres eB), RdS.cells rf, RdS.len rg sl23, RdS.idx rg sl23, RdS.cellB rg (Ext.pres eB), RdS.cells rg, RdS.len (OS.rd ho6_0) sl23, RdS.idx (OS.rd ho6_0) sl23, RdS.cellN (OS.rd ho6_0), RdS.cells (OS.rd ho6_0), BoxAt.cell hb0_1, BoxAt.cell hb0_2, wrap_id]
      refine hK _ _ ?_
      clear hK K
      refine den_block ?_
      refine den_sel [14, 15, 3, 4, 6, 7] ?_
      intro env_11
      simp only [go_sem]
      refine den_loopS (σ := Nat × Value × List Nat) (fun st_ => [(14, st_.2.1), (15, .int .i64 (st_.1 : Int))]) (fun st_ H => (st_.1 ≤ f.length) ∧ (O3 H st_.2.1 ((List.range st_.1).map fun q : Nat => mapRows (fun (w : Nat) r => imgP Y Z g 0 (w : Int) r) f q) st_.2.2) ∧ (Fresh (h9.size) st_.2.2) ∧ (Sub [h9.size] h6_0.size st_.2.2) ∧ (Chg [h9.size] h6_0 H)) (fun st_ => f.length - st_.1) (0, v6_0, [h9.size]) ?_ ?_
      · exact ⟨by first | (simp; done) | (dsimp only; omega) | (simp; omega), by simpa using ho6_0, hfho6_0, Sub.refl, Chg.refl _ _⟩
      · rintro ⟨n, vhO, fphO⟩ h14 ee13 ⟨hi0, hO, hfhO, sbhO, cL12⟩
        dsimp only at hi0 hO hfhO sbhO cL12
        replace hb0_1 := BoxAt.chgA hb0_1 cL12 (apart_lt hlhb0_1 hfho6_0 (by omega))
        replace hb0_2 := BoxAt.chgA hb0_2 cL12 (apart_lt hlhb0_2 hfho6_0 (by omega))
        have := cL12.size
        replace eB := Ext.then eB cL12 (ge_of hfho6_0 (by omega))
        have hlhO := OS.lt hO
        simp only [List.cons_append, List.nil_append]
        have hlo : ((List.range n).map fun q : Nat => mapRows (fun (w : Nat) r => imgP Y Z g 0 (w : Int) r) f q).length = n := by simp
        refine den_seq ?_
        refine den_seq ?_
        refine den_region TTok ?_
        intro K hK
        simp -implicitDefEqProofs (disch := first | decide | assumption | omega) only [go_sem, RdS.len hdX sl22, RdS.idx hdX sl22, R1.intB hdX (Ext.pres eB), RdS.cells hdX, RdS.len hmX sl23, RdS.idx hmX sl23, RdS.cellB hmX (Ext.pres eB), RdS.cells hmX, RdS.len hdY sl22, RdS.idx hdY sl22, R1.intB hdY (Ext.pres eB), RdS.cells hdY, RdS.len hmY sl23, RdS.idx hmY sl23, RdS.cellB hmY (Ext.pres eB), RdS.cells hmY, RdS.len hdZ sl22, RdS.idx hdZ sl22, R1.intB hdZ (Ext.pres eB), RdS.cells hdZ, RdS.len hmZ sl23, RdS.idx hmZ sl23, RdS.cellB hmZ (Ext.pres eB), RdS.cells hmZ, RdS.len rf sl23, RdS.idx rf sl23, RdS.cellB rf (Ext.pres eB), RdS.cells rf, RdS.len rg sl23, RdS.idx rg sl23, RdS.cellB rg (Ext.pres eB), RdS.cells rg, RdS.len (OS.rd hO) sl23, RdS.idx (OS.rd hO) sl23, RdS.cellN (OS.rd hO), RdS.cells (OS.rd hO), BoxAt.cell hb0_1, BoxAt.cell hb0_2, wrap_id]
        refine hK _ _ ?_
        clear hK K
        refine den_cond rfl (fun c2 => ?_) (fun c2 => ?_)
        · try simp only [decide_eq_true_eq, decide_eq_false_iff_not, beq_iff_eq, beq_eq_false_iff_ne, bne_iff_ne, ne_eq, Bool.not_eq_true', Bool.not_eq_false', Bool.and_eq_true, Bool.or_eq_true, bne_eq_false_iff_eq, Bool.or_eq_false_iff, Bool.and_eq_false_iff] at c2
          refine den_skip ?_
          refine den_seq ?_
          refine den_block ?_
          refine den_seq ?_
          have hl2n := hln.2.2.2 n (by omega)
          refine den_region TTok ?_
          intro K hK
          simp -implicitDefEqProofs (disch := first | decide | assumption | omega) only [go_sem, RdS.len hdX sl22, RdS.idx hdX sl22, R1.intB hdX (Ext.pres eB), RdS.cells hdX, RdS.len hmX sl23, RdS.idx hmX sl23, RdS.cellB hmX (Ext.pres eB), RdS.cells hmX, RdS.len hdY sl22, RdS.idx hdY sl22, R1.intB hdY (Ext.pres eB), RdS.cells hdY, RdS.len hmY sl23, RdS.idx hmY sl23, RdS.cellB hmY (Ext.pres eB), RdS.cells hmY, RdS.len hdZ sl22, RdS.idx hdZ sl22, R1.intB hdZ (Ext.pres eB), RdS.cells hdZ, RdS.len hmZ sl23, RdS.idx hmZ sl23, RdS.cellB hmZ (Ext.pres eB), RdS.cells hmZ, RdS.len rf sl23, RdS.idx rf sl23, RdS.cellB rf (Ext.pres eB), RdS.cells rf, RdS.len rg sl23, RdS.idx rg sl23, RdS.cellB rg (Ext.pres eB), RdS.cells rg, RdS.len (OS.rd hO) sl23, RdS.idx (OS.rd hO) sl23, RdS.cellN (OS.rd hO), RdS.cells (OS.rd hO), BoxAt.cell hb0_1, BoxAt.cell hb0_2, wrap_id]
          refine op_bs0 sz56 O1 ?_
          intro v10_0 h10_0 ho10_0 e10_0
          replace hO := OS.ext hO e10_0
          replace hb0_1 := BoxAt.ext hb0_1 e10_0
          replace hb0_2 := BoxAt.ext hb0_2 e10_0
          have := Ext.size e10_0
          replace eB := Ext.trans eB e10_0
          replace cL12 := Chg.stepE cL12 e10_0
          have hfho10_0 : Fresh h14.size [h14.size] := Fresh.one _
          have hlho10_0 := OS.lt ho10_0
          try simp -implicitDefEqProofs (disch := first | decide | assumption | omega) only [go_sem, RdS.len hdX sl22, RdS.idx hdX sl22, R1.intB hdX (Ext.pres eB), RdS.cells hdX, RdS.len hmX sl23, RdS.idx hmX sl23, RdS.cellB hmX (Ext.pres eB), RdS.cells hmX, RdS.len hdY sl22, RdS.idx hdY sl22, R1.intB hdY (Ext.pres eB), RdS.cells hdY, RdS.len hmY sl23, RdS.idx hmY sl23, RdS.cellB hmY (Ext.pres eB), RdS.cells hmY, RdS.len hdZ sl22, RdS.idx hdZ sl22, R1.intB hdZ (Ext.pres eB), RdS.cells hdZ, RdS.len hmZ sl23, RdS.idx hmZ sl23, RdS.cellB hmZ (Ext.pres eB), RdS.cells hmZ, RdS.len rf sl23, RdS.idx rf sl23, RdS.cellB rf (Ext.pres eB), RdS.cells rf, RdS.len rg sl23, RdS.idx rg sl23, RdS.cellB rg (Ext.pres eB), RdS.cells rg, RdS.len (OS.rd hO) sl23, RdS.idx (OS.rd hO) sl23, RdS.cellN (OS.rd hO), RdS.cells (OS.rd hO), RdS.len (OS.rd ho10_0) sl56, RdS.idx (OS.rd ho10_0) sl56, RdS.cellN (OS.rd ho10_0), RdS.cells (OS.rd ho10_0), BoxAt.cell hb0_1, BoxAt.cell hb0_2, wrap_id]
          refine hK _ _ ?_
          clear hK K
          refine den_seq ?_
          refine den_seq ?_
          refine den_region TTok ?_
          intro K hK
          simp -implicitDefEqProofs (disch := first | decide | assumption | omega) only [go_sem, RdS.len hdX sl22, RdS.idx hdX sl22, R1.intB hdX (Ext.pres eB), RdS.cells hdX, RdS.len hmX sl23, RdS.idx hmX sl23, RdS.cellB hmX (Ext.pres eB), RdS.cells hmX, RdS.len hdY sl22, RdS.idx hdY sl22, R1.intB hdY (Ext.pres eB), RdS.cells hdY, RdS.len hmY sl23, RdS.idx hmY sl23, RdS.cellB hmY (Ext.pres eB), RdS.cells hmY, RdS.len hdZ sl22, RdS.idx hdZ sl22, R1.intB hdZ (Ext.pres eB), RdS.cells hdZ, RdS.len hmZ sl23, RdS.idx hmZ sl23, RdS.cellB hmZ (Ext.pres eB), RdS.cells hmZ, RdS.len rf sl23, RdS.idx rf sl23, RdS.cellB rf (Ext.pres eB), RdS.cells rf, RdS.len rg sl23, RdS.idx rg sl23, RdS.cellB rg (Ext.pres eB), RdS.cells rg, RdS.len (OS.rd hO) sl23, RdS.idx (OS.rd hO) sl23, RdS.cellN (OS.rd hO), RdS.cells (OS.rd hO), RdS.len (OS.rd ho10_0) sl56, RdS.idx (OS.rd ho10_0) sl56, RdS.cellN (OS.rd ho10_0), RdS.cells (OS.rd ho10_0), BoxAt.cell hb0_1, BoxAt.cell hb0_2, wrap_id]
          refine hK _ _ ?_
          clear hK K
          refine den_block ?_
          refine den_sel [16, 17, 3, 4, 6, 7, 14, 15] ?_
          intro env_15
          simp only [go_sem]
          refine den_loopS (σ := Nat × Value × List Nat) (fun st_ => [(16, st_.2.1), (17, .int .i64 (st_.1 : Int))]) (fun st_ H => (st_.1 ≤ (f.getD n default).length) ∧ (O2 H st_.2.1 ((List.range st_.1).map fun q : Nat => imgP Y Z g 0 (n : Int) ((f.getD n default).getD q default)) st_.2.2) ∧ (Fresh (h14.size) st_.2.2) ∧ (Sub [h14.size] h10_0.size st_.2.2) ∧ (Chg [h14.size] h10_0 H)) (fun st_ => (f.getD n default).length - st_.1) (0, v10_0, [h14.size]) ?_ ?_
          · exact ⟨by first | (simp; done) | (dsimp only; omega) | (simp; omega), by simpa using ho10_0, hfho10_0, Sub.refl, Chg.refl _ _⟩
          · rintro ⟨i, vhR, fphR⟩ h18 ee17 ⟨hi0, hR, hfhR, sbhR, cL16⟩
            dsimp only at hi0 hR hfhR sbhR cL16
            replace hO := OS.chg hO cL16 (apart_lt hlhO hfho10_0 (by omega))
            replace hb0_1 := BoxAt.chgA hb0_1 cL16 (apart_lt hlhb0_1 hfho10_0 (by omega))
            replace hb0_2 := BoxAt.chgA hb0_2 cL16 (apart_lt hlhb0_2 hfho10_0 (by omega))
            have := cL16.size
            replace eB := Ext.then eB cL16 (ge_of hfho10_0 (by omega))
            replace cL12 := Chg.step cL12 cL16 (Sub.fresh hfho10_0 (by omega))
            have hlhR := OS.lt hR
            simp only [List.cons_append, List.nil_append]
            have hlr : ((List.range i).map fun q : Nat => imgP Y Z g 0 (n : Int) ((f.getD n default).getD q default)).length = i := by simp
            refine den_seq ?_
            refine den_seq ?_
            refine den_region TTok ?_
            intro K hK
            have hr19 := RdS.rowN rf n (by omega)
            have hlhr19 := RdS.le hr19
            simp -implicitDefEqProofs (disch := first | decide | assumption | omega) only [go_sem, ld56, RdS.len hdX sl22, RdS.idx hdX sl22, R1.intB hdX (Ext.pres eB), RdS.cells hdX, RdS.len hmX sl23, RdS.idx hmX sl23, RdS.cellB hmX (Ext.pres eB), RdS.cells hmX, RdS.len hdY sl22, RdS.idx hdY sl22, R1.intB hdY (Ext.pres eB), RdS.cells hdY, RdS.len hmY sl23, RdS.idx hmY sl23, RdS.cellB hmY (Ext.pres eB), RdS.cells hmY, RdS.len hdZ sl22, RdS.idx hdZ sl22, R1.intB hdZ (Ext.pres eB), RdS.cells hdZ, RdS.len hmZ sl23, RdS.idx hmZ sl23, RdS.cellB hmZ (Ext.pres eB), RdS.cells hmZ, RdS.len rf sl23, RdS.idx rf sl23, RdS.cellB rf (Ext.pres eB), RdS.cells rf, RdS.len rg sl23, RdS.idx rg sl23, RdS.cellB rg (Ext.pres eB), RdS.cells rg, RdS.len hr19 sl56, RdS.idx hr19 sl56, RdS.cellB hr19 (Ext.pres eB), RdS.cells hr19, RdS.len (OS.rd hO) sl23, RdS.idx (OS.rd hO) sl23, RdS.cellN (OS.rd hO), RdS.cells (OS.rd hO), RdS.len (OS.rd hR) sl56, RdS.idx (OS.rd hR) sl56, RdS.cellN (OS.rd hR), RdS.cells (OS.rd hR), BoxAt.cell hb0_1, BoxAt.cell hb0_2, wrap_id]
            refine hK _ _ ?_
            clear hK K
            refine den_cond rfl (fun c3 => ?_) (fun c3 => ?_)
            · try simp only [decide_eq_true_eq, decide_eq_false_iff_not, beq_iff_eq, beq_eq_false_iff_ne, bne_iff_ne, ne_eq, Bool.not_eq_true', Bool.not_eq_false', Bool.and_eq_true, Bool.or_eq_true, bne_eq_false_iff_eq, Bool.or_eq_false_iff, Bool.and_eq_false_iff] at c3
              refine den_skip ?_
              refine den_seq ?_
              refine den_block ?_
              have hY := hk.cY
              have hZ := hk.cZ
              have hF := hk.cg
              have hvv : 0 ≤ (n : Int) ∧ (n : Int) ≤ (Y.dims.length : Int) - 1 → (((f.getD n default).getD i default).length : Int) = Y.dims.getD (n : Int).toNat 0 ∧ Bnd Y.p ((f.getD n default).getD i default) := fun _ => hk.hv (by omega) (by omega)
              refine den_draw TTok mixed [14] [(0, true), (1, true), (2, true), (3, true), (4, true), (5, true), (6, true), (7, true), (8, true), (9, true), (10, true), (11, true), (12, false), (13, false), (14, false), (15, true)] (by kernel_rfl) ?_
              intro K hK
              have hr20 := RdS.rowN rf n (by omega)
              have hlhr20 := RdS.le hr20
              have hr21 := RdS.rowN hr20 i (by omega)
              have hlhr21 := RdS.le hr21
              simp -implicitDefEqProofs (disch := first | decide | assumption | omega) only [go_sem, ld56, ld22, ld30, RdS.len hdX sl22, RdS.idx hdX sl22, R1.intB hdX (Ext.pres eB), RdS.cells hdX, RdS.len hmX sl23, RdS.idx hmX sl23, RdS.cellB hmX (Ext.pres eB), RdS.cells hmX, RdS.len hdY sl22, RdS.idx hdY sl22, R1.intB hdY (Ext.pres eB), RdS.cells hdY, RdS.len hmY sl23, RdS.idx hmY sl23, RdS.cellB hmY (Ext.pres eB), RdS.cells hmY, RdS.len hdZ sl22, RdS.idx hdZ sl22, R1.intB hdZ (Ext.pres eB), RdS.cells hdZ, RdS.len hmZ sl23, RdS.idx hmZ sl23, RdS.cellB hmZ (Ext.pres eB), RdS.cells hmZ, RdS.len rf sl23, RdS.idx rf sl23, RdS.cellB rf (Ext.pres eB), RdS.cells rf, RdS.len rg sl23, RdS.idx rg sl23, RdS.cellB rg (Ext.pres eB), RdS.cells rg, RdS.len hr19 sl56, RdS.idx hr19 sl56, RdS.cellB hr19 (Ext.pres eB), RdS.cells hr19, RdS.len hr20 sl56, RdS.idx hr20 sl56, RdS.cellB hr20 (Ext.pres eB), RdS.cells hr20, RdS.len hr21 sl22, RdS.idx hr21 sl22, R1.intB hr21 (Ext.pres eB), RdS.cells hr21, RdS.len (OS.rd hO) sl23, RdS.idx (OS.rd hO) sl23, RdS.cellN (OS.rd hO), RdS.cells (OS.rd hO), RdS.len (OS.rd hR) sl56, RdS.idx (OS.rd hR) sl56, RdS.cellN (OS.rd hR), RdS.cells (OS.rd hR), BoxAt.cell hb0_1, BoxAt.cell hb0_2, wrap_id]
              try simp -implicitDefEqProofs (disch := first | decide | assumption | omega) only [go_sem, RdS.len hdX sl22, RdS.idx hdX sl22, R1.intB hdX (Ext.pres eB), RdS.cells hdX, RdS.len hmX sl23, RdS.idx hmX sl23, RdS.cellB hmX (Ext.pres eB), RdS.cells hmX, RdS.len hdY sl22, RdS.idx hdY sl22, R1.intB hdY (Ext.pres eB), RdS.cells hdY, RdS.len hmY sl23, RdS.idx hmY sl23, RdS.cellB hmY (Ext.pres eB), RdS.cells hmY, RdS.len hdZ sl22, RdS.idx hdZ sl22, R1.intB hdZ (Ext.pres eB), RdS.cells hdZ, RdS.len hmZ sl23, RdS.idx hmZ sl23, RdS.cellB hmZ (Ext.pres eB), RdS.cells hmZ, RdS.len rf sl23, RdS.idx rf sl23, RdS.cellB rf (Ext.pres eB), RdS.cells rf, RdS.len rg sl23, RdS.idx rg sl23, RdS.cellB rg (Ext.pres eB), RdS.cells rg, RdS.len hr19 sl56, RdS.idx hr19 sl56, RdS.cellB hr19 (Ext.pres eB), RdS.cells hr19, RdS.len hr20 sl56, RdS.idx hr20 sl56, RdS.cellB hr20 (Ext.pres eB), RdS.cells hr20, RdS.len hr21 sl22, RdS.idx hr21 sl22, R1.intB hr21 (Ext.pres eB), RdS.cells hr21, RdS.len (OS.rd hO) sl23, RdS.idx (OS.rd hO) sl23, RdS.cellN (OS.rd hO), RdS.cells (OS.rd hO), RdS.len (OS.rd hR) sl56, RdS.idx (OS.rd hR) sl56, RdS.cellN (OS.rd hR), RdS.cells (OS.rd hR), BoxAt.cell hb0_1, BoxAt.cell hb0_2, wrap_id]
              refine CallA.mono (sImg_ok _ _ _ _ Y Z g (n : Int) (0 : Int) (((f).getD n default).getD i default) _ ⟨_, _, rfl, (RdS.pres hdY (Ext.pres eB)), (RdS.pres hmY (Ext.pres eB))⟩ ⟨_, _, rfl, (RdS.pres hdZ (Ext.pres eB)), (RdS.pres hmZ (Ext.pres eB))⟩ (RdS.pres rg (Ext.pres eB)) (RdS.pres hr21 (Ext.pres eB)) hY hZ hF (by omega) (by omega) hvv) ?_
              intro vw14_12_0 h14_12
              rintro ⟨zvw14_12_0, fw14_12_0, rfl, how14_12_0, hfw14_12_0, e14_12⟩
              replace hO := OS.ext hO e14_12
              replace hR := OS.ext hR e14_12
              replace hb0_1 := BoxAt.ext hb0_1 e14_12
              replace hb0_2 := BoxAt.ext hb0_2 e14_12
              have := Ext.size e14_12
              replace eB := Ext.trans eB e14_12
              replace cL12 := Chg.stepE cL12 e14_12
              replace cL16 := Chg.stepE cL16 e14_12
              have hlhow14_12_0 := OS.lt how14_12_0
              try simp (disch := decide) only [outv_some, outv_none, put_puts]
              refine plK_pres (Ext.pres e14_12) ?_
              try simp -implicitDefEqProofs (disch := first | decide | assumption | omega) only [go_sem, RdS.len hdX sl22, RdS.idx hdX sl22, R1.intB hdX (Ext.pres eB), RdS.cells hdX, RdS.len hmX sl23, RdS.idx hmX sl23, RdS.cellB hmX (Ext.pres eB), RdS.cells hmX, RdS.len hdY sl22, RdS.idx hdY sl22, R1.intB hdY (Ext.pres eB), RdS.cells hdY, RdS.len hmY sl23, RdS.idx hmY sl23, RdS.cellB hmY (Ext.pres eB), RdS.cells hmY, RdS.len hdZ sl22, RdS.idx hdZ sl22, R1.intB hdZ (Ext.pres eB), RdS.cells hdZ, RdS.len hmZ sl23, RdS.idx hmZ sl23, RdS.cellB hmZ (Ext.pres eB), RdS.cells hmZ, RdS.len rf sl23, RdS.idx rf sl23, RdS.cellB rf (Ext.pres eB), RdS.cells rf, RdS.len rg sl23, RdS.idx rg sl23, RdS.cellB rg (Ext.pres eB), RdS.cells rg, RdS.len hr19 sl56, RdS.idx hr19 sl56, RdS.cellB hr19 (Ext.pres eB), RdS.cells hr19, RdS.len hr20 sl56, RdS.idx hr20 sl56, RdS.cellB hr20 (Ext.pres eB), RdS.cells hr20, RdS.len hr21 sl22, RdS.idx hr21 sl22, R1.intB hr21 (Ext.pres eB), RdS.cells hr21, RdS.len (OS.rd hO) sl23, RdS.idx (OS.rd hO) sl23, RdS.cellN (OS.rd hO), RdS.cells (OS.rd hO), RdS.len (OS.rd hR) sl56, RdS.idx (OS.rd hR) sl56, RdS.cellN (OS.rd hR), RdS.cells (OS.rd hR), RdS.len (OS.rd how14_12_0) sl22, RdS.idx (OS.rd how14_12_0) sl22, R1.intN (OS.rd how14_12_0), RdS.cells (OS.rd how14_12_0), BoxAt.cell hb0_1, BoxAt.cell hb0_2, wrap_id]
              refine op_bs1 sz56 rfl (OS.one how14_12_0).2 ?_
              try simp (disch := decide) only [outv_some, outv_none, put_puts]
              refine plK_pres (Ext.pres (Ext.push _ _)) ?_
              try simp -implicitDefEqProofs (disch := first | decide | assumption | omega) only [go_sem, RdS.len hdX sl22, RdS.idx hdX sl22, R1.intB hdX (Ext.pres eB), RdS.cells hdX, RdS.len hmX sl23, RdS.idx hmX sl23, RdS.cellB hmX (Ext.pres eB), RdS.cells hmX, RdS.len hdY sl22, RdS.idx hdY sl22, R1.intB hdY (Ext.pres eB), RdS.cells hdY, RdS.len hmY sl23, RdS.idx hmY sl23, RdS.cellB hmY (Ext.pres eB), RdS.cells hmY, RdS.len hdZ sl22, RdS.idx hdZ sl22, R1.intB hdZ (Ext.pres eB), RdS.cells hdZ, RdS.len hmZ sl23, RdS.idx hmZ sl23, RdS.cellB hmZ (Ext.pres eB), RdS.cells hmZ, RdS.len rf sl23, RdS.idx rf sl23, RdS.cellB rf (Ext.pres eB), RdS.cells rf, RdS.len rg sl23, RdS.idx rg sl23, RdS.cellB rg (Ext.pres eB), RdS.cells rg, RdS.len hr19 sl56, RdS.idx hr19 sl56, RdS.cellB hr19 (Ext.pres eB), RdS.cells hr19, RdS.len hr20 sl56, RdS.idx hr20 sl56, RdS.cellB hr20 (Ext.pres eB), RdS.cells hr20, RdS.len hr21 sl22, RdS.idx hr21 sl22, R1.intB hr21 (Ext.pres eB), RdS.cells hr21, RdS.len (OS.rd hO) sl23, RdS.idx (OS.rd hO) sl23, RdS.cellN (OS.rd hO), RdS.cells (OS.rd hO), RdS.len (OS.rd hR) sl56, RdS.idx (OS.rd hR) sl56, RdS.cellN (OS.rd hR), RdS.cells (OS.rd hR), RdS.len (OS.rd how14_12_0) sl22, RdS.idx (OS.rd how14_12_0) sl22, R1.intN (OS.rd how14_12_0), RdS.cells (OS.rd how14_12_0), BoxAt.cell hb0_1, BoxAt.cell hb0_2, wrap_id]
              refine op_append1 sz56 hR hfhR.nodup how14_12_0 hfw14_12_0.nodup (apart_lt hlhR hfw14_12_0 (by omega)) (by first | omega | (simp; omega)) rfl rfl ?_
              intro v14_14 h14_14 fp14_14 ho14_14 hn14_14 hs14_14 c14_14
              have hsz14_14 := c14_14.size
              have hfho14_14 : Fresh h14.size fp14_14 := Fresh.appd hfhR hfw14_12_0 (by omega) (by omega) hn14_14 hs14_14
              have sb22 : Sub [h14.size] h10_0.size fp14_14 := Sub.grow sbhR (Sub.fresh hfw14_12_0 (by omega)) (by omega) hs14_14
              replace hO := OS.chg hO c14_14 (apart_lt hlhO hfhR (by omega))
              replace hb0_1 := BoxAt.chgA hb0_1 c14_14 (apart_lt hlhb0_1 hfhR (by omega))
              replace hb0_2 := BoxAt.chgA hb0_2 c14_14 (apart_lt hlhb0_2 hfhR (by omega))
              have := c14_14.size
              replace eB := Ext.then eB c14_14 (ge_of hfhR (by omega))
              replace cL12 := Chg.step cL12 c14_14 (Sub.fresh hfhR (by omega))
              replace cL16 := Chg.step cL16 c14_14 sbhR
              have hlho14_14 := OS.lt ho14_14
              try simp (disch := decide) only [outv_some, outv_none, put_puts]
              refine plK_last (by decide) ?_
              try simp -implicitDefEqProofs (disch := first | decide | assumption | omega) only [go_sem, RdS.len hdX sl22, RdS.idx hdX sl22, R1.intB hdX (Ext.pres eB), RdS.cells hdX, RdS.len hmX sl23, RdS.idx hmX sl23, RdS.cellB hmX (Ext.pres eB), RdS.cells hmX, RdS.len hdY sl22, RdS.idx hdY sl22, R1.intB hdY (Ext.pres eB), RdS.cells hdY, RdS.len hmY sl23, RdS.idx hmY sl23, RdS.cellB hmY (Ext.pres eB), RdS.cells hmY, RdS.len hdZ sl22, RdS.idx hdZ sl22, R1.intB hdZ (Ext.pres eB), RdS.cells hdZ, RdS.len hmZ sl23, RdS.idx hmZ sl23, RdS.cellB hmZ (Ext.pres eB), RdS.cells hmZ, RdS.len rf sl23, RdS.idx rf sl23, RdS.cellB rf (Ext.pres eB), RdS.cells rf, RdS.len rg sl23, RdS.idx rg sl23, RdS.cellB rg (Ext.pres eB), RdS.cells rg, RdS.len hr19 sl56, RdS.idx hr19 sl56, RdS.cellB hr19 (Ext.pres eB), RdS.cells hr19, RdS.len hr20 sl56, RdS.idx hr20 sl56, RdS.cellB hr20 (Ext.pres eB), RdS.cells hr20, RdS.len hr21 sl22, RdS.idx hr21 sl22, R1.intB hr21 (Ext.pres eB), RdS.cells hr21, RdS.len (OS.rd hO) sl23, RdS.idx (OS.rd hO) sl23, RdS.cellN (OS.rd hO), RdS.cells (OS.rd hO), RdS.len (OS.rd ho14_14) sl56, RdS.idx (OS.rd ho14_14) sl56, RdS.cellN (OS.rd ho14_14), RdS.cells (OS.rd ho14_14), BoxAt.cell hb0_1, BoxAt.cell hb0_2, wrap_id]
              refine hK _ _ ?_
              clear hK K
              refine den_blk ?_
              refine den_region TTok ?_
              intro K hK
              simp -implicitDefEqProofs (disch := first | decide | assumption | omega) only [go_sem, RdS.len hdX sl22, RdS.idx hdX sl22, R1.intB hdX (Ext.pres eB), RdS.cells hdX, RdS.len hmX sl23, RdS.idx hmX sl23, RdS.cellB hmX (Ext.pres eB), RdS.cells hmX, RdS.len hdY sl22, RdS.idx hdY sl22, R1.intB hdY (Ext.pres eB), RdS.cells hdY, RdS.len hmY sl23, RdS.idx hmY sl23, RdS.cellB hmY (Ext.pres eB), RdS.cells hmY, RdS.len hdZ sl22, RdS.idx hdZ sl22, R1.intB hdZ (Ext.pres eB), RdS.cells hdZ, RdS.len hmZ sl23, RdS.idx hmZ sl23, RdS.cellB hmZ (Ext.pres eB), RdS.cells hmZ, RdS.len rf sl23, RdS.idx rf sl23, RdS.cellB rf (Ext.pres eB), RdS.cells rf, RdS.len rg sl23, RdS.idx rg sl23, RdS.cellB rg (Ext.pres eB), RdS.cells rg, RdS.len hr19 sl56, RdS.idx hr19 sl56, RdS.cellB hr19 (Ext.pres eB), RdS.cells hr19, RdS.len hr20 sl56, RdS.idx hr20 sl56, RdS.cellB hr20 (Ext.pres eB), RdS.cells hr20, RdS.len hr21 sl22, RdS.idx hr21 sl22, R1.intB hr21 (Ext.pres eB), RdS.cells hr21, RdS.len (OS.rd hO) sl23, RdS.idx (OS.rd hO) sl23, RdS.cellN (OS.rd hO), RdS.cells (OS.rd hO), RdS.len (OS.rd ho14_14) sl56, RdS.idx (OS.rd ho14_14) sl56, RdS.cellN (OS.rd ho14_14), RdS.cells (OS.rd ho14_14), BoxAt.cell hb0_1, BoxAt.cell hb0_2, wrap_id]
              refine hK _ _ ?_
              clear hK K
              refine den_stop ?_
              rw [range_step (fun q : Nat => imgP Y Z g 0 (n : Int) ((f.getD n default).getD q default))] at ho14_14
              exact ⟨(i + 1, v14_14, fp14_14), by simp [HasL, puts_at], ⟨by first | omega | (dsimp only; omega), ho14_14, hfho14_14, sb22, cL16⟩, by first | omega | (dsimp only; omega)⟩
            · try simp only [decide_eq_true_eq, decide_eq_false_iff_not, beq_iff_eq, beq_eq_false_iff_ne, bne_iff_ne, ne_eq, Bool.not_eq_true', Bool.not_eq_false', Bool.and_eq_true, Bool.or_eq_true, bne_eq_false_iff_eq, Bool.or_eq_false_iff, Bool.and_eq_false_iff] at c3
              refine den_exit ?_
              refine denX_code ?_
              refine denX_stop ?_
              refine denX_hit ?_
              refine den_region TTok ?_
              intro K hK
              simp -implicitDefEqProofs (disch := first | decide | assumption | omega) only [go_sem, RdS.len hdX sl22, RdS.idx hdX sl22, R1.intB hdX (Ext.pres eB), RdS.cells hdX, RdS.len hmX sl23, RdS.idx hmX sl23, RdS.cellB hmX (Ext.pres eB), RdS.cells hmX, RdS.len hdY sl22, RdS.idx hdY sl22, R1.intB hdY (Ext.pres eB), RdS.cells hdY, RdS.len hmY sl23, RdS.idx hmY sl23, RdS.cellB hmY (Ext.pres eB), RdS.cells hmY, RdS.len hdZ sl22, RdS.idx hdZ sl22, R1.intB hdZ (Ext.pres eB), RdS.cells hdZ, RdS.len hmZ sl23, RdS.idx hmZ sl23, RdS.cellB hmZ (Ext.pres eB), RdS.cells hmZ, RdS.len rf sl23, RdS.idx rf sl23, RdS.cellB rf (Ext.pres eB), RdS.cells rf, RdS.len rg sl23, RdS.idx rg sl23, RdS.cellB rg (Ext.pres eB), RdS.cells rg, RdS.len hr19 sl56, RdS.idx hr19 sl56, RdS.cellB hr19 (Ext.pres eB), RdS.cells hr19, RdS.len (OS.rd hO) sl23, RdS.idx (OS.rd hO) sl23, RdS.cellN (OS.rd hO), RdS.cells (OS.rd hO), RdS.len (OS.rd hR) sl56, RdS.idx (OS.rd hR) sl56, RdS.cellN (OS.rd hR), RdS.cells (OS.rd hR), BoxAt.cell hb0_1, BoxAt.cell hb0_2, wrap_id]
              refine op_bs1 sz23 rfl (OS.one hR).2 ?_
              try simp -implicitDefEqProofs (disch := first | decide | assumption | omega) only [go_sem, RdS.len hdX sl22, RdS.idx hdX sl22, R1.intB hdX (Ext.pres eB), RdS.cells hdX, RdS.len hmX sl23, RdS.idx hmX sl23, RdS.cellB hmX (Ext.pres eB), RdS.cells hmX, RdS.len hdY sl22, RdS.idx hdY sl22, R1.intB hdY (Ext.pres eB), RdS.cells hdY, RdS.len hmY sl23, RdS.idx hmY sl23, RdS.cellB hmY (Ext.pres eB), RdS.cells hmY, RdS.len hdZ sl22, RdS.idx hdZ sl22, R1.intB hdZ (Ext.pres eB), RdS.cells hdZ, RdS.len hmZ sl23, RdS.idx hmZ sl23, RdS.cellB hmZ (Ext.pres eB), RdS.cells hmZ, RdS.len rf sl23, RdS.idx rf sl23, RdS.cellB rf (Ext.pres eB), RdS.cells rf, RdS.len rg sl23, RdS.idx rg sl23, RdS.cellB rg (Ext.pres eB), RdS.cells rg, RdS.len hr19 sl56, RdS.idx hr19 sl56, RdS.cellB hr19 (Ext.pres eB), RdS.cells hr19, RdS.len (OS.rd hO) sl23, RdS.idx (OS.rd hO) sl23, RdS.cellN (OS.rd hO), RdS.cells (OS.rd hO), RdS.len (OS.rd hR) sl56, RdS.idx (OS.rd hR) sl56, RdS.cellN (OS.rd hR), RdS.cells (OS.rd hR), BoxAt.cell hb0_1, BoxAt.cell hb0_2, wrap_id]
              refine op_append1 sz23 hO hfhO.nodup hR hfhR.nodup (apart_lt hlhO hfhR (by omega)) (by first | omega | (simp; omega)) rfl rfl ?_
              intro v15_3 h15_3 fp15_3 ho15_3 hn15_3 hs15_3 c15_3
              have hsz15_3 := c15_3.size
              have hfho15_3 : Fresh h9.size fp15_3 := Fresh.appd hfhO hfhR (by omega) (by omega) hn15_3 hs15_3
              have sb23 : Sub [h9.size] h6_0.size fp15_3 := Sub.grow sbhO (Sub.fresh hfhR (by omega)) (by omega) hs15_3
              replace hb0_1 := BoxAt.chgA hb0_1 c15_3 (apart_lt hlhb0_1 hfhO (by omega))
              replace hb0_2 := BoxAt.chgA hb0_2 c15_3 (apart_lt hlhb0_2 hfhO (by omega))
              have := c15_3.size
              replace eB := Ext.then eB c15_3 (ge_of hfhO (by omega))
              replace cL12 := Chg.step cL12 c15_3 sbhO
              have hlho15_3 := OS.lt ho15_3
              try simp -implicitDefEqProofs (disch := first | decide | assumption | omega) only [go_sem, RdS.len hdX sl22, RdS.idx hdX sl22, R1.intB hdX (Ext.pres eB), RdS.cells hdX, RdS.len hmX sl23, RdS.idx hmX sl23, RdS.cellB hmX (Ext.pres eB), RdS.cells hmX, RdS.len hdY sl22, RdS.idx hdY sl22, R1.intB hdY (Ext.pres eB), RdS.cells hdY, RdS.len hmY sl23, RdS.idx hmY sl23, RdS.cellB hmY (Ext.pres eB), RdS.cells hmY, RdS.len hdZ sl22, RdS.idx hdZ sl22, R1.intB hdZ (Ext.pres eB), RdS.cells hdZ, RdS.len hmZ sl23, RdS.idx hmZ sl23, RdS.cellB hmZ (Ext.pres eB), RdS.cells hmZ, RdS.len rf sl23, RdS.idx rf sl23, RdS.cellB rf (Ext.pres eB), RdS.cells rf, RdS.len rg sl23, RdS.idx rg sl23, RdS.cellB rg (Ext.pres eB), RdS.cells rg, RdS.len hr19 sl56, RdS.idx hr19 sl56, RdS.cellB hr19 (Ext.pres eB), RdS.cells hr19, RdS.len (OS.rd ho15_3) sl23, RdS.idx (OS.rd ho15_3) sl23, RdS.cellN (OS.rd ho15_3), RdS.cells (OS.rd ho15_3), BoxAt.cell hb0_1, BoxAt.cell hb0_2, wrap_id]
              refine hK _ _ ?_
              clear hK K
              refine den_blk ?_
              refine den_region TTok ?_
              intro K hK
              simp -implicitDefEqProofs (disch := first | decide | assumption | omega) only [go_sem, RdS.len hdX sl22, RdS.idx hdX sl22, R1.intB hdX (Ext.pres eB), RdS.cells hdX, RdS.len hmX sl23, RdS.idx hmX sl23, RdS.cellB hmX (Ext.pres eB), RdS.cells hmX, RdS.len hdY sl22, RdS.idx hdY sl22, R1.intB hdY (Ext.pres eB), RdS.cells hdY, RdS.len hmY sl23, RdS.idx hmY sl23, RdS.cellB hmY (Ext.pres eB), RdS.cells hmY, RdS.len hdZ sl22, RdS.idx hdZ sl22, R1.intB hdZ (Ext.pres eB), RdS.cells hdZ, RdS.len hmZ sl23, RdS.idx hmZ sl23, RdS.cellB hmZ (Ext.pres eB), RdS.cells hmZ, RdS.len rf sl23, RdS.idx rf sl23, RdS.cellB rf (Ext.pres eB), RdS.cells rf, RdS.len rg sl23, RdS.idx rg sl23, RdS.cellB rg (Ext.pres eB), RdS.cells rg, RdS.len hr19 sl56, RdS.idx hr19 sl56, RdS.cellB hr19 (Ext.pres eB), RdS.cells hr19, RdS.len (OS.rd ho15_3) sl23, RdS.idx (OS.rd ho15_3) sl23, RdS.cellN (OS.rd ho15_3), RdS.cells (OS.rd ho15_3), BoxAt.cell hb0_1, BoxAt.cell hb0_2, wrap_id]
              refine hK _ _ ?_
              clear hK K
              refine den_stop ?_
              rw [show ((List.range i).map fun q : Nat => imgP Y Z g 0 (n : Int) ((f.getD n default).getD q default)) = mapRows (fun (w : Nat) r => imgP Y Z g 0 (w : Int) r) f n by rw [mapRows, show (f.getD n default).length = i by omega], range_step (fun q : Nat => mapRows (fun (w : Nat) r => imgP Y Z g 0 (w : Int) r) f q)] at ho15_3
              exact ⟨(n + 1, v15_3, fp15_3), by simp [HasL, puts_at], ⟨by first | omega | (dsimp only; omega), ho15_3, hfho15_3, sb23, cL12⟩, by first | omega | (dsimp only; omega)⟩
        · try simp only [decide_eq_true_eq, decide_eq_false_iff_not, beq_iff_eq, beq_eq_false_iff_ne, bne_iff_ne, ne_eq, Bool.not_eq_true', Bool.not_eq_false', Bool.and_eq_true, Bool.or_eq_true, bne_eq_false_iff_eq, Bool.or_eq_false_iff, Bool.and_eq_false_iff] at c2
          refine den_exit ?_
          refine denX_code ?_
          refine denX_stop ?_
          refine denX_hit ?_
          refine den_seq ?_
          refine den_region TTok ?_
          intro K hK
          simp -implicitDefEqProofs (disch := first | decide | assumption | omega) only [go_sem, RdS.len hdX sl22, RdS.idx hdX sl22, R1.intB hdX (Ext.pres eB), RdS.cells hdX, RdS.len hmX sl23, RdS.idx hmX sl23, RdS.cellB hmX (Ext.pres eB), RdS.cells hmX, RdS.len hdY sl22, RdS.idx hdY sl22, R1.intB hdY (Ext.pres eB), RdS.cells hdY, RdS.len hmY sl23, RdS.idx hmY sl23, RdS.cellB hmY (Ext.pres eB), RdS.cells hmY, RdS.len hdZ sl22, RdS.idx hdZ sl22, R1.intB hdZ (Ext.pres eB), RdS.cells hdZ, RdS.len hmZ sl23, RdS.idx hmZ sl23, RdS.cellB hmZ (Ext.pres eB), RdS.cells hmZ, RdS.len rf sl23, RdS.idx rf sl23, RdS.cellB rf (Ext.pres eB), RdS.cells rf, RdS.len rg sl23, RdS.idx rg sl23, RdS.cellB rg (Ext.pres eB), RdS.cells rg, RdS.len (OS.rd hO) sl23, RdS.idx (OS.rd hO) sl23, RdS.cellN (OS.rd hO), RdS.cells (OS.rd hO), wrap_id]
          refine hK _ _ ?_
          clear hK K
          refine den_ret ?_
          simp (disch := decide) only [resP_2, puts_same, puts_ne]
          have hz : cfP X Y Z f g = (mapFam (fun (w : Nat) r => imgP Y Z g 0 (w : Int) r) f, 0) := by rw [cfP, if_pos hz0]
          rw [hz]
          rw [show n = f.length by omega] at hO
          exact ⟨_, _, rfl, hO, hfhO.mono (by omega), eB⟩

set_option maxRecDepth 100000 in
set_option maxHeartbeats 4000000 in
theorem exactComposeFamilies_law (vX vY vZ vf vg : Value) (X : Cx) (Y : Cx) (Z : Cx) (f : List (List (List Int))) (g : List (List (List Int))) (h : Heap) (rX : RC h vX X) (rY : RC h vY Y) (rZ : RC h vZ Z) (rf : R3 h vf f) (rg : R3 h vg g)  : CallA Try.prog 5 #[vX, vY, vZ, vf, vg] h fun v' h' => v' = .bool (true) ∧ Ext h h' := by
  obtain ⟨vdX, vmX, rfl, hdX, hmX⟩ := rX
  have hledX := RdS.le hdX
  have hlemX := RdS.le hmX
  obtain ⟨vdY, vmY, rfl, hdY, hmY⟩ := rY
  have hledY := RdS.le hdY
  have hlemY := RdS.le hmY
  obtain ⟨vdZ, vmZ, rfl, hdZ, hmZ⟩ := rZ
  have hledZ := RdS.le hdZ
  have hlemZ := RdS.le hmZ
  have hlef := RdS.le rf
  have hleg := RdS.le rg
  refine callA_intro TTok (args := [_, _, _, _, _]) Try.func5 (by kernel_rfl) rfl 188 rfl (by simp) [.tmp 10] rfl ?_
  simp only [idxs, Nat.reduceAdd]
  refine den_seq ?_
  refine den_region TTok ?_
  intro K hK
  simp -implicitDefEqProofs (disch := first | decide | assumption | omega) only [go_sem, wrap_id]
  refine op_box (cs := #[.int .i64 (X.p), vdX, vmX]) rfl ?_
  intro h0_0 e0_0 hb0_0 z0_0
  have := Ext.size e0_0
  have eB := e0_0
  have hfhb0_0 : Fresh h.size [h.size] := Fresh.one _
  have hlhb0_0 := one_lt (show h.size < h0_0.size by omega)
  try simp -implicitDefEqProofs (disch := first | decide | assumption | omega) only [go_sem, BoxAt.cell hb0_0, wrap_id]
  refine op_box (cs := #[.int .i64 (Y.p), vdY, vmY]) rfl ?_
  intro h0_1 e0_1 hb0_1 z0_1
  replace hb0_0 := BoxAt.ext hb0_0 e0_1
  have := Ext.size e0_1
  replace eB := Ext.trans eB e0_1
  have hfhb0_1 : Fresh h0_0.size [h0_0.size] := Fresh.one _
  have hlhb0_1 := one_lt (show h0_0.size < h0_1.size by omega)
  try simp -implicitDefEqProofs (disch := first | decide | assumption | omega) only [go_sem, BoxAt.cell hb0_0, BoxAt.cell hb0_1, wrap_id]
  refine op_box (cs := #[.int .i64 (Z.p), vdZ, vmZ]) rfl ?_
  intro h0_2 e0_2 hb0_2 z0_2
  replace hb0_0 := BoxAt.ext hb0_0 e0_2
  replace hb0_1 := BoxAt.ext hb0_1 e0_2
  have := Ext.size e0_2
  replace eB := Ext.trans eB e0_2
  have hfhb0_2 : Fresh h0_1.size [h0_1.size] := Fresh.one _
  have hlhb0_2 := one_lt (show h0_1.size < h0_2.size by omega)
  try simp -implicitDefEqProofs (disch := first | decide | assumption | omega) only [go_sem, BoxAt.cell hb0_0, BoxAt.cell hb0_1, BoxAt.cell hb0_2, wrap_id]
  refine hK _ _ ?_
  clear hK K
  refine den_seq ?_
  refine den_region TTok ?_
  intro K hK
  simp -implicitDefEqProofs (disch := first | decide | assumption | omega) only [go_sem, BoxAt.cell hb0_0, BoxAt.cell hb0_1, BoxAt.cell hb0_2, wrap_id]
  refine hK _ _ ?_
  clear hK K
  refine den_seq ?_
  refine den_region TTok ?_
  intro K hK
  simp -implicitDefEqProofs (disch := first | decide | assumption | omega) only [go_sem, ld25, BoxAt.cell hb0_0, BoxAt.cell hb0_1, BoxAt.cell hb0_2, wrap_id]
  try simp -implicitDefEqProofs (disch := first | decide | assumption | omega) only [go_sem, BoxAt.cell hb0_0, BoxAt.cell hb0_1, BoxAt.cell hb0_2, wrap_id]
  refine CallA.mono (szC_ok _ X _ _ ⟨_, _, rfl, (RdS.pres hdX (Ext.pres eB)), (RdS.pres hmX (Ext.pres eB))⟩ (by omega) (by omega)) ?_
  intro v_ h2_2
  rintro ⟨rfl, e2_2⟩
  replace hb0_0 := BoxAt.ext hb0_0 e2_2
  replace hb0_1 := BoxAt.ext hb0_1 e2_2
  replace hb0_2 := BoxAt.ext hb0_2 e2_2
  have := Ext.size e2_2
  replace eB := Ext.trans eB e2_2
  have := szC_le X (1048576 : Int) (by omega)
  try simp -implicitDefEqProofs (disch := first | decide | assumption | omega) only [go_sem, BoxAt.cell hb0_0, BoxAt.cell hb0_1, BoxAt.cell hb0_2, wrap_id]
  refine hK _ _ ?_
  clear hK K
  refine den_seq ?_
  refine den_seq ?_
  refine den_region TTok ?_
  intro K hK
  simp -implicitDefEqProofs (disch := first | decide | assumption | omega) only [go_sem, BoxAt.cell hb0_0, BoxAt.cell hb0_1, BoxAt.cell hb0_2, wrap_id]
  refine hK _ _ ?_
  clear hK K
  refine den_cond rfl (fun c0 => ?_) (fun c0 => ?_)
  · try simp only [decide_eq_true_eq, decide_eq_false_iff_not, beq_iff_eq, beq_eq_false_iff_ne, bne_iff_ne, ne_eq, Bool.not_eq_true', Bool.not_eq_false', Bool.and_eq_true, Bool.or_eq_true, bne_eq_false_iff_eq] at c0
    refine den_seq ?_
    refine den_region TTok ?_
    intro K hK
    simp -implicitDefEqProofs (disch := first | decide | assumption | omega) only [go_sem, wrap_id]
    refine hK _ _ ?_
    clear hK K
    refine den_ret ?_
    simp (disch := decide) only [resP_1, puts_same, puts_ne]
    exact ⟨by first | rfl | trivial, eB⟩
  · try simp only [decide_eq_true_eq, decide_eq_false_iff_not, beq_iff_eq, beq_eq_false_iff_ne, bne_iff_ne, ne_eq, Bool.not_eq_true', Bool.not_eq_false', Bool.and_eq_true, Bool.or_eq_true, bne_eq_false_iff_eq] at c0
    have hMX := szC_ok' (by omega) (by omega) c0
    have hcnX := szC_cntA (by omega) (by omega) c0
    refine den_skip ?_
    refine den_seq ?_
    refine den_region TTok ?_
    intro K hK
    simp -implicitDefEqProofs (disch := first | decide | assumption | omega) only [go_sem, ld25, BoxAt.cell hb0_0, BoxAt.cell hb0_1, BoxAt.cell hb0_2, wrap_id]
    try simp -implicitDefEqProofs (disch := first | decide | assumption | omega) only [go_sem, BoxAt.cell hb0_0, BoxAt.cell hb0_1, BoxAt.cell hb0_2, wrap_id]
    refine CallA.mono (szC_ok _ Y _ _ ⟨_, _, rfl, (RdS.pres hdY (Ext.pres eB)), (RdS.pres hmY (Ext.pres eB))⟩ (by omega) (by omega)) ?_
    intro v_ h5_2
    rintro ⟨rfl, e5_2⟩
    replace hb0_0 := BoxAt.ext hb0_0 e5_2
    replace hb0_1 := BoxAt.ext hb0_1 e5_2
    replace hb0_2 := BoxAt.ext hb0_2 e5_2
    have := Ext.size e5_2
    replace eB := Ext.trans eB e5_2
    have := szC_le Y (szC X (1048576 : Int)) (by omega)
    try simp -implicitDefEqProofs (disch := first | decide | assumption | omega) only [go_sem, BoxAt.cell hb0_0, BoxAt.cell hb0_1, BoxAt.cell hb0_2, wrap_id]
    refine hK _ _ ?_
    clear hK K
    refine den_seq ?_
    refine den_seq ?_
    refine den_region TTok ?_
    intro K hK
    simp -implicitDefEqProofs (disch := first | decide | assumption | omega) only [go_sem, BoxAt.cell hb0_0, BoxAt.cell hb0_1, BoxAt.cell hb0_2, wrap_id]
    refine hK _ _ ?_
    clear hK K
    refine den_cond rfl (fun c1 => ?_) (fun c1 => ?_)
    · try simp only [decide_eq_true_eq, decide_eq_false_iff_not, beq_iff_eq, beq_eq_false_iff_ne, bne_iff_ne, ne_eq, Bool.not_eq_true', Bool.not_eq_false', Bool.and_eq_true, Bool.or_eq_true, bne_eq_false_iff_eq] at c1
      refine den_seq ?_
      refine den_region TTok ?_
      intro K hK
      simp -implicitDefEqProofs (disch := first | decide | assumption | omega) only [go_sem, wrap_id]
      refine hK _ _ ?_
      clear hK K
      refine den_ret ?_
      simp (disch := decide) only [resP_1, puts_same, puts_ne]
      exact ⟨by first | rfl | trivial, eB⟩
    · try simp only [decide_eq_true_eq, decide_eq_false_iff_not, beq_iff_eq, beq_eq_false_iff_ne, bne_iff_ne, ne_eq, Bool.not_eq_true', Bool.not_eq_false', Bool.and_eq_true, Bool.or_eq_true, bne_eq_false_iff_eq] at c1
      have hMY := szC_ok' (by omega) (by omega) c1
      have hcnY := szC_cntA (by omega) (by omega) c1
      refine den_skip ?_
      refine den_seq ?_
      refine den_region TTok ?_
      intro K hK
      simp -implicitDefEqProofs (disch := first | decide | assumption | omega) only [go_sem, ld25, BoxAt.cell hb0_0, BoxAt.cell hb0_1, BoxAt.cell hb0_2, wrap_id]
      try simp -implicitDefEqProofs (disch := first | decide | assumption | omega) only [go_sem, BoxAt.cell hb0_0, BoxAt.cell hb0_1, BoxAt.cell hb0_2, wrap_id]
      refine CallA.mono (szC_ok _ Z _ _ ⟨_, _, rfl, (RdS.pres hdZ (Ext.pres eB)), (RdS.pres hmZ (Ext.pres eB))⟩ (by omega) (by omega)) ?_
      intro v_ h8_2
      rintro ⟨rfl, e8_2⟩
      replace hb0_0 := BoxAt.ext hb0_0 e8_2
      replace hb0_1 := BoxAt.ext hb0_1 e8_2
      replace hb0_2 := BoxAt.ext hb0_2 e8_2
      have := Ext.size e8_2
      replace eB := Ext.trans eB e8_2
      have := szC_le Z (szC Y (szC X (1048576 : Int))) (by omega)
      try simp -implicitDefEqProofs (disch := first | decide | assumption | omega) only [go_sem, BoxAt.cell hb0_0, BoxAt.cell hb0_1, BoxAt.cell hb0_2, wrap_id]
      refine hK _ _ ?_
      clear hK K
      refine den_seq ?_
      refine den_seq ?_
      refine den_region TTok ?_
      intro K hK
      simp -implicitDefEqProofs (disch := first | decide | assumption | omega) only [go_sem, BoxAt.cell hb0_0, BoxAt.cell hb0_1, BoxAt.cell hb0_2, wrap_id]
      refine hK _ _ ?_
      clear hK K
      refine den_cond rfl (fun c2 => ?_) (fun c2 => ?_)
      · try simp only [decide_eq_true_eq, decide_eq_false_iff_not, beq_iff_eq, beq_eq_false_iff_ne, bne_iff_ne, ne_eq, Bool.not_eq_true', Bool.not_eq_false', Bool.and_eq_true, Bool.or_eq_true, bne_eq_false_iff_eq] at c2
        refine den_seq ?_
        refine den_region TTok ?_
        intro K hK
        simp -implicitDefEqProofs (disch := first | decide | assumption | omega) only [go_sem, wrap_id]
        refine hK _ _ ?_
        clear hK K
        refine den_ret ?_
        simp (disch := decide) only [resP_1, puts_same, puts_ne]
        exact ⟨by first | rfl | trivial, eB⟩
      · try simp only [decide_eq_true_eq, decide_eq_false_iff_not, beq_iff_eq, beq_eq_false_iff_ne, bne_iff_ne, ne_eq, Bool.not_eq_true', Bool.not_eq_false', Bool.and_eq_true, Bool.or_eq_true, bne_eq_false_iff_eq] at c2
        have hMZ := szC_ok' (by omega) (by omega) c2
        have hcnZ := szC_cntA (by omega) (by omega) c2
        refine den_skip ?_
        refine den_seq ?_
        refine den_region TTok ?_
        intro K hK
        simp -implicitDefEqProofs (disch := first | decide | assumption | omega) only [go_sem, BoxAt.cell hb0_0, BoxAt.cell hb0_1, BoxAt.cell hb0_2, wrap_id]
        try simp -implicitDefEqProofs (disch := first | decide | assumption | omega) only [go_sem, BoxAt.cell hb0_0, BoxAt.cell hb0_1, BoxAt.cell hb0_2, wrap_id]
        refine CallA.pure (szSSS_ok _ f _ _ (RdS.pres rf (Ext.pres eB)) (by omega) (by omega)) ?_
        have := sz3_le f (szC Z (szC Y (szC X (1048576 : Int)))) (by omega)
        try simp -implicitDefEqProofs (disch := first | decide | assumption | omega) only [go_sem, BoxAt.cell hb0_0, BoxAt.cell hb0_1, BoxAt.cell hb0_2, wrap_id]
        refine hK _ _ ?_
        clear hK K
        refine den_seq ?_
        refine den_seq ?_
        refine den_region TTok ?_
        intro K hK
        simp -implicitDefEqProofs (disch := first | decide | assumption | omega) only [go_sem, BoxAt.cell hb0_0, BoxAt.cell hb0_1, BoxAt.cell hb0_2, wrap_id]
        refine hK _ _ ?_
        clear hK K
        refine den_cond rfl (fun c3 => ?_) (fun c3 => ?_)
        · try simp only [decide_eq_true_eq, decide_eq_false_iff_not, beq_iff_eq, beq_eq_false_iff_ne, bne_iff_ne, ne_eq, Bool.not_eq_true', Bool.not_eq_false', Bool.and_eq_true, Bool.or_eq_true, bne_eq_false_iff_eq] at c3
          refine den_seq ?_
          refine den_region TTok ?_
          intro K hK
          simp -implicitDefEqProofs (disch := first | decide | assumption | omega) only [go_sem, wrap_id]
          refine hK _ _ ?_
          clear hK K
          refine den_ret ?_
          simp (disch := decide) only [resP_1, puts_same, puts_ne]
          exact ⟨by first | rfl | trivial, eB⟩
        · try simp only [decide_eq_true_eq, decide_eq_false_iff_not, beq_iff_eq, beq_eq_false_iff_ne, bne_iff_ne, ne_eq, Bool.not_eq_true', Bool.not_eq_false', Bool.and_eq_true, Bool.or_eq_true, bne_eq_false_iff_eq] at c3
          have hMf := sz3_ok (by omega) (by omega) c3
          have hcnf := sz3_cntA (by omega) (by omega) c3
          refine den_skip ?_
          refine den_seq ?_
          refine den_region TTok ?_
          intro K hK
          simp -implicitDefEqProofs (disch := first | decide | assumption | omega) only [go_sem, BoxAt.cell hb0_0, BoxAt.cell hb0_1, BoxAt.cell hb0_2, wrap_id]
          try simp -implicitDefEqProofs (disch := first | decide | assumption | omega) only [go_sem, BoxAt.cell hb0_0, BoxAt.cell hb0_1, BoxAt.cell hb0_2, wrap_id]
          refine CallA.pure (szSSS_ok _ g _ _ (RdS.pres rg (Ext.pres eB)) (by omega) (by omega)) ?_
          have := sz3_le g (sz3 f (szC Z (szC Y (szC X (1048576 : Int))))) (by omega)
          try simp -implicitDefEqProofs (disch := first | decide | assumption | omega) only [go_sem, BoxAt.cell hb0_0, BoxAt.cell hb0_1, BoxAt.cell hb0_2, wrap_id]
          refine hK _ _ ?_
          clear hK K
          refine den_seq ?_
          refine den_seq ?_
          refine den_region TTok ?_
          intro K hK
          simp -implicitDefEqProofs (disch := first | decide | assumption | omega) only [go_sem, BoxAt.cell hb0_0, BoxAt.cell hb0_1, BoxAt.cell hb0_2, wrap_id]
          refine hK _ _ ?_
          clear hK K
          refine den_cond rfl (fun c4 => ?_) (fun c4 => ?_)
          · try simp only [decide_eq_true_eq, decide_eq_false_iff_not, beq_iff_eq, beq_eq_false_iff_ne, bne_iff_ne, ne_eq, Bool.not_eq_true', Bool.not_eq_false', Bool.and_eq_true, Bool.or_eq_true, bne_eq_false_iff_eq] at c4
            refine den_seq ?_
            refine den_region TTok ?_
            intro K hK
            simp -implicitDefEqProofs (disch := first | decide | assumption | omega) only [go_sem, wrap_id]
            refine hK _ _ ?_
            clear hK K
            refine den_ret ?_
            simp (disch := decide) only [resP_1, puts_same, puts_ne]
            exact ⟨by first | rfl | trivial, eB⟩
          · try simp only [decide_eq_true_eq, decide_eq_false_iff_not, beq_iff_eq, beq_eq_false_iff_ne, bne_iff_ne, ne_eq, Bool.not_eq_true', Bool.not_eq_false', Bool.and_eq_true, Bool.or_eq_true, bne_eq_false_iff_eq] at c4
            have hMg := sz3_ok (by omega) (by omega) c4
            have hcng := sz3_cntA (by omega) (by omega) c4
            have hci := cnt_cf X Y Z f g
            refine den_skip ?_
            refine den_seq ?_
            refine den_draw TTok mixed [] [(0, true), (2, true), (4, true), (6, true), (8, true), (1, false), (3, false), (5, false), (7, false), (9, false), (10, false), (11, true), (12, true), (13, true), (14, true), (15, true)] (by kernel_rfl) ?_
            intro K hK
            simp -implicitDefEqProofs (disch := first | decide | assumption | omega) only [go_sem, ld25, BoxAt.cell hb0_0, BoxAt.cell hb0_1, BoxAt.cell hb0_2, wrap_id]
            try simp -implicitDefEqProofs (disch := first | decide | assumption | omega) only [go_sem, BoxAt.cell hb0_0, BoxAt.cell hb0_1, BoxAt.cell hb0_2, wrap_id]
            refine CallA.mono (toC_ok _ X _ ⟨_, _, rfl, (RdS.pres hdX (Ext.pres eB)), (RdS.pres hmX (Ext.pres eB))⟩ hMX) ?_
            intro v_ h17_1
            rintro ⟨vd17_1, vm17_1, fd17_1, fm17_1, rfl, hod17_1, hom17_1, hf17_1, e17_1⟩
            replace hb0_0 := BoxAt.ext hb0_0 e17_1
            replace hb0_1 := BoxAt.ext hb0_1 e17_1
            replace hb0_2 := BoxAt.ext hb0_2 e17_1
            have := Ext.size e17_1
            replace eB := Ext.trans eB e17_1
            have hfd17_1 := hf17_1.left
            have hfm17_1 := hf17_1.right
            have hlhod17_1 := OS.lt hod17_1
            have hlhom17_1 := OS.lt hom17_1
            have ap1 : Apart fd17_1 fm17_1 := apart_nodup hf17_1
            try simp (disch := decide) only [outv_some, outv_none, put_puts]
            refine plK_pres (Ext.pres e17_1) ?_
            try simp -implicitDefEqProofs (disch := first | decide | assumption | omega) only [go_sem, BoxAt.cell hb0_0, BoxAt.cell hb0_1, BoxAt.cell hb0_2, wrap_id]
            try simp -implicitDefEqProofs (disch := first | decide | assumption | omega) only [go_sem, BoxAt.cell hb0_0, BoxAt.cell hb0_1, BoxAt.cell hb0_2, wrap_id]
            refine CallA.mono (toC_ok _ Y _ ⟨_, _, rfl, (RdS.pres hdY (Ext.pres eB)), (RdS.pres hmY (Ext.pres eB))⟩ hMY) ?_
            intro v_ h17_3
            rintro ⟨vd17_3, vm17_3, fd17_3, fm17_3, rfl, hod17_3, hom17_3, hf17_3, e17_3⟩
            replace hod17_1 := OS.ext hod17_1 e17_3
            replace hom17_1 := OS.ext hom17_1 e17_3
            replace hb0_0 := BoxAt.ext hb0_0 e17_3
            replace hb0_1 := BoxAt.ext hb0_1 e17_3
            replace hb0_2 := BoxAt.ext hb0_2 e17_3
            have := Ext.size e17_3
            replace eB := Ext.trans eB e17_3
            have hfd17_3 := hf17_3.left
            have hfm17_3 := hf17_3.right
            have hlhod17_3 := OS.lt hod17_3
            have hlhom17_3 := OS.lt hom17_3
            have ap2 : Apart fd17_3 fm17_3 := apart_nodup hf17_3
            try simp (disch := decide) only [outv_some, outv_none, put_puts]
            refine plK_pres (Ext.pres e17_3) ?_
            try simp -implicitDefEqProofs (disch := first | decide | assumption | omega) only [go_sem, BoxAt.cell hb0_0, BoxAt.cell hb0_1, BoxAt.cell hb0_2, wrap_id]
            try simp -implicitDefEqProofs (disch := first | decide | assumption | omega) only [go_sem, BoxAt.cell hb0_0, BoxAt.cell hb0_1, BoxAt.cell hb0_2, wrap_id]
            refine CallA.mono (toC_ok _ Z _ ⟨_, _, rfl, (RdS.pres hdZ (Ext.pres eB)), (RdS.pres hmZ (Ext.pres eB))⟩ hMZ) ?_
            intro v_ h17_5
            rintro ⟨vd17_5, vm17_5, fd17_5, fm17_5, rfl, hod17_5, hom17_5, hf17_5, e17_5⟩
            replace hod17_1 := OS.ext hod17_1 e17_5
            replace hom17_1 := OS.ext hom17_1 e17_5
            replace hod17_3 := OS.ext hod17_3 e17_5
            replace hom17_3 := OS.ext hom17_3 e17_5
            replace hb0_0 := BoxAt.ext hb0_0 e17_5
            replace hb0_1 := BoxAt.ext hb0_1 e17_5
            replace hb0_2 := BoxAt.ext hb0_2 e17_5
            have := Ext.size e17_5
            replace eB := Ext.trans eB e17_5
            have hfd17_5 := hf17_5.left
            have hfm17_5 := hf17_5.right
            have hlhod17_5 := OS.lt hod17_5
            have hlhom17_5 := OS.lt hom17_5
            have ap3 : Apart fd17_5 fm17_5 := apart_nodup hf17_5
            try simp (disch := decide) only [outv_some, outv_none, put_puts]
            refine plK_pres (Ext.pres e17_5) ?_
            try simp -implicitDefEqProofs (disch := first | decide | assumption | omega) only [go_sem, BoxAt.cell hb0_0, BoxAt.cell hb0_1, BoxAt.cell hb0_2, wrap_id]
            try simp -implicitDefEqProofs (disch := first | decide | assumption | omega) only [go_sem, BoxAt.cell hb0_0, BoxAt.cell hb0_1, BoxAt.cell hb0_2, wrap_id]
            refine CallA.mono (toSSS_ok _ f _ (RdS.pres rf (Ext.pres eB)) hMf) ?_
            intro v17_7 h17_7
            rintro ⟨f17_7, ho17_7, hf17_7, e17_7⟩
            replace hod17_1 := OS.ext hod17_1 e17_7
            replace hom17_1 := OS.ext hom17_1 e17_7
            replace hod17_3 := OS.ext hod17_3 e17_7
            replace hom17_3 := OS.ext hom17_3 e17_7
            replace hod17_5 := OS.ext hod17_5 e17_7
            replace hom17_5 := OS.ext hom17_5 e17_7
            replace hb0_0 := BoxAt.ext hb0_0 e17_7
            replace hb0_1 := BoxAt.ext hb0_1 e17_7
            replace hb0_2 := BoxAt.ext hb0_2 e17_7
            have := Ext.size e17_7
            replace eB := Ext.trans eB e17_7
            have hlho17_7 := OS.lt ho17_7
            try simp (disch := decide) only [outv_some, outv_none, put_puts]
            refine plK_pres (Ext.pres e17_7) ?_
            try simp -implicitDefEqProofs (disch := first | decide | assumption | omega) only [go_sem, BoxAt.cell hb0_0, BoxAt.cell hb0_1, BoxAt.cell hb0_2, wrap_id]
            try simp -implicitDefEqProofs (disch := first | decide | assumption | omega) only [go_sem, BoxAt.cell hb0_0, BoxAt.cell hb0_1, BoxAt.cell hb0_2, wrap_id]
            refine CallA.mono (toSSS_ok _ g _ (RdS.pres rg (Ext.pres eB)) hMg) ?_
            intro v17_9 h17_9
            rintro ⟨f17_9, ho17_9, hf17_9, e17_9⟩
            replace hod17_1 := OS.ext hod17_1 e17_9
            replace hom17_1 := OS.ext hom17_1 e17_9
            replace hod17_3 := OS.ext hod17_3 e17_9
            replace hom17_3 := OS.ext hom17_3 e17_9
            replace hod17_5 := OS.ext hod17_5 e17_9
            replace hom17_5 := OS.ext hom17_5 e17_9
            replace ho17_7 := OS.ext ho17_7 e17_9
            replace hb0_0 := BoxAt.ext hb0_0 e17_9
            replace hb0_1 := BoxAt.ext hb0_1 e17_9
            replace hb0_2 := BoxAt.ext hb0_2 e17_9
            have := Ext.size e17_9
            replace eB := Ext.trans eB e17_9
            have hlho17_9 := OS.lt ho17_9
            try simp (disch := decide) only [outv_some, outv_none, put_puts]
            refine plK_pres (Ext.pres e17_9) ?_
            try simp -implicitDefEqProofs (disch := first | decide | assumption | omega) only [go_sem, BoxAt.cell hb0_0, BoxAt.cell hb0_1, BoxAt.cell hb0_2, wrap_id]
            try simp -implicitDefEqProofs (disch := first | decide | assumption | omega) only [go_sem, BoxAt.cell hb0_0, BoxAt.cell hb0_1, BoxAt.cell hb0_2, wrap_id]
            refine CallA.mono (sCf_ok _ _ _ _ _ X Y Z f g _ ⟨_, _, rfl, (OS.rd hod17_1), (OS.rd hom17_1)⟩ ⟨_, _, rfl, (OS.rd hod17_3), (OS.rd hom17_3)⟩ ⟨_, _, rfl, (OS.rd hod17_5), (OS.rd hom17_5)⟩ (OS.rd ho17_7) (OS.rd ho17_9) ) ?_
            intro v_ h17_10
            rintro ⟨vw17_10_0, fw17_10_0, rfl, how17_10_0, hfw17_10_0, e17_10⟩
            replace hod17_1 := OS.ext hod17_1 e17_10
            replace hom17_1 := OS.ext hom17_1 e17_10
            replace hod17_3 := OS.ext hod17_3 e17_10
            replace hom17_3 := OS.ext hom17_3 e17_10
            replace hod17_5 := OS.ext hod17_5 e17_10
            replace hom17_5 := OS.ext hom17_5 e17_10
            replace ho17_7 := OS.ext ho17_7 e17_10
            replace ho17_9 := OS.ext ho17_9 e17_10
            replace hb0_0 := BoxAt.ext hb0_0 e17_10
            replace hb0_1 := BoxAt.ext hb0_1 e17_10
            replace hb0_2 := BoxAt.ext hb0_2 e17_10
            have := Ext.size e17_10
            replace eB := Ext.trans eB e17_10
            have hlhow17_10_0 := OS.lt how17_10_0
            try simp (disch := decide) only [outv_some, outv_none, put_puts]
            refine plK_pres (Ext.pres e17_10) ?_
            try simp -implicitDefEqProofs (disch := first | decide | assumption | omega) only [go_sem, BoxAt.cell hb0_0, BoxAt.cell hb0_1, BoxAt.cell hb0_2, wrap_id]
            refine hK _ _ ?_
            clear hK K
            refine den_seq ?_
            refine den_region TTok ?_
            intro K hK
            simp -implicitDefEqProofs (disch := first | decide | assumption | omega) only [go_sem, ld25, BoxAt.cell hb0_0, BoxAt.cell hb0_1, BoxAt.cell hb0_2, wrap_id]
            try simp -implicitDefEqProofs (disch := first | decide | assumption | omega) only [go_sem, BoxAt.cell hb0_0, BoxAt.cell hb0_1, BoxAt.cell hb0_2, wrap_id]
            refine CallA.mono (toC_ok _ X _ ⟨_, _, rfl, (RdS.pres hdX (Ext.pres eB)), (RdS.pres hmX (Ext.pres eB))⟩ hMX) ?_
            intro v_ h18_1
            rintro ⟨vd18_1, vm18_1, fd18_1, fm18_1, rfl, hod18_1, hom18_1, hf18_1, e18_1⟩
            replace how17_10_0 := OS.ext how17_10_0 e18_1
            replace hb0_0 := BoxAt.ext hb0_0 e18_1
            replace hb0_1 := BoxAt.ext hb0_1 e18_1
            replace hb0_2 := BoxAt.ext hb0_2 e18_1
            have := Ext.size e18_1
            replace eB := Ext.trans eB e18_1
            have hfd18_1 := hf18_1.left
            have hfm18_1 := hf18_1.right
            have hlhod18_1 := OS.lt hod18_1
            have hlhom18_1 := OS.lt hom18_1
            have ap4 : Apart fd18_1 fm18_1 := apart_nodup hf18_1
            try simp -implicitDefEqProofs (disch := first | decide | assumption | omega) only [go_sem, BoxAt.cell hb0_0, BoxAt.cell hb0_1, BoxAt.cell hb0_2, wrap_id]
            refine op_alloc (cs := #[.int .i64 0, .slice none 0 0, .slice none 0 0]) (by kernel_rfl) ?_
            intro h18_2 e18_2 hb18_2 z18_2
            replace how17_10_0 := OS.ext how17_10_0 e18_2
            replace hod18_1 := OS.ext hod18_1 e18_2
            replace hom18_1 := OS.ext hom18_1 e18_2
            replace hb0_0 := BoxAt.ext hb0_0 e18_2
            replace hb0_1 := BoxAt.ext hb0_1 e18_2
            replace hb0_2 := BoxAt.ext hb0_2 e18_2
            have := Ext.size e18_2
            replace eB := Ext.trans eB e18_2
            have hfhb18_2 : Fresh h18_1.size [h18_1.size] := Fresh.one _
            have hlhb18_2 := one_lt (show h18_1.size < h18_2.size by omega)
            try simp -implicitDefEqProofs (disch := first | decide | assumption | omega) only [go_sem, BoxAt.cell hb0_0, BoxAt.cell hb0_1, BoxAt.cell hb0_2, BoxAt.cell hb18_2, wrap_id]
            refine op_storeB (cs' := #[.int .i64 (X.p), vd18_1, vm18_1]) st30 hb18_2 rfl rfl rfl (by simp) (allOne_mem (l := [.int .i64 (X.p), vd18_1, vm18_1]) ⟨rfl, (OS.one hod18_1).1, (OS.one hom18_1).1, trivial⟩) rfl ?_
            intro h18_3 hb18_2 c18_3
            replace how17_10_0 := OS.chg how17_10_0 c18_3 (apart_lt hlhow17_10_0 hfhb18_2 (by omega))
            replace hod18_1 := OS.chg hod18_1 c18_3 (apart_lt hlhod18_1 hfhb18_2 (by omega))
            replace hom18_1 := OS.chg hom18_1 c18_3 (apart_lt hlhom18_1 hfhb18_2 (by omega))
            replace hb0_0 := BoxAt.chgA hb0_0 c18_3 (apart_lt hlhb0_0 hfhb18_2 (by omega))
            replace hb0_1 := BoxAt.chgA hb0_1 c18_3 (apart_lt hlhb0_1 hfhb18_2 (by omega))
            replace hb0_2 := BoxAt.chgA hb0_2 c18_3 (apart_lt hlhb0_2 hfhb18_2 (by omega))
            have := c18_3.size
            replace eB := Ext.then eB c18_3 (ge_of hfhb18_2 (by omega))
            try simp -implicitDefEqProofs (disch := first | decide | assumption | omega) only [go_sem, BoxAt.cell hb0_0, BoxAt.cell hb0_1, BoxAt.cell hb0_2, BoxAt.cell hb18_2, wrap_id]
            refine hK _ _ ?_
            clear hK K
            refine den_seq ?_
            refine den_region TTok ?_
            intro K hK
            simp -implicitDefEqProofs (disch := first | decide | assumption | omega) only [go_sem, ld25, BoxAt.cell hb0_0, BoxAt.cell hb0_1, BoxAt.cell hb0_2, BoxAt.cell hb18_2, wrap_id]
            try simp -implicitDefEqProofs (disch := first | decide | assumption | omega) only [go_sem, BoxAt.cell hb0_0, BoxAt.cell hb0_1, BoxAt.cell hb0_2, BoxAt.cell hb18_2, wrap_id]
            refine CallA.mono (toC_ok _ Y _ ⟨_, _, rfl, (RdS.pres hdY (Ext.pres eB)), (RdS.pres hmY (Ext.pres eB))⟩ hMY) ?_
            intro v_ h19_1
            rintro ⟨vd19_1, vm19_1, fd19_1, fm19_1, rfl, hod19_1, hom19_1, hf19_1, e19_1⟩
            replace how17_10_0 := OS.ext how17_10_0 e19_1
            replace hod18_1 := OS.ext hod18_1 e19_1
            replace hom18_1 := OS.ext hom18_1 e19_1
            replace hb0_0 := BoxAt.ext hb0_0 e19_1
            replace hb0_1 := BoxAt.ext hb0_1 e19_1
            replace hb0_2 := BoxAt.ext hb0_2 e19_1
            replace hb18_2 := BoxAt.ext hb18_2 e19_1
            have := Ext.size e19_1
            replace eB := Ext.trans eB e19_1
            have hfd19_1 := hf19_1.left
            have hfm19_1 := hf19_1.right
            have hlhod19_1 := OS.lt hod19_1
            have hlhom19_1 := OS.lt hom19_1
            have ap5 : Apart fd19_1 fm19_1 := apart_nodup hf19_1
            try simp -implicitDefEqProofs (disch := first | decide | assumption | omega) only [go_sem, BoxAt.cell hb0_0, BoxAt.cell hb0_1, BoxAt.cell hb0_2, BoxAt.cell hb18_2, wrap_id]
            refine op_alloc (cs := #[.int .i64 0, .slice none 0 0, .slice none 0 0]) (by kernel_rfl) ?_
            intro h19_2 e19_2 hb19_2 z19_2
            replace how17_10_0 := OS.ext how17_10_0 e19_2
            replace hod18_1 := OS.ext hod18_1 e19_2
            replace hom18_1 := OS.ext hom18_1 e19_2
            replace hod19_1 := OS.ext hod19_1 e19_2
            replace hom19_1 := OS.ext hom19_1 e19_2
            replace hb0_0 := BoxAt.ext hb0_0 e19_2
            replace hb0_1 := BoxAt.ext hb0_1 e19_2
            replace hb0_2 := BoxAt.ext hb0_2 e19_2
            replace hb18_2 := BoxAt.ext hb18_2 e19_2
            have := Ext.size e19_2
            replace eB := Ext.trans eB e19_2
            have hfhb19_2 : Fresh h19_1.size [h19_1.size] := Fresh.one _
            have hlhb19_2 := one_lt (show h19_1.size < h19_2.size by omega)
            try simp -implicitDefEqProofs (disch := first | decide | assumption | omega) only [go_sem, BoxAt.cell hb0_0, BoxAt.cell hb0_1, BoxAt.cell hb0_2, BoxAt.cell hb18_2, BoxAt.cell hb19_2, wrap_id]
            refine op_storeB (cs' := #[.int .i64 (Y.p), vd19_1, vm19_1]) st30 hb19_2 rfl rfl rfl (by simp) (allOne_mem (l := [.int .i64 (Y.p), vd19_1, vm19_1]) ⟨rfl, (OS.one hod19_1).1, (OS.one hom19_1).1, trivial⟩) rfl ?_
            intro h19_3 hb19_2 c19_3
            replace how17_10_0 := OS.chg how17_10_0 c19_3 (apart_lt hlhow17_10_0 hfhb19_2 (by omega))
            replace hod18_1 := OS.chg hod18_1 c19_3 (apart_lt hlhod18_1 hfhb19_2 (by omega))
            replace hom18_1 := OS.chg hom18_1 c19_3 (apart_lt hlhom18_1 hfhb19_2 (by omega))
            replace hod19_1 := OS.chg hod19_1 c19_3 (apart_lt hlhod19_1 hfhb19_2 (by omega))
            replace hom19_1 := OS.chg hom19_1 c19_3 (apart_lt hlhom19_1 hfhb19_2 (by omega))
            replace hb0_0 := BoxAt.chgA hb0_0 c19_3 (apart_lt hlhb0_0 hfhb19_2 (by omega))
            replace hb0_1 := BoxAt.chgA hb0_1 c19_3 (apart_lt hlhb0_1 hfhb19_2 (by omega))
            replace hb0_2 := BoxAt.chgA hb0_2 c19_3 (apart_lt hlhb0_2 hfhb19_2 (by omega))
            replace hb18_2 := BoxAt.chgA hb18_2 c19_3 (apart_lt hlhb18_2 hfhb19_2 (by omega))
            have := c19_3.size
            replace eB := Ext.then eB c19_3 (ge_of hfhb19_2 (by omega))
            try simp -implicitDefEqProofs (disch := first | decide | assumption | omega) only [go_sem, BoxAt.cell hb0_0, BoxAt.cell hb0_1, BoxAt.cell hb0_2, BoxAt.cell hb18_2, BoxAt.cell hb19_2, wrap_id]
            refine hK _ _ ?_
            clear hK K
            refine den_seq ?_
            refine den_region TTok ?_
            intro K hK
            simp -implicitDefEqProofs (disch := first | decide | assumption | omega) only [go_sem, ld25, BoxAt.cell hb0_0, BoxAt.cell hb0_1, BoxAt.cell hb0_2, BoxAt.cell hb18_2, BoxAt.cell hb19_2, wrap_id]
            try simp -implicitDefEqProofs (disch := first | decide | assumption | omega) only [go_sem, BoxAt.cell hb0_0, BoxAt.cell hb0_1, BoxAt.cell hb0_2, BoxAt.cell hb18_2, BoxAt.cell hb19_2, wrap_id]
            refine CallA.mono (toC_ok _ Z _ ⟨_, _, rfl, (RdS.pres hdZ (Ext.pres eB)), (RdS.pres hmZ (Ext.pres eB))⟩ hMZ) ?_
            intro v_ h20_1
            rintro ⟨vd20_1, vm20_1, fd20_1, fm20_1, rfl, hod20_1, hom20_1, hf20_1, e20_1⟩
            replace how17_10_0 := OS.ext how17_10_0 e20_1
            replace hod18_1 := OS.ext hod18_1 e20_1
            replace hom18_1 := OS.ext hom18_1 e20_1
            replace hod19_1 := OS.ext hod19_1 e20_1
            replace hom19_1 := OS.ext hom19_1 e20_1
            replace hb0_0 := BoxAt.ext hb0_0 e20_1
            replace hb0_1 := BoxAt.ext hb0_1 e20_1
            replace hb0_2 := BoxAt.ext hb0_2 e20_1
            replace hb18_2 := BoxAt.ext hb18_2 e20_1
            replace hb19_2 := BoxAt.ext hb19_2 e20_1
            have := Ext.size e20_1
            replace eB := Ext.trans eB e20_1
            have hfd20_1 := hf20_1.left
            have hfm20_1 := hf20_1.right
            have hlhod20_1 := OS.lt hod20_1
            have hlhom20_1 := OS.lt hom20_1
            have ap6 : Apart fd20_1 fm20_1 := apart_nodup hf20_1
            try simp -implicitDefEqProofs (disch := first | decide | assumption | omega) only [go_sem, BoxAt.cell hb0_0, BoxAt.cell hb0_1, BoxAt.cell hb0_2, BoxAt.cell hb18_2, BoxAt.cell hb19_2, wrap_id]
            refine op_alloc (cs := #[.int .i64 0, .slice none 0 0, .slice none 0 0]) (by kernel_rfl) ?_
            intro h20_2 e20_2 hb20_2 z20_2
            replace how17_10_0 := OS.ext how17_10_0 e20_2
            replace hod18_1 := OS.ext hod18_1 e20_2
            replace hom18_1 := OS.ext hom18_1 e20_2
            replace hod19_1 := OS.ext hod19_1 e20_2
            replace hom19_1 := OS.ext hom19_1 e20_2
            replace hod20_1 := OS.ext hod20_1 e20_2
            replace hom20_1 := OS.ext hom20_1 e20_2
            replace hb0_0 := BoxAt.ext hb0_0 e20_2
            replace hb0_1 := BoxAt.ext hb0_1 e20_2
            replace hb0_2 := BoxAt.ext hb0_2 e20_2
            replace hb18_2 := BoxAt.ext hb18_2 e20_2
            replace hb19_2 := BoxAt.ext hb19_2 e20_2
            have := Ext.size e20_2
            replace eB := Ext.trans eB e20_2
            have hfhb20_2 : Fresh h20_1.size [h20_1.size] := Fresh.one _
            have hlhb20_2 := one_lt (show h20_1.size < h20_2.size by omega)
            try simp -implicitDefEqProofs (disch := first | decide | assumption | omega) only [go_sem, BoxAt.cell hb0_0, BoxAt.cell hb0_1, BoxAt.cell hb0_2, BoxAt.cell hb18_2, BoxAt.cell hb19_2, BoxAt.cell hb20_2, wrap_id]
            refine op_storeB (cs' := #[.int .i64 (Z.p), vd20_1, vm20_1]) st30 hb20_2 rfl rfl rfl (by simp) (allOne_mem (l := [.int .i64 (Z.p), vd20_1, vm20_1]) ⟨rfl, (OS.one hod20_1).1, (OS.one hom20_1).1, trivial⟩) rfl ?_
            intro h20_3 hb20_2 c20_3
            replace how17_10_0 := OS.chg how17_10_0 c20_3 (apart_lt hlhow17_10_0 hfhb20_2 (by omega))
            replace hod18_1 := OS.chg hod18_1 c20_3 (apart_lt hlhod18_1 hfhb20_2 (by omega))
            replace hom18_1 := OS.chg hom18_1 c20_3 (apart_lt hlhom18_1 hfhb20_2 (by omega))
            replace hod19_1 := OS.chg hod19_1 c20_3 (apart_lt hlhod19_1 hfhb20_2 (by omega))
            replace hom19_1 := OS.chg hom19_1 c20_3 (apart_lt hlhom19_1 hfhb20_2 (by omega))
            replace hod20_1 := OS.chg hod20_1 c20_3 (apart_lt hlhod20_1 hfhb20_2 (by omega))
            replace hom20_1 := OS.chg hom20_1 c20_3 (apart_lt hlhom20_1 hfhb20_2 (by omega))
            replace hb0_0 := BoxAt.chgA hb0_0 c20_3 (apart_lt hlhb0_0 hfhb20_2 (by omega))
            replace hb0_1 := BoxAt.chgA hb0_1 c20_3 (apart_lt hlhb0_1 hfhb20_2 (by omega))
            replace hb0_2 := BoxAt.chgA hb0_2 c20_3 (apart_lt hlhb0_2 hfhb20_2 (by omega))
            replace hb18_2 := BoxAt.chgA hb18_2 c20_3 (apart_lt hlhb18_2 hfhb20_2 (by omega))
            replace hb19_2 := BoxAt.chgA hb19_2 c20_3 (apart_lt hlhb19_2 hfhb20_2 (by omega))
            have := c20_3.size
            replace eB := Ext.then eB c20_3 (ge_of hfhb20_2 (by omega))
            try simp -implicitDefEqProofs (disch := first | decide | assumption | omega) only [go_sem, BoxAt.cell hb0_0, BoxAt.cell hb0_1, BoxAt.cell hb0_2, BoxAt.cell hb18_2, BoxAt.cell hb19_2, BoxAt.cell hb20_2, wrap_id]
            refine hK _ _ ?_
            clear hK K
            refine den_seq ?_
            refine den_region TTok ?_
            intro K hK
            simp -implicitDefEqProofs (disch := first | decide | assumption | omega) only [go_sem, BoxAt.cell hb0_0, BoxAt.cell hb0_1, BoxAt.cell hb0_2, BoxAt.cell hb18_2, BoxAt.cell hb19_2, BoxAt.cell hb20_2, wrap_id]
            try simp -implicitDefEqProofs (disch := first | decide | assumption | omega) only [go_sem, BoxAt.cell hb0_0, BoxAt.cell hb0_1, BoxAt.cell hb0_2, BoxAt.cell hb18_2, BoxAt.cell hb19_2, BoxAt.cell hb20_2, wrap_id]
            refine CallA.mono (toSSS_ok _ f _ (RdS.pres rf (Ext.pres eB)) hMf) ?_
            intro v21_1 h21_1
            rintro ⟨f21_1, ho21_1, hf21_1, e21_1⟩
            replace how17_10_0 := OS.ext how17_10_0 e21_1
            replace hod18_1 := OS.ext hod18_1 e21_1
            replace hom18_1 := OS.ext hom18_1 e21_1
            replace hod19_1 := OS.ext hod19_1 e21_1
            replace hom19_1 := OS.ext hom19_1 e21_1
            replace hod20_1 := OS.ext hod20_1 e21_1
            replace hom20_1 := OS.ext hom20_1 e21_1
            replace hb0_0 := BoxAt.ext hb0_0 e21_1
            replace hb0_1 := BoxAt.ext hb0_1 e21_1
            replace hb0_2 := BoxAt.ext hb0_2 e21_1
            replace hb18_2 := BoxAt.ext hb18_2 e21_1
            replace hb19_2 := BoxAt.ext hb19_2 e21_1
            replace hb20_2 := BoxAt.ext hb20_2 e21_1
            have := Ext.size e21_1
            replace eB := Ext.trans eB e21_1
            have hlho21_1 := OS.lt ho21_1
            try simp -implicitDefEqProofs (disch := first | decide | assumption | omega) only [go_sem, BoxAt.cell hb0_0, BoxAt.cell hb0_1, BoxAt.cell hb0_2, BoxAt.cell hb18_2, BoxAt.cell hb19_2, BoxAt.cell hb20_2, wrap_id]
            refine hK _ _ ?_
            clear hK K
            refine den_seq ?_
            refine den_region TTok ?_
            intro K hK
            simp -implicitDefEqProofs (disch := first | decide | assumption | omega) only [go_sem, BoxAt.cell hb0_0, BoxAt.cell hb0_1, BoxAt.cell hb0_2, BoxAt.cell hb18_2, BoxAt.cell hb19_2, BoxAt.cell hb20_2, wrap_id]
            try simp -implicitDefEqProofs (disch := first | decide | assumption | omega) only [go_sem, BoxAt.cell hb0_0, BoxAt.cell hb0_1, BoxAt.cell hb0_2, BoxAt.cell hb18_2, BoxAt.cell hb19_2, BoxAt.cell hb20_2, wrap_id]
            refine CallA.mono (toSSS_ok _ g _ (RdS.pres rg (Ext.pres eB)) hMg) ?_
            intro v22_1 h22_1
            rintro ⟨f22_1, ho22_1, hf22_1, e22_1⟩
            replace how17_10_0 := OS.ext how17_10_0 e22_1
            replace hod18_1 := OS.ext hod18_1 e22_1
            replace hom18_1 := OS.ext hom18_1 e22_1
            replace hod19_1 := OS.ext hod19_1 e22_1
            replace hom19_1 := OS.ext hom19_1 e22_1
            replace hod20_1 := OS.ext hod20_1 e22_1
            replace hom20_1 := OS.ext hom20_1 e22_1
            replace ho21_1 := OS.ext ho21_1 e22_1
            replace hb0_0 := BoxAt.ext hb0_0 e22_1
            replace hb0_1 := BoxAt.ext hb0_1 e22_1
            replace hb0_2 := BoxAt.ext hb0_2 e22_1
            replace hb18_2 := BoxAt.ext hb18_2 e22_1
            replace hb19_2 := BoxAt.ext hb19_2 e22_1
            replace hb20_2 := BoxAt.ext hb20_2 e22_1
            have := Ext.size e22_1
            replace eB := Ext.trans eB e22_1
            have hlho22_1 := OS.lt ho22_1
            try simp -implicitDefEqProofs (disch := first | decide | assumption | omega) only [go_sem, BoxAt.cell hb0_0, BoxAt.cell hb0_1, BoxAt.cell hb0_2, BoxAt.cell hb18_2, BoxAt.cell hb19_2, BoxAt.cell hb20_2, wrap_id]
            refine hK _ _ ?_
            clear hK K
            refine den_seq ?_
            refine den_region TTok ?_
            intro K hK
            simp -implicitDefEqProofs (disch := first | decide | assumption | omega) only [go_sem, ld30, BoxAt.cell hb0_0, BoxAt.cell hb0_1, BoxAt.cell hb0_2, BoxAt.cell hb18_2, BoxAt.cell hb19_2, BoxAt.cell hb20_2, wrap_id]
            try simp -implicitDefEqProofs (disch := first | decide | assumption | omega) only [go_sem, BoxAt.cell hb0_0, BoxAt.cell hb0_1, BoxAt.cell hb0_2, BoxAt.cell hb18_2, BoxAt.cell hb19_2, BoxAt.cell hb20_2, wrap_id]
            refine CallA.mono (iCf_ok _ _ _ _ _ X Y Z f g _ ⟨_, _, rfl, (OS.rd hod18_1), (OS.rd hom18_1)⟩ ⟨_, _, rfl, (OS.rd hod19_1), (OS.rd hom19_1)⟩ ⟨_, _, rfl, (OS.rd hod20_1), (OS.rd hom20_1)⟩ (OS.rd ho21_1) (OS.rd ho22_1) ) ?_
            intro v_ h23_5
            rintro ⟨vw23_5_0, fw23_5_0, rfl, how23_5_0, hfw23_5_0, e23_5⟩
            replace how17_10_0 := OS.ext how17_10_0 e23_5
            replace hod18_1 := OS.ext hod18_1 e23_5
            replace hom18_1 := OS.ext hom18_1 e23_5
            replace hod19_1 := OS.ext hod19_1 e23_5
            replace hom19_1 := OS.ext hom19_1 e23_5
            replace hod20_1 := OS.ext hod20_1 e23_5
            replace hom20_1 := OS.ext hom20_1 e23_5
            replace ho21_1 := OS.ext ho21_1 e23_5
            replace ho22_1 := OS.ext ho22_1 e23_5
            replace hb0_0 := BoxAt.ext hb0_0 e23_5
            replace hb0_1 := BoxAt.ext hb0_1 e23_5
            replace hb0_2 := BoxAt.ext hb0_2 e23_5
            replace hb18_2 := BoxAt.ext hb18_2 e23_5
            replace hb19_2 := BoxAt.ext hb19_2 e23_5
            replace hb20_2 := BoxAt.ext hb20_2 e23_5
            have := Ext.size e23_5
            replace eB := Ext.trans eB e23_5
            have hlhow23_5_0 := OS.lt how23_5_0
            try simp -implicitDefEqProofs (disch := first | decide | assumption | omega) only [go_sem, BoxAt.cell hb0_0, BoxAt.cell hb0_1, BoxAt.cell hb0_2, BoxAt.cell hb18_2, BoxAt.cell hb19_2, BoxAt.cell hb20_2, wrap_id]
            refine hK _ _ ?_
            clear hK K
            refine den_seq ?_
            refine den_seq ?_
            refine den_mergeH [(92, .bool (((!(true)) || (((cfP X Y Z f g).2) != ((cfP X Y Z f g).2)))))] [3, 4, 5, 6, 7, 12, 13, 14, 15, 16, 17, 18, 19, 20] ?_ ?_
              -- a way
            · refine den_region TTok ?_
              intro K hK
              simp -implicitDefEqProofs (disch := first | decide | assumption | (simp (disch := decide) only [slotOf_zero, slotOf_succ, Option.map_some, puts_same, puts_ne, gv_bool, gv_undef, tt, tf, ft, ff, eq_self, if_true, if_false, Bool.false_eq_true, Bool.not_true, Bool.not_false]; done) | omega) only [go_sem, BoxAt.cell hb0_0, BoxAt.cell hb0_1, BoxAt.cell hb0_2, BoxAt.cell hb18_2, BoxAt.cell hb19_2, BoxAt.cell hb20_2, wrap_id]
              try simp -implicitDefEqProofs (disch := first | decide | assumption | omega) only [go_sem, BoxAt.cell hb0_0, BoxAt.cell hb0_1, BoxAt.cell hb0_2, BoxAt.cell hb18_2, BoxAt.cell hb19_2, BoxAt.cell hb20_2, wrap_id]
              refine CallA.pure (eqSSS_same _ _ _ _ (OS.rd how23_5_0) (OS.rd how17_10_0)) ?_
              try simp -implicitDefEqProofs (disch := first | decide | assumption | (simp (disch := decide) only [slotOf_zero, slotOf_succ, Option.map_some, puts_same, puts_ne, gv_bool, gv_undef, tt, tf, ft, ff, eq_self, if_true, if_false, Bool.false_eq_true, Bool.not_true, Bool.not_false]; done) | omega) only [go_sem, BoxAt.cell hb0_0, BoxAt.cell hb0_1, BoxAt.cell hb0_2, BoxAt.cell hb18_2, BoxAt.cell hb19_2, BoxAt.cell hb20_2, wrap_id]
              try simp -implicitDefEqProofs (disch := first | decide | assumption | (simp (disch := decide) only [slotOf_zero, slotOf_succ, Option.map_some, puts_same, puts_ne, gv_bool, gv_undef, tt, tf, ft, ff, eq_self, if_true, if_false, Bool.false_eq_true, Bool.not_true, Bool.not_false]; done) | omega) only [go_sem, BoxAt.cell hb0_0, BoxAt.cell hb0_1, BoxAt.cell hb0_2, BoxAt.cell hb18_2, BoxAt.cell hb19_2, BoxAt.cell hb20_2, wrap_id]
              refine hK _ _ ?_
              clear hK K
              refine den_stop ?_
              refine ⟨?_, rfl⟩
              first | (simp (disch := decide) only [go_sem, eq_self, Bool.true_and, Bool.and_true, Bool.false_and, Bool.and_false, Bool.true_or, Bool.or_true, Bool.false_or, Bool.or_false, if_true, if_false, Bool.false_eq_true]; done) | simp [HasL, sel, puts_at]
            intro en7
            simp (disch := decide) only [go_sem]
            refine den_cond rfl (fun c5 => ?_) (fun c5 => ?_)
            · try simp only [decide_eq_true_eq, decide_eq_false_iff_not, beq_iff_eq, beq_eq_false_iff_ne, bne_iff_ne, ne_eq, Bool.not_eq_true', Bool.not_eq_false', Bool.and_eq_true, Bool.or_eq_true, bne_eq_false_iff_eq] at c5
              refine den_seq ?_
              refine den_region TTok ?_
              intro K hK
              simp -implicitDefEqProofs (disch := first | decide | assumption | omega) only [go_sem, wrap_id]
              refine hK _ _ ?_
              clear hK K
              refine den_ret ?_
              simp (disch := decide) only [resP_1, puts_same, puts_ne]
              exact absurd c5 (by first | (simp; done) | (simp; omega) | omega | (simp [eqC_self]; done))
            · try simp only [decide_eq_true_eq, decide_eq_false_iff_not, beq_iff_eq, beq_eq_false_iff_ne, bne_iff_ne, ne_eq, Bool.not_eq_true', Bool.not_eq_false', Bool.and_eq_true, Bool.or_eq_true, bne_eq_false_iff_eq] at c5
              refine den_skip ?_
              refine den_seq ?_
              refine den_seq ?_
              refine den_draw TTok mixed [] [(0, true), (1, true), (2, false), (3, false), (4, true)] (by kernel_rfl) ?_
              intro K hK
              simp -implicitDefEqProofs (disch := first | decide | assumption | omega) only [go_sem, ld30, ld25, BoxAt.cell hb0_0, BoxAt.cell hb0_1, BoxAt.cell hb0_2, BoxAt.cell hb18_2, BoxAt.cell hb19_2, BoxAt.cell hb20_2, wrap_id]
              try simp -implicitDefEqProofs (disch := first | decide | assumption | omega) only [go_sem, BoxAt.cell hb0_0, BoxAt.cell hb0_1, BoxAt.cell hb0_2, BoxAt.cell hb18_2, BoxAt.cell hb19_2, BoxAt.cell hb20_2, wrap_id]
              refine CallA.mono (toC_ok _ X _ ⟨_, _, rfl, (RdS.pres hdX (Ext.pres eB)), (RdS.pres hmX (Ext.pres eB))⟩ hMX) ?_
              intro v_ h26_2
              rintro ⟨vd26_2, vm26_2, fd26_2, fm26_2, rfl, hod26_2, hom26_2, hf26_2, e26_2⟩
              replace how17_10_0 := OS.ext how17_10_0 e26_2
              replace hod18_1 := OS.ext hod18_1 e26_2
              replace hom18_1 := OS.ext hom18_1 e26_2
              replace hod19_1 := OS.ext hod19_1 e26_2
              replace hom19_1 := OS.ext hom19_1 e26_2
              replace hod20_1 := OS.ext hod20_1 e26_2
              replace hom20_1 := OS.ext hom20_1 e26_2
              replace ho21_1 := OS.ext ho21_1 e26_2
              replace ho22_1 := OS.ext ho22_1 e26_2
              replace how23_5_0 := OS.ext how23_5_0 e26_2
              replace hb0_0 := BoxAt.ext hb0_0 e26_2
              replace hb0_1 := BoxAt.ext hb0_1 e26_2
              replace hb0_2 := BoxAt.ext hb0_2 e26_2
              replace hb18_2 := BoxAt.ext hb18_2 e26_2
              replace hb19_2 := BoxAt.ext hb19_2 e26_2
              replace hb20_2 := BoxAt.ext hb20_2 e26_2
              have := Ext.size e26_2
              replace eB := Ext.trans eB e26_2
              have hfd26_2 := hf26_2.left
              have hfm26_2 := hf26_2.right
              have hlhod26_2 := OS.lt hod26_2
              have hlhom26_2 := OS.lt hom26_2
              have ap10 : Apart fd26_2 fm26_2 := apart_nodup hf26_2
              try simp (disch := decide) only [outv_some, outv_none, put_puts]
              refine plK_pres (Ext.pres e26_2) ?_
              try simp -implicitDefEqProofs (disch := first | decide | assumption | omega) only [go_sem, BoxAt.cell hb0_0, BoxAt.cell hb0_1, BoxAt.cell hb0_2, BoxAt.cell hb18_2, BoxAt.cell hb19_2, BoxAt.cell hb20_2, wrap_id]
              try simp -implicitDefEqProofs (disch := first | decide | assumption | omega) only [go_sem, BoxAt.cell hb0_0, BoxAt.cell hb0_1, BoxAt.cell hb0_2, BoxAt.cell hb18_2, BoxAt.cell hb19_2, BoxAt.cell hb20_2, wrap_id]
              refine CallA.mono (eqC_same _ _ X _ ⟨_, _, rfl, (OS.rd hod18_1), (OS.rd hom18_1)⟩ ⟨_, _, rfl, (OS.rd hod26_2), (OS.rd hom26_2)⟩) ?_
              intro v_ h26_3
              rintro ⟨rfl, e26_3⟩
              replace how17_10_0 := OS.ext how17_10_0 e26_3
              replace hod18_1 := OS.ext hod18_1 e26_3
              replace hom18_1 := OS.ext hom18_1 e26_3
              replace hod19_1 := OS.ext hod19_1 e26_3
              replace hom19_1 := OS.ext hom19_1 e26_3
              replace hod20_1 := OS.ext hod20_1 e26_3
              replace hom20_1 := OS.ext hom20_1 e26_3
              replace ho21_1 := OS.ext ho21_1 e26_3
              replace ho22_1 := OS.ext ho22_1 e26_3
              replace how23_5_0 := OS.ext how23_5_0 e26_3
              replace hod26_2 := OS.ext hod26_2 e26_3
              replace hom26_2 := OS.ext hom26_2 e26_3
              replace hb0_0 := BoxAt.ext hb0_0 e26_3
              replace hb0_1 := BoxAt.ext hb0_1 e26_3
              replace hb0_2 := BoxAt.ext hb0_2 e26_3
              replace hb18_2 := BoxAt.ext hb18_2 e26_3
              replace hb19_2 := BoxAt.ext hb19_2 e26_3
              replace hb20_2 := BoxAt.ext hb20_2 e26_3
              have := Ext.size e26_3
              replace eB := Ext.trans eB e26_3
              try simp (disch := decide) only [outv_some, outv_none, put_puts]
              refine plK_pres (Ext.pres e26_3) ?_
              try simp -implicitDefEqProofs (disch := first | decide | assumption | omega) only [go_sem, BoxAt.cell hb0_0, BoxAt.cell hb0_1, BoxAt.cell hb0_2, BoxAt.cell hb18_2, BoxAt.cell hb19_2, BoxAt.cell hb20_2, wrap_id]
              refine hK _ _ ?_
              clear hK K
              refine den_cond rfl (fun c6 => ?_) (fun c6 => ?_)
              · try simp only [decide_eq_true_eq, decide_eq_false_iff_not, beq_iff_eq, beq_eq_false_iff_ne, bne_iff_ne, ne_eq, Bool.not_eq_true', Bool.not_eq_false', Bool.and_eq_true, Bool.or_eq_true, bne_eq_false_iff_eq] at c6
                refine den_seq ?_
                refine den_region TTok ?_
                intro K hK
                simp -implicitDefEqProofs (disch := first | decide | assumption | omega) only [go_sem, wrap_id]
                refine hK _ _ ?_
                clear hK K
                refine den_ret ?_
                simp (disch := decide) only [resP_1, puts_same, puts_ne]
                exact absurd c6 (by first | (simp; done) | (simp; omega) | omega | (simp [eqC_self]; done))
              · try simp only [decide_eq_true_eq, decide_eq_false_iff_not, beq_iff_eq, beq_eq_false_iff_ne, bne_iff_ne, ne_eq, Bool.not_eq_true', Bool.not_eq_false', Bool.and_eq_true, Bool.or_eq_true, bne_eq_false_iff_eq] at c6
                refine den_skip ?_
                refine den_seq ?_
                refine den_seq ?_
                refine den_draw TTok mixed [] [(0, true), (1, true), (2, false), (3, false), (4, true)] (by kernel_rfl) ?_
                intro K hK
                simp -implicitDefEqProofs (disch := first | decide | assumption | omega) only [go_sem, ld30, ld25, BoxAt.cell hb0_0, BoxAt.cell hb0_1, BoxAt.cell hb0_2, BoxAt.cell hb18_2, BoxAt.cell hb19_2, BoxAt.cell hb20_2, wrap_id]
                try simp -implicitDefEqProofs (disch := first | decide | assumption | omega) only [go_sem, BoxAt.cell hb0_0, BoxAt.cell hb0_1, BoxAt.cell hb0_2, BoxAt.cell hb18_2, BoxAt.cell hb19_2, BoxAt.cell hb20_2, wrap_id]
                refine CallA.mono (toC_ok _ Y _ ⟨_, _, rfl, (RdS.pres hdY (Ext.pres eB)), (RdS.pres hmY (Ext.pres eB))⟩ hMY) ?_
                intro v_ h28_2
                rintro ⟨vd28_2, vm28_2, fd28_2, fm28_2, rfl, hod28_2, hom28_2, hf28_2, e28_2⟩
                replace how17_10_0 := OS.ext how17_10_0 e28_2
                replace hod18_1 := OS.ext hod18_1 e28_2
                replace hom18_1 := OS.ext hom18_1 e28_2
                replace hod19_1 := OS.ext hod19_1 e28_2
                replace hom19_1 := OS.ext hom19_1 e28_2
                replace hod20_1 := OS.ext hod20_1 e28_2
                replace hom20_1 := OS.ext hom20_1 e28_2
                replace ho21_1 := OS.ext ho21_1 e28_2
                replace ho22_1 := OS.ext ho22_1 e28_2
                replace how23_5_0 := OS.ext how23_5_0 e28_2
                replace hb0_0 := BoxAt.ext hb0_0 e28_2
                replace hb0_1 := BoxAt.ext hb0_1 e28_2
                replace hb0_2 := BoxAt.ext hb0_2 e28_2
                replace hb18_2 := BoxAt.ext hb18_2 e28_2
                replace hb19_2 := BoxAt.ext hb19_2 e28_2
                replace hb20_2 := BoxAt.ext hb20_2 e28_2
                have := Ext.size e28_2
                replace eB := Ext.trans eB e28_2
                have hfd28_2 := hf28_2.left
                have hfm28_2 := hf28_2.right
                have hlhod28_2 := OS.lt hod28_2
                have hlhom28_2 := OS.lt hom28_2
                have ap11 : Apart fd28_2 fm28_2 := apart_nodup hf28_2
                try simp (disch := decide) only [outv_some, outv_none, put_puts]
                refine plK_pres (Ext.pres e28_2) ?_
                try simp -implicitDefEqProofs (disch := first | decide | assumption | omega) only [go_sem, BoxAt.cell hb0_0, BoxAt.cell hb0_1, BoxAt.cell hb0_2, BoxAt.cell hb18_2, BoxAt.cell hb19_2, BoxAt.cell hb20_2, wrap_id]
                try simp -implicitDefEqProofs (disch := first | decide | assumption | omega) only [go_sem, BoxAt.cell hb0_0, BoxAt.cell hb0_1, BoxAt.cell hb0_2, BoxAt.cell hb18_2, BoxAt.cell hb19_2, BoxAt.cell hb20_2, wrap_id]
                refine CallA.mono (eqC_same _ _ Y _ ⟨_, _, rfl, (OS.rd hod19_1), (OS.rd hom19_1)⟩ ⟨_, _, rfl, (OS.rd hod28_2), (OS.rd hom28_2)⟩) ?_
                intro v_ h28_3
                rintro ⟨rfl, e28_3⟩
                replace how17_10_0 := OS.ext how17_10_0 e28_3
                replace hod18_1 := OS.ext hod18_1 e28_3
                replace hom18_1 := OS.ext hom18_1 e28_3
                replace hod19_1 := OS.ext hod19_1 e28_3
                replace hom19_1 := OS.ext hom19_1 e28_3
                replace hod20_1 := OS.ext hod20_1 e28_3
                replace hom20_1 := OS.ext hom20_1 e28_3
                replace ho21_1 := OS.ext ho21_1 e28_3
                replace ho22_1 := OS.ext ho22_1 e28_3
                replace how23_5_0 := OS.ext how23_5_0 e28_3
                replace hod28_2 := OS.ext hod28_2 e28_3
                replace hom28_2 := OS.ext hom28_2 e28_3
                replace hb0_0 := BoxAt.ext hb0_0 e28_3
                replace hb0_1 := BoxAt.ext hb0_1 e28_3
                replace hb0_2 := BoxAt.ext hb0_2 e28_3
                replace hb18_2 := BoxAt.ext hb18_2 e28_3
                replace hb19_2 := BoxAt.ext hb19_2 e28_3
                replace hb20_2 := BoxAt.ext hb20_2 e28_3
                have := Ext.size e28_3
                replace eB := Ext.trans eB e28_3
                try simp (disch := decide) only [outv_some, outv_none, put_puts]
                refine plK_pres (Ext.pres e28_3) ?_
                try simp -implicitDefEqProofs (disch := first | decide | assumption | omega) only [go_sem, BoxAt.cell hb0_0, BoxAt.cell hb0_1, BoxAt.cell hb0_2, BoxAt.cell hb18_2, BoxAt.cell hb19_2, BoxAt.cell hb20_2, wrap_id]
                refine hK _ _ ?_
                clear hK K
                refine den_cond rfl (fun c7 => ?_) (fun c7 => ?_)
                · try simp only [decide_eq_true_eq, decide_eq_false_iff_not, beq_iff_eq, beq_eq_false_iff_ne, bne_iff_ne, ne_eq, Bool.not_eq_true', Bool.not_eq_false', Bool.and_eq_true, Bool.or_eq_true, bne_eq_false_iff_eq] at c7
                  refine den_seq ?_
                  refine den_region TTok ?_
                  intro K hK
                  simp -implicitDefEqProofs (disch := first | decide | assumption | omega) only [go_sem, wrap_id]
                  refine hK _ _ ?_
                  clear hK K
                  refine den_ret ?_
                  simp (disch := decide) only [resP_1, puts_same, puts_ne]
                  exact absurd c7 (by first | (simp; done) | (simp; omega) | omega | (simp [eqC_self]; done))
                · try simp only [decide_eq_true_eq, decide_eq_false_iff_not, beq_iff_eq, beq_eq_false_iff_ne, bne_iff_ne, ne_eq, Bool.not_eq_true', Bool.not_eq_false', Bool.and_eq_true, Bool.or_eq_true, bne_eq_false_iff_eq] at c7
                  refine den_skip ?_
                  refine den_seq ?_
                  refine den_seq ?_
                  refine den_draw TTok mixed [] [(0, true), (1, true), (2, false), (3, false), (4, true)] (by kernel_rfl) ?_
                  intro K hK
                  simp -implicitDefEqProofs (disch := first | decide | assumption | omega) only [go_sem, ld30, ld25, BoxAt.cell hb0_0, BoxAt.cell hb0_1, BoxAt.cell hb0_2, BoxAt.cell hb18_2, BoxAt.cell hb19_2, BoxAt.cell hb20_2, wrap_id]
                  try simp -implicitDefEqProofs (disch := first | decide | assumption | omega) only [go_sem, BoxAt.cell hb0_0, BoxAt.cell hb0_1, BoxAt.cell hb0_2, BoxAt.cell hb18_2, BoxAt.cell hb19_2, BoxAt.cell hb20_2, wrap_id]
                  refine CallA.mono (toC_ok _ Z _ ⟨_, _, rfl, (RdS.pres hdZ (Ext.pres eB)), (RdS.pres hmZ (Ext.pres eB))⟩ hMZ) ?_
                  intro v_ h30_2
                  rintro ⟨vd30_2, vm30_2, fd30_2, fm30_2, rfl, hod30_2, hom30_2, hf30_2, e30_2⟩
                  replace how17_10_0 := OS.ext how17_10_0 e30_2
                  replace hod18_1 := OS.ext hod18_1 e30_2
                  replace hom18_1 := OS.ext hom18_1 e30_2
                  replace hod19_1 := OS.ext hod19_1 e30_2
                  replace hom19_1 := OS.ext hom19_1 e30_2
                  replace hod20_1 := OS.ext hod20_1 e30_2
                  replace hom20_1 := OS.ext hom20_1 e30_2
                  replace ho21_1 := OS.ext ho21_1 e30_2
                  replace ho22_1 := OS.ext ho22_1 e30_2
                  replace how23_5_0 := OS.ext how23_5_0 e30_2
                  replace hb0_0 := BoxAt.ext hb0_0 e30_2
                  replace hb0_1 := BoxAt.ext hb0_1 e30_2
                  replace hb0_2 := BoxAt.ext hb0_2 e30_2
                  replace hb18_2 := BoxAt.ext hb18_2 e30_2
                  replace hb19_2 := BoxAt.ext hb19_2 e30_2
                  replace hb20_2 := BoxAt.ext hb20_2 e30_2
                  have := Ext.size e30_2
                  replace eB := Ext.trans eB e30_2
                  have hfd30_2 := hf30_2.left
                  have hfm30_2 := hf30_2.right
                  have hlhod30_2 := OS.lt hod30_2
                  have hlhom30_2 := OS.lt hom30_2
                  have ap12 : Apart fd30_2 fm30_2 := apart_nodup hf30_2
                  try simp (disch := decide) only [outv_some, outv_none, put_puts]
                  refine plK_pres (Ext.pres e30_2) ?_
                  try simp -implicitDefEqProofs (disch := first | decide | assumption | omega) only [go_sem, BoxAt.cell hb0_0, BoxAt.cell hb0_1, BoxAt.cell hb0_2, BoxAt.cell hb18_2, BoxAt.cell hb19_2, BoxAt.cell hb20_2, wrap_id]
                  try simp -implicitDefEqProofs (disch := first | decide | assumption | omega) only [go_sem, BoxAt.cell hb0_0, BoxAt.cell hb0_1, BoxAt.cell hb0_2, BoxAt.cell hb18_2, BoxAt.cell hb19_2, BoxAt.cell hb20_2, wrap_id]
                  refine CallA.mono (eqC_same _ _ Z _ ⟨_, _, rfl, (OS.rd hod20_1), (OS.rd hom20_1)⟩ ⟨_, _, rfl, (OS.rd hod30_2), (OS.rd hom30_2)⟩) ?_
                  intro v_ h30_3
                  rintro ⟨rfl, e30_3⟩
                  replace how17_10_0 := OS.ext how17_10_0 e30_3
                  replace hod18_1 := OS.ext hod18_1 e30_3
                  replace hom18_1 := OS.ext hom18_1 e30_3
                  replace hod19_1 := OS.ext hod19_1 e30_3
                  replace hom19_1 := OS.ext hom19_1 e30_3
                  replace hod20_1 := OS.ext hod20_1 e30_3
                  replace hom20_1 := OS.ext hom20_1 e30_3
                  replace ho21_1 := OS.ext ho21_1 e30_3
                  replace ho22_1 := OS.ext ho22_1 e30_3
                  replace how23_5_0 := OS.ext how23_5_0 e30_3
                  replace hod30_2 := OS.ext hod30_2 e30_3
                  replace hom30_2 := OS.ext hom30_2 e30_3
                  replace hb0_0 := BoxAt.ext hb0_0 e30_3
                  replace hb0_1 := BoxAt.ext hb0_1 e30_3
                  replace hb0_2 := BoxAt.ext hb0_2 e30_3
                  replace hb18_2 := BoxAt.ext hb18_2 e30_3
                  replace hb19_2 := BoxAt.ext hb19_2 e30_3
                  replace hb20_2 := BoxAt.ext hb20_2 e30_3
                  have := Ext.size e30_3
                  replace eB := Ext.trans eB e30_3
                  try simp (disch := decide) only [outv_some, outv_none, put_puts]
                  refine plK_pres (Ext.pres e30_3) ?_
                  try simp -implicitDefEqProofs (disch := first | decide | assumption | omega) only [go_sem, BoxAt.cell hb0_0, BoxAt.cell hb0_1, BoxAt.cell hb0_2, BoxAt.cell hb18_2, BoxAt.cell hb19_2, BoxAt.cell hb20_2, wrap_id]
                  refine hK _ _ ?_
                  clear hK K
                  refine den_cond rfl (fun c8 => ?_) (fun c8 => ?_)
                  · try simp only [decide_eq_true_eq, decide_eq_false_iff_not, beq_iff_eq, beq_eq_false_iff_ne, bne_iff_ne, ne_eq, Bool.not_eq_true', Bool.not_eq_false', Bool.and_eq_true, Bool.or_eq_true, bne_eq_false_iff_eq] at c8
                    refine den_seq ?_
                    refine den_region TTok ?_
                    intro K hK
                    simp -implicitDefEqProofs (disch := first | decide | assumption | omega) only [go_sem, wrap_id]
                    refine hK _ _ ?_
                    clear hK K
                    refine den_ret ?_
                    simp (disch := decide) only [resP_1, puts_same, puts_ne]
                    exact absurd c8 (by first | (simp; done) | (simp; omega) | omega | (simp [eqC_self]; done))
                  · try simp only [decide_eq_true_eq, decide_eq_false_iff_not, beq_iff_eq, beq_eq_false_iff_ne, bne_iff_ne, ne_eq, Bool.not_eq_true', Bool.not_eq_false', Bool.and_eq_true, Bool.or_eq_true, bne_eq_false_iff_eq] at c8
                    refine den_skip ?_
                    refine den_seq ?_
                    refine den_seq ?_
                    refine den_region TTok ?_
                    intro K hK
                    simp -implicitDefEqProofs (disch := first | decide | assumption | omega) only [go_sem, BoxAt.cell hb0_0, BoxAt.cell hb0_1, BoxAt.cell hb0_2, BoxAt.cell hb18_2, BoxAt.cell hb19_2, BoxAt.cell hb20_2, wrap_id]
                    try simp -implicitDefEqProofs (disch := first | decide | assumption | omega) only [go_sem, BoxAt.cell hb0_0, BoxAt.cell hb0_1, BoxAt.cell hb0_2, BoxAt.cell hb18_2, BoxAt.cell hb19_2, BoxAt.cell hb20_2, wrap_id]
                    refine CallA.mono (toSSS_ok _ f _ (RdS.pres rf (Ext.pres eB)) hMf) ?_
                    intro v32_2 h32_2
                    rintro ⟨f32_2, ho32_2, hf32_2, e32_2⟩
                    replace how17_10_0 := OS.ext how17_10_0 e32_2
                    replace hod18_1 := OS.ext hod18_1 e32_2
                    replace hom18_1 := OS.ext hom18_1 e32_2
                    replace hod19_1 := OS.ext hod19_1 e32_2
                    replace hom19_1 := OS.ext hom19_1 e32_2
                    replace hod20_1 := OS.ext hod20_1 e32_2
                    replace hom20_1 := OS.ext hom20_1 e32_2
                    replace ho21_1 := OS.ext ho21_1 e32_2
                    replace ho22_1 := OS.ext ho22_1 e32_2
                    replace how23_5_0 := OS.ext how23_5_0 e32_2
                    replace hb0_0 := BoxAt.ext hb0_0 e32_2
                    replace hb0_1 := BoxAt.ext hb0_1 e32_2
                    replace hb0_2 := BoxAt.ext hb0_2 e32_2
                    replace hb18_2 := BoxAt.ext hb18_2 e32_2
                    replace hb19_2 := BoxAt.ext hb19_2 e32_2
                    replace hb20_2 := BoxAt.ext hb20_2 e32_2
                    have := Ext.size e32_2
                    replace eB := Ext.trans eB e32_2
                    have hlho32_2 := OS.lt ho32_2
                    try simp -implicitDefEqProofs (disch := first | decide | assumption | omega) only [go_sem, BoxAt.cell hb0_0, BoxAt.cell hb0_1, BoxAt.cell hb0_2, BoxAt.cell hb18_2, BoxAt.cell hb19_2, BoxAt.cell hb20_2, wrap_id]
                    try simp -implicitDefEqProofs (disch := first | decide | assumption | omega) only [go_sem, BoxAt.cell hb0_0, BoxAt.cell hb0_1, BoxAt.cell hb0_2, BoxAt.cell hb18_2, BoxAt.cell hb19_2, BoxAt.cell hb20_2, wrap_id]
                    refine CallA.pure (eqSSS_same _ _ _ _ (OS.rd ho21_1) (OS.rd ho32_2)) ?_
                    try simp -implicitDefEqProofs (disch := first | decide | assumption | omega) only [go_sem, BoxAt.cell hb0_0, BoxAt.cell hb0_1, BoxAt.cell hb0_2, BoxAt.cell hb18_2, BoxAt.cell hb19_2, BoxAt.cell hb20_2, wrap_id]
                    refine hK _ _ ?_
                    clear hK K
                    refine den_cond rfl (fun c9 => ?_) (fun c9 => ?_)
                    · try simp only [decide_eq_true_eq, decide_eq_false_iff_not, beq_iff_eq, beq_eq_false_iff_ne, bne_iff_ne, ne_eq, Bool.not_eq_true', Bool.not_eq_false', Bool.and_eq_true, Bool.or_eq_true, bne_eq_false_iff_eq] at c9
                      refine den_seq ?_
                      refine den_region TTok ?_
                      intro K hK
                      simp -implicitDefEqProofs (disch := first | decide | assumption | omega) only [go_sem, wrap_id]
                      refine hK _ _ ?_
                      clear hK K
                      refine den_ret ?_
                      simp (disch := decide) only [resP_1, puts_same, puts_ne]
                      exact absurd c9 (by first | (simp; done) | (simp; omega) | omega | (simp [eqC_self]; done))
                    · try simp only [decide_eq_true_eq, decide_eq_false_iff_not, beq_iff_eq, beq_eq_false_iff_ne, bne_iff_ne, ne_eq, Bool.not_eq_true', Bool.not_eq_false', Bool.and_eq_true, Bool.or_eq_true, bne_eq_false_iff_eq] at c9
                      refine den_skip ?_
                      refine den_seq ?_
                      refine den_seq ?_
                      refine den_region TTok ?_
                      intro K hK
                      simp -implicitDefEqProofs (disch := first | decide | assumption | omega) only [go_sem, BoxAt.cell hb0_0, BoxAt.cell hb0_1, BoxAt.cell hb0_2, BoxAt.cell hb18_2, BoxAt.cell hb19_2, BoxAt.cell hb20_2, wrap_id]
                      try simp -implicitDefEqProofs (disch := first | decide | assumption | omega) only [go_sem, BoxAt.cell hb0_0, BoxAt.cell hb0_1, BoxAt.cell hb0_2, BoxAt.cell hb18_2, BoxAt.cell hb19_2, BoxAt.cell hb20_2, wrap_id]
                      refine CallA.mono (toSSS_ok _ g _ (RdS.pres rg (Ext.pres eB)) hMg) ?_
                      intro v34_2 h34_2
                      rintro ⟨f34_2, ho34_2, hf34_2, e34_2⟩
                      replace how17_10_0 := OS.ext how17_10_0 e34_2
                      replace hod18_1 := OS.ext hod18_1 e34_2
                      replace hom18_1 := OS.ext hom18_1 e34_2
                      replace hod19_1 := OS.ext hod19_1 e34_2
                      replace hom19_1 := OS.ext hom19_1 e34_2
                      replace hod20_1 := OS.ext hod20_1 e34_2
                      replace hom20_1 := OS.ext hom20_1 e34_2
                      replace ho21_1 := OS.ext ho21_1 e34_2
                      replace ho22_1 := OS.ext ho22_1 e34_2
                      replace how23_5_0 := OS.ext how23_5_0 e34_2
                      replace hb0_0 := BoxAt.ext hb0_0 e34_2
                      replace hb0_1 := BoxAt.ext hb0_1 e34_2
                      replace hb0_2 := BoxAt.ext hb0_2 e34_2
                      replace hb18_2 := BoxAt.ext hb18_2 e34_2
                      replace hb19_2 := BoxAt.ext hb19_2 e34_2
                      replace hb20_2 := BoxAt.ext hb20_2 e34_2
                      have := Ext.size e34_2
                      replace eB := Ext.trans eB e34_2
                      have hlho34_2 := OS.lt ho34_2
                      try simp -implicitDefEqProofs (disch := first | decide | assumption | omega) only [go_sem, BoxAt.cell hb0_0, BoxAt.cell hb0_1, BoxAt.cell hb0_2, BoxAt.cell hb18_2, BoxAt.cell hb19_2, BoxAt.cell hb20_2, wrap_id]
                      try simp -implicitDefEqProofs (disch := first | decide | assumption | omega) only [go_sem, BoxAt.cell hb0_0, BoxAt.cell hb0_1, BoxAt.cell hb0_2, BoxAt.cell hb18_2, BoxAt.cell hb19_2, BoxAt.cell hb20_2, wrap_id]
                      refine CallA.pure (eqSSS_same _ _ _ _ (OS.rd ho22_1) (OS.rd ho34_2)) ?_
                      try simp -implicitDefEqProofs (disch := first | decide | assumption | omega) only [go_sem, BoxAt.cell hb0_0, BoxAt.cell hb0_1, BoxAt.cell hb0_2, BoxAt.cell hb18_2, BoxAt.cell hb19_2, BoxAt.cell hb20_2, wrap_id]
                      refine hK _ _ ?_
                      clear hK K
                      refine den_cond rfl (fun c10 => ?_) (fun c10 => ?_)
                      · try simp only [decide_eq_true_eq, decide_eq_false_iff_not, beq_iff_eq, beq_eq_false_iff_ne, bne_iff_ne, ne_eq, Bool.not_eq_true', Bool.not_eq_false', Bool.and_eq_true, Bool.or_eq_true, bne_eq_false_iff_eq] at c10
                        refine den_seq ?_
                        refine den_region TTok ?_
                        intro K hK
                        simp -implicitDefEqProofs (disch := first | decide | assumption | omega) only [go_sem, wrap_id]
                        refine hK _ _ ?_
                        clear hK K
                        refine den_ret ?_
                        simp (disch := decide) only [resP_1, puts_same, puts_ne]
                        exact absurd c10 (by first | (simp; done) | (simp; omega) | omega | (simp [eqC_self]; done))
                      · try simp only [decide_eq_true_eq, decide_eq_false_iff_not, beq_iff_eq, beq_eq_false_iff_ne, bne_iff_ne, ne_eq, Bool.not_eq_true', Bool.not_eq_false', Bool.and_eq_true, Bool.or_eq_true, bne_eq_false_iff_eq] at c10
                        refine den_skip ?_
                        refine den_seq ?_
                        refine den_region TTok ?_
                        intro K hK
                        simp -implicitDefEqProofs (disch := first | decide | assumption | omega) only [go_sem, BoxAt.cell hb0_0, BoxAt.cell hb0_1, BoxAt.cell hb0_2, BoxAt.cell hb18_2, BoxAt.cell hb19_2, BoxAt.cell hb20_2, wrap_id]
                        refine hK _ _ ?_
                        clear hK K
                        refine den_seq ?_
                        refine den_region TTok ?_
                        intro K hK
                        simp -implicitDefEqProofs (disch := first | decide | assumption | omega) only [go_sem, ld30, BoxAt.cell hb0_0, BoxAt.cell hb0_1, BoxAt.cell hb0_2, BoxAt.cell hb18_2, BoxAt.cell hb19_2, BoxAt.cell hb20_2, wrap_id]
                        try simp -implicitDefEqProofs (disch := first | decide | assumption | omega) only [go_sem, BoxAt.cell hb0_0, BoxAt.cell hb0_1, BoxAt.cell hb0_2, BoxAt.cell hb18_2, BoxAt.cell hb19_2, BoxAt.cell hb20_2, wrap_id]
                        refine CallA.mono (markCx_ok _ _ X (1 : Int) _ _ _ hod18_1 hom18_1 (List.nodup_append.2 ⟨hfd18_1.nodup, hfm18_1.nodup, fun b hb c hc e => ap4 b hb (e ▸ hc)⟩) (by omega)) ?_
                        intro v_ h37_2
                        rintro ⟨rfl, hogd37_2, hogm37_2, cg37_2⟩
                        replace how17_10_0 := OS.chg how17_10_0 cg37_2 (Apart.app (apart_lt hlhow17_10_0 hfd18_1 (by omega)) (apart_lt hlhow17_10_0 hfm18_1 (by omega)))
                        replace hod19_1 := OS.chg hod19_1 cg37_2 (Apart.app (apart_gt hfd19_1 hlhod18_1 (by omega)) (apart_gt hfd19_1 hlhom18_1 (by omega)))
                        replace hom19_1 := OS.chg hom19_1 cg37_2 (Apart.app (apart_gt hfm19_1 hlhod18_1 (by omega)) (apart_gt hfm19_1 hlhom18_1 (by omega)))
                        replace hod20_1 := OS.chg hod20_1 cg37_2 (Apart.app (apart_gt hfd20_1 hlhod18_1 (by omega)) (apart_gt hfd20_1 hlhom18_1 (by omega)))
                        replace hom20_1 := OS.chg hom20_1 cg37_2 (Apart.app (apart_gt hfm20_1 hlhod18_1 (by omega)) (apart_gt hfm20_1 hlhom18_1 (by omega)))
                        replace ho21_1 := OS.chg ho21_1 cg37_2 (Apart.app (apart_gt hf21_1 hlhod18_1 (by omega)) (apart_gt hf21_1 hlhom18_1 (by omega)))
                        replace ho22_1 := OS.chg ho22_1 cg37_2 (Apart.app (apart_gt hf22_1 hlhod18_1 (by omega)) (apart_gt hf22_1 hlhom18_1 (by omega)))
                        replace how23_5_0 := OS.chg how23_5_0 cg37_2 (Apart.app (apart_gt hfw23_5_0 hlhod18_1 (by omega)) (apart_gt hfw23_5_0 hlhom18_1 (by omega)))
                        replace hb0_0 := BoxAt.chgA hb0_0 cg37_2 (Apart.app (apart_lt hlhb0_0 hfd18_1 (by omega)) (apart_lt hlhb0_0 hfm18_1 (by omega)))
                        replace hb0_1 := BoxAt.chgA hb0_1 cg37_2 (Apart.app (apart_lt hlhb0_1 hfd18_1 (by omega)) (apart_lt hlhb0_1 hfm18_1 (by omega)))
                        replace hb0_2 := BoxAt.chgA hb0_2 cg37_2 (Apart.app (apart_lt hlhb0_2 hfd18_1 (by omega)) (apart_lt hlhb0_2 hfm18_1 (by omega)))
                        replace hb18_2 := BoxAt.chgA hb18_2 cg37_2 (Apart.app (apart_gt hfhb18_2 hlhod18_1 (by omega)) (apart_gt hfhb18_2 hlhom18_1 (by omega)))
                        replace hb19_2 := BoxAt.chgA hb19_2 cg37_2 (Apart.app (apart_gt hfhb19_2 hlhod18_1 (by omega)) (apart_gt hfhb19_2 hlhom18_1 (by omega)))
                        replace hb20_2 := BoxAt.chgA hb20_2 cg37_2 (Apart.app (apart_gt hfhb20_2 hlhod18_1 (by omega)) (apart_gt hfhb20_2 hlhom18_1 (by omega)))
                        have := cg37_2.size
                        replace eB := Ext.then eB cg37_2 (ge_app (ge_of hfd18_1 (by omega)) (ge_of hfm18_1 (by omega)))
                        have ap13 : Apart fm18_1 fd18_1 := (Apart.symm ap4)
                        have hlhogd37_2 := OS.lt hogd37_2
                        have ap14 : Apart fd18_1 fm18_1 := (Apart.symm ap13)
                        have hlhogm37_2 := OS.lt hogm37_2
                        try simp -implicitDefEqProofs (disch := first | decide | assumption | omega) only [go_sem, BoxAt.cell hb0_0, BoxAt.cell hb0_1, BoxAt.cell hb0_2, BoxAt.cell hb18_2, BoxAt.cell hb19_2, BoxAt.cell hb20_2, wrap_id]
                        refine hK _ _ ?_
                        clear hK K
                        refine den_seq ?_
                        refine den_region TTok ?_
                        intro K hK
                        simp -implicitDefEqProofs (disch := first | decide | assumption | omega) only [go_sem, ld30, BoxAt.cell hb0_0, BoxAt.cell hb0_1, BoxAt.cell hb0_2, BoxAt.cell hb19_2, BoxAt.cell hb20_2, wrap_id]
                        try simp -implicitDefEqProofs (disch := first | decide | assumption | omega) only [go_sem, BoxAt.cell hb0_0, BoxAt.cell hb0_1, BoxAt.cell hb0_2, BoxAt.cell hb19_2, BoxAt.cell hb20_2, wrap_id]
                        refine CallA.mono (markCx_ok _ _ Y ((1 : Int) + cnt1 X.dims + cntL cnt2 X.maps) _ _ _ hod19_1 hom19_1 (List.nodup_append.2 ⟨hfd19_1.nodup, hfm19_1.nodup, fun b hb c hc e => ap5 b hb (e ▸ hc)⟩) (by omega)) ?_
                        intro v_ h38_2
                        rintro ⟨rfl, hogd38_2, hogm38_2, cg38_2⟩
                        replace how17_10_0 := OS.chg how17_10_0 cg38_2 (Apart.app (apart_lt hlhow17_10_0 hfd19_1 (by omega)) (apart_lt hlhow17_10_0 hfm19_1 (by omega)))
                        replace hod20_1 := OS.chg hod20_1 cg38_2 (Apart.app (apart_gt hfd20_1 hlhod19_1 (by omega)) (apart_gt hfd20_1 hlhom19_1 (by omega)))
                        replace hom20_1 := OS.chg hom20_1 cg38_2 (Apart.app (apart_gt hfm20_1 hlhod19_1 (by omega)) (apart_gt hfm20_1 hlhom19_1 (by omega)))
                        replace ho21_1 := OS.chg ho21_1 cg38_2 (Apart.app (apart_gt hf21_1 hlhod19_1 (by omega)) (apart_gt hf21_1 hlhom19_1 (by omega)))
                        replace ho22_1 := OS.chg ho22_1 cg38_2 (Apart.app (apart_gt hf22_1 hlhod19_1 (by omega)) (apart_gt hf22_1 hlhom19_1 (by omega)))
                        replace how23_5_0 := OS.chg how23_5_0 cg38_2 (Apart.app (apart_gt hfw23_5_0 hlhod19_1 (by omega)) (apart_gt hfw23_5_0 hlhom19_1 (by omega)))
                        replace hb0_0 := BoxAt.chgA hb0_0 cg38_2 (Apart.app (apart_lt hlhb0_0 hfd19_1 (by omega)) (apart_lt hlhb0_0 hfm19_1 (by omega)))
                        replace hb0_1 := BoxAt.chgA hb0_1 cg38_2 (Apart.app (apart_lt hlhb0_1 hfd19_1 (by omega)) (apart_lt hlhb0_1 hfm19_1 (by omega)))
                        replace hb0_2 := BoxAt.chgA hb0_2 cg38_2 (Apart.app (apart_lt hlhb0_2 hfd19_1 (by omega)) (apart_lt hlhb0_2 hfm19_1 (by omega)))
                        replace hb19_2 := BoxAt.chgA hb19_2 cg38_2 (Apart.app (apart_gt hfhb19_2 hlhod19_1 (by omega)) (apart_gt hfhb19_2 hlhom19_1 (by omega)))
                        replace hb20_2 := BoxAt.chgA hb20_2 cg38_2 (Apart.app (apart_gt hfhb20_2 hlhod19_1 (by omega)) (apart_gt hfhb20_2 hlhom19_1 (by omega)))
                        have := cg38_2.size
                        replace eB := Ext.then eB cg38_2 (ge_app (ge_of hfd19_1 (by omega)) (ge_of hfm19_1 (by omega)))
                        have ap15 : Apart fm19_1 fd19_1 := (Apart.symm ap5)
                        have hlhogd38_2 := OS.lt hogd38_2
                        have ap16 : Apart fd19_1 fm19_1 := (Apart.symm ap15)
                        have hlhogm38_2 := OS.lt hogm38_2
                        try simp -implicitDefEqProofs (disch := first | decide | assumption | omega) only [go_sem, BoxAt.cell hb0_0, BoxAt.cell hb0_1, BoxAt.cell hb0_2, BoxAt.cell hb19_2, BoxAt.cell hb20_2, wrap_id]
                        refine hK _ _ ?_
                        clear hK K
                        refine den_seq ?_
                        refine den_region TTok ?_
                        intro K hK
                        simp -implicitDefEqProofs (disch := first | decide | assumption | omega) only [go_sem, ld30, BoxAt.cell hb0_0, BoxAt.cell hb0_1, BoxAt.cell hb0_2, BoxAt.cell hb20_2, wrap_id]
                        try simp -implicitDefEqProofs (disch := first | decide | assumption | omega) only [go_sem, BoxAt.cell hb0_0, BoxAt.cell hb0_1, BoxAt.cell hb0_2, BoxAt.cell hb20_2, wrap_id]
                        refine CallA.mono (markCx_ok _ _ Z (((1 : Int) + cnt1 X.dims + cntL cnt2 X.maps) + cnt1 Y.dims + cntL cnt2 Y.maps) _ _ _ hod20_1 hom20_1 (List.nodup_append.2 ⟨hfd20_1.nodup, hfm20_1.nodup, fun b hb c hc e => ap6 b hb (e ▸ hc)⟩) (by omega)) ?_
                        intro v_ h39_2
                        rintro ⟨rfl, hogd39_2, hogm39_2, cg39_2⟩
                        replace how17_10_0 := OS.chg how17_10_0 cg39_2 (Apart.app (apart_lt hlhow17_10_0 hfd20_1 (by omega)) (apart_lt hlhow17_10_0 hfm20_1 (by omega)))
                        replace ho21_1 := OS.chg ho21_1 cg39_2 (Apart.app (apart_gt hf21_1 hlhod20_1 (by omega)) (apart_gt hf21_1 hlhom20_1 (by omega)))
                        replace ho22_1 := OS.chg ho22_1 cg39_2 (Apart.app (apart_gt hf22_1 hlhod20_1 (by omega)) (apart_gt hf22_1 hlhom20_1 (by omega)))
                        replace how23_5_0 := OS.chg how23_5_0 cg39_2 (Apart.app (apart_gt hfw23_5_0 hlhod20_1 (by omega)) (apart_gt hfw23_5_0 hlhom20_1 (by omega)))
                        replace hb0_0 := BoxAt.chgA hb0_0 cg39_2 (Apart.app (apart_lt hlhb0_0 hfd20_1 (by omega)) (apart_lt hlhb0_0 hfm20_1 (by omega)))
                        replace hb0_1 := BoxAt.chgA hb0_1 cg39_2 (Apart.app (apart_lt hlhb0_1 hfd20_1 (by omega)) (apart_lt hlhb0_1 hfm20_1 (by omega)))
                        replace hb0_2 := BoxAt.chgA hb0_2 cg39_2 (Apart.app (apart_lt hlhb0_2 hfd20_1 (by omega)) (apart_lt hlhb0_2 hfm20_1 (by omega)))
                        replace hb20_2 := BoxAt.chgA hb20_2 cg39_2 (Apart.app (apart_gt hfhb20_2 hlhod20_1 (by omega)) (apart_gt hfhb20_2 hlhom20_1 (by omega)))
                        have := cg39_2.size
                        replace eB := Ext.then eB cg39_2 (ge_app (ge_of hfd20_1 (by omega)) (ge_of hfm20_1 (by omega)))
                        have ap17 : Apart fm20_1 fd20_1 := (Apart.symm ap6)
                        have hlhogd39_2 := OS.lt hogd39_2
                        have ap18 : Apart fd20_1 fm20_1 := (Apart.symm ap17)
                        have hlhogm39_2 := OS.lt hogm39_2
                        try simp -implicitDefEqProofs (disch := first | decide | assumption | omega) only [go_sem, BoxAt.cell hb0_0, BoxAt.cell hb0_1, BoxAt.cell hb0_2, BoxAt.cell hb20_2, wrap_id]
                        refine hK _ _ ?_
                        clear hK K
                        refine den_seq ?_
                        refine den_region TTok ?_
                        intro K hK
                        simp -implicitDefEqProofs (disch := first | decide | assumption | omega) only [go_sem, BoxAt.cell hb0_0, BoxAt.cell hb0_1, BoxAt.cell hb0_2, wrap_id]
                        try simp -implicitDefEqProofs (disch := first | decide | assumption | omega) only [go_sem, BoxAt.cell hb0_0, BoxAt.cell hb0_1, BoxAt.cell hb0_2, wrap_id]
                        refine CallA.mono (markSSS_ok _ f ((((1 : Int) + cnt1 X.dims + cntL cnt2 X.maps) + cnt1 Y.dims + cntL cnt2 Y.maps) + cnt1 Z.dims + cntL cnt2 Z.maps) _ _ ho21_1 hf21_1.nodup (by omega)) ?_
                        intro v_ h40_2
                        rintro ⟨rfl, hog40_2, cg40_2⟩
                        replace how17_10_0 := OS.chg how17_10_0 cg40_2 (apart_lt hlhow17_10_0 hf21_1 (by omega))
                        replace ho22_1 := OS.chg ho22_1 cg40_2 (apart_gt hf22_1 hlho21_1 (by omega))
                        replace how23_5_0 := OS.chg how23_5_0 cg40_2 (apart_gt hfw23_5_0 hlho21_1 (by omega))
                        replace hb0_0 := BoxAt.chgA hb0_0 cg40_2 (apart_lt hlhb0_0 hf21_1 (by omega))
                        replace hb0_1 := BoxAt.chgA hb0_1 cg40_2 (apart_lt hlhb0_1 hf21_1 (by omega))
                        replace hb0_2 := BoxAt.chgA hb0_2 cg40_2 (apart_lt hlhb0_2 hf21_1 (by omega))
                        have := cg40_2.size
                        replace eB := Ext.then eB cg40_2 (ge_of hf21_1 (by omega))
                        have hlhog40_2 := OS.lt hog40_2
                        try simp -implicitDefEqProofs (disch := first | decide | assumption | omega) only [go_sem, BoxAt.cell hb0_0, BoxAt.cell hb0_1, BoxAt.cell hb0_2, wrap_id]
                        refine hK _ _ ?_
                        clear hK K
                        refine den_seq ?_
                        refine den_region TTok ?_
                        intro K hK
                        simp -implicitDefEqProofs (disch := first | decide | assumption | omega) only [go_sem, BoxAt.cell hb0_0, BoxAt.cell hb0_1, BoxAt.cell hb0_2, wrap_id]
                        try simp -implicitDefEqProofs (disch := first | decide | assumption | omega) only [go_sem, BoxAt.cell hb0_0, BoxAt.cell hb0_1, BoxAt.cell hb0_2, wrap_id]
                        refine CallA.mono (markSSS_ok _ g (((((1 : Int) + cnt1 X.dims + cntL cnt2 X.maps) + cnt1 Y.dims + cntL cnt2 Y.maps) + cnt1 Z.dims + cntL cnt2 Z.maps) + cntL cnt2 f) _ _ ho22_1 hf22_1.nodup (by omega)) ?_
                        intro v_ h41_2
                        rintro ⟨rfl, hog41_2, cg41_2⟩
                        replace how17_10_0 := OS.chg how17_10_0 cg41_2 (apart_lt hlhow17_10_0 hf22_1 (by omega))
                        replace how23_5_0 := OS.chg how23_5_0 cg41_2 (apart_gt hfw23_5_0 hlho22_1 (by omega))
                        replace hb0_0 := BoxAt.chgA hb0_0 cg41_2 (apart_lt hlhb0_0 hf22_1 (by omega))
                        replace hb0_1 := BoxAt.chgA hb0_1 cg41_2 (apart_lt hlhb0_1 hf22_1 (by omega))
                        replace hb0_2 := BoxAt.chgA hb0_2 cg41_2 (apart_lt hlhb0_2 hf22_1 (by omega))
                        have := cg41_2.size
                        replace eB := Ext.then eB cg41_2 (ge_of hf22_1 (by omega))
                        have hlhog41_2 := OS.lt hog41_2
                        try simp -implicitDefEqProofs (disch := first | decide | assumption | omega) only [go_sem, BoxAt.cell hb0_0, BoxAt.cell hb0_1, BoxAt.cell hb0_2, wrap_id]
                        refine hK _ _ ?_
                        clear hK K
                        refine den_seq ?_
                        refine den_seq ?_
                        refine den_mergeH [(145, .bool ((((decide (((((((1 : Int) + cnt1 X.dims + cntL cnt2 X.maps) + cnt1 Y.dims + cntL cnt2 Y.maps) + cnt1 Z.dims + cntL cnt2 Z.maps) + cntL cnt2 f) + cntL cnt2 g) < (0 : Int))) || (!(true))) || (((cfP X Y Z f g).2) != ((cfP X Y Z f g).2)))))] [3, 4, 5, 6, 7, 12, 13, 19] ?_ ?_
                          -- a way
                        · refine den_region TTok ?_
                          intro K hK
                          simp -implicitDefEqProofs (disch := first | decide | assumption | (simp (disch := decide) only [slotOf_zero, slotOf_succ, Option.map_some, puts_same, puts_ne, gv_bool, gv_undef, tt, tf, ft, ff, eq_self, if_true, if_false, Bool.false_eq_true, Bool.not_true, Bool.not_false]; done) | omega) only [go_sem, BoxAt.cell hb0_0, BoxAt.cell hb0_1, BoxAt.cell hb0_2, wrap_id]
                          refine opsP_F (by simp (disch := decide) only [slotOf_zero, slotOf_succ, Option.map_some, puts_same, puts_ne, gv_bool, gv_undef, tt, tf, ft, ff, eq_self, if_true, if_false, Bool.false_eq_true, Bool.not_true, Bool.not_false]; rfl) (fun g19 => ?_) (fun g19 => ?_)
                          · try simp -implicitDefEqProofs (disch := first | decide | assumption | (simp (disch := decide) only [slotOf_zero, slotOf_succ, Option.map_some, puts_same, puts_ne, gv_bool, gv_undef, tt, tf, ft, ff, eq_self, if_true, if_false, Bool.false_eq_true, Bool.not_true, Bool.not_false, g19]; done) | omega) only [go_sem, BoxAt.cell hb0_0, BoxAt.cell hb0_1, BoxAt.cell hb0_2, wrap_id, g19, eq_self, if_true, if_false, Bool.false_eq_true]
                            try simp -implicitDefEqProofs (disch := first | decide | assumption | omega) only [go_sem, BoxAt.cell hb0_0, BoxAt.cell hb0_1, BoxAt.cell hb0_2, wrap_id]
                            refine CallA.pure (eqSSS_same _ _ _ _ (OS.rd how23_5_0) (OS.rd how17_10_0)) ?_
                            try simp -implicitDefEqProofs (disch := first | decide | assumption | (simp (disch := decide) only [slotOf_zero, slotOf_succ, Option.map_some, puts_same, puts_ne, gv_bool, gv_undef, tt, tf, ft, ff, eq_self, if_true, if_false, Bool.false_eq_true, Bool.not_true, Bool.not_false, g19]; done) | omega) only [go_sem, BoxAt.cell hb0_0, BoxAt.cell hb0_1, BoxAt.cell hb0_2, wrap_id, g19, eq_self, if_true, if_false, Bool.false_eq_true]
                            try simp -implicitDefEqProofs (disch := first | decide | assumption | (simp (disch := decide) only [slotOf_zero, slotOf_succ, Option.map_some, puts_same, puts_ne, gv_bool, gv_undef, tt, tf, ft, ff, eq_self, if_true, if_false, Bool.false_eq_true, Bool.not_true, Bool.not_false, g19]; done) | omega) only [go_sem, BoxAt.cell hb0_0, BoxAt.cell hb0_1, BoxAt.cell hb0_2, wrap_id, g19, eq_self, if_true, if_false, Bool.false_eq_true]
                            refine hK _ _ ?_
                            clear hK K
                            refine den_stop ?_
                            refine ⟨?_, rfl⟩
                            first | (simp (disch := decide) only [go_sem, g19, eq_self, Bool.true_and, Bool.and_true, Bool.false_and, Bool.and_false, Bool.true_or, Bool.or_true, Bool.false_or, Bool.or_false, if_true, if_false, Bool.false_eq_true]; done) | simp [HasL, sel, puts_at, g19]
                          · try simp -implicitDefEqProofs (disch := first | decide | assumption | (simp (disch := decide) only [slotOf_zero, slotOf_succ, Option.map_some, puts_same, puts_ne, gv_bool, gv_undef, tt, tf, ft, ff, eq_self, if_true, if_false, Bool.false_eq_true, Bool.not_true, Bool.not_false, g19]; done) | omega) only [go_sem, BoxAt.cell hb0_0, BoxAt.cell hb0_1, BoxAt.cell hb0_2, wrap_id, g19, eq_self, if_true, if_false, Bool.false_eq_true]
                            try simp -implicitDefEqProofs (disch := first | decide | assumption | (simp (disch := decide) only [slotOf_zero, slotOf_succ, Option.map_some, puts_same, puts_ne, gv_bool, gv_undef, tt, tf, ft, ff, eq_self, if_true, if_false, Bool.false_eq_true, Bool.not_true, Bool.not_false, g19]; done) | omega) only [go_sem, BoxAt.cell hb0_0, BoxAt.cell hb0_1, BoxAt.cell hb0_2, wrap_id, g19, eq_self, if_true, if_false, Bool.false_eq_true]
                            refine hK _ _ ?_
                            clear hK K
                            refine den_stop ?_
                            refine ⟨?_, rfl⟩
                            first | (simp (disch := decide) only [go_sem, g19, eq_self, Bool.true_and, Bool.and_true, Bool.false_and, Bool.and_false, Bool.true_or, Bool.or_true, Bool.false_or, Bool.or_false, if_true, if_false, Bool.false_eq_true]; done) | simp [HasL, sel, puts_at, g19]
                        intro en20
                        simp (disch := decide) only [go_sem]
                        refine den_cond rfl (fun c11 => ?_) (fun c11 => ?_)
                        · try simp only [decide_eq_true_eq, decide_eq_false_iff_not, beq_iff_eq, beq_eq_false_iff_ne, bne_iff_ne, ne_eq, Bool.not_eq_true', Bool.not_eq_false', Bool.and_eq_true, Bool.or_eq_true, bne_eq_false_iff_eq] at c11
                          refine den_seq ?_
                          refine den_region TTok ?_
                          intro K hK
                          simp -implicitDefEqProofs (disch := first | decide | assumption | omega) only [go_sem, wrap_id]
                          refine hK _ _ ?_
                          clear hK K
                          refine den_ret ?_
                          simp (disch := decide) only [resP_1, puts_same, puts_ne]
                          exact absurd c11 (by first | (simp; done) | (simp; omega) | omega | (simp [eqC_self]; done))
                        · try simp only [decide_eq_true_eq, decide_eq_false_iff_not, beq_iff_eq, beq_eq_false_iff_ne, bne_iff_ne, ne_eq, Bool.not_eq_true', Bool.not_eq_false', Bool.and_eq_true, Bool.or_eq_true, bne_eq_false_iff_eq] at c11
                          refine den_skip ?_
                          refine den_seq ?_
                          refine den_region TTok ?_
                          intro K hK
                          simp -implicitDefEqProofs (disch := first | decide | assumption | omega) only [go_sem, BoxAt.cell hb0_0, BoxAt.cell hb0_1, BoxAt.cell hb0_2, wrap_id]
                          refine hK _ _ ?_
                          clear hK K
                          refine den_seq ?_
                          refine den_region TTok ?_
                          intro K hK
                          simp -implicitDefEqProofs (disch := first | decide | assumption | omega) only [go_sem, BoxAt.cell hb0_0, BoxAt.cell hb0_1, BoxAt.cell hb0_2, wrap_id]
                          try simp -implicitDefEqProofs (disch := first | decide | assumption | omega) only [go_sem, BoxAt.cell hb0_0, BoxAt.cell hb0_1, BoxAt.cell hb0_2, wrap_id]
                          refine CallA.mono (markSSS_ok _ ((cfP X Y Z f g).1) (1 : Int) _ _ how23_5_0 hfw23_5_0.nodup (by omega)) ?_
                          intro v_ h45_2
                          rintro ⟨rfl, hog45_2, cg45_2⟩
                          replace how17_10_0 := OS.chg how17_10_0 cg45_2 (apart_lt hlhow17_10_0 hfw23_5_0 (by omega))
                          replace hb0_0 := BoxAt.chgA hb0_0 cg45_2 (apart_lt hlhb0_0 hfw23_5_0 (by omega))
                          replace hb0_1 := BoxAt.chgA hb0_1 cg45_2 (apart_lt hlhb0_1 hfw23_5_0 (by omega))
                          replace hb0_2 := BoxAt.chgA hb0_2 cg45_2 (apart_lt hlhb0_2 hfw23_5_0 (by omega))
                          have := cg45_2.size
                          replace eB := Ext.then eB cg45_2 (ge_of hfw23_5_0 (by omega))
                          have hlhog45_2 := OS.lt hog45_2
                          try simp -implicitDefEqProofs (disch := first | decide | assumption | omega) only [go_sem, BoxAt.cell hb0_0, BoxAt.cell hb0_1, BoxAt.cell hb0_2, wrap_id]
                          refine hK _ _ ?_
                          clear hK K
                          refine den_seq ?_
                          refine den_region TTok ?_
                          intro K hK
                          simp -implicitDefEqProofs (disch := first | decide | assumption | omega) only [go_sem, BoxAt.cell hb0_0, BoxAt.cell hb0_1, BoxAt.cell hb0_2, wrap_id]
                          refine hK _ _ ?_
                          clear hK K
                          refine den_seq ?_
                          refine den_region TTok ?_
                          intro K hK
                          simp -implicitDefEqProofs (disch := first | decide | assumption | omega) only [go_sem, BoxAt.cell hb0_0, BoxAt.cell hb0_1, BoxAt.cell hb0_2, wrap_id]
                          try simp -implicitDefEqProofs (disch := first | decide | assumption | omega) only [go_sem, BoxAt.cell hb0_0, BoxAt.cell hb0_1, BoxAt.cell hb0_2, wrap_id]
                          refine CallA.pure (heldSSS_ok _ ((cfP X Y Z f g).1) (1 : Int) _ (OS.rd hog45_2) (by omega)) ?_
                          try simp -implicitDefEqProofs (disch := first | decide | assumption | omega) only [go_sem, BoxAt.cell hb0_0, BoxAt.cell hb0_1, BoxAt.cell hb0_2, wrap_id]
                          refine hK _ _ ?_
                          clear hK K
                          refine den_seq ?_
                          refine den_seq ?_
                          refine den_region TTok ?_
                          intro K hK
                          simp -implicitDefEqProofs (disch := first | decide | assumption | omega) only [go_sem, BoxAt.cell hb0_0, BoxAt.cell hb0_1, BoxAt.cell hb0_2, wrap_id]
                          refine hK _ _ ?_
                          clear hK K
                          refine den_cond rfl (fun c12 => ?_) (fun c12 => ?_)
                          · try simp only [decide_eq_true_eq, decide_eq_false_iff_not, beq_iff_eq, beq_eq_false_iff_ne, bne_iff_ne, ne_eq, Bool.not_eq_true', Bool.not_eq_false', Bool.and_eq_true, Bool.or_eq_true, bne_eq_false_iff_eq] at c12
                            refine den_seq ?_
                            refine den_region TTok ?_
                            intro K hK
                            simp -implicitDefEqProofs (disch := first | decide | assumption | omega) only [go_sem, wrap_id]
                            refine hK _ _ ?_
                            clear hK K
                            refine den_ret ?_
                            simp (disch := decide) only [resP_1, puts_same, puts_ne]
                            exact absurd c12 (by first | (simp; done) | (simp; omega) | omega | (simp [eqC_self]; done))
                          · try simp only [decide_eq_true_eq, decide_eq_false_iff_not, beq_iff_eq, beq_eq_false_iff_ne, bne_iff_ne, ne_eq, Bool.not_eq_true', Bool.not_eq_false', Bool.and_eq_true, Bool.or_eq_true, bne_eq_false_iff_eq] at c12
                            refine den_skip ?_
                            refine den_seq ?_
                            refine den_seq ?_
                            refine den_region TTok ?_
                            intro K hK
                            simp -implicitDefEqProofs (disch := first | decide | assumption | omega) only [go_sem, BoxAt.cell hb0_0, BoxAt.cell hb0_1, BoxAt.cell hb0_2, wrap_id]
                            refine hK _ _ ?_
                            clear hK K
                            refine den_cond rfl (fun c13 => ?_) (fun c13 => ?_)
                            · try simp only [decide_eq_true_eq, decide_eq_false_iff_not, beq_iff_eq, beq_eq_false_iff_ne, bne_iff_ne, ne_eq, Bool.not_eq_true', Bool.not_eq_false', Bool.and_eq_true, Bool.or_eq_true, bne_eq_false_iff_eq] at c13
                              refine den_seq ?_
                              refine den_region TTok ?_
                              intro K hK
                              simp -implicitDefEqProofs (disch := first | decide | assumption | omega) only [go_sem, wrap_id]
                              refine hK _ _ ?_
                              clear hK K
                              refine den_ret ?_
                              simp (disch := decide) only [resP_1, puts_same, puts_ne]
                              exact absurd c13 (by first | (simp; done) | (simp; omega) | omega | (simp [eqC_self]; done))
                            · try simp only [decide_eq_true_eq, decide_eq_false_iff_not, beq_iff_eq, beq_eq_false_iff_ne, bne_iff_ne, ne_eq, Bool.not_eq_true', Bool.not_eq_false', Bool.and_eq_true, Bool.or_eq_true, bne_eq_false_iff_eq] at c13
                              refine den_skip ?_
                              refine den_seq ?_
                              refine den_draw TTok mixed [] [(0, true), (2, true), (4, true), (6, true), (8, true), (1, false), (3, false), (5, false), (7, false), (9, false), (10, false), (11, true), (12, true), (13, true), (14, true), (15, true)] (by kernel_rfl) ?_
                              intro K hK
                              simp -implicitDefEqProofs (disch := first | decide | assumption | omega) only [go_sem, ld25, BoxAt.cell hb0_0, BoxAt.cell hb0_1, BoxAt.cell hb0_2, wrap_id]
                              try simp -implicitDefEqProofs (disch := first | decide | assumption | omega) only [go_sem, BoxAt.cell hb0_0, BoxAt.cell hb0_1, BoxAt.cell hb0_2, wrap_id]
                              refine CallA.mono (toC_ok _ X _ ⟨_, _, rfl, (RdS.pres hdX (Ext.pres eB)), (RdS.pres hmX (Ext.pres eB))⟩ hMX) ?_
                              intro v_ h52_1
                              rintro ⟨vd52_1, vm52_1, fd52_1, fm52_1, rfl, hod52_1, hom52_1, hf52_1, e52_1⟩
                              replace how17_10_0 := OS.ext how17_10_0 e52_1
                              replace hog45_2 := OS.ext hog45_2 e52_1
                              replace hb0_0 := BoxAt.ext hb0_0 e52_1
                              replace hb0_1 := BoxAt.ext hb0_1 e52_1
                              replace hb0_2 := BoxAt.ext hb0_2 e52_1
                              have := Ext.size e52_1
                              replace eB := Ext.trans eB e52_1
                              have hfd52_1 := hf52_1.left
                              have hfm52_1 := hf52_1.right
                              have hlhod52_1 := OS.lt hod52_1
                              have hlhom52_1 := OS.lt hom52_1
                              have ap23 : Apart fd52_1 fm52_1 := apart_nodup hf52_1
                              try simp (disch := decide) only [outv_some, outv_none, put_puts]
                              refine plK_pres (Ext.pres e52_1) ?_
                              try simp -implicitDefEqProofs (disch := first | decide | assumption | omega) only [go_sem, BoxAt.cell hb0_0, BoxAt.cell hb0_1, BoxAt.cell hb0_2, wrap_id]
                              try simp -implicitDefEqProofs (disch := first | decide | assumption | omega) only [go_sem, BoxAt.cell hb0_0, BoxAt.cell hb0_1, BoxAt.cell hb0_2, wrap_id]
                              refine CallA.mono (toC_ok _ Y _ ⟨_, _, rfl, (RdS.pres hdY (Ext.pres eB)), (RdS.pres hmY (Ext.pres eB))⟩ hMY) ?_
                              intro v_ h52_3
                              rintro ⟨vd52_3, vm52_3, fd52_3, fm52_3, rfl, hod52_3, hom52_3, hf52_3, e52_3⟩
                              replace how17_10_0 := OS.ext how17_10_0 e52_3
                              replace hog45_2 := OS.ext hog45_2 e52_3
                              replace hod52_1 := OS.ext hod52_1 e52_3
                              replace hom52_1 := OS.ext hom52_1 e52_3
                              replace hb0_0 := BoxAt.ext hb0_0 e52_3
                              replace hb0_1 := BoxAt.ext hb0_1 e52_3
                              replace hb0_2 := BoxAt.ext hb0_2 e52_3
                              have := Ext.size e52_3
                              replace eB := Ext.trans eB e52_3
                              have hfd52_3 := hf52_3.left
                              have hfm52_3 := hf52_3.right
                              have hlhod52_3 := OS.lt hod52_3
                              have hlhom52_3 := OS.lt hom52_3
                              have ap24 : Apart fd52_3 fm52_3 := apart_nodup hf52_3
                              try simp (disch := decide) only [outv_some, outv_none, put_puts]
                              refine plK_pres (Ext.pres e52_3) ?_
                              try simp -implicitDefEqProofs (disch := first | decide | assumption | omega) only [go_sem, BoxAt.cell hb0_0, BoxAt.cell hb0_1, BoxAt.cell hb0_2, wrap_id]
                              try simp -implicitDefEqProofs (disch := first | decide | assumption | omega) only [go_sem, BoxAt.cell hb0_0, BoxAt.cell hb0_1, BoxAt.cell hb0_2, wrap_id]
                              refine CallA.mono (toC_ok _ Z _ ⟨_, _, rfl, (RdS.pres hdZ (Ext.pres eB)), (RdS.pres hmZ (Ext.pres eB))⟩ hMZ) ?_
                              intro v_ h52_5
                              rintro ⟨vd52_5, vm52_5, fd52_5, fm52_5, rfl, hod52_5, hom52_5, hf52_5, e52_5⟩
                              replace how17_10_0 := OS.ext how17_10_0 e52_5
                              replace hog45_2 := OS.ext hog45_2 e52_5
                              replace hod52_1 := OS.ext hod52_1 e52_5
                              replace hom52_1 := OS.ext hom52_1 e52_5
                              replace hod52_3 := OS.ext hod52_3 e52_5
                              replace hom52_3 := OS.ext hom52_3 e52_5
                              replace hb0_0 := BoxAt.ext hb0_0 e52_5
                              replace hb0_1 := BoxAt.ext hb0_1 e52_5
                              replace hb0_2 := BoxAt.ext hb0_2 e52_5
                              have := Ext.size e52_5
                              replace eB := Ext.trans eB e52_5
                              have hfd52_5 := hf52_5.left
                              have hfm52_5 := hf52_5.right
                              have hlhod52_5 := OS.lt hod52_5
                              have hlhom52_5 := OS.lt hom52_5
                              have ap25 : Apart fd52_5 fm52_5 := apart_nodup hf52_5
                              try simp (disch := decide) only [outv_some, outv_none, put_puts]
                              refine plK_pres (Ext.pres e52_5) ?_
                              try simp -implicitDefEqProofs (disch := first | decide | assumption | omega) only [go_sem, BoxAt.cell hb0_0, BoxAt.cell hb0_1, BoxAt.cell hb0_2, wrap_id]
                              try simp -implicitDefEqProofs (disch := first | decide | assumption | omega) only [go_sem, BoxAt.cell hb0_0, BoxAt.cell hb0_1, BoxAt.cell hb0_2, wrap_id]
                              refine CallA.mono (toSSS_ok _ f _ (RdS.pres rf (Ext.pres eB)) hMf) ?_
                              intro v52_7 h52_7
                              rintro ⟨f52_7, ho52_7, hf52_7, e52_7⟩
                              replace how17_10_0 := OS.ext how17_10_0 e52_7
                              replace hog45_2 := OS.ext hog45_2 e52_7
                              replace hod52_1 := OS.ext hod52_1 e52_7
                              replace hom52_1 := OS.ext hom52_1 e52_7
                              replace hod52_3 := OS.ext hod52_3 e52_7
                              replace hom52_3 := OS.ext hom52_3 e52_7
                              replace hod52_5 := OS.ext hod52_5 e52_7
                              replace hom52_5 := OS.ext hom52_5 e52_7
                              replace hb0_0 := BoxAt.ext hb0_0 e52_7
                              replace hb0_1 := BoxAt.ext hb0_1 e52_7
                              replace hb0_2 := BoxAt.ext hb0_2 e52_7
                              have := Ext.size e52_7
                              replace eB := Ext.trans eB e52_7
                              have hlho52_7 := OS.lt ho52_7
                              try simp (disch := decide) only [outv_some, outv_none, put_puts]
                              refine plK_pres (Ext.pres e52_7) ?_
                              try simp -implicitDefEqProofs (disch := first | decide | assumption | omega) only [go_sem, BoxAt.cell hb0_0, BoxAt.cell hb0_1, BoxAt.cell hb0_2, wrap_id]
                              try simp -implicitDefEqProofs (disch := first | decide | assumption | omega) only [go_sem, BoxAt.cell hb0_0, BoxAt.cell hb0_1, BoxAt.cell hb0_2, wrap_id]
                              refine CallA.mono (toSSS_ok _ g _ (RdS.pres rg (Ext.pres eB)) hMg) ?_
                              intro v52_9 h52_9
                              rintro ⟨f52_9, ho52_9, hf52_9, e52_9⟩
                              replace how17_10_0 := OS.ext how17_10_0 e52_9
                              replace hog45_2 := OS.ext hog45_2 e52_9
                              replace hod52_1 := OS.ext hod52_1 e52_9
                              replace hom52_1 := OS.ext hom52_1 e52_9
                              replace hod52_3 := OS.ext hod52_3 e52_9
                              replace hom52_3 := OS.ext hom52_3 e52_9
                              replace hod52_5 := OS.ext hod52_5 e52_9
                              replace hom52_5 := OS.ext hom52_5 e52_9
                              replace ho52_7 := OS.ext ho52_7 e52_9
                              replace hb0_0 := BoxAt.ext hb0_0 e52_9
                              replace hb0_1 := BoxAt.ext hb0_1 e52_9
                              replace hb0_2 := BoxAt.ext hb0_2 e52_9
                              have := Ext.size e52_9
                              replace eB := Ext.trans eB e52_9
                              have hlho52_9 := OS.lt ho52_9
                              try simp (disch := decide) only [outv_some, outv_none, put_puts]
                              refine plK_pres (Ext.pres e52_9) ?_
                              try simp -implicitDefEqProofs (disch := first | decide | assumption | omega) only [go_sem, BoxAt.cell hb0_0, BoxAt.cell hb0_1, BoxAt.cell hb0_2, wrap_id]
                              try simp -implicitDefEqProofs (disch := first | decide | assumption | omega) only [go_sem, BoxAt.cell hb0_0, BoxAt.cell hb0_1, BoxAt.cell hb0_2, wrap_id]
                              refine CallA.mono (iCf_ok _ _ _ _ _ X Y Z f g _ ⟨_, _, rfl, (OS.rd hod52_1), (OS.rd hom52_1)⟩ ⟨_, _, rfl, (OS.rd hod52_3), (OS.rd hom52_3)⟩ ⟨_, _, rfl, (OS.rd hod52_5), (OS.rd hom52_5)⟩ (OS.rd ho52_7) (OS.rd ho52_9) ) ?_
                              intro v_ h52_10
                              rintro ⟨vw52_10_0, fw52_10_0, rfl, how52_10_0, hfw52_10_0, e52_10⟩
                              replace how17_10_0 := OS.ext how17_10_0 e52_10
                              replace hog45_2 := OS.ext hog45_2 e52_10
                              replace hod52_1 := OS.ext hod52_1 e52_10
                              replace hom52_1 := OS.ext hom52_1 e52_10
                              replace hod52_3 := OS.ext hod52_3 e52_10
                              replace hom52_3 := OS.ext hom52_3 e52_10
                              replace hod52_5 := OS.ext hod52_5 e52_10
                              replace hom52_5 := OS.ext hom52_5 e52_10
                              replace ho52_7 := OS.ext ho52_7 e52_10
                              replace ho52_9 := OS.ext ho52_9 e52_10
                              replace hb0_0 := BoxAt.ext hb0_0 e52_10
                              replace hb0_1 := BoxAt.ext hb0_1 e52_10
                              replace hb0_2 := BoxAt.ext hb0_2 e52_10
                              have := Ext.size e52_10
                              replace eB := Ext.trans eB e52_10
                              have hlhow52_10_0 := OS.lt how52_10_0
                              try simp (disch := decide) only [outv_some, outv_none, put_puts]
                              refine plK_pres (Ext.pres e52_10) ?_
                              try simp -implicitDefEqProofs (disch := first | decide | assumption | omega) only [go_sem, BoxAt.cell hb0_0, BoxAt.cell hb0_1, BoxAt.cell hb0_2, wrap_id]
                              refine hK _ _ ?_
                              clear hK K
                              refine den_seq ?_
                              refine den_seq ?_
                              refine den_mergeH [(179, .bool (((!(true)) || (((cfP X Y Z f g).2) != ((cfP X Y Z f g).2)))))] [19, 22] ?_ ?_
                                -- a way
                              · refine den_region TTok ?_
                                intro K hK
                                simp -implicitDefEqProofs (disch := first | decide | assumption | (simp (disch := decide) only [slotOf_zero, slotOf_succ, Option.map_some, puts_same, puts_ne, gv_bool, gv_undef, tt, tf, ft, ff, eq_self, if_true, if_false, Bool.false_eq_true, Bool.not_true, Bool.not_false]; done) | omega) only [go_sem, wrap_id]
                                try simp -implicitDefEqProofs (disch := first | decide | assumption | omega) only [go_sem, wrap_id]
                                refine CallA.pure (eqSSS_same _ _ _ _ (OS.rd how52_10_0) (OS.rd how17_10_0)) ?_
                                try simp -implicitDefEqProofs (disch := first | decide | assumption | (simp (disch := decide) only [slotOf_zero, slotOf_succ, Option.map_some, puts_same, puts_ne, gv_bool, gv_undef, tt, tf, ft, ff, eq_self, if_true, if_false, Bool.false_eq_true, Bool.not_true, Bool.not_false]; done) | omega) only [go_sem, wrap_id]
                                try simp -implicitDefEqProofs (disch := first | decide | assumption | (simp (disch := decide) only [slotOf_zero, slotOf_succ, Option.map_some, puts_same, puts_ne, gv_bool, gv_undef, tt, tf, ft, ff, eq_self, if_true, if_false, Bool.false_eq_true, Bool.not_true, Bool.not_false]; done) | omega) only [go_sem, wrap_id]
                                refine hK _ _ ?_
                                clear hK K
                                refine den_stop ?_
                                refine ⟨?_, rfl⟩
                                first | (simp (disch := decide) only [go_sem, eq_self, Bool.true_and, Bool.and_true, Bool.false_and, Bool.and_false, Bool.true_or, Bool.or_true, Bool.false_or, Bool.or_false, if_true, if_false, Bool.false_eq_true]; done) | simp [HasL, sel, puts_at]
                              intro en26
                              simp (disch := decide) only [go_sem]
                              refine den_cond rfl (fun c14 => ?_) (fun c14 => ?_)
                              · try simp only [decide_eq_true_eq, decide_eq_false_iff_not, beq_iff_eq, beq_eq_false_iff_ne, bne_iff_ne, ne_eq, Bool.not_eq_true', Bool.not_eq_false', Bool.and_eq_true, Bool.or_eq_true, bne_eq_false_iff_eq] at c14
                                refine den_seq ?_
                                refine den_region TTok ?_
                                intro K hK
                                simp -implicitDefEqProofs (disch := first | decide | assumption | omega) only [go_sem, wrap_id]
                                refine hK _ _ ?_
                                clear hK K
                                refine den_ret ?_
                                simp (disch := decide) only [resP_1, puts_same, puts_ne]
                                exact absurd c14 (by first | (simp; done) | (simp; omega) | omega | (simp [eqC_self]; done))
                              · try simp only [decide_eq_true_eq, decide_eq_false_iff_not, beq_iff_eq, beq_eq_false_iff_ne, bne_iff_ne, ne_eq, Bool.not_eq_true', Bool.not_eq_false', Bool.and_eq_true, Bool.or_eq_true, bne_eq_false_iff_eq] at c14
                                refine den_skip ?_
                                refine den_seq ?_
                                refine den_region TTok ?_
                                intro K hK
                                simp -implicitDefEqProofs (disch := first | decide | assumption | omega) only [go_sem, wrap_id]
                                refine hK _ _ ?_
                                clear hK K
                                refine den_seq ?_
                                refine den_region TTok ?_
                                intro K hK
                                simp -implicitDefEqProofs (disch := first | decide | assumption | omega) only [go_sem, wrap_id]
                                try simp -implicitDefEqProofs (disch := first | decide | assumption | omega) only [go_sem, wrap_id]
                                refine CallA.pure (heldSSS_ok _ ((cfP X Y Z f g).1) (1 : Int) _ (OS.rd hog45_2) (by omega)) ?_
                                try simp -implicitDefEqProofs (disch := first | decide | assumption | omega) only [go_sem, wrap_id]
                                refine hK _ _ ?_
                                clear hK K
                                refine den_seq ?_
                                refine den_seq ?_
                                refine den_region TTok ?_
                                intro K hK
                                simp -implicitDefEqProofs (disch := first | decide | assumption | omega) only [go_sem, wrap_id]
                                refine hK _ _ ?_
                                clear hK K
                                refine den_cond rfl (fun c15 => ?_) (fun c15 => ?_)
                                · try simp only [decide_eq_true_eq, decide_eq_false_iff_not, beq_iff_eq, beq_eq_false_iff_ne, bne_iff_ne, ne_eq, Bool.not_eq_true', Bool.not_eq_false', Bool.and_eq_true, Bool.or_eq_true, bne_eq_false_iff_eq] at c15
                                  refine den_seq ?_
                                  refine den_region TTok ?_
                                  intro K hK
                                  simp -implicitDefEqProofs (disch := first | decide | assumption | omega) only [go_sem, wrap_id]
                                  refine hK _ _ ?_
                                  clear hK K
                                  refine den_ret ?_
                                  simp (disch := decide) only [resP_1, puts_same, puts_ne]
                                  exact absurd c15 (by first | (simp; done) | (simp; omega) | omega | (simp [eqC_self]; done))
                                · try simp only [decide_eq_true_eq, decide_eq_false_iff_not, beq_iff_eq, beq_eq_false_iff_ne, bne_iff_ne, ne_eq, Bool.not_eq_true', Bool.not_eq_false', Bool.and_eq_true, Bool.or_eq_true, bne_eq_false_iff_eq] at c15
                                  refine den_skip ?_
                                  refine den_seq ?_
                                  refine den_seq ?_
                                  refine den_region TTok ?_
                                  intro K hK
                                  simp -implicitDefEqProofs (disch := first | decide | assumption | omega) only [go_sem, wrap_id]
                                  refine hK _ _ ?_
                                  clear hK K
                                  refine den_cond rfl (fun c16 => ?_) (fun c16 => ?_)
                                  · try simp only [decide_eq_true_eq, decide_eq_false_iff_not, beq_iff_eq, beq_eq_false_iff_ne, bne_iff_ne, ne_eq, Bool.not_eq_true', Bool.not_eq_false', Bool.and_eq_true, Bool.or_eq_true, bne_eq_false_iff_eq] at c16
                                    refine den_seq ?_
                                    refine den_region TTok ?_
                                    intro K hK
                                    simp -implicitDefEqProofs (disch := first | decide | assumption | omega) only [go_sem, wrap_id]
                                    refine hK _ _ ?_
                                    clear hK K
                                    refine den_ret ?_
                                    simp (disch := decide) only [resP_1, puts_same, puts_ne]
                                    exact absurd c16 (by first | (simp; done) | (simp; omega) | omega | (simp [eqC_self]; done))
                                  · try simp only [decide_eq_true_eq, decide_eq_false_iff_not, beq_iff_eq, beq_eq_false_iff_ne, bne_iff_ne, ne_eq, Bool.not_eq_true', Bool.not_eq_false', Bool.and_eq_true, Bool.or_eq_true, bne_eq_false_iff_eq] at c16
                                    refine den_skip ?_
                                    refine den_seq ?_
                                    refine den_region TTok ?_
                                    intro K hK
                                    simp -implicitDefEqProofs (disch := first | decide | assumption | omega) only [go_sem, wrap_id]
                                    refine hK _ _ ?_
                                    clear hK K
                                    refine den_ret ?_
                                    simp (disch := decide) only [resP_1, puts_same, puts_ne]
                                    exact ⟨by first | rfl | trivial, eB⟩

end Go.Proofs.Ytffggocjkhcgeaa
