/-
  Walks: kernels.
  Conditions: each theorem's own.
-/
import Derived.Test.YtbplnadngahgaaaD5
set_option linter.unusedVariables false
set_option linter.unusedSimpArgs false
namespace Go.Proofs.Ytbplnadngahgaaa
open Go
/-- The first elements of a slice that is read. -/
theorem RdS.takeV {α : Type} {E : Heap → Value → α → Prop} {h : Heap} {v : Value} {xs : List α} {t e : TypeId} {k : IntKind} (hv : RdS E h v xs) (ht : SlT TT t e) {hi : Int} (h0 : 0 ≤ hi) (h1 : hi ≤ xs.length) : ∃ v', sliceV TT t v none (some (.int k hi)) none = some v' ∧ RdS E h v' (xs.take hi.toNat) := by
  obtain ⟨A, c, rfl, hA, hc, hm, hr⟩ := hv
  obtain ⟨i, j, e1, e2, e3, e4⟩ := ht.out
  have hl : (xs.take hi.toNat).length = hi.toNat := by simp; omega
  have hadd : A.map (fun x : Addr => x.add (0 * j.size)) = A := by
    cases A with
    | none => rfl
    | some a => simp [addr_zero]
  refine ⟨.slice A hi.toNat c, ?_, A, c, by rw [hl], ?_, by rw [hl]; omega, by omega, fun q hq => ?_⟩
  · simp only [sliceV, e1, Option.bind_some, e2, e3, bndsV, bndV]
    rw [if_pos ⟨h0, by omega⟩]
    simp only [Option.bind_some, Option.map_some, Nat.sub_zero]
    rw [hadd]
    simp
  · rcases hA with hA | hA
    · exact .inl hA
    · right; rw [hl]; omega
  · rw [hl] at hq
    obtain ⟨u, hu, hE⟩ := hr q (by omega)
    exact ⟨u, by cases A <;> exact hu, by rw [List.getElem_take]; exact hE⟩
/-- A row that lies in other blocks, and reads the same wherever these are as they were. -/
def ESt (h0 : Heap) (fE : List Nat) (_ : Heap) (u : Value) (x : List Int) (fp : List Nat) : Prop := fp = [] ∧ (u.oneCell' = true ∧ u.cells = #[u]) ∧ ∀ h' : Heap, (∀ b ∈ fE, h'[b]? = h0[b]?) → R1 h' u x
instance {h0 : Heap} {fE : List Nat} : Own (ESt h0 fE) := ⟨fun _ h => h, (fun h b hb => by rw [h.1] at hb; cases hb), (fun h => h.2.1)⟩
abbrev O2S (h0 : Heap) (fE : List Nat) : Heap → Value → List (List Int) → List Nat → Prop := OS 22 (ESt h0 fE)
theorem O2S.nil {h0 : Heap} {fE : List Nat} {h : Heap} {v : Value} {fp : List Nat} (ho : O2 h v [] fp) : O2S h0 fE h v [] fp := by
  rcases ho with ⟨h1, _, h3⟩ | ⟨b, c, cur, fps, rfl, r⟩
  · exact .inl ⟨h1, rfl, h3⟩
  · exact .inr ⟨b, c, cur, fps, rfl, ⟨r.val, r.box, r.size, r.max, r.le, r.len, fun j hj => by simp at hj⟩⟩
theorem O2S.rd {h0 : Heap} {fE : List Nat} {h : Heap} {v : Value} {xs : List (List Int)} {fp : List Nat} (ho : O2S h0 fE h v xs fp) (hag : ∀ b ∈ fE, h[b]? = h0[b]?) : R2 h v xs := by
  rcases ho with ⟨rfl, rfl, _⟩ | ⟨b, c, cur, fps, _, r⟩
  · exact ⟨none, 0, rfl, .inr rfl, by simp, by omega, fun j hj => by simp at hj⟩
  · refine ⟨some ⟨b, 0, none⟩, c, r.val, .inl rfl, r.le, r.max, fun j hj => ?_⟩
    obtain ⟨u, f, h1, _, h4⟩ := r.el j hj
    refine ⟨u, ?_, h4.2.2 h hag⟩
    rw [r.val]
    simp only [sA]
    rw [addr_add, r.box.cell, Nat.zero_add, h1]
theorem RdS.oneC {α : Type} {E : Heap → Value → α → Prop} {h : Heap} {v : Value} {xs : List α} (hv : RdS E h v xs) : v.oneCell' = true ∧ v.cells = #[v] := ⟨RdS.one hv, RdS.cells hv⟩
theorem ES.mk {h0 h : Heap} {vE : Value} {E : List (List Int)} {fE : List Nat} (hE : O2 h vE E fE) (hn : fE.Nodup) (hag : ∀ b ∈ fE, h[b]? = h0[b]?) {i : Nat} (hi : i < E.length) {k : IntKind} {lo : Int} (hl0 : 0 ≤ lo) (hl1 : lo ≤ (E.getD i default).length) {u : Value} (hs : sliceV TT 22 (rowV h vE i) (some (.int k lo)) none none = some u) {H : Heap} : ESt h0 fE H u ((E.getD i default).drop lo.toNat) [] := by
  obtain ⟨f, hO, hsub, _, _⟩ := OS.elem hE hn i hi
  have key : ∀ h' : Heap, (∀ b ∈ fE, h'[b]? = h0[b]?) → R1 h' u ((E.getD i default).drop lo.toNat) := fun h' hg => by
    have hO' : O1 h' (rowV h vE i) (E.getD i default) f := Own.loc (fun b hb => by rw [hg b (hsub b hb), hag b (hsub b hb)]) hO
    obtain ⟨v', e1, e2⟩ := RdS.dropV (k := k) (OS.rd hO') sl22 hl0 hl1
    rw [hs] at e1
    injection e1 with e1
    rw [e1]; exact e2
  exact ⟨rfl, RdS.oneC (key h hag), key⟩
/-- Rows with the units behind them. -/
theorem set_unit {r : List Int} {w m i : Nat} (hr : r.length = w) (hi : i < m) : (r ++ List.replicate m 0).set (w + i) 1 = r ++ unitP m i := by
  rw [List.set_append_right _ _ (by omega), hr, Nat.add_sub_cancel_left]; rfl
noncomputable def kerQ (p : Int) (rows : List (List Int)) : List (List Int) := kerP p (wd rows) rows
theorem longP_step {rows : List (List Int)} {k : Nat} (hk : k < rows.length) : ((List.range k).map fun i => rows.getD i default ++ unitP rows.length i) ++ [rows.getD k default ++ unitP rows.length k] = (List.range (k + 1)).map fun i => rows.getD i default ++ unitP rows.length i := range_step (fun i => rows.getD i default ++ unitP rows.length i) k
theorem fm_yes {α β : Type} {f : α → Bool} {g : α → β} {xs : List α} {k : Nat} {d : α} (hk : k < xs.length) (h : f (xs.getD k d) = true) : ((xs.take k).filter f).map g ++ [g (xs.getD k d)] = ((xs.take (k + 1)).filter f).map g := by
  have e : xs.getD k d = xs[k] := by rw [List.getD_eq_getElem?_getD, List.getElem?_eq_getElem hk]; rfl
  rw [e] at h ⊢
  rw [List.take_succ_eq_append_getElem hk, List.filter_append, List.filter_cons, if_pos h, List.map_append]; rfl
theorem fm_no {α β : Type} {f : α → Bool} {g : α → β} {xs : List α} {k : Nat} {d : α} (hk : k < xs.length) (h : f (xs.getD k d) = false) : ((xs.take k).filter f).map g = ((xs.take (k + 1)).filter f).map g := by
  have e : xs.getD k d = xs[k] := by rw [List.getD_eq_getElem?_getD, List.getElem?_eq_getElem hk]; rfl
  rw [e] at h
  rw [List.take_succ_eq_append_getElem hk, List.filter_append, List.filter_cons, if_neg (by rw [h]; decide), List.filter_nil, List.append_nil]
theorem fm_len {α β : Type} {f : α → Bool} {g : α → β} {xs : List α} {k : Nat} (hk : k ≤ xs.length) : (((xs.take k).filter f).map g).length ≤ xs.length := by
  rw [List.length_map]
  have := List.length_filter_le f (xs.take k)
  rw [List.length_take] at this; omega
theorem zero_take {W w : Nat} {p : Int} {E : List (List Int)} {l : Nat → Nat} (r : Rr p W E l) {i : Nat} (hi : i < E.length) : (!(((E.getD i default).take w).any fun x => x != 0)) = decide ((w : Int) ≤ leadP (E.getD i default)) := by
  have hl := r.lead hi
  have hlen := r.len i hi
  have hlt := r.lt i hi
  rw [hl]
  by_cases h : w ≤ l i
  · have : (((E.getD i default).take w).any fun x => x != 0) = false := by
      rw [List.any_eq_false]
      intro x hx
      obtain ⟨j, hj, rfl⟩ := List.getElem_of_mem hx
      have hj' : j < w := by simp at hj; omega
      have := r.zb i j hi (by omega)
      unfold g2 at this
      rw [List.getD_eq_getElem?_getD (l := E.getD i default), List.getElem?_eq_getElem (by omega)] at this
      rw [List.getElem_take]
      simpa using this
    rw [this]; simp; omega
  · have : (((E.getD i default).take w).any fun x => x != 0) = true := by
      rw [List.any_eq_true]
      have h1 := r.one i hi
      unfold g2 at h1
      rw [List.getD_eq_getElem?_getD (l := E.getD i default), List.getElem?_eq_getElem (by omega)] at h1
      refine ⟨(E.getD i default)[l i], ?_, by simp only [Option.getD_some] at h1; rw [h1]; decide⟩
      exact List.mem_take_iff_getElem.2 ⟨l i, by omega, rfl⟩
    rw [this]; simp; omega
theorem kerP_tbl {p : Int} {w : Nat} (hP : isP p = true) {rows : List (List Int)} (h : ∀ r ∈ rows, r.length = w ∧ Bnd p r) : ∀ r ∈ kerP p w rows, r.length = rows.length ∧ Bnd p r := fun r hr => by
  obtain ⟨l, hR⟩ := kerP_rr hP h
  obtain ⟨i, hi, rfl⟩ := List.getElem_of_mem hr
  have a := hR.len i hi
  have b := hR.bnd i hi
  rw [List.getD_eq_getElem?_getD, List.getElem?_eq_getElem hi] at a b
  exact ⟨a, b⟩
theorem kerQ_w {p : Int} {w : Nat} {rows : List (List Int)} (h : ∀ r ∈ rows, r.length = w ∧ Bnd p r) (hn : rows ≠ []) : kerQ p rows = kerP p w rows := by rw [kerQ, wd_ok h hn]
theorem kerQ_nil {p : Int} (hp : 1 < p) : kerQ p [] = [] := by
  rw [kerQ, kerP, longP]
  simp only [List.length_nil, List.range_zero, List.map_nil]
  rw [ech_nil hp]; rfl
theorem len_longP (rows : List (List Int)) : (longP rows).length = rows.length := by simp [longP]
theorem ech_len_le {p : Int} {w : Nat} (hP : isP p = true) {rows : List (List Int)} (h : ∀ r ∈ rows, r.length = w ∧ Bnd p r) : (ech p rows).length ≤ w := by
  obtain ⟨⟨l, r⟩, _⟩ := ech_red hP h
  exact r.le_w

set_option maxRecDepth 100000 in
theorem iKernel_ok (vR : Value) (p : Int) (R : List (List Int)) (h : Heap) (rR : R2 h vR R) {w : Nat} (hP : isP p = true) (hT : ∀ r ∈ R, r.length = w ∧ Bnd p r) (hw : w ≤ 500) (hl : R.length ≤ 500) : CallA Try.prog 104 #[.int .i64 p, vR] h fun v' h' => ∃ w0 f0, v' = w0 ∧ O2 h' w0 (kerQ p R) f0 ∧ Fresh h.size f0 ∧ Ext h h' := by
  have hleR := RdS.le rR
  have hp := isP_two hP
  have hLT := longP_tbl hp.1 hT
  have hEl := ech_len_le hP hLT
  obtain ⟨⟨l, hrE⟩, _⟩ := ech_red hP hLT
  have hll := len_longP R
  refine callA_intro TTok (args := [_, _]) Try.func104 (by kernel_rfl) rfl 67 rfl (by simp) [.tmp 4] rfl ?_
  simp only [idxs, Nat.reduceAdd]
  refine den_seq ?_
  refine den_region TTok ?_
  intro K hK
  simp -implicitDefEqProofs (disch := first | decide | assumption | omega) only [go_sem, RdS.len rR sl36, RdS.idx rR sl36, RdS.cellB rR (HPres.refl _), RdS.cells rR, wrap_id, Int.toNat_zero]
  refine hK _ _ ?_
  clear hK K
  refine den_seq ?_
  refine den_region TTok ?_
  intro K hK
  simp -implicitDefEqProofs (disch := first | decide | assumption | omega) only [go_sem, RdS.len rR sl36, RdS.idx rR sl36, RdS.cellB rR (HPres.refl _), RdS.cells rR, wrap_id, Int.toNat_zero]
  refine hK _ _ ?_
  clear hK K
  refine den_seq ?_
  refine den_seq ?_
  refine den_region TTok ?_
  intro K hK
  simp -implicitDefEqProofs (disch := first | decide | assumption | omega) only [go_sem, RdS.len rR sl36, RdS.idx rR sl36, RdS.cellB rR (HPres.refl _), RdS.cells rR, wrap_id, Int.toNat_zero]
  refine hK _ _ ?_
  clear hK K
  refine den_cond rfl (fun c0 => ?_) (fun c0 => ?_)
  · try simp only [decide_eq_true_eq, decide_eq_false_iff_not, beq_iff_eq, beq_eq_false_iff_ne, bne_iff_ne, ne_eq, Bool.not_eq_true', Bool.not_eq_false', Bool.and_eq_true, Bool.or_eq_true, bne_eq_false_iff_eq] at c0
    refine den_seq ?_
    refine den_region TTok ?_
    intro K hK
    simp -implicitDefEqProofs (disch := first | decide | assumption | omega) only [go_sem, RdS.len rR sl36, RdS.idx rR sl36, RdS.cellB rR (HPres.refl _), RdS.cells rR, wrap_id, Int.toNat_zero]
    refine hK _ _ ?_
    clear hK K
    refine den_ret ?_
    simp (disch := decide) only [resP_1, puts_same, puts_ne]
    have hz : R = [] := List.length_eq_zero_iff.1 (by omega)
    subst hz
    rw [kerQ_nil hp.1]
    exact ⟨.slice none 0 0, [], rfl, OS.nil, Fresh.nil _, (Ext.refl _)⟩
  · try simp only [decide_eq_true_eq, decide_eq_false_iff_not, beq_iff_eq, beq_eq_false_iff_ne, bne_iff_ne, ne_eq, Bool.not_eq_true', Bool.not_eq_false', Bool.and_eq_true, Bool.or_eq_true, bne_eq_false_iff_eq] at c0
    refine den_skip ?_
    refine den_seq ?_
    have hR0 : R ≠ [] := fun e_ => by subst e_; simp at c0
    have hwz : (R.getD 0 default).length = w := (hT _ (getD_mem (show 0 < R.length by omega))).1
    have hz4 := RdS.cellN rR 0 (by omega)
    rw [addr_zero] at hz4
    refine den_region TTok ?_
    intro K hK
    have hr1 := RdS.rowN rR 0 (by omega)
    have hlhr1 := RdS.le hr1
    simp -implicitDefEqProofs (disch := first | decide | assumption | omega) only [go_sem, ld22, RdS.len rR sl36, RdS.idx rR sl36, RdS.cellB rR (HPres.refl _), RdS.cells rR, RdS.len hr1 sl22, RdS.idx hr1 sl22, R1.intB hr1 (HPres.refl _), RdS.cells hr1, wrap_id, Int.toNat_zero, hz4, hwz]
    refine op_bs0 sz36 O1 ?_
    intro v4_4 h4_4 ho4_4 e4_4
    have := Ext.size e4_4
    have eB := e4_4
    have hfho4_4 : Fresh h.size [h.size] := Fresh.one _
    have hlho4_4 := OS.lt ho4_4
    try simp -implicitDefEqProofs (disch := first | decide | assumption | omega) only [go_sem, RdS.len rR sl36, RdS.idx rR sl36, RdS.cellB rR (Ext.pres eB), RdS.cells rR, RdS.len hr1 sl22, RdS.idx hr1 sl22, R1.intB hr1 (Ext.pres eB), RdS.cells hr1, RdS.len (OS.rd ho4_4) sl36, RdS.idx (OS.rd ho4_4) sl36, RdS.cellN (OS.rd ho4_4), RdS.cells (OS.rd ho4_4), wrap_id, Int.toNat_zero, hz4, hwz]
    refine hK _ _ ?_
    clear hK K
    refine den_seq ?_
    refine den_seq ?_
    refine den_region TTok ?_
    intro K hK
    simp -implicitDefEqProofs (disch := first | decide | assumption | omega) only [go_sem, RdS.len rR sl36, RdS.idx rR sl36, RdS.cellB rR (Ext.pres eB), RdS.cells rR, RdS.len hr1 sl22, RdS.idx hr1 sl22, R1.intB hr1 (Ext.pres eB), RdS.cells hr1, RdS.len (OS.rd ho4_4) sl36, RdS.idx (OS.rd ho4_4) sl36, RdS.cellN (OS.rd ho4_4), RdS.cells (OS.rd ho4_4), wrap_id, Int.toNat_zero]
    refine hK _ _ ?_
    clear hK K
    refine den_block ?_
    refine den_sel [7, 25, 0, 5, 6, 23, 24] ?_
    intro env_2
    simp only [go_sem]
    refine den_loopS (σ := Nat × Value × List Nat) (fun st_ => [(7, st_.2.1), (25, .int .i64 (st_.1 : Int))]) (fun st_ H => (st_.1 ≤ R.length) ∧ (O2 H st_.2.1 ((List.range st_.1).map fun i => R.getD i default ++ unitP R.length i) st_.2.2) ∧ (Fresh (h.size) st_.2.2) ∧ (Sub [h.size] h4_4.size st_.2.2) ∧ (Chg [h.size] h4_4 H)) (fun st_ => R.length - st_.1) (0, v4_4, [h.size]) ?_ ?_
    · exact ⟨by first | (simp; done) | (dsimp only; omega) | (simp; omega), by simpa using ho4_4, hfho4_4, Sub.refl, Chg.refl _ _⟩
    · rintro ⟨k, vhL, fphL⟩ h5 ee4 ⟨hi0, hL, hfhL, sbhL, cL3⟩
      dsimp only at hi0 hL hfhL sbhL cL3
      have := cL3.size
      replace eB := Ext.then eB cL3 (ge_of hfho4_4 (by omega))
      have hlhL := OS.lt hL
      simp only [List.cons_append, List.nil_append]
      have hlo_ : ((List.range k).map fun i => R.getD i default ++ unitP R.length i).length = k := by simp
      refine den_seq ?_
      refine den_region TTok ?_
      intro K hK
      simp -implicitDefEqProofs (disch := first | decide | assumption | omega) only [go_sem, RdS.len rR sl36, RdS.idx rR sl36, RdS.cellB rR (Ext.pres eB), RdS.cells rR, RdS.len hr1 sl22, RdS.idx hr1 sl22, R1.intB hr1 (Ext.pres eB), RdS.cells hr1, RdS.len (OS.rd hL) sl36, RdS.idx (OS.rd hL) sl36, RdS.cellN (OS.rd hL), RdS.cells (OS.rd hL), wrap_id, Int.toNat_zero]
      refine hK _ _ ?_
      clear hK K
      refine den_seq ?_
      refine den_cond rfl (fun c1 => ?_) (fun c1 => ?_)
      · try simp only [decide_eq_true_eq, decide_eq_false_iff_not, beq_iff_eq, beq_eq_false_iff_ne, bne_iff_ne, ne_eq, Bool.not_eq_true', Bool.not_eq_false', Bool.and_eq_true, Bool.or_eq_true, bne_eq_false_iff_eq] at c1
        refine den_skip ?_
        refine den_seq ?_
        refine den_block ?_
        refine den_seq ?_
        refine den_region TTok ?_
        intro K hK
        have hr6 := RdS.rowN rR k (by omega)
        have hlhr6 := RdS.le hr6
        simp -implicitDefEqProofs (disch := first | decide | assumption | omega) only [go_sem, ld22, RdS.len rR sl36, RdS.idx rR sl36, RdS.cellB rR (Ext.pres eB), RdS.cells rR, RdS.len hr1 sl22, RdS.idx hr1 sl22, R1.intB hr1 (Ext.pres eB), RdS.cells hr1, RdS.len hr6 sl22, RdS.idx hr6 sl22, R1.intB hr6 (Ext.pres eB), RdS.cells hr6, RdS.len (OS.rd hL) sl36, RdS.idx (OS.rd hL) sl36, RdS.cellN (OS.rd hL), RdS.cells (OS.rd hL), wrap_id, Int.toNat_zero]
        refine hK _ _ ?_
        clear hK K
        refine den_seq ?_
        have hRk := hT _ (getD_mem (show k < R.length by omega))
        refine den_region TTok ?_
        intro K hK
        simp -implicitDefEqProofs (disch := first | decide | assumption | omega) only [go_sem, RdS.len rR sl36, RdS.idx rR sl36, RdS.cellB rR (Ext.pres eB), RdS.cells rR, RdS.len hr1 sl22, RdS.idx hr1 sl22, R1.intB hr1 (Ext.pres eB), RdS.cells hr1, RdS.len hr6 sl22, RdS.idx hr6 sl22, R1.intB hr6 (Ext.pres eB), RdS.cells hr6, RdS.len (OS.rd hL) sl36, RdS.idx (OS.rd hL) sl36, RdS.cellN (OS.rd hL), RdS.cells (OS.rd hL), wrap_id, Int.toNat_zero]
        try simp -implicitDefEqProofs (disch := first | decide | assumption | omega) only [go_sem, RdS.len rR sl36, RdS.idx rR sl36, RdS.cellB rR (Ext.pres eB), RdS.cells rR, RdS.len hr1 sl22, RdS.idx hr1 sl22, R1.intB hr1 (Ext.pres eB), RdS.cells hr1, RdS.len hr6 sl22, RdS.idx hr6 sl22, R1.intB hr6 (Ext.pres eB), RdS.cells hr6, RdS.len (OS.rd hL) sl36, RdS.idx (OS.rd hL) sl36, RdS.cellN (OS.rd hL), RdS.cells (OS.rd hL), wrap_id, Int.toNat_zero]
        refine CallA.mono (clone1_ok _ ((R).getD k default) _ (RdS.pres hr6 (Ext.pres eB)) (by omega)) ?_
        intro vw8_1_0 h8_1
        rintro ⟨zvw8_1_0, fw8_1_0, rfl, how8_1_0, hfw8_1_0, e8_1⟩
        replace hL := OS.ext hL e8_1
        have := Ext.size e8_1
        replace eB := Ext.trans eB e8_1
        replace cL3 := Chg.stepE cL3 e8_1
        have hlhow8_1_0 := OS.lt how8_1_0
        try simp -implicitDefEqProofs (disch := first | decide | assumption | omega) only [go_sem, RdS.len rR sl36, RdS.idx rR sl36, RdS.cellB rR (Ext.pres eB), RdS.cells rR, RdS.len hr1 sl22, RdS.idx hr1 sl22, R1.intB hr1 (Ext.pres eB), RdS.cells hr1, RdS.len hr6 sl22, RdS.idx hr6 sl22, R1.intB hr6 (Ext.pres eB), RdS.cells hr6, RdS.len (OS.rd hL) sl36, RdS.idx (OS.rd hL) sl36, RdS.cellN (OS.rd hL), RdS.cells (OS.rd hL), RdS.len (OS.rd how8_1_0) sl22, RdS.idx (OS.rd how8_1_0) sl22, R1.intN (OS.rd how8_1_0), RdS.cells (OS.rd how8_1_0), wrap_id, Int.toNat_zero]
        refine op_appendZ (by kernel_rfl) how8_1_0 rfl (by omega) (by first | omega | (simp; omega)) rfl ?_
        intro v8_3 h8_3 fp8_3 ho8_3 hn8_3 hs8_3 c8_3
        have hsz8_3 := c8_3.size
        have hfho8_3 : Fresh h5.size fp8_3 := Fresh.appd hfw8_1_0 (Fresh.nil h8_1.size) (by omega) (by omega) hn8_3 hs8_3
        replace hL := OS.chg hL c8_3 (apart_lt hlhL hfw8_1_0 (by omega))
        have := c8_3.size
        replace eB := Ext.then eB c8_3 (ge_of hfw8_1_0 (by omega))
        replace cL3 := Chg.step cL3 c8_3 (Sub.fresh hfw8_1_0 (by omega))
        have hlho8_3 := OS.lt ho8_3
        try simp -implicitDefEqProofs (disch := first | decide | assumption | omega) only [go_sem, RdS.len rR sl36, RdS.idx rR sl36, RdS.cellB rR (Ext.pres eB), RdS.cells rR, RdS.len hr1 sl22, RdS.idx hr1 sl22, R1.intB hr1 (Ext.pres eB), RdS.cells hr1, RdS.len hr6 sl22, RdS.idx hr6 sl22, R1.intB hr6 (Ext.pres eB), RdS.cells hr6, RdS.len (OS.rd hL) sl36, RdS.idx (OS.rd hL) sl36, RdS.cellN (OS.rd hL), RdS.cells (OS.rd hL), RdS.len (OS.rd ho8_3) sl22, RdS.idx (OS.rd ho8_3) sl22, R1.intN (OS.rd ho8_3), RdS.cells (OS.rd ho8_3), wrap_id, Int.toNat_zero]
        refine hK _ _ ?_
        clear hK K
        refine den_seq ?_
        have hl9 : (R.getD k default ++ List.replicate ((R.length : Int)).toNat 0).length = w + R.length := by rw [List.length_append, hRk.1, List.length_replicate, Int.toNat_natCast]
        refine den_region TTok ?_
        intro K hK
        simp -implicitDefEqProofs (disch := first | decide | assumption | omega) only [go_sem, RdS.len rR sl36, RdS.idx rR sl36, RdS.cellB rR (Ext.pres eB), RdS.cells rR, RdS.len hr1 sl22, RdS.idx hr1 sl22, R1.intB hr1 (Ext.pres eB), RdS.cells hr1, RdS.len hr6 sl22, RdS.idx hr6 sl22, R1.intB hr6 (Ext.pres eB), RdS.cells hr6, RdS.len (OS.rd hL) sl36, RdS.idx (OS.rd hL) sl36, RdS.cellN (OS.rd hL), RdS.cells (OS.rd hL), RdS.len (OS.rd ho8_3) sl22, RdS.idx (OS.rd ho8_3) sl22, R1.intN (OS.rd ho8_3), RdS.cells (OS.rd ho8_3), wrap_id, Int.toNat_zero]
        refine op_store1 (j := (((w : Int) + (k : Int))).toNat) st2 ho8_3 hfho8_3.nodup (by first | omega | (simp; omega)) rfl rfl ?_
        intro h9_5 ho9_5 c9_5
        have hsz9_5 := c9_5.size
        replace hL := OS.chg hL c9_5 (apart_lt hlhL hfho8_3 (by omega))
        have := c9_5.size
        replace eB := Ext.then eB c9_5 (ge_of hfho8_3 (by omega))
        replace cL3 := Chg.step cL3 c9_5 (Sub.fresh hfho8_3 (by omega))
        have hlho9_5 := hlho8_3
        have hlenho9_5 : ((((R).getD k default) ++ List.replicate (((R).length : Int)).toNat 0).set ((((w : Int) + (k : Int))).toNat) (1 : Int) : List Int).length = (((R).getD k default) ++ List.replicate (((R).length : Int)).toNat 0 : List Int).length := List.length_set
        rw [show ((w : Int) + (k : Int)).toNat = w + k by omega, Int.toNat_natCast, set_unit hRk.1 (by omega)] at ho9_5
        try simp -implicitDefEqProofs (disch := first | decide | assumption | omega) only [go_sem, RdS.len rR sl36, RdS.idx rR sl36, RdS.cellB rR (Ext.pres eB), RdS.cells rR, RdS.len hr1 sl22, RdS.idx hr1 sl22, R1.intB hr1 (Ext.pres eB), RdS.cells hr1, RdS.len hr6 sl22, RdS.idx hr6 sl22, R1.intB hr6 (Ext.pres eB), RdS.cells hr6, RdS.len (OS.rd hL) sl36, RdS.idx (OS.rd hL) sl36, RdS.cellN (OS.rd hL), RdS.cells (OS.rd hL), RdS.len (OS.rd ho9_5) sl22, RdS.idx (OS.rd ho9_5) sl22, R1.intN (OS.rd ho9_5), RdS.cells (OS.rd ho9_5), wrap_id, Int.toNat_zero]
        refine hK _ _ ?_
        clear hK K
        refine den_region TTok ?_
        intro K hK
        simp -implicitDefEqProofs (disch := first | decide | assumption | omega) only [go_sem, RdS.len rR sl36, RdS.idx rR sl36, RdS.cellB rR (Ext.pres eB), RdS.cells rR, RdS.len hr1 sl22, RdS.idx hr1 sl22, R1.intB hr1 (Ext.pres eB), RdS.cells hr1, RdS.len hr6 sl22, RdS.idx hr6 sl22, R1.intB hr6 (Ext.pres eB), RdS.cells hr6, RdS.len (OS.rd hL) sl36, RdS.idx (OS.rd hL) sl36, RdS.cellN (OS.rd hL), RdS.cells (OS.rd hL), RdS.len (OS.rd ho9_5) sl22, RdS.idx (OS.rd ho9_5) sl22, R1.intN (OS.rd ho9_5), RdS.cells (OS.rd ho9_5), wrap_id, Int.toNat_zero]
        refine op_bs1 sz36 rfl (OS.one ho9_5).2 ?_
        try simp -implicitDefEqProofs (disch := first | decide | assumption | omega) only [go_sem, RdS.len rR sl36, RdS.idx rR sl36, RdS.cellB rR (Ext.pres eB), RdS.cells rR, RdS.len hr1 sl22, RdS.idx hr1 sl22, R1.intB hr1 (Ext.pres eB), RdS.cells hr1, RdS.len hr6 sl22, RdS.idx hr6 sl22, R1.intB hr6 (Ext.pres eB), RdS.cells hr6, RdS.len (OS.rd hL) sl36, RdS.idx (OS.rd hL) sl36, RdS.cellN (OS.rd hL), RdS.cells (OS.rd hL), RdS.len (OS.rd ho9_5) sl22, RdS.idx (OS.rd ho9_5) sl22, R1.intN (OS.rd ho9_5), RdS.cells (OS.rd ho9_5), wrap_id, Int.toNat_zero]
        refine op_append1 sz36 hL hfhL.nodup ho9_5 hfho8_3.nodup (apart_lt hlhL hfho8_3 (by omega)) (by first | omega | (simp; omega)) rfl rfl ?_
        intro v10_3 h10_3 fp10_3 ho10_3 hn10_3 hs10_3 c10_3
        have hsz10_3 := c10_3.size
        have hfho10_3 : Fresh h.size fp10_3 := Fresh.appd hfhL hfho8_3 (by omega) (by omega) hn10_3 hs10_3
        have sb7 : Sub [h.size] h4_4.size fp10_3 := Sub.grow sbhL (Sub.fresh hfho8_3 (by omega)) (by omega) hs10_3
        have := c10_3.size
        replace eB := Ext.then eB c10_3 (ge_of hfhL (by omega))
        replace cL3 := Chg.step cL3 c10_3 sbhL
        have hlho10_3 := OS.lt ho10_3
        try simp -implicitDefEqProofs (disch := first | decide | assumption | omega) only [go_sem, RdS.len rR sl36, RdS.idx rR sl36, RdS.cellB rR (Ext.pres eB), RdS.cells rR, RdS.len hr1 sl22, RdS.idx hr1 sl22, R1.intB hr1 (Ext.pres eB), RdS.cells hr1, RdS.len hr6 sl22, RdS.idx hr6 sl22, R1.intB hr6 (Ext.pres eB), RdS.cells hr6, RdS.len (OS.rd ho10_3) sl36, RdS.idx (OS.rd ho10_3) sl36, RdS.cellN (OS.rd ho10_3), RdS.cells (OS.rd ho10_3), wrap_id, Int.toNat_zero]
        refine hK _ _ ?_
        clear hK K
        refine den_blk ?_
        refine den_region TTok ?_
        intro K hK
        simp -implicitDefEqProofs (disch := first | decide | assumption | omega) only [go_sem, RdS.len rR sl36, RdS.idx rR sl36, RdS.cellB rR (Ext.pres eB), RdS.cells rR, RdS.len hr1 sl22, RdS.idx hr1 sl22, R1.intB hr1 (Ext.pres eB), RdS.cells hr1, RdS.len hr6 sl22, RdS.idx hr6 sl22, R1.intB hr6 (Ext.pres eB), RdS.cells hr6, RdS.len (OS.rd ho10_3) sl36, RdS.idx (OS.rd ho10_3) sl36, RdS.cellN (OS.rd ho10_3), RdS.cells (OS.rd ho10_3), wrap_id, Int.toNat_zero]
        refine hK _ _ ?_
        clear hK K
        refine den_stop ?_
        rw [longP_step (by omega)] at ho10_3
        exact ⟨(k + 1, v10_3, fp10_3), by simp [HasL, puts_at], ⟨by first | omega | (dsimp only; omega), ho10_3, hfho10_3, sb7, cL3⟩, by first | omega | (dsimp only; omega)⟩
      · try simp only [decide_eq_true_eq, decide_eq_false_iff_not, beq_iff_eq, beq_eq_false_iff_ne, bne_iff_ne, ne_eq, Bool.not_eq_true', Bool.not_eq_false', Bool.and_eq_true, Bool.or_eq_true, bne_eq_false_iff_eq] at c1
        refine den_exit ?_
        refine denX_code ?_
        refine denX_stop ?_
        refine denX_hit ?_
        refine den_seq ?_
        refine den_region TTok ?_
        intro K hK
        simp -implicitDefEqProofs (disch := first | decide | assumption | omega) only [go_sem, RdS.len rR sl36, RdS.idx rR sl36, RdS.cellB rR (Ext.pres eB), RdS.cells rR, RdS.len hr1 sl22, RdS.idx hr1 sl22, R1.intB hr1 (Ext.pres eB), RdS.cells hr1, RdS.len (OS.rd hL) sl36, RdS.idx (OS.rd hL) sl36, RdS.cellN (OS.rd hL), RdS.cells (OS.rd hL), wrap_id, Int.toNat_zero]
        refine op_bs0 sz36 O1 ?_
        intro v12_0 h12_0 ho12_0 e12_0
        replace hL := OS.ext hL e12_0
        have := Ext.size e12_0
        replace eB := Ext.trans eB e12_0
        have hfho12_0 : Fresh h5.size [h5.size] := Fresh.one _
        have hlho12_0 := OS.lt ho12_0
        try simp -implicitDefEqProofs (disch := first | decide | assumption | omega) only [go_sem, RdS.len rR sl36, RdS.idx rR sl36, RdS.cellB rR (Ext.pres eB), RdS.cells rR, RdS.len hr1 sl22, RdS.idx hr1 sl22, R1.intB hr1 (Ext.pres eB), RdS.cells hr1, RdS.len (OS.rd hL) sl36, RdS.idx (OS.rd hL) sl36, RdS.cellN (OS.rd hL), RdS.cells (OS.rd hL), RdS.len (OS.rd ho12_0) sl36, RdS.idx (OS.rd ho12_0) sl36, RdS.cellN (OS.rd ho12_0), RdS.cells (OS.rd ho12_0), wrap_id, Int.toNat_zero]
        refine hK _ _ ?_
        clear hK K
        refine den_seq ?_
        refine den_seq ?_
        rw [show ((List.range k).map fun i => R.getD i default ++ unitP R.length i) = longP R by rw [longP, show R.length = k by omega]] at hL
        have hredT := hLT
        refine den_region TTok ?_
        intro K hK
        simp -implicitDefEqProofs (disch := first | decide | assumption | omega) only [go_sem, RdS.len rR sl36, RdS.idx rR sl36, RdS.cellB rR (Ext.pres eB), RdS.cells rR, RdS.len hr1 sl22, RdS.idx hr1 sl22, R1.intB hr1 (Ext.pres eB), RdS.cells hr1, RdS.len (OS.rd hL) sl36, RdS.idx (OS.rd hL) sl36, RdS.cellN (OS.rd hL), RdS.cells (OS.rd hL), RdS.len (OS.rd ho12_0) sl36, RdS.idx (OS.rd ho12_0) sl36, RdS.cellN (OS.rd ho12_0), RdS.cells (OS.rd ho12_0), wrap_id, Int.toNat_zero]
        try simp -implicitDefEqProofs (disch := first | decide | assumption | omega) only [go_sem, RdS.len rR sl36, RdS.idx rR sl36, RdS.cellB rR (Ext.pres eB), RdS.cells rR, RdS.len hr1 sl22, RdS.idx hr1 sl22, R1.intB hr1 (Ext.pres eB), RdS.cells hr1, RdS.len (OS.rd hL) sl36, RdS.idx (OS.rd hL) sl36, RdS.cellN (OS.rd hL), RdS.cells (OS.rd hL), RdS.len (OS.rd ho12_0) sl36, RdS.idx (OS.rd ho12_0) sl36, RdS.cellN (OS.rd ho12_0), RdS.cells (OS.rd ho12_0), wrap_id, Int.toNat_zero]
        refine CallA.mono (iReduce_ok _ p (longP R) _ (OS.rd hL) hP hredT (by omega) (by omega)) ?_
        intro vw13_2_0 h13_2
        rintro ⟨zvw13_2_0, fw13_2_0, rfl, how13_2_0, hfw13_2_0, e13_2⟩
        replace hL := OS.ext hL e13_2
        replace ho12_0 := OS.ext ho12_0 e13_2
        have := Ext.size e13_2
        replace eB := Ext.trans eB e13_2
        have hlhow13_2_0 := OS.lt how13_2_0
        try simp -implicitDefEqProofs (disch := first | decide | assumption | omega) only [go_sem, RdS.len rR sl36, RdS.idx rR sl36, RdS.cellB rR (Ext.pres eB), RdS.cells rR, RdS.len hr1 sl22, RdS.idx hr1 sl22, R1.intB hr1 (Ext.pres eB), RdS.cells hr1, RdS.len (OS.rd hL) sl36, RdS.idx (OS.rd hL) sl36, RdS.cellN (OS.rd hL), RdS.cells (OS.rd hL), RdS.len (OS.rd ho12_0) sl36, RdS.idx (OS.rd ho12_0) sl36, RdS.cellN (OS.rd ho12_0), RdS.cells (OS.rd ho12_0), RdS.len (OS.rd how13_2_0) sl36, RdS.idx (OS.rd how13_2_0) sl36, RdS.cellN (OS.rd how13_2_0), RdS.cells (OS.rd how13_2_0), wrap_id, Int.toNat_zero]
        refine hK _ _ ?_
        clear hK K
        refine den_block ?_
        have hkl := hlhow13_2_0
        have hka := (apart_gt hfw13_2_0 hlho12_0 (by omega))
        refine den_sel [11, 49, 0, 6, 47, 48] ?_
        intro env_8
        simp only [go_sem]
        refine den_loopS (σ := Nat × Value × List Nat) (fun st_ => [(11, st_.2.1), (49, .int .i64 (st_.1 : Int))]) (fun st_ H => (st_.1 ≤ (ech p (longP R)).length) ∧ (O2S h13_2 fw13_2_0 H st_.2.1 ((((ech p (longP R)).take st_.1).filter (fun r : List Int => decide ((w : Int) ≤ leadP r))).map (fun r : List Int => r.drop w)) st_.2.2) ∧ (Fresh (h5.size) st_.2.2) ∧ (Sub [h5.size] h13_2.size st_.2.2) ∧ (Chg [h5.size] h13_2 H)) (fun st_ => (ech p (longP R)).length - st_.1) (0, v12_0, [h5.size]) ?_ ?_
        · exact ⟨by simp, by simpa using O2S.nil ho12_0, hfho12_0, Sub.refl, Chg.refl _ _⟩
        · rintro ⟨k, vhN, fphN⟩ h11 ee10 ⟨hk, hN, hfhN, sbhN, cL9⟩
          dsimp only at hk hN hfhN sbhN cL9
          replace hL := OS.chg hL cL9 (apart_lt hlhL hfho12_0 (by omega))
          replace how13_2_0 := OS.chg how13_2_0 cL9 (apart_gt hfw13_2_0 hlho12_0 (by omega))
          have := cL9.size
          replace eB := Ext.then eB cL9 (ge_of hfho12_0 (by omega))
          have ap12 : Apart fw13_2_0 fphN := Apart.sub_ hlhow13_2_0 (by omega) (apart_gt hfw13_2_0 hlho12_0 (by omega)) sbhN
          have hlhN := OS.lt hN
          simp only [List.cons_append, List.nil_append]
          have hol := fm_len (f := (fun r : List Int => decide ((w : Int) ≤ leadP r))) (g := (fun r : List Int => r.drop w)) (xs := (ech p (longP R))) hk
          refine den_seq ?_
          refine den_region TTok ?_
          intro K hK
          simp -implicitDefEqProofs (disch := first | decide | assumption | omega) only [go_sem, RdS.len rR sl36, RdS.idx rR sl36, RdS.cellB rR (Ext.pres eB), RdS.cells rR, RdS.len hr1 sl22, RdS.idx hr1 sl22, R1.intB hr1 (Ext.pres eB), RdS.cells hr1, RdS.len (OS.rd how13_2_0) sl36, RdS.idx (OS.rd how13_2_0) sl36, RdS.cellN (OS.rd how13_2_0), RdS.cells (OS.rd how13_2_0), wrap_id, Int.toNat_zero]
          refine hK _ _ ?_
          clear hK K
          refine den_seq ?_
          refine den_cond rfl (fun c2 => ?_) (fun c2 => ?_)
          · try simp only [decide_eq_true_eq, decide_eq_false_iff_not, beq_iff_eq, beq_eq_false_iff_ne, bne_iff_ne, ne_eq, Bool.not_eq_true', Bool.not_eq_false', Bool.and_eq_true, Bool.or_eq_true, bne_eq_false_iff_eq] at c2
            refine den_skip ?_
            refine den_seq ?_
            refine den_block ?_
            refine den_seq ?_
            refine den_region TTok ?_
            intro K hK
            have hr13 := RdS.rowN (OS.rd how13_2_0) k (by omega)
            have hlhr13 := RdS.le hr13
            have xr14 := Ext.refl h11
            simp -implicitDefEqProofs (disch := first | decide | assumption | omega) only [go_sem, ld22, RdS.len rR sl36, RdS.idx rR sl36, RdS.cellB rR (Ext.pres eB), RdS.cells rR, RdS.len hr1 sl22, RdS.idx hr1 sl22, R1.intB hr1 (Ext.pres eB), RdS.cells hr1, RdS.len (OS.rd how13_2_0) sl36, RdS.idx (OS.rd how13_2_0) sl36, RdS.cellN (OS.rd how13_2_0), RdS.cells (OS.rd how13_2_0), RdS.len hr13 sl22, RdS.idx hr13 sl22, R1.intB hr13 (Ext.pres xr14), RdS.cells hr13, wrap_id, Int.toNat_zero]
            refine hK _ _ ?_
            clear hK K
            refine den_seq ?_
            obtain ⟨vs, hes, hRs17⟩ := RdS.dropV (k := .i64) (RdS.rowN (OS.rd how13_2_0) k (by omega)) sl22 (lo := (w : Int)) (by omega) (by have := hrE.len k (by omega); omega)
            have hES := fun H => ES.mk (H := H) how13_2_0 hfw13_2_0.nodup (h0 := h13_2) (fun b hb => cL9.block b (hkl b hb) (hka b hb)) (show k < (ech p (longP R)).length by omega) (k := .i64) (lo := (w : Int)) (by omega) (by have := hrE.len k (by omega); omega) hes
            simp only [Int.toNat_natCast] at hES
            obtain ⟨vz, hez, hRz⟩ := RdS.takeV (k := .i64) (RdS.rowN (OS.rd how13_2_0) k (by omega)) sl22 (hi := (w : Int)) (by omega) (by have := hrE.len k (by omega); omega)
            rw [Int.toNat_natCast] at hRz
            have hzt := zero_take (w := w) hrE (i := k) (by omega)
            refine den_region TTok ?_
            intro K hK
            simp -implicitDefEqProofs (disch := first | decide | assumption | omega) only [go_sem, RdS.len rR sl36, RdS.idx rR sl36, RdS.cellB rR (Ext.pres eB), RdS.cells rR, RdS.len hr1 sl22, RdS.idx hr1 sl22, R1.intB hr1 (Ext.pres eB), RdS.cells hr1, RdS.len (OS.rd how13_2_0) sl36, RdS.idx (OS.rd how13_2_0) sl36, RdS.cellN (OS.rd how13_2_0), RdS.cells (OS.rd how13_2_0), RdS.len hr13 sl22, RdS.idx hr13 sl22, R1.intB hr13 (Ext.pres xr14), RdS.cells hr13, wrap_id, Int.toNat_zero, hez, Option.map_some, Option.map_none]
            try simp -implicitDefEqProofs (disch := first | decide | assumption | omega) only [go_sem, RdS.len rR sl36, RdS.idx rR sl36, RdS.cellB rR (Ext.pres eB), RdS.cells rR, RdS.len hr1 sl22, RdS.idx hr1 sl22, R1.intB hr1 (Ext.pres eB), RdS.cells hr1, RdS.len (OS.rd how13_2_0) sl36, RdS.idx (OS.rd how13_2_0) sl36, RdS.cellN (OS.rd how13_2_0), RdS.cells (OS.rd how13_2_0), RdS.len hr13 sl22, RdS.idx hr13 sl22, R1.intB hr13 (Ext.pres xr14), RdS.cells hr13, wrap_id, Int.toNat_zero, hez, Option.map_some, Option.map_none]
            refine CallA.mono (isZero_ok _ _ _ hRz) ?_
            intro v_ h16_3
            rintro ⟨rfl, e16_3⟩
            replace how13_2_0 := OS.ext how13_2_0 e16_3
            replace hN := OS.ext hN e16_3
            have := Ext.size e16_3
            replace eB := Ext.trans eB e16_3
            replace xr14 := Ext.trans xr14 e16_3
            replace cL9 := Chg.stepE cL9 e16_3
            try simp -implicitDefEqProofs (disch := first | decide | assumption | omega) only [go_sem, RdS.len rR sl36, RdS.idx rR sl36, RdS.cellB rR (Ext.pres eB), RdS.cells rR, RdS.len hr1 sl22, RdS.idx hr1 sl22, R1.intB hr1 (Ext.pres eB), RdS.cells hr1, RdS.len (OS.rd how13_2_0) sl36, RdS.idx (OS.rd how13_2_0) sl36, RdS.cellN (OS.rd how13_2_0), RdS.cells (OS.rd how13_2_0), RdS.len hr13 sl22, RdS.idx hr13 sl22, R1.intB hr13 (Ext.pres xr14), RdS.cells hr13, wrap_id, Int.toNat_zero, hez, Option.map_some, Option.map_none]
            refine hK _ _ ?_
            clear hK K
            refine den_cond rfl (fun c3 => ?_) (fun c3 => ?_)
            · try simp only [decide_eq_true_eq, decide_eq_false_iff_not, beq_iff_eq, beq_eq_false_iff_ne, bne_iff_ne, ne_eq, Bool.not_eq_true', Bool.not_eq_false', Bool.and_eq_true, Bool.or_eq_true, bne_eq_false_iff_eq] at c3
              refine den_region TTok ?_
              intro K hK
              simp -implicitDefEqProofs (disch := first | decide | assumption | omega) only [go_sem, RdS.len rR sl36, RdS.idx rR sl36, RdS.cellB rR (Ext.pres eB), RdS.cells rR, RdS.len hr1 sl22, RdS.idx hr1 sl22, R1.intB hr1 (Ext.pres eB), RdS.cells hr1, RdS.len (OS.rd how13_2_0) sl36, RdS.idx (OS.rd how13_2_0) sl36, RdS.cellN (OS.rd how13_2_0), RdS.cells (OS.rd how13_2_0), RdS.len hr13 sl22, RdS.idx hr13 sl22, R1.intB hr13 (Ext.pres xr14), RdS.cells hr13, wrap_id, Int.toNat_zero, hes, Option.map_some, Option.map_none]
              refine op_bs1 sz36 rfl (RdS.cells hRs17) ?_
              try simp -implicitDefEqProofs (disch := first | decide | assumption | omega) only [go_sem, RdS.len rR sl36, RdS.idx rR sl36, RdS.cellB rR (Ext.pres eB), RdS.cells rR, RdS.len hr1 sl22, RdS.idx hr1 sl22, R1.intB hr1 (Ext.pres eB), RdS.cells hr1, RdS.len (OS.rd how13_2_0) sl36, RdS.idx (OS.rd how13_2_0) sl36, RdS.cellN (OS.rd how13_2_0), RdS.cells (OS.rd how13_2_0), RdS.len hr13 sl22, RdS.idx hr13 sl22, R1.intB hr13 (Ext.pres xr14), RdS.cells hr13, wrap_id, Int.toNat_zero, hes, Option.map_some, Option.map_none]
              refine op_append1 sz36 hN hfhN.nodup (hES _) List.nodup_nil (Apart.nil _) (by first | omega | (simp; omega)) rfl rfl ?_
              intro v17_5 h17_5 fp17_5 ho17_5 hn17_5 hs17_5 c17_5
              have hsz17_5 := c17_5.size
              have hfho17_5 : Fresh h5.size fp17_5 := Fresh.appd hfhN (Fresh.nil h16_3.size) (by omega) (by omega) hn17_5 hs17_5
              have sb15 : Sub [h5.size] h13_2.size fp17_5 := Sub.grow sbhN Sub.nil (by omega) hs17_5
              replace how13_2_0 := OS.chg how13_2_0 c17_5 ap12
              have := c17_5.size
              replace eB := Ext.then eB c17_5 (ge_of hfhN (by omega))
              replace cL9 := Chg.step cL9 c17_5 sbhN
              have ap16 : Apart fw13_2_0 fp17_5 := Apart.grow hlhow13_2_0 (by omega) ap12 (Apart.nil _) hs17_5
              have hlho17_5 := OS.lt ho17_5
              try simp -implicitDefEqProofs (disch := first | decide | assumption | omega) only [go_sem, RdS.len rR sl36, RdS.idx rR sl36, RdS.cellB rR (Ext.pres eB), RdS.cells rR, RdS.len hr1 sl22, RdS.idx hr1 sl22, R1.intB hr1 (Ext.pres eB), RdS.cells hr1, RdS.len (OS.rd how13_2_0) sl36, RdS.idx (OS.rd how13_2_0) sl36, RdS.cellN (OS.rd how13_2_0), RdS.cells (OS.rd how13_2_0), wrap_id, Int.toNat_zero, hes, Option.map_some, Option.map_none]
              refine hK _ _ ?_
              clear hK K
              refine den_blk ?_
              refine den_region TTok ?_
              intro K hK
              simp -implicitDefEqProofs (disch := first | decide | assumption | omega) only [go_sem, RdS.len rR sl36, RdS.idx rR sl36, RdS.cellB rR (Ext.pres eB), RdS.cells rR, RdS.len hr1 sl22, RdS.idx hr1 sl22, R1.intB hr1 (Ext.pres eB), RdS.cells hr1, RdS.len (OS.rd how13_2_0) sl36, RdS.idx (OS.rd how13_2_0) sl36, RdS.cellN (OS.rd how13_2_0), RdS.cells (OS.rd how13_2_0), wrap_id, Int.toNat_zero]
              refine hK _ _ ?_
              clear hK K
              refine den_stop ?_
              first | rw [fm_yes (f := (fun r : List Int => decide ((w : Int) ≤ leadP r))) (g := (fun r : List Int => r.drop w)) (by omega) (hzt.symm.trans (by simpa using c3))] at ho17_5 | rw [fm_no (f := (fun r : List Int => decide ((w : Int) ≤ leadP r))) (g := (fun r : List Int => r.drop w)) (d := default) (by omega) (hzt.symm.trans (by simpa using c3))] at ho17_5
              exact ⟨(k + 1, v17_5, fp17_5), by simp [HasL, puts_at], ⟨by first | omega | (dsimp only; omega), ho17_5, hfho17_5, sb15, cL9⟩, by first | omega | (dsimp only; omega)⟩
            · try simp only [decide_eq_true_eq, decide_eq_false_iff_not, beq_iff_eq, beq_eq_false_iff_ne, bne_iff_ne, ne_eq, Bool.not_eq_true', Bool.not_eq_false', Bool.and_eq_true, Bool.or_eq_true, bne_eq_false_iff_eq] at c3
              refine den_skip ?_
              refine den_blk ?_
              refine den_region TTok ?_
              intro K hK
              simp -implicitDefEqProofs (disch := first | decide | assumption | omega) only [go_sem, RdS.len rR sl36, RdS.idx rR sl36, RdS.cellB rR (Ext.pres eB), RdS.cells rR, RdS.len hr1 sl22, RdS.idx hr1 sl22, R1.intB hr1 (Ext.pres eB), RdS.cells hr1, RdS.len (OS.rd how13_2_0) sl36, RdS.idx (OS.rd how13_2_0) sl36, RdS.cellN (OS.rd how13_2_0), RdS.cells (OS.rd how13_2_0), RdS.len hr13 sl22, RdS.idx hr13 sl22, R1.intB hr13 (Ext.pres xr14), RdS.cells hr13, wrap_id, Int.toNat_zero]
              refine hK _ _ ?_
              clear hK K
              refine den_stop ?_
              first | rw [fm_yes (f := (fun r : List Int => decide ((w : Int) ≤ leadP r))) (g := (fun r : List Int => r.drop w)) (by omega) (hzt.symm.trans (by simpa using c3))] at hN | rw [fm_no (f := (fun r : List Int => decide ((w : Int) ≤ leadP r))) (g := (fun r : List Int => r.drop w)) (d := default) (by omega) (hzt.symm.trans (by simpa using c3))] at hN
              exact ⟨(k + 1, vhN, fphN), by simp [HasL, puts_at], ⟨by first | omega | (dsimp only; omega), hN, hfhN, sbhN, cL9⟩, by first | omega | (dsimp only; omega)⟩
          · try simp only [decide_eq_true_eq, decide_eq_false_iff_not, beq_iff_eq, beq_eq_false_iff_ne, bne_iff_ne, ne_eq, Bool.not_eq_true', Bool.not_eq_false', Bool.and_eq_true, Bool.or_eq_true, bne_eq_false_iff_eq] at c2
            refine den_exit ?_
            refine denX_code ?_
            refine denX_stop ?_
            refine denX_hit ?_
            refine den_seq ?_
            rw [show ((((ech p (longP R)).take k).filter (fun r : List Int => decide ((w : Int) ≤ leadP r))).map (fun r : List Int => r.drop w)) = kerP p w R by rw [kerP, List.take_of_length_le (by omega)]] at hN
            obtain ⟨lk, hkr⟩ := kerP_rr hP hT
            have hkl2 : (kerP p w R).length ≤ 1000 := by have := hkr.le_w; omega
            refine den_region TTok ?_
            intro K hK
            simp -implicitDefEqProofs (disch := first | decide | assumption | omega) only [go_sem, RdS.len rR sl36, RdS.idx rR sl36, RdS.cellB rR (Ext.pres eB), RdS.cells rR, RdS.len hr1 sl22, RdS.idx hr1 sl22, R1.intB hr1 (Ext.pres eB), RdS.cells hr1, wrap_id, Int.toNat_zero]
            try simp -implicitDefEqProofs (disch := first | decide | assumption | omega) only [go_sem, RdS.len rR sl36, RdS.idx rR sl36, RdS.cellB rR (Ext.pres eB), RdS.cells rR, RdS.len hr1 sl22, RdS.idx hr1 sl22, R1.intB hr1 (Ext.pres eB), RdS.cells hr1, wrap_id, Int.toNat_zero]
            refine CallA.mono (iReduce_ok _ p (kerP p w R) _ (O2S.rd hN (fun b hb => cL9.block b (hkl b hb) (hka b hb))) hP (kerP_tbl hP hT) (by omega) hkl2) ?_
            intro vw19_2 h19_2
            rintro ⟨zw19_2, fw19_2, rfl, how19_2, hfw19_2, e19_2⟩
            replace hN := OS.ext hN e19_2
            have := Ext.size e19_2
            replace eB := Ext.trans eB e19_2
            have hlhow19_2 := OS.lt how19_2
            try simp -implicitDefEqProofs (disch := first | decide | assumption | omega) only [go_sem, RdS.len rR sl36, RdS.idx rR sl36, RdS.cellB rR (Ext.pres eB), RdS.cells rR, RdS.len hr1 sl22, RdS.idx hr1 sl22, R1.intB hr1 (Ext.pres eB), RdS.cells hr1, RdS.len (OS.rd how19_2) sl36, RdS.idx (OS.rd how19_2) sl36, RdS.cellN (OS.rd how19_2), RdS.cells (OS.rd how19_2), wrap_id, Int.toNat_zero]
            refine hK _ _ ?_
            clear hK K
            refine den_ret ?_
            simp (disch := decide) only [resP_1, puts_same, puts_ne]
            have hec : ech p (kerP p w R) = kerQ p R := by rw [kerQ_w hT hR0]; exact hkr.self hP
            rw [hec] at how19_2
            exact ⟨_, _, rfl, how19_2, hfw19_2.mono (by omega), eB⟩

end Go.Proofs.Ytbplnadngahgaaa
