/-
  What the statement FnExactStablePage uses of the walks, part 3.
  Conditions: each theorem's own.
-/
import Derived.Test.YtjjjgllbocgkbaaG16
import Derived.Test.YtjjjgllbocgkbaaG17
import Derived.Test.YtjjjgllbocgkbaaG14
import Derived.Test.YtjjjgllbocgkbaaG13
import Derived.Test.YtjjjgllbocgkbaaG15
import Derived.Test.YtjjjgllbocgkbaaG18
import Derived.Test.YtjjjgllbocgkbaaG19
import Derived.Test.YtjjjgllbocgkbaaZStablePage1
import Derived.Test.YtjjjgllbocgkbaaZStablePage2
set_option linter.unusedVariables false
set_option linter.unusedSimpArgs false
namespace Go.Proofs.Ytjjjgllbocgkbaa
open Go
/-- The first elements of a slice that is read. -/
theorem RdS.takeV {α : Type} {E : Heap → Value → α → Prop} {h : Heap} {v : Value} {xs : List α} {t e : TypeId} {k : IntKind} (hv : RdS E h v xs) (ht : SlT TT t e) {hi : Int} (h0 : 0 ≤ hi) (h1 : hi ≤ xs.length) : ∃ v', sliceV TT t v none (some (.int k hi)) none = some v' ∧ RdS E h v' (xs.take hi.toNat) := by
 obtain ⟨A, c, rfl, hA, hc, hm, hr⟩ := hv
 obtain ⟨i, j, e1, e2, e3, e4⟩ := ht.out
 have hl : (xs.take hi.toNat).length = hi.toNat := by simp; omega
 have hadd : A.map (fun x : Addr => x.add (0 * j.size)) = A := by
  cases A with
  | none => rfl
  | some a => simp [addr_zero]
 refine ⟨.slice A hi.toNat c, ?_, A, c, by rw [hl], ?_, by rw [hl]; omega, by omega, fun q hq => ?_⟩
 ·simp only [sliceV, e1, Option.bind_some, e2, e3, bndsV, bndV]
  rw [if_pos ⟨h0, by omega⟩]
  simp only [Option.bind_some, Option.map_some, Nat.sub_zero]
  rw [hadd]
  simp
 ·rcases hA with hA | hA
  ·exact .inl hA
  ·right; rw [hl]; omega
 ·rw [hl] at hq
  obtain ⟨u, hu, hE⟩ := hr q (by omega)
  exact ⟨u, by cases A <;> exact hu, by rw [List.getElem_take]; exact hE⟩
/-- A row that lies in other blocks, and reads the same wherever these are as they were. -/
def ESt (h0 : Heap) (fE : List Nat) (_ : Heap) (u : Value) (x : List Int) (fp : List Nat) : Prop := fp = [] ∧ (u.oneCell' = true ∧ u.cells = #[u]) ∧ ∀ h' : Heap, (∀ b ∈ fE, h'[b]? = h0[b]?) → R1 h' u x
instance {h0 : Heap} {fE : List Nat} : Own (ESt h0 fE) := ⟨fun _ h => h, (fun h b hb => by rw [h.1] at hb; cases hb), (fun h => h.2.1)⟩
abbrev O2S (h0 : Heap) (fE : List Nat) : Heap → Value → List (List Int) → List Nat → Prop := OS 22 (ESt h0 fE)
theorem O2S.nil {h0 : Heap} {fE : List Nat} {h : Heap} {v : Value} {fp : List Nat} (ho : O2 h v [] fp) : O2S h0 fE h v [] fp := by
 rcases ho with ⟨h1, _, h3⟩ | ⟨b, c, cur, fps, rfl, r⟩
 ·exact .inl ⟨h1, rfl, h3⟩
 ·exact .inr ⟨b, c, cur, fps, rfl, ⟨r.val, r.box, r.size, r.max, r.le, r.len, fun j hj => by simp at hj⟩⟩
theorem O2S.rd {h0 : Heap} {fE : List Nat} {h : Heap} {v : Value} {xs : List (List Int)} {fp : List Nat} (ho : O2S h0 fE h v xs fp) (hag : ∀ b ∈ fE, h[b]? = h0[b]?) : R2 h v xs := by
 rcases ho with ⟨rfl, rfl, _⟩ | ⟨b, c, cur, fps, _, r⟩
 ·exact ⟨none, 0, rfl, .inr rfl, by simp, by omega, fun j hj => by simp at hj⟩
 ·refine ⟨some ⟨b, 0, none⟩, c, r.val, .inl rfl, r.le, r.max, fun j hj => ?_⟩
  obtain ⟨u, f, h1, _, h4⟩ := r.el j hj
  refine ⟨u, ?_, h4.2.2 h hag⟩
  rw [r.val]
  simp only [sA]
  rw [addr_add, r.box.cell, Nat.zero_add, h1]
theorem RdS.oneC {α : Type} {E : Heap → Value → α → Prop} {h : Heap} {v : Value} {xs : List α} (hv : RdS E h v xs) : v.oneCell' = true ∧ v.cells = #[v] := ⟨RdS.one hv, RdS.cells hv⟩
theorem ES.mk {h0 h : Heap} {vE : Value} {E : List (List Int)} {fE : List Nat} (hE : O2 h vE E fE) (hn : fE.Nodup) (hag : ∀ b ∈ fE, h[b]? = h0[b]?) {i : Nat} (hi : i < E.length) {k : IntKind} {lo : Int} (hl0 : 0 ≤ lo) (hl1 : lo ≤ (E.getD i default).length) {u : Value} (hs : sliceV TT 22 (rowV h vE i) (some (.int k lo)) none none = some u) {H : Heap} : ESt h0 fE H u ((E.getD i default).drop lo.toNat) [] := by
 obtain ⟨f, hO, hsub, _, _⟩ := OS.elem hE hn i hi
 have key : ∀ h' : Heap, (∀ b ∈ fE, h'[b]? = h0[b]?) → R1 h' u ((E.getD i default).drop lo.toNat) := fun h' hg => by
  have hO' : O1 h' (rowV h vE i) (E.getD i default) f := Own.loc (fun b hb => by rw [hg b (hsub b hb), hag b (hsub b hb)]) hO
  obtain ⟨v', e1, e2⟩ := RdS.dropV (k := k) (OS.rd hO') sl22 hl0 hl1
  rw [hs] at e1
  injection e1 with e1
  rw [e1]; exact e2
 exact ⟨rfl, RdS.oneC (key h hag), key⟩
/-- Rows with the units behind them. -/
theorem set_unit {r : List Int} {w m i : Nat} (hr : r.length = w) (hi : i < m) : (r ++ List.replicate m 0).set (w + i) 1 = r ++ unitP m i := by
 rw [List.set_append_right _ _ (by omega), hr, Nat.add_sub_cancel_left]; rfl
noncomputable def kerQ (p : Int) (rows : List (List Int)) : List (List Int) := kerP p (wd rows) rows
theorem longP_step {rows : List (List Int)} {k : Nat} (hk : k < rows.length) : ((List.range k).map fun i => rows.getD i default ++ unitP rows.length i) ++ [rows.getD k default ++ unitP rows.length k] = (List.range (k + 1)).map fun i => rows.getD i default ++ unitP rows.length i := range_step (fun i => rows.getD i default ++ unitP rows.length i) k
theorem fm_yes {α β : Type} {f : α → Bool} {g : α → β} {xs : List α} {k : Nat} {d : α} (hk : k < xs.length) (h : f (xs.getD k d) = true) : ((xs.take k).filter f).map g ++ [g (xs.getD k d)] = ((xs.take (k + 1)).filter f).map g := by
 have e : xs.getD k d = xs[k] := by rw [List.getD_eq_getElem?_getD, List.getElem?_eq_getElem hk]; rfl
 rw [e] at h ⊢
 rw [List.take_succ_eq_append_getElem hk, List.filter_append, List.filter_cons, if_pos h, List.map_append]; rfl
theorem fm_no {α β : Type} {f : α → Bool} {g : α → β} {xs : List α} {k : Nat} {d : α} (hk : k < xs.length) (h : f (xs.getD k d) = false) : ((xs.take k).filter f).map g = ((xs.take (k + 1)).filter f).map g := by
 have e : xs.getD k d = xs[k] := by rw [List.getD_eq_getElem?_getD, List.getElem?_eq_getElem hk]; rfl
 rw [e] at h
 rw [List.take_succ_eq_append_getElem hk, List.filter_append, List.filter_cons, if_neg (by rw [h]; decide), List.filter_nil, List.append_nil]
theorem fm_len {α β : Type} {f : α → Bool} {g : α → β} {xs : List α} {k : Nat} (hk : k ≤ xs.length) : (((xs.take k).filter f).map g).length ≤ xs.length := by
 rw [List.length_map]
 have := List.length_filter_le f (xs.take k)
 rw [List.length_take] at this; omega
theorem zero_take {W w : Nat} {p : Int} {E : List (List Int)} {l : Nat → Nat} (r : Rr p W E l) {i : Nat} (hi : i < E.length) : (!(((E.getD i default).take w).any fun x => x != 0)) = decide ((w : Int) ≤ leadP (E.getD i default)) := by
 have hl := r.lead hi
 have hlen := r.len i hi
 have hlt := r.lt i hi
 rw [hl]
 by_cases h : w ≤ l i
 ·have : (((E.getD i default).take w).any fun x => x != 0) = false := by
   rw [List.any_eq_false]
   intro x hx
   obtain ⟨j, hj, rfl⟩ := List.getElem_of_mem hx
   have hj' : j < w := by simp at hj; omega
   have := r.zb i j hi (by omega)
   unfold g2 at this
   rw [List.getD_eq_getElem?_getD (l := E.getD i default), List.getElem?_eq_getElem (by omega)] at this
   rw [List.getElem_take]
   simpa using this
  rw [this]; simp; omega
 ·have : (((E.getD i default).take w).any fun x => x != 0) = true := by
   rw [List.any_eq_true]
   have h1 := r.one i hi
   unfold g2 at h1
   rw [List.getD_eq_getElem?_getD (l := E.getD i default), List.getElem?_eq_getElem (by omega)] at h1
   refine ⟨(E.getD i default)[l i], ?_, by simp only [Option.getD_some] at h1; rw [h1]; decide⟩
   exact List.mem_take_iff_getElem.2 ⟨l i, by omega, rfl⟩
  rw [this]; simp; omega
theorem kerP_tbl {p : Int} {w : Nat} (hP : isP p = true) {rows : List (List Int)} (h : ∀ r ∈ rows, r.length = w ∧ Bnd p r) : ∀ r ∈ kerP p w rows, r.length = rows.length ∧ Bnd p r := fun r hr => by
 obtain ⟨l, hR⟩ := kerP_rr hP h
 obtain ⟨i, hi, rfl⟩ := List.getElem_of_mem hr
 have a := hR.len i hi
 have b := hR.bnd i hi
 rw [List.getD_eq_getElem?_getD, List.getElem?_eq_getElem hi] at a b
 exact ⟨a, b⟩
theorem kerQ_w {p : Int} {w : Nat} {rows : List (List Int)} (h : ∀ r ∈ rows, r.length = w ∧ Bnd p r) (hn : rows ≠ []) : kerQ p rows = kerP p w rows := by rw [kerQ, wd_ok h hn]
theorem kerQ_nil {p : Int} (hp : 1 < p) : kerQ p [] = [] := by
 rw [kerQ, kerP, longP]
 simp only [List.length_nil, List.range_zero, List.map_nil]
 rw [ech_nil hp]; rfl
theorem len_longP (rows : List (List Int)) : (longP rows).length = rows.length := by simp [longP]
theorem ech_len_le {p : Int} {w : Nat} (hP : isP p = true) {rows : List (List Int)} (h : ∀ r ∈ rows, r.length = w ∧ Bnd p r) : (ech p rows).length ≤ w := by
 obtain ⟨⟨l, r⟩, _⟩ := ech_red hP h
 exact r.le_w

set_option maxRecDepth 100000 in
theorem iKernel_ok (vR : Value) (p : Int) (R : List (List Int)) (h : Heap) (rR : R2 h vR R) {w : Nat} (hP : isP p = true) (hT : ∀ r ∈ R, r.length = w ∧ Bnd p r) (hw : w ≤ 500) (hl : R.length ≤ 500) : CallA Try.prog 151 #[.int .i64 p, vR] h fun v' h' => ∃ w0 f0, v' = w0 ∧ O2 h' w0 (kerQ p R) f0 ∧ Fresh h.size f0 ∧ Ext h h' := by
 have hleR := RdS.le rR
 have hp := isP_two hP
 have hLT := longP_tbl hp.1 hT
 have hEl := ech_len_le hP hLT
 obtain ⟨⟨l, hrE⟩, _⟩ := ech_red hP hLT
 have hll := len_longP R
 refine callA_intro TTok (args := [_, _]) Try.func151 (by kernel_rfl) rfl 67 rfl (by simp) [.tmp 4] rfl ?_
 simp only [idxs, Nat.reduceAdd]
 refine den_seq ?_
 refine den_region TTok ?_
 intro K hK
 simp -implicitDefEqProofs (disch := first | decide | assumption | omega) only [go_sem, RdS.len rR sl26, RdS.idx rR sl26, RdS.cellB rR (HPres.refl _), RdS.cells rR, wrap_id, Int.toNat_zero]
 refine hK _ _ ?_
 clear hK K
 refine den_seq ?_
 refine den_region TTok ?_
 intro K hK
 simp -implicitDefEqProofs (disch := first | decide | assumption | omega) only [go_sem, RdS.len rR sl26, RdS.idx rR sl26, RdS.cellB rR (HPres.refl _), RdS.cells rR, wrap_id, Int.toNat_zero]
 refine hK _ _ ?_
 clear hK K
 refine den_seq ?_
 refine den_seq ?_
 refine den_region TTok ?_
 intro K hK
 simp -implicitDefEqProofs (disch := first | decide | assumption | omega) only [go_sem, RdS.len rR sl26, RdS.idx rR sl26, RdS.cellB rR (HPres.refl _), RdS.cells rR, wrap_id, Int.toNat_zero]
 refine hK _ _ ?_
 clear hK K
 refine den_cond rfl (fun c0 => ?_) (fun c0 => ?_)
 ·try simp only [decide_eq_true_eq, decide_eq_false_iff_not, beq_iff_eq, beq_eq_false_iff_ne, bne_iff_ne, ne_eq, Bool.not_eq_true', Bool.not_eq_false', Bool.and_eq_true, Bool.or_eq_true, bne_eq_false_iff_eq] at c0
  refine den_seq ?_
  refine den_region TTok ?_
  intro K hK
  simp -implicitDefEqProofs (disch := first | decide | assumption | omega) only [go_sem, RdS.len rR sl26, RdS.idx rR sl26, RdS.cellB rR (HPres.refl _), RdS.cells rR, wrap_id, Int.toNat_zero]
  refine hK _ _ ?_
  clear hK K
  refine den_ret ?_
  simp (disch := decide) only [resP_1, puts_same, puts_ne]
  have hz : R = [] := List.length_eq_zero_iff.1 (by omega)
  subst hz
  rw [kerQ_nil hp.1]
  exact ⟨.slice none 0 0, [], rfl, OS.nil, Fresh.nil _, (Ext.refl _)⟩
 ·try simp only [decide_eq_true_eq, decide_eq_false_iff_not, beq_iff_eq, beq_eq_false_iff_ne, bne_iff_ne, ne_eq, Bool.not_eq_true', Bool.not_eq_false', Bool.and_eq_true, Bool.or_eq_true, bne_eq_false_iff_eq] at c0
  refine den_skip ?_
  refine den_seq ?_
  have hR0 : R ≠ [] := fun e_ => by subst e_; simp at c0
  have hwz : (R.getD 0 default).length = w := (hT _ (getD_mem (show 0 < R.length by omega))).1
  have hz4 := RdS.cellN rR 0 (by omega)
  rw [addr_zero] at hz4
  refine den_region TTok ?_
  intro K hK
  have hr1 := RdS.rowN rR 0 (by omega)
  have hlhr1 := RdS.le hr1
  simp -implicitDefEqProofs (disch := first | decide | assumption | omega) only [go_sem, ld22, RdS.len rR sl26, RdS.idx rR sl26, RdS.cellB rR (HPres.refl _), RdS.cells rR, RdS.len hr1 sl22, RdS.idx hr1 sl22, R1.intB hr1 (HPres.refl _), RdS.cells hr1, wrap_id, Int.toNat_zero, hz4, hwz]
  refine op_bs0 sz26 O1 ?_
  intro v4_4 h4_4 ho4_4 e4_4
  have := Ext.size e4_4
  have eB := e4_4
  have hfho4_4 : Fresh h.size [h.size] := Fresh.one _
  have hlho4_4 := OS.lt ho4_4
  try simp -implicitDefEqProofs (disch := first | decide | assumption | omega) only [go_sem, RdS.len rR sl26, RdS.idx rR sl26, RdS.cellB rR (Ext.pres eB), RdS.cells rR, RdS.len hr1 sl22, RdS.idx hr1 sl22, R1.intB hr1 (Ext.pres eB), RdS.cells hr1, RdS.len (OS.rd ho4_4) sl26, RdS.idx (OS.rd ho4_4) sl26, RdS.cellN (OS.rd ho4_4), RdS.cells (OS.rd ho4_4), wrap_id, Int.toNat_zero, hz4, hwz]
  refine hK _ _ ?_
  clear hK K
  refine den_seq ?_
  refine den_seq ?_
  refine den_region TTok ?_
  intro K hK
  simp -implicitDefEqProofs (disch := first | decide | assumption | omega) only [go_sem, RdS.len rR sl26, RdS.idx rR sl26, RdS.cellB rR (Ext.pres eB), RdS.cells rR, RdS.len hr1 sl22, RdS.idx hr1 sl22, R1.intB hr1 (Ext.pres eB), RdS.cells hr1, RdS.len (OS.rd ho4_4) sl26, RdS.idx (OS.rd ho4_4) sl26, RdS.cellN (OS.rd ho4_4), RdS.cells (OS.rd ho4_4), wrap_id, Int.toNat_zero]
  refine hK _ _ ?_
  clear hK K
  refine den_block ?_
  refine den_sel [7, 25, 0, 5, 6, 23, 24] ?_
  intro env_2
  simp only [go_sem]
  refine den_loopS (σ := Nat × Value × List Nat) (fun st_ => [(7, st_.2.1), (25, .int .i64 (st_.1 : Int))]) (fun st_ H => (st_.1 ≤ R.length) ∧ (O2 H st_.2.1 ((List.range st_.1).map fun i => R.getD i default ++ unitP R.length i) st_.2.2) ∧ (Fresh (h.size) st_.2.2) ∧ (Sub [h.size] h4_4.size st_.2.2) ∧ (Chg [h.size] h4_4 H)) (fun st_ => R.length - st_.1) (0, v4_4, [h.size]) ?_ ?_
  ·exact ⟨by first | (simp; done) | (dsimp only; omega) | (simp; omega), by simpa using ho4_4, hfho4_4, Sub.refl, Chg.refl _ _⟩
  ·rintro ⟨k, vhL, fphL⟩ h5 ee4 ⟨hi0, hL, hfhL, sbhL, cL3⟩
   dsimp only at hi0 hL hfhL sbhL cL3
   have := cL3.size
   replace eB := Ext.then eB cL3 (ge_of hfho4_4 (by omega))
   have hlhL := OS.lt hL
   simp only [List.cons_append, List.nil_append]
   have hlo_ : ((List.range k).map fun i => R.getD i default ++ unitP R.length i).length = k := by simp
   refine den_seq ?_
   refine den_region TTok ?_
   intro K hK
   simp -implicitDefEqProofs (disch := first | decide | assumption | omega) only [go_sem, RdS.len rR sl26, RdS.idx rR sl26, RdS.cellB rR (Ext.pres eB), RdS.cells rR, RdS.len hr1 sl22, RdS.idx hr1 sl22, R1.intB hr1 (Ext.pres eB), RdS.cells hr1, RdS.len (OS.rd hL) sl26, RdS.idx (OS.rd hL) sl26, RdS.cellN (OS.rd hL), RdS.cells (OS.rd hL), wrap_id, Int.toNat_zero]
   refine hK _ _ ?_
   clear hK K
   refine den_seq ?_
   refine den_cond rfl (fun c1 => ?_) (fun c1 => ?_)
   ·try simp only [decide_eq_true_eq, decide_eq_false_iff_not, beq_iff_eq, beq_eq_false_iff_ne, bne_iff_ne, ne_eq, Bool.not_eq_true', Bool.not_eq_false', Bool.and_eq_true, Bool.or_eq_true, bne_eq_false_iff_eq] at c1
    refine den_skip ?_
    refine den_seq ?_
    refine den_block ?_
    refine den_seq ?_
    refine den_region TTok ?_
    intro K hK
    have hr6 := RdS.rowN rR k (by omega)
    have hlhr6 := RdS.le hr6
    simp -implicitDefEqProofs (disch := first | decide | assumption | omega) only [go_sem, ld22, RdS.len rR sl26, RdS.idx rR sl26, RdS.cellB rR (Ext.pres eB), RdS.cells rR, RdS.len hr1 sl22, RdS.idx hr1 sl22, R1.intB hr1 (Ext.pres eB), RdS.cells hr1, RdS.len hr6 sl22, RdS.idx hr6 sl22, R1.intB hr6 (Ext.pres eB), RdS.cells hr6, RdS.len (OS.rd hL) sl26, RdS.idx (OS.rd hL) sl26, RdS.cellN (OS.rd hL), RdS.cells (OS.rd hL), wrap_id, Int.toNat_zero]
    refine hK _ _ ?_
    clear hK K
    refine den_seq ?_
    have hRk := hT _ (getD_mem (show k < R.length by omega))
    refine den_region TTok ?_
    intro K hK
    simp -implicitDefEqProofs (disch := first | decide | assumption | omega) only [go_sem, RdS.len rR sl26, RdS.idx rR sl26, RdS.cellB rR (Ext.pres eB), RdS.cells rR, RdS.len hr1 sl22, RdS.idx hr1 sl22, R1.intB hr1 (Ext.pres eB), RdS.cells hr1, RdS.len hr6 sl22, RdS.idx hr6 sl22, R1.intB hr6 (Ext.pres eB), RdS.cells hr6, RdS.len (OS.rd hL) sl26, RdS.idx (OS.rd hL) sl26, RdS.cellN (OS.rd hL), RdS.cells (OS.rd hL), wrap_id, Int.toNat_zero]
    try simp -implicitDefEqProofs (disch := first | decide | assumption | omega) only [go_sem, RdS.len rR sl26, RdS.idx rR sl26, RdS.cellB rR (Ext.pres eB), RdS.cells rR, RdS.len hr1 sl22, RdS.idx hr1 sl22, R1.intB hr1 (Ext.pres eB), RdS.cells hr1, RdS.len hr6 sl22, RdS.idx hr6 sl22, R1.intB hr6 (Ext.pres eB), RdS.cells hr6, RdS.len (OS.rd hL) sl26, RdS.idx (OS.rd hL) sl26, RdS.cellN (OS.rd hL), RdS.cells (OS.rd hL), wrap_id, Int.toNat_zero]
    refine CallA.mono (clone1_ok _ ((R).getD k default) _ (RdS.pres hr6 (Ext.pres eB)) (by omega)) ?_
    intro vw8_1_0 h8_1
    rintro ⟨zvw8_1_0, fw8_1_0, rfl, how8_1_0, hfw8_1_0, e8_1⟩
    replace hL := OS.ext hL e8_1
    have := Ext.size e8_1
    replace eB := Ext.trans eB e8_1
    replace cL3 := Chg.stepE cL3 e8_1
    have hlhow8_1_0 := OS.lt how8_1_0
    try simp -implicitDefEqProofs (disch := first | decide | assumption | omega) only [go_sem, RdS.len rR sl26, RdS.idx rR sl26, RdS.cellB rR (Ext.pres eB), RdS.cells rR, RdS.len hr1 sl22, RdS.idx hr1 sl22, R1.intB hr1 (Ext.pres eB), RdS.cells hr1, RdS.len hr6 sl22, RdS.idx hr6 sl22, R1.intB hr6 (Ext.pres eB), RdS.cells hr6, RdS.len (OS.rd hL) sl26, RdS.idx (OS.rd hL) sl26, RdS.cellN (OS.rd hL), RdS.cells (OS.rd hL), RdS.len (OS.rd how8_1_0) sl22, RdS.idx (OS.rd how8_1_0) sl22, R1.intN (OS.rd how8_1_0), RdS.cells (OS.rd how8_1_0), wrap_id, Int.toNat_zero]
    refine op_appendZ (by kernel_rfl) how8_1_0 rfl (by omega) (by first | omega | (simp; omega)) rfl ?_
    intro v8_3 h8_3 fp8_3 ho8_3 hn8_3 hs8_3 c8_3
    have hsz8_3 := c8_3.size
    have hfho8_3 : Fresh h5.size fp8_3 := Fresh.appd hfw8_1_0 (Fresh.nil h8_1.size) (by omega) (by omega) hn8_3 hs8_3
    replace hL := OS.chg hL c8_3 (apart_lt hlhL hfw8_1_0 (by omega))
    have := c8_3.size
    replace eB := Ext.then eB c8_3 (ge_of hfw8_1_0 (by omega))
    replace cL3 := Chg.step cL3 c8_3 (Sub.fresh hfw8_1_0 (by omega))
    have hlho8_3 := OS.lt ho8_3
    try simp -implicitDefEqProofs (disch := first | decide | assumption | omega) only [go_sem, RdS.len rR sl26, RdS.idx rR sl26, RdS.cellB rR (Ext.pres eB), RdS.cells rR, RdS.len hr1 sl22, RdS.idx hr1 sl22, R1.intB hr1 (Ext.pres eB), RdS.cells hr1, RdS.len hr6 sl22, RdS.idx hr6 sl22, R1.intB hr6 (Ext.pres eB), RdS.cells hr6, RdS.len (OS.rd hL) sl26, RdS.idx (OS.rd hL) sl26, RdS.cellN (OS.rd hL), RdS.cells (OS.rd hL), RdS.len (OS.rd ho8_3) sl22, RdS.idx (OS.rd ho8_3) sl22, R1.intN (OS.rd ho8_3), RdS.cells (OS.rd ho8_3), wrap_id, Int.toNat_zero]
    refine hK _ _ ?_
    clear hK K
    refine den_seq ?_
    have hl9 : (R.getD k default ++ List.replicate ((R.length : Int)).toNat 0).length = w + R.length := by rw [List.length_append, hRk.1, List.length_replicate, Int.toNat_natCast]
    refine den_region TTok ?_
    intro K hK
    simp -implicitDefEqProofs (disch := first | decide | assumption | omega) only [go_sem, RdS.len rR sl26, RdS.idx rR sl26, RdS.cellB rR (Ext.pres eB), RdS.cells rR, RdS.len hr1 sl22, RdS.idx hr1 sl22, R1.intB hr1 (Ext.pres eB), RdS.cells hr1, RdS.len hr6 sl22, RdS.idx hr6 sl22, R1.intB hr6 (Ext.pres eB), RdS.cells hr6, RdS.len (OS.rd hL) sl26, RdS.idx (OS.rd hL) sl26, RdS.cellN (OS.rd hL), RdS.cells (OS.rd hL), RdS.len (OS.rd ho8_3) sl22, RdS.idx (OS.rd ho8_3) sl22, R1.intN (OS.rd ho8_3), RdS.cells (OS.rd ho8_3), wrap_id, Int.toNat_zero]
    refine op_store1 (j := (((w : Int) + (k : Int))).toNat) st2 ho8_3 hfho8_3.nodup (by first | omega | (simp; omega)) rfl rfl ?_
    intro h9_5 ho9_5 c9_5
    have hsz9_5 := c9_5.size
    replace hL := OS.chg hL c9_5 (apart_lt hlhL hfho8_3 (by omega))
    have := c9_5.size
    replace eB := Ext.then eB c9_5 (ge_of hfho8_3 (by omega))
    replace cL3 := Chg.step cL3 c9_5 (Sub.fresh hfho8_3 (by omega))
    have hlho9_5 := hlho8_3
    have hlenho9_5 : ((((R).getD k default) ++ List.replicate (((R).length : Int)).toNat 0).set ((((w : Int) + (k : Int))).toNat) (1 : Int) : List Int).length = (((R).getD k default) ++ List.replicate (((R).length : Int)).toNat 0 : List Int).length := List.length_set
    rw [show ((w : Int) + (k : Int)).toNat = w + k by omega, Int.toNat_natCast, set_unit hRk.1 (by omega)] at ho9_5
    try simp -implicitDefEqProofs (disch := first | decide | assumption | omega) only [go_sem, RdS.len rR sl26, RdS.idx rR sl26, RdS.cellB rR (Ext.pres eB), RdS.cells rR, RdS.len hr1 sl22, RdS.idx hr1 sl22, R1.intB hr1 (Ext.pres eB), RdS.cells hr1, RdS.len hr6 sl22, RdS.idx hr6 sl22, R1.intB hr6 (Ext.pres eB), RdS.cells hr6, RdS.len (OS.rd hL) sl26, RdS.idx (OS.rd hL) sl26, RdS.cellN (OS.rd hL), RdS.cells (OS.rd hL), RdS.len (OS.rd ho9_5) sl22, RdS.idx (OS.rd ho9_5) sl22, R1.intN (OS.rd ho9_5), RdS.cells (OS.rd ho9_5), wrap_id, Int.toNat_zero]
    refine hK _ _ ?_
    clear hK K
    refine den_region TTok ?_
    intro K hK
    simp -implicitDefEqProofs (disch := first | decide | assumption | omega) only [go_sem, RdS.len rR sl26, RdS.idx rR sl26, RdS.cellB rR (Ext.pres eB), RdS.cells rR, RdS.len hr1 sl22, RdS.idx hr1 sl22, R1.intB hr1 (Ext.pres eB), RdS.cells hr1, RdS.len hr6 sl22, RdS.idx hr6 sl22, R1.intB hr6 (Ext.pres eB), RdS.cells hr6, RdS.len (OS.rd hL) sl26, RdS.idx (OS.rd hL) sl26, RdS.cellN (OS.rd hL), RdS.cells (OS.rd hL), RdS.len (OS.rd ho9_5) sl22, RdS.idx (OS.rd ho9_5) sl22, R1.intN (OS.rd ho9_5), RdS.cells (OS.rd ho9_5), wrap_id, Int.toNat_zero]
    refine op_bs1 sz26 rfl (OS.one ho9_5).2 ?_
    try simp -implicitDefEqProofs (disch := first | decide | assumption | omega) only [go_sem, RdS.len rR sl26, RdS.idx rR sl26, RdS.cellB rR (Ext.pres eB), RdS.cells rR, RdS.len hr1 sl22, RdS.idx hr1 sl22, R1.intB hr1 (Ext.pres eB), RdS.cells hr1, RdS.len hr6 sl22, RdS.idx hr6 sl22, R1.intB hr6 (Ext.pres eB), RdS.cells hr6, RdS.len (OS.rd hL) sl26, RdS.idx (OS.rd hL) sl26, RdS.cellN (OS.rd hL), RdS.cells (OS.rd hL), RdS.len (OS.rd ho9_5) sl22, RdS.idx (OS.rd ho9_5) sl22, R1.intN (OS.rd ho9_5), RdS.cells (OS.rd ho9_5), wrap_id, Int.toNat_zero]
    refine op_append1 sz26 hL hfhL.nodup ho9_5 hfho8_3.nodup (apart_lt hlhL hfho8_3 (by omega)) (by first | omega | (simp; omega)) rfl rfl ?_
    intro v10_3 h10_3 fp10_3 ho10_3 hn10_3 hs10_3 c10_3
    have hsz10_3 := c10_3.size
    have hfho10_3 : Fresh h.size fp10_3 := Fresh.appd hfhL hfho8_3 (by omega) (by omega) hn10_3 hs10_3
    have sb7 : Sub [h.size] h4_4.size fp10_3 := Sub.grow sbhL (Sub.fresh hfho8_3 (by omega)) (by omega) hs10_3
    have := c10_3.size
    replace eB := Ext.then eB c10_3 (ge_of hfhL (by omega))
    replace cL3 := Chg.step cL3 c10_3 sbhL
    have hlho10_3 := OS.lt ho10_3
    try simp -implicitDefEqProofs (disch := first | decide | assumption | omega) only [go_sem, RdS.len rR sl26, RdS.idx rR sl26, RdS.cellB rR (Ext.pres eB), RdS.cells rR, RdS.len hr1 sl22, RdS.idx hr1 sl22, R1.intB hr1 (Ext.pres eB), RdS.cells hr1, RdS.len hr6 sl22, RdS.idx hr6 sl22, R1.intB hr6 (Ext.pres eB), RdS.cells hr6, RdS.len (OS.rd ho10_3) sl26, RdS.idx (OS.rd ho10_3) sl26, RdS.cellN (OS.rd ho10_3), RdS.cells (OS.rd ho10_3), wrap_id, Int.toNat_zero]
    refine hK _ _ ?_
    clear hK K
    refine den_blk ?_
    refine den_region TTok ?_
    intro K hK
    simp -implicitDefEqProofs (disch := first | decide | assumption | omega) only [go_sem, RdS.len rR sl26, RdS.idx rR sl26, RdS.cellB rR (Ext.pres eB), RdS.cells rR, RdS.len hr1 sl22, RdS.idx hr1 sl22, R1.intB hr1 (Ext.pres eB), RdS.cells hr1, RdS.len hr6 sl22, RdS.idx hr6 sl22, R1.intB hr6 (Ext.pres eB), RdS.cells hr6, RdS.len (OS.rd ho10_3) sl26, RdS.idx (OS.rd ho10_3) sl26, RdS.cellN (OS.rd ho10_3), RdS.cells (OS.rd ho10_3), wrap_id, Int.toNat_zero]
    refine hK _ _ ?_
    clear hK K
    refine den_stop ?_
    rw [longP_step (by omega)] at ho10_3
    exact ⟨(k + 1, v10_3, fp10_3), by simp [HasL, puts_at], ⟨by first | omega | (dsimp only; omega), ho10_3, hfho10_3, sb7, cL3⟩, by first | omega | (dsimp only; omega)⟩
   ·try simp only [decide_eq_true_eq, decide_eq_false_iff_not, beq_iff_eq, beq_eq_false_iff_ne, bne_iff_ne, ne_eq, Bool.not_eq_true', Bool.not_eq_false', Bool.and_eq_true, Bool.or_eq_true, bne_eq_false_iff_eq] at c1
    refine den_exit ?_
    refine denX_code ?_
    refine denX_stop ?_
    refine denX_hit ?_
    refine den_seq ?_
    refine den_region TTok ?_
    intro K hK
    simp -implicitDefEqProofs (disch := first | decide | assumption | omega) only [go_sem, RdS.len rR sl26, RdS.idx rR sl26, RdS.cellB rR (Ext.pres eB), RdS.cells rR, RdS.len hr1 sl22, RdS.idx hr1 sl22, R1.intB hr1 (Ext.pres eB), RdS.cells hr1, RdS.len (OS.rd hL) sl26, RdS.idx (OS.rd hL) sl26, RdS.cellN (OS.rd hL), RdS.cells (OS.rd hL), wrap_id, Int.toNat_zero]
    refine op_bs0 sz26 O1 ?_
    intro v12_0 h12_0 ho12_0 e12_0
    replace hL := OS.ext hL e12_0
    have := Ext.size e12_0
    replace eB := Ext.trans eB e12_0
    have hfho12_0 : Fresh h5.size [h5.size] := Fresh.one _
    have hlho12_0 := OS.lt ho12_0
    try simp -implicitDefEqProofs (disch := first | decide | assumption | omega) only [go_sem, RdS.len rR sl26, RdS.idx rR sl26, RdS.cellB rR (Ext.pres eB), RdS.cells rR, RdS.len hr1 sl22, RdS.idx hr1 sl22, R1.intB hr1 (Ext.pres eB), RdS.cells hr1, RdS.len (OS.rd hL) sl26, RdS.idx (OS.rd hL) sl26, RdS.cellN (OS.rd hL), RdS.cells (OS.rd hL), RdS.len (OS.rd ho12_0) sl26, RdS.idx (OS.rd ho12_0) sl26, RdS.cellN (OS.rd ho12_0), RdS.cells (OS.rd ho12_0), wrap_id, Int.toNat_zero]
    refine hK _ _ ?_
    clear hK K
    refine den_seq ?_
    refine den_seq ?_
    rw [show ((List.range k).map fun i => R.getD i default ++ unitP R.length i) = longP R by rw [longP, show R.length = k by omega]] at hL
    have hredT := hLT
    refine den_region TTok ?_
    intro K hK
    simp -implicitDefEqProofs (disch := first | decide | assumption | omega) only [go_sem, RdS.len rR sl26, RdS.idx rR sl26, RdS.cellB rR (Ext.pres eB), RdS.cells rR, RdS.len hr1 sl22, RdS.idx hr1 sl22, R1.intB hr1 (Ext.pres eB), RdS.cells hr1, RdS.len (OS.rd hL) sl26, RdS.idx (OS.rd hL) sl26, RdS.cellN (OS.rd hL), RdS.cells (OS.rd hL), RdS.len (OS.rd ho12_0) sl26, RdS.idx (OS.rd ho12_0) sl26, RdS.cellN (OS.rd ho12_0), RdS.cells (OS.rd ho12_0), wrap_id, Int.toNat_zero]
    try simp -implicitDefEqProofs (disch := first | decide | assumption | omega) only [go_sem, RdS.len rR sl26, RdS.idx rR sl26, RdS.cellB rR (Ext.pres eB), RdS.cells rR, RdS.len hr1 sl22, RdS.idx hr1 sl22, R1.intB hr1 (Ext.pres eB), RdS.cells hr1, RdS.len (OS.rd hL) sl26, RdS.idx (OS.rd hL) sl26, RdS.cellN (OS.rd hL), RdS.cells (OS.rd hL), RdS.len (OS.rd ho12_0) sl26, RdS.idx (OS.rd ho12_0) sl26, RdS.cellN (OS.rd ho12_0), RdS.cells (OS.rd ho12_0), wrap_id, Int.toNat_zero]
    refine CallA.mono (iReduce_ok _ p (longP R) _ (OS.rd hL) hP hredT (by omega) (by omega)) ?_
    intro vw13_2_0 h13_2
    rintro ⟨zvw13_2_0, fw13_2_0, rfl, how13_2_0, hfw13_2_0, e13_2⟩
    replace hL := OS.ext hL e13_2
    replace ho12_0 := OS.ext ho12_0 e13_2
    have := Ext.size e13_2
    replace eB := Ext.trans eB e13_2
    have hlhow13_2_0 := OS.lt how13_2_0
    try simp -implicitDefEqProofs (disch := first | decide | assumption | omega) only [go_sem, RdS.len rR sl26, RdS.idx rR sl26, RdS.cellB rR (Ext.pres eB), RdS.cells rR, RdS.len hr1 sl22, RdS.idx hr1 sl22, R1.intB hr1 (Ext.pres eB), RdS.cells hr1, RdS.len (OS.rd hL) sl26, RdS.idx (OS.rd hL) sl26, RdS.cellN (OS.rd hL), RdS.cells (OS.rd hL), RdS.len (OS.rd ho12_0) sl26, RdS.idx (OS.rd ho12_0) sl26, RdS.cellN (OS.rd ho12_0), RdS.cells (OS.rd ho12_0), RdS.len (OS.rd how13_2_0) sl26, RdS.idx (OS.rd how13_2_0) sl26, RdS.cellN (OS.rd how13_2_0), RdS.cells (OS.rd how13_2_0), wrap_id, Int.toNat_zero]
    refine hK _ _ ?_
    clear hK K
    refine den_block ?_
    have hkl := hlhow13_2_0
    have hka := (apart_gt hfw13_2_0 hlho12_0 (by omega))
    refine den_sel [11, 49, 0, 6, 47, 48] ?_
    intro env_8
    simp only [go_sem]
    refine den_loopS (σ := Nat × Value × List Nat) (fun st_ => [(11, st_.2.1), (49, .int .i64 (st_.1 : Int))]) (fun st_ H => (st_.1 ≤ (ech p (longP R)).length) ∧ (O2S h13_2 fw13_2_0 H st_.2.1 ((((ech p (longP R)).take st_.1).filter (fun r : List Int => decide ((w : Int) ≤ leadP r))).map (fun r : List Int => r.drop w)) st_.2.2) ∧ (Fresh (h5.size) st_.2.2) ∧ (Sub [h5.size] h13_2.size st_.2.2) ∧ (Chg [h5.size] h13_2 H)) (fun st_ => (ech p (longP R)).length - st_.1) (0, v12_0, [h5.size]) ?_ ?_
    ·exact ⟨by simp, by simpa using O2S.nil ho12_0, hfho12_0, Sub.refl, Chg.refl _ _⟩
    ·rintro ⟨k, vhN, fphN⟩ h11 ee10 ⟨hk, hN, hfhN, sbhN, cL9⟩
     dsimp only at hk hN hfhN sbhN cL9
     replace hL := OS.chg hL cL9 (apart_lt hlhL hfho12_0 (by omega))
     replace how13_2_0 := OS.chg how13_2_0 cL9 (apart_gt hfw13_2_0 hlho12_0 (by omega))
     have := cL9.size
     replace eB := Ext.then eB cL9 (ge_of hfho12_0 (by omega))
     have ap12 : Apart fw13_2_0 fphN := Apart.sub_ hlhow13_2_0 (by omega) (apart_gt hfw13_2_0 hlho12_0 (by omega)) sbhN
     have hlhN := OS.lt hN
     simp only [List.cons_append, List.nil_append]
     have hol := fm_len (f := (fun r : List Int => decide ((w : Int) ≤ leadP r))) (g := (fun r : List Int => r.drop w)) (xs := (ech p (longP R))) hk
     refine den_seq ?_
     refine den_region TTok ?_
     intro K hK
     simp -implicitDefEqProofs (disch := first | decide | assumption | omega) only [go_sem, RdS.len rR sl26, RdS.idx rR sl26, RdS.cellB rR (Ext.pres eB), RdS.cells rR, RdS.len hr1 sl22, RdS.idx hr1 sl22, R1.intB hr1 (Ext.pres eB), RdS.cells hr1, RdS.len (OS.rd how13_2_0) sl26, RdS.idx (OS.rd how13_2_0) sl26, RdS.cellN (OS.rd how13_2_0), RdS.cells (OS.rd how13_2_0), wrap_id, Int.toNat_zero]
     refine hK _ _ ?_
     clear hK K
     refine den_seq ?_
     refine den_cond rfl (fun c2 => ?_) (fun c2 => ?_)
     ·try simp only [decide_eq_true_eq, decide_eq_false_iff_not, beq_iff_eq, beq_eq_false_iff_ne, bne_iff_ne, ne_eq, Bool.not_eq_true', Bool.not_eq_false', Bool.and_eq_true, Bool.or_eq_true, bne_eq_false_iff_eq] at c2
      refine den_skip ?_
      refine den_seq ?_
      refine den_block ?_
      refine den_seq ?_
      refine den_region TTok ?_
      intro K hK
      have hr13 := RdS.rowN (OS.rd how13_2_0) k (by omega)
      have hlhr13 := RdS.le hr13
      have xr14 := Ext.refl h11
      simp -implicitDefEqProofs (disch := first | decide | assumption | omega) only [go_sem, ld22, RdS.len rR sl26, RdS.idx rR sl26, RdS.cellB rR (Ext.pres eB), RdS.cells rR, RdS.len hr1 sl22, RdS.idx hr1 sl22, R1.intB hr1 (Ext.pres eB), RdS.cells hr1, RdS.len (OS.rd how13_2_0) sl26, RdS.idx (OS.rd how13_2_0) sl26, RdS.cellN (OS.rd how13_2_0), RdS.cells (OS.rd how13_2_0), RdS.len hr13 sl22, RdS.idx hr13 sl22, R1.intB hr13 (Ext.pres xr14), RdS.cells hr13, wrap_id, Int.toNat_zero]
      refine hK _ _ ?_
      clear hK K
      refine den_seq ?_
      obtain ⟨vs, hes, hRs17⟩ := RdS.dropV (k := .i64) (RdS.rowN (OS.rd how13_2_0) k (by omega)) sl22 (lo := (w : Int)) (by omega) (by have := hrE.len k (by omega); omega)
      have hES := fun H => ES.mk (H := H) how13_2_0 hfw13_2_0.nodup (h0 := h13_2) (fun b hb => cL9.block b (hkl b hb) (hka b hb)) (show k < (ech p (longP R)).length by omega) (k := .i64) (lo := (w : Int)) (by omega) (by have := hrE.len k (by omega); omega) hes
      simp only [Int.toNat_natCast] at hES
      obtain ⟨vz, hez, hRz⟩ := RdS.takeV (k := .i64) (RdS.rowN (OS.rd how13_2_0) k (by omega)) sl22 (hi := (w : Int)) (by omega) (by have := hrE.len k (by omega); omega)
      rw [Int.toNat_natCast] at hRz
      have hzt := zero_take (w := w) hrE (i := k) (by omega)
      refine den_region TTok ?_
      intro K hK
      simp -implicitDefEqProofs (disch := first | decide | assumption | omega) only [go_sem, RdS.len rR sl26, RdS.idx rR sl26, RdS.cellB rR (Ext.pres eB), RdS.cells rR, RdS.len hr1 sl22, RdS.idx hr1 sl22, R1.intB hr1 (Ext.pres eB), RdS.cells hr1, RdS.len (OS.rd how13_2_0) sl26, RdS.idx (OS.rd how13_2_0) sl26, RdS.cellN (OS.rd how13_2_0), RdS.cells (OS.rd how13_2_0), RdS.len hr13 sl22, RdS.idx hr13 sl22, R1.intB hr13 (Ext.pres xr14), RdS.cells hr13, wrap_id, Int.toNat_zero, hez, Option.map_some, Option.map_none]
      try simp -implicitDefEqProofs (disch := first | decide | assumption | omega) only [go_sem, RdS.len rR sl26, RdS.idx rR sl26, RdS.cellB rR (Ext.pres eB), RdS.cells rR, RdS.len hr1 sl22, RdS.idx hr1 sl22, R1.intB hr1 (Ext.pres eB), RdS.cells hr1, RdS.len (OS.rd how13_2_0) sl26, RdS.idx (OS.rd how13_2_0) sl26, RdS.cellN (OS.rd how13_2_0), RdS.cells (OS.rd how13_2_0), RdS.len hr13 sl22, RdS.idx hr13 sl22, R1.intB hr13 (Ext.pres xr14), RdS.cells hr13, wrap_id, Int.toNat_zero, hez, Option.map_some, Option.map_none]
      refine CallA.mono (isZero_ok _ _ _ hRz) ?_
      intro v_ h16_3
      rintro ⟨rfl, e16_3⟩
      replace how13_2_0 := OS.ext how13_2_0 e16_3
      replace hN := OS.ext hN e16_3
      have := Ext.size e16_3
      replace eB := Ext.trans eB e16_3
      replace xr14 := Ext.trans xr14 e16_3
      replace cL9 := Chg.stepE cL9 e16_3
      try simp -implicitDefEqProofs (disch := first | decide | assumption | omega) only [go_sem, RdS.len rR sl26, RdS.idx rR sl26, RdS.cellB rR (Ext.pres eB), RdS.cells rR, RdS.len hr1 sl22, RdS.idx hr1 sl22, R1.intB hr1 (Ext.pres eB), RdS.cells hr1, RdS.len (OS.rd how13_2_0) sl26, RdS.idx (OS.rd how13_2_0) sl26, RdS.cellN (OS.rd how13_2_0), RdS.cells (OS.rd how13_2_0), RdS.len hr13 sl22, RdS.idx hr13 sl22, R1.intB hr13 (Ext.pres xr14), RdS.cells hr13, wrap_id, Int.toNat_zero, hez, Option.map_some, Option.map_none]
      refine hK _ _ ?_
      clear hK K
      refine den_cond rfl (fun c3 => ?_) (fun c3 => ?_)
      ·try simp only [decide_eq_true_eq, decide_eq_false_iff_not, beq_iff_eq, beq_eq_false_iff_ne, bne_iff_ne, ne_eq, Bool.not_eq_true', Bool.not_eq_false', Bool.and_eq_true, Bool.or_eq_true, bne_eq_false_iff_eq] at c3
       refine den_region TTok ?_
       intro K hK
       simp -implicitDefEqProofs (disch := first | decide | assumption | omega) only [go_sem, RdS.len rR sl26, RdS.idx rR sl26, RdS.cellB rR (Ext.pres eB), RdS.cells rR, RdS.len hr1 sl22, RdS.idx hr1 sl22, R1.intB hr1 (Ext.pres eB), RdS.cells hr1, RdS.len (OS.rd how13_2_0) sl26, RdS.idx (OS.rd how13_2_0) sl26, RdS.cellN (OS.rd how13_2_0), RdS.cells (OS.rd how13_2_0), RdS.len hr13 sl22, RdS.idx hr13 sl22, R1.intB hr13 (Ext.pres xr14), RdS.cells hr13, wrap_id, Int.toNat_zero, hes, Option.map_some, Option.map_none]
       refine op_bs1 sz26 rfl (RdS.cells hRs17) ?_
       try simp -implicitDefEqProofs (disch := first | decide | assumption | omega) only [go_sem, RdS.len rR sl26, RdS.idx rR sl26, RdS.cellB rR (Ext.pres eB), RdS.cells rR, RdS.len hr1 sl22, RdS.idx hr1 sl22, R1.intB hr1 (Ext.pres eB), RdS.cells hr1, RdS.len (OS.rd how13_2_0) sl26, RdS.idx (OS.rd how13_2_0) sl26, RdS.cellN (OS.rd how13_2_0), RdS.cells (OS.rd how13_2_0), RdS.len hr13 sl22, RdS.idx hr13 sl22, R1.intB hr13 (Ext.pres xr14), RdS.cells hr13, wrap_id, Int.toNat_zero, hes, Option.map_some, Option.map_none]
       refine op_append1 sz26 hN hfhN.nodup (hES _) List.nodup_nil (Apart.nil _) (by first | omega | (simp; omega)) rfl rfl ?_
       intro v17_5 h17_5 fp17_5 ho17_5 hn17_5 hs17_5 c17_5
       have hsz17_5 := c17_5.size
       have hfho17_5 : Fresh h5.size fp17_5 := Fresh.appd hfhN (Fresh.nil h16_3.size) (by omega) (by omega) hn17_5 hs17_5
       have sb15 : Sub [h5.size] h13_2.size fp17_5 := Sub.grow sbhN Sub.nil (by omega) hs17_5
       replace how13_2_0 := OS.chg how13_2_0 c17_5 ap12
       have := c17_5.size
       replace eB := Ext.then eB c17_5 (ge_of hfhN (by omega))
       replace cL9 := Chg.step cL9 c17_5 sbhN
       have ap16 : Apart fw13_2_0 fp17_5 := Apart.grow hlhow13_2_0 (by omega) ap12 (Apart.nil _) hs17_5
       have hlho17_5 := OS.lt ho17_5
       try simp -implicitDefEqProofs (disch := first | decide | assumption | omega) only [go_sem, RdS.len rR sl26, RdS.idx rR sl26, RdS.cellB rR (Ext.pres eB), RdS.cells rR, RdS.len hr1 sl22, RdS.idx hr1 sl22, R1.intB hr1 (Ext.pres eB), RdS.cells hr1, RdS.len (OS.rd how13_2_0) sl26, RdS.idx (OS.rd how13_2_0) sl26, RdS.cellN (OS.rd how13_2_0), RdS.cells (OS.rd how13_2_0), wrap_id, Int.toNat_zero, hes, Option.map_some, Option.map_none]
       refine hK _ _ ?_
       clear hK K
       refine den_blk ?_
       refine den_region TTok ?_
       intro K hK
       simp -implicitDefEqProofs (disch := first | decide | assumption | omega) only [go_sem, RdS.len rR sl26, RdS.idx rR sl26, RdS.cellB rR (Ext.pres eB), RdS.cells rR, RdS.len hr1 sl22, RdS.idx hr1 sl22, R1.intB hr1 (Ext.pres eB), RdS.cells hr1, RdS.len (OS.rd how13_2_0) sl26, RdS.idx (OS.rd how13_2_0) sl26, RdS.cellN (OS.rd how13_2_0), RdS.cells (OS.rd how13_2_0), wrap_id, Int.toNat_zero]
       refine hK _ _ ?_
       clear hK K
       refine den_stop ?_
       first | rw [fm_yes (f := (fun r : List Int => decide ((w : Int) ≤ leadP r))) (g := (fun r : List Int => r.drop w)) (by omega) (hzt.symm.trans (by simpa using c3))] at ho17_5 | rw [fm_no (f := (fun r : List Int => decide ((w : Int) ≤ leadP r))) (g := (fun r : List Int => r.drop w)) (d := default) (by omega) (hzt.symm.trans (by simpa using c3))] at ho17_5
       exact ⟨(k + 1, v17_5, fp17_5), by simp [HasL, puts_at], ⟨by first | omega | (dsimp only; omega), ho17_5, hfho17_5, sb15, cL9⟩, by first | omega | (dsimp only; omega)⟩
      ·try simp only [decide_eq_true_eq, decide_eq_false_iff_not, beq_iff_eq, beq_eq_false_iff_ne, bne_iff_ne, ne_eq, Bool.not_eq_true', Bool.not_eq_false', Bool.and_eq_true, Bool.or_eq_true, bne_eq_false_iff_eq] at c3
       refine den_skip ?_
       refine den_blk ?_
       refine den_region TTok ?_
       intro K hK
       simp -implicitDefEqProofs (disch := first | decide | assumption | omega) only [go_sem, RdS.len rR sl26, RdS.idx rR sl26, RdS.cellB rR (Ext.pres eB), RdS.cells rR, RdS.len hr1 sl22, RdS.idx hr1 sl22, R1.intB hr1 (Ext.pres eB), RdS.cells hr1, RdS.len (OS.rd how13_2_0) sl26, RdS.idx (OS.rd how13_2_0) sl26, RdS.cellN (OS.rd how13_2_0), RdS.cells (OS.rd how13_2_0), RdS.len hr13 sl22, RdS.idx hr13 sl22, R1.intB hr13 (Ext.pres xr14), RdS.cells hr13, wrap_id, Int.toNat_zero]
       refine hK _ _ ?_
       clear hK K
       refine den_stop ?_
       first | rw [fm_yes (f := (fun r : List Int => decide ((w : Int) ≤ leadP r))) (g := (fun r : List Int => r.drop w)) (by omega) (hzt.symm.trans (by simpa using c3))] at hN | rw [fm_no (f := (fun r : List Int => decide ((w : Int) ≤ leadP r))) (g := (fun r : List Int => r.drop w)) (d := default) (by omega) (hzt.symm.trans (by simpa using c3))] at hN
       exact ⟨(k + 1, vhN, fphN), by simp [HasL, puts_at], ⟨by first | omega | (dsimp only; omega), hN, hfhN, sbhN, cL9⟩, by first | omega | (dsimp only; omega)⟩
     ·try simp only [decide_eq_true_eq, decide_eq_false_iff_not, beq_iff_eq, beq_eq_false_iff_ne, bne_iff_ne, ne_eq, Bool.not_eq_true', Bool.not_eq_false', Bool.and_eq_true, Bool.or_eq_true, bne_eq_false_iff_eq] at c2
      refine den_exit ?_
      refine denX_code ?_
      refine denX_stop ?_
      refine denX_hit ?_
      refine den_seq ?_
      rw [show ((((ech p (longP R)).take k).filter (fun r : List Int => decide ((w : Int) ≤ leadP r))).map (fun r : List Int => r.drop w)) = kerP p w R by rw [kerP, List.take_of_length_le (by omega)]] at hN
      obtain ⟨lk, hkr⟩ := kerP_rr hP hT
      have hkl2 : (kerP p w R).length ≤ 1000 := by have := hkr.le_w; omega
      refine den_region TTok ?_
      intro K hK
      simp -implicitDefEqProofs (disch := first | decide | assumption | omega) only [go_sem, RdS.len rR sl26, RdS.idx rR sl26, RdS.cellB rR (Ext.pres eB), RdS.cells rR, RdS.len hr1 sl22, RdS.idx hr1 sl22, R1.intB hr1 (Ext.pres eB), RdS.cells hr1, wrap_id, Int.toNat_zero]
      try simp -implicitDefEqProofs (disch := first | decide | assumption | omega) only [go_sem, RdS.len rR sl26, RdS.idx rR sl26, RdS.cellB rR (Ext.pres eB), RdS.cells rR, RdS.len hr1 sl22, RdS.idx hr1 sl22, R1.intB hr1 (Ext.pres eB), RdS.cells hr1, wrap_id, Int.toNat_zero]
      refine CallA.mono (iReduce_ok _ p (kerP p w R) _ (O2S.rd hN (fun b hb => cL9.block b (hkl b hb) (hka b hb))) hP (kerP_tbl hP hT) (by omega) hkl2) ?_
      intro vw19_2 h19_2
      rintro ⟨zw19_2, fw19_2, rfl, how19_2, hfw19_2, e19_2⟩
      replace hN := OS.ext hN e19_2
      have := Ext.size e19_2
      replace eB := Ext.trans eB e19_2
      have hlhow19_2 := OS.lt how19_2
      try simp -implicitDefEqProofs (disch := first | decide | assumption | omega) only [go_sem, RdS.len rR sl26, RdS.idx rR sl26, RdS.cellB rR (Ext.pres eB), RdS.cells rR, RdS.len hr1 sl22, RdS.idx hr1 sl22, R1.intB hr1 (Ext.pres eB), RdS.cells hr1, RdS.len (OS.rd how19_2) sl26, RdS.idx (OS.rd how19_2) sl26, RdS.cellN (OS.rd how19_2), RdS.cells (OS.rd how19_2), wrap_id, Int.toNat_zero]
      refine hK _ _ ?_
      clear hK K
      refine den_ret ?_
      simp (disch := decide) only [resP_1, puts_same, puts_ne]
      have hec : ech p (kerP p w R) = kerQ p R := by rw [kerQ_w hT hR0]; exact hkr.self hP
      rw [hec] at how19_2
      exact ⟨_, _, rfl, how19_2, hfw19_2.mono (by omega), eB⟩
end Go.Proofs.Ytjjjgllbocgkbaa

namespace Go.Proofs.Ytjjjgllbocgkbaa
open Go
theorem Rr.tbl {p : Int} {w : Nat} {L : List (List Int)} {l : Nat → Nat} (r : Rr p w L l) : ∀ x ∈ L, x.length = w ∧ Bnd p x := fun x hx => by
 obtain ⟨i, hi, rfl⟩ := List.getElem_of_mem hx
 have a := r.len i hi
 have b := r.bnd i hi
 rw [List.getD_eq_getElem?_getD, List.getElem?_eq_getElem hi] at a b
 exact ⟨a, b⟩

set_option maxRecDepth 100000 in
theorem sKernel_ok (vR : Value) (p : Int) (n : Int) (R : List (List Int)) (h : Heap) (rR : R2 h vR R) {w : Nat} (hP : isP p = true) (hT : ∀ r ∈ R, r.length = w ∧ Bnd p r) (hw : w ≤ 500) (hl : R.length ≤ 500) (hn : n = (R.length : Int)) : CallA Try.prog 149 #[.int .i64 p, .int .i64 n, vR] h fun v' h' => ∃ w0 f0, v' = w0 ∧ O2 h' w0 (kerQ p R) f0 ∧ Fresh h.size f0 ∧ Ext h h' := by
 have hleR := RdS.le rR
 have hp := isP_two hP
 have hLT := longP_tbl hp.1 hT
 have hEl := ech_len_le hP hLT
 obtain ⟨⟨l, hrE⟩, _⟩ := ech_red hP hLT
 have hll := len_longP R
 have hE0 : R = [] → (ech p (longP R)).length = 0 := fun e => by subst e; rw [longP]; simp only [List.length_nil, List.range_zero, List.map_nil]; rw [ech_nil hp.1]; rfl
 refine callA_intro TTok (args := [_, _, _]) Try.func149 (by kernel_rfl) rfl 68 rfl (by simp) [.tmp 6] rfl ?_
 simp only [idxs, Nat.reduceAdd]
 refine den_seq ?_
 refine den_region TTok ?_
 intro K hK
 simp -implicitDefEqProofs (disch := first | decide | assumption | omega) only [go_sem, RdS.len rR sl26, RdS.idx rR sl26, RdS.cellB rR (HPres.refl _), RdS.cells rR, wrap_id]
 refine hK _ _ ?_
 clear hK K
 refine den_seq ?_
 refine den_region TTok ?_
 intro K hK
 simp -implicitDefEqProofs (disch := first | decide | assumption | omega) only [go_sem, RdS.len rR sl26, RdS.idx rR sl26, RdS.cellB rR (HPres.refl _), RdS.cells rR, wrap_id]
 refine op_bs0 sz26 O1 ?_
 intro v1_0 h1_0 ho1_0 e1_0
 have := Ext.size e1_0
 have eB := e1_0
 have hfho1_0 : Fresh h.size [h.size] := Fresh.one _
 have hlho1_0 := OS.lt ho1_0
 try simp -implicitDefEqProofs (disch := first | decide | assumption | omega) only [go_sem, RdS.len rR sl26, RdS.idx rR sl26, RdS.cellB rR (Ext.pres eB), RdS.cells rR, RdS.len (OS.rd ho1_0) sl26, RdS.idx (OS.rd ho1_0) sl26, RdS.cellN (OS.rd ho1_0), RdS.cells (OS.rd ho1_0), wrap_id]
 refine hK _ _ ?_
 clear hK K
 refine den_seq ?_
 refine den_region TTok ?_
 intro K hK
 simp -implicitDefEqProofs (disch := first | decide | assumption | omega) only [go_sem, RdS.len rR sl26, RdS.idx rR sl26, RdS.cellB rR (Ext.pres eB), RdS.cells rR, RdS.len (OS.rd ho1_0) sl26, RdS.idx (OS.rd ho1_0) sl26, RdS.cellN (OS.rd ho1_0), RdS.cells (OS.rd ho1_0), wrap_id]
 refine hK _ _ ?_
 clear hK K
 refine den_seq ?_
 refine den_seq ?_
 refine den_region TTok ?_
 intro K hK
 simp -implicitDefEqProofs (disch := first | decide | assumption | omega) only [go_sem, RdS.len rR sl26, RdS.idx rR sl26, RdS.cellB rR (Ext.pres eB), RdS.cells rR, RdS.len (OS.rd ho1_0) sl26, RdS.idx (OS.rd ho1_0) sl26, RdS.cellN (OS.rd ho1_0), RdS.cells (OS.rd ho1_0), wrap_id]
 refine hK _ _ ?_
 clear hK K
 refine den_block ?_
 refine den_sel [7, 8, 9, 0, 1, 2] ?_
 intro env_1
 simp only [go_sem]
 refine den_loopS (σ := Nat × Nat × Value × List Nat) (fun st_ => [(7, st_.2.2.1), (8, .int .i64 (st_.2.1 : Int)), (9, .int .i64 (st_.1 : Int))]) (fun st_ H => (st_.1 ≤ R.length) ∧ (0 < st_.1 → st_.2.1 = w) ∧ (O2 H st_.2.2.1 ((List.range st_.1).map fun i => R.getD i default ++ unitP R.length i) st_.2.2.2) ∧ (Fresh (h.size) st_.2.2.2) ∧ (Sub [h.size] h1_0.size st_.2.2.2) ∧ (Chg [h.size] h1_0 H)) (fun st_ => R.length - st_.1) (0, 0, v1_0, [h.size]) ?_ ?_
 ·exact ⟨by simp, fun h => absurd h (by simp), by simpa using ho1_0, hfho1_0, Sub.refl, Chg.refl _ _⟩
 ·rintro ⟨m, wn, vhL, fphL⟩ h4 ee3 ⟨hk, hwd_, hL, hfhL, sbhL, cL2⟩
  dsimp only at hk hwd_ hL hfhL sbhL cL2
  have := cL2.size
  replace eB := Ext.then eB cL2 (ge_of hfho1_0 (by omega))
  have hlhL := OS.lt hL
  simp only [List.cons_append, List.nil_append]
  have hlo_ : ((List.range m).map fun i => R.getD i default ++ unitP R.length i).length = m := by simp
  refine den_seq ?_
  refine den_seq ?_
  refine den_region TTok ?_
  intro K hK
  simp -implicitDefEqProofs (disch := first | decide | assumption | omega) only [go_sem, RdS.len rR sl26, RdS.idx rR sl26, RdS.cellB rR (Ext.pres eB), RdS.cells rR, RdS.len (OS.rd hL) sl26, RdS.idx (OS.rd hL) sl26, RdS.cellN (OS.rd hL), RdS.cells (OS.rd hL), wrap_id]
  refine hK _ _ ?_
  clear hK K
  refine den_cond rfl (fun c0 => ?_) (fun c0 => ?_)
  ·try simp only [decide_eq_true_eq, decide_eq_false_iff_not, beq_iff_eq, beq_eq_false_iff_ne, bne_iff_ne, ne_eq, Bool.not_eq_true', Bool.not_eq_false', Bool.and_eq_true, Bool.or_eq_true, bne_eq_false_iff_eq] at c0
   refine den_skip ?_
   refine den_seq ?_
   refine den_block ?_
   refine den_seq ?_
   refine den_region TTok ?_
   intro K hK
   simp -implicitDefEqProofs (disch := first | decide | assumption | omega) only [go_sem, RdS.len rR sl26, RdS.idx rR sl26, RdS.cellB rR (Ext.pres eB), RdS.cells rR, RdS.len (OS.rd hL) sl26, RdS.idx (OS.rd hL) sl26, RdS.cellN (OS.rd hL), RdS.cells (OS.rd hL), wrap_id]
   refine op_make sz22 rfl rfl (by omega) (by omega) OI 0 (fun _ => ⟨rfl, rfl⟩) ?_
   intro v6_1 h6_1 ho6_1 e6_1
   replace hL := OS.ext hL e6_1
   have := Ext.size e6_1
   replace eB := Ext.trans eB e6_1
   replace cL2 := Chg.stepE cL2 e6_1
   have hfho6_1 : Fresh h4.size [h4.size] := Fresh.one _
   have hlenho6_1 : (List.replicate (n).toNat (0 : Int)).length = (n).toNat := List.length_replicate
   have hlho6_1 := OS.lt ho6_1
   try simp -implicitDefEqProofs (disch := first | decide | assumption | omega) only [go_sem, RdS.len rR sl26, RdS.idx rR sl26, RdS.cellB rR (Ext.pres eB), RdS.cells rR, RdS.len (OS.rd hL) sl26, RdS.idx (OS.rd hL) sl26, RdS.cellN (OS.rd hL), RdS.cells (OS.rd hL), RdS.len (OS.rd ho6_1) sl22, RdS.idx (OS.rd ho6_1) sl22, R1.intN (OS.rd ho6_1), RdS.cells (OS.rd ho6_1), wrap_id]
   refine hK _ _ ?_
   clear hK K
   refine den_seq ?_
   refine den_region TTok ?_
   intro K hK
   simp -implicitDefEqProofs (disch := first | decide | assumption | omega) only [go_sem, RdS.len rR sl26, RdS.idx rR sl26, RdS.cellB rR (Ext.pres eB), RdS.cells rR, RdS.len (OS.rd hL) sl26, RdS.idx (OS.rd hL) sl26, RdS.cellN (OS.rd hL), RdS.cells (OS.rd hL), RdS.len (OS.rd ho6_1) sl22, RdS.idx (OS.rd ho6_1) sl22, R1.intN (OS.rd ho6_1), RdS.cells (OS.rd ho6_1), wrap_id]
   refine op_store1 (j := m) st2 ho6_1 hfho6_1.nodup (by first | omega | (simp; omega)) rfl rfl ?_
   intro h7_3 ho7_3 c7_3
   have hsz7_3 := c7_3.size
   replace hL := OS.chg hL c7_3 (apart_lt hlhL hfho6_1 (by omega))
   have := c7_3.size
   replace eB := Ext.then eB c7_3 (ge_of hfho6_1 (by omega))
   replace cL2 := Chg.step cL2 c7_3 (Sub.fresh hfho6_1 (by omega))
   have hlho7_3 := hlho6_1
   have hlenho7_3 : ((List.replicate (n).toNat 0).set m (1 : Int) : List Int).length = (List.replicate (n).toNat 0 : List Int).length := List.length_set
   try simp -implicitDefEqProofs (disch := first | decide | assumption | omega) only [go_sem, RdS.len rR sl26, RdS.idx rR sl26, RdS.cellB rR (Ext.pres eB), RdS.cells rR, RdS.len (OS.rd hL) sl26, RdS.idx (OS.rd hL) sl26, RdS.cellN (OS.rd hL), RdS.cells (OS.rd hL), RdS.len (OS.rd ho7_3) sl22, RdS.idx (OS.rd ho7_3) sl22, R1.intN (OS.rd ho7_3), RdS.cells (OS.rd ho7_3), wrap_id]
   refine hK _ _ ?_
   clear hK K
   refine den_seq ?_
   have hRk := hT _ (getD_mem (show m < R.length by omega))
   refine den_region TTok ?_
   intro K hK
   have hr5 := RdS.rowN rR m (by omega)
   have hlhr5 := RdS.le hr5
   simp -implicitDefEqProofs (disch := first | decide | assumption | omega) only [go_sem, ld22, RdS.len rR sl26, RdS.idx rR sl26, RdS.cellB rR (Ext.pres eB), RdS.cells rR, RdS.len hr5 sl22, RdS.idx hr5 sl22, R1.intB hr5 (Ext.pres eB), RdS.cells hr5, RdS.len (OS.rd hL) sl26, RdS.idx (OS.rd hL) sl26, RdS.cellN (OS.rd hL), RdS.cells (OS.rd hL), RdS.len (OS.rd ho7_3) sl22, RdS.idx (OS.rd ho7_3) sl22, R1.intN (OS.rd ho7_3), RdS.cells (OS.rd ho7_3), wrap_id]
   refine hK _ _ ?_
   clear hK K
   refine den_region TTok ?_
   intro K hK
   have hr6 := RdS.rowN rR m (by omega)
   have hlhr6 := RdS.le hr6
   simp -implicitDefEqProofs (disch := first | decide | assumption | omega) only [go_sem, ld22, RdS.len rR sl26, RdS.idx rR sl26, RdS.cellB rR (Ext.pres eB), RdS.cells rR, RdS.len hr5 sl22, RdS.idx hr5 sl22, R1.intB hr5 (Ext.pres eB), RdS.cells hr5, RdS.len hr6 sl22, RdS.idx hr6 sl22, R1.intB hr6 (Ext.pres eB), RdS.cells hr6, RdS.len (OS.rd hL) sl26, RdS.idx (OS.rd hL) sl26, RdS.cellN (OS.rd hL), RdS.cells (OS.rd hL), RdS.len (OS.rd ho7_3) sl22, RdS.idx (OS.rd ho7_3) sl22, R1.intN (OS.rd ho7_3), RdS.cells (OS.rd ho7_3), wrap_id]
   try simp -implicitDefEqProofs (disch := first | decide | assumption | omega) only [go_sem, RdS.len rR sl26, RdS.idx rR sl26, RdS.cellB rR (Ext.pres eB), RdS.cells rR, RdS.len hr5 sl22, RdS.idx hr5 sl22, R1.intB hr5 (Ext.pres eB), RdS.cells hr5, RdS.len hr6 sl22, RdS.idx hr6 sl22, R1.intB hr6 (Ext.pres eB), RdS.cells hr6, RdS.len (OS.rd hL) sl26, RdS.idx (OS.rd hL) sl26, RdS.cellN (OS.rd hL), RdS.cells (OS.rd hL), RdS.len (OS.rd ho7_3) sl22, RdS.idx (OS.rd ho7_3) sl22, R1.intN (OS.rd ho7_3), RdS.cells (OS.rd ho7_3), wrap_id]
   refine CallA.mono (sOwn_ok _ ((R).getD m default) _ (RdS.pres hr6 (Ext.pres eB)) (by omega)) ?_
   intro vw9_5_0 h9_5
   rintro ⟨zvw9_5_0, fw9_5_0, rfl, how9_5_0, hfw9_5_0, e9_5⟩
   replace hL := OS.ext hL e9_5
   replace ho7_3 := OS.ext ho7_3 e9_5
   have := Ext.size e9_5
   replace eB := Ext.trans eB e9_5
   replace cL2 := Chg.stepE cL2 e9_5
   have hlhow9_5_0 := OS.lt how9_5_0
   try simp -implicitDefEqProofs (disch := first | decide | assumption | omega) only [go_sem, RdS.len rR sl26, RdS.idx rR sl26, RdS.cellB rR (Ext.pres eB), RdS.cells rR, RdS.len hr5 sl22, RdS.idx hr5 sl22, R1.intB hr5 (Ext.pres eB), RdS.cells hr5, RdS.len hr6 sl22, RdS.idx hr6 sl22, R1.intB hr6 (Ext.pres eB), RdS.cells hr6, RdS.len (OS.rd hL) sl26, RdS.idx (OS.rd hL) sl26, RdS.cellN (OS.rd hL), RdS.cells (OS.rd hL), RdS.len (OS.rd ho7_3) sl22, RdS.idx (OS.rd ho7_3) sl22, R1.intN (OS.rd ho7_3), RdS.cells (OS.rd ho7_3), RdS.len (OS.rd how9_5_0) sl22, RdS.idx (OS.rd how9_5_0) sl22, R1.intN (OS.rd how9_5_0), RdS.cells (OS.rd how9_5_0), wrap_id]
   refine op_appendR how9_5_0 (OS.rd ho7_3) (by first | omega | (simp; omega)) rfl ?_
   intro v9_7 h9_7 fp9_7 ho9_7 hn9_7 hs9_7 c9_7
   have hsz9_7 := c9_7.size
   have hfho9_7 : Fresh h7_3.size fp9_7 := Fresh.appd hfw9_5_0 (Fresh.nil h9_5.size) (by omega) (by omega) hn9_7 hs9_7
   replace hL := OS.chg hL c9_7 (apart_lt hlhL hfw9_5_0 (by omega))
   replace ho7_3 := OS.chg ho7_3 c9_7 (apart_lt hlho7_3 hfw9_5_0 (by omega))
   have := c9_7.size
   replace eB := Ext.then eB c9_7 (ge_of hfw9_5_0 (by omega))
   replace cL2 := Chg.step cL2 c9_7 (Sub.fresh hfw9_5_0 (by omega))
   have hlho9_7 := OS.lt ho9_7
   try simp -implicitDefEqProofs (disch := first | decide | assumption | omega) only [go_sem, RdS.len rR sl26, RdS.idx rR sl26, RdS.cellB rR (Ext.pres eB), RdS.cells rR, RdS.len hr5 sl22, RdS.idx hr5 sl22, R1.intB hr5 (Ext.pres eB), RdS.cells hr5, RdS.len hr6 sl22, RdS.idx hr6 sl22, R1.intB hr6 (Ext.pres eB), RdS.cells hr6, RdS.len (OS.rd hL) sl26, RdS.idx (OS.rd hL) sl26, RdS.cellN (OS.rd hL), RdS.cells (OS.rd hL), RdS.len (OS.rd ho7_3) sl22, RdS.idx (OS.rd ho7_3) sl22, R1.intN (OS.rd ho7_3), RdS.cells (OS.rd ho7_3), RdS.len (OS.rd ho9_7) sl22, RdS.idx (OS.rd ho9_7) sl22, R1.intN (OS.rd ho9_7), RdS.cells (OS.rd ho9_7), wrap_id]
   refine op_bs1 sz26 rfl (OS.one ho9_7).2 ?_
   try simp -implicitDefEqProofs (disch := first | decide | assumption | omega) only [go_sem, RdS.len rR sl26, RdS.idx rR sl26, RdS.cellB rR (Ext.pres eB), RdS.cells rR, RdS.len hr5 sl22, RdS.idx hr5 sl22, R1.intB hr5 (Ext.pres eB), RdS.cells hr5, RdS.len hr6 sl22, RdS.idx hr6 sl22, R1.intB hr6 (Ext.pres eB), RdS.cells hr6, RdS.len (OS.rd hL) sl26, RdS.idx (OS.rd hL) sl26, RdS.cellN (OS.rd hL), RdS.cells (OS.rd hL), RdS.len (OS.rd ho7_3) sl22, RdS.idx (OS.rd ho7_3) sl22, R1.intN (OS.rd ho7_3), RdS.cells (OS.rd ho7_3), RdS.len (OS.rd ho9_7) sl22, RdS.idx (OS.rd ho9_7) sl22, R1.intN (OS.rd ho9_7), RdS.cells (OS.rd ho9_7), wrap_id]
   refine op_append1 sz26 hL hfhL.nodup ho9_7 hfho9_7.nodup (apart_lt hlhL hfho9_7 (by omega)) (by first | omega | (simp; omega)) rfl rfl ?_
   intro v9_9 h9_9 fp9_9 ho9_9 hn9_9 hs9_9 c9_9
   have hsz9_9 := c9_9.size
   have hfho9_9 : Fresh h.size fp9_9 := Fresh.appd hfhL hfho9_7 (by omega) (by omega) hn9_9 hs9_9
   have sb7 : Sub [h.size] h1_0.size fp9_9 := Sub.grow sbhL (Sub.fresh hfho9_7 (by omega)) (by omega) hs9_9
   replace ho7_3 := OS.chg ho7_3 c9_9 (apart_gt hfho6_1 hlhL (by omega))
   have := c9_9.size
   replace eB := Ext.then eB c9_9 (ge_of hfhL (by omega))
   replace cL2 := Chg.step cL2 c9_9 sbhL
   have ap8 : Apart [h4.size] fp9_9 := Apart.grow hlho7_3 (by omega) (apart_gt hfho6_1 hlhL (by omega)) (apart_lt hlho7_3 hfho9_7 (by omega)) hs9_9
   have hlho9_9 := OS.lt ho9_9
   try simp -implicitDefEqProofs (disch := first | decide | assumption | omega) only [go_sem, RdS.len rR sl26, RdS.idx rR sl26, RdS.cellB rR (Ext.pres eB), RdS.cells rR, RdS.len hr5 sl22, RdS.idx hr5 sl22, R1.intB hr5 (Ext.pres eB), RdS.cells hr5, RdS.len hr6 sl22, RdS.idx hr6 sl22, R1.intB hr6 (Ext.pres eB), RdS.cells hr6, RdS.len (OS.rd ho7_3) sl22, RdS.idx (OS.rd ho7_3) sl22, R1.intN (OS.rd ho7_3), RdS.cells (OS.rd ho7_3), RdS.len (OS.rd ho9_9) sl26, RdS.idx (OS.rd ho9_9) sl26, RdS.cellN (OS.rd ho9_9), RdS.cells (OS.rd ho9_9), wrap_id]
   refine hK _ _ ?_
   clear hK K
   refine den_blk ?_
   refine den_region TTok ?_
   intro K hK
   simp -implicitDefEqProofs (disch := first | decide | assumption | omega) only [go_sem, RdS.len rR sl26, RdS.idx rR sl26, RdS.cellB rR (Ext.pres eB), RdS.cells rR, RdS.len hr5 sl22, RdS.idx hr5 sl22, R1.intB hr5 (Ext.pres eB), RdS.cells hr5, RdS.len hr6 sl22, RdS.idx hr6 sl22, R1.intB hr6 (Ext.pres eB), RdS.cells hr6, RdS.len (OS.rd ho9_9) sl26, RdS.idx (OS.rd ho9_9) sl26, RdS.cellN (OS.rd ho9_9), RdS.cells (OS.rd ho9_9), wrap_id]
   refine hK _ _ ?_
   clear hK K
   refine den_stop ?_
   rw [show (List.replicate n.toNat (0 : Int)).set m 1 = unitP R.length m by rw [hn, Int.toNat_natCast]; rfl, longP_step (by omega)] at ho9_9
   exact ⟨(m + 1, (R.getD m default).length, v9_9, fp9_9), by simp [HasL, puts_at], ⟨by dsimp only; omega, (fun _ => hRk.1), ho9_9, hfho9_9, sb7, cL2⟩, by first | omega | (dsimp only; omega)⟩
  ·try simp only [decide_eq_true_eq, decide_eq_false_iff_not, beq_iff_eq, beq_eq_false_iff_ne, bne_iff_ne, ne_eq, Bool.not_eq_true', Bool.not_eq_false', Bool.and_eq_true, Bool.or_eq_true, bne_eq_false_iff_eq] at c0
   refine den_exit ?_
   refine denX_code ?_
   refine denX_stop ?_
   refine denX_hit ?_
   refine den_seq ?_
   rw [show ((List.range m).map fun i => R.getD i default ++ unitP R.length i) = longP R by rw [longP, show R.length = m by omega]] at hL
   have hredT := hLT
   refine den_region TTok ?_
   intro K hK
   simp -implicitDefEqProofs (disch := first | decide | assumption | omega) only [go_sem, RdS.len rR sl26, RdS.idx rR sl26, RdS.cellB rR (Ext.pres eB), RdS.cells rR, RdS.len (OS.rd hL) sl26, RdS.idx (OS.rd hL) sl26, RdS.cellN (OS.rd hL), RdS.cells (OS.rd hL), wrap_id]
   try simp -implicitDefEqProofs (disch := first | decide | assumption | omega) only [go_sem, RdS.len rR sl26, RdS.idx rR sl26, RdS.cellB rR (Ext.pres eB), RdS.cells rR, RdS.len (OS.rd hL) sl26, RdS.idx (OS.rd hL) sl26, RdS.cellN (OS.rd hL), RdS.cells (OS.rd hL), wrap_id]
   refine CallA.mono (sEch_ok _ p (longP R) _ (OS.rd hL) hP hredT (by omega) (by omega)) ?_
   intro vw10_2_0 h10_2
   rintro ⟨zvw10_2_0, fw10_2_0, rfl, how10_2_0, hfw10_2_0, e10_2⟩
   replace hL := OS.ext hL e10_2
   have := Ext.size e10_2
   replace eB := Ext.trans eB e10_2
   have hlhow10_2_0 := OS.lt how10_2_0
   try simp -implicitDefEqProofs (disch := first | decide | assumption | omega) only [go_sem, RdS.len rR sl26, RdS.idx rR sl26, RdS.cellB rR (Ext.pres eB), RdS.cells rR, RdS.len (OS.rd hL) sl26, RdS.idx (OS.rd hL) sl26, RdS.cellN (OS.rd hL), RdS.cells (OS.rd hL), RdS.len (OS.rd how10_2_0) sl26, RdS.idx (OS.rd how10_2_0) sl26, RdS.cellN (OS.rd how10_2_0), RdS.cells (OS.rd how10_2_0), wrap_id]
   refine op_bs0 sz26 O1 ?_
   intro v10_3 h10_3 ho10_3 e10_3
   replace hL := OS.ext hL e10_3
   replace how10_2_0 := OS.ext how10_2_0 e10_3
   have := Ext.size e10_3
   replace eB := Ext.trans eB e10_3
   have hfho10_3 : Fresh h10_2.size [h10_2.size] := Fresh.one _
   have hlho10_3 := OS.lt ho10_3
   try simp -implicitDefEqProofs (disch := first | decide | assumption | omega) only [go_sem, RdS.len rR sl26, RdS.idx rR sl26, RdS.cellB rR (Ext.pres eB), RdS.cells rR, RdS.len (OS.rd hL) sl26, RdS.idx (OS.rd hL) sl26, RdS.cellN (OS.rd hL), RdS.cells (OS.rd hL), RdS.len (OS.rd how10_2_0) sl26, RdS.idx (OS.rd how10_2_0) sl26, RdS.cellN (OS.rd how10_2_0), RdS.cells (OS.rd how10_2_0), RdS.len (OS.rd ho10_3) sl26, RdS.idx (OS.rd ho10_3) sl26, RdS.cellN (OS.rd ho10_3), RdS.cells (OS.rd ho10_3), wrap_id]
   refine hK _ _ ?_
   clear hK K
   refine den_seq ?_
   refine den_seq ?_
   refine den_region TTok ?_
   intro K hK
   simp -implicitDefEqProofs (disch := first | decide | assumption | omega) only [go_sem, RdS.len rR sl26, RdS.idx rR sl26, RdS.cellB rR (Ext.pres eB), RdS.cells rR, RdS.len (OS.rd how10_2_0) sl26, RdS.idx (OS.rd how10_2_0) sl26, RdS.cellN (OS.rd how10_2_0), RdS.cells (OS.rd how10_2_0), RdS.len (OS.rd ho10_3) sl26, RdS.idx (OS.rd ho10_3) sl26, RdS.cellN (OS.rd ho10_3), RdS.cells (OS.rd ho10_3), wrap_id]
   refine hK _ _ ?_
   clear hK K
   refine den_block ?_
   refine den_sel [12, 13, 8, 11] ?_
   intro env_9
   simp only [go_sem]
   refine den_loopS (σ := Nat × Value × List Nat) (fun st_ => [(12, st_.2.1), (13, .int .i64 (st_.1 : Int))]) (fun st_ H => (st_.1 ≤ (ech p (longP R)).length) ∧ (O2 H st_.2.1 ((((ech p (longP R)).take st_.1).filter (fun r : List Int => decide ((w : Int) ≤ leadP r))).map (fun r : List Int => r.drop w)) st_.2.2) ∧ (Fresh (h10_2.size) st_.2.2) ∧ (Sub [h10_2.size] h10_3.size st_.2.2) ∧ (Chg [h10_2.size] h10_3 H)) (fun st_ => (ech p (longP R)).length - st_.1) (0, v10_3, [h10_2.size]) ?_ ?_
   ·exact ⟨by simp, by simpa using ho10_3, hfho10_3, Sub.refl, Chg.refl _ _⟩
   ·rintro ⟨k, vhN, fphN⟩ h12 ee11 ⟨hk2, hN, hfhN, sbhN, cL10⟩
    dsimp only at hk2 hN hfhN sbhN cL10
    replace how10_2_0 := OS.chg how10_2_0 cL10 (apart_lt hlhow10_2_0 hfho10_3 (by omega))
    have := cL10.size
    replace eB := Ext.then eB cL10 (ge_of hfho10_3 (by omega))
    have hlhN := OS.lt hN
    simp only [List.cons_append, List.nil_append]
    have hol := fm_len (f := (fun r : List Int => decide ((w : Int) ≤ leadP r))) (g := (fun r : List Int => r.drop w)) (xs := (ech p (longP R))) hk2
    refine den_seq ?_
    refine den_seq ?_
    refine den_region TTok ?_
    intro K hK
    simp -implicitDefEqProofs (disch := first | decide | assumption | omega) only [go_sem, RdS.len rR sl26, RdS.idx rR sl26, RdS.cellB rR (Ext.pres eB), RdS.cells rR, RdS.len (OS.rd how10_2_0) sl26, RdS.idx (OS.rd how10_2_0) sl26, RdS.cellN (OS.rd how10_2_0), RdS.cells (OS.rd how10_2_0), RdS.len (OS.rd hN) sl26, RdS.idx (OS.rd hN) sl26, RdS.cellN (OS.rd hN), RdS.cells (OS.rd hN), wrap_id]
    refine hK _ _ ?_
    clear hK K
    refine den_cond rfl (fun c1 => ?_) (fun c1 => ?_)
    ·try simp only [decide_eq_true_eq, decide_eq_false_iff_not, beq_iff_eq, beq_eq_false_iff_ne, bne_iff_ne, ne_eq, Bool.not_eq_true', Bool.not_eq_false', Bool.and_eq_true, Bool.or_eq_true, bne_eq_false_iff_eq] at c1
     refine den_skip ?_
     refine den_seq ?_
     refine den_block ?_
     refine den_seq ?_
     have hR0 : 0 < R.length := Nat.pos_of_ne_zero fun e_ => by have := hE0 (List.length_eq_zero_iff.1 e_); omega
     have hwd := hwd_ (by omega)
     refine den_region TTok ?_
     intro K hK
     have hr13 := RdS.rowN (OS.rd how10_2_0) k (by omega)
     have hlhr13 := RdS.le hr13
     have xr14 := Ext.refl h12
     simp -implicitDefEqProofs (disch := first | decide | assumption | omega) only [go_sem, ld22, RdS.len rR sl26, RdS.idx rR sl26, RdS.cellB rR (Ext.pres eB), RdS.cells rR, RdS.len (OS.rd how10_2_0) sl26, RdS.idx (OS.rd how10_2_0) sl26, RdS.cellN (OS.rd how10_2_0), RdS.cells (OS.rd how10_2_0), RdS.len (OS.rd hN) sl26, RdS.idx (OS.rd hN) sl26, RdS.cellN (OS.rd hN), RdS.cells (OS.rd hN), RdS.len hr13 sl22, RdS.idx hr13 sl22, R1.intB hr13 (Ext.pres xr14), RdS.cells hr13, wrap_id, hwd]
     try simp -implicitDefEqProofs (disch := first | decide | assumption | omega) only [go_sem, RdS.len rR sl26, RdS.idx rR sl26, RdS.cellB rR (Ext.pres eB), RdS.cells rR, RdS.len (OS.rd how10_2_0) sl26, RdS.idx (OS.rd how10_2_0) sl26, RdS.cellN (OS.rd how10_2_0), RdS.cells (OS.rd how10_2_0), RdS.len (OS.rd hN) sl26, RdS.idx (OS.rd hN) sl26, RdS.cellN (OS.rd hN), RdS.cells (OS.rd hN), RdS.len hr13 sl22, RdS.idx hr13 sl22, R1.intB hr13 (Ext.pres xr14), RdS.cells hr13, wrap_id, hwd]
     refine CallA.pure (sLead_ok _ ((ech p (longP R)).getD k default) _ (RdS.pres hr13 (Ext.pres xr14))) ?_
     try simp -implicitDefEqProofs (disch := first | decide | assumption | omega) only [go_sem, RdS.len rR sl26, RdS.idx rR sl26, RdS.cellB rR (Ext.pres eB), RdS.cells rR, RdS.len (OS.rd how10_2_0) sl26, RdS.idx (OS.rd how10_2_0) sl26, RdS.cellN (OS.rd how10_2_0), RdS.cells (OS.rd how10_2_0), RdS.len (OS.rd hN) sl26, RdS.idx (OS.rd hN) sl26, RdS.cellN (OS.rd hN), RdS.cells (OS.rd hN), RdS.len hr13 sl22, RdS.idx hr13 sl22, R1.intB hr13 (Ext.pres xr14), RdS.cells hr13, wrap_id, hwd]
     refine hK _ _ ?_
     clear hK K
     refine den_cond rfl (fun c2 => ?_) (fun c2 => ?_)
     ·try simp only [decide_eq_true_eq, decide_eq_false_iff_not, beq_iff_eq, beq_eq_false_iff_ne, bne_iff_ne, ne_eq, Bool.not_eq_true', Bool.not_eq_false', Bool.and_eq_true, Bool.or_eq_true, bne_eq_false_iff_eq] at c2
      obtain ⟨vs, hes, hRs⟩ := RdS.dropV (k := .i64) (RdS.rowN (OS.rd how10_2_0) k (by omega)) sl22 (lo := (w : Int)) (by omega) (by have := hrE.len k (by omega); omega)
      rw [Int.toNat_natCast] at hRs
      have hdl_ : (((ech p (longP R)).getD k default).drop w).length ≤ 1000 := by rw [List.length_drop]; have := hrE.len k (by omega); omega
      refine den_region TTok ?_
      intro K hK
      have hr15 := RdS.rowN (OS.rd how10_2_0) k (by omega)
      have hlhr15 := RdS.le hr15
      have xr16 := Ext.refl h12
      simp -implicitDefEqProofs (disch := first | decide | assumption | omega) only [go_sem, ld22, RdS.len rR sl26, RdS.idx rR sl26, RdS.cellB rR (Ext.pres eB), RdS.cells rR, RdS.len (OS.rd how10_2_0) sl26, RdS.idx (OS.rd how10_2_0) sl26, RdS.cellN (OS.rd how10_2_0), RdS.cells (OS.rd how10_2_0), RdS.len (OS.rd hN) sl26, RdS.idx (OS.rd hN) sl26, RdS.cellN (OS.rd hN), RdS.cells (OS.rd hN), RdS.len hr13 sl22, RdS.idx hr13 sl22, R1.intB hr13 (Ext.pres xr14), RdS.cells hr13, RdS.len hr15 sl22, RdS.idx hr15 sl22, R1.intB hr15 (Ext.pres xr16), RdS.cells hr15, wrap_id, hwd, hes, Option.map_some, Option.map_none]
      try simp -implicitDefEqProofs (disch := first | decide | assumption | omega) only [go_sem, RdS.len rR sl26, RdS.idx rR sl26, RdS.cellB rR (Ext.pres eB), RdS.cells rR, RdS.len (OS.rd how10_2_0) sl26, RdS.idx (OS.rd how10_2_0) sl26, RdS.cellN (OS.rd how10_2_0), RdS.cells (OS.rd how10_2_0), RdS.len (OS.rd hN) sl26, RdS.idx (OS.rd hN) sl26, RdS.cellN (OS.rd hN), RdS.cells (OS.rd hN), RdS.len hr13 sl22, RdS.idx hr13 sl22, R1.intB hr13 (Ext.pres xr14), RdS.cells hr13, RdS.len hr15 sl22, RdS.idx hr15 sl22, R1.intB hr15 (Ext.pres xr16), RdS.cells hr15, wrap_id, hwd, hes, Option.map_some, Option.map_none]
      refine CallA.mono (sOwn_ok _ (((ech p (longP R)).getD k default).drop w) _ hRs (by omega)) ?_
      intro vw15_7_0 h15_7
      rintro ⟨zvw15_7_0, fw15_7_0, rfl, how15_7_0, hfw15_7_0, e15_7⟩
      replace how10_2_0 := OS.ext how10_2_0 e15_7
      replace hN := OS.ext hN e15_7
      have := Ext.size e15_7
      replace eB := Ext.trans eB e15_7
      replace xr14 := Ext.trans xr14 e15_7
      replace xr16 := Ext.trans xr16 e15_7
      replace cL10 := Chg.stepE cL10 e15_7
      have hlhow15_7_0 := OS.lt how15_7_0
      try simp -implicitDefEqProofs (disch := first | decide | assumption | omega) only [go_sem, RdS.len rR sl26, RdS.idx rR sl26, RdS.cellB rR (Ext.pres eB), RdS.cells rR, RdS.len (OS.rd how10_2_0) sl26, RdS.idx (OS.rd how10_2_0) sl26, RdS.cellN (OS.rd how10_2_0), RdS.cells (OS.rd how10_2_0), RdS.len (OS.rd hN) sl26, RdS.idx (OS.rd hN) sl26, RdS.cellN (OS.rd hN), RdS.cells (OS.rd hN), RdS.len (OS.rd how15_7_0) sl22, RdS.idx (OS.rd how15_7_0) sl22, R1.intN (OS.rd how15_7_0), RdS.cells (OS.rd how15_7_0), RdS.len hr13 sl22, RdS.idx hr13 sl22, R1.intB hr13 (Ext.pres xr14), RdS.cells hr13, RdS.len hr15 sl22, RdS.idx hr15 sl22, R1.intB hr15 (Ext.pres xr16), RdS.cells hr15, wrap_id, hwd, hes, Option.map_some, Option.map_none]
      refine op_bs1 sz26 rfl (OS.one how15_7_0).2 ?_
      try simp -implicitDefEqProofs (disch := first | decide | assumption | omega) only [go_sem, RdS.len rR sl26, RdS.idx rR sl26, RdS.cellB rR (Ext.pres eB), RdS.cells rR, RdS.len (OS.rd how10_2_0) sl26, RdS.idx (OS.rd how10_2_0) sl26, RdS.cellN (OS.rd how10_2_0), RdS.cells (OS.rd how10_2_0), RdS.len (OS.rd hN) sl26, RdS.idx (OS.rd hN) sl26, RdS.cellN (OS.rd hN), RdS.cells (OS.rd hN), RdS.len (OS.rd how15_7_0) sl22, RdS.idx (OS.rd how15_7_0) sl22, R1.intN (OS.rd how15_7_0), RdS.cells (OS.rd how15_7_0), RdS.len hr13 sl22, RdS.idx hr13 sl22, R1.intB hr13 (Ext.pres xr14), RdS.cells hr13, RdS.len hr15 sl22, RdS.idx hr15 sl22, R1.intB hr15 (Ext.pres xr16), RdS.cells hr15, wrap_id, hwd, hes, Option.map_some, Option.map_none]
      refine op_append1 sz26 hN hfhN.nodup how15_7_0 hfw15_7_0.nodup (apart_lt hlhN hfw15_7_0 (by omega)) (by first | omega | (simp; omega)) rfl rfl ?_
      intro v15_9 h15_9 fp15_9 ho15_9 hn15_9 hs15_9 c15_9
      have hsz15_9 := c15_9.size
      have hfho15_9 : Fresh h10_2.size fp15_9 := Fresh.appd hfhN hfw15_7_0 (by omega) (by omega) hn15_9 hs15_9
      have sb17 : Sub [h10_2.size] h10_3.size fp15_9 := Sub.grow sbhN (Sub.fresh hfw15_7_0 (by omega)) (by omega) hs15_9
      replace how10_2_0 := OS.chg how10_2_0 c15_9 (apart_lt hlhow10_2_0 hfhN (by omega))
      have := c15_9.size
      replace eB := Ext.then eB c15_9 (ge_of hfhN (by omega))
      replace cL10 := Chg.step cL10 c15_9 sbhN
      have hlho15_9 := OS.lt ho15_9
      try simp -implicitDefEqProofs (disch := first | decide | assumption | omega) only [go_sem, RdS.len rR sl26, RdS.idx rR sl26, RdS.cellB rR (Ext.pres eB), RdS.cells rR, RdS.len (OS.rd how10_2_0) sl26, RdS.idx (OS.rd how10_2_0) sl26, RdS.cellN (OS.rd how10_2_0), RdS.cells (OS.rd how10_2_0), RdS.len (OS.rd ho15_9) sl26, RdS.idx (OS.rd ho15_9) sl26, RdS.cellN (OS.rd ho15_9), RdS.cells (OS.rd ho15_9), wrap_id, hwd, hes, Option.map_some, Option.map_none]
      refine hK _ _ ?_
      clear hK K
      refine den_blk ?_
      refine den_region TTok ?_
      intro K hK
      simp -implicitDefEqProofs (disch := first | decide | assumption | omega) only [go_sem, RdS.len rR sl26, RdS.idx rR sl26, RdS.cellB rR (Ext.pres eB), RdS.cells rR, RdS.len (OS.rd how10_2_0) sl26, RdS.idx (OS.rd how10_2_0) sl26, RdS.cellN (OS.rd how10_2_0), RdS.cells (OS.rd how10_2_0), RdS.len (OS.rd ho15_9) sl26, RdS.idx (OS.rd ho15_9) sl26, RdS.cellN (OS.rd ho15_9), RdS.cells (OS.rd ho15_9), wrap_id]
      refine hK _ _ ?_
      clear hK K
      refine den_stop ?_
      first | rw [fm_yes (f := (fun r : List Int => decide ((w : Int) ≤ leadP r))) (g := (fun r : List Int => r.drop w)) (by omega) (decide_eq_true (by have h1 := c2; omega))] at ho15_9 | rw [fm_no (f := (fun r : List Int => decide ((w : Int) ≤ leadP r))) (g := (fun r : List Int => r.drop w)) (d := default) (by omega) (decide_eq_false (by have h1 := c2; omega))] at ho15_9
      exact ⟨(k + 1, v15_9, fp15_9), by simp [HasL, puts_at, hwd], ⟨by first | omega | (dsimp only; omega), ho15_9, hfho15_9, sb17, cL10⟩, by first | omega | (dsimp only; omega)⟩
     ·try simp only [decide_eq_true_eq, decide_eq_false_iff_not, beq_iff_eq, beq_eq_false_iff_ne, bne_iff_ne, ne_eq, Bool.not_eq_true', Bool.not_eq_false', Bool.and_eq_true, Bool.or_eq_true, bne_eq_false_iff_eq] at c2
      refine den_skip ?_
      refine den_blk ?_
      refine den_region TTok ?_
      intro K hK
      simp -implicitDefEqProofs (disch := first | decide | assumption | omega) only [go_sem, RdS.len rR sl26, RdS.idx rR sl26, RdS.cellB rR (Ext.pres eB), RdS.cells rR, RdS.len (OS.rd how10_2_0) sl26, RdS.idx (OS.rd how10_2_0) sl26, RdS.cellN (OS.rd how10_2_0), RdS.cells (OS.rd how10_2_0), RdS.len (OS.rd hN) sl26, RdS.idx (OS.rd hN) sl26, RdS.cellN (OS.rd hN), RdS.cells (OS.rd hN), RdS.len hr13 sl22, RdS.idx hr13 sl22, R1.intB hr13 (Ext.pres xr14), RdS.cells hr13, wrap_id]
      refine hK _ _ ?_
      clear hK K
      refine den_stop ?_
      first | rw [fm_yes (f := (fun r : List Int => decide ((w : Int) ≤ leadP r))) (g := (fun r : List Int => r.drop w)) (by omega) (decide_eq_true (by have h1 := c2; omega))] at hN | rw [fm_no (f := (fun r : List Int => decide ((w : Int) ≤ leadP r))) (g := (fun r : List Int => r.drop w)) (d := default) (by omega) (decide_eq_false (by have h1 := c2; omega))] at hN
      exact ⟨(k + 1, vhN, fphN), by simp [HasL, puts_at, hwd], ⟨by first | omega | (dsimp only; omega), hN, hfhN, sbhN, cL10⟩, by first | omega | (dsimp only; omega)⟩
    ·try simp only [decide_eq_true_eq, decide_eq_false_iff_not, beq_iff_eq, beq_eq_false_iff_ne, bne_iff_ne, ne_eq, Bool.not_eq_true', Bool.not_eq_false', Bool.and_eq_true, Bool.or_eq_true, bne_eq_false_iff_eq] at c1
     refine den_exit ?_
     refine denX_code ?_
     refine denX_stop ?_
     refine denX_hit ?_
     refine den_seq ?_
     refine den_region TTok ?_
     intro K hK
     simp -implicitDefEqProofs (disch := first | decide | assumption | omega) only [go_sem, RdS.len rR sl26, RdS.idx rR sl26, RdS.cellB rR (Ext.pres eB), RdS.cells rR, RdS.len (OS.rd hN) sl26, RdS.idx (OS.rd hN) sl26, RdS.cellN (OS.rd hN), RdS.cells (OS.rd hN), wrap_id]
     refine hK _ _ ?_
     clear hK K
     refine den_ret ?_
     simp (disch := decide) only [resP_1, puts_same, puts_ne]
     have hec : kerQ p R = (((ech p (longP R)).take k).filter (fun r : List Int => decide ((w : Int) ≤ leadP r))).map (fun r : List Int => r.drop w) := by
      by_cases e_ : R = []
      ·subst e_
       rw [kerQ_nil hp.1, List.length_eq_zero_iff.1 (hE0 rfl)]; simp
      ·rw [kerQ_w hT e_, kerP, List.take_of_length_le (i := k) (by omega)]
     rw [hec]
     exact ⟨_, _, rfl, hN, hfhN.mono (by omega), eB⟩
end Go.Proofs.Ytjjjgllbocgkbaa

namespace Go.Proofs.Ytjjjgllbocgkbaa
open Go
theorem getD_ext {A B : List Int} (hl : A.length = B.length) (h : ∀ n, n < A.length → A.getD n 0 = B.getD n 0) : A = B := by
 apply List.ext_getElem hl
 intro n h1 h2
 have := h n h1
 rwa [List.getD_eq_getElem?_getD, List.getD_eq_getElem?_getD, List.getElem?_eq_getElem h1, List.getElem?_eq_getElem h2] at this
end Go.Proofs.Ytjjjgllbocgkbaa

namespace Go.Proofs.Ytjjjgllbocgkbaa
open Go
structure PvOk (X Y : Cx) (i : Int) (u : List Int) (j : Int) (v : List Int) : Prop where
 cX : IsC X
 cY : IsC Y
 p : 0 < X.p ∧ X.p ≤ 7
 ci : 0 ≤ i ∧ i ≤ (X.dims.length : Int) - 1
 cj : 0 ≤ j ∧ j ≤ (Y.dims.length : Int) - 1
 lX : X.dims.length ≤ 6
 lY : Y.dims.length ≤ 6
 cu : (u.length : Int) = dimP X i ∧ Bnd X.p u
 cv : (v.length : Int) = dimP Y j ∧ Bnd X.p v
end Go.Proofs.Ytjjjgllbocgkbaa

namespace Go.Proofs.Ytjjjgllbocgkbaa
open Go
section
variable {P : Program} {n : Nat} {K : Env → Heap → Prop} {env : Env} {h : Heap} {d : Option Tmp} {ty : TypeId} {p : String} {a : Array Edge} {g : Option (Nat × Bool)}
end
def famAt (X Y : Cx) (f : List (List (List Int))) (s : Int) (n : Nat) : Bool := tableP X.p (f.getD n default) (X.dims.getD n 0) (dimP Y ((n : Int) + s))
structure IsFam (X Y : Cx) (f : List (List (List Int))) (s : Int) : Prop where
 len : f.length = X.dims.length
 rows : ∀ n, n < f.length → famAt X Y f s n = true
theorem famAt_iff {X Y : Cx} {f : List (List (List Int))} {s : Int} {n : Nat} : famAt X Y f s n = true ↔ ((f.getD n default).length : Int) = X.dims.getD n 0 ∧ (f.getD n default).all (isRow X.p (dimP Y ((n : Int) + s))) = true := by
 simp only [famAt, tableP, Bool.and_eq_true, decide_eq_true_eq]
theorem IsFam.at {X Y : Cx} {f : List (List (List Int))} {s : Int} (h : IsFam X Y f s) {n : Nat} (hn : n < f.length) : ((f.getD n default).length : Int) = X.dims.getD n 0 ∧ Tbl X.p (dimP Y ((n : Int) + s)) (f.getD n default) := tableP_iff.1 (h.rows n hn)
theorem IsFam.row {X Y : Cx} {f : List (List (List Int))} {s : Int} (h : IsFam X Y f s) {n i : Nat} (hn : n < f.length) (hi : i < (f.getD n default).length) : isRow X.p (dimP Y ((n : Int) + s)) ((f.getD n default).getD i default) = true := all_at (d := default) (famAt_iff.1 (h.rows n hn)).2 hi
end Go.Proofs.Ytjjjgllbocgkbaa

namespace Go.Proofs.Ytjjjgllbocgkbaa
open Go
/-- What a round of the test of chain maps knows. -/
structure ChnR (X Y : Cx) (f : List (List (List Int))) (k i : Nat) : Prop where
 hi : i < (X.maps.getD k default).length
 ml : k < X.maps.length
 row : (((X.maps.getD k default).getD i default).length : Int) = X.dims.getD k 0 ∧ Bnd X.p ((X.maps.getD k default).getD i default)
 img : (((f.getD ((k : Int) + 1).toNat default).getD i default).length : Int) = Y.dims.getD ((k : Int) + 1).toNat 0 ∧ Bnd Y.p ((f.getD ((k : Int) + 1).toNat default).getD i default)
end Go.Proofs.Ytjjjgllbocgkbaa

namespace Go.Proofs.Ytjjjgllbocgkbaa
open Go
structure SumOk (p : Int) (f g : List (List (List Int))) : Prop where
 len : f.length = g.length ∧ f.length ≤ 6
 rows : ∀ n, n < f.length → (f.getD n default).length = (g.getD n default).length ∧ (f.getD n default).length ≤ 8
 row : ∀ n i, n < f.length → i < (f.getD n default).length → ((f.getD n default).getD i default).length = ((g.getD n default).getD i default).length ∧ ((f.getD n default).getD i default).length ≤ 8 ∧ Bnd p ((f.getD n default).getD i default) ∧ Bnd p ((g.getD n default).getD i default)
end Go.Proofs.Ytjjjgllbocgkbaa

namespace Go.Proofs.Ytjjjgllbocgkbaa
open Go
/-- A row that is one's own, or one that lies in other blocks. -/
def EM (h0 : Heap) (fE : List Nat) (h : Heap) (u : Value) (x : List Int) (fp : List Nat) : Prop := O1 h u x fp ∨ ESt h0 fE h u x fp
instance {h0 : Heap} {fE : List Nat} : Own (EM h0 fE) := ⟨fun hl h => h.elim (fun a => .inl (Own.loc hl a)) .inr, (fun h => h.elim Own.lt fun a b hb => by rw [a.1] at hb; cases hb), (fun h => h.elim Own.one fun a => a.2.1)⟩
abbrev O2M (h0 : Heap) (fE : List Nat) : Heap → Value → List (List Int) → List Nat → Prop := OS 22 (EM h0 fE)
theorem O2M.nil {h0 : Heap} {fE : List Nat} {h : Heap} {v : Value} {fp : List Nat} (ho : O2 h v [] fp) : O2M h0 fE h v [] fp := by
 rcases ho with ⟨h1, _, h3⟩ | ⟨b, c, cur, fps, rfl, r⟩
 ·exact .inl ⟨h1, rfl, h3⟩
 ·exact .inr ⟨b, c, cur, fps, rfl, ⟨r.val, r.box, r.size, r.max, r.le, r.len, fun j hj => by simp at hj⟩⟩
theorem O2M.rd {h0 : Heap} {fE : List Nat} {h : Heap} {v : Value} {xs : List (List Int)} {fp : List Nat} (ho : O2M h0 fE h v xs fp) (hag : Agr fE h0 h) : R2 h v xs := by
 rcases ho with ⟨rfl, rfl, _⟩ | ⟨b, c, cur, fps, _, r⟩
 ·exact ⟨none, 0, rfl, .inr rfl, by simp, by omega, fun j hj => by simp at hj⟩
 ·refine ⟨some ⟨b, 0, none⟩, c, r.val, .inl rfl, r.le, r.max, fun j hj => ?_⟩
  obtain ⟨u, f, h1, _, h4⟩ := r.el j hj
  refine ⟨u, ?_, h4.elim (fun a => OS.rd a) fun a => a.2.2 h hag⟩
  rw [r.val]
  simp only [sA]
  rw [addr_add, r.box.cell, Nat.zero_add, h1]
theorem ES.row {h : Heap} {vE : Value} {E : List (List Int)} {fE : List Nat} (hE : O2 h vE E fE) (hn : fE.Nodup) {i : Nat} (hi : i < E.length) {H : Heap} : ESt h fE H (rowV h vE i) (E.getD i default) [] := by
 obtain ⟨f, hO, hsub, _, _⟩ := OS.elem hE hn i hi
 exact ⟨rfl, Own.one hO, fun h' hg => OS.rd (show O1 h' (rowV h vE i) (E.getD i default) f from Own.loc (fun b hb => hg b (hsub b hb)) hO)⟩
theorem getD_elem {α : Type} [Inhabited α] {xs : List α} {j : Nat} (hj : j < xs.length) : xs[j] = xs.getD j default := by
 rw [List.getD_eq_getElem?_getD, List.getElem?_eq_getElem hj]; rfl
structure RkOk (X Y : Cx) (f : List (List (List Int))) (n : Int) : Prop where
 cX : IsC X
 cY : IsC Y
 cf : IsFam X Y f 0
 p : X.p = Y.p
 n0 : 0 ≤ n
 n1 : n ≤ (X.dims.length : Int) - 1
end Go.Proofs.Ytjjjgllbocgkbaa

namespace Go.Proofs.Ytjjjgllbocgkbaa
open Go
theorem stepRow_cg {p x : Int} {row acc : List Int} {w : Nat} (hl : row.length = acc.length) (hx : 0 ≤ x) (hr : Bnd p row) (ha : Bnd p acc) (j : Nat) : Cg p ((stepRow p x row acc).getD j 0) (acc.getD j 0 + x * row.getD j 0) := by
 rcases Nat.lt_or_ge j acc.length with h | h
 ·have h1 := ha.at h
  have h2 := hr.at (k := j) (by omega)
  have h3 : 0 ≤ x * row.getD j 0 := Int.mul_nonneg hx h2.1
  rw [stepRow_get hl h, tmod_e (by omega)]; exact Cg.mod _
 ·rw [getD_out (by rw [stepRow_len hl]; exact h), getD_out h, getD_out (by omega), Int.mul_zero]; exact Cg.refl _
theorem sm_head (n : Nat) (f : Nat → Int) : sm (n + 1) f = f 0 + sm n fun i => f (i + 1) := by
 induction n with
 | zero => simp [sm]
 | succ n ih => rw [sm, ih, sm]; omega
/-- What a vector makes of rows, as a sum. -/
theorem accP_cg {p : Int} (hp : 0 < p) : ∀ {v : List Int} {rows : List (List Int)} {acc : List Int}, v.length ≤ rows.length → Bnd p v → Tbl p acc.length rows → Bnd p acc → ∀ j, Cg p ((accP p v rows acc).getD j 0) (acc.getD j 0 + sm v.length fun i => v.getD i 0 * g2 rows i j)
 | [], rows, acc, _, _, _, _, j => by cases rows <;> (simp only [accP, List.length_nil, sm]; exact Cg.of_eq (by omega))
 | x :: v, [], acc, h, _, _, _, j => by simp at h
 | x :: v, r :: rows, acc, h, hv, ht, ha, j => by
  have hr := ht r (by simp)
  have hx := hv x (by simp)
  have hsl : (stepRow p x r acc).length = acc.length := stepRow_len (by omega)
  have hsb := stepRow_bnd hp hx.1 hr.2 ha
  rw [accP]
  refine (accP_cg hp (v := v) (rows := rows) (by simpa using h) (fun y hy => hv y (List.mem_cons_of_mem _ hy)) (fun y hy => by rw [hsl]; exact ht y (List.mem_cons_of_mem _ hy)) hsb j).trans ?_
  refine (Cg.add (stepRow_cg (w := acc.length) (by omega) hx.1 hr.2 ha j) (Cg.refl _)).trans (Cg.of_eq ?_)
  rw [List.length_cons, sm_head]
  have e1 : (x :: v).getD 0 0 * g2 (r :: rows) 0 j = x * r.getD j 0 := rfl
  have e2 : (sm v.length fun i => (x :: v).getD (i + 1) 0 * g2 (r :: rows) (i + 1) j) = sm v.length fun i => v.getD i 0 * g2 rows i j := sm_eq fun i _ => rfl
  rw [e1, e2]; omega
theorem zeros_get (n j : Nat) : (List.replicate n (0 : Int)).getD j 0 = 0 := by
 rcases Nat.lt_or_ge j n with h | h
 ·exact getD_repl h
 ·exact getD_out (by simpa using h)
theorem Sp.mem {p : Int} {L : List (List Int)} {x : List Int} (hx : x ∈ L) : Sp p L fun j => x.getD j 0 := by
 obtain ⟨i, hi, rfl⟩ := List.getElem_of_mem hx
 exact Sp.at hi (getD_elem hi).symm
structure ArOk (X Y : Cx) (f g : List (List (List Int))) : Prop where
 cX : IsC X
 cY : IsC Y
 cf : IsFam X Y f 0
 cg : IsFam X Y g 0
 p : X.p = Y.p
 l : X.dims.length = Y.dims.length
end Go.Proofs.Ytjjjgllbocgkbaa

namespace Go.Proofs.Ytjjjgllbocgkbaa
open Go
theorem sm_split (q : Nat) (f : Nat → Int) : ∀ r, sm (q + r) f = sm q f + sm r fun i => f (q + i)
 | 0 => by simp [sm]
 | r + 1 => by rw [← Nat.add_assoc, sm, sm_split q f r, sm]; omega
theorem unitP_get {n i j : Nat} (hi : i < n) : (unitP n i).getD j 0 = if i = j then 1 else 0 := by
 rw [unitP, getD_set (by simpa using hi), zeros_get]
theorem long_len {rows : List (List Int)} : (longP rows).length = rows.length := by simp [longP]
theorem long_lo {w : Nat} {rows : List (List Int)} (hl : ∀ r ∈ rows, r.length = w) {i j : Nat} (hi : i < rows.length) (hj : j < w) : g2 (longP rows) i j = g2 rows i j := by
 have hr := hl _ (getD_mem hi)
 rw [g2, longP, getD_map_range (fun i => rows.getD i default ++ unitP rows.length i) hi, List.getD_eq_getElem?_getD, List.getElem?_append_left (by omega), ← List.getD_eq_getElem?_getD]
theorem long_hi {w : Nat} {rows : List (List Int)} (hl : ∀ r ∈ rows, r.length = w) {i k : Nat} (hi : i < rows.length) : g2 (longP rows) i (w + k) = if i = k then 1 else 0 := by
 have hr := hl _ (getD_mem hi)
 rw [g2, longP, getD_map_range (fun i => rows.getD i default ++ unitP rows.length i) hi, List.getD_eq_getElem?_getD, List.getElem?_append_right (by omega), hr, Nat.add_sub_cancel_left, ← List.getD_eq_getElem?_getD, unitP_get hi]
theorem long_sp {p : Int} {w : Nat} {rows : List (List Int)} (hl : ∀ r ∈ rows, r.length = w) {u : Nat → Int} : Sp p (longP rows) u ↔ (∀ j, j < w → Cg p (u j) (sm rows.length fun i => u (w + i) * g2 rows i j)) ∧ ∀ k, rows.length ≤ k → Cg p (u (w + k)) 0 := by
 constructor
 ·rintro ⟨c, hc⟩
  rw [long_len] at hc
  have ck : ∀ k, k < rows.length → Cg p (u (w + k)) (c k) := fun k hk => (hc (w + k)).trans (Cg.of_eq (by
   rw [sm_one (k := k) hk (fun i hi he => by rw [long_hi hl hi, if_neg he, Int.mul_zero]), long_hi hl hk, if_pos rfl, Int.mul_one]))
  refine ⟨fun j hj => (hc j).trans (sm_cg fun i hi => ?_), fun k hk => (hc (w + k)).trans (Cg.of_eq (sm_zero fun i hi => by rw [long_hi hl hi, if_neg (by omega), Int.mul_zero]))⟩
  rw [long_lo hl hi hj]
  exact (ck i hi).symm.mul (Cg.refl _)
 ·rintro ⟨h1, h2⟩
  refine ⟨fun i => u (w + i), fun j => ?_⟩
  rw [long_len]
  rcases Nat.lt_or_ge j w with hj | hj
  ·exact (h1 j hj).trans (Cg.of_eq (sm_eq fun i hi => by rw [long_lo hl hi hj]))
  ·obtain ⟨k, rfl⟩ : ∃ k, j = w + k := ⟨j - w, by omega⟩
   rcases Nat.lt_or_ge k rows.length with hk | hk
   ·exact Cg.of_eq (by rw [sm_one (k := k) hk (fun i hi he => by rw [long_hi hl hi, if_neg he, Int.mul_zero]), long_hi hl hk, if_pos rfl, Int.mul_one])
   ·exact (h2 k hk).trans (Cg.of_eq (sm_zero fun i hi => by rw [long_hi hl hi, if_neg (by omega), Int.mul_zero]).symm)
/-- The kernel: the vectors of which the rows make 0. -/
theorem ker_sp {p : Int} {w : Nat} (hP : isP p = true) {rows : List (List Int)} (h : ∀ r ∈ rows, r.length = w ∧ Bnd p r) {v : Nat → Int} : Sp p (kerP p w rows) v ↔ (∀ j, j < w → Cg p (sm rows.length fun i => v i * g2 rows i j) 0) ∧ ∀ k, rows.length ≤ k → Cg p (v k) 0 := by
 have hl : ∀ r ∈ rows, r.length = w := fun r hr => (h r hr).1
 obtain ⟨⟨l, r⟩, ee⟩ := ech_red (w := w + rows.length) hP (longP_tbl (isP_two hP).1 h)
 obtain ⟨t1, t2, t3⟩ := posP_ok (at_ := w) r
 have hk : kerP p w rows = ((ech p (longP rows)).drop (posP (ech p (longP rows)) w)).map fun r => r.drop w := by rw [kerP, filter_suffix r]
 rw [hk]
 generalize ech p (longP rows) = E at *
 generalize posP E w = q at *
 have hlen : ((E.drop q).map fun r => r.drop w).length = E.length - q := by simp
 have gg : ∀ i j, i < E.length - q → g2 ((E.drop q).map fun r => r.drop w) i j = g2 E (q + i) (w + j) := fun i j hi => by
  rw [g2, List.getD_eq_getElem?_getD (l := List.map _ _), List.getElem?_map, List.getElem?_drop, List.getElem?_eq_getElem (by omega)]
  simp only [Option.map_some, Option.getD_some]
  rw [List.getD_eq_getElem?_getD, List.getElem?_drop, g2, getD_elem (by omega), List.getD_eq_getElem?_getD (l := E.getD (q + i) default)]
 constructor
 ·rintro ⟨c, hc⟩
  rw [hlen] at hc
  have hu : Sp p E fun j => sm (E.length - q) fun i => c i * g2 E (q + i) j := Sp.sm (fun i hi => Sp.row (by omega)) c
  obtain ⟨a, b⟩ := (long_sp hl).1 (hu.le ee.1)
  have hv : ∀ k, Cg p (v k) (sm (E.length - q) fun i => c i * g2 E (q + i) (w + k)) := fun k => (hc k).trans (Cg.of_eq (sm_eq fun i hi => by rw [gg i k hi]))
  refine ⟨fun j hj => ?_, fun k hk => (hv k).trans (b k hk)⟩
  have z : (sm (E.length - q) fun i => c i * g2 E (q + i) j) = 0 := sm_zero fun i hi => by rw [r.zb (q + i) j (by omega) (by have := t3 (q + i) (by omega) (by omega); omega), Int.mul_zero]
  have := a j hj
  rw [z] at this
  exact (sm_cg fun i hi => (hv i).mul (Cg.refl _)).trans this.symm
 ·rintro ⟨h1, h2⟩
  have hu : Sp p E fun j => if j < w then 0 else v (j - w) := by
   refine ((long_sp hl).2 ⟨fun j hj => ?_, fun k hk => ?_⟩).le ee.2
   ·rw [if_pos hj]
    refine (h1 j hj).symm.trans (Cg.of_eq (sm_eq fun i hi => ?_))
    rw [if_neg (by omega), Nat.add_sub_cancel_left]
   ·rw [if_neg (by omega), Nat.add_sub_cancel_left]; exact h2 k hk
  refine ⟨fun i => (if l (q + i) < w then 0 else v (l (q + i) - w)), fun k => ?_⟩
  have hc := r.coef hu (w + k)
  simp only [if_neg (show ¬ w + k < w by omega), Nat.add_sub_cancel_left] at hc
  refine hc.trans (Cg.of_eq ?_)
  rw [hlen, show E.length = q + (E.length - q) by omega, sm_split, sm_zero (n := q) (fun i hi => by rw [if_pos (t2 i hi), Int.zero_mul]), Int.zero_add, show q + (E.length - q) - q = E.length - q by omega]
  exact sm_eq fun i hi => by rw [gg i k hi]
theorem kerQ_sp {p : Int} {w : Nat} (hP : isP p = true) {rows : List (List Int)} (h : ∀ r ∈ rows, r.length = w ∧ Bnd p r) {v : Nat → Int} (h1 : ∀ j, j < w → Cg p (sm rows.length fun i => v i * g2 rows i j) 0) (h2 : ∀ k, rows.length ≤ k → Cg p (v k) 0) : Sp p (kerQ p rows) v := by
 by_cases hn : rows = []
 ·subst hn
  rw [kerQ_nil (isP_two hP).1]
  exact Sp.zero.cg fun j => h2 j (Nat.zero_le _)
 ·rw [kerQ_w h hn]; exact (ker_sp hP h).2 ⟨h1, h2⟩
end Go.Proofs.Ytjjjgllbocgkbaa

namespace Go.Proofs.Ytjjjgllbocgkbaa
open Go
def restL (p : Int) (R B : List (List Int)) : List (List Int) := R.map (restP p B)
theorem restL_tbl {p : Int} {w : Nat} (hp : 0 < p) {R B : List (List Int)} (h : ∀ r ∈ R, r.length = w ∧ Bnd p r) : ∀ r ∈ restL p R B, r.length = w ∧ Bnd p r := fun r hr => by
 obtain ⟨x, hx, rfl⟩ := List.mem_map.1 hr
 exact ⟨by rw [restP_len]; exact (h x hx).1, restP_bnd hp (h x hx).2⟩
set_option maxRecDepth 100000 in
theorem iApart_ok (vR vB : Value) (p : Int) (R : List (List Int)) (B : List (List Int)) (h : Heap) (rR : R2 h vR R) (rB : R2 h vB B) {w_ : Nat} {l_ : Nat → Nat} (hP : isP p = true) (hr : Rr p w_ B l_) (hT : ∀ r ∈ R, r.length = w_ ∧ Bnd p r) (hw : w_ ≤ 1000 ∧ R.length ≤ 1000) : CallA Try.prog 167 #[.int .i64 p, vR, vB] h fun v' h' => ∃ w0 f0, v' = w0 ∧ O2 h' w0 (ech p (restL p R B)) f0 ∧ Fresh h.size f0 ∧ Ext h h' := by
 have hleR := RdS.le rR
 have hleB := RdS.le rB
 have hp := isP_two hP
 refine callA_intro TTok (args := [_, _, _]) Try.func167 (by kernel_rfl) rfl 28 rfl (by simp) [.tmp 6] rfl ?_
 simp only [idxs, Nat.reduceAdd]
 refine den_seq ?_
 refine den_region TTok ?_
 intro K hK
 simp -implicitDefEqProofs (disch := first | decide | assumption | omega) only [go_sem, RdS.len rR sl26, RdS.idx rR sl26, RdS.cellB rR (HPres.refl _), RdS.cells rR, RdS.len rB sl26, RdS.idx rB sl26, RdS.cellB rB (HPres.refl _), RdS.cells rB, wrap_id]
 refine hK _ _ ?_
 clear hK K
 refine den_seq ?_
 refine den_region TTok ?_
 intro K hK
 simp -implicitDefEqProofs (disch := first | decide | assumption | omega) only [go_sem, RdS.len rR sl26, RdS.idx rR sl26, RdS.cellB rR (HPres.refl _), RdS.cells rR, RdS.len rB sl26, RdS.idx rB sl26, RdS.cellB rB (HPres.refl _), RdS.cells rB, wrap_id]
 refine op_bs0 sz26 O1 ?_
 intro v1_0 h1_0 ho1_0 e1_0
 have := Ext.size e1_0
 have eB := e1_0
 have hfho1_0 : Fresh h.size [h.size] := Fresh.one _
 have hlho1_0 := OS.lt ho1_0
 try simp -implicitDefEqProofs (disch := first | decide | assumption | omega) only [go_sem, RdS.len rR sl26, RdS.idx rR sl26, RdS.cellB rR (Ext.pres eB), RdS.cells rR, RdS.len rB sl26, RdS.idx rB sl26, RdS.cellB rB (Ext.pres eB), RdS.cells rB, RdS.len (OS.rd ho1_0) sl26, RdS.idx (OS.rd ho1_0) sl26, RdS.cellN (OS.rd ho1_0), RdS.cells (OS.rd ho1_0), wrap_id]
 refine hK _ _ ?_
 clear hK K
 refine den_seq ?_
 refine den_seq ?_
 refine den_region TTok ?_
 intro K hK
 simp -implicitDefEqProofs (disch := first | decide | assumption | omega) only [go_sem, RdS.len rR sl26, RdS.idx rR sl26, RdS.cellB rR (Ext.pres eB), RdS.cells rR, RdS.len rB sl26, RdS.idx rB sl26, RdS.cellB rB (Ext.pres eB), RdS.cells rB, RdS.len (OS.rd ho1_0) sl26, RdS.idx (OS.rd ho1_0) sl26, RdS.cellN (OS.rd ho1_0), RdS.cells (OS.rd ho1_0), wrap_id]
 refine hK _ _ ?_
 clear hK K
 refine den_block ?_
 refine den_sel [7, 13, 0, 2, 11, 12] ?_
 intro env_1
 simp only [go_sem]
 refine den_loopS (σ := Nat × Value × List Nat) (fun st_ => [(7, st_.2.1), (13, .int .i64 (st_.1 : Int))]) (fun st_ H => (st_.1 ≤ R.length) ∧ (O2 H st_.2.1 ((R.take st_.1).map (restP p B)) st_.2.2) ∧ (Fresh (h.size) st_.2.2) ∧ (Sub [h.size] h1_0.size st_.2.2) ∧ (Chg [h.size] h1_0 H)) (fun st_ => R.length - st_.1) (0, v1_0, [h.size]) ?_ ?_
 ·exact ⟨by first | (simp; done) | (dsimp only; omega) | (simp; omega), by simpa using ho1_0, hfho1_0, Sub.refl, Chg.refl _ _⟩
 ·rintro ⟨k, vhO, fphO⟩ h4 ee3 ⟨hi0, hO, hfhO, sbhO, cL2⟩
  dsimp only at hi0 hO hfhO sbhO cL2
  have := cL2.size
  replace eB := Ext.then eB cL2 (ge_of hfho1_0 (by omega))
  have hlhO := OS.lt hO
  simp only [List.cons_append, List.nil_append]
  have hlt_ : ((R.take k).map (restP p B)).length = k := by simp; omega
  refine den_seq ?_
  refine den_region TTok ?_
  intro K hK
  simp -implicitDefEqProofs (disch := first | decide | assumption | omega) only [go_sem, RdS.len rR sl26, RdS.idx rR sl26, RdS.cellB rR (Ext.pres eB), RdS.cells rR, RdS.len rB sl26, RdS.idx rB sl26, RdS.cellB rB (Ext.pres eB), RdS.cells rB, RdS.len (OS.rd hO) sl26, RdS.idx (OS.rd hO) sl26, RdS.cellN (OS.rd hO), RdS.cells (OS.rd hO), wrap_id]
  refine hK _ _ ?_
  clear hK K
  refine den_seq ?_
  refine den_cond rfl (fun c0 => ?_) (fun c0 => ?_)
  ·try simp only [decide_eq_true_eq, decide_eq_false_iff_not, beq_iff_eq, beq_eq_false_iff_ne, bne_iff_ne, ne_eq, Bool.not_eq_true', Bool.not_eq_false', Bool.and_eq_true, Bool.or_eq_true, bne_eq_false_iff_eq] at c0
   refine den_skip ?_
   refine den_seq ?_
   refine den_block ?_
   refine den_seq ?_
   refine den_region TTok ?_
   intro K hK
   have hr5 := RdS.rowN rR k (by omega)
   have hlhr5 := RdS.le hr5
   simp -implicitDefEqProofs (disch := first | decide | assumption | omega) only [go_sem, ld22, RdS.len rR sl26, RdS.idx rR sl26, RdS.cellB rR (Ext.pres eB), RdS.cells rR, RdS.len rB sl26, RdS.idx rB sl26, RdS.cellB rB (Ext.pres eB), RdS.cells rB, RdS.len hr5 sl22, RdS.idx hr5 sl22, R1.intB hr5 (Ext.pres eB), RdS.cells hr5, RdS.len (OS.rd hO) sl26, RdS.idx (OS.rd hO) sl26, RdS.cellN (OS.rd hO), RdS.cells (OS.rd hO), wrap_id]
   refine hK _ _ ?_
   clear hK K
   have hRk := hT _ (getD_mem (show k < R.length by omega))
   have hrr := hr
   have hrv : (R.getD k default).length = w_ ∧ w_ ≤ 1000 := ⟨hRk.1, hw.1⟩
   have hrb := hRk.2
   refine den_region TTok ?_
   intro K hK
   simp -implicitDefEqProofs (disch := first | decide | assumption | omega) only [go_sem, RdS.len rR sl26, RdS.idx rR sl26, RdS.cellB rR (Ext.pres eB), RdS.cells rR, RdS.len rB sl26, RdS.idx rB sl26, RdS.cellB rB (Ext.pres eB), RdS.cells rB, RdS.len hr5 sl22, RdS.idx hr5 sl22, R1.intB hr5 (Ext.pres eB), RdS.cells hr5, RdS.len (OS.rd hO) sl26, RdS.idx (OS.rd hO) sl26, RdS.cellN (OS.rd hO), RdS.cells (OS.rd hO), wrap_id]
   try simp -implicitDefEqProofs (disch := first | decide | assumption | omega) only [go_sem, RdS.len rR sl26, RdS.idx rR sl26, RdS.cellB rR (Ext.pres eB), RdS.cells rR, RdS.len rB sl26, RdS.idx rB sl26, RdS.cellB rB (Ext.pres eB), RdS.cells rB, RdS.len hr5 sl22, RdS.idx hr5 sl22, R1.intB hr5 (Ext.pres eB), RdS.cells hr5, RdS.len (OS.rd hO) sl26, RdS.idx (OS.rd hO) sl26, RdS.cellN (OS.rd hO), RdS.cells (OS.rd hO), wrap_id]
   refine CallA.mono (iModulo_ok _ _ p ((R).getD k default) B _ (RdS.pres hr5 (Ext.pres eB)) (RdS.pres rB (Ext.pres eB)) hP hrr hrv hrb) ?_
   intro vw5_4_0 h5_4
   rintro ⟨zvw5_4_0, fw5_4_0, rfl, how5_4_0, hfw5_4_0, e5_4⟩
   replace hO := OS.ext hO e5_4
   have := Ext.size e5_4
   replace eB := Ext.trans eB e5_4
   replace cL2 := Chg.stepE cL2 e5_4
   have hlhow5_4_0 := OS.lt how5_4_0
   try simp -implicitDefEqProofs (disch := first | decide | assumption | omega) only [go_sem, RdS.len rR sl26, RdS.idx rR sl26, RdS.cellB rR (Ext.pres eB), RdS.cells rR, RdS.len rB sl26, RdS.idx rB sl26, RdS.cellB rB (Ext.pres eB), RdS.cells rB, RdS.len hr5 sl22, RdS.idx hr5 sl22, R1.intB hr5 (Ext.pres eB), RdS.cells hr5, RdS.len (OS.rd hO) sl26, RdS.idx (OS.rd hO) sl26, RdS.cellN (OS.rd hO), RdS.cells (OS.rd hO), RdS.len (OS.rd how5_4_0) sl22, RdS.idx (OS.rd how5_4_0) sl22, R1.intN (OS.rd how5_4_0), RdS.cells (OS.rd how5_4_0), wrap_id]
   refine op_bs1 sz26 rfl (OS.one how5_4_0).2 ?_
   try simp -implicitDefEqProofs (disch := first | decide | assumption | omega) only [go_sem, RdS.len rR sl26, RdS.idx rR sl26, RdS.cellB rR (Ext.pres eB), RdS.cells rR, RdS.len rB sl26, RdS.idx rB sl26, RdS.cellB rB (Ext.pres eB), RdS.cells rB, RdS.len hr5 sl22, RdS.idx hr5 sl22, R1.intB hr5 (Ext.pres eB), RdS.cells hr5, RdS.len (OS.rd hO) sl26, RdS.idx (OS.rd hO) sl26, RdS.cellN (OS.rd hO), RdS.cells (OS.rd hO), RdS.len (OS.rd how5_4_0) sl22, RdS.idx (OS.rd how5_4_0) sl22, R1.intN (OS.rd how5_4_0), RdS.cells (OS.rd how5_4_0), wrap_id]
   refine op_append1 sz26 hO hfhO.nodup how5_4_0 hfw5_4_0.nodup (apart_lt hlhO hfw5_4_0 (by omega)) (by first | omega | (simp; omega)) rfl rfl ?_
   intro v5_6 h5_6 fp5_6 ho5_6 hn5_6 hs5_6 c5_6
   have hsz5_6 := c5_6.size
   have hfho5_6 : Fresh h.size fp5_6 := Fresh.appd hfhO hfw5_4_0 (by omega) (by omega) hn5_6 hs5_6
   have sb6 : Sub [h.size] h1_0.size fp5_6 := Sub.grow sbhO (Sub.fresh hfw5_4_0 (by omega)) (by omega) hs5_6
   have := c5_6.size
   replace eB := Ext.then eB c5_6 (ge_of hfhO (by omega))
   replace cL2 := Chg.step cL2 c5_6 sbhO
   have hlho5_6 := OS.lt ho5_6
   try simp -implicitDefEqProofs (disch := first | decide | assumption | omega) only [go_sem, RdS.len rR sl26, RdS.idx rR sl26, RdS.cellB rR (Ext.pres eB), RdS.cells rR, RdS.len rB sl26, RdS.idx rB sl26, RdS.cellB rB (Ext.pres eB), RdS.cells rB, RdS.len hr5 sl22, RdS.idx hr5 sl22, R1.intB hr5 (Ext.pres eB), RdS.cells hr5, RdS.len (OS.rd ho5_6) sl26, RdS.idx (OS.rd ho5_6) sl26, RdS.cellN (OS.rd ho5_6), RdS.cells (OS.rd ho5_6), wrap_id]
   refine hK _ _ ?_
   clear hK K
   refine den_blk ?_
   refine den_region TTok ?_
   intro K hK
   simp -implicitDefEqProofs (disch := first | decide | assumption | omega) only [go_sem, RdS.len rR sl26, RdS.idx rR sl26, RdS.cellB rR (Ext.pres eB), RdS.cells rR, RdS.len rB sl26, RdS.idx rB sl26, RdS.cellB rB (Ext.pres eB), RdS.cells rB, RdS.len hr5 sl22, RdS.idx hr5 sl22, R1.intB hr5 (Ext.pres eB), RdS.cells hr5, RdS.len (OS.rd ho5_6) sl26, RdS.idx (OS.rd ho5_6) sl26, RdS.cellN (OS.rd ho5_6), RdS.cells (OS.rd ho5_6), wrap_id]
   refine hK _ _ ?_
   clear hK K
   refine den_stop ?_
   rw [map_takeA (by omega)] at ho5_6
   exact ⟨(k + 1, v5_6, fp5_6), by simp [HasL, puts_at], ⟨by first | omega | (dsimp only; omega), ho5_6, hfho5_6, sb6, cL2⟩, by first | omega | (dsimp only; omega)⟩
  ·try simp only [decide_eq_true_eq, decide_eq_false_iff_not, beq_iff_eq, beq_eq_false_iff_ne, bne_iff_ne, ne_eq, Bool.not_eq_true', Bool.not_eq_false', Bool.and_eq_true, Bool.or_eq_true, bne_eq_false_iff_eq] at c0
   refine den_exit ?_
   refine denX_code ?_
   refine denX_stop ?_
   refine denX_hit ?_
   refine den_seq ?_
   have hredT := restL_tbl (B := B) (show 0 < p by omega) hT
   have hll_ : (restL p R B).length = R.length := by simp [restL]
   rw [show (R.take k).map (restP p B) = restL p R B by rw [restL, List.take_of_length_le (by omega)]] at hO
   refine den_region TTok ?_
   intro K hK
   simp -implicitDefEqProofs (disch := first | decide | assumption | omega) only [go_sem, RdS.len rR sl26, RdS.idx rR sl26, RdS.cellB rR (Ext.pres eB), RdS.cells rR, RdS.len rB sl26, RdS.idx rB sl26, RdS.cellB rB (Ext.pres eB), RdS.cells rB, RdS.len (OS.rd hO) sl26, RdS.idx (OS.rd hO) sl26, RdS.cellN (OS.rd hO), RdS.cells (OS.rd hO), wrap_id]
   try simp -implicitDefEqProofs (disch := first | decide | assumption | omega) only [go_sem, RdS.len rR sl26, RdS.idx rR sl26, RdS.cellB rR (Ext.pres eB), RdS.cells rR, RdS.len rB sl26, RdS.idx rB sl26, RdS.cellB rB (Ext.pres eB), RdS.cells rB, RdS.len (OS.rd hO) sl26, RdS.idx (OS.rd hO) sl26, RdS.cellN (OS.rd hO), RdS.cells (OS.rd hO), wrap_id]
   refine CallA.mono (iReduce_ok _ p (restL p R B) _ (OS.rd hO) hP hredT (by omega) (by omega)) ?_
   intro vw7_2_0 h7_2
   rintro ⟨zvw7_2_0, fw7_2_0, rfl, how7_2_0, hfw7_2_0, e7_2⟩
   replace hO := OS.ext hO e7_2
   have := Ext.size e7_2
   replace eB := Ext.trans eB e7_2
   have hlhow7_2_0 := OS.lt how7_2_0
   try simp -implicitDefEqProofs (disch := first | decide | assumption | omega) only [go_sem, RdS.len rR sl26, RdS.idx rR sl26, RdS.cellB rR (Ext.pres eB), RdS.cells rR, RdS.len rB sl26, RdS.idx rB sl26, RdS.cellB rB (Ext.pres eB), RdS.cells rB, RdS.len (OS.rd hO) sl26, RdS.idx (OS.rd hO) sl26, RdS.cellN (OS.rd hO), RdS.cells (OS.rd hO), RdS.len (OS.rd how7_2_0) sl26, RdS.idx (OS.rd how7_2_0) sl26, RdS.cellN (OS.rd how7_2_0), RdS.cells (OS.rd how7_2_0), wrap_id]
   refine hK _ _ ?_
   clear hK K
   refine den_ret ?_
   simp (disch := decide) only [resP_1, puts_same, puts_ne]
   exact ⟨_, _, rfl, how7_2_0, hfw7_2_0.mono (by omega), eB⟩
end Go.Proofs.Ytjjjgllbocgkbaa

namespace Go.Proofs.Ytjjjgllbocgkbaa
open Go
theorem kerQ_tb2 {p : Int} {w : Nat} (hP : isP p = true) {rows : List (List Int)} (h : ∀ r ∈ rows, r.length = w ∧ Bnd p r) : ∀ r ∈ kerQ p rows, r.length = rows.length ∧ Bnd p r := by
 by_cases e : rows = []
 ·subst e; rw [kerQ_nil (isP_two hP).1]; intro r hr; cases hr
 ·rw [kerQ_w h e]; exact kerP_tbl hP h

def apV (M : List (List Int)) (v : Nat → Int) : Nat → Int := fun j => sm M.length fun i => v i * g2 M i j
section
variable {p : Int} {M N : List (List Int)}
theorem apV_cg {v w : Nat → Int} (h : ∀ i, i < M.length → Cg p (v i) (w i)) (j : Nat) : Cg p (apV M v j) (apV M w j) := sm_cg fun i hi => Cg.mul (h i hi) (Cg.refl _)
theorem apV_sm (n : Nat) (c : Nat → Int) (f : Nat → Nat → Int) (j : Nat) : apV M (fun i => sm n fun k => c k * f k i) j = sm n fun k => c k * apV M (f k) j := by
 unfold apV
 have e : ∀ i, (sm n fun k => c k * f k i) * g2 M i j = sm n fun k => c k * (f k i * g2 M i j) := fun i => by
  rw [Int.mul_comm, ← sm_mul]
  exact sm_eq fun k _ => by rw [Int.mul_comm, Int.mul_assoc]
 rw [sm_eq (fun i _ => e i), sm_swap]
 exact sm_eq fun k _ => sm_mul _ _ _
theorem sm_sub : ∀ (n : Nat) (f g : Nat → Int), sm n (fun i => f i - g i) = sm n f - sm n g
 | 0, _, _ => rfl
 | n + 1, f, g => by rw [sm, sm, sm, sm_sub n f g]; omega
theorem apV_sub (v w : Nat → Int) (j : Nat) : apV M (fun i => v i - w i) j = apV M v j - apV M w j := by
 unfold apV
 rw [← sm_sub]
 exact sm_eq fun i _ => Int.sub_mul _ _ _
theorem sm_cg0 {n : Nat} {f : Nat → Int} (h : ∀ i, i < n → Cg p (f i) 0) : Cg p (sm n f) 0 :=
 (sm_cg h).trans (Cg.of_eq (sm_zero fun _ _ => rfl))
/-- What is a sum of rows that a table makes 0 is made 0. -/
theorem ap_zero {u : Nat → Int} (h0 : ∀ i, i < M.length → ∀ j, Cg p (apV N (g2 M i) j) 0) (h : Sp p M u) (j : Nat) : Cg p (apV N u j) 0 := by
 obtain ⟨c, hc⟩ := h
 refine (apV_cg (fun i _ => hc i) j).trans ?_
 rw [apV_sm]
 exact sm_cg0 fun k hk => (Cg.mul (Cg.refl (c k)) (h0 k hk j)).trans (Cg.of_eq (Int.mul_zero _))
theorem apV_out {w : Nat} (hw : ∀ r ∈ M, r.length = w) {v : Nat → Int} {j : Nat} (hj : w ≤ j) : apV M v j = 0 := sm_zero fun i hi => by
 rw [g2_out (by rw [hw _ (getD_mem hi)]; exact hj), Int.mul_zero]
end
abbrev TB (p : Int) (w : Nat) (M : List (List Int)) : Prop := ∀ r ∈ M, r.length = w ∧ Bnd p r
def mvP (p : Int) (M : List (List Int)) (w : Nat) (v : List Int) : List Int := accP p v M (List.replicate w 0)
theorem TB.tbl {p : Int} {w : Nat} {M : List (List Int)} (h : TB p w M) : Tbl p ((List.replicate w (0 : Int)).length : Int) M := fun r hr => ⟨by rw [List.length_replicate]; exact congrArg Nat.cast (h r hr).1, (h r hr).2⟩
theorem mvP_len {p : Int} {w : Nat} {M : List (List Int)} (h : TB p w M) (v : List Int) : (mvP p M w v).length = w := by
 rw [mvP, accP_len h.tbl, List.length_replicate]
theorem mvP_bnd {p : Int} (hp : 0 < p) {w : Nat} {M : List (List Int)} (h : TB p w M) {v : List Int} (hv : Bnd p v) : Bnd p (mvP p M w v) := accP_bnd hp hv h.tbl (Bnd.zeros hp w)
theorem mvP_cg {p : Int} (hp : 0 < p) {w : Nat} {M : List (List Int)} (h : TB p w M) {v : List Int} (hl : v.length = M.length) (hv : Bnd p v) (j : Nat) : Cg p ((mvP p M w v).getD j 0) (apV M (fun i => v.getD i 0) j) := by
 refine (accP_cg hp (by omega) hv h.tbl (Bnd.zeros hp w) j).trans (Cg.of_eq ?_)
 rw [zeros_get, Int.zero_add, hl]; rfl
theorem list_cg {p : Int} {a b : List Int} (hl : a.length = b.length) (ha : Bnd p a) (hb : Bnd p b) (h : ∀ j, Cg p (a.getD j 0) (b.getD j 0)) : a = b :=
 getD_ext hl fun n hn => (h n).eq (ha.at hn) (hb.at (by omega))
/-- A vector less its part in the space of a reduced list. -/
def rsV (B : List (List Int)) (l : Nat → Nat) (v : Nat → Int) : Nat → Int := fun j => v j - apV B (fun k => v (l k)) j
section
variable {p : Int} {w : Nat} {B : List (List Int)} {l : Nat → Nat}
theorem rest_rs (r : Rr p w B l) (hp : 0 < p) {v : List Int} (hv : v.length = w) (hb : Bnd p v) (j : Nat) : Cg p ((restP p B v).getD j 0) (rsV B l (fun i => v.getD i 0) j) := by
 obtain ⟨s, hs, he⟩ := restP_sub r hv
 have hk : ∀ k, k < B.length → Cg p (s (l k)) (v.getD (l k) 0) := fun k hk => by
  have h1 := he (l k)
  rw [restP_zero r hp hv hb hk] at h1
  have h2 := Cg.add (Cg.symm h1) (Cg.refl (s (l k)))
  rw [Int.sub_add_cancel, Int.zero_add] at h2
  exact h2.symm
 exact (he j).trans (Cg.sub (Cg.refl _) ((r.coef hs j).trans (apV_cg hk j)))
theorem rsV_zero (r : Rr p w B l) {v : Nat → Int} (h : Sp p B v) (j : Nat) : Cg p (rsV B l v j) 0 :=
 (Cg.sub (r.coef h j) (Cg.refl (apV B (fun k => v (l k)) j))).trans (Cg.of_eq (Int.sub_self _))
theorem rsV_sm (n : Nat) (c : Nat → Int) (f : Nat → Nat → Int) (j : Nat) : rsV B l (fun i => sm n fun k => c k * f k i) j = sm n fun k => c k * rsV B l (f k) j := by
 unfold rsV
 rw [apV_sm n c (fun k i => f k (l i)) j, ← sm_sub]
 exact sm_eq fun k _ => (Int.mul_sub _ _ _).symm
theorem rsV_cg {v u : Nat → Int} (h : ∀ i, Cg p (v i) (u i)) (j : Nat) : Cg p (rsV B l v j) (rsV B l u j) := Cg.sub (h j) (apV_cg (fun k _ => h (l k)) j)
theorem rsV_sub (v u : Nat → Int) (j : Nat) : rsV B l (fun i => v i - u i) j = rsV B l v j - rsV B l u j := by
 unfold rsV
 rw [apV_sub]
 dsimp only
 omega
theorem rsV_sp (v : Nat → Int) : Sp p B fun j => v j - rsV B l v j := ⟨fun k => v (l k), fun j => Cg.of_eq (by unfold rsV apV; dsimp only; omega)⟩
/-- Vectors that differ by one of the space have the same rest. -/
theorem rest_eq (r : Rr p w B l) (hp : 0 < p) {v u : List Int} (hv : v.length = w) (hb : Bnd p v) (hu : u.length = w) (hub : Bnd p u) (h : Sp p B fun j => v.getD j 0 - u.getD j 0) : restP p B v = restP p B u :=
 list_cg (by rw [restP_len, restP_len, hv, hu]) (restP_bnd hp hb) (restP_bnd hp hub) fun j => by
  refine (rest_rs r hp hv hb j).trans (Cg.trans ?_ (rest_rs r hp hu hub j).symm)
  have h1 := rsV_zero r h j
  rw [rsV_sub] at h1
  have h2 := Cg.add h1 (Cg.refl (rsV B l (fun i => u.getD i 0) j))
  rwa [Int.sub_add_cancel, Int.zero_add] at h2
end
def tlP (L : List (List Int)) (v : List Int) : List Int := L.map fun row => v.getD (leadP row).toNat 0
theorem tlP_len (L : List (List Int)) (v : List Int) : (tlP L v).length = L.length := by simp [tlP]
theorem tlP_get {p : Int} {w : Nat} {L : List (List Int)} {l : Nat → Nat} (r : Rr p w L l) {v : List Int} {i : Nat} (hi : i < L.length) : (tlP L v).getD i 0 = v.getD (l i) 0 := by
 rw [tlP, List.getD_eq_getElem?_getD, List.getElem?_map, List.getElem?_eq_getElem hi]
 have := r.lead hi
 rw [List.getD_eq_getElem?_getD, List.getElem?_eq_getElem hi] at this
 simp only [Option.map_some, Option.getD_some] at this ⊢
 rw [this, Int.toNat_natCast]
theorem tlP_bnd {p : Int} (hp : 0 < p) (L : List (List Int)) {v : List Int} (hv : Bnd p v) : Bnd p (tlP L v) := fun x hx => by
 obtain ⟨r, _, rfl⟩ := List.mem_map.1 hx
 by_cases h : (leadP r).toNat < v.length
 ·exact hv.at h
 ·rw [getD_out (by omega)]; omega
theorem g2_map {α : Type} [Inhabited α] {L : List α} {f : α → List Int} {i : Nat} (hi : i < L.length) (j : Nat) : g2 (L.map f) i j = (f (L.getD i default)).getD j 0 := by
 have e : (L.map f).getD i default = f (L.getD i default) := by
  rw [List.getD_eq_getElem?_getD, List.getElem?_map, List.getElem?_eq_getElem hi, List.getD_eq_getElem?_getD, List.getElem?_eq_getElem hi]; rfl
 rw [g2, e]
structure IsCp (C : Cp) : Prop where
 p : isP C.p = true
 d : 0 ≤ C.d ∧ C.d ≤ 24
 e : 0 ≤ C.e ∧ C.e ≤ 24
 il : (C.i.length : Int) = C.d
 jl : (C.j.length : Int) = C.d
 kl : (C.k.length : Int) = C.e
 ir : TB C.p C.d.toNat C.i
 jr : TB C.p C.e.toNat C.j
 kr : TB C.p C.d.toNat C.k
def dfL (C : Cp) : List (List Int) := C.k.map fun row => mvP C.p C.j C.e.toNat row
noncomputable def mdL (C : Cp) : List (List Int) := ech C.p C.i
noncomputable def bdL (C : Cp) : List (List Int) := ech C.p (dfL C)
noncomputable def cyL (C : Cp) : List (List Int) := kerQ C.p (dfL C)
noncomputable def clL (C : Cp) : List (List Int) := ech C.p (restL C.p (cyL C) (bdL C))
def IsLift (C : Cp) (u f : List Int) : Prop := f.length = C.d.toNat ∧ Bnd C.p f ∧ mvP C.p C.i C.d.toNat f = u
noncomputable def liftP (C : Cp) (u : List Int) : List Int := Classical.epsilon (IsLift C u)
noncomputable def jdP (C : Cp) (u : List Int) : List Int := tlP (clL C) (restP C.p (bdL C) (mvP C.p C.j C.e.toNat (liftP C u)))
noncomputable def dcp (C : Cp) : Cp := ⟨C.p, ((mdL C).length : Int), ((clL C).length : Int), (mdL C).map fun r => tlP (mdL C) (mvP C.p C.i C.d.toNat r), (mdL C).map (jdP C), (clL C).map fun r => tlP (mdL C) (mvP C.p C.k C.d.toNat r)⟩
/-- What of exactness is handed on. -/
structure Ex3 (C : Cp) : Prop where
 c : IsCp C
 a : ∀ v : Nat → Int, (∀ j, Cg C.p (apV C.i v j) 0) → (∀ k, C.d.toNat ≤ k → Cg C.p (v k) 0) → Sp C.p C.k v
 b : ∀ i, i < C.i.length → ∀ j, Cg C.p (apV C.j (g2 C.i i) j) 0
 k : ∀ i, i < C.j.length → ∀ j, Cg C.p (apV C.k (g2 C.j i) j) 0
section
variable {C : Cp}
theorem IsCp.pos (h : IsCp C) : 0 < C.p := by have := (isP_two h.p).1; omega
theorem IsCp.lens (h : IsCp C) : C.i.length = C.d.toNat ∧ C.j.length = C.d.toNat ∧ C.k.length = C.e.toNat := by
 have h1 := h.il; have h2 := h.jl; have h3 := h.kl
 omega
theorem df_len (C : Cp) : (dfL C).length = C.k.length := by simp [dfL]
theorem df_tb (h : IsCp C) : TB C.p C.e.toNat (dfL C) := fun r hr => by
 obtain ⟨x, hx, rfl⟩ := List.mem_map.1 hr
 exact ⟨mvP_len h.jr x, mvP_bnd h.pos h.jr (h.kr x hx).2⟩
theorem df_cg (h : IsCp C) {i : Nat} (hi : i < C.k.length) (j : Nat) : Cg C.p (g2 (dfL C) i j) (apV C.j (g2 C.k i) j) := by
 have hr := h.kr _ (getD_mem hi)
 have hl := h.lens
 rw [dfL, g2_map hi]
 exact mvP_cg h.pos h.jr (by omega) hr.2 j
theorem md_red (h : IsCp C) : Red C.p C.d.toNat (mdL C) C.i := ech_red h.p h.ir
theorem bd_red (h : IsCp C) : Red C.p C.e.toNat (bdL C) (dfL C) := ech_red h.p (df_tb h)
theorem cy_tb (h : IsCp C) : TB C.p C.e.toNat (cyL C) := fun r hr => by
 have := kerQ_tb2 h.p (df_tb h) r hr
 have hl := h.lens
 rw [df_len] at this
 exact ⟨by omega, this.2⟩
theorem cl_red (h : IsCp C) : Red C.p C.e.toNat (clL C) (restL C.p (cyL C) (bdL C)) := ech_red h.p (restL_tbl h.pos (cy_tb h))
/-- The kernel of the differential: its space. -/
theorem cy_sp (h : IsCp C) {v : Nat → Int} (h1 : ∀ j, Cg C.p (apV (dfL C) v j) 0) (h2 : ∀ k, C.e.toNat ≤ k → Cg C.p (v k) 0) : Sp C.p (cyL C) v :=
 kerQ_sp h.p (df_tb h) (fun j _ => h1 j) (fun k hk => h2 k (by have := h.lens; rw [df_len] at hk; omega))
/-- The differential of a vector. -/
theorem df_ap (h : IsCp C) (v : Nat → Int) (j : Nat) : Cg C.p (apV (dfL C) v j) (apV C.j (apV C.k v) j) := by
 have e : apV C.j (apV C.k v) j = sm C.k.length fun k => v k * apV C.j (g2 C.k k) j := apV_sm C.k.length v (fun k i => g2 C.k k i) j
 rw [e]
 unfold apV
 rw [df_len]
 exact sm_cg fun i hi => Cg.mul (Cg.refl _) (df_cg h hi j)
theorem Ex3.jk (h : Ex3 C) (v : Nat → Int) (j : Nat) : Cg C.p (apV C.k (apV C.j v) j) 0 := by
 have e : apV C.k (apV C.j v) j = sm C.j.length fun k => v k * apV C.k (g2 C.j k) j := apV_sm C.j.length v (fun k i => g2 C.j k i) j
 rw [e]
 exact sm_cg0 fun i hi => (Cg.mul (Cg.refl (v i)) (h.k i hi j)).trans (Cg.of_eq (Int.mul_zero _))
/-- The second map makes 0 of boundaries. -/
theorem Ex3.kb (h : Ex3 C) {v : Nat → Int} (hv : Sp C.p (bdL C) v) (j : Nat) : Cg C.p (apV C.k v j) 0 := by
 have hv2 := hv.le (bd_red h.c).2.1
 refine ap_zero (fun i hi j => ?_) hv2 j
 rw [df_len] at hi
 exact (apV_cg (fun k _ => df_cg h.c hi k) j).trans (h.jk _ j)
theorem Ex3.jb (h : Ex3 C) {v : Nat → Int} (hv : Sp C.p C.i v) (j : Nat) : Cg C.p (apV C.j v j) 0 := ap_zero h.b hv j
/-- What the second map makes of what the third one makes is a boundary. -/
theorem Ex3.kj (h : Ex3 C) {v : Nat → Int} (hv : Sp C.p C.k v) : Sp C.p (bdL C) (apV C.j v) := by
 obtain ⟨c, hc⟩ := hv
 refine Sp.le (bd_red h.c).2.2 ⟨c, fun j => ?_⟩
 refine (apV_cg (fun i _ => hc i) j).trans (Cg.symm ?_)
 exact df_ap h.c c j
/-- Two lifts differ by what is a boundary behind the second map. -/
theorem lift_same (h : Ex3 C) {u f g : List Int} (hf : IsLift C u f) (hg : IsLift C u g) : restP C.p (bdL C) (mvP C.p C.j C.e.toNat f) = restP C.p (bdL C) (mvP C.p C.j C.e.toNat g) := by
 obtain ⟨f1, f2, f3⟩ := hf
 obtain ⟨g1, g2_, g3⟩ := hg
 have hl := h.c.lens
 have hp := h.c.pos
 obtain ⟨⟨l, r⟩, _⟩ := bd_red h.c
 refine rest_eq r hp (mvP_len h.c.jr f) (mvP_bnd hp h.c.jr f2) (mvP_len h.c.jr g) (mvP_bnd hp h.c.jr g2_) ?_
 have hk : Sp C.p C.k fun i => f.getD i 0 - g.getD i 0 := h.a _ (fun j => by
  rw [apV_sub]
  have a1 := mvP_cg hp h.c.ir (v := f) (by omega) f2 j
  have a2 := mvP_cg hp h.c.ir (v := g) (by omega) g2_ j
  rw [f3, ← g3] at a1
  exact (Cg.sub a1.symm a2.symm).trans (Cg.of_eq (Int.sub_self _))) (fun k hk => by
  rw [getD_out (by omega), getD_out (by omega)]; exact Cg.refl _)
 refine Sp.cg (fun j => ?_) (h.kj hk)
 rw [apV_sub]
 exact Cg.sub (mvP_cg hp h.c.jr (by omega) f2 j) (mvP_cg hp h.c.jr (by omega) g2_ j)
theorem lift_ex (h : IsCp C) {u : List Int} (hl : u.length = C.d.toNat) (hb : Bnd C.p u) (hs : Sp C.p C.i fun j => u.getD j 0) : ∃ f, IsLift C u f := by
 obtain ⟨c, hc⟩ := hs
 have hp := h.pos
 have hll := h.lens
 have fl : ((List.range C.d.toNat).map fun q => c q % C.p).length = C.d.toNat := by simp
 have fb : Bnd C.p ((List.range C.d.toNat).map fun q => c q % C.p) := bnd_map hp _ _
 refine ⟨(List.range C.d.toNat).map fun q => c q % C.p, fl, fb, list_cg (by rw [mvP_len h.ir, hl]) (mvP_bnd hp h.ir fb) hb fun j => ?_⟩
 refine (mvP_cg hp h.ir (by omega) fb j).trans (Cg.trans (apV_cg (fun i hi => ?_) j) (hc j).symm)
 exact (Cg.of_eq (show _ = c i % C.p from getD_map_range (α := Int) (fun q => c q % C.p) (show i < C.d.toNat by omega))).trans (Cg.mod _)
theorem md_sp (h : IsCp C) {i : Nat} (hi : i < (mdL C).length) : Sp C.p C.i fun j => ((mdL C).getD i default).getD j 0 := (md_red h).2.1 i hi
theorem md_tb (h : IsCp C) : TB C.p C.d.toNat (mdL C) := by obtain ⟨⟨l, r⟩, _⟩ := md_red h; exact r.tbl
theorem cl_tb (h : IsCp C) : TB C.p C.e.toNat (clL C) := by obtain ⟨⟨l, r⟩, _⟩ := cl_red h; exact r.tbl
theorem md_lift (h : IsCp C) {i : Nat} (hi : i < (mdL C).length) : IsLift C ((mdL C).getD i default) (liftP C ((mdL C).getD i default)) :=
 Classical.epsilon_spec (lift_ex h (md_tb h _ (getD_mem hi)).1 (md_tb h _ (getD_mem hi)).2 (md_sp h hi))
/-- The derived second map by any lift. -/
theorem jd_eq (h : Ex3 C) {i : Nat} (hi : i < (mdL C).length) {f : List Int} (hf : IsLift C ((mdL C).getD i default) f) : tlP (clL C) (restP C.p (bdL C) (mvP C.p C.j C.e.toNat f)) = jdP C ((mdL C).getD i default) := by
 rw [jdP, lift_same h hf (md_lift h.c hi)]
theorem dcp_is (h : IsCp C) : IsCp (dcp C) := by
 have hp := h.pos
 obtain ⟨⟨l, r⟩, _⟩ := md_red h
 obtain ⟨⟨l2, r2⟩, _⟩ := cl_red h
 have h1 := r.le_w
 have h2 := r2.le_w
 have hd := h.d
 have he := h.e
 refine ⟨h.p, ⟨by show (0 : Int) ≤ ((mdL C).length : Int); omega, by show ((mdL C).length : Int) ≤ 24; omega⟩, ⟨by show (0 : Int) ≤ ((clL C).length : Int); omega, by show ((clL C).length : Int) ≤ 24; omega⟩, by simp [dcp], by simp [dcp], by simp [dcp], fun x hx => ?_, fun x hx => ?_, fun x hx => ?_⟩
 ·obtain ⟨y, hy, rfl⟩ := List.mem_map.1 hx
  exact ⟨by rw [tlP_len]; exact (Int.toNat_natCast _).symm, tlP_bnd hp _ (mvP_bnd hp h.ir (md_tb h y hy).2)⟩
 ·obtain ⟨y, hy, rfl⟩ := List.mem_map.1 hx
  obtain ⟨i, hi, rfl⟩ := List.getElem_of_mem hy
  have hl := md_lift h hi
  rw [List.getD_eq_getElem?_getD, List.getElem?_eq_getElem hi, Option.getD_some] at hl
  exact ⟨by rw [jdP, tlP_len]; exact (Int.toNat_natCast _).symm, tlP_bnd hp _ (restP_bnd hp (mvP_bnd hp h.jr hl.2.1))⟩
 ·obtain ⟨y, hy, rfl⟩ := List.mem_map.1 hx
  exact ⟨by rw [tlP_len]; exact (Int.toNat_natCast _).symm, tlP_bnd hp _ (mvP_bnd hp h.kr (cl_tb h y hy).2)⟩
end
end Go.Proofs.Ytjjjgllbocgkbaa

namespace Go.Proofs.Ytjjjgllbocgkbaa
open Go
section
variable {C : Cp}
theorem Sp.apV {p : Int} {M : List (List Int)} (v : Nat → Int) : Sp p M (apV M v) := ⟨v, fun _ => Cg.refl _⟩
/-- The rows of the derived maps. -/
theorem di_cg (h : IsCp C) {l : Nat → Nat} (r : Rr C.p C.d.toNat (mdL C) l) {i k : Nat} (hi : i < (mdL C).length) (hk : k < (mdL C).length) : Cg C.p (g2 (dcp C).i i k) (apV C.i (g2 (mdL C) i) (l k)) := by
 have ht := md_tb h _ (getD_mem hi)
 have hl := h.lens
 rw [show (dcp C).i = (mdL C).map fun r => tlP (mdL C) (mvP C.p C.i C.d.toNat r) from rfl, g2_map hi, tlP_get r hk]
 exact mvP_cg h.pos h.ir (by omega) ht.2 _
theorem dk_cg (h : IsCp C) {l : Nat → Nat} (r : Rr C.p C.d.toNat (mdL C) l) {i k : Nat} (hi : i < (clL C).length) (hk : k < (mdL C).length) : Cg C.p (g2 (dcp C).k i k) (apV C.k (g2 (clL C) i) (l k)) := by
 have ht := cl_tb h _ (getD_mem hi)
 have hl := h.lens
 rw [show (dcp C).k = (clL C).map fun r => tlP (mdL C) (mvP C.p C.k C.d.toNat r) from rfl, g2_map hi, tlP_get r hk]
 exact mvP_cg h.pos h.kr (by omega) ht.2 _
noncomputable def lfV (C : Cp) (i : Nat) : Nat → Int := fun j => (liftP C ((mdL C).getD i default)).getD j 0
theorem lf_ap (h : IsCp C) {i : Nat} (hi : i < (mdL C).length) (j : Nat) : Cg C.p (apV C.i (lfV C i) j) (g2 (mdL C) i j) := by
 obtain ⟨h1, h2, h3⟩ := md_lift h hi
 have hl := h.lens
 have := mvP_cg h.pos h.ir (v := liftP C ((mdL C).getD i default)) (by omega) h2 j
 rw [h3] at this
 exact this.symm
theorem dj_cg (h : IsCp C) {lb lc : Nat → Nat} (rb : Rr C.p C.e.toNat (bdL C) lb) (rc : Rr C.p C.e.toNat (clL C) lc) {i k : Nat} (hi : i < (mdL C).length) (hk : k < (clL C).length) : Cg C.p (g2 (dcp C).j i k) (rsV (bdL C) lb (apV C.j (lfV C i)) (lc k)) := by
 obtain ⟨h1, h2, h3⟩ := md_lift h hi
 have hl := h.lens
 rw [show (dcp C).j = (mdL C).map (jdP C) from rfl, g2_map hi, jdP, tlP_get rc hk]
 refine (rest_rs rb h.pos (mvP_len h.jr _) (mvP_bnd h.pos h.jr h2) _).trans (rsV_cg (fun q => ?_) _)
 exact mvP_cg h.pos h.jr (by omega) h2 q
theorem d_lens (h : IsCp C) : (dcp C).i.length = (mdL C).length ∧ (dcp C).j.length = (mdL C).length ∧ (dcp C).k.length = (clL C).length := by simp [dcp]
theorem d_out (h : IsCp C) : (∀ i k, (mdL C).length ≤ k → g2 (dcp C).i i k = 0) ∧ (∀ i k, (clL C).length ≤ k → g2 (dcp C).j i k = 0) ∧ (∀ i k, (mdL C).length ≤ k → g2 (dcp C).k i k = 0) := by
 have hd := dcp_is h
 have key : ∀ {M : List (List Int)} {w : Nat}, TB C.p w M → ∀ i k, w ≤ k → g2 M i k = 0 := fun {M w} ht i k hk => by
  by_cases hi : i < M.length
  ·exact g2_out (by rw [(ht _ (getD_mem hi)).1]; exact hk)
  ·rw [g2, show M.getD i default = [] by rw [List.getD_eq_getElem?_getD, List.getElem?_eq_none (by omega)]; rfl]; rfl
 have e1 : (dcp C).d.toNat = (mdL C).length := Int.toNat_natCast _
 have e2 : (dcp C).e.toNat = (clL C).length := Int.toNat_natCast _
 have t1 := hd.ir; have t2 := hd.jr; have t3 := hd.kr
 rw [e1] at t1 t3
 rw [e2] at t2
 exact ⟨key t1, key t2, key t3⟩
/-- What the second map makes of a lift, less boundaries, lies among the classes. -/
theorem cl_sp (h : IsCp C) {lb : Nat → Nat} (rb : Rr C.p C.e.toNat (bdL C) lb) {v : Nat → Int} (hv : Sp C.p (cyL C) v) : Sp C.p (clL C) (rsV (bdL C) lb v) := by
 obtain ⟨c, hc⟩ := hv
 refine Sp.le (cl_red h).2.2 ⟨c, fun j => ?_⟩
 have hl : (restL C.p (cyL C) (bdL C)).length = (cyL C).length := by simp [restL]
 refine (rsV_cg hc j).trans ?_
 rw [rsV_sm, hl]
 refine sm_cg fun k hk => Cg.mul (Cg.refl _) ?_
 have ht := cy_tb h _ (getD_mem hk)
 rw [restL, g2_map hk]
 exact (rest_rs rb h.pos ht.1 ht.2 j).symm
theorem rs_k (h : Ex3 C) {lb : Nat → Nat} {v : Nat → Int} (j : Nat) : Cg C.p (apV C.k (rsV (bdL C) lb v) j) (apV C.k v j) := by
 have h1 := h.kb (rsV_sp (p := C.p) (B := bdL C) (l := lb) v) j
 rw [apV_sub] at h1
 have h2 := Cg.add h1 (Cg.refl (apV C.k (rsV (bdL C) lb v) j))
 rw [Int.sub_add_cancel, Int.zero_add] at h2
 exact h2.symm
theorem dcp_ex (h : Ex3 C) : Ex3 (dcp C) := by
 have hC := h.c
 have hp := hC.pos
 obtain ⟨⟨lm, rm⟩, em⟩ := md_red hC
 obtain ⟨⟨lb, rb⟩, eb⟩ := bd_red hC
 obtain ⟨⟨lc, rc⟩, ec⟩ := cl_red hC
 obtain ⟨o1, o2, o3⟩ := d_out hC
 obtain ⟨n1, n2, n3⟩ := d_lens hC
 have hl := hC.lens
 refine ⟨dcp_is hC, fun c hc hs => ?_, fun i hi k => ?_, fun i hi k => ?_⟩
 ·-- what the first derived map makes 0 is made by the third
  change ∀ j, Cg C.p (apV (dcp C).i c j) 0 at hc
  have hs : ∀ k, (mdL C).length ≤ k → Cg C.p (c k) 0 := fun k hk => hs k (by show ((mdL C).length : Int).toNat ≤ k; rw [Int.toNat_natCast]; exact hk)
  show Sp C.p (dcp C).k c
  -- the vector that c speaks of
  have hx1 : Sp C.p (mdL C) (apV (mdL C) c) := Sp.apV c
  have hxI : Sp C.p C.i (apV (mdL C) c) := hx1.le em.1
  have hxl : ∀ k, k < (mdL C).length → apV (mdL C) c (lm k) = c k := fun k hk => by
   unfold apV
   rw [sm_one (k := k) hk (fun q hq hne => by rw [rm.cl k q hk hq hne, Int.mul_zero]), rm.one k hk, Int.mul_one]
  have hIx : ∀ j, Cg C.p (apV C.i (apV (mdL C) c) j) 0 := by
   have e : ∀ j, apV C.i (apV (mdL C) c) j = sm (mdL C).length fun k => c k * apV C.i (g2 (mdL C) k) j := fun j => apV_sm (mdL C).length c (fun k i => g2 (mdL C) k i) j
   have hsp : Sp C.p (mdL C) (apV C.i (apV (mdL C) c)) := (Sp.apV (p := C.p) (M := C.i) _).le em.2
   refine rm.zero hsp fun k hk => ?_
   have := hc k
   unfold apV at this
   rw [n1] at this
   rw [e]
   exact (sm_cg fun i hi => Cg.mul (Cg.refl _) (di_cg hC rm hi hk).symm).trans this
  have hxs : ∀ k, C.d.toNat ≤ k → Cg C.p (apV (mdL C) c k) 0 := fun k hk => Cg.of_eq (apV_out (fun r hr => (md_tb hC r hr).1) hk)
  obtain ⟨e0, he0⟩ := h.a _ hIx hxs
  -- cut to the width
  have he : ∀ j, Cg C.p (apV (mdL C) c j) (apV C.k (fun i => if i < C.e.toNat then e0 i else 0) j) := fun j => (he0 j).trans (sm_cg fun i hi => Cg.mul (Cg.of_eq (by dsimp only; rw [if_pos (by omega)])) (Cg.refl _))
  have hcy : Sp C.p (cyL C) (fun i => if i < C.e.toNat then e0 i else 0) := cy_sp hC (fun j => by
   refine (df_ap hC _ j).trans (Cg.trans (apV_cg (fun i _ => (he i).symm) j) (h.jb hxI j))) (fun k hk => by rw [if_neg (by omega)]; exact Cg.refl _)
  obtain ⟨a, ha⟩ := cl_sp hC rb hcy
  refine ⟨a, fun j => ?_⟩
  rw [n3]
  by_cases hj : j < (mdL C).length
  ·rw [← hxl j hj]
   refine (he (lm j)).trans (Cg.trans (rs_k h (lb := lb) (lm j)).symm (Cg.trans (apV_cg (fun i _ => ha i) (lm j)) ?_))
   rw [apV_sm]
   exact sm_cg fun i hi => Cg.mul (Cg.refl _) (dk_cg hC rm hi hj).symm
  ·exact (hs j (by omega)).trans (Cg.of_eq (sm_zero fun i _ => by rw [o3 i j (by omega), Int.mul_zero]).symm)
 ·-- the second derived map behind the first
  show Cg C.p (apV (dcp C).j (g2 (dcp C).i i) k) 0
  rw [n1] at hi
  by_cases hk : k < (clL C).length
  ·have hcoef : ∀ q, q < (mdL C).length → Cg C.p (g2 (dcp C).i i q) (apV C.i (g2 (mdL C) i) (lm q)) := fun q hq => di_cg hC rm hi hq
   -- the sum of lifts
   have e1 : Cg C.p (apV (dcp C).j (g2 (dcp C).i i) k) (rsV (bdL C) lb (apV C.j (fun q => sm (mdL C).length fun t => apV C.i (g2 (mdL C) i) (lm t) * lfV C t q)) (lc k)) := by
    have e2 : ∀ q, apV C.j (fun q => sm (mdL C).length fun t => apV C.i (g2 (mdL C) i) (lm t) * lfV C t q) q = sm (mdL C).length fun t => apV C.i (g2 (mdL C) i) (lm t) * apV C.j (lfV C t) q := fun q => apV_sm _ _ (fun t q => lfV C t q) q
    have e3 := rsV_sm (B := bdL C) (l := lb) (mdL C).length (fun t => apV C.i (g2 (mdL C) i) (lm t)) (fun t => apV C.j (lfV C t)) (lc k)
    refine Cg.trans ?_ (rsV_cg (fun q => Cg.of_eq (e2 q).symm) (lc k))
    rw [e3]
    unfold apV
    rw [n2]
    exact sm_cg fun t ht => Cg.mul (hcoef t ht) (dj_cg hC rb rc ht hk)
   refine e1.trans (rsV_zero rb ?_ _)
   -- it differs from the row by what the third map makes
   have hd : Sp C.p C.k fun q => (sm (mdL C).length fun t => apV C.i (g2 (mdL C) i) (lm t) * lfV C t q) - g2 (mdL C) i q := by
    refine h.a _ (fun j => ?_) (fun q hq => ?_)
    ·rw [apV_sub, apV_sm]
     have c1 : Cg C.p (sm (mdL C).length fun t => apV C.i (g2 (mdL C) i) (lm t) * apV C.i (lfV C t) j) (sm (mdL C).length fun t => apV C.i (g2 (mdL C) i) (lm t) * g2 (mdL C) t j) := sm_cg fun t ht => Cg.mul (Cg.refl _) (lf_ap hC ht j)
     have c2 := rm.coef ((Sp.apV (p := C.p) (M := C.i) (g2 (mdL C) i)).le em.2) j
     exact (Cg.sub (c1.trans c2.symm) (Cg.refl _)).trans (Cg.of_eq (Int.sub_self _))
    ·rw [show g2 (mdL C) i q = 0 from g2_out (by rw [(md_tb hC _ (getD_mem hi)).1]; exact hq), Int.sub_zero]
     refine sm_cg0 fun t ht => Cg.of_eq ?_
     obtain ⟨z1, _⟩ := md_lift hC ht
     rw [show lfV C t q = 0 from getD_out (by omega), Int.mul_zero]
   have hs := h.kj hd
   refine Sp.cg (fun q => ?_) hs
   rw [apV_sub]
   have := h.jb (v := g2 (mdL C) i) (md_sp hC hi) q
   exact (Cg.of_eq (Int.sub_zero _).symm).trans (Cg.sub (Cg.refl _) this.symm)
  ·exact Cg.of_eq (sm_zero fun q _ => by rw [o2 q k (by omega), Int.mul_zero])
 ·-- the third derived map behind the second
  show Cg C.p (apV (dcp C).k (g2 (dcp C).j i) k) 0
  rw [n2] at hi
  by_cases hk : k < (mdL C).length
  ·have hcy : Sp C.p (cyL C) (apV C.j (lfV C i)) := cy_sp hC (fun j => (df_ap hC _ j).trans ((apV_cg (fun q _ => h.jk (lfV C i) q) j).trans (Cg.of_eq (sm_zero fun q _ => Int.zero_mul _)))) (fun q hq => Cg.of_eq (apV_out (fun r hr => (hC.jr r hr).1) hq))
   have hw := cl_sp hC rb hcy
   have e1 : Cg C.p (apV (dcp C).k (g2 (dcp C).j i) k) (apV C.k (rsV (bdL C) lb (apV C.j (lfV C i))) (lm k)) := by
    have e2 := rc.coef hw
    refine Cg.trans ?_ (apV_cg (fun q _ => (e2 q).symm) (lm k))
    rw [apV_sm]
    unfold apV
    rw [n3]
    exact sm_cg fun t ht => Cg.mul (dj_cg hC rb rc hi ht) (dk_cg hC rm ht hk)
   exact e1.trans ((rs_k h (lb := lb) (lm k)).trans (h.jk _ _))
  ·exact Cg.of_eq (sm_zero fun q _ => by rw [o3 q k (by omega), Int.mul_zero])
end
end Go.Proofs.Ytjjjgllbocgkbaa

namespace Go.Proofs.Ytjjjgllbocgkbaa
open Go
theorem kerQ_rr {p : Int} {w : Nat} (hP : isP p = true) {rows : List (List Int)} (h : ∀ r ∈ rows, r.length = w ∧ Bnd p r) : ∃ l, Rr p rows.length (kerQ p rows) l := by
 by_cases e : rows = []
 ·subst e; rw [kerQ_nil (isP_two hP).1]; exact ⟨fun i => i, Rr.nil⟩
 ·rw [kerQ_w h e]; exact kerP_rr hP h

section
variable {o : Oper} {l m : List Oper} {j : Nat}
theorem opAt_app0 : opAt (List.toArray (List.append (o :: l) m)) 0 = some o := by simp [opAt]
theorem opAt_appS : opAt (List.toArray (List.append (o :: l) m)) (j + 1) = opAt (List.toArray (List.append l m)) j := by simp [opAt]
theorem opAt_appN : opAt (List.toArray (List.append [] m)) j = opAt (List.toArray m) j := by simp [opAt]
theorem slotOf_app0 : slotOf (List.toArray (List.append (o :: l) m)) 0 = o.dst := by simp [slotOf]
theorem slotOf_appS : slotOf (List.toArray (List.append (o :: l) m)) (j + 1) = slotOf (List.toArray (List.append l m)) j := by simp [slotOf]
theorem slotOf_appN : slotOf (List.toArray (List.append [] m)) j = slotOf (List.toArray m) j := by simp [slotOf]
end
noncomputable def isCp (C : Cp) : Bool := @decide (IsCp C) (Classical.propDecidable _)
theorem isCp_t {C : Cp} : isCp C = true ↔ IsCp C := by
 unfold isCp
 exact @decide_eq_true_iff _ (Classical.propDecidable _)
theorem isCp_no {C : Cp} (h : ¬ IsCp C) : false = isCp C := by
 cases e : isCp C
 ·rfl
 ·exact absurd (isCp_t.1 e) h
theorem tb_iff {p w : Int} (h : 0 ≤ w) {M : List (List Int)} : M.all (isRow p w) = true ↔ TB p w.toNat M := by
 simp only [List.all_eq_true, isRow_iff, TB]
 constructor
 ·intro k r hr; have := k r hr; exact ⟨by omega, this.2⟩
 ·intro k r hr; have := k r hr; exact ⟨by omega, this.2⟩
theorem isCp_iff {C : Cp} : IsCp C ↔ isP C.p = true ∧ (0 ≤ C.d ∧ C.d ≤ 24) ∧ (0 ≤ C.e ∧ C.e ≤ 24) ∧ (C.i.length : Int) = C.d ∧ (C.j.length : Int) = C.d ∧ (C.k.length : Int) = C.e ∧ C.i.all (isRow C.p C.d) = true ∧ C.j.all (isRow C.p C.e) = true ∧ C.k.all (isRow C.p C.d) = true := by
 constructor
 ·intro h
  exact ⟨h.p, h.d, h.e, h.il, h.jl, h.kl, (tb_iff h.d.1).2 h.ir, (tb_iff h.e.1).2 h.jr, (tb_iff h.d.1).2 h.kr⟩
 ·rintro ⟨h1, h2, h3, h4, h5, h6, h7, h8, h9⟩
  exact ⟨h1, h2, h3, h4, h5, h6, (tb_iff h2.1).1 h7, (tb_iff h3.1).1 h8, (tb_iff h2.1).1 h9⟩
noncomputable def sameSp (p : Int) (A B : List (List Int)) : Bool := decide (ech p A = kerQ p B)
noncomputable def exC (C : Cp) : Bool := (sameSp C.p C.i C.j && sameSp C.p C.j C.k) && sameSp C.p C.k C.i
noncomputable def cpC (C : Cp) : Int := if isCp C = true then (if exC C = true then 0 else 5) else 1
theorem cpC_0 {C : Cp} (h : cpC C = 0) : IsCp C ∧ exC C = true := by
 unfold cpC at h
 split at h
 ·rename_i h1
  split at h
  ·rename_i h2; exact ⟨isCp_t.1 h1, h2⟩
  ·cases h
 ·cases h
/-- The vectors that a table makes 0. -/
theorem kerQ_mem {p : Int} {w : Nat} (hP : isP p = true) {M : List (List Int)} (h : TB p w M) {v : Nat → Int} (hv : Sp p (kerQ p M) v) (j : Nat) : Cg p (apV M v j) 0 := by
 by_cases e : M = []
 ·subst e; exact Cg.refl _
 ·rw [kerQ_w h e] at hv
  have := (ker_sp hP h).1 hv
  by_cases hj : j < w
  ·exact this.1 j hj
  ·exact Cg.of_eq (apV_out (fun r hr => (h r hr).1) (by omega))
/-- An exact couple hands on what is asked. -/
theorem ex3_of {C : Cp} (h : IsCp C) (he : exC C = true) : Ex3 C := by
 unfold exC at he
 rw [Bool.and_eq_true, Bool.and_eq_true] at he
 obtain ⟨⟨e1, e2⟩, e3⟩ := he
 have e1 : ech C.p C.i = kerQ C.p C.j := of_decide_eq_true e1
 have e2 : ech C.p C.j = kerQ C.p C.k := of_decide_eq_true e2
 have e3 : ech C.p C.k = kerQ C.p C.i := of_decide_eq_true e3
 have hl := h.lens
 refine ⟨h, fun v h1 h2 => ?_, fun i hi j => ?_, fun i hi j => ?_⟩
 ·have := kerQ_sp h.p h.ir (v := v) (fun j _ => h1 j) (fun k hk => h2 k (by omega))
  rw [← e3] at this
  exact this.le (ech_red h.p h.kr).2.1
 ·have := (Sp.row (p := C.p) (L := C.i) hi).le (ech_red h.p h.ir).2.2
  rw [e1] at this
  exact kerQ_mem h.p h.jr this j
 ·have := (Sp.row (p := C.p) (L := C.j) hi).le (ech_red h.p h.jr).2.2
  rw [e2] at this
  exact kerQ_mem h.p h.kr this j
theorem lead_neg {xs : List Int} : leadP xs < 0 ↔ ∀ j, xs.getD j 0 = 0 := by
 rcases lead_cases xs with ⟨h, k⟩ | ⟨k, hk, h, _, h2⟩
 ·exact ⟨fun _ => k, fun _ => by omega⟩
 ·exact ⟨fun q => by omega, fun q => absurd (q k) h2⟩
/-- One space within another one, with as many rows in the reduced lists. -/
theorem same_iff {p : Int} {w1 w2 : Nat} (hP : isP p = true) {A B : List (List Int)} (hA : TB p w1 A) (hB : TB p w2 B) (hw : B.length = w1) : sameSp p A B = true ↔ (ech p A).length = (kerQ p B).length ∧ ∀ i, i < (ech p A).length → ∀ j, (restP p (kerQ p B) ((ech p A).getD i default)).getD j 0 = 0 := by
 have hp := isP_two hP
 obtain ⟨⟨l, r⟩, _⟩ := ech_red hP hA
 obtain ⟨m, s⟩ := kerQ_rr hP hB
 rw [hw] at s
 constructor
 ·intro h
  have h := of_decide_eq_true h
  rw [← h]
  exact ⟨rfl, fun i hi => (restP_iff r (by omega) (r.len i hi) (r.bnd i hi)).2 (Sp.row hi)⟩
 ·rintro ⟨h1, h2⟩
  exact decide_eq_true (r.eq_of_len hp.1 s (fun i hi => (restP_iff s (by omega) (r.len i hi) (r.bnd i hi)).1 (h2 i hi)) h1)

set_option maxRecDepth 100000 in
set_option maxHeartbeats 4000000 in
theorem iIsCp_ok (vX : Value) (X : Cp) (h : Heap) (rX : RP h vX X)  : CallA Try.prog 106 #[vX] h fun v' h' => v' = .bool (isCp X) ∧ Ext h h' := by
 obtain ⟨viX, vjX, vkX, rfl, hiX, hjX, hkX⟩ := rX
 have hleiX := RdS.le hiX
 have hlejX := RdS.le hjX
 have hlekX := RdS.le hkX
 refine callA_intro TTok (args := [_]) Try.func106 (by kernel_rfl) rfl 67 rfl (by simp) [.tmp 2] rfl ?_
 simp only [idxs, Nat.reduceAdd]
 refine den_seq ?_
 refine den_region TTok ?_
 intro K hK
 simp -implicitDefEqProofs (disch := first | decide | assumption | omega) only [go_sem, wrap_id, opAt_app0, opAt_appS, opAt_appN, slotOf_app0, slotOf_appS, slotOf_appN]
 refine op_box (cs := #[.int .i64 (X.p), .int .i64 (X.d), .int .i64 (X.e), viX, vjX, vkX]) rfl ?_
 intro h0_0 e0_0 hb0_0 z0_0
 have := Ext.size e0_0
 have eB := e0_0
 have hfhb0_0 : Fresh h.size [h.size] := Fresh.one _
 have hlhb0_0 := one_lt (show h.size < h0_0.size by omega)
 try simp -implicitDefEqProofs (disch := first | decide | assumption | omega) only [go_sem, wrap_id, opAt_app0, opAt_appS, opAt_appN, slotOf_app0, slotOf_appS, slotOf_appN]
 refine hK _ _ ?_
 clear hK K
 refine den_seq ?_
 refine den_merge [(2, .bool ((((((((((isP X.p) && (in3 X.d (0 : Int) (24 : Int))) && (in3 X.e (0 : Int) (24 : Int))) && (((X.i).length : Int) == X.d)) && (((X.j).length : Int) == X.d)) && (((X.k).length : Int) == X.e)) && ((X.i).all (isRow X.p X.d))) && ((X.j).all (isRow X.p X.e))) && ((X.k).all (isRow X.p X.d)))))] [] (fun H => Ext h0_0 H) ?_ ?_
  -- a way
 ·refine den_draw TTok mixed [] [(0, true), (1, true), (2, false), (3, true), (4, true), (5, true), (6, false), (7, true), (8, true), (9, true), (10, true), (11, false), (12, true), (13, true), (14, true), (15, true), (17, true), (18, true), (16, false), (19, true), (20, true), (21, true), (22, true), (23, true), (25, true), (26, true), (24, false), (27, true), (28, true), (29, true), (30, true), (31, true), (33, true), (34, true), (32, false), (35, true), (36, true), (37, true), (38, true), (39, true), (40, true), (41, true), (42, true), (43, true), (44, false), (45, true), (46, true), (47, true), (48, true), (49, true), (50, true), (51, true), (52, true), (53, false), (54, true), (55, true), (56, true), (57, true), (58, true), (59, true), (60, true), (61, true), (62, false), (63, true), (64, true)] (by kernel_rfl) ?_
  intro K hK
  simp -implicitDefEqProofs (disch := first | decide | assumption | (simp (disch := decide) only [slotOf_zero, slotOf_succ, Option.map_some, puts_same, puts_ne, gv_bool, gv_undef, tt, tf, ft, ff, eq_self, if_true, if_false, Bool.false_eq_true, Bool.not_true, Bool.not_false, slotOf_app0, slotOf_appS, slotOf_appN]; done) | omega) only [go_sem, fa53_0, ld2, RdS.len hiX sl26, RdS.idx hiX sl26, RdS.cellB hiX (Ext.pres eB), RdS.cells hiX, RdS.len hjX sl26, RdS.idx hjX sl26, RdS.cellB hjX (Ext.pres eB), RdS.cells hjX, RdS.len hkX sl26, RdS.idx hkX sl26, RdS.cellB hkX (Ext.pres eB), RdS.cells hkX, BoxAt.cell hb0_0, wrap_id, opAt_app0, opAt_appS, opAt_appN, slotOf_app0, slotOf_appS, slotOf_appN]
  try simp -implicitDefEqProofs (disch := first | decide | assumption | omega) only [go_sem, wrap_id, opAt_app0, opAt_appS, opAt_appN, slotOf_app0, slotOf_appS, slotOf_appN]
  refine CallA.pure (iPrime_ok _ _) ?_
  try simp -implicitDefEqProofs (disch := first | decide | assumption | (simp (disch := decide) only [slotOf_zero, slotOf_succ, Option.map_some, puts_same, puts_ne, gv_bool, gv_undef, tt, tf, ft, ff, eq_self, if_true, if_false, Bool.false_eq_true, Bool.not_true, Bool.not_false, slotOf_app0, slotOf_appS, slotOf_appN]; done) | omega) only [go_sem, wrap_id, opAt_app0, opAt_appS, opAt_appN, slotOf_app0, slotOf_appS, slotOf_appN]
  refine plG_T (by simp (disch := decide) only [slotOf_zero, slotOf_succ, Option.map_some, puts_same, puts_ne, gv_bool, gv_undef, tt, tf, ft, ff, eq_self, if_true, if_false, Bool.false_eq_true, Bool.not_true, Bool.not_false, slotOf_app0, slotOf_appS, slotOf_appN]; rfl) (fun g1 => ?_) (fun g1 => ?_)
  ·have hpb := isP_bnd g1
   try simp -implicitDefEqProofs (disch := first | decide | assumption | (simp (disch := decide) only [slotOf_zero, slotOf_succ, Option.map_some, puts_same, puts_ne, gv_bool, gv_undef, tt, tf, ft, ff, eq_self, if_true, if_false, Bool.false_eq_true, Bool.not_true, Bool.not_false, slotOf_app0, slotOf_appS, slotOf_appN, g1]; done) | omega) only [go_sem, fa53_1, ld2, RdS.len hiX sl26, RdS.idx hiX sl26, RdS.cellB hiX (Ext.pres eB), RdS.cells hiX, RdS.len hjX sl26, RdS.idx hjX sl26, RdS.cellB hjX (Ext.pres eB), RdS.cells hjX, RdS.len hkX sl26, RdS.idx hkX sl26, RdS.cellB hkX (Ext.pres eB), RdS.cells hkX, BoxAt.cell hb0_0, wrap_id, opAt_app0, opAt_appS, opAt_appN, slotOf_app0, slotOf_appS, slotOf_appN, g1, eq_self, if_true, if_false, Bool.false_eq_true]
   try simp -implicitDefEqProofs (disch := first | decide | assumption | omega) only [go_sem, wrap_id, opAt_app0, opAt_appS, opAt_appN, slotOf_app0, slotOf_appS, slotOf_appN]
   refine CallA.pure (iIn_ok _ _ _ _) ?_
   try simp -implicitDefEqProofs (disch := first | decide | assumption | (simp (disch := decide) only [slotOf_zero, slotOf_succ, Option.map_some, puts_same, puts_ne, gv_bool, gv_undef, tt, tf, ft, ff, eq_self, if_true, if_false, Bool.false_eq_true, Bool.not_true, Bool.not_false, slotOf_app0, slotOf_appS, slotOf_appN, g1]; done) | omega) only [go_sem, wrap_id, opAt_app0, opAt_appS, opAt_appN, slotOf_app0, slotOf_appS, slotOf_appN, g1, eq_self, if_true, if_false, Bool.false_eq_true]
   refine plG_T (by simp (disch := decide) only [slotOf_zero, slotOf_succ, Option.map_some, puts_same, puts_ne, gv_bool, gv_undef, tt, tf, ft, ff, eq_self, if_true, if_false, Bool.false_eq_true, Bool.not_true, Bool.not_false, slotOf_app0, slotOf_appS, slotOf_appN, g1]; rfl) (fun g2 => ?_) (fun g2 => ?_)
   ·try simp -implicitDefEqProofs (disch := first | decide | assumption | (simp (disch := decide) only [slotOf_zero, slotOf_succ, Option.map_some, puts_same, puts_ne, gv_bool, gv_undef, tt, tf, ft, ff, eq_self, if_true, if_false, Bool.false_eq_true, Bool.not_true, Bool.not_false, slotOf_app0, slotOf_appS, slotOf_appN, g1, g2]; done) | omega) only [go_sem, fa53_2, ld2, RdS.len hiX sl26, RdS.idx hiX sl26, RdS.cellB hiX (Ext.pres eB), RdS.cells hiX, RdS.len hjX sl26, RdS.idx hjX sl26, RdS.cellB hjX (Ext.pres eB), RdS.cells hjX, RdS.len hkX sl26, RdS.idx hkX sl26, RdS.cellB hkX (Ext.pres eB), RdS.cells hkX, BoxAt.cell hb0_0, wrap_id, opAt_app0, opAt_appS, opAt_appN, slotOf_app0, slotOf_appS, slotOf_appN, g1, g2, eq_self, if_true, if_false, Bool.false_eq_true]
    try simp -implicitDefEqProofs (disch := first | decide | assumption | omega) only [go_sem, wrap_id, opAt_app0, opAt_appS, opAt_appN, slotOf_app0, slotOf_appS, slotOf_appN]
    refine CallA.pure (iIn_ok _ _ _ _) ?_
    try simp -implicitDefEqProofs (disch := first | decide | assumption | (simp (disch := decide) only [slotOf_zero, slotOf_succ, Option.map_some, puts_same, puts_ne, gv_bool, gv_undef, tt, tf, ft, ff, eq_self, if_true, if_false, Bool.false_eq_true, Bool.not_true, Bool.not_false, slotOf_app0, slotOf_appS, slotOf_appN, g1, g2]; done) | omega) only [go_sem, wrap_id, opAt_app0, opAt_appS, opAt_appN, slotOf_app0, slotOf_appS, slotOf_appN, g1, g2, eq_self, if_true, if_false, Bool.false_eq_true]
    refine plG_T (by simp (disch := decide) only [slotOf_zero, slotOf_succ, Option.map_some, puts_same, puts_ne, gv_bool, gv_undef, tt, tf, ft, ff, eq_self, if_true, if_false, Bool.false_eq_true, Bool.not_true, Bool.not_false, slotOf_app0, slotOf_appS, slotOf_appN, g1, g2]; rfl) (fun g3 => ?_) (fun g3 => ?_)
    ·try simp -implicitDefEqProofs (disch := first | decide | assumption | (simp (disch := decide) only [slotOf_zero, slotOf_succ, Option.map_some, puts_same, puts_ne, gv_bool, gv_undef, tt, tf, ft, ff, eq_self, if_true, if_false, Bool.false_eq_true, Bool.not_true, Bool.not_false, slotOf_app0, slotOf_appS, slotOf_appN, g1, g2, g3]; done) | omega) only [go_sem, fa53_1, fa53_3, ld26, ld2, RdS.len hiX sl26, RdS.idx hiX sl26, RdS.cellB hiX (Ext.pres eB), RdS.cells hiX, RdS.len hjX sl26, RdS.idx hjX sl26, RdS.cellB hjX (Ext.pres eB), RdS.cells hjX, RdS.len hkX sl26, RdS.idx hkX sl26, RdS.cellB hkX (Ext.pres eB), RdS.cells hkX, BoxAt.cell hb0_0, wrap_id, opAt_app0, opAt_appS, opAt_appN, slotOf_app0, slotOf_appS, slotOf_appN, g1, g2, g3, eq_self, if_true, if_false, Bool.false_eq_true]
     try simp -implicitDefEqProofs (disch := first | decide | assumption | omega) only [go_sem, wrap_id, opAt_app0, opAt_appS, opAt_appN, slotOf_app0, slotOf_appS, slotOf_appN]
     refine CallA.pure (size2_ok _ _ _ (RdS.pres hiX (Ext.pres eB))) ?_
     try simp -implicitDefEqProofs (disch := first | decide | assumption | (simp (disch := decide) only [slotOf_zero, slotOf_succ, Option.map_some, puts_same, puts_ne, gv_bool, gv_undef, tt, tf, ft, ff, eq_self, if_true, if_false, Bool.false_eq_true, Bool.not_true, Bool.not_false, slotOf_app0, slotOf_appS, slotOf_appN, g1, g2, g3]; done) | omega) only [go_sem, wrap_id, opAt_app0, opAt_appS, opAt_appN, slotOf_app0, slotOf_appS, slotOf_appN, g1, g2, g3, eq_self, if_true, if_false, Bool.false_eq_true]
     refine plG_T (by simp (disch := decide) only [slotOf_zero, slotOf_succ, Option.map_some, puts_same, puts_ne, gv_bool, gv_undef, tt, tf, ft, ff, eq_self, if_true, if_false, Bool.false_eq_true, Bool.not_true, Bool.not_false, slotOf_app0, slotOf_appS, slotOf_appN, g1, g2, g3]; rfl) (fun g4 => ?_) (fun g4 => ?_)
     ·try simp -implicitDefEqProofs (disch := first | decide | assumption | (simp (disch := decide) only [slotOf_zero, slotOf_succ, Option.map_some, puts_same, puts_ne, gv_bool, gv_undef, tt, tf, ft, ff, eq_self, if_true, if_false, Bool.false_eq_true, Bool.not_true, Bool.not_false, slotOf_app0, slotOf_appS, slotOf_appN, g1, g2, g3, g4]; done) | omega) only [go_sem, fa53_1, fa53_4, ld26, ld2, RdS.len hiX sl26, RdS.idx hiX sl26, RdS.cellB hiX (Ext.pres eB), RdS.cells hiX, RdS.len hjX sl26, RdS.idx hjX sl26, RdS.cellB hjX (Ext.pres eB), RdS.cells hjX, RdS.len hkX sl26, RdS.idx hkX sl26, RdS.cellB hkX (Ext.pres eB), RdS.cells hkX, BoxAt.cell hb0_0, wrap_id, opAt_app0, opAt_appS, opAt_appN, slotOf_app0, slotOf_appS, slotOf_appN, g1, g2, g3, g4, eq_self, if_true, if_false, Bool.false_eq_true]
      try simp -implicitDefEqProofs (disch := first | decide | assumption | omega) only [go_sem, wrap_id, opAt_app0, opAt_appS, opAt_appN, slotOf_app0, slotOf_appS, slotOf_appN]
      refine CallA.pure (size2_ok _ _ _ (RdS.pres hjX (Ext.pres eB))) ?_
      try simp -implicitDefEqProofs (disch := first | decide | assumption | (simp (disch := decide) only [slotOf_zero, slotOf_succ, Option.map_some, puts_same, puts_ne, gv_bool, gv_undef, tt, tf, ft, ff, eq_self, if_true, if_false, Bool.false_eq_true, Bool.not_true, Bool.not_false, slotOf_app0, slotOf_appS, slotOf_appN, g1, g2, g3, g4]; done) | omega) only [go_sem, wrap_id, opAt_app0, opAt_appS, opAt_appN, slotOf_app0, slotOf_appS, slotOf_appN, g1, g2, g3, g4, eq_self, if_true, if_false, Bool.false_eq_true]
      refine plG_T (by simp (disch := decide) only [slotOf_zero, slotOf_succ, Option.map_some, puts_same, puts_ne, gv_bool, gv_undef, tt, tf, ft, ff, eq_self, if_true, if_false, Bool.false_eq_true, Bool.not_true, Bool.not_false, slotOf_app0, slotOf_appS, slotOf_appN, g1, g2, g3, g4]; rfl) (fun g5 => ?_) (fun g5 => ?_)
      ·try simp -implicitDefEqProofs (disch := first | decide | assumption | (simp (disch := decide) only [slotOf_zero, slotOf_succ, Option.map_some, puts_same, puts_ne, gv_bool, gv_undef, tt, tf, ft, ff, eq_self, if_true, if_false, Bool.false_eq_true, Bool.not_true, Bool.not_false, slotOf_app0, slotOf_appS, slotOf_appN, g1, g2, g3, g4, g5]; done) | omega) only [go_sem, fa53_2, fa53_5, ld26, ld2, RdS.len hiX sl26, RdS.idx hiX sl26, RdS.cellB hiX (Ext.pres eB), RdS.cells hiX, RdS.len hjX sl26, RdS.idx hjX sl26, RdS.cellB hjX (Ext.pres eB), RdS.cells hjX, RdS.len hkX sl26, RdS.idx hkX sl26, RdS.cellB hkX (Ext.pres eB), RdS.cells hkX, BoxAt.cell hb0_0, wrap_id, opAt_app0, opAt_appS, opAt_appN, slotOf_app0, slotOf_appS, slotOf_appN, g1, g2, g3, g4, g5, eq_self, if_true, if_false, Bool.false_eq_true]
       try simp -implicitDefEqProofs (disch := first | decide | assumption | omega) only [go_sem, wrap_id, opAt_app0, opAt_appS, opAt_appN, slotOf_app0, slotOf_appS, slotOf_appN]
       refine CallA.pure (size2_ok _ _ _ (RdS.pres hkX (Ext.pres eB))) ?_
       try simp -implicitDefEqProofs (disch := first | decide | assumption | (simp (disch := decide) only [slotOf_zero, slotOf_succ, Option.map_some, puts_same, puts_ne, gv_bool, gv_undef, tt, tf, ft, ff, eq_self, if_true, if_false, Bool.false_eq_true, Bool.not_true, Bool.not_false, slotOf_app0, slotOf_appS, slotOf_appN, g1, g2, g3, g4, g5]; done) | omega) only [go_sem, wrap_id, opAt_app0, opAt_appS, opAt_appN, slotOf_app0, slotOf_appS, slotOf_appN, g1, g2, g3, g4, g5, eq_self, if_true, if_false, Bool.false_eq_true]
       refine plG_T (by simp (disch := decide) only [slotOf_zero, slotOf_succ, Option.map_some, puts_same, puts_ne, gv_bool, gv_undef, tt, tf, ft, ff, eq_self, if_true, if_false, Bool.false_eq_true, Bool.not_true, Bool.not_false, slotOf_app0, slotOf_appS, slotOf_appN, g1, g2, g3, g4, g5]; rfl) (fun g6 => ?_) (fun g6 => ?_)
       ·try simp -implicitDefEqProofs (disch := first | decide | assumption | (simp (disch := decide) only [slotOf_zero, slotOf_succ, Option.map_some, puts_same, puts_ne, gv_bool, gv_undef, tt, tf, ft, ff, eq_self, if_true, if_false, Bool.false_eq_true, Bool.not_true, Bool.not_false, slotOf_app0, slotOf_appS, slotOf_appN, g1, g2, g3, g4, g5, g6]; done) | omega) only [go_sem, fa53_0, fa53_1, fa53_3, ld26, ld2, RdS.len hiX sl26, RdS.idx hiX sl26, RdS.cellB hiX (Ext.pres eB), RdS.cells hiX, RdS.len hjX sl26, RdS.idx hjX sl26, RdS.cellB hjX (Ext.pres eB), RdS.cells hjX, RdS.len hkX sl26, RdS.idx hkX sl26, RdS.cellB hkX (Ext.pres eB), RdS.cells hkX, BoxAt.cell hb0_0, wrap_id, opAt_app0, opAt_appS, opAt_appN, slotOf_app0, slotOf_appS, slotOf_appN, g1, g2, g3, g4, g5, g6, eq_self, if_true, if_false, Bool.false_eq_true]
        try simp -implicitDefEqProofs (disch := first | decide | assumption | omega) only [go_sem, wrap_id, opAt_app0, opAt_appS, opAt_appN, slotOf_app0, slotOf_appS, slotOf_appN]
        refine CallA.mono (areRows_ok _ _ _ _ _ (RdS.pres hiX (Ext.pres eB)) (by omega)) ?_
        intro v_ h1_44
        rintro ⟨rfl, e1_44⟩
        replace hb0_0 := BoxAt.ext hb0_0 e1_44
        have := Ext.size e1_44
        replace eB := Ext.trans eB e1_44
        try simp (disch := decide) only [outv_some, outv_none, put_puts]
        refine plK_pres (Ext.pres e1_44) ?_
        try simp -implicitDefEqProofs (disch := first | decide | assumption | (simp (disch := decide) only [slotOf_zero, slotOf_succ, Option.map_some, puts_same, puts_ne, gv_bool, gv_undef, tt, tf, ft, ff, eq_self, if_true, if_false, Bool.false_eq_true, Bool.not_true, Bool.not_false, slotOf_app0, slotOf_appS, slotOf_appN, g1, g2, g3, g4, g5, g6]; done) | omega) only [go_sem, wrap_id, opAt_app0, opAt_appS, opAt_appN, slotOf_app0, slotOf_appS, slotOf_appN, g1, g2, g3, g4, g5, g6, eq_self, if_true, if_false, Bool.false_eq_true]
        refine plG_T (by simp (disch := decide) only [slotOf_zero, slotOf_succ, Option.map_some, puts_same, puts_ne, gv_bool, gv_undef, tt, tf, ft, ff, eq_self, if_true, if_false, Bool.false_eq_true, Bool.not_true, Bool.not_false, slotOf_app0, slotOf_appS, slotOf_appN, g1, g2, g3, g4, g5, g6]; rfl) (fun g7 => ?_) (fun g7 => ?_)
        ·try simp -implicitDefEqProofs (disch := first | decide | assumption | (simp (disch := decide) only [slotOf_zero, slotOf_succ, Option.map_some, puts_same, puts_ne, gv_bool, gv_undef, tt, tf, ft, ff, eq_self, if_true, if_false, Bool.false_eq_true, Bool.not_true, Bool.not_false, slotOf_app0, slotOf_appS, slotOf_appN, g1, g2, g3, g4, g5, g6, g7]; done) | omega) only [go_sem, fa53_0, fa53_2, fa53_4, ld26, ld2, RdS.len hiX sl26, RdS.idx hiX sl26, RdS.cellB hiX (Ext.pres eB), RdS.cells hiX, RdS.len hjX sl26, RdS.idx hjX sl26, RdS.cellB hjX (Ext.pres eB), RdS.cells hjX, RdS.len hkX sl26, RdS.idx hkX sl26, RdS.cellB hkX (Ext.pres eB), RdS.cells hkX, BoxAt.cell hb0_0, wrap_id, opAt_app0, opAt_appS, opAt_appN, slotOf_app0, slotOf_appS, slotOf_appN, g1, g2, g3, g4, g5, g6, g7, eq_self, if_true, if_false, Bool.false_eq_true]
         try simp -implicitDefEqProofs (disch := first | decide | assumption | omega) only [go_sem, wrap_id, opAt_app0, opAt_appS, opAt_appN, slotOf_app0, slotOf_appS, slotOf_appN]
         refine CallA.mono (areRows_ok _ _ _ _ _ (RdS.pres hjX (Ext.pres eB)) (by omega)) ?_
         intro v_ h1_53
         rintro ⟨rfl, e1_53⟩
         replace hb0_0 := BoxAt.ext hb0_0 e1_53
         have := Ext.size e1_53
         replace eB := Ext.trans eB e1_53
         try simp (disch := decide) only [outv_some, outv_none, put_puts]
         refine plK_pres (Ext.pres e1_53) ?_
         try simp -implicitDefEqProofs (disch := first | decide | assumption | (simp (disch := decide) only [slotOf_zero, slotOf_succ, Option.map_some, puts_same, puts_ne, gv_bool, gv_undef, tt, tf, ft, ff, eq_self, if_true, if_false, Bool.false_eq_true, Bool.not_true, Bool.not_false, slotOf_app0, slotOf_appS, slotOf_appN, g1, g2, g3, g4, g5, g6, g7]; done) | omega) only [go_sem, wrap_id, opAt_app0, opAt_appS, opAt_appN, slotOf_app0, slotOf_appS, slotOf_appN, g1, g2, g3, g4, g5, g6, g7, eq_self, if_true, if_false, Bool.false_eq_true]
         refine plG_T (by simp (disch := decide) only [slotOf_zero, slotOf_succ, Option.map_some, puts_same, puts_ne, gv_bool, gv_undef, tt, tf, ft, ff, eq_self, if_true, if_false, Bool.false_eq_true, Bool.not_true, Bool.not_false, slotOf_app0, slotOf_appS, slotOf_appN, g1, g2, g3, g4, g5, g6, g7]; rfl) (fun g8 => ?_) (fun g8 => ?_)
         ·try simp -implicitDefEqProofs (disch := first | decide | assumption | (simp (disch := decide) only [slotOf_zero, slotOf_succ, Option.map_some, puts_same, puts_ne, gv_bool, gv_undef, tt, tf, ft, ff, eq_self, if_true, if_false, Bool.false_eq_true, Bool.not_true, Bool.not_false, slotOf_app0, slotOf_appS, slotOf_appN, g1, g2, g3, g4, g5, g6, g7, g8]; done) | omega) only [go_sem, fa53_0, fa53_1, fa53_5, ld26, ld2, RdS.len hiX sl26, RdS.idx hiX sl26, RdS.cellB hiX (Ext.pres eB), RdS.cells hiX, RdS.len hjX sl26, RdS.idx hjX sl26, RdS.cellB hjX (Ext.pres eB), RdS.cells hjX, RdS.len hkX sl26, RdS.idx hkX sl26, RdS.cellB hkX (Ext.pres eB), RdS.cells hkX, BoxAt.cell hb0_0, wrap_id, opAt_app0, opAt_appS, opAt_appN, slotOf_app0, slotOf_appS, slotOf_appN, g1, g2, g3, g4, g5, g6, g7, g8, eq_self, if_true, if_false, Bool.false_eq_true]
          try simp -implicitDefEqProofs (disch := first | decide | assumption | omega) only [go_sem, wrap_id, opAt_app0, opAt_appS, opAt_appN, slotOf_app0, slotOf_appS, slotOf_appN]
          refine CallA.mono (areRows_ok _ _ _ _ _ (RdS.pres hkX (Ext.pres eB)) (by omega)) ?_
          intro v_ h1_62
          rintro ⟨rfl, e1_62⟩
          replace hb0_0 := BoxAt.ext hb0_0 e1_62
          have := Ext.size e1_62
          replace eB := Ext.trans eB e1_62
          try simp (disch := decide) only [outv_some, outv_none, put_puts]
          refine plK_pres (Ext.pres e1_62) ?_
          try simp -implicitDefEqProofs (disch := first | decide | assumption | (simp (disch := decide) only [slotOf_zero, slotOf_succ, Option.map_some, puts_same, puts_ne, gv_bool, gv_undef, tt, tf, ft, ff, eq_self, if_true, if_false, Bool.false_eq_true, Bool.not_true, Bool.not_false, slotOf_app0, slotOf_appS, slotOf_appN, g1, g2, g3, g4, g5, g6, g7, g8]; done) | omega) only [go_sem, wrap_id, opAt_app0, opAt_appS, opAt_appN, slotOf_app0, slotOf_appS, slotOf_appN, g1, g2, g3, g4, g5, g6, g7, g8, eq_self, if_true, if_false, Bool.false_eq_true]
          refine hK _ _ ?_
          clear hK K
          refine den_stop ?_
          refine ⟨?_, (Ext.trans (Ext.trans e1_44 e1_53) e1_62)⟩
          first | (simp (disch := decide) only [go_sem, g1, g2, g3, g4, g5, g6, g7, g8, eq_self, Bool.true_and, Bool.and_true, Bool.false_and, Bool.and_false, Bool.true_or, Bool.or_true, Bool.false_or, Bool.or_false, if_true, if_false, Bool.false_eq_true]; done) | simp [HasL, sel, puts_at, g1, g2, g3, g4, g5, g6, g7, g8]
         ·try simp -implicitDefEqProofs (disch := first | decide | assumption | (simp (disch := decide) only [slotOf_zero, slotOf_succ, Option.map_some, puts_same, puts_ne, gv_bool, gv_undef, tt, tf, ft, ff, eq_self, if_true, if_false, Bool.false_eq_true, Bool.not_true, Bool.not_false, slotOf_app0, slotOf_appS, slotOf_appN, g1, g2, g3, g4, g5, g6, g7, g8]; done) | omega) only [go_sem, wrap_id, opAt_app0, opAt_appS, opAt_appN, slotOf_app0, slotOf_appS, slotOf_appN, g1, g2, g3, g4, g5, g6, g7, g8, eq_self, if_true, if_false, Bool.false_eq_true]
          refine hK _ _ ?_
          clear hK K
          refine den_stop ?_
          refine ⟨?_, (Ext.trans e1_44 e1_53)⟩
          first | (simp (disch := decide) only [go_sem, g1, g2, g3, g4, g5, g6, g7, g8, eq_self, Bool.true_and, Bool.and_true, Bool.false_and, Bool.and_false, Bool.true_or, Bool.or_true, Bool.false_or, Bool.or_false, if_true, if_false, Bool.false_eq_true]; done) | simp [HasL, sel, puts_at, g1, g2, g3, g4, g5, g6, g7, g8]
        ·try simp -implicitDefEqProofs (disch := first | decide | assumption | (simp (disch := decide) only [slotOf_zero, slotOf_succ, Option.map_some, puts_same, puts_ne, gv_bool, gv_undef, tt, tf, ft, ff, eq_self, if_true, if_false, Bool.false_eq_true, Bool.not_true, Bool.not_false, slotOf_app0, slotOf_appS, slotOf_appN, g1, g2, g3, g4, g5, g6, g7]; done) | omega) only [go_sem, wrap_id, opAt_app0, opAt_appS, opAt_appN, slotOf_app0, slotOf_appS, slotOf_appN, g1, g2, g3, g4, g5, g6, g7, eq_self, if_true, if_false, Bool.false_eq_true]
         try simp -implicitDefEqProofs (disch := first | decide | assumption | (simp (disch := decide) only [slotOf_zero, slotOf_succ, Option.map_some, puts_same, puts_ne, gv_bool, gv_undef, tt, tf, ft, ff, eq_self, if_true, if_false, Bool.false_eq_true, Bool.not_true, Bool.not_false, slotOf_app0, slotOf_appS, slotOf_appN, g1, g2, g3, g4, g5, g6, g7]; done) | omega) only [go_sem, wrap_id, opAt_app0, opAt_appS, opAt_appN, slotOf_app0, slotOf_appS, slotOf_appN, g1, g2, g3, g4, g5, g6, g7, eq_self, if_true, if_false, Bool.false_eq_true]
         refine hK _ _ ?_
         clear hK K
         refine den_stop ?_
         refine ⟨?_, e1_44⟩
         first | (simp (disch := decide) only [go_sem, g1, g2, g3, g4, g5, g6, g7, eq_self, Bool.true_and, Bool.and_true, Bool.false_and, Bool.and_false, Bool.true_or, Bool.or_true, Bool.false_or, Bool.or_false, if_true, if_false, Bool.false_eq_true]; done) | simp [HasL, sel, puts_at, g1, g2, g3, g4, g5, g6, g7]
       ·try simp -implicitDefEqProofs (disch := first | decide | assumption | (simp (disch := decide) only [slotOf_zero, slotOf_succ, Option.map_some, puts_same, puts_ne, gv_bool, gv_undef, tt, tf, ft, ff, eq_self, if_true, if_false, Bool.false_eq_true, Bool.not_true, Bool.not_false, slotOf_app0, slotOf_appS, slotOf_appN, g1, g2, g3, g4, g5, g6]; done) | omega) only [go_sem, wrap_id, opAt_app0, opAt_appS, opAt_appN, slotOf_app0, slotOf_appS, slotOf_appN, g1, g2, g3, g4, g5, g6, eq_self, if_true, if_false, Bool.false_eq_true]
        try simp -implicitDefEqProofs (disch := first | decide | assumption | (simp (disch := decide) only [slotOf_zero, slotOf_succ, Option.map_some, puts_same, puts_ne, gv_bool, gv_undef, tt, tf, ft, ff, eq_self, if_true, if_false, Bool.false_eq_true, Bool.not_true, Bool.not_false, slotOf_app0, slotOf_appS, slotOf_appN, g1, g2, g3, g4, g5, g6]; done) | omega) only [go_sem, wrap_id, opAt_app0, opAt_appS, opAt_appN, slotOf_app0, slotOf_appS, slotOf_appN, g1, g2, g3, g4, g5, g6, eq_self, if_true, if_false, Bool.false_eq_true]
        try simp -implicitDefEqProofs (disch := first | decide | assumption | (simp (disch := decide) only [slotOf_zero, slotOf_succ, Option.map_some, puts_same, puts_ne, gv_bool, gv_undef, tt, tf, ft, ff, eq_self, if_true, if_false, Bool.false_eq_true, Bool.not_true, Bool.not_false, slotOf_app0, slotOf_appS, slotOf_appN, g1, g2, g3, g4, g5, g6]; done) | omega) only [go_sem, wrap_id, opAt_app0, opAt_appS, opAt_appN, slotOf_app0, slotOf_appS, slotOf_appN, g1, g2, g3, g4, g5, g6, eq_self, if_true, if_false, Bool.false_eq_true]
        refine hK _ _ ?_
        clear hK K
        refine den_stop ?_
        refine ⟨?_, Ext.refl _⟩
        first | (simp (disch := decide) only [go_sem, g1, g2, g3, g4, g5, g6, eq_self, Bool.true_and, Bool.and_true, Bool.false_and, Bool.and_false, Bool.true_or, Bool.or_true, Bool.false_or, Bool.or_false, if_true, if_false, Bool.false_eq_true]; done) | simp [HasL, sel, puts_at, g1, g2, g3, g4, g5, g6]
      ·try simp -implicitDefEqProofs (disch := first | decide | assumption | (simp (disch := decide) only [slotOf_zero, slotOf_succ, Option.map_some, puts_same, puts_ne, gv_bool, gv_undef, tt, tf, ft, ff, eq_self, if_true, if_false, Bool.false_eq_true, Bool.not_true, Bool.not_false, slotOf_app0, slotOf_appS, slotOf_appN, g1, g2, g3, g4, g5]; done) | omega) only [go_sem, wrap_id, opAt_app0, opAt_appS, opAt_appN, slotOf_app0, slotOf_appS, slotOf_appN, g1, g2, g3, g4, g5, eq_self, if_true, if_false, Bool.false_eq_true]
       try simp -implicitDefEqProofs (disch := first | decide | assumption | (simp (disch := decide) only [slotOf_zero, slotOf_succ, Option.map_some, puts_same, puts_ne, gv_bool, gv_undef, tt, tf, ft, ff, eq_self, if_true, if_false, Bool.false_eq_true, Bool.not_true, Bool.not_false, slotOf_app0, slotOf_appS, slotOf_appN, g1, g2, g3, g4, g5]; done) | omega) only [go_sem, wrap_id, opAt_app0, opAt_appS, opAt_appN, slotOf_app0, slotOf_appS, slotOf_appN, g1, g2, g3, g4, g5, eq_self, if_true, if_false, Bool.false_eq_true]
       try simp -implicitDefEqProofs (disch := first | decide | assumption | (simp (disch := decide) only [slotOf_zero, slotOf_succ, Option.map_some, puts_same, puts_ne, gv_bool, gv_undef, tt, tf, ft, ff, eq_self, if_true, if_false, Bool.false_eq_true, Bool.not_true, Bool.not_false, slotOf_app0, slotOf_appS, slotOf_appN, g1, g2, g3, g4, g5]; done) | omega) only [go_sem, wrap_id, opAt_app0, opAt_appS, opAt_appN, slotOf_app0, slotOf_appS, slotOf_appN, g1, g2, g3, g4, g5, eq_self, if_true, if_false, Bool.false_eq_true]
       try simp -implicitDefEqProofs (disch := first | decide | assumption | (simp (disch := decide) only [slotOf_zero, slotOf_succ, Option.map_some, puts_same, puts_ne, gv_bool, gv_undef, tt, tf, ft, ff, eq_self, if_true, if_false, Bool.false_eq_true, Bool.not_true, Bool.not_false, slotOf_app0, slotOf_appS, slotOf_appN, g1, g2, g3, g4, g5]; done) | omega) only [go_sem, wrap_id, opAt_app0, opAt_appS, opAt_appN, slotOf_app0, slotOf_appS, slotOf_appN, g1, g2, g3, g4, g5, eq_self, if_true, if_false, Bool.false_eq_true]
       refine hK _ _ ?_
       clear hK K
       refine den_stop ?_
       refine ⟨?_, Ext.refl _⟩
       first | (simp (disch := decide) only [go_sem, g1, g2, g3, g4, g5, eq_self, Bool.true_and, Bool.and_true, Bool.false_and, Bool.and_false, Bool.true_or, Bool.or_true, Bool.false_or, Bool.or_false, if_true, if_false, Bool.false_eq_true]; done) | simp [HasL, sel, puts_at, g1, g2, g3, g4, g5]
     ·try simp -implicitDefEqProofs (disch := first | decide | assumption | (simp (disch := decide) only [slotOf_zero, slotOf_succ, Option.map_some, puts_same, puts_ne, gv_bool, gv_undef, tt, tf, ft, ff, eq_self, if_true, if_false, Bool.false_eq_true, Bool.not_true, Bool.not_false, slotOf_app0, slotOf_appS, slotOf_appN, g1, g2, g3, g4]; done) | omega) only [go_sem, wrap_id, opAt_app0, opAt_appS, opAt_appN, slotOf_app0, slotOf_appS, slotOf_appN, g1, g2, g3, g4, eq_self, if_true, if_false, Bool.false_eq_true]
      try simp -implicitDefEqProofs (disch := first | decide | assumption | (simp (disch := decide) only [slotOf_zero, slotOf_succ, Option.map_some, puts_same, puts_ne, gv_bool, gv_undef, tt, tf, ft, ff, eq_self, if_true, if_false, Bool.false_eq_true, Bool.not_true, Bool.not_false, slotOf_app0, slotOf_appS, slotOf_appN, g1, g2, g3, g4]; done) | omega) only [go_sem, wrap_id, opAt_app0, opAt_appS, opAt_appN, slotOf_app0, slotOf_appS, slotOf_appN, g1, g2, g3, g4, eq_self, if_true, if_false, Bool.false_eq_true]
      try simp -implicitDefEqProofs (disch := first | decide | assumption | (simp (disch := decide) only [slotOf_zero, slotOf_succ, Option.map_some, puts_same, puts_ne, gv_bool, gv_undef, tt, tf, ft, ff, eq_self, if_true, if_false, Bool.false_eq_true, Bool.not_true, Bool.not_false, slotOf_app0, slotOf_appS, slotOf_appN, g1, g2, g3, g4]; done) | omega) only [go_sem, wrap_id, opAt_app0, opAt_appS, opAt_appN, slotOf_app0, slotOf_appS, slotOf_appN, g1, g2, g3, g4, eq_self, if_true, if_false, Bool.false_eq_true]
      try simp -implicitDefEqProofs (disch := first | decide | assumption | (simp (disch := decide) only [slotOf_zero, slotOf_succ, Option.map_some, puts_same, puts_ne, gv_bool, gv_undef, tt, tf, ft, ff, eq_self, if_true, if_false, Bool.false_eq_true, Bool.not_true, Bool.not_false, slotOf_app0, slotOf_appS, slotOf_appN, g1, g2, g3, g4]; done) | omega) only [go_sem, wrap_id, opAt_app0, opAt_appS, opAt_appN, slotOf_app0, slotOf_appS, slotOf_appN, g1, g2, g3, g4, eq_self, if_true, if_false, Bool.false_eq_true]
      try simp -implicitDefEqProofs (disch := first | decide | assumption | (simp (disch := decide) only [slotOf_zero, slotOf_succ, Option.map_some, puts_same, puts_ne, gv_bool, gv_undef, tt, tf, ft, ff, eq_self, if_true, if_false, Bool.false_eq_true, Bool.not_true, Bool.not_false, slotOf_app0, slotOf_appS, slotOf_appN, g1, g2, g3, g4]; done) | omega) only [go_sem, wrap_id, opAt_app0, opAt_appS, opAt_appN, slotOf_app0, slotOf_appS, slotOf_appN, g1, g2, g3, g4, eq_self, if_true, if_false, Bool.false_eq_true]
      refine hK _ _ ?_
      clear hK K
      refine den_stop ?_
      refine ⟨?_, Ext.refl _⟩
      first | (simp (disch := decide) only [go_sem, g1, g2, g3, g4, eq_self, Bool.true_and, Bool.and_true, Bool.false_and, Bool.and_false, Bool.true_or, Bool.or_true, Bool.false_or, Bool.or_false, if_true, if_false, Bool.false_eq_true]; done) | simp [HasL, sel, puts_at, g1, g2, g3, g4]
    ·try simp -implicitDefEqProofs (disch := first | decide | assumption | (simp (disch := decide) only [slotOf_zero, slotOf_succ, Option.map_some, puts_same, puts_ne, gv_bool, gv_undef, tt, tf, ft, ff, eq_self, if_true, if_false, Bool.false_eq_true, Bool.not_true, Bool.not_false, slotOf_app0, slotOf_appS, slotOf_appN, g1, g2, g3]; done) | omega) only [go_sem, wrap_id, opAt_app0, opAt_appS, opAt_appN, slotOf_app0, slotOf_appS, slotOf_appN, g1, g2, g3, eq_self, if_true, if_false, Bool.false_eq_true]
     try simp -implicitDefEqProofs (disch := first | decide | assumption | (simp (disch := decide) only [slotOf_zero, slotOf_succ, Option.map_some, puts_same, puts_ne, gv_bool, gv_undef, tt, tf, ft, ff, eq_self, if_true, if_false, Bool.false_eq_true, Bool.not_true, Bool.not_false, slotOf_app0, slotOf_appS, slotOf_appN, g1, g2, g3]; done) | omega) only [go_sem, wrap_id, opAt_app0, opAt_appS, opAt_appN, slotOf_app0, slotOf_appS, slotOf_appN, g1, g2, g3, eq_self, if_true, if_false, Bool.false_eq_true]
     try simp -implicitDefEqProofs (disch := first | decide | assumption | (simp (disch := decide) only [slotOf_zero, slotOf_succ, Option.map_some, puts_same, puts_ne, gv_bool, gv_undef, tt, tf, ft, ff, eq_self, if_true, if_false, Bool.false_eq_true, Bool.not_true, Bool.not_false, slotOf_app0, slotOf_appS, slotOf_appN, g1, g2, g3]; done) | omega) only [go_sem, wrap_id, opAt_app0, opAt_appS, opAt_appN, slotOf_app0, slotOf_appS, slotOf_appN, g1, g2, g3, eq_self, if_true, if_false, Bool.false_eq_true]
     try simp -implicitDefEqProofs (disch := first | decide | assumption | (simp (disch := decide) only [slotOf_zero, slotOf_succ, Option.map_some, puts_same, puts_ne, gv_bool, gv_undef, tt, tf, ft, ff, eq_self, if_true, if_false, Bool.false_eq_true, Bool.not_true, Bool.not_false, slotOf_app0, slotOf_appS, slotOf_appN, g1, g2, g3]; done) | omega) only [go_sem, wrap_id, opAt_app0, opAt_appS, opAt_appN, slotOf_app0, slotOf_appS, slotOf_appN, g1, g2, g3, eq_self, if_true, if_false, Bool.false_eq_true]
     try simp -implicitDefEqProofs (disch := first | decide | assumption | (simp (disch := decide) only [slotOf_zero, slotOf_succ, Option.map_some, puts_same, puts_ne, gv_bool, gv_undef, tt, tf, ft, ff, eq_self, if_true, if_false, Bool.false_eq_true, Bool.not_true, Bool.not_false, slotOf_app0, slotOf_appS, slotOf_appN, g1, g2, g3]; done) | omega) only [go_sem, wrap_id, opAt_app0, opAt_appS, opAt_appN, slotOf_app0, slotOf_appS, slotOf_appN, g1, g2, g3, eq_self, if_true, if_false, Bool.false_eq_true]
     try simp -implicitDefEqProofs (disch := first | decide | assumption | (simp (disch := decide) only [slotOf_zero, slotOf_succ, Option.map_some, puts_same, puts_ne, gv_bool, gv_undef, tt, tf, ft, ff, eq_self, if_true, if_false, Bool.false_eq_true, Bool.not_true, Bool.not_false, slotOf_app0, slotOf_appS, slotOf_appN, g1, g2, g3]; done) | omega) only [go_sem, wrap_id, opAt_app0, opAt_appS, opAt_appN, slotOf_app0, slotOf_appS, slotOf_appN, g1, g2, g3, eq_self, if_true, if_false, Bool.false_eq_true]
     refine hK _ _ ?_
     clear hK K
     refine den_stop ?_
     refine ⟨?_, Ext.refl _⟩
     first | (simp (disch := decide) only [go_sem, g1, g2, g3, eq_self, Bool.true_and, Bool.and_true, Bool.false_and, Bool.and_false, Bool.true_or, Bool.or_true, Bool.false_or, Bool.or_false, if_true, if_false, Bool.false_eq_true]; done) | simp [HasL, sel, puts_at, g1, g2, g3]
   ·try simp -implicitDefEqProofs (disch := first | decide | assumption | (simp (disch := decide) only [slotOf_zero, slotOf_succ, Option.map_some, puts_same, puts_ne, gv_bool, gv_undef, tt, tf, ft, ff, eq_self, if_true, if_false, Bool.false_eq_true, Bool.not_true, Bool.not_false, slotOf_app0, slotOf_appS, slotOf_appN, g1, g2]; done) | omega) only [go_sem, wrap_id, opAt_app0, opAt_appS, opAt_appN, slotOf_app0, slotOf_appS, slotOf_appN, g1, g2, eq_self, if_true, if_false, Bool.false_eq_true]
    try simp -implicitDefEqProofs (disch := first | decide | assumption | (simp (disch := decide) only [slotOf_zero, slotOf_succ, Option.map_some, puts_same, puts_ne, gv_bool, gv_undef, tt, tf, ft, ff, eq_self, if_true, if_false, Bool.false_eq_true, Bool.not_true, Bool.not_false, slotOf_app0, slotOf_appS, slotOf_appN, g1, g2]; done) | omega) only [go_sem, wrap_id, opAt_app0, opAt_appS, opAt_appN, slotOf_app0, slotOf_appS, slotOf_appN, g1, g2, eq_self, if_true, if_false, Bool.false_eq_true]
    try simp -implicitDefEqProofs (disch := first | decide | assumption | (simp (disch := decide) only [slotOf_zero, slotOf_succ, Option.map_some, puts_same, puts_ne, gv_bool, gv_undef, tt, tf, ft, ff, eq_self, if_true, if_false, Bool.false_eq_true, Bool.not_true, Bool.not_false, slotOf_app0, slotOf_appS, slotOf_appN, g1, g2]; done) | omega) only [go_sem, wrap_id, opAt_app0, opAt_appS, opAt_appN, slotOf_app0, slotOf_appS, slotOf_appN, g1, g2, eq_self, if_true, if_false, Bool.false_eq_true]
    try simp -implicitDefEqProofs (disch := first | decide | assumption | (simp (disch := decide) only [slotOf_zero, slotOf_succ, Option.map_some, puts_same, puts_ne, gv_bool, gv_undef, tt, tf, ft, ff, eq_self, if_true, if_false, Bool.false_eq_true, Bool.not_true, Bool.not_false, slotOf_app0, slotOf_appS, slotOf_appN, g1, g2]; done) | omega) only [go_sem, wrap_id, opAt_app0, opAt_appS, opAt_appN, slotOf_app0, slotOf_appS, slotOf_appN, g1, g2, eq_self, if_true, if_false, Bool.false_eq_true]
    try simp -implicitDefEqProofs (disch := first | decide | assumption | (simp (disch := decide) only [slotOf_zero, slotOf_succ, Option.map_some, puts_same, puts_ne, gv_bool, gv_undef, tt, tf, ft, ff, eq_self, if_true, if_false, Bool.false_eq_true, Bool.not_true, Bool.not_false, slotOf_app0, slotOf_appS, slotOf_appN, g1, g2]; done) | omega) only [go_sem, wrap_id, opAt_app0, opAt_appS, opAt_appN, slotOf_app0, slotOf_appS, slotOf_appN, g1, g2, eq_self, if_true, if_false, Bool.false_eq_true]
    try simp -implicitDefEqProofs (disch := first | decide | assumption | (simp (disch := decide) only [slotOf_zero, slotOf_succ, Option.map_some, puts_same, puts_ne, gv_bool, gv_undef, tt, tf, ft, ff, eq_self, if_true, if_false, Bool.false_eq_true, Bool.not_true, Bool.not_false, slotOf_app0, slotOf_appS, slotOf_appN, g1, g2]; done) | omega) only [go_sem, wrap_id, opAt_app0, opAt_appS, opAt_appN, slotOf_app0, slotOf_appS, slotOf_appN, g1, g2, eq_self, if_true, if_false, Bool.false_eq_true]
    try simp -implicitDefEqProofs (disch := first | decide | assumption | (simp (disch := decide) only [slotOf_zero, slotOf_succ, Option.map_some, puts_same, puts_ne, gv_bool, gv_undef, tt, tf, ft, ff, eq_self, if_true, if_false, Bool.false_eq_true, Bool.not_true, Bool.not_false, slotOf_app0, slotOf_appS, slotOf_appN, g1, g2]; done) | omega) only [go_sem, wrap_id, opAt_app0, opAt_appS, opAt_appN, slotOf_app0, slotOf_appS, slotOf_appN, g1, g2, eq_self, if_true, if_false, Bool.false_eq_true]
    refine hK _ _ ?_
    clear hK K
    refine den_stop ?_
    refine ⟨?_, Ext.refl _⟩
    first | (simp (disch := decide) only [go_sem, g1, g2, eq_self, Bool.true_and, Bool.and_true, Bool.false_and, Bool.and_false, Bool.true_or, Bool.or_true, Bool.false_or, Bool.or_false, if_true, if_false, Bool.false_eq_true]; done) | simp [HasL, sel, puts_at, g1, g2]
  ·try simp -implicitDefEqProofs (disch := first | decide | assumption | (simp (disch := decide) only [slotOf_zero, slotOf_succ, Option.map_some, puts_same, puts_ne, gv_bool, gv_undef, tt, tf, ft, ff, eq_self, if_true, if_false, Bool.false_eq_true, Bool.not_true, Bool.not_false, slotOf_app0, slotOf_appS, slotOf_appN, g1]; done) | omega) only [go_sem, wrap_id, opAt_app0, opAt_appS, opAt_appN, slotOf_app0, slotOf_appS, slotOf_appN, g1, eq_self, if_true, if_false, Bool.false_eq_true]
   try simp -implicitDefEqProofs (disch := first | decide | assumption | (simp (disch := decide) only [slotOf_zero, slotOf_succ, Option.map_some, puts_same, puts_ne, gv_bool, gv_undef, tt, tf, ft, ff, eq_self, if_true, if_false, Bool.false_eq_true, Bool.not_true, Bool.not_false, slotOf_app0, slotOf_appS, slotOf_appN, g1]; done) | omega) only [go_sem, wrap_id, opAt_app0, opAt_appS, opAt_appN, slotOf_app0, slotOf_appS, slotOf_appN, g1, eq_self, if_true, if_false, Bool.false_eq_true]
   try simp -implicitDefEqProofs (disch := first | decide | assumption | (simp (disch := decide) only [slotOf_zero, slotOf_succ, Option.map_some, puts_same, puts_ne, gv_bool, gv_undef, tt, tf, ft, ff, eq_self, if_true, if_false, Bool.false_eq_true, Bool.not_true, Bool.not_false, slotOf_app0, slotOf_appS, slotOf_appN, g1]; done) | omega) only [go_sem, wrap_id, opAt_app0, opAt_appS, opAt_appN, slotOf_app0, slotOf_appS, slotOf_appN, g1, eq_self, if_true, if_false, Bool.false_eq_true]
   try simp -implicitDefEqProofs (disch := first | decide | assumption | (simp (disch := decide) only [slotOf_zero, slotOf_succ, Option.map_some, puts_same, puts_ne, gv_bool, gv_undef, tt, tf, ft, ff, eq_self, if_true, if_false, Bool.false_eq_true, Bool.not_true, Bool.not_false, slotOf_app0, slotOf_appS, slotOf_appN, g1]; done) | omega) only [go_sem, wrap_id, opAt_app0, opAt_appS, opAt_appN, slotOf_app0, slotOf_appS, slotOf_appN, g1, eq_self, if_true, if_false, Bool.false_eq_true]
   try simp -implicitDefEqProofs (disch := first | decide | assumption | (simp (disch := decide) only [slotOf_zero, slotOf_succ, Option.map_some, puts_same, puts_ne, gv_bool, gv_undef, tt, tf, ft, ff, eq_self, if_true, if_false, Bool.false_eq_true, Bool.not_true, Bool.not_false, slotOf_app0, slotOf_appS, slotOf_appN, g1]; done) | omega) only [go_sem, wrap_id, opAt_app0, opAt_appS, opAt_appN, slotOf_app0, slotOf_appS, slotOf_appN, g1, eq_self, if_true, if_false, Bool.false_eq_true]
   try simp -implicitDefEqProofs (disch := first | decide | assumption | (simp (disch := decide) only [slotOf_zero, slotOf_succ, Option.map_some, puts_same, puts_ne, gv_bool, gv_undef, tt, tf, ft, ff, eq_self, if_true, if_false, Bool.false_eq_true, Bool.not_true, Bool.not_false, slotOf_app0, slotOf_appS, slotOf_appN, g1]; done) | omega) only [go_sem, wrap_id, opAt_app0, opAt_appS, opAt_appN, slotOf_app0, slotOf_appS, slotOf_appN, g1, eq_self, if_true, if_false, Bool.false_eq_true]
   try simp -implicitDefEqProofs (disch := first | decide | assumption | (simp (disch := decide) only [slotOf_zero, slotOf_succ, Option.map_some, puts_same, puts_ne, gv_bool, gv_undef, tt, tf, ft, ff, eq_self, if_true, if_false, Bool.false_eq_true, Bool.not_true, Bool.not_false, slotOf_app0, slotOf_appS, slotOf_appN, g1]; done) | omega) only [go_sem, wrap_id, opAt_app0, opAt_appS, opAt_appN, slotOf_app0, slotOf_appS, slotOf_appN, g1, eq_self, if_true, if_false, Bool.false_eq_true]
   try simp -implicitDefEqProofs (disch := first | decide | assumption | (simp (disch := decide) only [slotOf_zero, slotOf_succ, Option.map_some, puts_same, puts_ne, gv_bool, gv_undef, tt, tf, ft, ff, eq_self, if_true, if_false, Bool.false_eq_true, Bool.not_true, Bool.not_false, slotOf_app0, slotOf_appS, slotOf_appN, g1]; done) | omega) only [go_sem, wrap_id, opAt_app0, opAt_appS, opAt_appN, slotOf_app0, slotOf_appS, slotOf_appN, g1, eq_self, if_true, if_false, Bool.false_eq_true]
   refine hK _ _ ?_
   clear hK K
   refine den_stop ?_
   refine ⟨?_, Ext.refl _⟩
   first | (simp (disch := decide) only [go_sem, g1, eq_self, Bool.true_and, Bool.and_true, Bool.false_and, Bool.and_false, Bool.true_or, Bool.or_true, Bool.false_or, Bool.or_false, if_true, if_false, Bool.false_eq_true]; done) | simp [HasL, sel, puts_at, g1]
 intro en9 h10 e11
 replace hb0_0 := BoxAt.ext hb0_0 e11
 have := Ext.size e11
 replace eB := Ext.trans eB e11
 simp (disch := decide) only [go_sem]
 refine den_ret ?_
 simp (disch := decide) only [resP_1, puts_same, puts_ne]
 exact ⟨vbool (Bool.eq_iff_iff.2 (by rw [isCp_t, isCp_iff]; simp [in3_iff, tableP, and_assoc])), eB⟩

set_option maxRecDepth 100000 in
set_option maxHeartbeats 4000000 in
theorem sIsCp_ok (vX : Value) (X : Cp) (h : Heap) (rX : RP h vX X)  : CallA Try.prog 158 #[vX] h fun v' h' => v' = .bool (isCp X) ∧ Ext h h' := by
 obtain ⟨viX, vjX, vkX, rfl, hiX, hjX, hkX⟩ := rX
 have hleiX := RdS.le hiX
 have hlejX := RdS.le hjX
 have hlekX := RdS.le hkX
 refine callA_intro TTok (args := [_]) Try.func158 (by kernel_rfl) rfl 50 rfl (by simp) [.tmp 2] rfl ?_
 simp only [idxs, Nat.reduceAdd]
 refine den_seq ?_
 refine den_region TTok ?_
 intro K hK
 simp -implicitDefEqProofs (disch := first | decide | assumption | omega) only [go_sem, wrap_id]
 refine op_box (cs := #[.int .i64 (X.p), .int .i64 (X.d), .int .i64 (X.e), viX, vjX, vkX]) rfl ?_
 intro h0_0 e0_0 hb0_0 z0_0
 have := Ext.size e0_0
 have eB := e0_0
 have hfhb0_0 : Fresh h.size [h.size] := Fresh.one _
 have hlhb0_0 := one_lt (show h.size < h0_0.size by omega)
 try simp -implicitDefEqProofs (disch := first | decide | assumption | omega) only [go_sem, wrap_id]
 refine hK _ _ ?_
 clear hK K
 refine den_seq ?_
 refine den_seq ?_
 refine den_mergeH [(18, .bool ((((!((isP X.p))) || (!((in3 X.d (0 : Int) (24 : Int))))) || (!((in3 X.e (0 : Int) (24 : Int)))))))] [1] ?_ ?_
  -- a way
 ·refine den_region TTok ?_
  intro K hK
  simp -implicitDefEqProofs (disch := first | decide | assumption | (simp (disch := decide) only [slotOf_zero, slotOf_succ, Option.map_some, puts_same, puts_ne, gv_bool, gv_undef, tt, tf, ft, ff, eq_self, if_true, if_false, Bool.false_eq_true, Bool.not_true, Bool.not_false]; done) | omega) only [go_sem, fa53_0, ld2, RdS.len hiX sl26, RdS.idx hiX sl26, RdS.cellB hiX (Ext.pres eB), RdS.cells hiX, RdS.len hjX sl26, RdS.idx hjX sl26, RdS.cellB hjX (Ext.pres eB), RdS.cells hjX, RdS.len hkX sl26, RdS.idx hkX sl26, RdS.cellB hkX (Ext.pres eB), RdS.cells hkX, BoxAt.cell hb0_0, wrap_id]
  try simp -implicitDefEqProofs (disch := first | decide | assumption | omega) only [go_sem, wrap_id]
  refine CallA.pure (sPrime_ok _ _) ?_
  try simp -implicitDefEqProofs (disch := first | decide | assumption | (simp (disch := decide) only [slotOf_zero, slotOf_succ, Option.map_some, puts_same, puts_ne, gv_bool, gv_undef, tt, tf, ft, ff, eq_self, if_true, if_false, Bool.false_eq_true, Bool.not_true, Bool.not_false]; done) | omega) only [go_sem, wrap_id]
  refine opsP_F (by simp (disch := decide) only [slotOf_zero, slotOf_succ, Option.map_some, puts_same, puts_ne, gv_bool, gv_undef, tt, tf, ft, ff, eq_self, if_true, if_false, Bool.false_eq_true, Bool.not_true, Bool.not_false]; rfl) (fun g1 => ?_) (fun g1 => ?_)
  ·try simp -implicitDefEqProofs (disch := first | decide | assumption | (simp (disch := decide) only [slotOf_zero, slotOf_succ, Option.map_some, puts_same, puts_ne, gv_bool, gv_undef, tt, tf, ft, ff, eq_self, if_true, if_false, Bool.false_eq_true, Bool.not_true, Bool.not_false, g1]; done) | omega) only [go_sem, fa53_1, ld2, RdS.len hiX sl26, RdS.idx hiX sl26, RdS.cellB hiX (Ext.pres eB), RdS.cells hiX, RdS.len hjX sl26, RdS.idx hjX sl26, RdS.cellB hjX (Ext.pres eB), RdS.cells hjX, RdS.len hkX sl26, RdS.idx hkX sl26, RdS.cellB hkX (Ext.pres eB), RdS.cells hkX, BoxAt.cell hb0_0, wrap_id, g1, eq_self, if_true, if_false, Bool.false_eq_true]
   try simp -implicitDefEqProofs (disch := first | decide | assumption | omega) only [go_sem, wrap_id]
   refine CallA.pure (sIn_ok _ _ _ _) ?_
   try simp -implicitDefEqProofs (disch := first | decide | assumption | (simp (disch := decide) only [slotOf_zero, slotOf_succ, Option.map_some, puts_same, puts_ne, gv_bool, gv_undef, tt, tf, ft, ff, eq_self, if_true, if_false, Bool.false_eq_true, Bool.not_true, Bool.not_false, g1]; done) | omega) only [go_sem, wrap_id, g1, eq_self, if_true, if_false, Bool.false_eq_true]
   refine opsP_F (by simp (disch := decide) only [slotOf_zero, slotOf_succ, Option.map_some, puts_same, puts_ne, gv_bool, gv_undef, tt, tf, ft, ff, eq_self, if_true, if_false, Bool.false_eq_true, Bool.not_true, Bool.not_false, g1]; rfl) (fun g2 => ?_) (fun g2 => ?_)
   ·try simp -implicitDefEqProofs (disch := first | decide | assumption | (simp (disch := decide) only [slotOf_zero, slotOf_succ, Option.map_some, puts_same, puts_ne, gv_bool, gv_undef, tt, tf, ft, ff, eq_self, if_true, if_false, Bool.false_eq_true, Bool.not_true, Bool.not_false, g1, g2]; done) | omega) only [go_sem, fa53_2, ld2, RdS.len hiX sl26, RdS.idx hiX sl26, RdS.cellB hiX (Ext.pres eB), RdS.cells hiX, RdS.len hjX sl26, RdS.idx hjX sl26, RdS.cellB hjX (Ext.pres eB), RdS.cells hjX, RdS.len hkX sl26, RdS.idx hkX sl26, RdS.cellB hkX (Ext.pres eB), RdS.cells hkX, BoxAt.cell hb0_0, wrap_id, g1, g2, eq_self, if_true, if_false, Bool.false_eq_true]
    try simp -implicitDefEqProofs (disch := first | decide | assumption | omega) only [go_sem, wrap_id]
    refine CallA.pure (sIn_ok _ _ _ _) ?_
    try simp -implicitDefEqProofs (disch := first | decide | assumption | (simp (disch := decide) only [slotOf_zero, slotOf_succ, Option.map_some, puts_same, puts_ne, gv_bool, gv_undef, tt, tf, ft, ff, eq_self, if_true, if_false, Bool.false_eq_true, Bool.not_true, Bool.not_false, g1, g2]; done) | omega) only [go_sem, wrap_id, g1, g2, eq_self, if_true, if_false, Bool.false_eq_true]
    refine hK _ _ ?_
    clear hK K
    refine den_stop ?_
    refine ⟨?_, rfl⟩
    first | (simp (disch := decide) only [go_sem, g1, g2, eq_self, Bool.true_and, Bool.and_true, Bool.false_and, Bool.and_false, Bool.true_or, Bool.or_true, Bool.false_or, Bool.or_false, if_true, if_false, Bool.false_eq_true]; done) | simp [HasL, sel, puts_at, g1, g2]
   ·try simp -implicitDefEqProofs (disch := first | decide | assumption | (simp (disch := decide) only [slotOf_zero, slotOf_succ, Option.map_some, puts_same, puts_ne, gv_bool, gv_undef, tt, tf, ft, ff, eq_self, if_true, if_false, Bool.false_eq_true, Bool.not_true, Bool.not_false, g1, g2]; done) | omega) only [go_sem, wrap_id, g1, g2, eq_self, if_true, if_false, Bool.false_eq_true]
    refine hK _ _ ?_
    clear hK K
    refine den_stop ?_
    refine ⟨?_, rfl⟩
    first | (simp (disch := decide) only [go_sem, g1, g2, eq_self, Bool.true_and, Bool.and_true, Bool.false_and, Bool.and_false, Bool.true_or, Bool.or_true, Bool.false_or, Bool.or_false, if_true, if_false, Bool.false_eq_true]; done) | simp [HasL, sel, puts_at, g1, g2]
  ·try simp -implicitDefEqProofs (disch := first | decide | assumption | (simp (disch := decide) only [slotOf_zero, slotOf_succ, Option.map_some, puts_same, puts_ne, gv_bool, gv_undef, tt, tf, ft, ff, eq_self, if_true, if_false, Bool.false_eq_true, Bool.not_true, Bool.not_false, g1]; done) | omega) only [go_sem, wrap_id, g1, eq_self, if_true, if_false, Bool.false_eq_true]
   try simp -implicitDefEqProofs (disch := first | decide | assumption | (simp (disch := decide) only [slotOf_zero, slotOf_succ, Option.map_some, puts_same, puts_ne, gv_bool, gv_undef, tt, tf, ft, ff, eq_self, if_true, if_false, Bool.false_eq_true, Bool.not_true, Bool.not_false, g1]; done) | omega) only [go_sem, wrap_id, g1, eq_self, if_true, if_false, Bool.false_eq_true]
   refine hK _ _ ?_
   clear hK K
   refine den_stop ?_
   refine ⟨?_, rfl⟩
   first | (simp (disch := decide) only [go_sem, g1, eq_self, Bool.true_and, Bool.and_true, Bool.false_and, Bool.and_false, Bool.true_or, Bool.or_true, Bool.false_or, Bool.or_false, if_true, if_false, Bool.false_eq_true]; done) | simp [HasL, sel, puts_at, g1]
 intro en3
 simp (disch := decide) only [go_sem]
 refine den_cond rfl (fun c0 => ?_) (fun c0 => ?_)
 ·try simp only [decide_eq_true_eq, decide_eq_false_iff_not, beq_iff_eq, beq_eq_false_iff_ne, bne_iff_ne, ne_eq, Bool.not_eq_true', Bool.not_eq_false', Bool.and_eq_true, Bool.or_eq_true, bne_eq_false_iff_eq, Bool.or_eq_false_iff, Bool.and_eq_false_iff] at c0
  refine den_seq ?_
  refine den_region TTok ?_
  intro K hK
  simp -implicitDefEqProofs (disch := first | decide | assumption | omega) only [go_sem, wrap_id]
  refine hK _ _ ?_
  clear hK K
  refine den_ret ?_
  simp (disch := decide) only [resP_1, puts_same, puts_ne]
  exact ⟨vbool (isCp_no (fun hh => by have h1 := hh.p; have h2 := in3_iff.2 hh.d; have h3 := in3_iff.2 hh.e; simp [h1, h2, h3] at c0)), eB⟩
 ·try simp only [decide_eq_true_eq, decide_eq_false_iff_not, beq_iff_eq, beq_eq_false_iff_ne, bne_iff_ne, ne_eq, Bool.not_eq_true', Bool.not_eq_false', Bool.and_eq_true, Bool.or_eq_true, bne_eq_false_iff_eq, Bool.or_eq_false_iff, Bool.and_eq_false_iff] at c0
  have hpb := isP_bnd c0.1.1
  refine den_skip ?_
  refine den_seq ?_
  refine den_mergeH [(2, .bool ((((tableP X.p (X.i) X.d X.d) && (tableP X.p (X.j) X.d X.e)) && (tableP X.p (X.k) X.e X.d))))] [] ?_ ?_
   -- a way
  ·refine den_region TTok ?_
   intro K hK
   simp -implicitDefEqProofs (disch := first | decide | assumption | (simp (disch := decide) only [slotOf_zero, slotOf_succ, Option.map_some, puts_same, puts_ne, gv_bool, gv_undef, tt, tf, ft, ff, eq_self, if_true, if_false, Bool.false_eq_true, Bool.not_true, Bool.not_false]; done) | omega) only [go_sem, fa53_0, fa53_1, fa53_3, ld26, ld2, RdS.len hiX sl26, RdS.idx hiX sl26, RdS.cellB hiX (Ext.pres eB), RdS.cells hiX, RdS.len hjX sl26, RdS.idx hjX sl26, RdS.cellB hjX (Ext.pres eB), RdS.cells hjX, RdS.len hkX sl26, RdS.idx hkX sl26, RdS.cellB hkX (Ext.pres eB), RdS.cells hkX, BoxAt.cell hb0_0, wrap_id]
   try simp -implicitDefEqProofs (disch := first | decide | assumption | omega) only [go_sem, wrap_id]
   refine CallA.pure (sTable_ok _ _ _ _ _ _ (RdS.pres hiX (Ext.pres eB)) (by omega)) ?_
   try simp -implicitDefEqProofs (disch := first | decide | assumption | (simp (disch := decide) only [slotOf_zero, slotOf_succ, Option.map_some, puts_same, puts_ne, gv_bool, gv_undef, tt, tf, ft, ff, eq_self, if_true, if_false, Bool.false_eq_true, Bool.not_true, Bool.not_false]; done) | omega) only [go_sem, wrap_id]
   refine opsP_T (by simp (disch := decide) only [slotOf_zero, slotOf_succ, Option.map_some, puts_same, puts_ne, gv_bool, gv_undef, tt, tf, ft, ff, eq_self, if_true, if_false, Bool.false_eq_true, Bool.not_true, Bool.not_false]; rfl) (fun g6 => ?_) (fun g6 => ?_)
   ·try simp -implicitDefEqProofs (disch := first | decide | assumption | (simp (disch := decide) only [slotOf_zero, slotOf_succ, Option.map_some, puts_same, puts_ne, gv_bool, gv_undef, tt, tf, ft, ff, eq_self, if_true, if_false, Bool.false_eq_true, Bool.not_true, Bool.not_false, g6]; done) | omega) only [go_sem, fa53_0, fa53_1, fa53_2, fa53_4, ld26, ld2, RdS.len hiX sl26, RdS.idx hiX sl26, RdS.cellB hiX (Ext.pres eB), RdS.cells hiX, RdS.len hjX sl26, RdS.idx hjX sl26, RdS.cellB hjX (Ext.pres eB), RdS.cells hjX, RdS.len hkX sl26, RdS.idx hkX sl26, RdS.cellB hkX (Ext.pres eB), RdS.cells hkX, BoxAt.cell hb0_0, wrap_id, g6, eq_self, if_true, if_false, Bool.false_eq_true]
    try simp -implicitDefEqProofs (disch := first | decide | assumption | omega) only [go_sem, wrap_id]
    refine CallA.pure (sTable_ok _ _ _ _ _ _ (RdS.pres hjX (Ext.pres eB)) (by omega)) ?_
    try simp -implicitDefEqProofs (disch := first | decide | assumption | (simp (disch := decide) only [slotOf_zero, slotOf_succ, Option.map_some, puts_same, puts_ne, gv_bool, gv_undef, tt, tf, ft, ff, eq_self, if_true, if_false, Bool.false_eq_true, Bool.not_true, Bool.not_false, g6]; done) | omega) only [go_sem, wrap_id, g6, eq_self, if_true, if_false, Bool.false_eq_true]
    refine opsP_T (by simp (disch := decide) only [slotOf_zero, slotOf_succ, Option.map_some, puts_same, puts_ne, gv_bool, gv_undef, tt, tf, ft, ff, eq_self, if_true, if_false, Bool.false_eq_true, Bool.not_true, Bool.not_false, g6]; rfl) (fun g7 => ?_) (fun g7 => ?_)
    ·try simp -implicitDefEqProofs (disch := first | decide | assumption | (simp (disch := decide) only [slotOf_zero, slotOf_succ, Option.map_some, puts_same, puts_ne, gv_bool, gv_undef, tt, tf, ft, ff, eq_self, if_true, if_false, Bool.false_eq_true, Bool.not_true, Bool.not_false, g6, g7]; done) | omega) only [go_sem, fa53_0, fa53_1, fa53_2, fa53_5, ld26, ld2, RdS.len hiX sl26, RdS.idx hiX sl26, RdS.cellB hiX (Ext.pres eB), RdS.cells hiX, RdS.len hjX sl26, RdS.idx hjX sl26, RdS.cellB hjX (Ext.pres eB), RdS.cells hjX, RdS.len hkX sl26, RdS.idx hkX sl26, RdS.cellB hkX (Ext.pres eB), RdS.cells hkX, BoxAt.cell hb0_0, wrap_id, g6, g7, eq_self, if_true, if_false, Bool.false_eq_true]
     try simp -implicitDefEqProofs (disch := first | decide | assumption | omega) only [go_sem, wrap_id]
     refine CallA.pure (sTable_ok _ _ _ _ _ _ (RdS.pres hkX (Ext.pres eB)) (by omega)) ?_
     try simp -implicitDefEqProofs (disch := first | decide | assumption | (simp (disch := decide) only [slotOf_zero, slotOf_succ, Option.map_some, puts_same, puts_ne, gv_bool, gv_undef, tt, tf, ft, ff, eq_self, if_true, if_false, Bool.false_eq_true, Bool.not_true, Bool.not_false, g6, g7]; done) | omega) only [go_sem, wrap_id, g6, g7, eq_self, if_true, if_false, Bool.false_eq_true]
     refine hK _ _ ?_
     clear hK K
     refine den_stop ?_
     refine ⟨?_, rfl⟩
     first | (simp (disch := decide) only [go_sem, g6, g7, eq_self, Bool.true_and, Bool.and_true, Bool.false_and, Bool.and_false, Bool.true_or, Bool.or_true, Bool.false_or, Bool.or_false, if_true, if_false, Bool.false_eq_true]; done) | simp [HasL, sel, puts_at, g6, g7]
    ·try simp -implicitDefEqProofs (disch := first | decide | assumption | (simp (disch := decide) only [slotOf_zero, slotOf_succ, Option.map_some, puts_same, puts_ne, gv_bool, gv_undef, tt, tf, ft, ff, eq_self, if_true, if_false, Bool.false_eq_true, Bool.not_true, Bool.not_false, g6, g7]; done) | omega) only [go_sem, wrap_id, g6, g7, eq_self, if_true, if_false, Bool.false_eq_true]
     refine hK _ _ ?_
     clear hK K
     refine den_stop ?_
     refine ⟨?_, rfl⟩
     first | (simp (disch := decide) only [go_sem, g6, g7, eq_self, Bool.true_and, Bool.and_true, Bool.false_and, Bool.and_false, Bool.true_or, Bool.or_true, Bool.false_or, Bool.or_false, if_true, if_false, Bool.false_eq_true]; done) | simp [HasL, sel, puts_at, g6, g7]
   ·try simp -implicitDefEqProofs (disch := first | decide | assumption | (simp (disch := decide) only [slotOf_zero, slotOf_succ, Option.map_some, puts_same, puts_ne, gv_bool, gv_undef, tt, tf, ft, ff, eq_self, if_true, if_false, Bool.false_eq_true, Bool.not_true, Bool.not_false, g6]; done) | omega) only [go_sem, wrap_id, g6, eq_self, if_true, if_false, Bool.false_eq_true]
    try simp -implicitDefEqProofs (disch := first | decide | assumption | (simp (disch := decide) only [slotOf_zero, slotOf_succ, Option.map_some, puts_same, puts_ne, gv_bool, gv_undef, tt, tf, ft, ff, eq_self, if_true, if_false, Bool.false_eq_true, Bool.not_true, Bool.not_false, g6]; done) | omega) only [go_sem, wrap_id, g6, eq_self, if_true, if_false, Bool.false_eq_true]
    refine hK _ _ ?_
    clear hK K
    refine den_stop ?_
    refine ⟨?_, rfl⟩
    first | (simp (disch := decide) only [go_sem, g6, eq_self, Bool.true_and, Bool.and_true, Bool.false_and, Bool.and_false, Bool.true_or, Bool.or_true, Bool.false_or, Bool.or_false, if_true, if_false, Bool.false_eq_true]; done) | simp [HasL, sel, puts_at, g6]
  intro en8
  simp (disch := decide) only [go_sem]
  refine den_ret ?_
  simp (disch := decide) only [resP_1, puts_same, puts_ne]
  exact ⟨vbool (Bool.eq_iff_iff.2 (by
   rw [isCp_t, isCp_iff]
   simp only [tableP, Bool.and_eq_true, decide_eq_true_eq]
   exact ⟨fun ⟨⟨⟨a, b⟩, ⟨c, d⟩⟩, ⟨e, f⟩⟩ => ⟨c0.1.1, in3_iff.1 c0.1.2, in3_iff.1 c0.2, a, c, e, b, d, f⟩, fun ⟨_, _, _, a, c, e, b, d, f⟩ => ⟨⟨⟨a, b⟩, ⟨c, d⟩⟩, ⟨e, f⟩⟩⟩)), eB⟩
end Go.Proofs.Ytjjjgllbocgkbaa

namespace Go.Proofs.Ytjjjgllbocgkbaa
open Go
/-- A row that is read, from some heap on. -/
def ER (h0 : Heap) (_ : Heap) (u : Value) (x : List Int) (fp : List Nat) : Prop := fp = [] ∧ (u.oneCell' = true ∧ u.cells = #[u]) ∧ ∀ h' : Heap, Ext h0 h' → R1 h' u x
instance {h0 : Heap} : Own (ER h0) := ⟨fun _ h => h, (fun h b hb => by rw [h.1] at hb; cases hb), (fun h => h.2.1)⟩
abbrev O2R (h0 : Heap) : Heap → Value → List (List Int) → List Nat → Prop := OS 22 (ER h0)
theorem O2R.nil {h0 : Heap} {h : Heap} {v : Value} {fp : List Nat} (ho : O2 h v [] fp) : O2R h0 h v [] fp := by
 rcases ho with ⟨h1, _, h3⟩ | ⟨b, c, cur, fps, rfl, r⟩
 ·exact .inl ⟨h1, rfl, h3⟩
 ·exact .inr ⟨b, c, cur, fps, rfl, ⟨r.val, r.box, r.size, r.max, r.le, r.len, fun j hj => by simp at hj⟩⟩
theorem O2R.rd {h0 : Heap} {h : Heap} {v : Value} {xs : List (List Int)} {fp : List Nat} (ho : O2R h0 h v xs fp) (e : Ext h0 h) : R2 h v xs := by
 rcases ho with ⟨rfl, rfl, _⟩ | ⟨b, c, cur, fps, _, r⟩
 ·exact ⟨none, 0, rfl, .inr rfl, by simp, by omega, fun j hj => by simp at hj⟩
 ·refine ⟨some ⟨b, 0, none⟩, c, r.val, .inl rfl, r.le, r.max, fun j hj => ?_⟩
  obtain ⟨u, f, h1, _, h4⟩ := r.el j hj
  refine ⟨u, ?_, h4.2.2 h e⟩
  rw [r.val]
  simp only [sA]
  rw [addr_add, r.box.cell, Nat.zero_add, h1]
theorem ER.one {h0 H : Heap} {u : Value} {x : List Int} (hu : R1 h0 u x) : ER h0 H u x [] := ⟨rfl, ⟨RdS.one hu, RdS.cells hu⟩, fun h' e => hu.pres e.pres⟩
theorem rowV_extR {α : Type} {E : Heap → Value → α → Prop} {h h' : Heap} {v : Value} {xs : List α} (hv : RdS E h v xs) (e : Ext h h') {j : Nat} (hj : j < xs.length) : rowV h' v j = rowV h v j := by
 obtain ⟨A, c, rfl, _, _, _, hr⟩ := hv
 obtain ⟨u, h1, _⟩ := hr j hj
 unfold rowV
 rw [h1, Ext.pres e _ _ h1]
theorem ER.row {h0 h H : Heap} {v : Value} {xs : List (List Int)} (hv : R2 h0 v xs) (e : Ext h0 h) {j : Nat} (hj : j < xs.length) : ER h0 H (rowV h v j) (xs.getD j default) [] := by
 rw [rowV_extR hv e hj]
 exact ER.one (RdS.rowN hv j hj)
theorem getD_elemR {α : Type} [Inhabited α] {xs : List α} {j : Nat} (hj : j < xs.length) : xs[j] = xs.getD j default := by
 rw [List.getD_eq_getElem?_getD, List.getElem?_eq_getElem hj]; rfl
theorem nil2 (h : Heap) : R2 h (.slice none 0 0) [] := ⟨none, 0, rfl, .inr rfl, by simp, by omega, fun j hj => by cases hj⟩
theorem map_takeLc {α β : Type} {f : α → β} {xs : List α} {k : Nat} {d : α} (h : k < xs.length) : (xs.take k).map f ++ [f (xs.getD k d)] = (xs.take (k + 1)).map f := by
 rw [List.take_succ_eq_append_getElem h, List.map_append, List.getD_eq_getElem?_getD, List.getElem?_eq_getElem h]; rfl
theorem map_takeEc {α β : Type} {f : α → β} {xs : List α} {k : Nat} (h : ¬ k < xs.length) : (xs.take k).map f = xs.map f := by rw [List.take_of_length_le (by omega)]
def befP (p : Int) (T : List (List Int)) (n : Nat) (u : List Int) : List Int → List Int := fun r => (List.range n).map fun q => (r.getD q 0 * ((-(invP p (r.getD n 0))) % p)) % p
noncomputable def befL (p : Int) (T : List (List Int)) (n : Nat) (u : List Int) : List Int := match (kerQ p (T ++ [u])).find? (fun r => r.getD n 0 != 0) with
 | some r => befP p T n u r
 | none => List.replicate n 0
theorem find_hit {α : Type} {f : α → Bool} {d : α} : ∀ {xs : List α} {k : Nat}, k < xs.length → (∀ j, j < k → f (xs.getD j d) = false) → f (xs.getD k d) = true → xs.find? f = some (xs.getD k d)
 | [], _, h, _, _ => by simp at h
 | x :: r, 0, _, _, h => by rw [List.find?_cons_of_pos (by simpa using h)]; rfl
 | x :: r, k + 1, hk, hz, h => by
  rw [List.find?_cons_of_neg (by have := hz 0 (by omega); simp at this; simp [this])]
  exact find_hit (xs := r) (by simpa using hk) (fun j hj => by simpa using hz (j + 1) (by omega)) (by simpa using h)
theorem find_none {α : Type} {f : α → Bool} {d : α} : ∀ {xs : List α}, (∀ j, j < xs.length → f (xs.getD j d) = false) → xs.find? f = none
 | [], _ => rfl
 | x :: r, hz => by
  rw [List.find?_cons_of_neg (by have := hz 0 (by simp); simp at this; simp [this])]
  exact find_none (xs := r) (d := d) (fun j hj => by simpa using hz (j + 1) (by simpa using hj))
/-- The reference's vector is a lift. -/
theorem bef_lift {C : Cp} (h : IsCp C) {u : List Int} (hl : u.length = C.d.toNat) (hb : Bnd C.p u) (hs : Sp C.p C.i fun j => u.getD j 0) : IsLift C u (befL C.p C.i C.d.toNat u) := by
 have hp := h.pos
 have hll := h.lens
 have hT : TB C.p C.d.toNat (C.i ++ [u]) := fun r hr => by
  rcases List.mem_append.1 hr with h1 | h1
  ·exact h.ir r h1
  ·rw [List.mem_singleton.1 h1]; exact ⟨hl, hb⟩
 have hlen : (C.i ++ [u]).length = C.d.toNat + 1 := by simp [hll.1]
 have hkt := kerQ_tb2 h.p hT
 have key : ∀ r ∈ kerQ C.p (C.i ++ [u]), r.getD C.d.toNat 0 ≠ 0 → IsLift C u (befP C.p C.i C.d.toNat u r) := fun r hr hne => by
  obtain ⟨hrl, hrb⟩ := hkt r hr
  rw [hlen] at hrl
  have hx := hrb.at (k := C.d.toNat) (by omega)
  obtain ⟨_, hi2, _⟩ := invP_ok h.p (x := r.getD C.d.toNat 0) (by omega) hx.2
  have fl : (befP C.p C.i C.d.toNat u r).length = C.d.toNat := by simp [befP]
  have fb : Bnd C.p (befP C.p C.i C.d.toNat u r) := bnd_map hp (fun q => r.getD q 0 * ((-(invP C.p (r.getD C.d.toNat 0))) % C.p)) _
  refine ⟨fl, fb, list_cg (by rw [mvP_len h.ir, hl]) (mvP_bnd hp h.ir fb) hb fun j => ?_⟩
  have h0 := kerQ_mem h.p hT (Sp.mem hr) j
  have e : apV (C.i ++ [u]) (fun j => r.getD j 0) j = apV C.i (fun j => r.getD j 0) j + r.getD C.d.toNat 0 * u.getD j 0 := by
   unfold apV
   rw [hlen, sm, ← hll.1]
   have e1 : g2 (C.i ++ [u]) C.i.length j = u.getD j 0 := by rw [g2, getD_app2]
   rw [e1]
   congr 1
   exact sm_eq fun q hq => by rw [g2, g2, getD_app1 hq]
  rw [e] at h0
  -- times the factor
  have hf : Cg C.p (((-(invP C.p (r.getD C.d.toNat 0))) % C.p) * r.getD C.d.toNat 0) (-1) := by
   refine (Cg.mul (Cg.mod _) (Cg.refl _)).trans ?_
   rw [Int.neg_mul]
   exact Cg.neg (show Cg C.p _ 1 from by
    have := (isP_two h.p).1
    unfold Cg
    rw [hi2, Int.emod_eq_of_lt (by omega) this])
  have h1 := Cg.mul (Cg.refl ((-(invP C.p (r.getD C.d.toNat 0))) % C.p)) h0
  rw [Int.mul_zero, Int.mul_add, ← Int.mul_assoc] at h1
  have h2 : Cg C.p (((-(invP C.p (r.getD C.d.toNat 0))) % C.p) * apV C.i (fun j => r.getD j 0) j - u.getD j 0) 0 := by
   refine Cg.trans ?_ h1
   have := Cg.add (Cg.refl (((-(invP C.p (r.getD C.d.toNat 0))) % C.p) * apV C.i (fun j => r.getD j 0) j)) (Cg.mul hf (Cg.refl (u.getD j 0))).symm
   rwa [show (-1 : Int) * u.getD j 0 = -(u.getD j 0) by omega, ← Int.sub_eq_add_neg] at this
  have h3 := Cg.add h2 (Cg.refl (u.getD j 0))
  rw [Int.sub_add_cancel, Int.zero_add] at h3
  refine (mvP_cg hp h.ir (by omega) fb j).trans (Cg.trans ?_ h3)
  unfold apV
  rw [← sm_mul]
  refine sm_cg fun q hq => ?_
  have e2 : (befP C.p C.i C.d.toNat u r).getD q 0 = (r.getD q 0 * ((-(invP C.p (r.getD C.d.toNat 0))) % C.p)) % C.p := getD_map_range (α := Int) (fun q => (r.getD q 0 * ((-(invP C.p (r.getD C.d.toNat 0))) % C.p)) % C.p) (show q < C.d.toNat by omega)
  show Cg C.p ((befP C.p C.i C.d.toNat u r).getD q 0 * g2 C.i q j) _
  rw [e2, ← Int.mul_assoc]
  exact Cg.mul ((Cg.mod _).trans (Cg.of_eq (Int.mul_comm _ _))) (Cg.refl _)
 unfold befL
 split
 ·rename_i r hr
  have hm := List.mem_of_find?_eq_some hr
  have hn := List.find?_some hr
  exact key r hm (by simpa using hn)
 ·rename_i hn
  exfalso
  -- the relation that gives u is in the kernel
  obtain ⟨c, hc⟩ := hs
  have hk : Sp C.p (kerQ C.p (C.i ++ [u])) (fun q => if q < C.d.toNat then c q else if q = C.d.toNat then -1 else 0) := kerQ_sp h.p hT (fun j _ => by
   have e : (sm (C.i ++ [u]).length fun i => (if i < C.d.toNat then c i else if i = C.d.toNat then -1 else 0) * g2 (C.i ++ [u]) i j) = apV C.i c j + (-1) * u.getD j 0 := by
    rw [hlen, sm, ← hll.1]
    have e1 : g2 (C.i ++ [u]) C.i.length j = u.getD j 0 := by rw [g2, getD_app2]
    rw [e1, if_neg (by omega), if_pos rfl]
    congr 1
    exact sm_eq fun q hq => by rw [if_pos hq, g2, g2, getD_app1 hq]
   rw [e]
   have := Cg.sub (hc j) (Cg.refl (u.getD j 0))
   rw [Int.sub_self] at this
   rw [show apV C.i c j + -1 * u.getD j 0 = apV C.i c j - u.getD j 0 by omega]
   exact this.symm) (fun k hk => by rw [hlen] at hk; rw [if_neg (by omega), if_neg (by omega)]; exact Cg.refl _)
  obtain ⟨a, ha⟩ := hk
  have h1 := ha C.d.toNat
  dsimp only at h1
  rw [if_neg (by omega), if_pos rfl] at h1
  have h2 : (sm (kerQ C.p (C.i ++ [u])).length fun i => a i * g2 (kerQ C.p (C.i ++ [u])) i C.d.toNat) = 0 := sm_zero fun i hi => by
   have := List.find?_eq_none.1 hn _ (getD_mem hi)
   have e : g2 (kerQ C.p (C.i ++ [u])) i C.d.toNat = 0 := by simpa using this
   rw [e, Int.mul_zero]
  rw [h2] at h1
  have hp2 := (isP_two h.p).1
  unfold Cg at h1
  rw [show (-1 : Int) % C.p = C.p - 1 by rw [← Int.add_emod_right, Int.emod_eq_of_lt (by omega) (by omega)]; omega, Int.zero_emod] at h1
  omega
end Go.Proofs.Ytjjjgllbocgkbaa

namespace Go.Proofs.Ytjjjgllbocgkbaa
open Go
set_option maxRecDepth 100000 in
theorem equalS1_ok (va vb : Value) (a : List Int) (b : List Int) (h : Heap) (ra : R1 h va a) (rb : R1 h vb b)  : CallA Try.prog 193 #[va, vb] h fun v' h' => v' = .bool (decide (a = b)) ∧ Ext h h' := by
 have hlea := RdS.le ra
 have hleb := RdS.le rb
 refine callA_intro TTok (args := [_, _]) Try.func193 (by kernel_rfl) rfl 26 rfl (by simp) [.tmp 4] rfl ?_
 simp only [idxs, Nat.reduceAdd]
 refine den_seq ?_
 refine den_region TTok ?_
 intro K hK
 simp -implicitDefEqProofs (disch := first | decide | assumption | omega) only [go_sem, wrap_id]
 refine hK _ _ ?_
 clear hK K
 refine den_seq ?_
 refine den_seq ?_
 refine den_region TTok ?_
 intro K hK
 simp -implicitDefEqProofs (disch := first | decide | assumption | omega) only [go_sem, RdS.len ra sl22, RdS.idx ra sl22, R1.intB ra (HPres.refl _), RdS.cells ra, RdS.len rb sl22, RdS.idx rb sl22, R1.intB rb (HPres.refl _), RdS.cells rb, wrap_id]
 refine hK _ _ ?_
 clear hK K
 refine den_cond rfl (fun c0 => ?_) (fun c0 => ?_)
 ·try simp only [decide_eq_true_eq, decide_eq_false_iff_not, beq_iff_eq, beq_eq_false_iff_ne, bne_iff_ne, ne_eq, Bool.not_eq_true', Bool.not_eq_false', Bool.and_eq_true, Bool.or_eq_true, bne_eq_false_iff_eq] at c0
  refine den_seq ?_
  refine den_region TTok ?_
  intro K hK
  simp -implicitDefEqProofs (disch := first | decide | assumption | omega) only [go_sem, wrap_id]
  refine hK _ _ ?_
  clear hK K
  refine den_ret ?_
  simp (disch := decide) only [resP_1, puts_same, puts_ne]
  exact ⟨vbool (by simp; intro he; rw [he] at c0; omega), (Ext.refl _)⟩
 ·try simp only [decide_eq_true_eq, decide_eq_false_iff_not, beq_iff_eq, beq_eq_false_iff_ne, bne_iff_ne, ne_eq, Bool.not_eq_true', Bool.not_eq_false', Bool.and_eq_true, Bool.or_eq_true, bne_eq_false_iff_eq] at c0
  refine den_skip ?_
  refine den_seq ?_
  refine den_seq ?_
  refine den_region TTok ?_
  intro K hK
  simp -implicitDefEqProofs (disch := first | decide | assumption | omega) only [go_sem, RdS.len ra sl22, RdS.idx ra sl22, R1.intB ra (HPres.refl _), RdS.cells ra, wrap_id]
  refine hK _ _ ?_
  clear hK K
  refine den_block ?_
  refine den_sel [13, 0, 1, 12] ?_
  intro env_1
  simp only [go_sem]
  refine den_loopS (σ := Nat) (fun st_ => [(13, .int .i64 (st_ : Int))]) (fun st_ H => (st_ ≤ a.length) ∧ (a.take st_ = b.take st_) ∧ (Ext h H)) (fun st_ => a.length - st_) 0 ?_ ?_
  ·exact ⟨by omega, by simp, Ext.refl _⟩
  ·rintro k h4 ee3 ⟨hk, heq, cL2⟩
   have := Ext.size cL2
   have eB := cL2
   simp only [List.cons_append, List.nil_append]
   refine den_seq ?_
   refine den_region TTok ?_
   intro K hK
   simp -implicitDefEqProofs (disch := first | decide | assumption | omega) only [go_sem, wrap_id]
   refine hK _ _ ?_
   clear hK K
   refine den_seq ?_
   refine den_cond rfl (fun c1 => ?_) (fun c1 => ?_)
   ·try simp only [decide_eq_true_eq, decide_eq_false_iff_not, beq_iff_eq, beq_eq_false_iff_ne, bne_iff_ne, ne_eq, Bool.not_eq_true', Bool.not_eq_false', Bool.and_eq_true, Bool.or_eq_true, bne_eq_false_iff_eq] at c1
    refine den_skip ?_
    refine den_seq ?_
    refine den_block ?_
    refine den_seq ?_
    refine den_region TTok ?_
    intro K hK
    simp -implicitDefEqProofs (disch := first | decide | assumption | omega) only [go_sem, wrap_id]
    refine hK _ _ ?_
    clear hK K
    refine den_seq ?_
    refine den_draw TTok mixed [] [(0, true), (1, true), (2, true), (3, true), (4, true), (5, true), (6, true), (7, true), (8, true)] (by kernel_rfl) ?_
    intro K hK
    simp -implicitDefEqProofs (disch := first | decide | assumption | omega) only [go_sem, ld2, RdS.len ra sl22, RdS.idx ra sl22, R1.intB ra (Ext.pres eB), RdS.cells ra, RdS.len rb sl22, RdS.idx rb sl22, R1.intB rb (Ext.pres eB), RdS.cells rb, wrap_id]
    refine hK _ _ ?_
    clear hK K
    refine den_cond rfl (fun c2 => ?_) (fun c2 => ?_)
    ·try simp only [decide_eq_true_eq, decide_eq_false_iff_not, beq_iff_eq, beq_eq_false_iff_ne, bne_iff_ne, ne_eq, Bool.not_eq_true', Bool.not_eq_false', Bool.and_eq_true, Bool.or_eq_true, bne_eq_false_iff_eq] at c2
     refine den_seq ?_
     refine den_region TTok ?_
     intro K hK
     simp -implicitDefEqProofs (disch := first | decide | assumption | omega) only [go_sem, wrap_id]
     refine hK _ _ ?_
     clear hK K
     refine den_ret ?_
     simp (disch := decide) only [resP_1, puts_same, puts_ne]
     exact ⟨vbool (by simp; exact eq_stop (d := 0) (by simpa using c2)), eB⟩
    ·try simp only [decide_eq_true_eq, decide_eq_false_iff_not, beq_iff_eq, beq_eq_false_iff_ne, bne_iff_ne, ne_eq, Bool.not_eq_true', Bool.not_eq_false', Bool.and_eq_true, Bool.or_eq_true, bne_eq_false_iff_eq] at c2
     refine den_skip ?_
     refine den_blk ?_
     refine den_region TTok ?_
     intro K hK
     simp -implicitDefEqProofs (disch := first | decide | assumption | omega) only [go_sem, wrap_id]
     refine hK _ _ ?_
     clear hK K
     refine den_stop ?_
     exact ⟨k + 1, by simp [HasL, puts_at], ⟨by first | omega | (dsimp only; omega), eq_step (by omega) (by omega) heq (d := 0) (d' := 0) (by simpa using c2), cL2⟩, by first | omega | (dsimp only; omega)⟩
   ·try simp only [decide_eq_true_eq, decide_eq_false_iff_not, beq_iff_eq, beq_eq_false_iff_ne, bne_iff_ne, ne_eq, Bool.not_eq_true', Bool.not_eq_false', Bool.and_eq_true, Bool.or_eq_true, bne_eq_false_iff_eq] at c1
    refine den_exit ?_
    refine denX_code ?_
    refine denX_stop ?_
    refine denX_hit ?_
    refine den_seq ?_
    refine den_region TTok ?_
    intro K hK
    simp -implicitDefEqProofs (disch := first | decide | assumption | omega) only [go_sem, wrap_id]
    refine hK _ _ ?_
    clear hK K
    refine den_ret ?_
    simp (disch := decide) only [resP_1, puts_same, puts_ne]
    exact ⟨vbool (by simp; exact eq_end (by omega) (by omega) heq), eB⟩

set_option maxRecDepth 100000 in
theorem equalF_ok (va vb : Value) (a b : List (List Int)) (h : Heap) (ra : R2 h va a) (rb : R2 h vb b) : CallA Try.prog 213 #[va, vb, .func (.func 193) #[] #[]] h fun v' h' => v' = .bool (decide (a = b)) ∧ Ext h h' := by
 have hlea := RdS.le ra
 have hleb := RdS.le rb
 refine callA_intro TTok (args := [_, _, _]) Try.func213 (by kernel_rfl) rfl 32 rfl (by simp) [.tmp 6] rfl ?_
 simp only [idxs, Nat.reduceAdd]
 refine den_seq ?_
 refine den_region TTok ?_
 intro K hK
 simp -implicitDefEqProofs (disch := first | decide | assumption | omega) only [go_sem, wrap_id]
 refine hK _ _ ?_
 clear hK K
 refine den_seq ?_
 refine den_seq ?_
 refine den_region TTok ?_
 intro K hK
 simp -implicitDefEqProofs (disch := first | decide | assumption | omega) only [go_sem, RdS.len ra sl26, RdS.idx ra sl26, RdS.cellB ra (HPres.refl _), RdS.cells ra, RdS.len rb sl26, RdS.idx rb sl26, RdS.cellB rb (HPres.refl _), RdS.cells rb, wrap_id]
 refine hK _ _ ?_
 clear hK K
 refine den_cond rfl (fun c0 => ?_) (fun c0 => ?_)
 ·try simp only [decide_eq_true_eq, decide_eq_false_iff_not, beq_iff_eq, beq_eq_false_iff_ne, bne_iff_ne, ne_eq, Bool.not_eq_true', Bool.not_eq_false', Bool.and_eq_true, Bool.or_eq_true, bne_eq_false_iff_eq] at c0
  refine den_seq ?_
  refine den_region TTok ?_
  intro K hK
  simp -implicitDefEqProofs (disch := first | decide | assumption | omega) only [go_sem, wrap_id]
  refine hK _ _ ?_
  clear hK K
  refine den_ret ?_
  simp (disch := decide) only [resP_1, puts_same, puts_ne]
  exact ⟨vbool (by simp; intro he; rw [he] at c0; omega), (Ext.refl _)⟩
 ·try simp only [decide_eq_true_eq, decide_eq_false_iff_not, beq_iff_eq, beq_eq_false_iff_ne, bne_iff_ne, ne_eq, Bool.not_eq_true', Bool.not_eq_false', Bool.and_eq_true, Bool.or_eq_true, bne_eq_false_iff_eq] at c0
  refine den_skip ?_
  refine den_seq ?_
  refine den_seq ?_
  refine den_region TTok ?_
  intro K hK
  simp -implicitDefEqProofs (disch := first | decide | assumption | omega) only [go_sem, RdS.len ra sl26, RdS.idx ra sl26, RdS.cellB ra (HPres.refl _), RdS.cells ra, wrap_id]
  refine hK _ _ ?_
  clear hK K
  refine den_block ?_
  refine den_sel [17, 1, 2, 15, 16] ?_
  intro env_1
  simp only [go_sem]
  refine den_loopS (σ := Nat) (fun st_ => [(17, .int .i64 (st_ : Int))]) (fun st_ H => (st_ ≤ a.length) ∧ (a.take st_ = b.take st_) ∧ (Ext h H)) (fun st_ => a.length - st_) 0 ?_ ?_
  ·exact ⟨by omega, by simp, Ext.refl _⟩
  ·rintro k h4 ee3 ⟨hk, heq, cL2⟩
   have := Ext.size cL2
   have eB := cL2
   simp only [List.cons_append, List.nil_append]
   refine den_seq ?_
   refine den_region TTok ?_
   intro K hK
   simp -implicitDefEqProofs (disch := first | decide | assumption | omega) only [go_sem, wrap_id]
   refine hK _ _ ?_
   clear hK K
   refine den_seq ?_
   refine den_cond rfl (fun c1 => ?_) (fun c1 => ?_)
   ·try simp only [decide_eq_true_eq, decide_eq_false_iff_not, beq_iff_eq, beq_eq_false_iff_ne, bne_iff_ne, ne_eq, Bool.not_eq_true', Bool.not_eq_false', Bool.and_eq_true, Bool.or_eq_true, bne_eq_false_iff_eq] at c1
    refine den_skip ?_
    refine den_seq ?_
    refine den_block ?_
    refine den_seq ?_
    refine den_region TTok ?_
    intro K hK
    have hr5 := RdS.rowN ra k (by omega)
    have hlhr5 := RdS.le hr5
    simp -implicitDefEqProofs (disch := first | decide | assumption | omega) only [go_sem, ld22, RdS.len ra sl26, RdS.idx ra sl26, RdS.cellB ra (Ext.pres eB), RdS.cells ra, RdS.len hr5 sl22, RdS.idx hr5 sl22, R1.intB hr5 (Ext.pres eB), RdS.cells hr5, wrap_id]
    refine hK _ _ ?_
    clear hK K
    refine den_seq ?_
    refine den_region TTok ?_
    intro K hK
    have hr6 := RdS.rowN rb k (by omega)
    have hlhr6 := RdS.le hr6
    simp -implicitDefEqProofs (disch := first | decide | assumption | omega) only [go_sem, ld22, RdS.len rb sl26, RdS.idx rb sl26, RdS.cellB rb (Ext.pres eB), RdS.cells rb, RdS.len hr6 sl22, RdS.idx hr6 sl22, R1.intB hr6 (Ext.pres eB), RdS.cells hr6, wrap_id]
    refine hK _ _ ?_
    clear hK K
    refine den_seq ?_
    refine den_region TTok ?_
    intro K hK
    simp -implicitDefEqProofs (disch := first | decide | assumption | omega) only [go_sem, RdS.len hr5 sl22, RdS.idx hr5 sl22, R1.intB hr5 (Ext.pres eB), RdS.cells hr5, RdS.len hr6 sl22, RdS.idx hr6 sl22, R1.intB hr6 (Ext.pres eB), RdS.cells hr6, wrap_id]
    try simp -implicitDefEqProofs (disch := first | decide | assumption | omega) only [go_sem, wrap_id]
    refine CallA.mono (equalS1_ok _ _ ((a).getD k default) ((b).getD k default) _ (RdS.pres hr5 (Ext.pres eB)) (RdS.pres hr6 (Ext.pres eB))) ?_
    intro v_ h7_3
    rintro ⟨rfl, e7_3⟩
    have := Ext.size e7_3
    replace eB := Ext.trans eB e7_3
    replace cL2 := Ext.trans cL2 e7_3
    try simp -implicitDefEqProofs (disch := first | decide | assumption | omega) only [go_sem, wrap_id]
    refine hK _ _ ?_
    clear hK K
    refine den_cond rfl (fun c2 => ?_) (fun c2 => ?_)
    ·try simp only [decide_eq_true_eq, decide_eq_false_iff_not, beq_iff_eq, beq_eq_false_iff_ne, bne_iff_ne, ne_eq, Bool.not_eq_true', Bool.not_eq_false', Bool.and_eq_true, Bool.or_eq_true, bne_eq_false_iff_eq] at c2
     refine den_seq ?_
     refine den_region TTok ?_
     intro K hK
     simp -implicitDefEqProofs (disch := first | decide | assumption | omega) only [go_sem, wrap_id]
     refine hK _ _ ?_
     clear hK K
     refine den_ret ?_
     simp (disch := decide) only [resP_1, puts_same, puts_ne]
     exact ⟨vbool (by simp; exact eq_stop (d := default) (by simpa using c2)), eB⟩
    ·try simp only [decide_eq_true_eq, decide_eq_false_iff_not, beq_iff_eq, beq_eq_false_iff_ne, bne_iff_ne, ne_eq, Bool.not_eq_true', Bool.not_eq_false', Bool.and_eq_true, Bool.or_eq_true, bne_eq_false_iff_eq] at c2
     refine den_skip ?_
     refine den_blk ?_
     refine den_region TTok ?_
     intro K hK
     simp -implicitDefEqProofs (disch := first | decide | assumption | omega) only [go_sem, wrap_id]
     refine hK _ _ ?_
     clear hK K
     refine den_stop ?_
     exact ⟨k + 1, by simp [HasL, puts_at], ⟨by first | omega | (dsimp only; omega), eq_step (by omega) (by omega) heq (d := default) (d' := default) (by simpa using c2), cL2⟩, by first | omega | (dsimp only; omega)⟩
   ·try simp only [decide_eq_true_eq, decide_eq_false_iff_not, beq_iff_eq, beq_eq_false_iff_ne, bne_iff_ne, ne_eq, Bool.not_eq_true', Bool.not_eq_false', Bool.and_eq_true, Bool.or_eq_true, bne_eq_false_iff_eq] at c1
    refine den_exit ?_
    refine denX_code ?_
    refine denX_stop ?_
    refine denX_hit ?_
    refine den_seq ?_
    refine den_region TTok ?_
    intro K hK
    simp -implicitDefEqProofs (disch := first | decide | assumption | omega) only [go_sem, wrap_id]
    refine hK _ _ ?_
    clear hK K
    refine den_ret ?_
    simp (disch := decide) only [resP_1, puts_same, puts_ne]
    exact ⟨vbool (by simp; exact eq_end (by omega) (by omega) heq), eB⟩

set_option maxRecDepth 100000 in
theorem iSame_ok (vA vB : Value) (p : Int) (A : List (List Int)) (B : List (List Int)) (h : Heap) (rA : R2 h vA A) (rB : R2 h vB B) {w1 w2 : Nat} (hP : isP p = true) (hA : TB p w1 A) (hB : TB p w2 B) (hw : w1 ≤ 24 ∧ w2 ≤ 24 ∧ A.length ≤ 24 ∧ B.length ≤ 24) : CallA Try.prog 175 #[.int .i64 p, vA, vB] h fun v' h' => v' = .bool (sameSp p A B) ∧ Ext h h' := by
 have hleA := RdS.le rA
 have hleB := RdS.le rB
 have hredT := hA
 have hkerT := hB
 refine callA_intro TTok (args := [_, _, _]) Try.func175 (by kernel_rfl) rfl 14 rfl (by simp) [.tmp 6] rfl ?_
 simp only [idxs, Nat.reduceAdd]
 refine den_seq ?_
 refine den_region TTok ?_
 intro K hK
 simp -implicitDefEqProofs (disch := first | decide | assumption | omega) only [go_sem, wrap_id]
 refine hK _ _ ?_
 clear hK K
 refine den_seq ?_
 refine den_region TTok ?_
 intro K hK
 simp -implicitDefEqProofs (disch := first | decide | assumption | omega) only [go_sem, RdS.len rA sl26, RdS.idx rA sl26, RdS.cellB rA (HPres.refl _), RdS.cells rA, wrap_id]
 try simp -implicitDefEqProofs (disch := first | decide | assumption | omega) only [go_sem, wrap_id]
 refine CallA.mono (iReduce_ok _ p A _ rA hP hredT (by omega) (by omega)) ?_
 intro vw1_2_0 h1_2
 rintro ⟨zvw1_2_0, fw1_2_0, rfl, how1_2_0, hfw1_2_0, e1_2⟩
 have := Ext.size e1_2
 have eB := e1_2
 have hlhow1_2_0 := OS.lt how1_2_0
 try simp -implicitDefEqProofs (disch := first | decide | assumption | omega) only [go_sem, RdS.len rB sl26, RdS.idx rB sl26, RdS.cellB rB (Ext.pres eB), RdS.cells rB, wrap_id]
 try simp -implicitDefEqProofs (disch := first | decide | assumption | omega) only [go_sem, wrap_id]
 refine CallA.mono (iKernel_ok _ p B _ (RdS.pres rB (Ext.pres eB)) hP hkerT (by omega) (by omega)) ?_
 intro vw1_5_0 h1_5
 rintro ⟨zvw1_5_0, fw1_5_0, rfl, how1_5_0, hfw1_5_0, e1_5⟩
 replace how1_2_0 := OS.ext how1_2_0 e1_5
 have := Ext.size e1_5
 replace eB := Ext.trans eB e1_5
 have hlhow1_5_0 := OS.lt how1_5_0
 try simp -implicitDefEqProofs (disch := first | decide | assumption | omega) only [go_sem, wrap_id]
 try simp -implicitDefEqProofs (disch := first | decide | assumption | omega) only [go_sem, wrap_id]
 refine CallA.mono (equalF_ok _ _ _ _ _ (OS.rd how1_2_0) (OS.rd how1_5_0)) ?_
 intro v_ h1_6
 rintro ⟨rfl, e1_6⟩
 replace how1_2_0 := OS.ext how1_2_0 e1_6
 replace how1_5_0 := OS.ext how1_5_0 e1_6
 have := Ext.size e1_6
 replace eB := Ext.trans eB e1_6
 try simp -implicitDefEqProofs (disch := first | decide | assumption | omega) only [go_sem, wrap_id]
 refine hK _ _ ?_
 clear hK K
 refine den_ret ?_
 simp (disch := decide) only [resP_1, puts_same, puts_ne]
 exact ⟨by first | rfl | trivial, eB⟩

set_option maxRecDepth 100000 in
theorem iEx2_ok (vX : Value) (X : Cp) (h : Heap) (rX : RP h vX X) (hC : IsCp X) : CallA Try.prog 107 #[vX] h fun v' h' => v' = .bool (exC X) ∧ Ext h h' := by
 obtain ⟨viX, vjX, vkX, rfl, hiX, hjX, hkX⟩ := rX
 have hleiX := RdS.le hiX
 have hlejX := RdS.le hjX
 have hlekX := RdS.le hkX
 have hd := hC.d
 have he := hC.e
 have hll := hC.lens
 refine callA_intro TTok (args := [_]) Try.func107 (by kernel_rfl) rfl 28 rfl (by simp) [.tmp 2] rfl ?_
 simp only [idxs, Nat.reduceAdd]
 refine den_seq ?_
 refine den_region TTok ?_
 intro K hK
 simp -implicitDefEqProofs (disch := first | decide | assumption | omega) only [go_sem, wrap_id]
 refine op_box (cs := #[.int .i64 (X.p), .int .i64 (X.d), .int .i64 (X.e), viX, vjX, vkX]) rfl ?_
 intro h0_0 e0_0 hb0_0 z0_0
 have := Ext.size e0_0
 have eB := e0_0
 have hfhb0_0 : Fresh h.size [h.size] := Fresh.one _
 have hlhb0_0 := one_lt (show h.size < h0_0.size by omega)
 try simp -implicitDefEqProofs (disch := first | decide | assumption | omega) only [go_sem, wrap_id]
 refine hK _ _ ?_
 clear hK K
 refine den_seq ?_
 refine den_merge [(2, .bool ((((sameSp X.p X.i X.j) && (sameSp X.p X.j X.k)) && (sameSp X.p X.k X.i))))] [] (fun H => Ext h0_0 H) ?_ ?_
  -- a way
 ·refine den_region TTok ?_
  intro K hK
  simp -implicitDefEqProofs (disch := first | decide | assumption | (simp (disch := decide) only [slotOf_zero, slotOf_succ, Option.map_some, puts_same, puts_ne, gv_bool, gv_undef, tt, tf, ft, ff, eq_self, if_true, if_false, Bool.false_eq_true, Bool.not_true, Bool.not_false]; done) | omega) only [go_sem, fa53_0, fa53_3, fa53_4, ld26, ld2, RdS.len hiX sl26, RdS.idx hiX sl26, RdS.cellB hiX (Ext.pres eB), RdS.cells hiX, RdS.len hjX sl26, RdS.idx hjX sl26, RdS.cellB hjX (Ext.pres eB), RdS.cells hjX, RdS.len hkX sl26, RdS.idx hkX sl26, RdS.cellB hkX (Ext.pres eB), RdS.cells hkX, BoxAt.cell hb0_0, wrap_id]
  try simp -implicitDefEqProofs (disch := first | decide | assumption | omega) only [go_sem, wrap_id]
  refine CallA.mono (iSame_ok _ _ X.p X.i X.j _ (RdS.pres hiX (Ext.pres eB)) (RdS.pres hjX (Ext.pres eB)) hC.p hC.ir hC.jr (by omega)) ?_
  intro v_ h1_6
  rintro ⟨rfl, e1_6⟩
  replace hb0_0 := BoxAt.ext hb0_0 e1_6
  have := Ext.size e1_6
  replace eB := Ext.trans eB e1_6
  try simp -implicitDefEqProofs (disch := first | decide | assumption | (simp (disch := decide) only [slotOf_zero, slotOf_succ, Option.map_some, puts_same, puts_ne, gv_bool, gv_undef, tt, tf, ft, ff, eq_self, if_true, if_false, Bool.false_eq_true, Bool.not_true, Bool.not_false]; done) | omega) only [go_sem, wrap_id]
  refine opsP_T (by simp (disch := decide) only [slotOf_zero, slotOf_succ, Option.map_some, puts_same, puts_ne, gv_bool, gv_undef, tt, tf, ft, ff, eq_self, if_true, if_false, Bool.false_eq_true, Bool.not_true, Bool.not_false]; rfl) (fun g1 => ?_) (fun g1 => ?_)
  ·try simp -implicitDefEqProofs (disch := first | decide | assumption | (simp (disch := decide) only [slotOf_zero, slotOf_succ, Option.map_some, puts_same, puts_ne, gv_bool, gv_undef, tt, tf, ft, ff, eq_self, if_true, if_false, Bool.false_eq_true, Bool.not_true, Bool.not_false, g1]; done) | omega) only [go_sem, fa53_0, fa53_4, fa53_5, ld26, ld2, RdS.len hiX sl26, RdS.idx hiX sl26, RdS.cellB hiX (Ext.pres eB), RdS.cells hiX, RdS.len hjX sl26, RdS.idx hjX sl26, RdS.cellB hjX (Ext.pres eB), RdS.cells hjX, RdS.len hkX sl26, RdS.idx hkX sl26, RdS.cellB hkX (Ext.pres eB), RdS.cells hkX, BoxAt.cell hb0_0, wrap_id, g1, eq_self, if_true, if_false, Bool.false_eq_true]
   try simp -implicitDefEqProofs (disch := first | decide | assumption | omega) only [go_sem, wrap_id]
   refine CallA.mono (iSame_ok _ _ X.p X.j X.k _ (RdS.pres hjX (Ext.pres eB)) (RdS.pres hkX (Ext.pres eB)) hC.p hC.jr hC.kr (by omega)) ?_
   intro v_ h1_14
   rintro ⟨rfl, e1_14⟩
   replace hb0_0 := BoxAt.ext hb0_0 e1_14
   have := Ext.size e1_14
   replace eB := Ext.trans eB e1_14
   try simp -implicitDefEqProofs (disch := first | decide | assumption | (simp (disch := decide) only [slotOf_zero, slotOf_succ, Option.map_some, puts_same, puts_ne, gv_bool, gv_undef, tt, tf, ft, ff, eq_self, if_true, if_false, Bool.false_eq_true, Bool.not_true, Bool.not_false, g1]; done) | omega) only [go_sem, wrap_id, g1, eq_self, if_true, if_false, Bool.false_eq_true]
   refine opsP_T (by simp (disch := decide) only [slotOf_zero, slotOf_succ, Option.map_some, puts_same, puts_ne, gv_bool, gv_undef, tt, tf, ft, ff, eq_self, if_true, if_false, Bool.false_eq_true, Bool.not_true, Bool.not_false, g1]; rfl) (fun g2 => ?_) (fun g2 => ?_)
   ·try simp -implicitDefEqProofs (disch := first | decide | assumption | (simp (disch := decide) only [slotOf_zero, slotOf_succ, Option.map_some, puts_same, puts_ne, gv_bool, gv_undef, tt, tf, ft, ff, eq_self, if_true, if_false, Bool.false_eq_true, Bool.not_true, Bool.not_false, g1, g2]; done) | omega) only [go_sem, fa53_0, fa53_3, fa53_5, ld26, ld2, RdS.len hiX sl26, RdS.idx hiX sl26, RdS.cellB hiX (Ext.pres eB), RdS.cells hiX, RdS.len hjX sl26, RdS.idx hjX sl26, RdS.cellB hjX (Ext.pres eB), RdS.cells hjX, RdS.len hkX sl26, RdS.idx hkX sl26, RdS.cellB hkX (Ext.pres eB), RdS.cells hkX, BoxAt.cell hb0_0, wrap_id, g1, g2, eq_self, if_true, if_false, Bool.false_eq_true]
    try simp -implicitDefEqProofs (disch := first | decide | assumption | omega) only [go_sem, wrap_id]
    refine CallA.mono (iSame_ok _ _ X.p X.k X.i _ (RdS.pres hkX (Ext.pres eB)) (RdS.pres hiX (Ext.pres eB)) hC.p hC.kr hC.ir (by omega)) ?_
    intro v_ h1_23
    rintro ⟨rfl, e1_23⟩
    replace hb0_0 := BoxAt.ext hb0_0 e1_23
    have := Ext.size e1_23
    replace eB := Ext.trans eB e1_23
    try simp -implicitDefEqProofs (disch := first | decide | assumption | (simp (disch := decide) only [slotOf_zero, slotOf_succ, Option.map_some, puts_same, puts_ne, gv_bool, gv_undef, tt, tf, ft, ff, eq_self, if_true, if_false, Bool.false_eq_true, Bool.not_true, Bool.not_false, g1, g2]; done) | omega) only [go_sem, wrap_id, g1, g2, eq_self, if_true, if_false, Bool.false_eq_true]
    refine hK _ _ ?_
    clear hK K
    refine den_stop ?_
    refine ⟨?_, (Ext.trans (Ext.trans e1_6 e1_14) e1_23)⟩
    first | (simp (disch := decide) only [go_sem, g1, g2, eq_self, Bool.true_and, Bool.and_true, Bool.false_and, Bool.and_false, Bool.true_or, Bool.or_true, Bool.false_or, Bool.or_false, if_true, if_false, Bool.false_eq_true]; done) | simp [HasL, sel, puts_at, g1, g2]
   ·try simp -implicitDefEqProofs (disch := first | decide | assumption | (simp (disch := decide) only [slotOf_zero, slotOf_succ, Option.map_some, puts_same, puts_ne, gv_bool, gv_undef, tt, tf, ft, ff, eq_self, if_true, if_false, Bool.false_eq_true, Bool.not_true, Bool.not_false, g1, g2]; done) | omega) only [go_sem, wrap_id, g1, g2, eq_self, if_true, if_false, Bool.false_eq_true]
    refine hK _ _ ?_
    clear hK K
    refine den_stop ?_
    refine ⟨?_, (Ext.trans e1_6 e1_14)⟩
    first | (simp (disch := decide) only [go_sem, g1, g2, eq_self, Bool.true_and, Bool.and_true, Bool.false_and, Bool.and_false, Bool.true_or, Bool.or_true, Bool.false_or, Bool.or_false, if_true, if_false, Bool.false_eq_true]; done) | simp [HasL, sel, puts_at, g1, g2]
  ·try simp -implicitDefEqProofs (disch := first | decide | assumption | (simp (disch := decide) only [slotOf_zero, slotOf_succ, Option.map_some, puts_same, puts_ne, gv_bool, gv_undef, tt, tf, ft, ff, eq_self, if_true, if_false, Bool.false_eq_true, Bool.not_true, Bool.not_false, g1]; done) | omega) only [go_sem, wrap_id, g1, eq_self, if_true, if_false, Bool.false_eq_true]
   try simp -implicitDefEqProofs (disch := first | decide | assumption | (simp (disch := decide) only [slotOf_zero, slotOf_succ, Option.map_some, puts_same, puts_ne, gv_bool, gv_undef, tt, tf, ft, ff, eq_self, if_true, if_false, Bool.false_eq_true, Bool.not_true, Bool.not_false, g1]; done) | omega) only [go_sem, wrap_id, g1, eq_self, if_true, if_false, Bool.false_eq_true]
   refine hK _ _ ?_
   clear hK K
   refine den_stop ?_
   refine ⟨?_, e1_6⟩
   first | (simp (disch := decide) only [go_sem, g1, eq_self, Bool.true_and, Bool.and_true, Bool.false_and, Bool.and_false, Bool.true_or, Bool.or_true, Bool.false_or, Bool.or_false, if_true, if_false, Bool.false_eq_true]; done) | simp [HasL, sel, puts_at, g1]
 intro en3 h4 e5
 replace hb0_0 := BoxAt.ext hb0_0 e5
 have := Ext.size e5
 replace eB := Ext.trans eB e5
 simp (disch := decide) only [go_sem]
 refine den_ret ?_
 simp (disch := decide) only [resP_1, puts_same, puts_ne]
 exact ⟨by first | rfl | trivial, eB⟩

set_option maxRecDepth 100000 in
theorem iCpC_ok (vX : Value) (X : Cp) (h : Heap) (rX : RP h vX X)  : CallA Try.prog 101 #[vX] h fun v' h' => v' = .int .i64 (cpC X) ∧ Ext h h' := by
 obtain ⟨viX, vjX, vkX, rfl, hiX, hjX, hkX⟩ := rX
 have hleiX := RdS.le hiX
 have hlejX := RdS.le hjX
 have hlekX := RdS.le hkX
 refine callA_intro TTok (args := [_]) Try.func101 (by kernel_rfl) rfl 11 rfl (by simp) [.tmp 2] rfl ?_
 simp only [idxs, Nat.reduceAdd]
 refine den_seq ?_
 refine den_region TTok ?_
 intro K hK
 simp -implicitDefEqProofs (disch := first | decide | assumption | omega) only [go_sem, wrap_id]
 refine op_box (cs := #[.int .i64 (X.p), .int .i64 (X.d), .int .i64 (X.e), viX, vjX, vkX]) rfl ?_
 intro h0_0 e0_0 hb0_0 z0_0
 have := Ext.size e0_0
 have eB := e0_0
 have hfhb0_0 : Fresh h.size [h.size] := Fresh.one _
 have hlhb0_0 := one_lt (show h.size < h0_0.size by omega)
 try simp -implicitDefEqProofs (disch := first | decide | assumption | omega) only [go_sem, wrap_id]
 refine hK _ _ ?_
 clear hK K
 refine den_seq ?_
 refine den_block ?_
 refine den_seq ?_
 refine den_region TTok ?_
 intro K hK
 simp -implicitDefEqProofs (disch := first | decide | assumption | omega) only [go_sem, ld53, RdS.len hiX sl26, RdS.idx hiX sl26, RdS.cellB hiX (Ext.pres eB), RdS.cells hiX, RdS.len hjX sl26, RdS.idx hjX sl26, RdS.cellB hjX (Ext.pres eB), RdS.cells hjX, RdS.len hkX sl26, RdS.idx hkX sl26, RdS.cellB hkX (Ext.pres eB), RdS.cells hkX, BoxAt.cell hb0_0, wrap_id]
 try simp -implicitDefEqProofs (disch := first | decide | assumption | omega) only [go_sem, wrap_id]
 refine CallA.mono (iIsCp_ok _ X _ ⟨_, _, _, rfl, (RdS.pres hiX (Ext.pres eB)), (RdS.pres hjX (Ext.pres eB)), (RdS.pres hkX (Ext.pres eB))⟩ ) ?_
 intro v_ h1_1
 rintro ⟨rfl, e1_1⟩
 replace hb0_0 := BoxAt.ext hb0_0 e1_1
 have := Ext.size e1_1
 replace eB := Ext.trans eB e1_1
 try simp -implicitDefEqProofs (disch := first | decide | assumption | omega) only [go_sem, wrap_id]
 refine hK _ _ ?_
 clear hK K
 refine den_cond rfl (fun c0 => ?_) (fun c0 => ?_)
 ·try simp only [decide_eq_true_eq, decide_eq_false_iff_not, beq_iff_eq, beq_eq_false_iff_ne, bne_iff_ne, ne_eq, Bool.not_eq_true', Bool.not_eq_false', Bool.and_eq_true, Bool.or_eq_true, bne_eq_false_iff_eq, Bool.not_eq_true, Bool.not_eq_false] at c0
  refine den_seq ?_
  refine den_region TTok ?_
  intro K hK
  simp -implicitDefEqProofs (disch := first | decide | assumption | omega) only [go_sem, wrap_id]
  refine hK _ _ ?_
  clear hK K
  refine den_ret ?_
  simp (disch := decide) only [resP_1, puts_same, puts_ne]
  exact ⟨vint (by rw [cpC, if_neg (by rw [c0]; decide)]), eB⟩
 ·try simp only [decide_eq_true_eq, decide_eq_false_iff_not, beq_iff_eq, beq_eq_false_iff_ne, bne_iff_ne, ne_eq, Bool.not_eq_true', Bool.not_eq_false', Bool.and_eq_true, Bool.or_eq_true, bne_eq_false_iff_eq, Bool.not_eq_true, Bool.not_eq_false] at c0
  have hC := isCp_t.1 c0
  refine den_seq ?_
  refine den_region TTok ?_
  intro K hK
  simp -implicitDefEqProofs (disch := first | decide | assumption | omega) only [go_sem, ld53, RdS.len hiX sl26, RdS.idx hiX sl26, RdS.cellB hiX (Ext.pres eB), RdS.cells hiX, RdS.len hjX sl26, RdS.idx hjX sl26, RdS.cellB hjX (Ext.pres eB), RdS.cells hjX, RdS.len hkX sl26, RdS.idx hkX sl26, RdS.cellB hkX (Ext.pres eB), RdS.cells hkX, BoxAt.cell hb0_0, wrap_id]
  try simp -implicitDefEqProofs (disch := first | decide | assumption | omega) only [go_sem, wrap_id]
  refine CallA.mono (iEx2_ok _ X _ ⟨_, _, _, rfl, (RdS.pres hiX (Ext.pres eB)), (RdS.pres hjX (Ext.pres eB)), (RdS.pres hkX (Ext.pres eB))⟩ hC) ?_
  intro v_ h3_1
  rintro ⟨rfl, e3_1⟩
  replace hb0_0 := BoxAt.ext hb0_0 e3_1
  have := Ext.size e3_1
  replace eB := Ext.trans eB e3_1
  try simp -implicitDefEqProofs (disch := first | decide | assumption | omega) only [go_sem, wrap_id]
  refine hK _ _ ?_
  clear hK K
  refine den_cond rfl (fun c1 => ?_) (fun c1 => ?_)
  ·try simp only [decide_eq_true_eq, decide_eq_false_iff_not, beq_iff_eq, beq_eq_false_iff_ne, bne_iff_ne, ne_eq, Bool.not_eq_true', Bool.not_eq_false', Bool.and_eq_true, Bool.or_eq_true, bne_eq_false_iff_eq, Bool.not_eq_true, Bool.not_eq_false] at c1
   refine den_seq ?_
   refine den_region TTok ?_
   intro K hK
   simp -implicitDefEqProofs (disch := first | decide | assumption | omega) only [go_sem, wrap_id]
   refine hK _ _ ?_
   clear hK K
   refine den_ret ?_
   simp (disch := decide) only [resP_1, puts_same, puts_ne]
   exact ⟨vint (by rw [cpC, if_pos c0, if_neg (by rw [c1]; decide)]), eB⟩
  ·try simp only [decide_eq_true_eq, decide_eq_false_iff_not, beq_iff_eq, beq_eq_false_iff_ne, bne_iff_ne, ne_eq, Bool.not_eq_true', Bool.not_eq_false', Bool.and_eq_true, Bool.or_eq_true, bne_eq_false_iff_eq, Bool.not_eq_true, Bool.not_eq_false] at c1
   refine den_skip ?_
   refine den_blk ?_
   refine den_seq ?_
   refine den_region TTok ?_
   intro K hK
   simp -implicitDefEqProofs (disch := first | decide | assumption | omega) only [go_sem, wrap_id]
   refine hK _ _ ?_
   clear hK K
   refine den_ret ?_
   simp (disch := decide) only [resP_1, puts_same, puts_ne]
   exact ⟨vint (by rw [cpC, if_pos c0, if_pos c1]), eB⟩
end Go.Proofs.Ytjjjgllbocgkbaa

namespace Go.Proofs.Ytjjjgllbocgkbaa
open Go
theorem sm_no {p : Int} {A B : List (List Int)} (h : ¬ sameSp p A B = true) : false = sameSp p A B := by
 cases e : sameSp p A B
 ·rfl
 ·exact absurd e h

set_option maxRecDepth 100000 in
theorem sIns_ok (vR vv : Value) (p : Int) (R : List (List Int)) (v : List Int) (h : Heap) (rR : R2 h vR R) (rv : R1 h vv v) {w_ : Nat} {l_ : Nat → Nat} (hP : isP p = true) (hr : Rr p w_ R l_) (hv : v.length = w_ ∧ w_ ≤ 1000) (hb : Bnd p v) : CallA Try.prog 216 #[.int .i64 p, vR, vv] h fun v' h' => v' = .bool (decide (leadP (restP p R v) < 0)) ∧ Ext h h' := by
 have hleR := RdS.le rR
 have hlev := RdS.le rv
 have hrr := hr
 have hrv := hv
 have hrb := hb
 refine callA_intro TTok (args := [_, _, _]) Try.func216 (by kernel_rfl) rfl 13 rfl (by simp) [.tmp 6] rfl ?_
 simp only [idxs, Nat.reduceAdd]
 refine den_seq ?_
 refine den_region TTok ?_
 intro K hK
 simp -implicitDefEqProofs (disch := first | decide | assumption | omega) only [go_sem, wrap_id]
 refine hK _ _ ?_
 clear hK K
 refine den_seq ?_
 refine den_region TTok ?_
 intro K hK
 simp -implicitDefEqProofs (disch := first | decide | assumption | omega) only [go_sem, RdS.len rR sl26, RdS.idx rR sl26, RdS.cellB rR (HPres.refl _), RdS.cells rR, RdS.len rv sl22, RdS.idx rv sl22, R1.intB rv (HPres.refl _), RdS.cells rv, wrap_id]
 try simp -implicitDefEqProofs (disch := first | decide | assumption | omega) only [go_sem, wrap_id]
 refine CallA.mono (sRest_ok _ _ p R v _ rR rv hP hrr hrv hrb) ?_
 intro vw1_3_0 h1_3
 rintro ⟨zvw1_3_0, fw1_3_0, rfl, how1_3_0, hfw1_3_0, e1_3⟩
 have := Ext.size e1_3
 have eB := e1_3
 have hlhow1_3_0 := OS.lt how1_3_0
 try simp -implicitDefEqProofs (disch := first | decide | assumption | omega) only [go_sem, wrap_id]
 try simp -implicitDefEqProofs (disch := first | decide | assumption | omega) only [go_sem, wrap_id]
 refine CallA.pure (sLead_ok _ (restP p R v) _ (OS.rd how1_3_0)) ?_
 try simp -implicitDefEqProofs (disch := first | decide | assumption | omega) only [go_sem, wrap_id]
 refine hK _ _ ?_
 clear hK K
 refine den_ret ?_
 simp (disch := decide) only [resP_1, puts_same, puts_ne]
 exact ⟨by first | rfl | trivial, eB⟩

set_option maxRecDepth 100000 in
theorem sMeet_ok (vA vB : Value) (p : Int) (A : List (List Int)) (n : Int) (B : List (List Int)) (h : Heap) (rA : R2 h vA A) (rB : R2 h vB B) {w1 w2 : Nat} (hP : isP p = true) (hA : TB p w1 A) (hB : TB p w2 B) (hw : w1 ≤ 24 ∧ w2 ≤ 24 ∧ A.length ≤ 24 ∧ B.length ≤ 24) (hn : B.length = w1) (hm : n = (B.length : Int)) : CallA Try.prog 208 #[.int .i64 p, vA, .int .i64 n, vB] h fun v' h' => v' = .bool (sameSp p A B) ∧ Ext h h' := by
 have hleA := RdS.le rA
 have hleB := RdS.le rB
 have hredT := hA
 have hkerT := hB
 have hkern := hm
 obtain ⟨⟨la, ra⟩, _⟩ := ech_red hP hA
 obtain ⟨lk, hrr⟩ := kerQ_rr hP hB
 have hla := ra.le_w
 have hlk := hrr.le_w
 rw [hn] at hrr
 refine callA_intro TTok (args := [_, _, _, _]) Try.func208 (by kernel_rfl) rfl 38 rfl (by simp) [.tmp 8] rfl ?_
 simp only [idxs, Nat.reduceAdd]
 refine den_seq ?_
 refine den_region TTok ?_
 intro K hK
 simp -implicitDefEqProofs (disch := first | decide | assumption | omega) only [go_sem, wrap_id]
 refine hK _ _ ?_
 clear hK K
 refine den_seq ?_
 refine den_region TTok ?_
 intro K hK
 simp -implicitDefEqProofs (disch := first | decide | assumption | omega) only [go_sem, RdS.len rA sl26, RdS.idx rA sl26, RdS.cellB rA (HPres.refl _), RdS.cells rA, wrap_id]
 try simp -implicitDefEqProofs (disch := first | decide | assumption | omega) only [go_sem, wrap_id]
 refine CallA.mono (sEch_ok _ p A _ rA hP hredT (by omega) (by omega)) ?_
 intro vw1_2_0 h1_2
 rintro ⟨zvw1_2_0, fw1_2_0, rfl, how1_2_0, hfw1_2_0, e1_2⟩
 have := Ext.size e1_2
 have eB := e1_2
 have hlhow1_2_0 := OS.lt how1_2_0
 try simp -implicitDefEqProofs (disch := first | decide | assumption | omega) only [go_sem, RdS.len rB sl26, RdS.idx rB sl26, RdS.cellB rB (Ext.pres eB), RdS.cells rB, wrap_id]
 try simp -implicitDefEqProofs (disch := first | decide | assumption | omega) only [go_sem, wrap_id]
 refine CallA.mono (sKernel_ok _ p n B _ (RdS.pres rB (Ext.pres eB)) hP hkerT (by omega) (by omega) hkern) ?_
 intro vw1_6_0 h1_6
 rintro ⟨zvw1_6_0, fw1_6_0, rfl, how1_6_0, hfw1_6_0, e1_6⟩
 replace how1_2_0 := OS.ext how1_2_0 e1_6
 have := Ext.size e1_6
 replace eB := Ext.trans eB e1_6
 have hlhow1_6_0 := OS.lt how1_6_0
 try simp -implicitDefEqProofs (disch := first | decide | assumption | omega) only [go_sem, RdS.len (OS.rd how1_2_0) sl26, RdS.idx (OS.rd how1_2_0) sl26, RdS.cellN (OS.rd how1_2_0), RdS.cells (OS.rd how1_2_0), RdS.len (OS.rd how1_6_0) sl26, RdS.idx (OS.rd how1_6_0) sl26, RdS.cellN (OS.rd how1_6_0), RdS.cells (OS.rd how1_6_0), wrap_id]
 refine hK _ _ ?_
 clear hK K
 refine den_seq ?_
 refine den_seq ?_
 refine den_region TTok ?_
 intro K hK
 simp -implicitDefEqProofs (disch := first | decide | assumption | omega) only [go_sem, RdS.len (OS.rd how1_2_0) sl26, RdS.idx (OS.rd how1_2_0) sl26, RdS.cellN (OS.rd how1_2_0), RdS.cells (OS.rd how1_2_0), RdS.len (OS.rd how1_6_0) sl26, RdS.idx (OS.rd how1_6_0) sl26, RdS.cellN (OS.rd how1_6_0), RdS.cells (OS.rd how1_6_0), wrap_id]
 refine hK _ _ ?_
 clear hK K
 refine den_cond rfl (fun c0 => ?_) (fun c0 => ?_)
 ·try simp only [decide_eq_true_eq, decide_eq_false_iff_not, beq_iff_eq, beq_eq_false_iff_ne, bne_iff_ne, ne_eq, Bool.not_eq_true', Bool.not_eq_false', Bool.and_eq_true, Bool.or_eq_true, bne_eq_false_iff_eq] at c0
  refine den_seq ?_
  refine den_region TTok ?_
  intro K hK
  simp -implicitDefEqProofs (disch := first | decide | assumption | omega) only [go_sem, wrap_id]
  refine hK _ _ ?_
  clear hK K
  refine den_ret ?_
  simp (disch := decide) only [resP_1, puts_same, puts_ne]
  exact ⟨vbool (sm_no (fun hq => c0 (by have := ((same_iff hP hA hB hn).1 hq).1; omega))), eB⟩
 ·try simp only [decide_eq_true_eq, decide_eq_false_iff_not, beq_iff_eq, beq_eq_false_iff_ne, bne_iff_ne, ne_eq, Bool.not_eq_true', Bool.not_eq_false', Bool.and_eq_true, Bool.or_eq_true, bne_eq_false_iff_eq] at c0
  refine den_skip ?_
  refine den_seq ?_
  refine den_seq ?_
  refine den_region TTok ?_
  intro K hK
  simp -implicitDefEqProofs (disch := first | decide | assumption | omega) only [go_sem, wrap_id]
  refine hK _ _ ?_
  clear hK K
  refine den_block ?_
  refine den_sel [11, 0, 9, 10] ?_
  intro env_1
  simp only [go_sem]
  refine den_loopS (σ := Nat) (fun st_ => [(11, .int .i64 (st_ : Int))]) (fun st_ H => (st_ ≤ (ech p A).length) ∧ (∀ a, a < st_ → ∀ b, (restP p (kerQ p B) ((ech p A).getD a default)).getD b 0 = 0) ∧ (Ext h1_6 H)) (fun st_ => (ech p A).length - st_) 0 ?_ ?_
  ·exact ⟨by omega, fun a h => by omega, Ext.refl _⟩
  ·rintro i h4 ee3 ⟨hi0, hz, cL2⟩
   replace how1_2_0 := OS.ext how1_2_0 cL2
   replace how1_6_0 := OS.ext how1_6_0 cL2
   have := Ext.size cL2
   replace eB := Ext.trans eB cL2
   simp only [List.cons_append, List.nil_append]
   refine den_seq ?_
   refine den_seq ?_
   refine den_region TTok ?_
   intro K hK
   simp -implicitDefEqProofs (disch := first | decide | assumption | omega) only [go_sem, RdS.len (OS.rd how1_2_0) sl26, RdS.idx (OS.rd how1_2_0) sl26, RdS.cellN (OS.rd how1_2_0), RdS.cells (OS.rd how1_2_0), wrap_id]
   refine hK _ _ ?_
   clear hK K
   refine den_cond rfl (fun c1 => ?_) (fun c1 => ?_)
   ·try simp only [decide_eq_true_eq, decide_eq_false_iff_not, beq_iff_eq, beq_eq_false_iff_ne, bne_iff_ne, ne_eq, Bool.not_eq_true', Bool.not_eq_false', Bool.and_eq_true, Bool.or_eq_true, bne_eq_false_iff_eq] at c1
    refine den_skip ?_
    refine den_seq ?_
    refine den_block ?_
    refine den_seq ?_
    have hrv : ((ech p A).getD i default).length = w1 ∧ w1 ≤ 1000 := ⟨ra.len i (by omega), by omega⟩
    have hrb := ra.bnd i (by omega)
    refine den_region TTok ?_
    intro K hK
    have hr5 := RdS.rowN (OS.rd how1_2_0) i (by omega)
    have hlhr5 := RdS.le hr5
    have xr6 := Ext.refl h4
    simp -implicitDefEqProofs (disch := first | decide | assumption | omega) only [go_sem, ld22, RdS.len (OS.rd how1_2_0) sl26, RdS.idx (OS.rd how1_2_0) sl26, RdS.cellN (OS.rd how1_2_0), RdS.cells (OS.rd how1_2_0), RdS.len (OS.rd how1_6_0) sl26, RdS.idx (OS.rd how1_6_0) sl26, RdS.cellN (OS.rd how1_6_0), RdS.cells (OS.rd how1_6_0), RdS.len hr5 sl22, RdS.idx hr5 sl22, R1.intB hr5 (Ext.pres xr6), RdS.cells hr5, wrap_id]
    try simp -implicitDefEqProofs (disch := first | decide | assumption | omega) only [go_sem, wrap_id]
    refine CallA.mono (sIns_ok _ _ p (kerQ p B) ((ech p A).getD i default) _ (OS.rd how1_6_0) (RdS.pres hr5 (Ext.pres xr6)) hP hrr hrv hrb) ?_
    intro v_ h7_6
    rintro ⟨rfl, e7_6⟩
    replace how1_2_0 := OS.ext how1_2_0 e7_6
    replace how1_6_0 := OS.ext how1_6_0 e7_6
    have := Ext.size e7_6
    replace eB := Ext.trans eB e7_6
    replace xr6 := Ext.trans xr6 e7_6
    replace cL2 := Ext.trans cL2 e7_6
    try simp -implicitDefEqProofs (disch := first | decide | assumption | omega) only [go_sem, wrap_id]
    refine hK _ _ ?_
    clear hK K
    refine den_cond rfl (fun c2 => ?_) (fun c2 => ?_)
    ·try simp only [decide_eq_true_eq, decide_eq_false_iff_not, beq_iff_eq, beq_eq_false_iff_ne, bne_iff_ne, ne_eq, Bool.not_eq_true', Bool.not_eq_false', Bool.and_eq_true, Bool.or_eq_true, bne_eq_false_iff_eq] at c2
     refine den_seq ?_
     refine den_region TTok ?_
     intro K hK
     simp -implicitDefEqProofs (disch := first | decide | assumption | omega) only [go_sem, wrap_id]
     refine hK _ _ ?_
     clear hK K
     refine den_ret ?_
     simp (disch := decide) only [resP_1, puts_same, puts_ne]
     exact ⟨vbool (sm_no (fun hq => c2 (lead_neg.2 (((same_iff hP hA hB hn).1 hq).2 i (by omega))))), eB⟩
    ·try simp only [decide_eq_true_eq, decide_eq_false_iff_not, beq_iff_eq, beq_eq_false_iff_ne, bne_iff_ne, ne_eq, Bool.not_eq_true', Bool.not_eq_false', Bool.and_eq_true, Bool.or_eq_true, bne_eq_false_iff_eq] at c2
     refine den_skip ?_
     refine den_blk ?_
     refine den_region TTok ?_
     intro K hK
     simp -implicitDefEqProofs (disch := first | decide | assumption | omega) only [go_sem, wrap_id]
     refine hK _ _ ?_
     clear hK K
     refine den_stop ?_
     exact ⟨i + 1, by simp [HasL, puts_at], ⟨by first | omega | (dsimp only; omega), fun a ha => by
 by_cases hai : a < i
 ·exact hz a hai
 ·rw [show a = i by omega]; exact lead_neg.1 c2, cL2⟩, by first | omega | (dsimp only; omega)⟩
   ·try simp only [decide_eq_true_eq, decide_eq_false_iff_not, beq_iff_eq, beq_eq_false_iff_ne, bne_iff_ne, ne_eq, Bool.not_eq_true', Bool.not_eq_false', Bool.and_eq_true, Bool.or_eq_true, bne_eq_false_iff_eq] at c1
    refine den_exit ?_
    refine denX_code ?_
    refine denX_stop ?_
    refine denX_hit ?_
    refine den_seq ?_
    refine den_region TTok ?_
    intro K hK
    simp -implicitDefEqProofs (disch := first | decide | assumption | omega) only [go_sem, wrap_id]
    refine hK _ _ ?_
    clear hK K
    refine den_ret ?_
    simp (disch := decide) only [resP_1, puts_same, puts_ne]
    exact ⟨vbool ((same_iff hP hA hB hn).2 ⟨by omega, fun a ha => hz a (by omega)⟩).symm, eB⟩

set_option maxRecDepth 100000 in
theorem sEx2_ok (vX : Value) (X : Cp) (h : Heap) (rX : RP h vX X) (hC : IsCp X) : CallA Try.prog 159 #[vX] h fun v' h' => v' = .bool (exC X) ∧ Ext h h' := by
 obtain ⟨viX, vjX, vkX, rfl, hiX, hjX, hkX⟩ := rX
 have hleiX := RdS.le hiX
 have hlejX := RdS.le hjX
 have hlekX := RdS.le hkX
 have hd := hC.d
 have he := hC.e
 have hll := hC.lens
 refine callA_intro TTok (args := [_]) Try.func159 (by kernel_rfl) rfl 34 rfl (by simp) [.tmp 2] rfl ?_
 simp only [idxs, Nat.reduceAdd]
 refine den_seq ?_
 refine den_region TTok ?_
 intro K hK
 simp -implicitDefEqProofs (disch := first | decide | assumption | omega) only [go_sem, wrap_id]
 refine op_box (cs := #[.int .i64 (X.p), .int .i64 (X.d), .int .i64 (X.e), viX, vjX, vkX]) rfl ?_
 intro h0_0 e0_0 hb0_0 z0_0
 have := Ext.size e0_0
 have eB := e0_0
 have hfhb0_0 : Fresh h.size [h.size] := Fresh.one _
 have hlhb0_0 := one_lt (show h.size < h0_0.size by omega)
 try simp -implicitDefEqProofs (disch := first | decide | assumption | omega) only [go_sem, wrap_id]
 refine hK _ _ ?_
 clear hK K
 refine den_seq ?_
 refine den_merge [(2, .bool ((((sameSp X.p X.i X.j) && (sameSp X.p X.j X.k)) && (sameSp X.p X.k X.i))))] [] (fun H => Ext h0_0 H) ?_ ?_
  -- a way
 ·refine den_region TTok ?_
  intro K hK
  simp -implicitDefEqProofs (disch := first | decide | assumption | (simp (disch := decide) only [slotOf_zero, slotOf_succ, Option.map_some, puts_same, puts_ne, gv_bool, gv_undef, tt, tf, ft, ff, eq_self, if_true, if_false, Bool.false_eq_true, Bool.not_true, Bool.not_false]; done) | omega) only [go_sem, fa53_0, fa53_1, fa53_3, fa53_4, ld26, ld2, RdS.len hiX sl26, RdS.idx hiX sl26, RdS.cellB hiX (Ext.pres eB), RdS.cells hiX, RdS.len hjX sl26, RdS.idx hjX sl26, RdS.cellB hjX (Ext.pres eB), RdS.cells hjX, RdS.len hkX sl26, RdS.idx hkX sl26, RdS.cellB hkX (Ext.pres eB), RdS.cells hkX, BoxAt.cell hb0_0, wrap_id]
  try simp -implicitDefEqProofs (disch := first | decide | assumption | omega) only [go_sem, wrap_id]
  refine CallA.mono (sMeet_ok _ _ X.p X.i X.d X.j _ (RdS.pres hiX (Ext.pres eB)) (RdS.pres hjX (Ext.pres eB)) hC.p hC.ir hC.jr (by omega) (by omega) (by omega)) ?_
  intro v_ h1_8
  rintro ⟨rfl, e1_8⟩
  replace hb0_0 := BoxAt.ext hb0_0 e1_8
  have := Ext.size e1_8
  replace eB := Ext.trans eB e1_8
  try simp -implicitDefEqProofs (disch := first | decide | assumption | (simp (disch := decide) only [slotOf_zero, slotOf_succ, Option.map_some, puts_same, puts_ne, gv_bool, gv_undef, tt, tf, ft, ff, eq_self, if_true, if_false, Bool.false_eq_true, Bool.not_true, Bool.not_false]; done) | omega) only [go_sem, wrap_id]
  refine opsP_T (by simp (disch := decide) only [slotOf_zero, slotOf_succ, Option.map_some, puts_same, puts_ne, gv_bool, gv_undef, tt, tf, ft, ff, eq_self, if_true, if_false, Bool.false_eq_true, Bool.not_true, Bool.not_false]; rfl) (fun g1 => ?_) (fun g1 => ?_)
  ·try simp -implicitDefEqProofs (disch := first | decide | assumption | (simp (disch := decide) only [slotOf_zero, slotOf_succ, Option.map_some, puts_same, puts_ne, gv_bool, gv_undef, tt, tf, ft, ff, eq_self, if_true, if_false, Bool.false_eq_true, Bool.not_true, Bool.not_false, g1]; done) | omega) only [go_sem, fa53_0, fa53_2, fa53_4, fa53_5, ld26, ld2, RdS.len hiX sl26, RdS.idx hiX sl26, RdS.cellB hiX (Ext.pres eB), RdS.cells hiX, RdS.len hjX sl26, RdS.idx hjX sl26, RdS.cellB hjX (Ext.pres eB), RdS.cells hjX, RdS.len hkX sl26, RdS.idx hkX sl26, RdS.cellB hkX (Ext.pres eB), RdS.cells hkX, BoxAt.cell hb0_0, wrap_id, g1, eq_self, if_true, if_false, Bool.false_eq_true]
   try simp -implicitDefEqProofs (disch := first | decide | assumption | omega) only [go_sem, wrap_id]
   refine CallA.mono (sMeet_ok _ _ X.p X.j X.e X.k _ (RdS.pres hjX (Ext.pres eB)) (RdS.pres hkX (Ext.pres eB)) hC.p hC.jr hC.kr (by omega) (by omega) (by omega)) ?_
   intro v_ h1_18
   rintro ⟨rfl, e1_18⟩
   replace hb0_0 := BoxAt.ext hb0_0 e1_18
   have := Ext.size e1_18
   replace eB := Ext.trans eB e1_18
   try simp -implicitDefEqProofs (disch := first | decide | assumption | (simp (disch := decide) only [slotOf_zero, slotOf_succ, Option.map_some, puts_same, puts_ne, gv_bool, gv_undef, tt, tf, ft, ff, eq_self, if_true, if_false, Bool.false_eq_true, Bool.not_true, Bool.not_false, g1]; done) | omega) only [go_sem, wrap_id, g1, eq_self, if_true, if_false, Bool.false_eq_true]
   refine opsP_T (by simp (disch := decide) only [slotOf_zero, slotOf_succ, Option.map_some, puts_same, puts_ne, gv_bool, gv_undef, tt, tf, ft, ff, eq_self, if_true, if_false, Bool.false_eq_true, Bool.not_true, Bool.not_false, g1]; rfl) (fun g2 => ?_) (fun g2 => ?_)
   ·try simp -implicitDefEqProofs (disch := first | decide | assumption | (simp (disch := decide) only [slotOf_zero, slotOf_succ, Option.map_some, puts_same, puts_ne, gv_bool, gv_undef, tt, tf, ft, ff, eq_self, if_true, if_false, Bool.false_eq_true, Bool.not_true, Bool.not_false, g1, g2]; done) | omega) only [go_sem, fa53_0, fa53_1, fa53_3, fa53_5, ld26, ld2, RdS.len hiX sl26, RdS.idx hiX sl26, RdS.cellB hiX (Ext.pres eB), RdS.cells hiX, RdS.len hjX sl26, RdS.idx hjX sl26, RdS.cellB hjX (Ext.pres eB), RdS.cells hjX, RdS.len hkX sl26, RdS.idx hkX sl26, RdS.cellB hkX (Ext.pres eB), RdS.cells hkX, BoxAt.cell hb0_0, wrap_id, g1, g2, eq_self, if_true, if_false, Bool.false_eq_true]
    try simp -implicitDefEqProofs (disch := first | decide | assumption | omega) only [go_sem, wrap_id]
    refine CallA.mono (sMeet_ok _ _ X.p X.k X.d X.i _ (RdS.pres hkX (Ext.pres eB)) (RdS.pres hiX (Ext.pres eB)) hC.p hC.kr hC.ir (by omega) (by omega) (by omega)) ?_
    intro v_ h1_29
    rintro ⟨rfl, e1_29⟩
    replace hb0_0 := BoxAt.ext hb0_0 e1_29
    have := Ext.size e1_29
    replace eB := Ext.trans eB e1_29
    try simp -implicitDefEqProofs (disch := first | decide | assumption | (simp (disch := decide) only [slotOf_zero, slotOf_succ, Option.map_some, puts_same, puts_ne, gv_bool, gv_undef, tt, tf, ft, ff, eq_self, if_true, if_false, Bool.false_eq_true, Bool.not_true, Bool.not_false, g1, g2]; done) | omega) only [go_sem, wrap_id, g1, g2, eq_self, if_true, if_false, Bool.false_eq_true]
    refine hK _ _ ?_
    clear hK K
    refine den_stop ?_
    refine ⟨?_, (Ext.trans (Ext.trans e1_8 e1_18) e1_29)⟩
    first | (simp (disch := decide) only [go_sem, g1, g2, eq_self, Bool.true_and, Bool.and_true, Bool.false_and, Bool.and_false, Bool.true_or, Bool.or_true, Bool.false_or, Bool.or_false, if_true, if_false, Bool.false_eq_true]; done) | simp [HasL, sel, puts_at, g1, g2]
   ·try simp -implicitDefEqProofs (disch := first | decide | assumption | (simp (disch := decide) only [slotOf_zero, slotOf_succ, Option.map_some, puts_same, puts_ne, gv_bool, gv_undef, tt, tf, ft, ff, eq_self, if_true, if_false, Bool.false_eq_true, Bool.not_true, Bool.not_false, g1, g2]; done) | omega) only [go_sem, wrap_id, g1, g2, eq_self, if_true, if_false, Bool.false_eq_true]
    refine hK _ _ ?_
    clear hK K
    refine den_stop ?_
    refine ⟨?_, (Ext.trans e1_8 e1_18)⟩
    first | (simp (disch := decide) only [go_sem, g1, g2, eq_self, Bool.true_and, Bool.and_true, Bool.false_and, Bool.and_false, Bool.true_or, Bool.or_true, Bool.false_or, Bool.or_false, if_true, if_false, Bool.false_eq_true]; done) | simp [HasL, sel, puts_at, g1, g2]
  ·try simp -implicitDefEqProofs (disch := first | decide | assumption | (simp (disch := decide) only [slotOf_zero, slotOf_succ, Option.map_some, puts_same, puts_ne, gv_bool, gv_undef, tt, tf, ft, ff, eq_self, if_true, if_false, Bool.false_eq_true, Bool.not_true, Bool.not_false, g1]; done) | omega) only [go_sem, wrap_id, g1, eq_self, if_true, if_false, Bool.false_eq_true]
   try simp -implicitDefEqProofs (disch := first | decide | assumption | (simp (disch := decide) only [slotOf_zero, slotOf_succ, Option.map_some, puts_same, puts_ne, gv_bool, gv_undef, tt, tf, ft, ff, eq_self, if_true, if_false, Bool.false_eq_true, Bool.not_true, Bool.not_false, g1]; done) | omega) only [go_sem, wrap_id, g1, eq_self, if_true, if_false, Bool.false_eq_true]
   refine hK _ _ ?_
   clear hK K
   refine den_stop ?_
   refine ⟨?_, e1_8⟩
   first | (simp (disch := decide) only [go_sem, g1, eq_self, Bool.true_and, Bool.and_true, Bool.false_and, Bool.and_false, Bool.true_or, Bool.or_true, Bool.false_or, Bool.or_false, if_true, if_false, Bool.false_eq_true]; done) | simp [HasL, sel, puts_at, g1]
 intro en3 h4 e5
 replace hb0_0 := BoxAt.ext hb0_0 e5
 have := Ext.size e5
 replace eB := Ext.trans eB e5
 simp (disch := decide) only [go_sem]
 refine den_ret ?_
 simp (disch := decide) only [resP_1, puts_same, puts_ne]
 exact ⟨by first | rfl | trivial, eB⟩

set_option maxRecDepth 100000 in
theorem sCpC_ok (vX : Value) (X : Cp) (h : Heap) (rX : RP h vX X)  : CallA Try.prog 99 #[vX] h fun v' h' => v' = .int .i64 (cpC X) ∧ Ext h h' := by
 obtain ⟨viX, vjX, vkX, rfl, hiX, hjX, hkX⟩ := rX
 have hleiX := RdS.le hiX
 have hlejX := RdS.le hjX
 have hlekX := RdS.le hkX
 refine callA_intro TTok (args := [_]) Try.func99 (by kernel_rfl) rfl 11 rfl (by simp) [.tmp 2] rfl ?_
 simp only [idxs, Nat.reduceAdd]
 refine den_seq ?_
 refine den_region TTok ?_
 intro K hK
 simp -implicitDefEqProofs (disch := first | decide | assumption | omega) only [go_sem, wrap_id]
 refine op_box (cs := #[.int .i64 (X.p), .int .i64 (X.d), .int .i64 (X.e), viX, vjX, vkX]) rfl ?_
 intro h0_0 e0_0 hb0_0 z0_0
 have := Ext.size e0_0
 have eB := e0_0
 have hfhb0_0 : Fresh h.size [h.size] := Fresh.one _
 have hlhb0_0 := one_lt (show h.size < h0_0.size by omega)
 try simp -implicitDefEqProofs (disch := first | decide | assumption | omega) only [go_sem, wrap_id]
 refine hK _ _ ?_
 clear hK K
 refine den_seq ?_
 refine den_block ?_
 refine den_seq ?_
 refine den_region TTok ?_
 intro K hK
 simp -implicitDefEqProofs (disch := first | decide | assumption | omega) only [go_sem, ld53, RdS.len hiX sl26, RdS.idx hiX sl26, RdS.cellB hiX (Ext.pres eB), RdS.cells hiX, RdS.len hjX sl26, RdS.idx hjX sl26, RdS.cellB hjX (Ext.pres eB), RdS.cells hjX, RdS.len hkX sl26, RdS.idx hkX sl26, RdS.cellB hkX (Ext.pres eB), RdS.cells hkX, BoxAt.cell hb0_0, wrap_id]
 try simp -implicitDefEqProofs (disch := first | decide | assumption | omega) only [go_sem, wrap_id]
 refine CallA.mono (sIsCp_ok _ X _ ⟨_, _, _, rfl, (RdS.pres hiX (Ext.pres eB)), (RdS.pres hjX (Ext.pres eB)), (RdS.pres hkX (Ext.pres eB))⟩ ) ?_
 intro v_ h1_1
 rintro ⟨rfl, e1_1⟩
 replace hb0_0 := BoxAt.ext hb0_0 e1_1
 have := Ext.size e1_1
 replace eB := Ext.trans eB e1_1
 try simp -implicitDefEqProofs (disch := first | decide | assumption | omega) only [go_sem, wrap_id]
 refine hK _ _ ?_
 clear hK K
 refine den_cond rfl (fun c0 => ?_) (fun c0 => ?_)
 ·try simp only [decide_eq_true_eq, decide_eq_false_iff_not, beq_iff_eq, beq_eq_false_iff_ne, bne_iff_ne, ne_eq, Bool.not_eq_true', Bool.not_eq_false', Bool.and_eq_true, Bool.or_eq_true, bne_eq_false_iff_eq, Bool.not_eq_true, Bool.not_eq_false] at c0
  refine den_seq ?_
  refine den_region TTok ?_
  intro K hK
  simp -implicitDefEqProofs (disch := first | decide | assumption | omega) only [go_sem, wrap_id]
  refine hK _ _ ?_
  clear hK K
  refine den_ret ?_
  simp (disch := decide) only [resP_1, puts_same, puts_ne]
  exact ⟨vint (by rw [cpC, if_neg (by rw [c0]; decide)]), eB⟩
 ·try simp only [decide_eq_true_eq, decide_eq_false_iff_not, beq_iff_eq, beq_eq_false_iff_ne, bne_iff_ne, ne_eq, Bool.not_eq_true', Bool.not_eq_false', Bool.and_eq_true, Bool.or_eq_true, bne_eq_false_iff_eq, Bool.not_eq_true, Bool.not_eq_false] at c0
  have hC := isCp_t.1 c0
  refine den_seq ?_
  refine den_region TTok ?_
  intro K hK
  simp -implicitDefEqProofs (disch := first | decide | assumption | omega) only [go_sem, ld53, RdS.len hiX sl26, RdS.idx hiX sl26, RdS.cellB hiX (Ext.pres eB), RdS.cells hiX, RdS.len hjX sl26, RdS.idx hjX sl26, RdS.cellB hjX (Ext.pres eB), RdS.cells hjX, RdS.len hkX sl26, RdS.idx hkX sl26, RdS.cellB hkX (Ext.pres eB), RdS.cells hkX, BoxAt.cell hb0_0, wrap_id]
  try simp -implicitDefEqProofs (disch := first | decide | assumption | omega) only [go_sem, wrap_id]
  refine CallA.mono (sEx2_ok _ X _ ⟨_, _, _, rfl, (RdS.pres hiX (Ext.pres eB)), (RdS.pres hjX (Ext.pres eB)), (RdS.pres hkX (Ext.pres eB))⟩ hC) ?_
  intro v_ h3_1
  rintro ⟨rfl, e3_1⟩
  replace hb0_0 := BoxAt.ext hb0_0 e3_1
  have := Ext.size e3_1
  replace eB := Ext.trans eB e3_1
  try simp -implicitDefEqProofs (disch := first | decide | assumption | omega) only [go_sem, wrap_id]
  refine hK _ _ ?_
  clear hK K
  refine den_cond rfl (fun c1 => ?_) (fun c1 => ?_)
  ·try simp only [decide_eq_true_eq, decide_eq_false_iff_not, beq_iff_eq, beq_eq_false_iff_ne, bne_iff_ne, ne_eq, Bool.not_eq_true', Bool.not_eq_false', Bool.and_eq_true, Bool.or_eq_true, bne_eq_false_iff_eq, Bool.not_eq_true, Bool.not_eq_false] at c1
   refine den_seq ?_
   refine den_region TTok ?_
   intro K hK
   simp -implicitDefEqProofs (disch := first | decide | assumption | omega) only [go_sem, wrap_id]
   refine hK _ _ ?_
   clear hK K
   refine den_ret ?_
   simp (disch := decide) only [resP_1, puts_same, puts_ne]
   exact ⟨vint (by rw [cpC, if_pos c0, if_neg (by rw [c1]; decide)]), eB⟩
  ·try simp only [decide_eq_true_eq, decide_eq_false_iff_not, beq_iff_eq, beq_eq_false_iff_ne, bne_iff_ne, ne_eq, Bool.not_eq_true', Bool.not_eq_false', Bool.and_eq_true, Bool.or_eq_true, bne_eq_false_iff_eq, Bool.not_eq_true, Bool.not_eq_false] at c1
   refine den_skip ?_
   refine den_blk ?_
   refine den_seq ?_
   refine den_region TTok ?_
   intro K hK
   simp -implicitDefEqProofs (disch := first | decide | assumption | omega) only [go_sem, wrap_id]
   refine hK _ _ ?_
   clear hK K
   refine den_ret ?_
   simp (disch := decide) only [resP_1, puts_same, puts_ne]
   exact ⟨vint (by rw [cpC, if_pos c0, if_pos c1]), eB⟩
end Go.Proofs.Ytjjjgllbocgkbaa
