/-
  What the statement FnExactLimitNumber uses of the walks, part 4.
  Conditions: each theorem's own.
-/
import Derived.Test.YtjjjgllbocgkbaaG16
import Derived.Test.YtjjjgllbocgkbaaG17
import Derived.Test.YtjjjgllbocgkbaaG14
import Derived.Test.YtjjjgllbocgkbaaG13
import Derived.Test.YtjjjgllbocgkbaaG15
import Derived.Test.YtjjjgllbocgkbaaG18
import Derived.Test.YtjjjgllbocgkbaaG19
import Derived.Test.YtjjjgllbocgkbaaZLimitNumber1
import Derived.Test.YtjjjgllbocgkbaaZLimitNumber2
import Derived.Test.YtjjjgllbocgkbaaZLimitNumber3
set_option linter.unusedVariables false
set_option linter.unusedSimpArgs false
namespace Go.Proofs.Ytjjjgllbocgkbaa
open Go
/-- The first elements of a slice that is read. -/
theorem RdS.takeV {α : Type} {E : Heap → Value → α → Prop} {h : Heap} {v : Value} {xs : List α} {t e : TypeId} {k : IntKind} (hv : RdS E h v xs) (ht : SlT TT t e) {hi : Int} (h0 : 0 ≤ hi) (h1 : hi ≤ xs.length) : ∃ v', sliceV TT t v none (some (.int k hi)) none = some v' ∧ RdS E h v' (xs.take hi.toNat) := by
 obtain ⟨A, c, rfl, hA, hc, hm, hr⟩ := hv
 obtain ⟨i, j, e1, e2, e3, e4⟩ := ht.out
 have hl : (xs.take hi.toNat).length = hi.toNat := by simp; omega
 have hadd : A.map (fun x : Addr => x.add (0 * j.size)) = A := by
  cases A with
  | none => rfl
  | some a => simp [addr_zero]
 refine ⟨.slice A hi.toNat c, ?_, A, c, by rw [hl], ?_, by rw [hl]; omega, by omega, fun q hq => ?_⟩
 ·simp only [sliceV, e1, Option.bind_some, e2, e3, bndsV, bndV]
  rw [if_pos ⟨h0, by omega⟩]
  simp only [Option.bind_some, Option.map_some, Nat.sub_zero]
  rw [hadd]
  simp
 ·rcases hA with hA | hA
  ·exact .inl hA
  ·right; rw [hl]; omega
 ·rw [hl] at hq
  obtain ⟨u, hu, hE⟩ := hr q (by omega)
  exact ⟨u, by cases A <;> exact hu, by rw [List.getElem_take]; exact hE⟩
/-- A row that lies in other blocks, and reads the same wherever these are as they were. -/
def ESt (h0 : Heap) (fE : List Nat) (_ : Heap) (u : Value) (x : List Int) (fp : List Nat) : Prop := fp = [] ∧ (u.oneCell' = true ∧ u.cells = #[u]) ∧ ∀ h' : Heap, (∀ b ∈ fE, h'[b]? = h0[b]?) → R1 h' u x
instance {h0 : Heap} {fE : List Nat} : Own (ESt h0 fE) := ⟨fun _ h => h, (fun h b hb => by rw [h.1] at hb; cases hb), (fun h => h.2.1)⟩
abbrev O2S (h0 : Heap) (fE : List Nat) : Heap → Value → List (List Int) → List Nat → Prop := OS 22 (ESt h0 fE)
theorem O2S.nil {h0 : Heap} {fE : List Nat} {h : Heap} {v : Value} {fp : List Nat} (ho : O2 h v [] fp) : O2S h0 fE h v [] fp := by
 rcases ho with ⟨h1, _, h3⟩ | ⟨b, c, cur, fps, rfl, r⟩
 ·exact .inl ⟨h1, rfl, h3⟩
 ·exact .inr ⟨b, c, cur, fps, rfl, ⟨r.val, r.box, r.size, r.max, r.le, r.len, fun j hj => by simp at hj⟩⟩
theorem O2S.rd {h0 : Heap} {fE : List Nat} {h : Heap} {v : Value} {xs : List (List Int)} {fp : List Nat} (ho : O2S h0 fE h v xs fp) (hag : ∀ b ∈ fE, h[b]? = h0[b]?) : R2 h v xs := by
 rcases ho with ⟨rfl, rfl, _⟩ | ⟨b, c, cur, fps, _, r⟩
 ·exact ⟨none, 0, rfl, .inr rfl, by simp, by omega, fun j hj => by simp at hj⟩
 ·refine ⟨some ⟨b, 0, none⟩, c, r.val, .inl rfl, r.le, r.max, fun j hj => ?_⟩
  obtain ⟨u, f, h1, _, h4⟩ := r.el j hj
  refine ⟨u, ?_, h4.2.2 h hag⟩
  rw [r.val]
  simp only [sA]
  rw [addr_add, r.box.cell, Nat.zero_add, h1]
theorem RdS.oneC {α : Type} {E : Heap → Value → α → Prop} {h : Heap} {v : Value} {xs : List α} (hv : RdS E h v xs) : v.oneCell' = true ∧ v.cells = #[v] := ⟨RdS.one hv, RdS.cells hv⟩
theorem ES.mk {h0 h : Heap} {vE : Value} {E : List (List Int)} {fE : List Nat} (hE : O2 h vE E fE) (hn : fE.Nodup) (hag : ∀ b ∈ fE, h[b]? = h0[b]?) {i : Nat} (hi : i < E.length) {k : IntKind} {lo : Int} (hl0 : 0 ≤ lo) (hl1 : lo ≤ (E.getD i default).length) {u : Value} (hs : sliceV TT 22 (rowV h vE i) (some (.int k lo)) none none = some u) {H : Heap} : ESt h0 fE H u ((E.getD i default).drop lo.toNat) [] := by
 obtain ⟨f, hO, hsub, _, _⟩ := OS.elem hE hn i hi
 have key : ∀ h' : Heap, (∀ b ∈ fE, h'[b]? = h0[b]?) → R1 h' u ((E.getD i default).drop lo.toNat) := fun h' hg => by
  have hO' : O1 h' (rowV h vE i) (E.getD i default) f := Own.loc (fun b hb => by rw [hg b (hsub b hb), hag b (hsub b hb)]) hO
  obtain ⟨v', e1, e2⟩ := RdS.dropV (k := k) (OS.rd hO') sl22 hl0 hl1
  rw [hs] at e1
  injection e1 with e1
  rw [e1]; exact e2
 exact ⟨rfl, RdS.oneC (key h hag), key⟩
/-- Rows with the units behind them. -/
theorem set_unit {r : List Int} {w m i : Nat} (hr : r.length = w) (hi : i < m) : (r ++ List.replicate m 0).set (w + i) 1 = r ++ unitP m i := by
 rw [List.set_append_right _ _ (by omega), hr, Nat.add_sub_cancel_left]; rfl
noncomputable def kerQ (p : Int) (rows : List (List Int)) : List (List Int) := kerP p (wd rows) rows
theorem longP_step {rows : List (List Int)} {k : Nat} (hk : k < rows.length) : ((List.range k).map fun i => rows.getD i default ++ unitP rows.length i) ++ [rows.getD k default ++ unitP rows.length k] = (List.range (k + 1)).map fun i => rows.getD i default ++ unitP rows.length i := range_step (fun i => rows.getD i default ++ unitP rows.length i) k
theorem fm_yes {α β : Type} {f : α → Bool} {g : α → β} {xs : List α} {k : Nat} {d : α} (hk : k < xs.length) (h : f (xs.getD k d) = true) : ((xs.take k).filter f).map g ++ [g (xs.getD k d)] = ((xs.take (k + 1)).filter f).map g := by
 have e : xs.getD k d = xs[k] := by rw [List.getD_eq_getElem?_getD, List.getElem?_eq_getElem hk]; rfl
 rw [e] at h ⊢
 rw [List.take_succ_eq_append_getElem hk, List.filter_append, List.filter_cons, if_pos h, List.map_append]; rfl
theorem fm_no {α β : Type} {f : α → Bool} {g : α → β} {xs : List α} {k : Nat} {d : α} (hk : k < xs.length) (h : f (xs.getD k d) = false) : ((xs.take k).filter f).map g = ((xs.take (k + 1)).filter f).map g := by
 have e : xs.getD k d = xs[k] := by rw [List.getD_eq_getElem?_getD, List.getElem?_eq_getElem hk]; rfl
 rw [e] at h
 rw [List.take_succ_eq_append_getElem hk, List.filter_append, List.filter_cons, if_neg (by rw [h]; decide), List.filter_nil, List.append_nil]
theorem fm_len {α β : Type} {f : α → Bool} {g : α → β} {xs : List α} {k : Nat} (hk : k ≤ xs.length) : (((xs.take k).filter f).map g).length ≤ xs.length := by
 rw [List.length_map]
 have := List.length_filter_le f (xs.take k)
 rw [List.length_take] at this; omega
theorem zero_take {W w : Nat} {p : Int} {E : List (List Int)} {l : Nat → Nat} (r : Rr p W E l) {i : Nat} (hi : i < E.length) : (!(((E.getD i default).take w).any fun x => x != 0)) = decide ((w : Int) ≤ leadP (E.getD i default)) := by
 have hl := r.lead hi
 have hlen := r.len i hi
 have hlt := r.lt i hi
 rw [hl]
 by_cases h : w ≤ l i
 ·have : (((E.getD i default).take w).any fun x => x != 0) = false := by
   rw [List.any_eq_false]
   intro x hx
   obtain ⟨j, hj, rfl⟩ := List.getElem_of_mem hx
   have hj' : j < w := by simp at hj; omega
   have := r.zb i j hi (by omega)
   unfold g2 at this
   rw [List.getD_eq_getElem?_getD (l := E.getD i default), List.getElem?_eq_getElem (by omega)] at this
   rw [List.getElem_take]
   simpa using this
  rw [this]; simp; omega
 ·have : (((E.getD i default).take w).any fun x => x != 0) = true := by
   rw [List.any_eq_true]
   have h1 := r.one i hi
   unfold g2 at h1
   rw [List.getD_eq_getElem?_getD (l := E.getD i default), List.getElem?_eq_getElem (by omega)] at h1
   refine ⟨(E.getD i default)[l i], ?_, by simp only [Option.getD_some] at h1; rw [h1]; decide⟩
   exact List.mem_take_iff_getElem.2 ⟨l i, by omega, rfl⟩
  rw [this]; simp; omega
theorem kerP_tbl {p : Int} {w : Nat} (hP : isP p = true) {rows : List (List Int)} (h : ∀ r ∈ rows, r.length = w ∧ Bnd p r) : ∀ r ∈ kerP p w rows, r.length = rows.length ∧ Bnd p r := fun r hr => by
 obtain ⟨l, hR⟩ := kerP_rr hP h
 obtain ⟨i, hi, rfl⟩ := List.getElem_of_mem hr
 have a := hR.len i hi
 have b := hR.bnd i hi
 rw [List.getD_eq_getElem?_getD, List.getElem?_eq_getElem hi] at a b
 exact ⟨a, b⟩
theorem kerQ_w {p : Int} {w : Nat} {rows : List (List Int)} (h : ∀ r ∈ rows, r.length = w ∧ Bnd p r) (hn : rows ≠ []) : kerQ p rows = kerP p w rows := by rw [kerQ, wd_ok h hn]
theorem kerQ_nil {p : Int} (hp : 1 < p) : kerQ p [] = [] := by
 rw [kerQ, kerP, longP]
 simp only [List.length_nil, List.range_zero, List.map_nil]
 rw [ech_nil hp]; rfl
theorem len_longP (rows : List (List Int)) : (longP rows).length = rows.length := by simp [longP]
theorem ech_len_le {p : Int} {w : Nat} (hP : isP p = true) {rows : List (List Int)} (h : ∀ r ∈ rows, r.length = w ∧ Bnd p r) : (ech p rows).length ≤ w := by
 obtain ⟨⟨l, r⟩, _⟩ := ech_red hP h
 exact r.le_w

set_option maxRecDepth 100000 in
theorem iKernel_ok (vR : Value) (p : Int) (R : List (List Int)) (h : Heap) (rR : R2 h vR R) {w : Nat} (hP : isP p = true) (hT : ∀ r ∈ R, r.length = w ∧ Bnd p r) (hw : w ≤ 500) (hl : R.length ≤ 500) : CallA Try.prog 151 #[.int .i64 p, vR] h fun v' h' => ∃ w0 f0, v' = w0 ∧ O2 h' w0 (kerQ p R) f0 ∧ Fresh h.size f0 ∧ Ext h h' := by
 have hleR := RdS.le rR
 have hp := isP_two hP
 have hLT := longP_tbl hp.1 hT
 have hEl := ech_len_le hP hLT
 obtain ⟨⟨l, hrE⟩, _⟩ := ech_red hP hLT
 have hll := len_longP R
 refine callA_intro TTok (args := [_, _]) Try.func151 (by kernel_rfl) rfl 67 rfl (by simp) [.tmp 4] rfl ?_
 simp only [idxs, Nat.reduceAdd]
 refine den_seq ?_
 refine den_region TTok ?_
 intro K hK
 simp -implicitDefEqProofs (disch := first | decide | assumption | omega) only [go_sem, RdS.len rR sl26, RdS.idx rR sl26, RdS.cellB rR (HPres.refl _), RdS.cells rR, wrap_id, Int.toNat_zero]
 refine hK _ _ ?_
 clear hK K
 refine den_seq ?_
 refine den_region TTok ?_
 intro K hK
 simp -implicitDefEqProofs (disch := first | decide | assumption | omega) only [go_sem, RdS.len rR sl26, RdS.idx rR sl26, RdS.cellB rR (HPres.refl _), RdS.cells rR, wrap_id, Int.toNat_zero]
 refine hK _ _ ?_
 clear hK K
 refine den_seq ?_
 refine den_seq ?_
 refine den_region TTok ?_
 intro K hK
 simp -implicitDefEqProofs (disch := first | decide | assumption | omega) only [go_sem, RdS.len rR sl26, RdS.idx rR sl26, RdS.cellB rR (HPres.refl _), RdS.cells rR, wrap_id, Int.toNat_zero]
 refine hK _ _ ?_
 clear hK K
 refine den_cond rfl (fun c0 => ?_) (fun c0 => ?_)
 ·try simp only [decide_eq_true_eq, decide_eq_false_iff_not, beq_iff_eq, beq_eq_false_iff_ne, bne_iff_ne, ne_eq, Bool.not_eq_true', Bool.not_eq_false', Bool.and_eq_true, Bool.or_eq_true, bne_eq_false_iff_eq] at c0
  refine den_seq ?_
  refine den_region TTok ?_
  intro K hK
  simp -implicitDefEqProofs (disch := first | decide | assumption | omega) only [go_sem, RdS.len rR sl26, RdS.idx rR sl26, RdS.cellB rR (HPres.refl _), RdS.cells rR, wrap_id, Int.toNat_zero]
  refine hK _ _ ?_
  clear hK K
  refine den_ret ?_
  simp (disch := decide) only [resP_1, puts_same, puts_ne]
  have hz : R = [] := List.length_eq_zero_iff.1 (by omega)
  subst hz
  rw [kerQ_nil hp.1]
  exact ⟨.slice none 0 0, [], rfl, OS.nil, Fresh.nil _, (Ext.refl _)⟩
 ·try simp only [decide_eq_true_eq, decide_eq_false_iff_not, beq_iff_eq, beq_eq_false_iff_ne, bne_iff_ne, ne_eq, Bool.not_eq_true', Bool.not_eq_false', Bool.and_eq_true, Bool.or_eq_true, bne_eq_false_iff_eq] at c0
  refine den_skip ?_
  refine den_seq ?_
  have hR0 : R ≠ [] := fun e_ => by subst e_; simp at c0
  have hwz : (R.getD 0 default).length = w := (hT _ (getD_mem (show 0 < R.length by omega))).1
  have hz4 := RdS.cellN rR 0 (by omega)
  rw [addr_zero] at hz4
  refine den_region TTok ?_
  intro K hK
  have hr1 := RdS.rowN rR 0 (by omega)
  have hlhr1 := RdS.le hr1
  simp -implicitDefEqProofs (disch := first | decide | assumption | omega) only [go_sem, ld22, RdS.len rR sl26, RdS.idx rR sl26, RdS.cellB rR (HPres.refl _), RdS.cells rR, RdS.len hr1 sl22, RdS.idx hr1 sl22, R1.intB hr1 (HPres.refl _), RdS.cells hr1, wrap_id, Int.toNat_zero, hz4, hwz]
  refine op_bs0 sz26 O1 ?_
  intro v4_4 h4_4 ho4_4 e4_4
  have := Ext.size e4_4
  have eB := e4_4
  have hfho4_4 : Fresh h.size [h.size] := Fresh.one _
  have hlho4_4 := OS.lt ho4_4
  try simp -implicitDefEqProofs (disch := first | decide | assumption | omega) only [go_sem, RdS.len rR sl26, RdS.idx rR sl26, RdS.cellB rR (Ext.pres eB), RdS.cells rR, RdS.len hr1 sl22, RdS.idx hr1 sl22, R1.intB hr1 (Ext.pres eB), RdS.cells hr1, RdS.len (OS.rd ho4_4) sl26, RdS.idx (OS.rd ho4_4) sl26, RdS.cellN (OS.rd ho4_4), RdS.cells (OS.rd ho4_4), wrap_id, Int.toNat_zero, hz4, hwz]
  refine hK _ _ ?_
  clear hK K
  refine den_seq ?_
  refine den_seq ?_
  refine den_region TTok ?_
  intro K hK
  simp -implicitDefEqProofs (disch := first | decide | assumption | omega) only [go_sem, RdS.len rR sl26, RdS.idx rR sl26, RdS.cellB rR (Ext.pres eB), RdS.cells rR, RdS.len hr1 sl22, RdS.idx hr1 sl22, R1.intB hr1 (Ext.pres eB), RdS.cells hr1, RdS.len (OS.rd ho4_4) sl26, RdS.idx (OS.rd ho4_4) sl26, RdS.cellN (OS.rd ho4_4), RdS.cells (OS.rd ho4_4), wrap_id, Int.toNat_zero]
  refine hK _ _ ?_
  clear hK K
  refine den_block ?_
  refine den_sel [7, 25, 0, 5, 6, 23, 24] ?_
  intro env_2
  simp only [go_sem]
  refine den_loopS (σ := Nat × Value × List Nat) (fun st_ => [(7, st_.2.1), (25, .int .i64 (st_.1 : Int))]) (fun st_ H => (st_.1 ≤ R.length) ∧ (O2 H st_.2.1 ((List.range st_.1).map fun i => R.getD i default ++ unitP R.length i) st_.2.2) ∧ (Fresh (h.size) st_.2.2) ∧ (Sub [h.size] h4_4.size st_.2.2) ∧ (Chg [h.size] h4_4 H)) (fun st_ => R.length - st_.1) (0, v4_4, [h.size]) ?_ ?_
  ·exact ⟨by first | (simp; done) | (dsimp only; omega) | (simp; omega), by simpa using ho4_4, hfho4_4, Sub.refl, Chg.refl _ _⟩
  ·rintro ⟨k, vhL, fphL⟩ h5 ee4 ⟨hi0, hL, hfhL, sbhL, cL3⟩
   dsimp only at hi0 hL hfhL sbhL cL3
   have := cL3.size
   replace eB := Ext.then eB cL3 (ge_of hfho4_4 (by omega))
   have hlhL := OS.lt hL
   simp only [List.cons_append, List.nil_append]
   have hlo_ : ((List.range k).map fun i => R.getD i default ++ unitP R.length i).length = k := by simp
   refine den_seq ?_
   refine den_region TTok ?_
   intro K hK
   simp -implicitDefEqProofs (disch := first | decide | assumption | omega) only [go_sem, RdS.len rR sl26, RdS.idx rR sl26, RdS.cellB rR (Ext.pres eB), RdS.cells rR, RdS.len hr1 sl22, RdS.idx hr1 sl22, R1.intB hr1 (Ext.pres eB), RdS.cells hr1, RdS.len (OS.rd hL) sl26, RdS.idx (OS.rd hL) sl26, RdS.cellN (OS.rd hL), RdS.cells (OS.rd hL), wrap_id, Int.toNat_zero]
   refine hK _ _ ?_
   clear hK K
   refine den_seq ?_
   refine den_cond rfl (fun c1 => ?_) (fun c1 => ?_)
   ·try simp only [decide_eq_true_eq, decide_eq_false_iff_not, beq_iff_eq, beq_eq_false_iff_ne, bne_iff_ne, ne_eq, Bool.not_eq_true', Bool.not_eq_false', Bool.and_eq_true, Bool.or_eq_true, bne_eq_false_iff_eq] at c1
    refine den_skip ?_
    refine den_seq ?_
    refine den_block ?_
    refine den_seq ?_
    refine den_region TTok ?_
    intro K hK
    have hr6 := RdS.rowN rR k (by omega)
    have hlhr6 := RdS.le hr6
    simp -implicitDefEqProofs (disch := first | decide | assumption | omega) only [go_sem, ld22, RdS.len rR sl26, RdS.idx rR sl26, RdS.cellB rR (Ext.pres eB), RdS.cells rR, RdS.len hr1 sl22, RdS.idx hr1 sl22, R1.intB hr1 (Ext.pres eB), RdS.cells hr1, RdS.len hr6 sl22, RdS.idx hr6 sl22, R1.intB hr6 (Ext.pres eB), RdS.cells hr6, RdS.len (OS.rd hL) sl26, RdS.idx (OS.rd hL) sl26, RdS.cellN (OS.rd hL), RdS.cells (OS.rd hL), wrap_id, Int.toNat_zero]
    refine hK _ _ ?_
    clear hK K
    refine den_seq ?_
    have hRk := hT _ (getD_mem (show k < R.length by omega))
    refine den_region TTok ?_
    intro K hK
    simp -implicitDefEqProofs (disch := first | decide | assumption | omega) only [go_sem, RdS.len rR sl26, RdS.idx rR sl26, RdS.cellB rR (Ext.pres eB), RdS.cells rR, RdS.len hr1 sl22, RdS.idx hr1 sl22, R1.intB hr1 (Ext.pres eB), RdS.cells hr1, RdS.len hr6 sl22, RdS.idx hr6 sl22, R1.intB hr6 (Ext.pres eB), RdS.cells hr6, RdS.len (OS.rd hL) sl26, RdS.idx (OS.rd hL) sl26, RdS.cellN (OS.rd hL), RdS.cells (OS.rd hL), wrap_id, Int.toNat_zero]
    try simp -implicitDefEqProofs (disch := first | decide | assumption | omega) only [go_sem, RdS.len rR sl26, RdS.idx rR sl26, RdS.cellB rR (Ext.pres eB), RdS.cells rR, RdS.len hr1 sl22, RdS.idx hr1 sl22, R1.intB hr1 (Ext.pres eB), RdS.cells hr1, RdS.len hr6 sl22, RdS.idx hr6 sl22, R1.intB hr6 (Ext.pres eB), RdS.cells hr6, RdS.len (OS.rd hL) sl26, RdS.idx (OS.rd hL) sl26, RdS.cellN (OS.rd hL), RdS.cells (OS.rd hL), wrap_id, Int.toNat_zero]
    refine CallA.mono (clone1_ok _ ((R).getD k default) _ (RdS.pres hr6 (Ext.pres eB)) (by omega)) ?_
    intro vw8_1_0 h8_1
    rintro ⟨zvw8_1_0, fw8_1_0, rfl, how8_1_0, hfw8_1_0, e8_1⟩
    replace hL := OS.ext hL e8_1
    have := Ext.size e8_1
    replace eB := Ext.trans eB e8_1
    replace cL3 := Chg.stepE cL3 e8_1
    have hlhow8_1_0 := OS.lt how8_1_0
    try simp -implicitDefEqProofs (disch := first | decide | assumption | omega) only [go_sem, RdS.len rR sl26, RdS.idx rR sl26, RdS.cellB rR (Ext.pres eB), RdS.cells rR, RdS.len hr1 sl22, RdS.idx hr1 sl22, R1.intB hr1 (Ext.pres eB), RdS.cells hr1, RdS.len hr6 sl22, RdS.idx hr6 sl22, R1.intB hr6 (Ext.pres eB), RdS.cells hr6, RdS.len (OS.rd hL) sl26, RdS.idx (OS.rd hL) sl26, RdS.cellN (OS.rd hL), RdS.cells (OS.rd hL), RdS.len (OS.rd how8_1_0) sl22, RdS.idx (OS.rd how8_1_0) sl22, R1.intN (OS.rd how8_1_0), RdS.cells (OS.rd how8_1_0), wrap_id, Int.toNat_zero]
    refine op_appendZ (by kernel_rfl) how8_1_0 rfl (by omega) (by first | omega | (simp; omega)) rfl ?_
    intro v8_3 h8_3 fp8_3 ho8_3 hn8_3 hs8_3 c8_3
    have hsz8_3 := c8_3.size
    have hfho8_3 : Fresh h5.size fp8_3 := Fresh.appd hfw8_1_0 (Fresh.nil h8_1.size) (by omega) (by omega) hn8_3 hs8_3
    replace hL := OS.chg hL c8_3 (apart_lt hlhL hfw8_1_0 (by omega))
    have := c8_3.size
    replace eB := Ext.then eB c8_3 (ge_of hfw8_1_0 (by omega))
    replace cL3 := Chg.step cL3 c8_3 (Sub.fresh hfw8_1_0 (by omega))
    have hlho8_3 := OS.lt ho8_3
    try simp -implicitDefEqProofs (disch := first | decide | assumption | omega) only [go_sem, RdS.len rR sl26, RdS.idx rR sl26, RdS.cellB rR (Ext.pres eB), RdS.cells rR, RdS.len hr1 sl22, RdS.idx hr1 sl22, R1.intB hr1 (Ext.pres eB), RdS.cells hr1, RdS.len hr6 sl22, RdS.idx hr6 sl22, R1.intB hr6 (Ext.pres eB), RdS.cells hr6, RdS.len (OS.rd hL) sl26, RdS.idx (OS.rd hL) sl26, RdS.cellN (OS.rd hL), RdS.cells (OS.rd hL), RdS.len (OS.rd ho8_3) sl22, RdS.idx (OS.rd ho8_3) sl22, R1.intN (OS.rd ho8_3), RdS.cells (OS.rd ho8_3), wrap_id, Int.toNat_zero]
    refine hK _ _ ?_
    clear hK K
    refine den_seq ?_
    have hl9 : (R.getD k default ++ List.replicate ((R.length : Int)).toNat 0).length = w + R.length := by rw [List.length_append, hRk.1, List.length_replicate, Int.toNat_natCast]
    refine den_region TTok ?_
    intro K hK
    simp -implicitDefEqProofs (disch := first | decide | assumption | omega) only [go_sem, RdS.len rR sl26, RdS.idx rR sl26, RdS.cellB rR (Ext.pres eB), RdS.cells rR, RdS.len hr1 sl22, RdS.idx hr1 sl22, R1.intB hr1 (Ext.pres eB), RdS.cells hr1, RdS.len hr6 sl22, RdS.idx hr6 sl22, R1.intB hr6 (Ext.pres eB), RdS.cells hr6, RdS.len (OS.rd hL) sl26, RdS.idx (OS.rd hL) sl26, RdS.cellN (OS.rd hL), RdS.cells (OS.rd hL), RdS.len (OS.rd ho8_3) sl22, RdS.idx (OS.rd ho8_3) sl22, R1.intN (OS.rd ho8_3), RdS.cells (OS.rd ho8_3), wrap_id, Int.toNat_zero]
    refine op_store1 (j := (((w : Int) + (k : Int))).toNat) st2 ho8_3 hfho8_3.nodup (by first | omega | (simp; omega)) rfl rfl ?_
    intro h9_5 ho9_5 c9_5
    have hsz9_5 := c9_5.size
    replace hL := OS.chg hL c9_5 (apart_lt hlhL hfho8_3 (by omega))
    have := c9_5.size
    replace eB := Ext.then eB c9_5 (ge_of hfho8_3 (by omega))
    replace cL3 := Chg.step cL3 c9_5 (Sub.fresh hfho8_3 (by omega))
    have hlho9_5 := hlho8_3
    have hlenho9_5 : ((((R).getD k default) ++ List.replicate (((R).length : Int)).toNat 0).set ((((w : Int) + (k : Int))).toNat) (1 : Int) : List Int).length = (((R).getD k default) ++ List.replicate (((R).length : Int)).toNat 0 : List Int).length := List.length_set
    rw [show ((w : Int) + (k : Int)).toNat = w + k by omega, Int.toNat_natCast, set_unit hRk.1 (by omega)] at ho9_5
    try simp -implicitDefEqProofs (disch := first | decide | assumption | omega) only [go_sem, RdS.len rR sl26, RdS.idx rR sl26, RdS.cellB rR (Ext.pres eB), RdS.cells rR, RdS.len hr1 sl22, RdS.idx hr1 sl22, R1.intB hr1 (Ext.pres eB), RdS.cells hr1, RdS.len hr6 sl22, RdS.idx hr6 sl22, R1.intB hr6 (Ext.pres eB), RdS.cells hr6, RdS.len (OS.rd hL) sl26, RdS.idx (OS.rd hL) sl26, RdS.cellN (OS.rd hL), RdS.cells (OS.rd hL), RdS.len (OS.rd ho9_5) sl22, RdS.idx (OS.rd ho9_5) sl22, R1.intN (OS.rd ho9_5), RdS.cells (OS.rd ho9_5), wrap_id, Int.toNat_zero]
    refine hK _ _ ?_
    clear hK K
    refine den_region TTok ?_
    intro K hK
    simp -implicitDefEqProofs (disch := first | decide | assumption | omega) only [go_sem, RdS.len rR sl26, RdS.idx rR sl26, RdS.cellB rR (Ext.pres eB), RdS.cells rR, RdS.len hr1 sl22, RdS.idx hr1 sl22, R1.intB hr1 (Ext.pres eB), RdS.cells hr1, RdS.len hr6 sl22, RdS.idx hr6 sl22, R1.intB hr6 (Ext.pres eB), RdS.cells hr6, RdS.len (OS.rd hL) sl26, RdS.idx (OS.rd hL) sl26, RdS.cellN (OS.rd hL), RdS.cells (OS.rd hL), RdS.len (OS.rd ho9_5) sl22, RdS.idx (OS.rd ho9_5) sl22, R1.intN (OS.rd ho9_5), RdS.cells (OS.rd ho9_5), wrap_id, Int.toNat_zero]
    refine op_bs1 sz26 rfl (OS.one ho9_5).2 ?_
    try simp -implicitDefEqProofs (disch := first | decide | assumption | omega) only [go_sem, RdS.len rR sl26, RdS.idx rR sl26, RdS.cellB rR (Ext.pres eB), RdS.cells rR, RdS.len hr1 sl22, RdS.idx hr1 sl22, R1.intB hr1 (Ext.pres eB), RdS.cells hr1, RdS.len hr6 sl22, RdS.idx hr6 sl22, R1.intB hr6 (Ext.pres eB), RdS.cells hr6, RdS.len (OS.rd hL) sl26, RdS.idx (OS.rd hL) sl26, RdS.cellN (OS.rd hL), RdS.cells (OS.rd hL), RdS.len (OS.rd ho9_5) sl22, RdS.idx (OS.rd ho9_5) sl22, R1.intN (OS.rd ho9_5), RdS.cells (OS.rd ho9_5), wrap_id, Int.toNat_zero]
    refine op_append1 sz26 hL hfhL.nodup ho9_5 hfho8_3.nodup (apart_lt hlhL hfho8_3 (by omega)) (by first | omega | (simp; omega)) rfl rfl ?_
    intro v10_3 h10_3 fp10_3 ho10_3 hn10_3 hs10_3 c10_3
    have hsz10_3 := c10_3.size
    have hfho10_3 : Fresh h.size fp10_3 := Fresh.appd hfhL hfho8_3 (by omega) (by omega) hn10_3 hs10_3
    have sb7 : Sub [h.size] h4_4.size fp10_3 := Sub.grow sbhL (Sub.fresh hfho8_3 (by omega)) (by omega) hs10_3
    have := c10_3.size
    replace eB := Ext.then eB c10_3 (ge_of hfhL (by omega))
    replace cL3 := Chg.step cL3 c10_3 sbhL
    have hlho10_3 := OS.lt ho10_3
    try simp -implicitDefEqProofs (disch := first | decide | assumption | omega) only [go_sem, RdS.len rR sl26, RdS.idx rR sl26, RdS.cellB rR (Ext.pres eB), RdS.cells rR, RdS.len hr1 sl22, RdS.idx hr1 sl22, R1.intB hr1 (Ext.pres eB), RdS.cells hr1, RdS.len hr6 sl22, RdS.idx hr6 sl22, R1.intB hr6 (Ext.pres eB), RdS.cells hr6, RdS.len (OS.rd ho10_3) sl26, RdS.idx (OS.rd ho10_3) sl26, RdS.cellN (OS.rd ho10_3), RdS.cells (OS.rd ho10_3), wrap_id, Int.toNat_zero]
    refine hK _ _ ?_
    clear hK K
    refine den_blk ?_
    refine den_region TTok ?_
    intro K hK
    simp -implicitDefEqProofs (disch := first | decide | assumption | omega) only [go_sem, RdS.len rR sl26, RdS.idx rR sl26, RdS.cellB rR (Ext.pres eB), RdS.cells rR, RdS.len hr1 sl22, RdS.idx hr1 sl22, R1.intB hr1 (Ext.pres eB), RdS.cells hr1, RdS.len hr6 sl22, RdS.idx hr6 sl22, R1.intB hr6 (Ext.pres eB), RdS.cells hr6, RdS.len (OS.rd ho10_3) sl26, RdS.idx (OS.rd ho10_3) sl26, RdS.cellN (OS.rd ho10_3), RdS.cells (OS.rd ho10_3), wrap_id, Int.toNat_zero]
    refine hK _ _ ?_
    clear hK K
    refine den_stop ?_
    rw [longP_step (by omega)] at ho10_3
    exact ⟨(k + 1, v10_3, fp10_3), by simp [HasL, puts_at], ⟨by first | omega | (dsimp only; omega), ho10_3, hfho10_3, sb7, cL3⟩, by first | omega | (dsimp only; omega)⟩
   ·try simp only [decide_eq_true_eq, decide_eq_false_iff_not, beq_iff_eq, beq_eq_false_iff_ne, bne_iff_ne, ne_eq, Bool.not_eq_true', Bool.not_eq_false', Bool.and_eq_true, Bool.or_eq_true, bne_eq_false_iff_eq] at c1
    refine den_exit ?_
    refine denX_code ?_
    refine denX_stop ?_
    refine denX_hit ?_
    refine den_seq ?_
    refine den_region TTok ?_
    intro K hK
    simp -implicitDefEqProofs (disch := first | decide | assumption | omega) only [go_sem, RdS.len rR sl26, RdS.idx rR sl26, RdS.cellB rR (Ext.pres eB), RdS.cells rR, RdS.len hr1 sl22, RdS.idx hr1 sl22, R1.intB hr1 (Ext.pres eB), RdS.cells hr1, RdS.len (OS.rd hL) sl26, RdS.idx (OS.rd hL) sl26, RdS.cellN (OS.rd hL), RdS.cells (OS.rd hL), wrap_id, Int.toNat_zero]
    refine op_bs0 sz26 O1 ?_
    intro v12_0 h12_0 ho12_0 e12_0
    replace hL := OS.ext hL e12_0
    have := Ext.size e12_0
    replace eB := Ext.trans eB e12_0
    have hfho12_0 : Fresh h5.size [h5.size] := Fresh.one _
    have hlho12_0 := OS.lt ho12_0
    try simp -implicitDefEqProofs (disch := first | decide | assumption | omega) only [go_sem, RdS.len rR sl26, RdS.idx rR sl26, RdS.cellB rR (Ext.pres eB), RdS.cells rR, RdS.len hr1 sl22, RdS.idx hr1 sl22, R1.intB hr1 (Ext.pres eB), RdS.cells hr1, RdS.len (OS.rd hL) sl26, RdS.idx (OS.rd hL) sl26, RdS.cellN (OS.rd hL), RdS.cells (OS.rd hL), RdS.len (OS.rd ho12_0) sl26, RdS.idx (OS.rd ho12_0) sl26, RdS.cellN (OS.rd ho12_0), RdS.cells (OS.rd ho12_0), wrap_id, Int.toNat_zero]
    refine hK _ _ ?_
    clear hK K
    refine den_seq ?_
    refine den_seq ?_
    rw [show ((List.range k).map fun i => R.getD i default ++ unitP R.length i) = longP R by rw [longP, show R.length = k by omega]] at hL
    have hredT := hLT
    refine den_region TTok ?_
    intro K hK
    simp -implicitDefEqProofs (disch := first | decide | assumption | omega) only [go_sem, RdS.len rR sl26, RdS.idx rR sl26, RdS.cellB rR (Ext.pres eB), RdS.cells rR, RdS.len hr1 sl22, RdS.idx hr1 sl22, R1.intB hr1 (Ext.pres eB), RdS.cells hr1, RdS.len (OS.rd hL) sl26, RdS.idx (OS.rd hL) sl26, RdS.cellN (OS.rd hL), RdS.cells (OS.rd hL), RdS.len (OS.rd ho12_0) sl26, RdS.idx (OS.rd ho12_0) sl26, RdS.cellN (OS.rd ho12_0), RdS.cells (OS.rd ho12_0), wrap_id, Int.toNat_zero]
    try simp -implicitDefEqProofs (disch := first | decide | assumption | omega) only [go_sem, RdS.len rR sl26, RdS.idx rR sl26, RdS.cellB rR (Ext.pres eB), RdS.cells rR, RdS.len hr1 sl22, RdS.idx hr1 sl22, R1.intB hr1 (Ext.pres eB), RdS.cells hr1, RdS.len (OS.rd hL) sl26, RdS.idx (OS.rd hL) sl26, RdS.cellN (OS.rd hL), RdS.cells (OS.rd hL), RdS.len (OS.rd ho12_0) sl26, RdS.idx (OS.rd ho12_0) sl26, RdS.cellN (OS.rd ho12_0), RdS.cells (OS.rd ho12_0), wrap_id, Int.toNat_zero]
    refine CallA.mono (iReduce_ok _ p (longP R) _ (OS.rd hL) hP hredT (by omega) (by omega)) ?_
    intro vw13_2_0 h13_2
    rintro ⟨zvw13_2_0, fw13_2_0, rfl, how13_2_0, hfw13_2_0, e13_2⟩
    replace hL := OS.ext hL e13_2
    replace ho12_0 := OS.ext ho12_0 e13_2
    have := Ext.size e13_2
    replace eB := Ext.trans eB e13_2
    have hlhow13_2_0 := OS.lt how13_2_0
    try simp -implicitDefEqProofs (disch := first | decide | assumption | omega) only [go_sem, RdS.len rR sl26, RdS.idx rR sl26, RdS.cellB rR (Ext.pres eB), RdS.cells rR, RdS.len hr1 sl22, RdS.idx hr1 sl22, R1.intB hr1 (Ext.pres eB), RdS.cells hr1, RdS.len (OS.rd hL) sl26, RdS.idx (OS.rd hL) sl26, RdS.cellN (OS.rd hL), RdS.cells (OS.rd hL), RdS.len (OS.rd ho12_0) sl26, RdS.idx (OS.rd ho12_0) sl26, RdS.cellN (OS.rd ho12_0), RdS.cells (OS.rd ho12_0), RdS.len (OS.rd how13_2_0) sl26, RdS.idx (OS.rd how13_2_0) sl26, RdS.cellN (OS.rd how13_2_0), RdS.cells (OS.rd how13_2_0), wrap_id, Int.toNat_zero]
    refine hK _ _ ?_
    clear hK K
    refine den_block ?_
    have hkl := hlhow13_2_0
    have hka := (apart_gt hfw13_2_0 hlho12_0 (by omega))
    refine den_sel [11, 49, 0, 6, 47, 48] ?_
    intro env_8
    simp only [go_sem]
    refine den_loopS (σ := Nat × Value × List Nat) (fun st_ => [(11, st_.2.1), (49, .int .i64 (st_.1 : Int))]) (fun st_ H => (st_.1 ≤ (ech p (longP R)).length) ∧ (O2S h13_2 fw13_2_0 H st_.2.1 ((((ech p (longP R)).take st_.1).filter (fun r : List Int => decide ((w : Int) ≤ leadP r))).map (fun r : List Int => r.drop w)) st_.2.2) ∧ (Fresh (h5.size) st_.2.2) ∧ (Sub [h5.size] h13_2.size st_.2.2) ∧ (Chg [h5.size] h13_2 H)) (fun st_ => (ech p (longP R)).length - st_.1) (0, v12_0, [h5.size]) ?_ ?_
    ·exact ⟨by simp, by simpa using O2S.nil ho12_0, hfho12_0, Sub.refl, Chg.refl _ _⟩
    ·rintro ⟨k, vhN, fphN⟩ h11 ee10 ⟨hk, hN, hfhN, sbhN, cL9⟩
     dsimp only at hk hN hfhN sbhN cL9
     replace hL := OS.chg hL cL9 (apart_lt hlhL hfho12_0 (by omega))
     replace how13_2_0 := OS.chg how13_2_0 cL9 (apart_gt hfw13_2_0 hlho12_0 (by omega))
     have := cL9.size
     replace eB := Ext.then eB cL9 (ge_of hfho12_0 (by omega))
     have ap12 : Apart fw13_2_0 fphN := Apart.sub_ hlhow13_2_0 (by omega) (apart_gt hfw13_2_0 hlho12_0 (by omega)) sbhN
     have hlhN := OS.lt hN
     simp only [List.cons_append, List.nil_append]
     have hol := fm_len (f := (fun r : List Int => decide ((w : Int) ≤ leadP r))) (g := (fun r : List Int => r.drop w)) (xs := (ech p (longP R))) hk
     refine den_seq ?_
     refine den_region TTok ?_
     intro K hK
     simp -implicitDefEqProofs (disch := first | decide | assumption | omega) only [go_sem, RdS.len rR sl26, RdS.idx rR sl26, RdS.cellB rR (Ext.pres eB), RdS.cells rR, RdS.len hr1 sl22, RdS.idx hr1 sl22, R1.intB hr1 (Ext.pres eB), RdS.cells hr1, RdS.len (OS.rd how13_2_0) sl26, RdS.idx (OS.rd how13_2_0) sl26, RdS.cellN (OS.rd how13_2_0), RdS.cells (OS.rd how13_2_0), wrap_id, Int.toNat_zero]
     refine hK _ _ ?_
     clear hK K
     refine den_seq ?_
     refine den_cond rfl (fun c2 => ?_) (fun c2 => ?_)
     ·try simp only [decide_eq_true_eq, decide_eq_false_iff_not, beq_iff_eq, beq_eq_false_iff_ne, bne_iff_ne, ne_eq, Bool.not_eq_true', Bool.not_eq_false', Bool.and_eq_true, Bool.or_eq_true, bne_eq_false_iff_eq] at c2
      refine den_skip ?_
      refine den_seq ?_
      refine den_block ?_
      refine den_seq ?_
      refine den_region TTok ?_
      intro K hK
      have hr13 := RdS.rowN (OS.rd how13_2_0) k (by omega)
      have hlhr13 := RdS.le hr13
      have xr14 := Ext.refl h11
      simp -implicitDefEqProofs (disch := first | decide | assumption | omega) only [go_sem, ld22, RdS.len rR sl26, RdS.idx rR sl26, RdS.cellB rR (Ext.pres eB), RdS.cells rR, RdS.len hr1 sl22, RdS.idx hr1 sl22, R1.intB hr1 (Ext.pres eB), RdS.cells hr1, RdS.len (OS.rd how13_2_0) sl26, RdS.idx (OS.rd how13_2_0) sl26, RdS.cellN (OS.rd how13_2_0), RdS.cells (OS.rd how13_2_0), RdS.len hr13 sl22, RdS.idx hr13 sl22, R1.intB hr13 (Ext.pres xr14), RdS.cells hr13, wrap_id, Int.toNat_zero]
      refine hK _ _ ?_
      clear hK K
      refine den_seq ?_
      obtain ⟨vs, hes, hRs17⟩ := RdS.dropV (k := .i64) (RdS.rowN (OS.rd how13_2_0) k (by omega)) sl22 (lo := (w : Int)) (by omega) (by have := hrE.len k (by omega); omega)
      have hES := fun H => ES.mk (H := H) how13_2_0 hfw13_2_0.nodup (h0 := h13_2) (fun b hb => cL9.block b (hkl b hb) (hka b hb)) (show k < (ech p (longP R)).length by omega) (k := .i64) (lo := (w : Int)) (by omega) (by have := hrE.len k (by omega); omega) hes
      simp only [Int.toNat_natCast] at hES
      obtain ⟨vz, hez, hRz⟩ := RdS.takeV (k := .i64) (RdS.rowN (OS.rd how13_2_0) k (by omega)) sl22 (hi := (w : Int)) (by omega) (by have := hrE.len k (by omega); omega)
      rw [Int.toNat_natCast] at hRz
      have hzt := zero_take (w := w) hrE (i := k) (by omega)
      refine den_region TTok ?_
      intro K hK
      simp -implicitDefEqProofs (disch := first | decide | assumption | omega) only [go_sem, RdS.len rR sl26, RdS.idx rR sl26, RdS.cellB rR (Ext.pres eB), RdS.cells rR, RdS.len hr1 sl22, RdS.idx hr1 sl22, R1.intB hr1 (Ext.pres eB), RdS.cells hr1, RdS.len (OS.rd how13_2_0) sl26, RdS.idx (OS.rd how13_2_0) sl26, RdS.cellN (OS.rd how13_2_0), RdS.cells (OS.rd how13_2_0), RdS.len hr13 sl22, RdS.idx hr13 sl22, R1.intB hr13 (Ext.pres xr14), RdS.cells hr13, wrap_id, Int.toNat_zero, hez, Option.map_some, Option.map_none]
      try simp -implicitDefEqProofs (disch := first | decide | assumption | omega) only [go_sem, RdS.len rR sl26, RdS.idx rR sl26, RdS.cellB rR (Ext.pres eB), RdS.cells rR, RdS.len hr1 sl22, RdS.idx hr1 sl22, R1.intB hr1 (Ext.pres eB), RdS.cells hr1, RdS.len (OS.rd how13_2_0) sl26, RdS.idx (OS.rd how13_2_0) sl26, RdS.cellN (OS.rd how13_2_0), RdS.cells (OS.rd how13_2_0), RdS.len hr13 sl22, RdS.idx hr13 sl22, R1.intB hr13 (Ext.pres xr14), RdS.cells hr13, wrap_id, Int.toNat_zero, hez, Option.map_some, Option.map_none]
      refine CallA.mono (isZero_ok _ _ _ hRz) ?_
      intro v_ h16_3
      rintro ⟨rfl, e16_3⟩
      replace how13_2_0 := OS.ext how13_2_0 e16_3
      replace hN := OS.ext hN e16_3
      have := Ext.size e16_3
      replace eB := Ext.trans eB e16_3
      replace xr14 := Ext.trans xr14 e16_3
      replace cL9 := Chg.stepE cL9 e16_3
      try simp -implicitDefEqProofs (disch := first | decide | assumption | omega) only [go_sem, RdS.len rR sl26, RdS.idx rR sl26, RdS.cellB rR (Ext.pres eB), RdS.cells rR, RdS.len hr1 sl22, RdS.idx hr1 sl22, R1.intB hr1 (Ext.pres eB), RdS.cells hr1, RdS.len (OS.rd how13_2_0) sl26, RdS.idx (OS.rd how13_2_0) sl26, RdS.cellN (OS.rd how13_2_0), RdS.cells (OS.rd how13_2_0), RdS.len hr13 sl22, RdS.idx hr13 sl22, R1.intB hr13 (Ext.pres xr14), RdS.cells hr13, wrap_id, Int.toNat_zero, hez, Option.map_some, Option.map_none]
      refine hK _ _ ?_
      clear hK K
      refine den_cond rfl (fun c3 => ?_) (fun c3 => ?_)
      ·try simp only [decide_eq_true_eq, decide_eq_false_iff_not, beq_iff_eq, beq_eq_false_iff_ne, bne_iff_ne, ne_eq, Bool.not_eq_true', Bool.not_eq_false', Bool.and_eq_true, Bool.or_eq_true, bne_eq_false_iff_eq] at c3
       refine den_region TTok ?_
       intro K hK
       simp -implicitDefEqProofs (disch := first | decide | assumption | omega) only [go_sem, RdS.len rR sl26, RdS.idx rR sl26, RdS.cellB rR (Ext.pres eB), RdS.cells rR, RdS.len hr1 sl22, RdS.idx hr1 sl22, R1.intB hr1 (Ext.pres eB), RdS.cells hr1, RdS.len (OS.rd how13_2_0) sl26, RdS.idx (OS.rd how13_2_0) sl26, RdS.cellN (OS.rd how13_2_0), RdS.cells (OS.rd how13_2_0), RdS.len hr13 sl22, RdS.idx hr13 sl22, R1.intB hr13 (Ext.pres xr14), RdS.cells hr13, wrap_id, Int.toNat_zero, hes, Option.map_some, Option.map_none]
       refine op_bs1 sz26 rfl (RdS.cells hRs17) ?_
       try simp -implicitDefEqProofs (disch := first | decide | assumption | omega) only [go_sem, RdS.len rR sl26, RdS.idx rR sl26, RdS.cellB rR (Ext.pres eB), RdS.cells rR, RdS.len hr1 sl22, RdS.idx hr1 sl22, R1.intB hr1 (Ext.pres eB), RdS.cells hr1, RdS.len (OS.rd how13_2_0) sl26, RdS.idx (OS.rd how13_2_0) sl26, RdS.cellN (OS.rd how13_2_0), RdS.cells (OS.rd how13_2_0), RdS.len hr13 sl22, RdS.idx hr13 sl22, R1.intB hr13 (Ext.pres xr14), RdS.cells hr13, wrap_id, Int.toNat_zero, hes, Option.map_some, Option.map_none]
       refine op_append1 sz26 hN hfhN.nodup (hES _) List.nodup_nil (Apart.nil _) (by first | omega | (simp; omega)) rfl rfl ?_
       intro v17_5 h17_5 fp17_5 ho17_5 hn17_5 hs17_5 c17_5
       have hsz17_5 := c17_5.size
       have hfho17_5 : Fresh h5.size fp17_5 := Fresh.appd hfhN (Fresh.nil h16_3.size) (by omega) (by omega) hn17_5 hs17_5
       have sb15 : Sub [h5.size] h13_2.size fp17_5 := Sub.grow sbhN Sub.nil (by omega) hs17_5
       replace how13_2_0 := OS.chg how13_2_0 c17_5 ap12
       have := c17_5.size
       replace eB := Ext.then eB c17_5 (ge_of hfhN (by omega))
       replace cL9 := Chg.step cL9 c17_5 sbhN
       have ap16 : Apart fw13_2_0 fp17_5 := Apart.grow hlhow13_2_0 (by omega) ap12 (Apart.nil _) hs17_5
       have hlho17_5 := OS.lt ho17_5
       try simp -implicitDefEqProofs (disch := first | decide | assumption | omega) only [go_sem, RdS.len rR sl26, RdS.idx rR sl26, RdS.cellB rR (Ext.pres eB), RdS.cells rR, RdS.len hr1 sl22, RdS.idx hr1 sl22, R1.intB hr1 (Ext.pres eB), RdS.cells hr1, RdS.len (OS.rd how13_2_0) sl26, RdS.idx (OS.rd how13_2_0) sl26, RdS.cellN (OS.rd how13_2_0), RdS.cells (OS.rd how13_2_0), wrap_id, Int.toNat_zero, hes, Option.map_some, Option.map_none]
       refine hK _ _ ?_
       clear hK K
       refine den_blk ?_
       refine den_region TTok ?_
       intro K hK
       simp -implicitDefEqProofs (disch := first | decide | assumption | omega) only [go_sem, RdS.len rR sl26, RdS.idx rR sl26, RdS.cellB rR (Ext.pres eB), RdS.cells rR, RdS.len hr1 sl22, RdS.idx hr1 sl22, R1.intB hr1 (Ext.pres eB), RdS.cells hr1, RdS.len (OS.rd how13_2_0) sl26, RdS.idx (OS.rd how13_2_0) sl26, RdS.cellN (OS.rd how13_2_0), RdS.cells (OS.rd how13_2_0), wrap_id, Int.toNat_zero]
       refine hK _ _ ?_
       clear hK K
       refine den_stop ?_
       first | rw [fm_yes (f := (fun r : List Int => decide ((w : Int) ≤ leadP r))) (g := (fun r : List Int => r.drop w)) (by omega) (hzt.symm.trans (by simpa using c3))] at ho17_5 | rw [fm_no (f := (fun r : List Int => decide ((w : Int) ≤ leadP r))) (g := (fun r : List Int => r.drop w)) (d := default) (by omega) (hzt.symm.trans (by simpa using c3))] at ho17_5
       exact ⟨(k + 1, v17_5, fp17_5), by simp [HasL, puts_at], ⟨by first | omega | (dsimp only; omega), ho17_5, hfho17_5, sb15, cL9⟩, by first | omega | (dsimp only; omega)⟩
      ·try simp only [decide_eq_true_eq, decide_eq_false_iff_not, beq_iff_eq, beq_eq_false_iff_ne, bne_iff_ne, ne_eq, Bool.not_eq_true', Bool.not_eq_false', Bool.and_eq_true, Bool.or_eq_true, bne_eq_false_iff_eq] at c3
       refine den_skip ?_
       refine den_blk ?_
       refine den_region TTok ?_
       intro K hK
       simp -implicitDefEqProofs (disch := first | decide | assumption | omega) only [go_sem, RdS.len rR sl26, RdS.idx rR sl26, RdS.cellB rR (Ext.pres eB), RdS.cells rR, RdS.len hr1 sl22, RdS.idx hr1 sl22, R1.intB hr1 (Ext.pres eB), RdS.cells hr1, RdS.len (OS.rd how13_2_0) sl26, RdS.idx (OS.rd how13_2_0) sl26, RdS.cellN (OS.rd how13_2_0), RdS.cells (OS.rd how13_2_0), RdS.len hr13 sl22, RdS.idx hr13 sl22, R1.intB hr13 (Ext.pres xr14), RdS.cells hr13, wrap_id, Int.toNat_zero]
       refine hK _ _ ?_
       clear hK K
       refine den_stop ?_
       first | rw [fm_yes (f := (fun r : List Int => decide ((w : Int) ≤ leadP r))) (g := (fun r : List Int => r.drop w)) (by omega) (hzt.symm.trans (by simpa using c3))] at hN | rw [fm_no (f := (fun r : List Int => decide ((w : Int) ≤ leadP r))) (g := (fun r : List Int => r.drop w)) (d := default) (by omega) (hzt.symm.trans (by simpa using c3))] at hN
       exact ⟨(k + 1, vhN, fphN), by simp [HasL, puts_at], ⟨by first | omega | (dsimp only; omega), hN, hfhN, sbhN, cL9⟩, by first | omega | (dsimp only; omega)⟩
     ·try simp only [decide_eq_true_eq, decide_eq_false_iff_not, beq_iff_eq, beq_eq_false_iff_ne, bne_iff_ne, ne_eq, Bool.not_eq_true', Bool.not_eq_false', Bool.and_eq_true, Bool.or_eq_true, bne_eq_false_iff_eq] at c2
      refine den_exit ?_
      refine denX_code ?_
      refine denX_stop ?_
      refine denX_hit ?_
      refine den_seq ?_
      rw [show ((((ech p (longP R)).take k).filter (fun r : List Int => decide ((w : Int) ≤ leadP r))).map (fun r : List Int => r.drop w)) = kerP p w R by rw [kerP, List.take_of_length_le (by omega)]] at hN
      obtain ⟨lk, hkr⟩ := kerP_rr hP hT
      have hkl2 : (kerP p w R).length ≤ 1000 := by have := hkr.le_w; omega
      refine den_region TTok ?_
      intro K hK
      simp -implicitDefEqProofs (disch := first | decide | assumption | omega) only [go_sem, RdS.len rR sl26, RdS.idx rR sl26, RdS.cellB rR (Ext.pres eB), RdS.cells rR, RdS.len hr1 sl22, RdS.idx hr1 sl22, R1.intB hr1 (Ext.pres eB), RdS.cells hr1, wrap_id, Int.toNat_zero]
      try simp -implicitDefEqProofs (disch := first | decide | assumption | omega) only [go_sem, RdS.len rR sl26, RdS.idx rR sl26, RdS.cellB rR (Ext.pres eB), RdS.cells rR, RdS.len hr1 sl22, RdS.idx hr1 sl22, R1.intB hr1 (Ext.pres eB), RdS.cells hr1, wrap_id, Int.toNat_zero]
      refine CallA.mono (iReduce_ok _ p (kerP p w R) _ (O2S.rd hN (fun b hb => cL9.block b (hkl b hb) (hka b hb))) hP (kerP_tbl hP hT) (by omega) hkl2) ?_
      intro vw19_2 h19_2
      rintro ⟨zw19_2, fw19_2, rfl, how19_2, hfw19_2, e19_2⟩
      replace hN := OS.ext hN e19_2
      have := Ext.size e19_2
      replace eB := Ext.trans eB e19_2
      have hlhow19_2 := OS.lt how19_2
      try simp -implicitDefEqProofs (disch := first | decide | assumption | omega) only [go_sem, RdS.len rR sl26, RdS.idx rR sl26, RdS.cellB rR (Ext.pres eB), RdS.cells rR, RdS.len hr1 sl22, RdS.idx hr1 sl22, R1.intB hr1 (Ext.pres eB), RdS.cells hr1, RdS.len (OS.rd how19_2) sl26, RdS.idx (OS.rd how19_2) sl26, RdS.cellN (OS.rd how19_2), RdS.cells (OS.rd how19_2), wrap_id, Int.toNat_zero]
      refine hK _ _ ?_
      clear hK K
      refine den_ret ?_
      simp (disch := decide) only [resP_1, puts_same, puts_ne]
      have hec : ech p (kerP p w R) = kerQ p R := by rw [kerQ_w hT hR0]; exact hkr.self hP
      rw [hec] at how19_2
      exact ⟨_, _, rfl, how19_2, hfw19_2.mono (by omega), eB⟩
end Go.Proofs.Ytjjjgllbocgkbaa

namespace Go.Proofs.Ytjjjgllbocgkbaa
open Go
noncomputable def bndP (X : Cx) (n : Int) : List (List Int) := ech X.p (mapP X (n + 1))
theorem mapP_in {X : Cx} {n : Int} (h0 : 1 ≤ n) (h1 : n ≤ (X.dims.length : Int) - 1) : mapP X n = X.maps.getD (n - 1).toNat default := by rw [mapP, if_pos (in3_iff.2 ⟨h0, h1⟩)]
theorem mapP_out {X : Cx} {n : Int} (h : n ≤ 0 ∨ (X.dims.length : Int) - 1 < n) : mapP X n = List.replicate (dimP X n).toNat [] := by rw [mapP, if_neg (by rw [in3_iff]; omega)]
/-- The rows of a degree: how many, and how long. -/
theorem mapP_tbl {X : Cx} (hC : IsC X) (n : Int) : ((mapP X n).length : Int) = dimP X n ∧ ∀ r ∈ mapP X n, r.length = (if 1 ≤ n then (dimP X (n - 1)).toNat else 0) ∧ Bnd X.p r := by
 have hd := dimP_bnd hC n
 by_cases h : 0 ≤ n ∧ n ≤ (X.dims.length : Int) - 1
 ·obtain ⟨h1, h2⟩ := mapP_ok hC h.1 h.2
  refine ⟨by rw [h1, dimP, if_pos (in3_iff.2 h)], fun r hr => ?_⟩
  have := h2 r hr
  refine ⟨?_, this.2⟩
  split
  ·omega
  ·have e : n - 1 < 0 := by omega
   rw [dimP_out (n := n - 1) (by omega)] at this; omega
 ·rw [mapP_out (by omega), dimP_out h]
  exact ⟨rfl, fun r hr => by cases hr⟩
def mapW (X : Cx) (n : Int) : Nat := if 1 ≤ n then (dimP X (n - 1)).toNat else 0
theorem mapW_le {X : Cx} (hC : IsC X) (n : Int) : mapW X n ≤ 8 := by
 have := dimP_bnd hC (n - 1)
 unfold mapW; split <;> omega
theorem mapP_len {X : Cx} (hC : IsC X) (n : Int) : (mapP X n).length ≤ 8 := by
 have := (mapP_tbl hC n).1
 have := dimP_bnd hC n
 omega
theorem bndP_in {X : Cx} {n : Int} (h0 : 0 ≤ n) (h1 : n < (X.dims.length : Int) - 1) : bndP X n = ech X.p (X.maps.getD n.toNat default) := by rw [bndP, mapP_in (by omega) (by omega), Int.add_sub_cancel]
theorem bndP_out {X : Cx} (hC : IsC X) {n : Int} (h0 : 0 ≤ n) (h1 : (X.dims.length : Int) - 1 ≤ n) : bndP X n = [] := by
 rw [bndP, mapP_out (by omega), dimP_out (by omega)]
 exact ech_nil (isP_two hC.p).1
theorem bnd_rr {X : Cx} (hC : IsC X) {n : Int} (h0 : 0 ≤ n) : ∃ l, Rr X.p (dimP X n).toNat (bndP X n) l := by
 obtain ⟨h1, h2⟩ := mapP_tbl hC (n + 1)
 rw [if_pos (by omega), Int.add_sub_cancel] at h2
 exact (ech_red hC.p h2).1
theorem Rr.tbl {p : Int} {w : Nat} {L : List (List Int)} {l : Nat → Nat} (r : Rr p w L l) : ∀ x ∈ L, x.length = w ∧ Bnd p x := fun x hx => by
 obtain ⟨i, hi, rfl⟩ := List.getElem_of_mem hx
 have a := r.len i hi
 have b := r.bnd i hi
 rw [List.getD_eq_getElem?_getD, List.getElem?_eq_getElem hi] at a b
 exact ⟨a, b⟩

set_option maxRecDepth 100000 in
theorem sKernel_ok (vR : Value) (p : Int) (n : Int) (R : List (List Int)) (h : Heap) (rR : R2 h vR R) {w : Nat} (hP : isP p = true) (hT : ∀ r ∈ R, r.length = w ∧ Bnd p r) (hw : w ≤ 500) (hl : R.length ≤ 500) (hn : n = (R.length : Int)) : CallA Try.prog 149 #[.int .i64 p, .int .i64 n, vR] h fun v' h' => ∃ w0 f0, v' = w0 ∧ O2 h' w0 (kerQ p R) f0 ∧ Fresh h.size f0 ∧ Ext h h' := by
 have hleR := RdS.le rR
 have hp := isP_two hP
 have hLT := longP_tbl hp.1 hT
 have hEl := ech_len_le hP hLT
 obtain ⟨⟨l, hrE⟩, _⟩ := ech_red hP hLT
 have hll := len_longP R
 have hE0 : R = [] → (ech p (longP R)).length = 0 := fun e => by subst e; rw [longP]; simp only [List.length_nil, List.range_zero, List.map_nil]; rw [ech_nil hp.1]; rfl
 refine callA_intro TTok (args := [_, _, _]) Try.func149 (by kernel_rfl) rfl 68 rfl (by simp) [.tmp 6] rfl ?_
 simp only [idxs, Nat.reduceAdd]
 refine den_seq ?_
 refine den_region TTok ?_
 intro K hK
 simp -implicitDefEqProofs (disch := first | decide | assumption | omega) only [go_sem, RdS.len rR sl26, RdS.idx rR sl26, RdS.cellB rR (HPres.refl _), RdS.cells rR, wrap_id]
 refine hK _ _ ?_
 clear hK K
 refine den_seq ?_
 refine den_region TTok ?_
 intro K hK
 simp -implicitDefEqProofs (disch := first | decide | assumption | omega) only [go_sem, RdS.len rR sl26, RdS.idx rR sl26, RdS.cellB rR (HPres.refl _), RdS.cells rR, wrap_id]
 refine op_bs0 sz26 O1 ?_
 intro v1_0 h1_0 ho1_0 e1_0
 have := Ext.size e1_0
 have eB := e1_0
 have hfho1_0 : Fresh h.size [h.size] := Fresh.one _
 have hlho1_0 := OS.lt ho1_0
 try simp -implicitDefEqProofs (disch := first | decide | assumption | omega) only [go_sem, RdS.len rR sl26, RdS.idx rR sl26, RdS.cellB rR (Ext.pres eB), RdS.cells rR, RdS.len (OS.rd ho1_0) sl26, RdS.idx (OS.rd ho1_0) sl26, RdS.cellN (OS.rd ho1_0), RdS.cells (OS.rd ho1_0), wrap_id]
 refine hK _ _ ?_
 clear hK K
 refine den_seq ?_
 refine den_region TTok ?_
 intro K hK
 simp -implicitDefEqProofs (disch := first | decide | assumption | omega) only [go_sem, RdS.len rR sl26, RdS.idx rR sl26, RdS.cellB rR (Ext.pres eB), RdS.cells rR, RdS.len (OS.rd ho1_0) sl26, RdS.idx (OS.rd ho1_0) sl26, RdS.cellN (OS.rd ho1_0), RdS.cells (OS.rd ho1_0), wrap_id]
 refine hK _ _ ?_
 clear hK K
 refine den_seq ?_
 refine den_seq ?_
 refine den_region TTok ?_
 intro K hK
 simp -implicitDefEqProofs (disch := first | decide | assumption | omega) only [go_sem, RdS.len rR sl26, RdS.idx rR sl26, RdS.cellB rR (Ext.pres eB), RdS.cells rR, RdS.len (OS.rd ho1_0) sl26, RdS.idx (OS.rd ho1_0) sl26, RdS.cellN (OS.rd ho1_0), RdS.cells (OS.rd ho1_0), wrap_id]
 refine hK _ _ ?_
 clear hK K
 refine den_block ?_
 refine den_sel [7, 8, 9, 0, 1, 2] ?_
 intro env_1
 simp only [go_sem]
 refine den_loopS (σ := Nat × Nat × Value × List Nat) (fun st_ => [(7, st_.2.2.1), (8, .int .i64 (st_.2.1 : Int)), (9, .int .i64 (st_.1 : Int))]) (fun st_ H => (st_.1 ≤ R.length) ∧ (0 < st_.1 → st_.2.1 = w) ∧ (O2 H st_.2.2.1 ((List.range st_.1).map fun i => R.getD i default ++ unitP R.length i) st_.2.2.2) ∧ (Fresh (h.size) st_.2.2.2) ∧ (Sub [h.size] h1_0.size st_.2.2.2) ∧ (Chg [h.size] h1_0 H)) (fun st_ => R.length - st_.1) (0, 0, v1_0, [h.size]) ?_ ?_
 ·exact ⟨by simp, fun h => absurd h (by simp), by simpa using ho1_0, hfho1_0, Sub.refl, Chg.refl _ _⟩
 ·rintro ⟨m, wn, vhL, fphL⟩ h4 ee3 ⟨hk, hwd_, hL, hfhL, sbhL, cL2⟩
  dsimp only at hk hwd_ hL hfhL sbhL cL2
  have := cL2.size
  replace eB := Ext.then eB cL2 (ge_of hfho1_0 (by omega))
  have hlhL := OS.lt hL
  simp only [List.cons_append, List.nil_append]
  have hlo_ : ((List.range m).map fun i => R.getD i default ++ unitP R.length i).length = m := by simp
  refine den_seq ?_
  refine den_seq ?_
  refine den_region TTok ?_
  intro K hK
  simp -implicitDefEqProofs (disch := first | decide | assumption | omega) only [go_sem, RdS.len rR sl26, RdS.idx rR sl26, RdS.cellB rR (Ext.pres eB), RdS.cells rR, RdS.len (OS.rd hL) sl26, RdS.idx (OS.rd hL) sl26, RdS.cellN (OS.rd hL), RdS.cells (OS.rd hL), wrap_id]
  refine hK _ _ ?_
  clear hK K
  refine den_cond rfl (fun c0 => ?_) (fun c0 => ?_)
  ·try simp only [decide_eq_true_eq, decide_eq_false_iff_not, beq_iff_eq, beq_eq_false_iff_ne, bne_iff_ne, ne_eq, Bool.not_eq_true', Bool.not_eq_false', Bool.and_eq_true, Bool.or_eq_true, bne_eq_false_iff_eq] at c0
   refine den_skip ?_
   refine den_seq ?_
   refine den_block ?_
   refine den_seq ?_
   refine den_region TTok ?_
   intro K hK
   simp -implicitDefEqProofs (disch := first | decide | assumption | omega) only [go_sem, RdS.len rR sl26, RdS.idx rR sl26, RdS.cellB rR (Ext.pres eB), RdS.cells rR, RdS.len (OS.rd hL) sl26, RdS.idx (OS.rd hL) sl26, RdS.cellN (OS.rd hL), RdS.cells (OS.rd hL), wrap_id]
   refine op_make sz22 rfl rfl (by omega) (by omega) OI 0 (fun _ => ⟨rfl, rfl⟩) ?_
   intro v6_1 h6_1 ho6_1 e6_1
   replace hL := OS.ext hL e6_1
   have := Ext.size e6_1
   replace eB := Ext.trans eB e6_1
   replace cL2 := Chg.stepE cL2 e6_1
   have hfho6_1 : Fresh h4.size [h4.size] := Fresh.one _
   have hlenho6_1 : (List.replicate (n).toNat (0 : Int)).length = (n).toNat := List.length_replicate
   have hlho6_1 := OS.lt ho6_1
   try simp -implicitDefEqProofs (disch := first | decide | assumption | omega) only [go_sem, RdS.len rR sl26, RdS.idx rR sl26, RdS.cellB rR (Ext.pres eB), RdS.cells rR, RdS.len (OS.rd hL) sl26, RdS.idx (OS.rd hL) sl26, RdS.cellN (OS.rd hL), RdS.cells (OS.rd hL), RdS.len (OS.rd ho6_1) sl22, RdS.idx (OS.rd ho6_1) sl22, R1.intN (OS.rd ho6_1), RdS.cells (OS.rd ho6_1), wrap_id]
   refine hK _ _ ?_
   clear hK K
   refine den_seq ?_
   refine den_region TTok ?_
   intro K hK
   simp -implicitDefEqProofs (disch := first | decide | assumption | omega) only [go_sem, RdS.len rR sl26, RdS.idx rR sl26, RdS.cellB rR (Ext.pres eB), RdS.cells rR, RdS.len (OS.rd hL) sl26, RdS.idx (OS.rd hL) sl26, RdS.cellN (OS.rd hL), RdS.cells (OS.rd hL), RdS.len (OS.rd ho6_1) sl22, RdS.idx (OS.rd ho6_1) sl22, R1.intN (OS.rd ho6_1), RdS.cells (OS.rd ho6_1), wrap_id]
   refine op_store1 (j := m) st2 ho6_1 hfho6_1.nodup (by first | omega | (simp; omega)) rfl rfl ?_
   intro h7_3 ho7_3 c7_3
   have hsz7_3 := c7_3.size
   replace hL := OS.chg hL c7_3 (apart_lt hlhL hfho6_1 (by omega))
   have := c7_3.size
   replace eB := Ext.then eB c7_3 (ge_of hfho6_1 (by omega))
   replace cL2 := Chg.step cL2 c7_3 (Sub.fresh hfho6_1 (by omega))
   have hlho7_3 := hlho6_1
   have hlenho7_3 : ((List.replicate (n).toNat 0).set m (1 : Int) : List Int).length = (List.replicate (n).toNat 0 : List Int).length := List.length_set
   try simp -implicitDefEqProofs (disch := first | decide | assumption | omega) only [go_sem, RdS.len rR sl26, RdS.idx rR sl26, RdS.cellB rR (Ext.pres eB), RdS.cells rR, RdS.len (OS.rd hL) sl26, RdS.idx (OS.rd hL) sl26, RdS.cellN (OS.rd hL), RdS.cells (OS.rd hL), RdS.len (OS.rd ho7_3) sl22, RdS.idx (OS.rd ho7_3) sl22, R1.intN (OS.rd ho7_3), RdS.cells (OS.rd ho7_3), wrap_id]
   refine hK _ _ ?_
   clear hK K
   refine den_seq ?_
   have hRk := hT _ (getD_mem (show m < R.length by omega))
   refine den_region TTok ?_
   intro K hK
   have hr5 := RdS.rowN rR m (by omega)
   have hlhr5 := RdS.le hr5
   simp -implicitDefEqProofs (disch := first | decide | assumption | omega) only [go_sem, ld22, RdS.len rR sl26, RdS.idx rR sl26, RdS.cellB rR (Ext.pres eB), RdS.cells rR, RdS.len hr5 sl22, RdS.idx hr5 sl22, R1.intB hr5 (Ext.pres eB), RdS.cells hr5, RdS.len (OS.rd hL) sl26, RdS.idx (OS.rd hL) sl26, RdS.cellN (OS.rd hL), RdS.cells (OS.rd hL), RdS.len (OS.rd ho7_3) sl22, RdS.idx (OS.rd ho7_3) sl22, R1.intN (OS.rd ho7_3), RdS.cells (OS.rd ho7_3), wrap_id]
   refine hK _ _ ?_
   clear hK K
   refine den_region TTok ?_
   intro K hK
   have hr6 := RdS.rowN rR m (by omega)
   have hlhr6 := RdS.le hr6
   simp -implicitDefEqProofs (disch := first | decide | assumption | omega) only [go_sem, ld22, RdS.len rR sl26, RdS.idx rR sl26, RdS.cellB rR (Ext.pres eB), RdS.cells rR, RdS.len hr5 sl22, RdS.idx hr5 sl22, R1.intB hr5 (Ext.pres eB), RdS.cells hr5, RdS.len hr6 sl22, RdS.idx hr6 sl22, R1.intB hr6 (Ext.pres eB), RdS.cells hr6, RdS.len (OS.rd hL) sl26, RdS.idx (OS.rd hL) sl26, RdS.cellN (OS.rd hL), RdS.cells (OS.rd hL), RdS.len (OS.rd ho7_3) sl22, RdS.idx (OS.rd ho7_3) sl22, R1.intN (OS.rd ho7_3), RdS.cells (OS.rd ho7_3), wrap_id]
   try simp -implicitDefEqProofs (disch := first | decide | assumption | omega) only [go_sem, RdS.len rR sl26, RdS.idx rR sl26, RdS.cellB rR (Ext.pres eB), RdS.cells rR, RdS.len hr5 sl22, RdS.idx hr5 sl22, R1.intB hr5 (Ext.pres eB), RdS.cells hr5, RdS.len hr6 sl22, RdS.idx hr6 sl22, R1.intB hr6 (Ext.pres eB), RdS.cells hr6, RdS.len (OS.rd hL) sl26, RdS.idx (OS.rd hL) sl26, RdS.cellN (OS.rd hL), RdS.cells (OS.rd hL), RdS.len (OS.rd ho7_3) sl22, RdS.idx (OS.rd ho7_3) sl22, R1.intN (OS.rd ho7_3), RdS.cells (OS.rd ho7_3), wrap_id]
   refine CallA.mono (sOwn_ok _ ((R).getD m default) _ (RdS.pres hr6 (Ext.pres eB)) (by omega)) ?_
   intro vw9_5_0 h9_5
   rintro ⟨zvw9_5_0, fw9_5_0, rfl, how9_5_0, hfw9_5_0, e9_5⟩
   replace hL := OS.ext hL e9_5
   replace ho7_3 := OS.ext ho7_3 e9_5
   have := Ext.size e9_5
   replace eB := Ext.trans eB e9_5
   replace cL2 := Chg.stepE cL2 e9_5
   have hlhow9_5_0 := OS.lt how9_5_0
   try simp -implicitDefEqProofs (disch := first | decide | assumption | omega) only [go_sem, RdS.len rR sl26, RdS.idx rR sl26, RdS.cellB rR (Ext.pres eB), RdS.cells rR, RdS.len hr5 sl22, RdS.idx hr5 sl22, R1.intB hr5 (Ext.pres eB), RdS.cells hr5, RdS.len hr6 sl22, RdS.idx hr6 sl22, R1.intB hr6 (Ext.pres eB), RdS.cells hr6, RdS.len (OS.rd hL) sl26, RdS.idx (OS.rd hL) sl26, RdS.cellN (OS.rd hL), RdS.cells (OS.rd hL), RdS.len (OS.rd ho7_3) sl22, RdS.idx (OS.rd ho7_3) sl22, R1.intN (OS.rd ho7_3), RdS.cells (OS.rd ho7_3), RdS.len (OS.rd how9_5_0) sl22, RdS.idx (OS.rd how9_5_0) sl22, R1.intN (OS.rd how9_5_0), RdS.cells (OS.rd how9_5_0), wrap_id]
   refine op_appendR how9_5_0 (OS.rd ho7_3) (by first | omega | (simp; omega)) rfl ?_
   intro v9_7 h9_7 fp9_7 ho9_7 hn9_7 hs9_7 c9_7
   have hsz9_7 := c9_7.size
   have hfho9_7 : Fresh h7_3.size fp9_7 := Fresh.appd hfw9_5_0 (Fresh.nil h9_5.size) (by omega) (by omega) hn9_7 hs9_7
   replace hL := OS.chg hL c9_7 (apart_lt hlhL hfw9_5_0 (by omega))
   replace ho7_3 := OS.chg ho7_3 c9_7 (apart_lt hlho7_3 hfw9_5_0 (by omega))
   have := c9_7.size
   replace eB := Ext.then eB c9_7 (ge_of hfw9_5_0 (by omega))
   replace cL2 := Chg.step cL2 c9_7 (Sub.fresh hfw9_5_0 (by omega))
   have hlho9_7 := OS.lt ho9_7
   try simp -implicitDefEqProofs (disch := first | decide | assumption | omega) only [go_sem, RdS.len rR sl26, RdS.idx rR sl26, RdS.cellB rR (Ext.pres eB), RdS.cells rR, RdS.len hr5 sl22, RdS.idx hr5 sl22, R1.intB hr5 (Ext.pres eB), RdS.cells hr5, RdS.len hr6 sl22, RdS.idx hr6 sl22, R1.intB hr6 (Ext.pres eB), RdS.cells hr6, RdS.len (OS.rd hL) sl26, RdS.idx (OS.rd hL) sl26, RdS.cellN (OS.rd hL), RdS.cells (OS.rd hL), RdS.len (OS.rd ho7_3) sl22, RdS.idx (OS.rd ho7_3) sl22, R1.intN (OS.rd ho7_3), RdS.cells (OS.rd ho7_3), RdS.len (OS.rd ho9_7) sl22, RdS.idx (OS.rd ho9_7) sl22, R1.intN (OS.rd ho9_7), RdS.cells (OS.rd ho9_7), wrap_id]
   refine op_bs1 sz26 rfl (OS.one ho9_7).2 ?_
   try simp -implicitDefEqProofs (disch := first | decide | assumption | omega) only [go_sem, RdS.len rR sl26, RdS.idx rR sl26, RdS.cellB rR (Ext.pres eB), RdS.cells rR, RdS.len hr5 sl22, RdS.idx hr5 sl22, R1.intB hr5 (Ext.pres eB), RdS.cells hr5, RdS.len hr6 sl22, RdS.idx hr6 sl22, R1.intB hr6 (Ext.pres eB), RdS.cells hr6, RdS.len (OS.rd hL) sl26, RdS.idx (OS.rd hL) sl26, RdS.cellN (OS.rd hL), RdS.cells (OS.rd hL), RdS.len (OS.rd ho7_3) sl22, RdS.idx (OS.rd ho7_3) sl22, R1.intN (OS.rd ho7_3), RdS.cells (OS.rd ho7_3), RdS.len (OS.rd ho9_7) sl22, RdS.idx (OS.rd ho9_7) sl22, R1.intN (OS.rd ho9_7), RdS.cells (OS.rd ho9_7), wrap_id]
   refine op_append1 sz26 hL hfhL.nodup ho9_7 hfho9_7.nodup (apart_lt hlhL hfho9_7 (by omega)) (by first | omega | (simp; omega)) rfl rfl ?_
   intro v9_9 h9_9 fp9_9 ho9_9 hn9_9 hs9_9 c9_9
   have hsz9_9 := c9_9.size
   have hfho9_9 : Fresh h.size fp9_9 := Fresh.appd hfhL hfho9_7 (by omega) (by omega) hn9_9 hs9_9
   have sb7 : Sub [h.size] h1_0.size fp9_9 := Sub.grow sbhL (Sub.fresh hfho9_7 (by omega)) (by omega) hs9_9
   replace ho7_3 := OS.chg ho7_3 c9_9 (apart_gt hfho6_1 hlhL (by omega))
   have := c9_9.size
   replace eB := Ext.then eB c9_9 (ge_of hfhL (by omega))
   replace cL2 := Chg.step cL2 c9_9 sbhL
   have ap8 : Apart [h4.size] fp9_9 := Apart.grow hlho7_3 (by omega) (apart_gt hfho6_1 hlhL (by omega)) (apart_lt hlho7_3 hfho9_7 (by omega)) hs9_9
   have hlho9_9 := OS.lt ho9_9
   try simp -implicitDefEqProofs (disch := first | decide | assumption | omega) only [go_sem, RdS.len rR sl26, RdS.idx rR sl26, RdS.cellB rR (Ext.pres eB), RdS.cells rR, RdS.len hr5 sl22, RdS.idx hr5 sl22, R1.intB hr5 (Ext.pres eB), RdS.cells hr5, RdS.len hr6 sl22, RdS.idx hr6 sl22, R1.intB hr6 (Ext.pres eB), RdS.cells hr6, RdS.len (OS.rd ho7_3) sl22, RdS.idx (OS.rd ho7_3) sl22, R1.intN (OS.rd ho7_3), RdS.cells (OS.rd ho7_3), RdS.len (OS.rd ho9_9) sl26, RdS.idx (OS.rd ho9_9) sl26, RdS.cellN (OS.rd ho9_9), RdS.cells (OS.rd ho9_9), wrap_id]
   refine hK _ _ ?_
   clear hK K
   refine den_blk ?_
   refine den_region TTok ?_
   intro K hK
   simp -implicitDefEqProofs (disch := first | decide | assumption | omega) only [go_sem, RdS.len rR sl26, RdS.idx rR sl26, RdS.cellB rR (Ext.pres eB), RdS.cells rR, RdS.len hr5 sl22, RdS.idx hr5 sl22, R1.intB hr5 (Ext.pres eB), RdS.cells hr5, RdS.len hr6 sl22, RdS.idx hr6 sl22, R1.intB hr6 (Ext.pres eB), RdS.cells hr6, RdS.len (OS.rd ho9_9) sl26, RdS.idx (OS.rd ho9_9) sl26, RdS.cellN (OS.rd ho9_9), RdS.cells (OS.rd ho9_9), wrap_id]
   refine hK _ _ ?_
   clear hK K
   refine den_stop ?_
   rw [show (List.replicate n.toNat (0 : Int)).set m 1 = unitP R.length m by rw [hn, Int.toNat_natCast]; rfl, longP_step (by omega)] at ho9_9
   exact ⟨(m + 1, (R.getD m default).length, v9_9, fp9_9), by simp [HasL, puts_at], ⟨by dsimp only; omega, (fun _ => hRk.1), ho9_9, hfho9_9, sb7, cL2⟩, by first | omega | (dsimp only; omega)⟩
  ·try simp only [decide_eq_true_eq, decide_eq_false_iff_not, beq_iff_eq, beq_eq_false_iff_ne, bne_iff_ne, ne_eq, Bool.not_eq_true', Bool.not_eq_false', Bool.and_eq_true, Bool.or_eq_true, bne_eq_false_iff_eq] at c0
   refine den_exit ?_
   refine denX_code ?_
   refine denX_stop ?_
   refine denX_hit ?_
   refine den_seq ?_
   rw [show ((List.range m).map fun i => R.getD i default ++ unitP R.length i) = longP R by rw [longP, show R.length = m by omega]] at hL
   have hredT := hLT
   refine den_region TTok ?_
   intro K hK
   simp -implicitDefEqProofs (disch := first | decide | assumption | omega) only [go_sem, RdS.len rR sl26, RdS.idx rR sl26, RdS.cellB rR (Ext.pres eB), RdS.cells rR, RdS.len (OS.rd hL) sl26, RdS.idx (OS.rd hL) sl26, RdS.cellN (OS.rd hL), RdS.cells (OS.rd hL), wrap_id]
   try simp -implicitDefEqProofs (disch := first | decide | assumption | omega) only [go_sem, RdS.len rR sl26, RdS.idx rR sl26, RdS.cellB rR (Ext.pres eB), RdS.cells rR, RdS.len (OS.rd hL) sl26, RdS.idx (OS.rd hL) sl26, RdS.cellN (OS.rd hL), RdS.cells (OS.rd hL), wrap_id]
   refine CallA.mono (sEch_ok _ p (longP R) _ (OS.rd hL) hP hredT (by omega) (by omega)) ?_
   intro vw10_2_0 h10_2
   rintro ⟨zvw10_2_0, fw10_2_0, rfl, how10_2_0, hfw10_2_0, e10_2⟩
   replace hL := OS.ext hL e10_2
   have := Ext.size e10_2
   replace eB := Ext.trans eB e10_2
   have hlhow10_2_0 := OS.lt how10_2_0
   try simp -implicitDefEqProofs (disch := first | decide | assumption | omega) only [go_sem, RdS.len rR sl26, RdS.idx rR sl26, RdS.cellB rR (Ext.pres eB), RdS.cells rR, RdS.len (OS.rd hL) sl26, RdS.idx (OS.rd hL) sl26, RdS.cellN (OS.rd hL), RdS.cells (OS.rd hL), RdS.len (OS.rd how10_2_0) sl26, RdS.idx (OS.rd how10_2_0) sl26, RdS.cellN (OS.rd how10_2_0), RdS.cells (OS.rd how10_2_0), wrap_id]
   refine op_bs0 sz26 O1 ?_
   intro v10_3 h10_3 ho10_3 e10_3
   replace hL := OS.ext hL e10_3
   replace how10_2_0 := OS.ext how10_2_0 e10_3
   have := Ext.size e10_3
   replace eB := Ext.trans eB e10_3
   have hfho10_3 : Fresh h10_2.size [h10_2.size] := Fresh.one _
   have hlho10_3 := OS.lt ho10_3
   try simp -implicitDefEqProofs (disch := first | decide | assumption | omega) only [go_sem, RdS.len rR sl26, RdS.idx rR sl26, RdS.cellB rR (Ext.pres eB), RdS.cells rR, RdS.len (OS.rd hL) sl26, RdS.idx (OS.rd hL) sl26, RdS.cellN (OS.rd hL), RdS.cells (OS.rd hL), RdS.len (OS.rd how10_2_0) sl26, RdS.idx (OS.rd how10_2_0) sl26, RdS.cellN (OS.rd how10_2_0), RdS.cells (OS.rd how10_2_0), RdS.len (OS.rd ho10_3) sl26, RdS.idx (OS.rd ho10_3) sl26, RdS.cellN (OS.rd ho10_3), RdS.cells (OS.rd ho10_3), wrap_id]
   refine hK _ _ ?_
   clear hK K
   refine den_seq ?_
   refine den_seq ?_
   refine den_region TTok ?_
   intro K hK
   simp -implicitDefEqProofs (disch := first | decide | assumption | omega) only [go_sem, RdS.len rR sl26, RdS.idx rR sl26, RdS.cellB rR (Ext.pres eB), RdS.cells rR, RdS.len (OS.rd how10_2_0) sl26, RdS.idx (OS.rd how10_2_0) sl26, RdS.cellN (OS.rd how10_2_0), RdS.cells (OS.rd how10_2_0), RdS.len (OS.rd ho10_3) sl26, RdS.idx (OS.rd ho10_3) sl26, RdS.cellN (OS.rd ho10_3), RdS.cells (OS.rd ho10_3), wrap_id]
   refine hK _ _ ?_
   clear hK K
   refine den_block ?_
   refine den_sel [12, 13, 8, 11] ?_
   intro env_9
   simp only [go_sem]
   refine den_loopS (σ := Nat × Value × List Nat) (fun st_ => [(12, st_.2.1), (13, .int .i64 (st_.1 : Int))]) (fun st_ H => (st_.1 ≤ (ech p (longP R)).length) ∧ (O2 H st_.2.1 ((((ech p (longP R)).take st_.1).filter (fun r : List Int => decide ((w : Int) ≤ leadP r))).map (fun r : List Int => r.drop w)) st_.2.2) ∧ (Fresh (h10_2.size) st_.2.2) ∧ (Sub [h10_2.size] h10_3.size st_.2.2) ∧ (Chg [h10_2.size] h10_3 H)) (fun st_ => (ech p (longP R)).length - st_.1) (0, v10_3, [h10_2.size]) ?_ ?_
   ·exact ⟨by simp, by simpa using ho10_3, hfho10_3, Sub.refl, Chg.refl _ _⟩
   ·rintro ⟨k, vhN, fphN⟩ h12 ee11 ⟨hk2, hN, hfhN, sbhN, cL10⟩
    dsimp only at hk2 hN hfhN sbhN cL10
    replace how10_2_0 := OS.chg how10_2_0 cL10 (apart_lt hlhow10_2_0 hfho10_3 (by omega))
    have := cL10.size
    replace eB := Ext.then eB cL10 (ge_of hfho10_3 (by omega))
    have hlhN := OS.lt hN
    simp only [List.cons_append, List.nil_append]
    have hol := fm_len (f := (fun r : List Int => decide ((w : Int) ≤ leadP r))) (g := (fun r : List Int => r.drop w)) (xs := (ech p (longP R))) hk2
    refine den_seq ?_
    refine den_seq ?_
    refine den_region TTok ?_
    intro K hK
    simp -implicitDefEqProofs (disch := first | decide | assumption | omega) only [go_sem, RdS.len rR sl26, RdS.idx rR sl26, RdS.cellB rR (Ext.pres eB), RdS.cells rR, RdS.len (OS.rd how10_2_0) sl26, RdS.idx (OS.rd how10_2_0) sl26, RdS.cellN (OS.rd how10_2_0), RdS.cells (OS.rd how10_2_0), RdS.len (OS.rd hN) sl26, RdS.idx (OS.rd hN) sl26, RdS.cellN (OS.rd hN), RdS.cells (OS.rd hN), wrap_id]
    refine hK _ _ ?_
    clear hK K
    refine den_cond rfl (fun c1 => ?_) (fun c1 => ?_)
    ·try simp only [decide_eq_true_eq, decide_eq_false_iff_not, beq_iff_eq, beq_eq_false_iff_ne, bne_iff_ne, ne_eq, Bool.not_eq_true', Bool.not_eq_false', Bool.and_eq_true, Bool.or_eq_true, bne_eq_false_iff_eq] at c1
     refine den_skip ?_
     refine den_seq ?_
     refine den_block ?_
     refine den_seq ?_
     have hR0 : 0 < R.length := Nat.pos_of_ne_zero fun e_ => by have := hE0 (List.length_eq_zero_iff.1 e_); omega
     have hwd := hwd_ (by omega)
     refine den_region TTok ?_
     intro K hK
     have hr13 := RdS.rowN (OS.rd how10_2_0) k (by omega)
     have hlhr13 := RdS.le hr13
     have xr14 := Ext.refl h12
     simp -implicitDefEqProofs (disch := first | decide | assumption | omega) only [go_sem, ld22, RdS.len rR sl26, RdS.idx rR sl26, RdS.cellB rR (Ext.pres eB), RdS.cells rR, RdS.len (OS.rd how10_2_0) sl26, RdS.idx (OS.rd how10_2_0) sl26, RdS.cellN (OS.rd how10_2_0), RdS.cells (OS.rd how10_2_0), RdS.len (OS.rd hN) sl26, RdS.idx (OS.rd hN) sl26, RdS.cellN (OS.rd hN), RdS.cells (OS.rd hN), RdS.len hr13 sl22, RdS.idx hr13 sl22, R1.intB hr13 (Ext.pres xr14), RdS.cells hr13, wrap_id, hwd]
     try simp -implicitDefEqProofs (disch := first | decide | assumption | omega) only [go_sem, RdS.len rR sl26, RdS.idx rR sl26, RdS.cellB rR (Ext.pres eB), RdS.cells rR, RdS.len (OS.rd how10_2_0) sl26, RdS.idx (OS.rd how10_2_0) sl26, RdS.cellN (OS.rd how10_2_0), RdS.cells (OS.rd how10_2_0), RdS.len (OS.rd hN) sl26, RdS.idx (OS.rd hN) sl26, RdS.cellN (OS.rd hN), RdS.cells (OS.rd hN), RdS.len hr13 sl22, RdS.idx hr13 sl22, R1.intB hr13 (Ext.pres xr14), RdS.cells hr13, wrap_id, hwd]
     refine CallA.pure (sLead_ok _ ((ech p (longP R)).getD k default) _ (RdS.pres hr13 (Ext.pres xr14))) ?_
     try simp -implicitDefEqProofs (disch := first | decide | assumption | omega) only [go_sem, RdS.len rR sl26, RdS.idx rR sl26, RdS.cellB rR (Ext.pres eB), RdS.cells rR, RdS.len (OS.rd how10_2_0) sl26, RdS.idx (OS.rd how10_2_0) sl26, RdS.cellN (OS.rd how10_2_0), RdS.cells (OS.rd how10_2_0), RdS.len (OS.rd hN) sl26, RdS.idx (OS.rd hN) sl26, RdS.cellN (OS.rd hN), RdS.cells (OS.rd hN), RdS.len hr13 sl22, RdS.idx hr13 sl22, R1.intB hr13 (Ext.pres xr14), RdS.cells hr13, wrap_id, hwd]
     refine hK _ _ ?_
     clear hK K
     refine den_cond rfl (fun c2 => ?_) (fun c2 => ?_)
     ·try simp only [decide_eq_true_eq, decide_eq_false_iff_not, beq_iff_eq, beq_eq_false_iff_ne, bne_iff_ne, ne_eq, Bool.not_eq_true', Bool.not_eq_false', Bool.and_eq_true, Bool.or_eq_true, bne_eq_false_iff_eq] at c2
      obtain ⟨vs, hes, hRs⟩ := RdS.dropV (k := .i64) (RdS.rowN (OS.rd how10_2_0) k (by omega)) sl22 (lo := (w : Int)) (by omega) (by have := hrE.len k (by omega); omega)
      rw [Int.toNat_natCast] at hRs
      have hdl_ : (((ech p (longP R)).getD k default).drop w).length ≤ 1000 := by rw [List.length_drop]; have := hrE.len k (by omega); omega
      refine den_region TTok ?_
      intro K hK
      have hr15 := RdS.rowN (OS.rd how10_2_0) k (by omega)
      have hlhr15 := RdS.le hr15
      have xr16 := Ext.refl h12
      simp -implicitDefEqProofs (disch := first | decide | assumption | omega) only [go_sem, ld22, RdS.len rR sl26, RdS.idx rR sl26, RdS.cellB rR (Ext.pres eB), RdS.cells rR, RdS.len (OS.rd how10_2_0) sl26, RdS.idx (OS.rd how10_2_0) sl26, RdS.cellN (OS.rd how10_2_0), RdS.cells (OS.rd how10_2_0), RdS.len (OS.rd hN) sl26, RdS.idx (OS.rd hN) sl26, RdS.cellN (OS.rd hN), RdS.cells (OS.rd hN), RdS.len hr13 sl22, RdS.idx hr13 sl22, R1.intB hr13 (Ext.pres xr14), RdS.cells hr13, RdS.len hr15 sl22, RdS.idx hr15 sl22, R1.intB hr15 (Ext.pres xr16), RdS.cells hr15, wrap_id, hwd, hes, Option.map_some, Option.map_none]
      try simp -implicitDefEqProofs (disch := first | decide | assumption | omega) only [go_sem, RdS.len rR sl26, RdS.idx rR sl26, RdS.cellB rR (Ext.pres eB), RdS.cells rR, RdS.len (OS.rd how10_2_0) sl26, RdS.idx (OS.rd how10_2_0) sl26, RdS.cellN (OS.rd how10_2_0), RdS.cells (OS.rd how10_2_0), RdS.len (OS.rd hN) sl26, RdS.idx (OS.rd hN) sl26, RdS.cellN (OS.rd hN), RdS.cells (OS.rd hN), RdS.len hr13 sl22, RdS.idx hr13 sl22, R1.intB hr13 (Ext.pres xr14), RdS.cells hr13, RdS.len hr15 sl22, RdS.idx hr15 sl22, R1.intB hr15 (Ext.pres xr16), RdS.cells hr15, wrap_id, hwd, hes, Option.map_some, Option.map_none]
      refine CallA.mono (sOwn_ok _ (((ech p (longP R)).getD k default).drop w) _ hRs (by omega)) ?_
      intro vw15_7_0 h15_7
      rintro ⟨zvw15_7_0, fw15_7_0, rfl, how15_7_0, hfw15_7_0, e15_7⟩
      replace how10_2_0 := OS.ext how10_2_0 e15_7
      replace hN := OS.ext hN e15_7
      have := Ext.size e15_7
      replace eB := Ext.trans eB e15_7
      replace xr14 := Ext.trans xr14 e15_7
      replace xr16 := Ext.trans xr16 e15_7
      replace cL10 := Chg.stepE cL10 e15_7
      have hlhow15_7_0 := OS.lt how15_7_0
      try simp -implicitDefEqProofs (disch := first | decide | assumption | omega) only [go_sem, RdS.len rR sl26, RdS.idx rR sl26, RdS.cellB rR (Ext.pres eB), RdS.cells rR, RdS.len (OS.rd how10_2_0) sl26, RdS.idx (OS.rd how10_2_0) sl26, RdS.cellN (OS.rd how10_2_0), RdS.cells (OS.rd how10_2_0), RdS.len (OS.rd hN) sl26, RdS.idx (OS.rd hN) sl26, RdS.cellN (OS.rd hN), RdS.cells (OS.rd hN), RdS.len (OS.rd how15_7_0) sl22, RdS.idx (OS.rd how15_7_0) sl22, R1.intN (OS.rd how15_7_0), RdS.cells (OS.rd how15_7_0), RdS.len hr13 sl22, RdS.idx hr13 sl22, R1.intB hr13 (Ext.pres xr14), RdS.cells hr13, RdS.len hr15 sl22, RdS.idx hr15 sl22, R1.intB hr15 (Ext.pres xr16), RdS.cells hr15, wrap_id, hwd, hes, Option.map_some, Option.map_none]
      refine op_bs1 sz26 rfl (OS.one how15_7_0).2 ?_
      try simp -implicitDefEqProofs (disch := first | decide | assumption | omega) only [go_sem, RdS.len rR sl26, RdS.idx rR sl26, RdS.cellB rR (Ext.pres eB), RdS.cells rR, RdS.len (OS.rd how10_2_0) sl26, RdS.idx (OS.rd how10_2_0) sl26, RdS.cellN (OS.rd how10_2_0), RdS.cells (OS.rd how10_2_0), RdS.len (OS.rd hN) sl26, RdS.idx (OS.rd hN) sl26, RdS.cellN (OS.rd hN), RdS.cells (OS.rd hN), RdS.len (OS.rd how15_7_0) sl22, RdS.idx (OS.rd how15_7_0) sl22, R1.intN (OS.rd how15_7_0), RdS.cells (OS.rd how15_7_0), RdS.len hr13 sl22, RdS.idx hr13 sl22, R1.intB hr13 (Ext.pres xr14), RdS.cells hr13, RdS.len hr15 sl22, RdS.idx hr15 sl22, R1.intB hr15 (Ext.pres xr16), RdS.cells hr15, wrap_id, hwd, hes, Option.map_some, Option.map_none]
      refine op_append1 sz26 hN hfhN.nodup how15_7_0 hfw15_7_0.nodup (apart_lt hlhN hfw15_7_0 (by omega)) (by first | omega | (simp; omega)) rfl rfl ?_
      intro v15_9 h15_9 fp15_9 ho15_9 hn15_9 hs15_9 c15_9
      have hsz15_9 := c15_9.size
      have hfho15_9 : Fresh h10_2.size fp15_9 := Fresh.appd hfhN hfw15_7_0 (by omega) (by omega) hn15_9 hs15_9
      have sb17 : Sub [h10_2.size] h10_3.size fp15_9 := Sub.grow sbhN (Sub.fresh hfw15_7_0 (by omega)) (by omega) hs15_9
      replace how10_2_0 := OS.chg how10_2_0 c15_9 (apart_lt hlhow10_2_0 hfhN (by omega))
      have := c15_9.size
      replace eB := Ext.then eB c15_9 (ge_of hfhN (by omega))
      replace cL10 := Chg.step cL10 c15_9 sbhN
      have hlho15_9 := OS.lt ho15_9
      try simp -implicitDefEqProofs (disch := first | decide | assumption | omega) only [go_sem, RdS.len rR sl26, RdS.idx rR sl26, RdS.cellB rR (Ext.pres eB), RdS.cells rR, RdS.len (OS.rd how10_2_0) sl26, RdS.idx (OS.rd how10_2_0) sl26, RdS.cellN (OS.rd how10_2_0), RdS.cells (OS.rd how10_2_0), RdS.len (OS.rd ho15_9) sl26, RdS.idx (OS.rd ho15_9) sl26, RdS.cellN (OS.rd ho15_9), RdS.cells (OS.rd ho15_9), wrap_id, hwd, hes, Option.map_some, Option.map_none]
      refine hK _ _ ?_
      clear hK K
      refine den_blk ?_
      refine den_region TTok ?_
      intro K hK
      simp -implicitDefEqProofs (disch := first | decide | assumption | omega) only [go_sem, RdS.len rR sl26, RdS.idx rR sl26, RdS.cellB rR (Ext.pres eB), RdS.cells rR, RdS.len (OS.rd how10_2_0) sl26, RdS.idx (OS.rd how10_2_0) sl26, RdS.cellN (OS.rd how10_2_0), RdS.cells (OS.rd how10_2_0), RdS.len (OS.rd ho15_9) sl26, RdS.idx (OS.rd ho15_9) sl26, RdS.cellN (OS.rd ho15_9), RdS.cells (OS.rd ho15_9), wrap_id]
      refine hK _ _ ?_
      clear hK K
      refine den_stop ?_
      first | rw [fm_yes (f := (fun r : List Int => decide ((w : Int) ≤ leadP r))) (g := (fun r : List Int => r.drop w)) (by omega) (decide_eq_true (by have h1 := c2; omega))] at ho15_9 | rw [fm_no (f := (fun r : List Int => decide ((w : Int) ≤ leadP r))) (g := (fun r : List Int => r.drop w)) (d := default) (by omega) (decide_eq_false (by have h1 := c2; omega))] at ho15_9
      exact ⟨(k + 1, v15_9, fp15_9), by simp [HasL, puts_at, hwd], ⟨by first | omega | (dsimp only; omega), ho15_9, hfho15_9, sb17, cL10⟩, by first | omega | (dsimp only; omega)⟩
     ·try simp only [decide_eq_true_eq, decide_eq_false_iff_not, beq_iff_eq, beq_eq_false_iff_ne, bne_iff_ne, ne_eq, Bool.not_eq_true', Bool.not_eq_false', Bool.and_eq_true, Bool.or_eq_true, bne_eq_false_iff_eq] at c2
      refine den_skip ?_
      refine den_blk ?_
      refine den_region TTok ?_
      intro K hK
      simp -implicitDefEqProofs (disch := first | decide | assumption | omega) only [go_sem, RdS.len rR sl26, RdS.idx rR sl26, RdS.cellB rR (Ext.pres eB), RdS.cells rR, RdS.len (OS.rd how10_2_0) sl26, RdS.idx (OS.rd how10_2_0) sl26, RdS.cellN (OS.rd how10_2_0), RdS.cells (OS.rd how10_2_0), RdS.len (OS.rd hN) sl26, RdS.idx (OS.rd hN) sl26, RdS.cellN (OS.rd hN), RdS.cells (OS.rd hN), RdS.len hr13 sl22, RdS.idx hr13 sl22, R1.intB hr13 (Ext.pres xr14), RdS.cells hr13, wrap_id]
      refine hK _ _ ?_
      clear hK K
      refine den_stop ?_
      first | rw [fm_yes (f := (fun r : List Int => decide ((w : Int) ≤ leadP r))) (g := (fun r : List Int => r.drop w)) (by omega) (decide_eq_true (by have h1 := c2; omega))] at hN | rw [fm_no (f := (fun r : List Int => decide ((w : Int) ≤ leadP r))) (g := (fun r : List Int => r.drop w)) (d := default) (by omega) (decide_eq_false (by have h1 := c2; omega))] at hN
      exact ⟨(k + 1, vhN, fphN), by simp [HasL, puts_at, hwd], ⟨by first | omega | (dsimp only; omega), hN, hfhN, sbhN, cL10⟩, by first | omega | (dsimp only; omega)⟩
    ·try simp only [decide_eq_true_eq, decide_eq_false_iff_not, beq_iff_eq, beq_eq_false_iff_ne, bne_iff_ne, ne_eq, Bool.not_eq_true', Bool.not_eq_false', Bool.and_eq_true, Bool.or_eq_true, bne_eq_false_iff_eq] at c1
     refine den_exit ?_
     refine denX_code ?_
     refine denX_stop ?_
     refine denX_hit ?_
     refine den_seq ?_
     refine den_region TTok ?_
     intro K hK
     simp -implicitDefEqProofs (disch := first | decide | assumption | omega) only [go_sem, RdS.len rR sl26, RdS.idx rR sl26, RdS.cellB rR (Ext.pres eB), RdS.cells rR, RdS.len (OS.rd hN) sl26, RdS.idx (OS.rd hN) sl26, RdS.cellN (OS.rd hN), RdS.cells (OS.rd hN), wrap_id]
     refine hK _ _ ?_
     clear hK K
     refine den_ret ?_
     simp (disch := decide) only [resP_1, puts_same, puts_ne]
     have hec : kerQ p R = (((ech p (longP R)).take k).filter (fun r : List Int => decide ((w : Int) ≤ leadP r))).map (fun r : List Int => r.drop w) := by
      by_cases e_ : R = []
      ·subst e_
       rw [kerQ_nil hp.1, List.length_eq_zero_iff.1 (hE0 rfl)]; simp
      ·rw [kerQ_w hT e_, kerP, List.take_of_length_le (i := k) (by omega)]
     rw [hec]
     exact ⟨_, _, rfl, hN, hfhN.mono (by omega), eB⟩

set_option maxRecDepth 100000 in
theorem iBnd_ok (vX : Value) (X : Cx) (n : Int) (h : Heap) (rX : RC h vX X) (hC : IsC X) (hn : 0 ≤ n ∧ n ≤ 1000) : CallA Try.prog 147 #[vX, .int .i64 n] h fun v' h' => ∃ w0 f0, v' = w0 ∧ O2 h' w0 (bndP X n) f0 ∧ Fresh h.size f0 ∧ Ext h h' := by
 obtain ⟨vdX, vmX, rfl, hdX, hmX⟩ := rX
 have hledX := RdS.le hdX
 have hlemX := RdS.le hmX
 have hml := hC.ml
 have hlX := hC.len
 have hpb := isP_bnd hC.p
 refine callA_intro TTok (args := [_, _]) Try.func147 (by kernel_rfl) rfl 21 rfl (by simp) [.tmp 4] rfl ?_
 simp only [idxs, Nat.reduceAdd]
 refine den_seq ?_
 refine den_region TTok ?_
 intro K hK
 simp -implicitDefEqProofs (disch := first | decide | assumption | omega) only [go_sem, RdS.len hdX sl22, RdS.idx hdX sl22, R1.intB hdX (HPres.refl _), RdS.cells hdX, RdS.len hmX sl23, RdS.idx hmX sl23, RdS.cellB hmX (HPres.refl _), RdS.cells hmX, wrap_id]
 refine op_box (cs := #[.int .i64 (X.p), vdX, vmX]) rfl ?_
 intro h0_0 e0_0 hb0_0 z0_0
 have := Ext.size e0_0
 have eB := e0_0
 have hfhb0_0 : Fresh h.size [h.size] := Fresh.one _
 have hlhb0_0 := one_lt (show h.size < h0_0.size by omega)
 try simp -implicitDefEqProofs (disch := first | decide | assumption | omega) only [go_sem, RdS.len hdX sl22, RdS.idx hdX sl22, R1.intB hdX (Ext.pres eB), RdS.cells hdX, RdS.len hmX sl23, RdS.idx hmX sl23, RdS.cellB hmX (Ext.pres eB), RdS.cells hmX, BoxAt.cell hb0_0, wrap_id]
 refine hK _ _ ?_
 clear hK K
 refine den_seq ?_
 refine den_seq ?_
 refine den_merge [(12, .bool (((decide (n < (0 : Int))) || (decide ((((X.dims).length : Int) - 1) ≤ n)))))] [1, 2] (fun H => Ext h0_0 H) ?_ ?_
  -- a way
 ·refine den_region TTok ?_
  intro K hK
  simp -implicitDefEqProofs (disch := first | decide | assumption | (simp (disch := decide) only [slotOf_zero, slotOf_succ, Option.map_some, puts_same, puts_ne, gv_bool, gv_undef, tt, tf, ft, ff, eq_self, if_true, if_false, Bool.false_eq_true, Bool.not_true, Bool.not_false]; done) | omega) only [go_sem, RdS.len hdX sl22, RdS.idx hdX sl22, R1.intB hdX (Ext.pres eB), RdS.cells hdX, RdS.len hmX sl23, RdS.idx hmX sl23, RdS.cellB hmX (Ext.pres eB), RdS.cells hmX, BoxAt.cell hb0_0, wrap_id]
  refine opsP_F (by simp (disch := decide) only [slotOf_zero, slotOf_succ, Option.map_some, puts_same, puts_ne, gv_bool, gv_undef, tt, tf, ft, ff, eq_self, if_true, if_false, Bool.false_eq_true, Bool.not_true, Bool.not_false]; rfl) (fun g1 => ?_) (fun g1 => ?_)
  ·try simp -implicitDefEqProofs (disch := first | decide | assumption | (simp (disch := decide) only [slotOf_zero, slotOf_succ, Option.map_some, puts_same, puts_ne, gv_bool, gv_undef, tt, tf, ft, ff, eq_self, if_true, if_false, Bool.false_eq_true, Bool.not_true, Bool.not_false, g1]; done) | omega) only [go_sem, ld31, RdS.len hdX sl22, RdS.idx hdX sl22, R1.intB hdX (Ext.pres eB), RdS.cells hdX, RdS.len hmX sl23, RdS.idx hmX sl23, RdS.cellB hmX (Ext.pres eB), RdS.cells hmX, BoxAt.cell hb0_0, wrap_id, g1, eq_self, if_true, if_false, Bool.false_eq_true]
   try simp -implicitDefEqProofs (disch := first | decide | assumption | omega) only [go_sem, RdS.len hdX sl22, RdS.idx hdX sl22, R1.intB hdX (Ext.pres eB), RdS.cells hdX, RdS.len hmX sl23, RdS.idx hmX sl23, RdS.cellB hmX (Ext.pres eB), RdS.cells hmX, BoxAt.cell hb0_0, wrap_id]
   refine CallA.mono (top_ok _ X _ ⟨_, _, rfl, (RdS.pres hdX (Ext.pres eB)), (RdS.pres hmX (Ext.pres eB))⟩) ?_
   intro v_ h1_5
   rintro ⟨rfl, e1_5⟩
   replace hb0_0 := BoxAt.ext hb0_0 e1_5
   have := Ext.size e1_5
   replace eB := Ext.trans eB e1_5
   try simp -implicitDefEqProofs (disch := first | decide | assumption | (simp (disch := decide) only [slotOf_zero, slotOf_succ, Option.map_some, puts_same, puts_ne, gv_bool, gv_undef, tt, tf, ft, ff, eq_self, if_true, if_false, Bool.false_eq_true, Bool.not_true, Bool.not_false, g1]; done) | omega) only [go_sem, RdS.len hdX sl22, RdS.idx hdX sl22, R1.intB hdX (Ext.pres eB), RdS.cells hdX, RdS.len hmX sl23, RdS.idx hmX sl23, RdS.cellB hmX (Ext.pres eB), RdS.cells hmX, BoxAt.cell hb0_0, wrap_id, g1, eq_self, if_true, if_false, Bool.false_eq_true]
   refine hK _ _ ?_
   clear hK K
   refine den_stop ?_
   refine ⟨?_, e1_5⟩
   first | (simp (disch := decide) only [go_sem, g1, eq_self, Bool.true_and, Bool.and_true, Bool.false_and, Bool.and_false, Bool.true_or, Bool.or_true, Bool.false_or, Bool.or_false, if_true, if_false, Bool.false_eq_true]; done) | simp [HasL, sel, puts_at, g1]
  ·try simp -implicitDefEqProofs (disch := first | decide | assumption | (simp (disch := decide) only [slotOf_zero, slotOf_succ, Option.map_some, puts_same, puts_ne, gv_bool, gv_undef, tt, tf, ft, ff, eq_self, if_true, if_false, Bool.false_eq_true, Bool.not_true, Bool.not_false, g1]; done) | omega) only [go_sem, RdS.len hdX sl22, RdS.idx hdX sl22, R1.intB hdX (Ext.pres eB), RdS.cells hdX, RdS.len hmX sl23, RdS.idx hmX sl23, RdS.cellB hmX (Ext.pres eB), RdS.cells hmX, BoxAt.cell hb0_0, wrap_id, g1, eq_self, if_true, if_false, Bool.false_eq_true]
   refine hK _ _ ?_
   clear hK K
   refine den_stop ?_
   refine ⟨?_, Ext.refl _⟩
   first | (simp (disch := decide) only [go_sem, g1, eq_self, Bool.true_and, Bool.and_true, Bool.false_and, Bool.and_false, Bool.true_or, Bool.or_true, Bool.false_or, Bool.or_false, if_true, if_false, Bool.false_eq_true]; done) | simp [HasL, sel, puts_at, g1]
 intro en2 h3 e4
 replace hb0_0 := BoxAt.ext hb0_0 e4
 have := Ext.size e4
 replace eB := Ext.trans eB e4
 simp (disch := decide) only [go_sem]
 refine den_cond rfl (fun c0 => ?_) (fun c0 => ?_)
 ·try simp only [decide_eq_true_eq, decide_eq_false_iff_not, beq_iff_eq, beq_eq_false_iff_ne, bne_iff_ne, ne_eq, Bool.not_eq_true', Bool.not_eq_false', Bool.and_eq_true, Bool.or_eq_true, bne_eq_false_iff_eq, Bool.or_eq_false_iff, Bool.or_eq_true] at c0
  refine den_seq ?_
  refine den_region TTok ?_
  intro K hK
  simp -implicitDefEqProofs (disch := first | decide | assumption | omega) only [go_sem, RdS.len hdX sl22, RdS.idx hdX sl22, R1.intB hdX (Ext.pres eB), RdS.cells hdX, RdS.len hmX sl23, RdS.idx hmX sl23, RdS.cellB hmX (Ext.pres eB), RdS.cells hmX, wrap_id]
  refine hK _ _ ?_
  clear hK K
  refine den_ret ?_
  simp (disch := decide) only [resP_1, puts_same, puts_ne]
  have hz := bndP_out hC (n := n) (by omega) (by first | omega | (rcases c0 with h | h <;> omega))
  rw [hz]
  exact ⟨.slice none 0 0, [], rfl, OS.nil, Fresh.nil _, eB⟩
 ·try simp only [decide_eq_true_eq, decide_eq_false_iff_not, beq_iff_eq, beq_eq_false_iff_ne, bne_iff_ne, ne_eq, Bool.not_eq_true', Bool.not_eq_false', Bool.and_eq_true, Bool.or_eq_true, bne_eq_false_iff_eq, Bool.or_eq_false_iff, Bool.or_eq_true] at c0
  refine den_skip ?_
  refine den_seq ?_
  have hmt := mapP_tbl hC (n + 1)
  rw [mapP_in (by omega) (by omega), Int.add_sub_cancel] at hmt
  have hP := hC.p
  have hredT := hmt.2
  rw [if_pos (show 1 ≤ n + 1 by omega)] at hredT
  have hkw := dimP_bnd hC n
  have hkd := dimP_bnd hC (n + 1)
  have hkl : (X.maps.getD n.toNat default).length ≤ 8 := by have := hmt.1; omega
  refine den_draw TTok mixed [] [(0, true), (1, true), (2, true), (3, true), (4, true), (5, true), (6, true), (7, false), (8, true)] (by kernel_rfl) ?_
  intro K hK
  have hr5 := RdS.rowN hmX (n).toNat (by omega)
  have hlhr5 := RdS.le hr5
  simp -implicitDefEqProofs (disch := first | decide | assumption | omega) only [go_sem, fa31_0, fa31_2, ld23, ld26, ld2, RdS.len hdX sl22, RdS.idx hdX sl22, R1.intB hdX (Ext.pres eB), RdS.cells hdX, RdS.len hmX sl23, RdS.idx hmX sl23, RdS.cellB hmX (Ext.pres eB), RdS.cells hmX, RdS.len hr5 sl26, RdS.idx hr5 sl26, RdS.cellB hr5 (Ext.pres eB), RdS.cells hr5, BoxAt.cell hb0_0, wrap_id]
  try simp -implicitDefEqProofs (disch := first | decide | assumption | omega) only [go_sem, RdS.len hdX sl22, RdS.idx hdX sl22, R1.intB hdX (Ext.pres eB), RdS.cells hdX, RdS.len hmX sl23, RdS.idx hmX sl23, RdS.cellB hmX (Ext.pres eB), RdS.cells hmX, RdS.len hr5 sl26, RdS.idx hr5 sl26, RdS.cellB hr5 (Ext.pres eB), RdS.cells hr5, BoxAt.cell hb0_0, wrap_id]
  refine CallA.mono (iReduce_ok _ X.p ((X.maps).getD (n).toNat default) _ (RdS.pres hr5 (Ext.pres eB)) hP hredT (by omega) (by omega)) ?_
  intro vw3_7_0 h3_7
  rintro ⟨zvw3_7_0, fw3_7_0, rfl, how3_7_0, hfw3_7_0, e3_7⟩
  replace hb0_0 := BoxAt.ext hb0_0 e3_7
  have := Ext.size e3_7
  replace eB := Ext.trans eB e3_7
  have hlhow3_7_0 := OS.lt how3_7_0
  try simp (disch := decide) only [outv_some, outv_none, put_puts]
  refine plK_pres (Ext.pres e3_7) ?_
  try simp -implicitDefEqProofs (disch := first | decide | assumption | omega) only [go_sem, RdS.len hdX sl22, RdS.idx hdX sl22, R1.intB hdX (Ext.pres eB), RdS.cells hdX, RdS.len hmX sl23, RdS.idx hmX sl23, RdS.cellB hmX (Ext.pres eB), RdS.cells hmX, RdS.len hr5 sl26, RdS.idx hr5 sl26, RdS.cellB hr5 (Ext.pres eB), RdS.cells hr5, RdS.len (OS.rd how3_7_0) sl26, RdS.idx (OS.rd how3_7_0) sl26, RdS.cellN (OS.rd how3_7_0), RdS.cells (OS.rd how3_7_0), BoxAt.cell hb0_0, wrap_id]
  refine hK _ _ ?_
  clear hK K
  refine den_ret ?_
  simp (disch := decide) only [resP_1, puts_same, puts_ne]
  have hz := bndP_in (X := X) (n := n) (by omega) (by omega)
  rw [hz]
  exact ⟨_, _, rfl, how3_7_0, hfw3_7_0.mono (by omega), eB⟩

set_option maxRecDepth 100000 in
theorem sBnd_ok (vX : Value) (X : Cx) (n : Int) (h : Heap) (rX : RC h vX X) (hC : IsC X) (hn : 0 ≤ n ∧ n ≤ 1000) : CallA Try.prog 144 #[vX, .int .i64 n] h fun v' h' => ∃ w0 f0, v' = w0 ∧ O2 h' w0 (bndP X n) f0 ∧ Fresh h.size f0 ∧ Ext h h' := by
 obtain ⟨vdX, vmX, rfl, hdX, hmX⟩ := rX
 have hledX := RdS.le hdX
 have hlemX := RdS.le hmX
 have hP := hC.p
 have hmt := mapP_tbl hC (n + 1)
 have hredT := hmt.2
 have hkl := mapP_len hC (n + 1)
 have hkw : (if 1 ≤ n + 1 then (dimP X (n + 1 - 1)).toNat else 0) ≤ 8 := mapW_le hC (n + 1)
 refine callA_intro TTok (args := [_, _]) Try.func144 (by kernel_rfl) rfl 12 rfl (by simp) [.tmp 4] rfl ?_
 simp only [idxs, Nat.reduceAdd]
 refine den_seq ?_
 refine den_region TTok ?_
 intro K hK
 simp -implicitDefEqProofs (disch := first | decide | assumption | omega) only [go_sem, RdS.len hdX sl22, RdS.idx hdX sl22, R1.intB hdX (HPres.refl _), RdS.cells hdX, RdS.len hmX sl23, RdS.idx hmX sl23, RdS.cellB hmX (HPres.refl _), RdS.cells hmX, wrap_id]
 refine op_box (cs := #[.int .i64 (X.p), vdX, vmX]) rfl ?_
 intro h0_0 e0_0 hb0_0 z0_0
 have := Ext.size e0_0
 have eB := e0_0
 have hfhb0_0 : Fresh h.size [h.size] := Fresh.one _
 have hlhb0_0 := one_lt (show h.size < h0_0.size by omega)
 try simp -implicitDefEqProofs (disch := first | decide | assumption | omega) only [go_sem, RdS.len hdX sl22, RdS.idx hdX sl22, R1.intB hdX (Ext.pres eB), RdS.cells hdX, RdS.len hmX sl23, RdS.idx hmX sl23, RdS.cellB hmX (Ext.pres eB), RdS.cells hmX, BoxAt.cell hb0_0, wrap_id]
 refine hK _ _ ?_
 clear hK K
 refine den_seq ?_
 refine den_draw TTok mixed [] [(0, true), (1, true), (2, true), (3, true), (4, true), (5, false), (6, false), (7, true)] (by kernel_rfl) ?_
 intro K hK
 simp -implicitDefEqProofs (disch := first | decide | assumption | omega) only [go_sem, fa31_0, ld2, ld31, RdS.len hdX sl22, RdS.idx hdX sl22, R1.intB hdX (Ext.pres eB), RdS.cells hdX, RdS.len hmX sl23, RdS.idx hmX sl23, RdS.cellB hmX (Ext.pres eB), RdS.cells hmX, BoxAt.cell hb0_0, wrap_id]
 try simp -implicitDefEqProofs (disch := first | decide | assumption | omega) only [go_sem, RdS.len hdX sl22, RdS.idx hdX sl22, R1.intB hdX (Ext.pres eB), RdS.cells hdX, RdS.len hmX sl23, RdS.idx hmX sl23, RdS.cellB hmX (Ext.pres eB), RdS.cells hmX, BoxAt.cell hb0_0, wrap_id]
 refine CallA.mono (sMap_ok _ X (n + (1 : Int)) _ ⟨_, _, rfl, (RdS.pres hdX (Ext.pres eB)), (RdS.pres hmX (Ext.pres eB))⟩ hC) ?_
 intro vw1_5_0 h1_5
 rintro ⟨zvw1_5_0, rfl, hrw1_5_0, e1_5⟩
 replace hb0_0 := BoxAt.ext hb0_0 e1_5
 have := Ext.size e1_5
 replace eB := Ext.trans eB e1_5
 have xrw1_5_0 := Ext.refl h1_5
 have hlrw1_5_0 := RdS.le hrw1_5_0
 try simp (disch := decide) only [outv_some, outv_none, put_puts]
 refine plK_pres (Ext.pres e1_5) ?_
 try simp -implicitDefEqProofs (disch := first | decide | assumption | omega) only [go_sem, RdS.len hdX sl22, RdS.idx hdX sl22, R1.intB hdX (Ext.pres eB), RdS.cells hdX, RdS.len hmX sl23, RdS.idx hmX sl23, RdS.cellB hmX (Ext.pres eB), RdS.cells hmX, BoxAt.cell hb0_0, RdS.len hrw1_5_0 sl26, RdS.idx hrw1_5_0 sl26, RdS.cellB hrw1_5_0 (Ext.pres xrw1_5_0), RdS.cells hrw1_5_0, wrap_id]
 try simp -implicitDefEqProofs (disch := first | decide | assumption | omega) only [go_sem, RdS.len hdX sl22, RdS.idx hdX sl22, R1.intB hdX (Ext.pres eB), RdS.cells hdX, RdS.len hmX sl23, RdS.idx hmX sl23, RdS.cellB hmX (Ext.pres eB), RdS.cells hmX, BoxAt.cell hb0_0, RdS.len hrw1_5_0 sl26, RdS.idx hrw1_5_0 sl26, RdS.cellB hrw1_5_0 (Ext.pres xrw1_5_0), RdS.cells hrw1_5_0, wrap_id]
 refine CallA.mono (sEch_ok _ X.p (mapP X (n + (1 : Int))) _ (RdS.pres hrw1_5_0 (Ext.pres xrw1_5_0)) hP hredT (by omega) (by omega)) ?_
 intro vw1_6_0 h1_6
 rintro ⟨zvw1_6_0, fw1_6_0, rfl, how1_6_0, hfw1_6_0, e1_6⟩
 replace hb0_0 := BoxAt.ext hb0_0 e1_6
 have := Ext.size e1_6
 replace eB := Ext.trans eB e1_6
 replace xrw1_5_0 := Ext.trans xrw1_5_0 e1_6
 have hlhow1_6_0 := OS.lt how1_6_0
 try simp (disch := decide) only [outv_some, outv_none, put_puts]
 refine plK_pres (Ext.pres e1_6) ?_
 try simp -implicitDefEqProofs (disch := first | decide | assumption | omega) only [go_sem, RdS.len hdX sl22, RdS.idx hdX sl22, R1.intB hdX (Ext.pres eB), RdS.cells hdX, RdS.len hmX sl23, RdS.idx hmX sl23, RdS.cellB hmX (Ext.pres eB), RdS.cells hmX, RdS.len (OS.rd how1_6_0) sl26, RdS.idx (OS.rd how1_6_0) sl26, RdS.cellN (OS.rd how1_6_0), RdS.cells (OS.rd how1_6_0), BoxAt.cell hb0_0, RdS.len hrw1_5_0 sl26, RdS.idx hrw1_5_0 sl26, RdS.cellB hrw1_5_0 (Ext.pres xrw1_5_0), RdS.cells hrw1_5_0, wrap_id]
 refine hK _ _ ?_
 clear hK K
 refine den_ret ?_
 simp (disch := decide) only [resP_1, puts_same, puts_ne]
 exact ⟨_, _, rfl, how1_6_0, hfw1_6_0.mono (by omega), eB⟩
end Go.Proofs.Ytjjjgllbocgkbaa

namespace Go.Proofs.Ytjjjgllbocgkbaa
open Go
def posI : List Int → Int → Int
 | [], _ => -1
 | x :: r, v => if x = v then 0 else if posI r v < 0 then -1 else posI r v + 1
theorem posI_ge (v : Int) : ∀ xs : List Int, -1 ≤ posI xs v ∧ posI xs v < xs.length
 | [] => by simp [posI]
 | x :: r => by
  have := posI_ge v r
  rw [posI]
  simp only [List.length_cons]
  split
  ·omega
  ·split <;> omega
theorem posI_hit {v : Int} : ∀ {xs : List Int} {s : Nat}, (∀ q, q < s → xs.getD q 0 ≠ v) → s < xs.length → xs.getD s 0 = v → posI xs v = s
 | [], s, _, hs, _ => by simp at hs
 | x :: r, 0, _, _, h => by rw [posI, if_pos (by simpa using h)]; rfl
 | x :: r, s + 1, h, hs, e => by
  have h0 : x ≠ v := by simpa using h 0 (by omega)
  have := posI_hit (xs := r) (s := s) (fun q hq => by simpa using h (q + 1) (by omega)) (by simpa using hs) (by simpa using e)
  rw [posI, if_neg h0, if_neg (by omega), this]; omega
theorem posI_none {v : Int} : ∀ {xs : List Int}, (∀ q, q < xs.length → xs.getD q 0 ≠ v) → posI xs v = -1
 | [], _ => rfl
 | x :: r, h => by
  have h0 : x ≠ v := by simpa using h 0 (by simp)
  have := posI_none (xs := r) (fun q hq => by simpa using h (q + 1) (by simpa using hq))
  rw [posI, if_neg h0, if_pos (by omega)]
theorem posI_get {v : Int} : ∀ {xs : List Int}, 0 ≤ posI xs v → xs.getD (posI xs v).toNat 0 = v
 | [], h => by simp [posI] at h
 | x :: r, h => by
  rw [posI] at h ⊢
  split
  ·rename_i e; simpa using e
  ·rename_i e
   rw [if_neg e] at h
   split at h
   ·omega
   ·rename_i h2
    have := posI_get (xs := r) (v := v) (by omega)
    rw [if_neg h2, show (posI r v + 1).toNat = (posI r v).toNat + 1 by omega, List.getD_cons_succ]
    exact this
theorem posI_mem {v : Int} {xs : List Int} : 0 ≤ posI xs v ↔ v ∈ xs := by
 constructor
 ·intro h
  have h1 := posI_get h
  have h2 := posI_ge v xs
  rw [← h1, List.getD_eq_getElem?_getD, List.getElem?_eq_getElem (by omega)]
  exact List.getElem_mem _
 ·intro h
  by_cases hc : 0 ≤ posI xs v
  ·exact hc
  ·exfalso
   induction xs with
   | nil => cases h
   | cons x r ih =>
    rw [posI] at hc
    split at hc
    ·exact hc (Int.le_refl 0)
    ·rename_i e
     have h3 : v ∈ r := (List.mem_cons.1 h).resolve_left (fun q => e q.symm)
     split at hc
     ·exact ih h3 (by omega)
     ·omega
def farT (X : Fl) (m t : Int) (k : Nat) : List Int := ((List.range k).filter fun i : Nat => !decide (lvP X m (i : Int) ≤ t)).map fun i : Nat => (i : Int)
def farP (X : Fl) (m t : Int) : List Int := farT X m t (dimP X.c m).toNat
theorem farT_yes {X : Fl} {m t : Int} {k : Nat} (h : ¬ lvP X m (k : Int) ≤ t) : farT X m t k ++ [(k : Int)] = farT X m t (k + 1) := by
 unfold farT
 rw [List.range_succ, List.filter_append, List.map_append]
 simp [h]
theorem farT_no {X : Fl} {m t : Int} {k : Nat} (h : lvP X m (k : Int) ≤ t) : farT X m t k = farT X m t (k + 1) := by
 unfold farT
 rw [List.range_succ, List.filter_append, List.map_append]
 simp [h]
theorem farT_len (X : Fl) (m t : Int) (k : Nat) : (farT X m t k).length ≤ k := by
 unfold farT
 rw [List.length_map]
 exact Nat.le_trans (List.length_filter_le _ _) (by simp)
theorem farT_at {X : Fl} {m t : Int} {n k : Nat} (hk : k < (farT X m t n).length) : ∃ i : Nat, (farT X m t n).getD k 0 = (i : Int) ∧ i < n := by
 have h : (farT X m t n)[k] ∈ farT X m t n := List.getElem_mem hk
 obtain ⟨i, hi, e⟩ := List.mem_map.1 h
 rw [List.mem_filter, List.mem_range] at hi
 exact ⟨i, by rw [List.getD_eq_getElem?_getD, List.getElem?_eq_getElem hk]; exact e.symm, hi.1⟩
theorem far_idx {X : Fl} {m t : Int} {i : Nat} (hi : (i : Int) < dimP X.c m) : 0 ≤ posI (keptP X m t) (i : Int) ↔ lvP X m (i : Int) ≤ t := by
 rw [posI_mem, keptP, keptT_mem]
 exact ⟨fun h => h.2, fun h => ⟨by omega, h⟩⟩
def entP (X : Fl) (n i : Int) (k : Nat) : Int := ((mapP X.c n).getD i.toNat default).getD k 0
def rowT (X : Fl) (n i t : Int) (m : Nat) : List Int := ((List.range m).filter fun k : Nat => !decide (lvP X (n - 1) (k : Int) ≤ t)).map fun k : Nat => entP X n i k
theorem rowT_yes {X : Fl} {n i t : Int} {m : Nat} (h : t < lvP X (n - 1) (m : Int)) : rowT X n i t m ++ [entP X n i m] = rowT X n i t (m + 1) := by
 unfold rowT
 rw [List.range_succ, List.filter_append, List.map_append]
 simp [h]
theorem rowT_no {X : Fl} {n i t : Int} {m : Nat} (h : ¬ t < lvP X (n - 1) (m : Int)) : rowT X n i t m = rowT X n i t (m + 1) := by
 unfold rowT
 rw [List.range_succ, List.filter_append, List.map_append]
 simp [h]
theorem rowT_len (X : Fl) (n i t : Int) (m : Nat) : (rowT X n i t m).length = (farT X (n - 1) t m).length := by simp [rowT, farT]
theorem far_row (X : Fl) (n i t : Int) (m : Nat) : ((farT X (n - 1) t m).map fun z : Int => entP X n i z.toNat) = rowT X n i t m := by
 unfold rowT farT
 rw [List.map_map]
 apply List.map_congr_left
 intro z _
 simp
def rowsN (X : Fl) (n q t : Int) (s : Nat) : List (List Int) := (List.range s).map fun z : Nat => rowT X n ((keptP X n q).getD z 0) t (dimP X.c (n - 1)).toNat
def rowsP (X : Fl) (n q t : Int) : List (List Int) := rowsN X n q t (keptP X n q).length
theorem rowsN_len (X : Fl) (n q t : Int) (s : Nat) : (rowsN X n q t s).length = s := by simp [rowsN]
theorem rowsN_step (X : Fl) (n q t : Int) (s : Nat) : rowsN X n q t s ++ [rowT X n ((keptP X n q).getD s 0) t (dimP X.c (n - 1)).toNat] = rowsN X n q t (s + 1) := range_step (fun z : Nat => rowT X n ((keptP X n q).getD z 0) t (dimP X.c (n - 1)).toNat) s
theorem bnd_getD {p : Int} (hp : 0 < p) {v : List Int} (h : Bnd p v) (k : Nat) : 0 ≤ v.getD k 0 ∧ v.getD k 0 < p := by
 by_cases hk : k < v.length
 ·exact h.at hk
 ·rw [getD_out (by omega)]; omega
theorem entP_bnd {X : Fl} (hC : IsC X.c) (n i : Int) (k : Nat) : 0 ≤ entP X n i k ∧ entP X n i k < X.c.p := by
 have hp := isP_bnd hC.p
 have ht := (mapP_tbl hC n).2
 unfold entP
 by_cases hi : i.toNat < (mapP X.c n).length
 ·exact bnd_getD hp.1 (ht _ (getD_mem hi)).2 k
 ·have e : (mapP X.c n).getD i.toNat default = [] := by rw [List.getD_eq_getElem?_getD, List.getElem?_eq_none (by omega)]; rfl
  rw [e]
  exact bnd_getD hp.1 (fun x hx => by cases hx) k
theorem rowT_bnd {X : Fl} (hC : IsC X.c) (n i t : Int) (m : Nat) : Bnd X.c.p (rowT X n i t m) := fun x hx => by
 obtain ⟨k, _, rfl⟩ := List.mem_map.1 hx
 exact entP_bnd hC n i k
theorem rows_tbl {X : Fl} (hC : IsC X.c) (n q t : Int) : ∀ r ∈ rowsP X n q t, r.length = (farP X (n - 1) t).length ∧ Bnd X.c.p r := fun r hr => by
 obtain ⟨z, _, rfl⟩ := List.mem_map.1 hr
 exact ⟨rowT_len X n _ t _, rowT_bnd hC n _ t _⟩
theorem kerQ_tbl {p : Int} {w : Nat} (hP : isP p = true) {rows : List (List Int)} (h : ∀ r ∈ rows, r.length = w ∧ Bnd p r) : ∀ r ∈ kerQ p rows, r.length = rows.length ∧ Bnd p r := by
 by_cases e : rows = []
 ·subst e; rw [kerQ_nil (isP_two hP).1]; intro r hr; cases hr
 ·rw [kerQ_w h e]; exact kerP_tbl hP h
theorem kerQ_le {p : Int} {w : Nat} (hP : isP p = true) {rows : List (List Int)} (h : ∀ r ∈ rows, r.length = w ∧ Bnd p r) : (kerQ p rows).length ≤ rows.length := by
 by_cases e : rows = []
 ·subst e; rw [kerQ_nil (isP_two hP).1]; exact Nat.le_refl _
 ·rw [kerQ_w h e]; obtain ⟨l, r⟩ := kerP_rr hP h; exact r.le_w
def wideN (kept v : List Int) (d : Nat) : Nat → List Int
 | 0 => List.replicate d 0
 | k + 1 => (wideN kept v d k).set (kept.getD k 0).toNat (v.getD k 0)
theorem wideN_len (kept v : List Int) (d : Nat) : ∀ k, (wideN kept v d k).length = d
 | 0 => List.length_replicate
 | k + 1 => by rw [wideN, List.length_set, wideN_len kept v d k]
theorem wideN_bnd {p : Int} (hp : 0 < p) {kept v : List Int} {d : Nat} (h : Bnd p v) : ∀ k, Bnd p (wideN kept v d k)
 | 0 => Bnd.zeros hp d
 | k + 1 => fun x hx => by
  rw [wideN] at hx
  rcases List.mem_or_eq_of_mem_set hx with h1 | h1
  ·exact wideN_bnd hp h k x h1
  ·rw [h1]; exact bnd_getD hp h k
noncomputable def wideP (X : Fl) (r n q : Int) : List (List Int) := (kerQ X.c.p (rowsP X n q (q - r))).map fun v => wideN (keptP X n q) v (dimP X.c n).toNat (keptP X n q).length
noncomputable def nearP (X : Fl) (r n q : Int) : List (List Int) := ech X.c.p (wideP X r n q)
theorem wide_tbl {X : Fl} (hC : IsC X.c) (r n q : Int) : ∀ x ∈ wideP X r n q, x.length = (dimP X.c n).toNat ∧ Bnd X.c.p x := fun x hx => by
 obtain ⟨v, hv, rfl⟩ := List.mem_map.1 hx
 exact ⟨wideN_len _ _ _ _, wideN_bnd (isP_bnd hC.p).1 (kerQ_tbl hC.p (rows_tbl hC n q _) v hv).2 _⟩
theorem wide_len {X : Fl} (hC : IsF X) (r n q : Int) : (wideP X r n q).length ≤ 8 := by
 rw [wideP, List.length_map]
 have h1 := kerQ_le hC.c.p (rows_tbl hC.c n q (q - r))
 have h2 := keptP_len hC n q
 rw [show (rowsP X n q (q - r)).length = (keptP X n q).length from rowsN_len _ _ _ _ _] at h1
 omega
theorem near_rr {X : Fl} (hC : IsC X.c) (r n q : Int) : ∃ l, Rr X.c.p (dimP X.c n).toNat (nearP X r n q) l := (ech_red hC.p (wide_tbl hC r n q)).1
theorem near_tbl {X : Fl} (hC : IsC X.c) (r n q : Int) : ∀ x ∈ nearP X r n q, x.length = (dimP X.c n).toNat ∧ Bnd X.c.p x := by
 obtain ⟨l, h⟩ := near_rr hC r n q
 exact h.tbl
theorem near_len {X : Fl} (hC : IsC X.c) (r n q : Int) : (nearP X r n q).length ≤ 8 := by
 obtain ⟨l, h⟩ := near_rr hC r n q
 have := h.le_w
 have := dimP_bnd hC n
 omega
theorem map_takeL {α β : Type} {f : α → β} {xs : List α} {k : Nat} {d : α} (h : k < xs.length) : (xs.take k).map f ++ [f (xs.getD k d)] = (xs.take (k + 1)).map f := by
 rw [List.take_succ_eq_append_getElem h, List.map_append, List.getD_eq_getElem?_getD, List.getElem?_eq_getElem h]; rfl
theorem map_takeE {α β : Type} {f : α → β} {xs : List α} {k : Nat} (h : ¬ k < xs.length) : (xs.take k).map f = xs.map f := by rw [List.take_of_length_le (by omega)]

set_option maxRecDepth 100000 in
theorem index1_ok (vu : Value) (u : List Int) (x : Int) (h : Heap) (ru : R1 h vu u)  : CallA Try.prog 85 #[vu, .int .i64 x] h fun v' h' => v' = .int .i64 (posI u x) ∧ Ext h h' := by
 have hleu := RdS.le ru
 refine callA_intro TTok (args := [_, _]) Try.func85 (by kernel_rfl) rfl 19 rfl (by simp) [.tmp 4] rfl ?_
 simp only [idxs, Nat.reduceAdd]
 refine den_seq ?_
 refine den_region TTok ?_
 intro K hK
 simp -implicitDefEqProofs (disch := first | decide | assumption | omega) only [go_sem, RdS.len ru sl22, RdS.idx ru sl22, R1.intB ru (HPres.refl _), RdS.cells ru, wrap_id]
 refine hK _ _ ?_
 clear hK K
 refine den_seq ?_
 refine den_seq ?_
 refine den_region TTok ?_
 intro K hK
 simp -implicitDefEqProofs (disch := first | decide | assumption | omega) only [go_sem, RdS.len ru sl22, RdS.idx ru sl22, R1.intB ru (HPres.refl _), RdS.cells ru, wrap_id]
 refine hK _ _ ?_
 clear hK K
 refine den_block ?_
 refine den_sel [8, 0, 1, 7] ?_
 intro env_1
 simp only [go_sem]
 refine den_loopS (σ := Nat) (fun st_ => [(8, .int .i64 (st_ : Int))]) (fun st_ H => (st_ ≤ u.length) ∧ (∀ a, a < st_ → u.getD a 0 ≠ x) ∧ (Ext h H)) (fun st_ => u.length - st_) 0 ?_ ?_
 ·exact ⟨by omega, fun a h => by omega, Ext.refl _⟩
 ·rintro k h4 ee3 ⟨hi0, hno, cL2⟩
  have := Ext.size cL2
  have eB := cL2
  simp only [List.cons_append, List.nil_append]
  refine den_seq ?_
  refine den_region TTok ?_
  intro K hK
  simp -implicitDefEqProofs (disch := first | decide | assumption | omega) only [go_sem, RdS.len ru sl22, RdS.idx ru sl22, R1.intB ru (Ext.pres eB), RdS.cells ru, wrap_id]
  refine hK _ _ ?_
  clear hK K
  refine den_seq ?_
  refine den_cond rfl (fun c0 => ?_) (fun c0 => ?_)
  ·try simp only [decide_eq_true_eq, decide_eq_false_iff_not, beq_iff_eq, beq_eq_false_iff_ne, bne_iff_ne, ne_eq, Bool.not_eq_true', Bool.not_eq_false', Bool.and_eq_true, Bool.or_eq_true, bne_eq_false_iff_eq] at c0
   refine den_skip ?_
   refine den_seq ?_
   refine den_block ?_
   refine den_seq ?_
   refine den_region TTok ?_
   intro K hK
   simp -implicitDefEqProofs (disch := first | decide | assumption | omega) only [go_sem, RdS.len ru sl22, RdS.idx ru sl22, R1.intB ru (Ext.pres eB), RdS.cells ru, wrap_id]
   refine hK _ _ ?_
   clear hK K
   refine den_seq ?_
   refine den_region TTok ?_
   intro K hK
   simp -implicitDefEqProofs (disch := first | decide | assumption | omega) only [go_sem, ld2, RdS.len ru sl22, RdS.idx ru sl22, R1.intB ru (Ext.pres eB), RdS.cells ru, wrap_id]
   refine hK _ _ ?_
   clear hK K
   refine den_cond rfl (fun c1 => ?_) (fun c1 => ?_)
   ·try simp only [decide_eq_true_eq, decide_eq_false_iff_not, beq_iff_eq, beq_eq_false_iff_ne, bne_iff_ne, ne_eq, Bool.not_eq_true', Bool.not_eq_false', Bool.and_eq_true, Bool.or_eq_true, bne_eq_false_iff_eq] at c1
    refine den_seq ?_
    refine den_region TTok ?_
    intro K hK
    simp -implicitDefEqProofs (disch := first | decide | assumption | omega) only [go_sem, RdS.len ru sl22, RdS.idx ru sl22, R1.intB ru (Ext.pres eB), RdS.cells ru, wrap_id]
    refine hK _ _ ?_
    clear hK K
    refine den_ret ?_
    simp (disch := decide) only [resP_1, puts_same, puts_ne]
    exact ⟨vint (posI_hit hno (by omega) (Eq.symm c1)).symm, eB⟩
   ·try simp only [decide_eq_true_eq, decide_eq_false_iff_not, beq_iff_eq, beq_eq_false_iff_ne, bne_iff_ne, ne_eq, Bool.not_eq_true', Bool.not_eq_false', Bool.and_eq_true, Bool.or_eq_true, bne_eq_false_iff_eq] at c1
    refine den_skip ?_
    refine den_blk ?_
    refine den_region TTok ?_
    intro K hK
    simp -implicitDefEqProofs (disch := first | decide | assumption | omega) only [go_sem, RdS.len ru sl22, RdS.idx ru sl22, R1.intB ru (Ext.pres eB), RdS.cells ru, wrap_id]
    refine hK _ _ ?_
    clear hK K
    refine den_stop ?_
    exact ⟨k + 1, by simp [HasL, puts_at], ⟨by first | omega | (dsimp only; omega), fun a ha => by
 by_cases hak : a < k
 ·exact hno a hak
 ·rw [show a = k by omega]; exact fun e => c1 e.symm, cL2⟩, by first | omega | (dsimp only; omega)⟩
  ·try simp only [decide_eq_true_eq, decide_eq_false_iff_not, beq_iff_eq, beq_eq_false_iff_ne, bne_iff_ne, ne_eq, Bool.not_eq_true', Bool.not_eq_false', Bool.and_eq_true, Bool.or_eq_true, bne_eq_false_iff_eq] at c0
   refine den_exit ?_
   refine denX_code ?_
   refine denX_stop ?_
   refine denX_hit ?_
   refine den_seq ?_
   refine den_region TTok ?_
   intro K hK
   simp -implicitDefEqProofs (disch := first | decide | assumption | omega) only [go_sem, RdS.len ru sl22, RdS.idx ru sl22, R1.intB ru (Ext.pres eB), RdS.cells ru, wrap_id]
   refine hK _ _ ?_
   clear hK K
   refine den_ret ?_
   simp (disch := decide) only [resP_1, puts_same, puts_ne]
   exact ⟨vint (posI_none (fun a ha => hno a (by omega))).symm, eB⟩

set_option maxRecDepth 100000 in
theorem contains1_ok (vu : Value) (u : List Int) (x : Int) (h : Heap) (ru : R1 h vu u)  : CallA Try.prog 150 #[vu, .int .i64 x] h fun v' h' => v' = .bool (decide ((0 : Int) ≤ posI u x)) ∧ Ext h h' := by
 have hleu := RdS.le ru
 have hig := posI_ge x u
 refine callA_intro TTok (args := [_, _]) Try.func150 (by kernel_rfl) rfl 9 rfl (by simp) [.tmp 4] rfl ?_
 simp only [idxs, Nat.reduceAdd]
 refine den_seq ?_
 refine den_region TTok ?_
 intro K hK
 simp -implicitDefEqProofs (disch := first | decide | assumption | omega) only [go_sem, RdS.len ru sl22, RdS.idx ru sl22, R1.intB ru (HPres.refl _), RdS.cells ru, wrap_id]
 refine hK _ _ ?_
 clear hK K
 refine den_seq ?_
 refine den_region TTok ?_
 intro K hK
 simp -implicitDefEqProofs (disch := first | decide | assumption | omega) only [go_sem, RdS.len ru sl22, RdS.idx ru sl22, R1.intB ru (HPres.refl _), RdS.cells ru, wrap_id]
 try simp -implicitDefEqProofs (disch := first | decide | assumption | omega) only [go_sem, RdS.len ru sl22, RdS.idx ru sl22, R1.intB ru (HPres.refl _), RdS.cells ru, wrap_id]
 refine CallA.mono (index1_ok _ u x _ ru ) ?_
 intro v_ h1_2
 rintro ⟨rfl, e1_2⟩
 have := Ext.size e1_2
 have eB := e1_2
 try simp -implicitDefEqProofs (disch := first | decide | assumption | omega) only [go_sem, RdS.len ru sl22, RdS.idx ru sl22, R1.intB ru (Ext.pres eB), RdS.cells ru, wrap_id]
 refine hK _ _ ?_
 clear hK K
 refine den_ret ?_
 simp (disch := decide) only [resP_1, puts_same, puts_ne]
 exact ⟨by first | rfl | trivial, eB⟩
end Go.Proofs.Ytjjjgllbocgkbaa

namespace Go.Proofs.Ytjjjgllbocgkbaa
open Go
theorem dimP_in {X : Cx} {m : Int} (h : 0 < dimP X m) : 0 ≤ m ∧ m < X.dims.length := by
 unfold dimP at h
 split at h
 ·rename_i h2; rw [in3_iff] at h2; omega
 ·omega
theorem farP_row (X : Fl) (n i t : Int) : ((farP X (n - 1) t).map fun z : Int => entP X n i z.toNat) = rowT X n i t (dimP X.c (n - 1)).toNat := far_row X n i t _
theorem keptP_at {X : Fl} {n q : Int} {k : Nat} (hk : k < (keptP X n q).length) : 0 ≤ (keptP X n q).getD k 0 ∧ (keptP X n q).getD k 0 < dimP X.c n := by
 obtain ⟨i, e, h, _⟩ := keptT_at hk
 rw [show (keptP X n q).getD k 0 = (i : Int) from e]; omega
theorem farP_at {X : Fl} {m t : Int} {k : Nat} (hk : k < (farP X m t).length) : 0 ≤ (farP X m t).getD k 0 ∧ (farP X m t).getD k 0 < dimP X.c m := by
 obtain ⟨i, e, h⟩ := farT_at hk
 rw [show (farP X m t).getD k 0 = (i : Int) from e]; omega
theorem farP_len {X : Fl} (hC : IsC X.c) (m t : Int) : (farP X m t).length ≤ 8 := by
 have h1 := farT_len X m t (dimP X.c m).toNat
 have h2 := dimP_bnd hC m
 unfold farP; omega
/-- The place of an entry that is asked. -/
theorem near_at {X : Fl} (hC : IsC X.c) {n q t : Int} {s k : Nat} (hs : s < (keptP X n q).length) (hk : k < (farP X (n - 1) t).length) : 1 ≤ n ∧ n ≤ (X.c.dims.length : Int) - 1 ∧ X.c.maps.getD (n - 1).toNat default = mapP X.c n ∧ ((keptP X n q).getD s 0).toNat < (X.c.maps.getD (n - 1).toNat default).length ∧ ((farP X (n - 1) t).getD k 0).toNat < ((X.c.maps.getD (n - 1).toNat default).getD ((keptP X n q).getD s 0).toNat default).length := by
 have h1 := keptP_at hs
 have h2 := farP_at hk
 have h3 := dimP_in (X := X.c) (m := n) (by omega)
 have h4 := dimP_in (X := X.c) (m := n - 1) (by omega)
 have e := mapP_in (X := X.c) (n := n) (by omega) (by omega)
 have ht := mapP_tbl hC n
 rw [← e]
 have h5 : ((keptP X n q).getD s 0).toNat < (mapP X.c n).length := by omega
 have h6 := (ht.2 _ (getD_mem h5)).1
 rw [if_pos (by omega)] at h6
 exact ⟨by omega, by omega, rfl, h5, by omega⟩
theorem rowsP_len (X : Fl) (n q t : Int) : (rowsP X n q t).length = (keptP X n q).length := rowsN_len _ _ _ _ _
theorem ker_row {X : Fl} (hC : IsC X.c) {n q t : Int} {v : Nat} (hv : v < (kerQ X.c.p (rowsP X n q t)).length) : ((kerQ X.c.p (rowsP X n q t)).getD v default).length = (keptP X n q).length := by
 rw [(kerQ_tbl hC.p (rows_tbl hC n q t) _ (getD_mem hv)).1, rowsP_len]

set_option maxRecDepth 100000 in
set_option maxHeartbeats 4000000 in
theorem iNear_ok (vX : Value) (X : Fl) (r : Int) (n : Int) (q : Int) (h : Heap) (rX : RF h vX X) (hF : IsF X) (hr : -100 ≤ r ∧ r ≤ 100) (hn : 0 ≤ n ∧ n ≤ X.c.dims.length) (hq : -100 ≤ q ∧ q ≤ 200) : CallA Try.prog 96 #[vX, .int .i64 r, .int .i64 n, .int .i64 q] h fun v' h' => ∃ w0 f0, v' = w0 ∧ O2 h' w0 (nearP X r n q) f0 ∧ Fresh h.size f0 ∧ Ext h h' := by
 obtain ⟨vdX, vmX, vvX, rfl, hdX, hmX, hvX⟩ := rX
 have hledX := RdS.le hdX
 have hlemX := RdS.le hmX
 have hlevX := RdS.le hvX
 have hC := hF.c
 have hlC := hC.len
 have hml := hC.ml
 have hln := hF.ln
 have hdb := dimP_bnd hC n
 have hdb1 := dimP_bnd hC (n - 1)
 have hkl := keptP_len hF n q
 have hpb := isP_bnd hC.p
 have hP := hC.p
 refine callA_intro TTok (args := [_, _, _, _]) Try.func96 (by kernel_rfl) rfl 127 rfl (by simp) [.tmp 8] rfl ?_
 simp only [idxs, Nat.reduceAdd]
 refine den_seq ?_
 refine den_region TTok ?_
 intro K hK
 simp -implicitDefEqProofs (disch := first | decide | assumption | omega) only [go_sem, RdS.len hdX sl22, RdS.idx hdX sl22, R1.intB hdX (HPres.refl _), RdS.cells hdX, RdS.len hmX sl23, RdS.idx hmX sl23, RdS.cellB hmX (HPres.refl _), RdS.cells hmX, RdS.len hvX sl26, RdS.idx hvX sl26, RdS.cellB hvX (HPres.refl _), RdS.cells hvX, wrap_id]
 refine op_box (cs := #[.int .i64 (X.c.p), vdX, vmX, vvX]) rfl ?_
 intro h0_0 e0_0 hb0_0 z0_0
 have := Ext.size e0_0
 have eB := e0_0
 have hfhb0_0 : Fresh h.size [h.size] := Fresh.one _
 have hlhb0_0 := one_lt (show h.size < h0_0.size by omega)
 try simp -implicitDefEqProofs (disch := first | decide | assumption | omega) only [go_sem, RdS.len hdX sl22, RdS.idx hdX sl22, R1.intB hdX (Ext.pres eB), RdS.cells hdX, RdS.len hmX sl23, RdS.idx hmX sl23, RdS.cellB hmX (Ext.pres eB), RdS.cells hmX, RdS.len hvX sl26, RdS.idx hvX sl26, RdS.cellB hvX (Ext.pres eB), RdS.cells hvX, BoxAt.cell hb0_0, wrap_id]
 refine hK _ _ ?_
 clear hK K
 refine den_seq ?_
 refine den_region TTok ?_
 intro K hK
 simp -implicitDefEqProofs (disch := first | decide | assumption | omega) only [go_sem, fa33_0, ld31, RdS.len hdX sl22, RdS.idx hdX sl22, R1.intB hdX (Ext.pres eB), RdS.cells hdX, RdS.len hmX sl23, RdS.idx hmX sl23, RdS.cellB hmX (Ext.pres eB), RdS.cells hmX, RdS.len hvX sl26, RdS.idx hvX sl26, RdS.cellB hvX (Ext.pres eB), RdS.cells hvX, BoxAt.cell hb0_0, wrap_id]
 refine op_alloc (cs := #[.int .i64 0, .slice none 0 0, .slice none 0 0]) (by kernel_rfl) ?_
 intro h1_2 e1_2 hb1_2 z1_2
 replace hb0_0 := BoxAt.ext hb0_0 e1_2
 have := Ext.size e1_2
 replace eB := Ext.trans eB e1_2
 have hfhb1_2 : Fresh h0_0.size [h0_0.size] := Fresh.one _
 have hlhb1_2 := one_lt (show h0_0.size < h1_2.size by omega)
 try simp -implicitDefEqProofs (disch := first | decide | assumption | omega) only [go_sem, RdS.len hdX sl22, RdS.idx hdX sl22, R1.intB hdX (Ext.pres eB), RdS.cells hdX, RdS.len hmX sl23, RdS.idx hmX sl23, RdS.cellB hmX (Ext.pres eB), RdS.cells hmX, RdS.len hvX sl26, RdS.idx hvX sl26, RdS.cellB hvX (Ext.pres eB), RdS.cells hvX, BoxAt.cell hb0_0, BoxAt.cell hb1_2, wrap_id]
 refine op_storeB (cs' := #[.int .i64 (X.c.p), vdX, vmX]) st31 hb1_2 rfl rfl rfl (by simp) (allOne_mem (l := [.int .i64 (X.c.p), vdX, vmX]) ⟨rfl, (RdS.one hdX), (RdS.one hmX), trivial⟩) rfl ?_
 intro h1_3 hb1_2 c1_3
 replace hb0_0 := BoxAt.chgA hb0_0 c1_3 (apart_lt hlhb0_0 hfhb1_2 (by omega))
 have := c1_3.size
 replace eB := Ext.then eB c1_3 (ge_of hfhb1_2 (by omega))
 try simp -implicitDefEqProofs (disch := first | decide | assumption | omega) only [go_sem, RdS.len hdX sl22, RdS.idx hdX sl22, R1.intB hdX (Ext.pres eB), RdS.cells hdX, RdS.len hmX sl23, RdS.idx hmX sl23, RdS.cellB hmX (Ext.pres eB), RdS.cells hmX, RdS.len hvX sl26, RdS.idx hvX sl26, RdS.cellB hvX (Ext.pres eB), RdS.cells hvX, BoxAt.cell hb0_0, BoxAt.cell hb1_2, wrap_id]
 refine hK _ _ ?_
 clear hK K
 refine den_seq ?_
 refine den_region TTok ?_
 intro K hK
 simp -implicitDefEqProofs (disch := first | decide | assumption | omega) only [go_sem, ld33, RdS.len hdX sl22, RdS.idx hdX sl22, R1.intB hdX (Ext.pres eB), RdS.cells hdX, RdS.len hmX sl23, RdS.idx hmX sl23, RdS.cellB hmX (Ext.pres eB), RdS.cells hmX, RdS.len hvX sl26, RdS.idx hvX sl26, RdS.cellB hvX (Ext.pres eB), RdS.cells hvX, BoxAt.cell hb0_0, BoxAt.cell hb1_2, wrap_id]
 try simp -implicitDefEqProofs (disch := first | decide | assumption | omega) only [go_sem, RdS.len hdX sl22, RdS.idx hdX sl22, R1.intB hdX (Ext.pres eB), RdS.cells hdX, RdS.len hmX sl23, RdS.idx hmX sl23, RdS.cellB hmX (Ext.pres eB), RdS.cells hmX, RdS.len hvX sl26, RdS.idx hvX sl26, RdS.cellB hvX (Ext.pres eB), RdS.cells hvX, BoxAt.cell hb0_0, BoxAt.cell hb1_2, wrap_id]
 refine CallA.mono (iKept_ok _ X n q _ ⟨_, _, _, rfl, (RdS.pres hdX (Ext.pres eB)), (RdS.pres hmX (Ext.pres eB)), (RdS.pres hvX (Ext.pres eB))⟩ hF (by omega)) ?_
 intro vw2_3_0 h2_3
 rintro ⟨zvw2_3_0, fw2_3_0, rfl, how2_3_0, hfw2_3_0, e2_3⟩
 replace hb0_0 := BoxAt.ext hb0_0 e2_3
 replace hb1_2 := BoxAt.ext hb1_2 e2_3
 have := Ext.size e2_3
 replace eB := Ext.trans eB e2_3
 have hlhow2_3_0 := OS.lt how2_3_0
 try simp -implicitDefEqProofs (disch := first | decide | assumption | omega) only [go_sem, RdS.len hdX sl22, RdS.idx hdX sl22, R1.intB hdX (Ext.pres eB), RdS.cells hdX, RdS.len hmX sl23, RdS.idx hmX sl23, RdS.cellB hmX (Ext.pres eB), RdS.cells hmX, RdS.len hvX sl26, RdS.idx hvX sl26, RdS.cellB hvX (Ext.pres eB), RdS.cells hvX, RdS.len (OS.rd how2_3_0) sl22, RdS.idx (OS.rd how2_3_0) sl22, R1.intN (OS.rd how2_3_0), RdS.cells (OS.rd how2_3_0), BoxAt.cell hb0_0, BoxAt.cell hb1_2, wrap_id]
 refine op_bs0 sz26 O1 ?_
 intro v2_4 h2_4 ho2_4 e2_4
 replace how2_3_0 := OS.ext how2_3_0 e2_4
 replace hb0_0 := BoxAt.ext hb0_0 e2_4
 replace hb1_2 := BoxAt.ext hb1_2 e2_4
 have := Ext.size e2_4
 replace eB := Ext.trans eB e2_4
 have hfho2_4 : Fresh h2_3.size [h2_3.size] := Fresh.one _
 have hlho2_4 := OS.lt ho2_4
 try simp -implicitDefEqProofs (disch := first | decide | assumption | omega) only [go_sem, RdS.len hdX sl22, RdS.idx hdX sl22, R1.intB hdX (Ext.pres eB), RdS.cells hdX, RdS.len hmX sl23, RdS.idx hmX sl23, RdS.cellB hmX (Ext.pres eB), RdS.cells hmX, RdS.len hvX sl26, RdS.idx hvX sl26, RdS.cellB hvX (Ext.pres eB), RdS.cells hvX, RdS.len (OS.rd how2_3_0) sl22, RdS.idx (OS.rd how2_3_0) sl22, R1.intN (OS.rd how2_3_0), RdS.cells (OS.rd how2_3_0), RdS.len (OS.rd ho2_4) sl26, RdS.idx (OS.rd ho2_4) sl26, RdS.cellN (OS.rd ho2_4), RdS.cells (OS.rd ho2_4), BoxAt.cell hb0_0, BoxAt.cell hb1_2, wrap_id]
 refine hK _ _ ?_
 clear hK K
 refine den_seq ?_
 refine den_region TTok ?_
 intro K hK
 simp -implicitDefEqProofs (disch := first | decide | assumption | omega) only [go_sem, RdS.len hdX sl22, RdS.idx hdX sl22, R1.intB hdX (Ext.pres eB), RdS.cells hdX, RdS.len hmX sl23, RdS.idx hmX sl23, RdS.cellB hmX (Ext.pres eB), RdS.cells hmX, RdS.len hvX sl26, RdS.idx hvX sl26, RdS.cellB hvX (Ext.pres eB), RdS.cells hvX, RdS.len (OS.rd how2_3_0) sl22, RdS.idx (OS.rd how2_3_0) sl22, R1.intN (OS.rd how2_3_0), RdS.cells (OS.rd how2_3_0), RdS.len (OS.rd ho2_4) sl26, RdS.idx (OS.rd ho2_4) sl26, RdS.cellN (OS.rd ho2_4), RdS.cells (OS.rd ho2_4), BoxAt.cell hb0_0, BoxAt.cell hb1_2, wrap_id]
 refine op_bs0 sz22 OI ?_
 intro v3_0 h3_0 ho3_0 e3_0
 replace how2_3_0 := OS.ext how2_3_0 e3_0
 replace ho2_4 := OS.ext ho2_4 e3_0
 replace hb0_0 := BoxAt.ext hb0_0 e3_0
 replace hb1_2 := BoxAt.ext hb1_2 e3_0
 have := Ext.size e3_0
 replace eB := Ext.trans eB e3_0
 have hfho3_0 : Fresh h2_4.size [h2_4.size] := Fresh.one _
 have hlho3_0 := OS.lt ho3_0
 try simp -implicitDefEqProofs (disch := first | decide | assumption | omega) only [go_sem, RdS.len hdX sl22, RdS.idx hdX sl22, R1.intB hdX (Ext.pres eB), RdS.cells hdX, RdS.len hmX sl23, RdS.idx hmX sl23, RdS.cellB hmX (Ext.pres eB), RdS.cells hmX, RdS.len hvX sl26, RdS.idx hvX sl26, RdS.cellB hvX (Ext.pres eB), RdS.cells hvX, RdS.len (OS.rd how2_3_0) sl22, RdS.idx (OS.rd how2_3_0) sl22, R1.intN (OS.rd how2_3_0), RdS.cells (OS.rd how2_3_0), RdS.len (OS.rd ho2_4) sl26, RdS.idx (OS.rd ho2_4) sl26, RdS.cellN (OS.rd ho2_4), RdS.cells (OS.rd ho2_4), RdS.len (OS.rd ho3_0) sl22, RdS.idx (OS.rd ho3_0) sl22, R1.intN (OS.rd ho3_0), RdS.cells (OS.rd ho3_0), BoxAt.cell hb0_0, BoxAt.cell hb1_2, wrap_id]
 refine hK _ _ ?_
 clear hK K
 refine den_seq ?_
 refine den_seq ?_
 refine den_region TTok ?_
 intro K hK
 simp -implicitDefEqProofs (disch := first | decide | assumption | omega) only [go_sem, ld31, RdS.len hdX sl22, RdS.idx hdX sl22, R1.intB hdX (Ext.pres eB), RdS.cells hdX, RdS.len hmX sl23, RdS.idx hmX sl23, RdS.cellB hmX (Ext.pres eB), RdS.cells hmX, RdS.len hvX sl26, RdS.idx hvX sl26, RdS.cellB hvX (Ext.pres eB), RdS.cells hvX, RdS.len (OS.rd how2_3_0) sl22, RdS.idx (OS.rd how2_3_0) sl22, R1.intN (OS.rd how2_3_0), RdS.cells (OS.rd how2_3_0), RdS.len (OS.rd ho2_4) sl26, RdS.idx (OS.rd ho2_4) sl26, RdS.cellN (OS.rd ho2_4), RdS.cells (OS.rd ho2_4), RdS.len (OS.rd ho3_0) sl22, RdS.idx (OS.rd ho3_0) sl22, R1.intN (OS.rd ho3_0), RdS.cells (OS.rd ho3_0), BoxAt.cell hb0_0, BoxAt.cell hb1_2, wrap_id]
 try simp -implicitDefEqProofs (disch := first | decide | assumption | omega) only [go_sem, RdS.len hdX sl22, RdS.idx hdX sl22, R1.intB hdX (Ext.pres eB), RdS.cells hdX, RdS.len hmX sl23, RdS.idx hmX sl23, RdS.cellB hmX (Ext.pres eB), RdS.cells hmX, RdS.len hvX sl26, RdS.idx hvX sl26, RdS.cellB hvX (Ext.pres eB), RdS.cells hvX, RdS.len (OS.rd how2_3_0) sl22, RdS.idx (OS.rd how2_3_0) sl22, R1.intN (OS.rd how2_3_0), RdS.cells (OS.rd how2_3_0), RdS.len (OS.rd ho2_4) sl26, RdS.idx (OS.rd ho2_4) sl26, RdS.cellN (OS.rd ho2_4), RdS.cells (OS.rd ho2_4), RdS.len (OS.rd ho3_0) sl22, RdS.idx (OS.rd ho3_0) sl22, R1.intN (OS.rd ho3_0), RdS.cells (OS.rd ho3_0), BoxAt.cell hb0_0, BoxAt.cell hb1_2, wrap_id]
 refine CallA.mono (iDim_ok _ X.c _ _ ⟨_, _, rfl, (RdS.pres hdX (Ext.pres eB)), (RdS.pres hmX (Ext.pres eB))⟩) ?_
 intro v_ h4_3
 rintro ⟨rfl, e4_3⟩
 replace how2_3_0 := OS.ext how2_3_0 e4_3
 replace ho2_4 := OS.ext ho2_4 e4_3
 replace ho3_0 := OS.ext ho3_0 e4_3
 replace hb0_0 := BoxAt.ext hb0_0 e4_3
 replace hb1_2 := BoxAt.ext hb1_2 e4_3
 have := Ext.size e4_3
 replace eB := Ext.trans eB e4_3
 try simp -implicitDefEqProofs (disch := first | decide | assumption | omega) only [go_sem, RdS.len hdX sl22, RdS.idx hdX sl22, R1.intB hdX (Ext.pres eB), RdS.cells hdX, RdS.len hmX sl23, RdS.idx hmX sl23, RdS.cellB hmX (Ext.pres eB), RdS.cells hmX, RdS.len hvX sl26, RdS.idx hvX sl26, RdS.cellB hvX (Ext.pres eB), RdS.cells hvX, RdS.len (OS.rd how2_3_0) sl22, RdS.idx (OS.rd how2_3_0) sl22, R1.intN (OS.rd how2_3_0), RdS.cells (OS.rd how2_3_0), RdS.len (OS.rd ho2_4) sl26, RdS.idx (OS.rd ho2_4) sl26, RdS.cellN (OS.rd ho2_4), RdS.cells (OS.rd ho2_4), RdS.len (OS.rd ho3_0) sl22, RdS.idx (OS.rd ho3_0) sl22, R1.intN (OS.rd ho3_0), RdS.cells (OS.rd ho3_0), BoxAt.cell hb0_0, BoxAt.cell hb1_2, wrap_id]
 refine hK _ _ ?_
 clear hK K
 refine den_block ?_
 refine den_sel [12, 37, 1, 2, 3, 4, 9, 10, 11, 36] ?_
 intro env_1
 simp only [go_sem]
 refine den_loopS (σ := Nat × Value × List Nat) (fun st_ => [(12, st_.2.1), (37, .int .i64 (st_.1 : Int))]) (fun st_ H => ((st_.1 : Int) ≤ dimP X.c (n - 1)) ∧ (O1 H st_.2.1 (farT X (n - 1) (q - r) st_.1) st_.2.2) ∧ (Fresh (h2_4.size) st_.2.2) ∧ (Sub [h2_4.size] h4_3.size st_.2.2) ∧ (Chg [h2_4.size] h4_3 H)) (fun st_ => (dimP X.c (n - 1)).toNat - st_.1) (0, v3_0, [h2_4.size]) ?_ ?_
 ·exact ⟨by omega, by show O1 _ _ [] _; exact ho3_0, hfho3_0, Sub.refl, Chg.refl _ _⟩
 ·rintro ⟨i, vhFr, fphFr⟩ h4 ee3 ⟨hi0, hFr, hfhFr, sbhFr, cL2⟩
  dsimp only at hi0 hFr hfhFr sbhFr cL2
  replace how2_3_0 := OS.chg how2_3_0 cL2 (apart_lt hlhow2_3_0 hfho3_0 (by omega))
  replace ho2_4 := OS.chg ho2_4 cL2 (apart_lt hlho2_4 hfho3_0 (by omega))
  replace hb0_0 := BoxAt.chgA hb0_0 cL2 (apart_lt hlhb0_0 hfho3_0 (by omega))
  replace hb1_2 := BoxAt.chgA hb1_2 cL2 (apart_lt hlhb1_2 hfho3_0 (by omega))
  have := cL2.size
  replace eB := Ext.then eB cL2 (ge_of hfho3_0 (by omega))
  have hlhFr := OS.lt hFr
  simp only [List.cons_append, List.nil_append]
  have hkl0 := farT_len X (n - 1) (q - r) i
  refine den_seq ?_
  refine den_region TTok ?_
  intro K hK
  simp -implicitDefEqProofs (disch := first | decide | assumption | omega) only [go_sem, RdS.len hdX sl22, RdS.idx hdX sl22, R1.intB hdX (Ext.pres eB), RdS.cells hdX, RdS.len hmX sl23, RdS.idx hmX sl23, RdS.cellB hmX (Ext.pres eB), RdS.cells hmX, RdS.len hvX sl26, RdS.idx hvX sl26, RdS.cellB hvX (Ext.pres eB), RdS.cells hvX, RdS.len (OS.rd how2_3_0) sl22, RdS.idx (OS.rd how2_3_0) sl22, R1.intN (OS.rd how2_3_0), RdS.cells (OS.rd how2_3_0), RdS.len (OS.rd ho2_4) sl26, RdS.idx (OS.rd ho2_4) sl26, RdS.cellN (OS.rd ho2_4), RdS.cells (OS.rd ho2_4), RdS.len (OS.rd hFr) sl22, RdS.idx (OS.rd hFr) sl22, R1.intN (OS.rd hFr), RdS.cells (OS.rd hFr), BoxAt.cell hb0_0, BoxAt.cell hb1_2, wrap_id]
  refine hK _ _ ?_
  clear hK K
  refine den_seq ?_
  refine den_cond rfl (fun c0 => ?_) (fun c0 => ?_)
  ·try simp only [decide_eq_true_eq, decide_eq_false_iff_not, beq_iff_eq, beq_eq_false_iff_ne, bne_iff_ne, ne_eq, Bool.not_eq_true', Bool.not_eq_false', Bool.and_eq_true, Bool.or_eq_true, bne_eq_false_iff_eq] at c0
   refine den_skip ?_
   refine den_seq ?_
   refine den_block ?_
   refine den_seq ?_
   refine den_region TTok ?_
   intro K hK
   simp -implicitDefEqProofs (disch := first | decide | assumption | omega) only [go_sem, RdS.len hdX sl22, RdS.idx hdX sl22, R1.intB hdX (Ext.pres eB), RdS.cells hdX, RdS.len hmX sl23, RdS.idx hmX sl23, RdS.cellB hmX (Ext.pres eB), RdS.cells hmX, RdS.len hvX sl26, RdS.idx hvX sl26, RdS.cellB hvX (Ext.pres eB), RdS.cells hvX, RdS.len (OS.rd how2_3_0) sl22, RdS.idx (OS.rd how2_3_0) sl22, R1.intN (OS.rd how2_3_0), RdS.cells (OS.rd how2_3_0), RdS.len (OS.rd ho2_4) sl26, RdS.idx (OS.rd ho2_4) sl26, RdS.cellN (OS.rd ho2_4), RdS.cells (OS.rd ho2_4), RdS.len (OS.rd hFr) sl22, RdS.idx (OS.rd hFr) sl22, R1.intN (OS.rd hFr), RdS.cells (OS.rd hFr), BoxAt.cell hb0_0, BoxAt.cell hb1_2, wrap_id]
   refine hK _ _ ?_
   clear hK K
   refine den_seq ?_
   have hfi := far_idx (X := X) (t := q - r) (m := n - 1) (i := i) (by omega)
   refine den_region TTok ?_
   intro K hK
   simp -implicitDefEqProofs (disch := first | decide | assumption | omega) only [go_sem, ld33, RdS.len hdX sl22, RdS.idx hdX sl22, R1.intB hdX (Ext.pres eB), RdS.cells hdX, RdS.len hmX sl23, RdS.idx hmX sl23, RdS.cellB hmX (Ext.pres eB), RdS.cells hmX, RdS.len hvX sl26, RdS.idx hvX sl26, RdS.cellB hvX (Ext.pres eB), RdS.cells hvX, RdS.len (OS.rd how2_3_0) sl22, RdS.idx (OS.rd how2_3_0) sl22, R1.intN (OS.rd how2_3_0), RdS.cells (OS.rd how2_3_0), RdS.len (OS.rd ho2_4) sl26, RdS.idx (OS.rd ho2_4) sl26, RdS.cellN (OS.rd ho2_4), RdS.cells (OS.rd ho2_4), RdS.len (OS.rd hFr) sl22, RdS.idx (OS.rd hFr) sl22, R1.intN (OS.rd hFr), RdS.cells (OS.rd hFr), BoxAt.cell hb0_0, BoxAt.cell hb1_2, wrap_id]
   try simp -implicitDefEqProofs (disch := first | decide | assumption | omega) only [go_sem, RdS.len hdX sl22, RdS.idx hdX sl22, R1.intB hdX (Ext.pres eB), RdS.cells hdX, RdS.len hmX sl23, RdS.idx hmX sl23, RdS.cellB hmX (Ext.pres eB), RdS.cells hmX, RdS.len hvX sl26, RdS.idx hvX sl26, RdS.cellB hvX (Ext.pres eB), RdS.cells hvX, RdS.len (OS.rd how2_3_0) sl22, RdS.idx (OS.rd how2_3_0) sl22, R1.intN (OS.rd how2_3_0), RdS.cells (OS.rd how2_3_0), RdS.len (OS.rd ho2_4) sl26, RdS.idx (OS.rd ho2_4) sl26, RdS.cellN (OS.rd ho2_4), RdS.cells (OS.rd ho2_4), RdS.len (OS.rd hFr) sl22, RdS.idx (OS.rd hFr) sl22, R1.intN (OS.rd hFr), RdS.cells (OS.rd hFr), BoxAt.cell hb0_0, BoxAt.cell hb1_2, wrap_id]
   refine CallA.mono (iKept_ok _ X (n - (1 : Int)) (q - r) _ ⟨_, _, _, rfl, (RdS.pres hdX (Ext.pres eB)), (RdS.pres hmX (Ext.pres eB)), (RdS.pres hvX (Ext.pres eB))⟩ hF (by omega)) ?_
   intro vw7_6_0 h7_6
   rintro ⟨zvw7_6_0, fw7_6_0, rfl, how7_6_0, hfw7_6_0, e7_6⟩
   replace how2_3_0 := OS.ext how2_3_0 e7_6
   replace ho2_4 := OS.ext ho2_4 e7_6
   replace hFr := OS.ext hFr e7_6
   replace hb0_0 := BoxAt.ext hb0_0 e7_6
   replace hb1_2 := BoxAt.ext hb1_2 e7_6
   have := Ext.size e7_6
   replace eB := Ext.trans eB e7_6
   replace cL2 := Chg.stepE cL2 e7_6
   have hlhow7_6_0 := OS.lt how7_6_0
   try simp -implicitDefEqProofs (disch := first | decide | assumption | omega) only [go_sem, RdS.len hdX sl22, RdS.idx hdX sl22, R1.intB hdX (Ext.pres eB), RdS.cells hdX, RdS.len hmX sl23, RdS.idx hmX sl23, RdS.cellB hmX (Ext.pres eB), RdS.cells hmX, RdS.len hvX sl26, RdS.idx hvX sl26, RdS.cellB hvX (Ext.pres eB), RdS.cells hvX, RdS.len (OS.rd how2_3_0) sl22, RdS.idx (OS.rd how2_3_0) sl22, R1.intN (OS.rd how2_3_0), RdS.cells (OS.rd how2_3_0), RdS.len (OS.rd ho2_4) sl26, RdS.idx (OS.rd ho2_4) sl26, RdS.cellN (OS.rd ho2_4), RdS.cells (OS.rd ho2_4), RdS.len (OS.rd hFr) sl22, RdS.idx (OS.rd hFr) sl22, R1.intN (OS.rd hFr), RdS.cells (OS.rd hFr), RdS.len (OS.rd how7_6_0) sl22, RdS.idx (OS.rd how7_6_0) sl22, R1.intN (OS.rd how7_6_0), RdS.cells (OS.rd how7_6_0), BoxAt.cell hb0_0, BoxAt.cell hb1_2, wrap_id]
   try simp -implicitDefEqProofs (disch := first | decide | assumption | omega) only [go_sem, RdS.len hdX sl22, RdS.idx hdX sl22, R1.intB hdX (Ext.pres eB), RdS.cells hdX, RdS.len hmX sl23, RdS.idx hmX sl23, RdS.cellB hmX (Ext.pres eB), RdS.cells hmX, RdS.len hvX sl26, RdS.idx hvX sl26, RdS.cellB hvX (Ext.pres eB), RdS.cells hvX, RdS.len (OS.rd how2_3_0) sl22, RdS.idx (OS.rd how2_3_0) sl22, R1.intN (OS.rd how2_3_0), RdS.cells (OS.rd how2_3_0), RdS.len (OS.rd ho2_4) sl26, RdS.idx (OS.rd ho2_4) sl26, RdS.cellN (OS.rd ho2_4), RdS.cells (OS.rd ho2_4), RdS.len (OS.rd hFr) sl22, RdS.idx (OS.rd hFr) sl22, R1.intN (OS.rd hFr), RdS.cells (OS.rd hFr), RdS.len (OS.rd how7_6_0) sl22, RdS.idx (OS.rd how7_6_0) sl22, R1.intN (OS.rd how7_6_0), RdS.cells (OS.rd how7_6_0), BoxAt.cell hb0_0, BoxAt.cell hb1_2, wrap_id]
   refine CallA.mono (contains1_ok _ (keptP X (n - (1 : Int)) (q - r)) (i : Int) _ (OS.rd how7_6_0) ) ?_
   intro v_ h7_8
   rintro ⟨rfl, e7_8⟩
   replace how2_3_0 := OS.ext how2_3_0 e7_8
   replace ho2_4 := OS.ext ho2_4 e7_8
   replace hFr := OS.ext hFr e7_8
   replace how7_6_0 := OS.ext how7_6_0 e7_8
   replace hb0_0 := BoxAt.ext hb0_0 e7_8
   replace hb1_2 := BoxAt.ext hb1_2 e7_8
   have := Ext.size e7_8
   replace eB := Ext.trans eB e7_8
   replace cL2 := Chg.stepE cL2 e7_8
   try simp -implicitDefEqProofs (disch := first | decide | assumption | omega) only [go_sem, RdS.len hdX sl22, RdS.idx hdX sl22, R1.intB hdX (Ext.pres eB), RdS.cells hdX, RdS.len hmX sl23, RdS.idx hmX sl23, RdS.cellB hmX (Ext.pres eB), RdS.cells hmX, RdS.len hvX sl26, RdS.idx hvX sl26, RdS.cellB hvX (Ext.pres eB), RdS.cells hvX, RdS.len (OS.rd how2_3_0) sl22, RdS.idx (OS.rd how2_3_0) sl22, R1.intN (OS.rd how2_3_0), RdS.cells (OS.rd how2_3_0), RdS.len (OS.rd ho2_4) sl26, RdS.idx (OS.rd ho2_4) sl26, RdS.cellN (OS.rd ho2_4), RdS.cells (OS.rd ho2_4), RdS.len (OS.rd hFr) sl22, RdS.idx (OS.rd hFr) sl22, R1.intN (OS.rd hFr), RdS.cells (OS.rd hFr), RdS.len (OS.rd how7_6_0) sl22, RdS.idx (OS.rd how7_6_0) sl22, R1.intN (OS.rd how7_6_0), RdS.cells (OS.rd how7_6_0), BoxAt.cell hb0_0, BoxAt.cell hb1_2, wrap_id]
   refine hK _ _ ?_
   clear hK K
   refine den_cond rfl (fun c1 => ?_) (fun c1 => ?_)
   ·try simp only [decide_eq_true_eq, decide_eq_false_iff_not, beq_iff_eq, beq_eq_false_iff_ne, bne_iff_ne, ne_eq, Bool.not_eq_true', Bool.not_eq_false', Bool.and_eq_true, Bool.or_eq_true, bne_eq_false_iff_eq] at c1
    refine den_region TTok ?_
    intro K hK
    simp -implicitDefEqProofs (disch := first | decide | assumption | omega) only [go_sem, RdS.len hdX sl22, RdS.idx hdX sl22, R1.intB hdX (Ext.pres eB), RdS.cells hdX, RdS.len hmX sl23, RdS.idx hmX sl23, RdS.cellB hmX (Ext.pres eB), RdS.cells hmX, RdS.len hvX sl26, RdS.idx hvX sl26, RdS.cellB hvX (Ext.pres eB), RdS.cells hvX, RdS.len (OS.rd how2_3_0) sl22, RdS.idx (OS.rd how2_3_0) sl22, R1.intN (OS.rd how2_3_0), RdS.cells (OS.rd how2_3_0), RdS.len (OS.rd ho2_4) sl26, RdS.idx (OS.rd ho2_4) sl26, RdS.cellN (OS.rd ho2_4), RdS.cells (OS.rd ho2_4), RdS.len (OS.rd hFr) sl22, RdS.idx (OS.rd hFr) sl22, R1.intN (OS.rd hFr), RdS.cells (OS.rd hFr), BoxAt.cell hb0_0, BoxAt.cell hb1_2, wrap_id]
    refine op_bs1 sz22 rfl rfl ?_
    try simp -implicitDefEqProofs (disch := first | decide | assumption | omega) only [go_sem, RdS.len hdX sl22, RdS.idx hdX sl22, R1.intB hdX (Ext.pres eB), RdS.cells hdX, RdS.len hmX sl23, RdS.idx hmX sl23, RdS.cellB hmX (Ext.pres eB), RdS.cells hmX, RdS.len hvX sl26, RdS.idx hvX sl26, RdS.cellB hvX (Ext.pres eB), RdS.cells hvX, RdS.len (OS.rd how2_3_0) sl22, RdS.idx (OS.rd how2_3_0) sl22, R1.intN (OS.rd how2_3_0), RdS.cells (OS.rd how2_3_0), RdS.len (OS.rd ho2_4) sl26, RdS.idx (OS.rd ho2_4) sl26, RdS.cellN (OS.rd ho2_4), RdS.cells (OS.rd ho2_4), RdS.len (OS.rd hFr) sl22, RdS.idx (OS.rd hFr) sl22, R1.intN (OS.rd hFr), RdS.cells (OS.rd hFr), BoxAt.cell hb0_0, BoxAt.cell hb1_2, wrap_id]
    refine op_append1 sz22 hFr hfhFr.nodup ⟨rfl, rfl⟩ List.nodup_nil (Apart.nil _) (by first | omega | (simp; omega)) rfl rfl ?_
    intro v8_3 h8_3 fp8_3 ho8_3 hn8_3 hs8_3 c8_3
    have hsz8_3 := c8_3.size
    have hfho8_3 : Fresh h2_4.size fp8_3 := Fresh.appd hfhFr (Fresh.nil h7_8.size) (by omega) (by omega) hn8_3 hs8_3
    have sb5 : Sub [h2_4.size] h4_3.size fp8_3 := Sub.grow sbhFr Sub.nil (by omega) hs8_3
    replace how2_3_0 := OS.chg how2_3_0 c8_3 (apart_lt hlhow2_3_0 hfhFr (by omega))
    replace ho2_4 := OS.chg ho2_4 c8_3 (apart_lt hlho2_4 hfhFr (by omega))
    replace hb0_0 := BoxAt.chgA hb0_0 c8_3 (apart_lt hlhb0_0 hfhFr (by omega))
    replace hb1_2 := BoxAt.chgA hb1_2 c8_3 (apart_lt hlhb1_2 hfhFr (by omega))
    have := c8_3.size
    replace eB := Ext.then eB c8_3 (ge_of hfhFr (by omega))
    replace cL2 := Chg.step cL2 c8_3 sbhFr
    have hlho8_3 := OS.lt ho8_3
    try simp -implicitDefEqProofs (disch := first | decide | assumption | omega) only [go_sem, RdS.len hdX sl22, RdS.idx hdX sl22, R1.intB hdX (Ext.pres eB), RdS.cells hdX, RdS.len hmX sl23, RdS.idx hmX sl23, RdS.cellB hmX (Ext.pres eB), RdS.cells hmX, RdS.len hvX sl26, RdS.idx hvX sl26, RdS.cellB hvX (Ext.pres eB), RdS.cells hvX, RdS.len (OS.rd how2_3_0) sl22, RdS.idx (OS.rd how2_3_0) sl22, R1.intN (OS.rd how2_3_0), RdS.cells (OS.rd how2_3_0), RdS.len (OS.rd ho2_4) sl26, RdS.idx (OS.rd ho2_4) sl26, RdS.cellN (OS.rd ho2_4), RdS.cells (OS.rd ho2_4), RdS.len (OS.rd ho8_3) sl22, RdS.idx (OS.rd ho8_3) sl22, R1.intN (OS.rd ho8_3), RdS.cells (OS.rd ho8_3), BoxAt.cell hb0_0, BoxAt.cell hb1_2, wrap_id]
    refine hK _ _ ?_
    clear hK K
    refine den_blk ?_
    refine den_region TTok ?_
    intro K hK
    simp -implicitDefEqProofs (disch := first | decide | assumption | omega) only [go_sem, RdS.len hdX sl22, RdS.idx hdX sl22, R1.intB hdX (Ext.pres eB), RdS.cells hdX, RdS.len hmX sl23, RdS.idx hmX sl23, RdS.cellB hmX (Ext.pres eB), RdS.cells hmX, RdS.len hvX sl26, RdS.idx hvX sl26, RdS.cellB hvX (Ext.pres eB), RdS.cells hvX, RdS.len (OS.rd how2_3_0) sl22, RdS.idx (OS.rd how2_3_0) sl22, R1.intN (OS.rd how2_3_0), RdS.cells (OS.rd how2_3_0), RdS.len (OS.rd ho2_4) sl26, RdS.idx (OS.rd ho2_4) sl26, RdS.cellN (OS.rd ho2_4), RdS.cells (OS.rd ho2_4), RdS.len (OS.rd ho8_3) sl22, RdS.idx (OS.rd ho8_3) sl22, R1.intN (OS.rd ho8_3), RdS.cells (OS.rd ho8_3), BoxAt.cell hb0_0, BoxAt.cell hb1_2, wrap_id]
    refine hK _ _ ?_
    clear hK K
    refine den_stop ?_
    first | rw [farT_yes (fun h => c1 (hfi.2 h))] at ho8_3 | rw [farT_no (hfi.1 c1)] at ho8_3
    exact ⟨(i + 1, v8_3, fp8_3), by simp [HasL, puts_at], ⟨by first | omega | (dsimp only; omega), ho8_3, hfho8_3, sb5, cL2⟩, by first | omega | (dsimp only; omega)⟩
   ·try simp only [decide_eq_true_eq, decide_eq_false_iff_not, beq_iff_eq, beq_eq_false_iff_ne, bne_iff_ne, ne_eq, Bool.not_eq_true', Bool.not_eq_false', Bool.and_eq_true, Bool.or_eq_true, bne_eq_false_iff_eq] at c1
    refine den_skip ?_
    refine den_blk ?_
    refine den_region TTok ?_
    intro K hK
    simp -implicitDefEqProofs (disch := first | decide | assumption | omega) only [go_sem, RdS.len hdX sl22, RdS.idx hdX sl22, R1.intB hdX (Ext.pres eB), RdS.cells hdX, RdS.len hmX sl23, RdS.idx hmX sl23, RdS.cellB hmX (Ext.pres eB), RdS.cells hmX, RdS.len hvX sl26, RdS.idx hvX sl26, RdS.cellB hvX (Ext.pres eB), RdS.cells hvX, RdS.len (OS.rd how2_3_0) sl22, RdS.idx (OS.rd how2_3_0) sl22, R1.intN (OS.rd how2_3_0), RdS.cells (OS.rd how2_3_0), RdS.len (OS.rd ho2_4) sl26, RdS.idx (OS.rd ho2_4) sl26, RdS.cellN (OS.rd ho2_4), RdS.cells (OS.rd ho2_4), RdS.len (OS.rd hFr) sl22, RdS.idx (OS.rd hFr) sl22, R1.intN (OS.rd hFr), RdS.cells (OS.rd hFr), BoxAt.cell hb0_0, BoxAt.cell hb1_2, wrap_id]
    refine hK _ _ ?_
    clear hK K
    refine den_stop ?_
    first | rw [farT_yes (fun h => c1 (hfi.2 h))] at hFr | rw [farT_no (hfi.1 c1)] at hFr
    exact ⟨(i + 1, vhFr, fphFr), by simp [HasL, puts_at], ⟨by first | omega | (dsimp only; omega), hFr, hfhFr, sbhFr, cL2⟩, by first | omega | (dsimp only; omega)⟩
  ·try simp only [decide_eq_true_eq, decide_eq_false_iff_not, beq_iff_eq, beq_eq_false_iff_ne, bne_iff_ne, ne_eq, Bool.not_eq_true', Bool.not_eq_false', Bool.and_eq_true, Bool.or_eq_true, bne_eq_false_iff_eq] at c0
   refine den_exit ?_
   refine denX_code ?_
   refine denX_stop ?_
   refine denX_hit ?_
   refine den_seq ?_
   refine den_seq ?_
   rw [show i = (dimP X.c (n - 1)).toNat by omega] at hFr
   change O1 _ _ (farP X (n - 1) (q - r)) _ at hFr
   have hfl := farP_len hC (n - 1) (q - r)
   refine den_region TTok ?_
   intro K hK
   simp -implicitDefEqProofs (disch := first | decide | assumption | omega) only [go_sem, RdS.len hdX sl22, RdS.idx hdX sl22, R1.intB hdX (Ext.pres eB), RdS.cells hdX, RdS.len hmX sl23, RdS.idx hmX sl23, RdS.cellB hmX (Ext.pres eB), RdS.cells hmX, RdS.len hvX sl26, RdS.idx hvX sl26, RdS.cellB hvX (Ext.pres eB), RdS.cells hvX, RdS.len (OS.rd how2_3_0) sl22, RdS.idx (OS.rd how2_3_0) sl22, R1.intN (OS.rd how2_3_0), RdS.cells (OS.rd how2_3_0), RdS.len (OS.rd ho2_4) sl26, RdS.idx (OS.rd ho2_4) sl26, RdS.cellN (OS.rd ho2_4), RdS.cells (OS.rd ho2_4), RdS.len (OS.rd hFr) sl22, RdS.idx (OS.rd hFr) sl22, R1.intN (OS.rd hFr), RdS.cells (OS.rd hFr), BoxAt.cell hb1_2, wrap_id]
   refine hK _ _ ?_
   clear hK K
   refine den_block ?_
   refine den_sel [11, 57, 2, 9, 10, 12, 55, 56] ?_
   intro env_6
   simp only [go_sem]
   refine den_loopS (σ := Nat × Value × List Nat) (fun st_ => [(11, st_.2.1), (57, .int .i64 (st_.1 : Int))]) (fun st_ H => (st_.1 ≤ (keptP X n q).length) ∧ (O2 H st_.2.1 (rowsN X n q (q - r) st_.1) st_.2.2) ∧ (Fresh (h2_3.size) st_.2.2) ∧ (Sub [h2_3.size] h4.size st_.2.2) ∧ (Chg [h2_3.size] h4 H)) (fun st_ => (keptP X n q).length - st_.1) (0, v2_4, [h2_3.size]) ?_ ?_
   ·exact ⟨by first | (simp; done) | (dsimp only; omega) | (simp; omega), by show O2 _ _ [] _; exact ho2_4, hfho2_4, Sub.refl, Chg.refl _ _⟩
   ·rintro ⟨s, vhR, fphR⟩ h9 ee8 ⟨hi0, hR, hfhR, sbhR, cL7⟩
    dsimp only at hi0 hR hfhR sbhR cL7
    replace how2_3_0 := OS.chg how2_3_0 cL7 (apart_lt hlhow2_3_0 hfho2_4 (by omega))
    replace hFr := OS.chg hFr cL7 (apart_gt hfhFr hlho2_4 (by omega))
    replace hb1_2 := BoxAt.chgA hb1_2 cL7 (apart_lt hlhb1_2 hfho2_4 (by omega))
    have := cL7.size
    replace eB := Ext.then eB cL7 (ge_of hfho2_4 (by omega))
    have ap10 : Apart fphFr fphR := Apart.sub_ hlhFr (by omega) (apart_gt hfhFr hlho2_4 (by omega)) sbhR
    have hlhR := OS.lt hR
    simp only [List.cons_append, List.nil_append]
    refine den_seq ?_
    refine den_region TTok ?_
    intro K hK
    simp -implicitDefEqProofs (disch := first | decide | assumption | omega) only [go_sem, RdS.len hdX sl22, RdS.idx hdX sl22, R1.intB hdX (Ext.pres eB), RdS.cells hdX, RdS.len hmX sl23, RdS.idx hmX sl23, RdS.cellB hmX (Ext.pres eB), RdS.cells hmX, RdS.len hvX sl26, RdS.idx hvX sl26, RdS.cellB hvX (Ext.pres eB), RdS.cells hvX, RdS.len (OS.rd how2_3_0) sl22, RdS.idx (OS.rd how2_3_0) sl22, R1.intN (OS.rd how2_3_0), RdS.cells (OS.rd how2_3_0), RdS.len (OS.rd hFr) sl22, RdS.idx (OS.rd hFr) sl22, R1.intN (OS.rd hFr), RdS.cells (OS.rd hFr), RdS.len (OS.rd hR) sl26, RdS.idx (OS.rd hR) sl26, RdS.cellN (OS.rd hR), RdS.cells (OS.rd hR), BoxAt.cell hb1_2, wrap_id]
    refine hK _ _ ?_
    clear hK K
    refine den_seq ?_
    refine den_cond rfl (fun c2 => ?_) (fun c2 => ?_)
    ·try simp only [decide_eq_true_eq, decide_eq_false_iff_not, beq_iff_eq, beq_eq_false_iff_ne, bne_iff_ne, ne_eq, Bool.not_eq_true', Bool.not_eq_false', Bool.and_eq_true, Bool.or_eq_true, bne_eq_false_iff_eq] at c2
     refine den_skip ?_
     refine den_seq ?_
     refine den_block ?_
     refine den_seq ?_
     refine den_region TTok ?_
     intro K hK
     simp -implicitDefEqProofs (disch := first | decide | assumption | omega) only [go_sem, ld2, RdS.len hdX sl22, RdS.idx hdX sl22, R1.intB hdX (Ext.pres eB), RdS.cells hdX, RdS.len hmX sl23, RdS.idx hmX sl23, RdS.cellB hmX (Ext.pres eB), RdS.cells hmX, RdS.len hvX sl26, RdS.idx hvX sl26, RdS.cellB hvX (Ext.pres eB), RdS.cells hvX, RdS.len (OS.rd how2_3_0) sl22, RdS.idx (OS.rd how2_3_0) sl22, R1.intN (OS.rd how2_3_0), RdS.cells (OS.rd how2_3_0), RdS.len (OS.rd hFr) sl22, RdS.idx (OS.rd hFr) sl22, R1.intN (OS.rd hFr), RdS.cells (OS.rd hFr), RdS.len (OS.rd hR) sl26, RdS.idx (OS.rd hR) sl26, RdS.cellN (OS.rd hR), RdS.cells (OS.rd hR), BoxAt.cell hb1_2, wrap_id]
     refine hK _ _ ?_
     clear hK K
     refine den_seq ?_
     refine den_region TTok ?_
     intro K hK
     simp -implicitDefEqProofs (disch := first | decide | assumption | omega) only [go_sem, RdS.len hdX sl22, RdS.idx hdX sl22, R1.intB hdX (Ext.pres eB), RdS.cells hdX, RdS.len hmX sl23, RdS.idx hmX sl23, RdS.cellB hmX (Ext.pres eB), RdS.cells hmX, RdS.len hvX sl26, RdS.idx hvX sl26, RdS.cellB hvX (Ext.pres eB), RdS.cells hvX, RdS.len (OS.rd how2_3_0) sl22, RdS.idx (OS.rd how2_3_0) sl22, R1.intN (OS.rd how2_3_0), RdS.cells (OS.rd how2_3_0), RdS.len (OS.rd hFr) sl22, RdS.idx (OS.rd hFr) sl22, R1.intN (OS.rd hFr), RdS.cells (OS.rd hFr), RdS.len (OS.rd hR) sl26, RdS.idx (OS.rd hR) sl26, RdS.cellN (OS.rd hR), RdS.cells (OS.rd hR), BoxAt.cell hb1_2, wrap_id]
     refine op_bs0 sz22 OI ?_
     intro v13_0 h13_0 ho13_0 e13_0
     replace how2_3_0 := OS.ext how2_3_0 e13_0
     replace hFr := OS.ext hFr e13_0
     replace hR := OS.ext hR e13_0
     replace hb1_2 := BoxAt.ext hb1_2 e13_0
     have := Ext.size e13_0
     replace eB := Ext.trans eB e13_0
     replace cL7 := Chg.stepE cL7 e13_0
     have hfho13_0 : Fresh h9.size [h9.size] := Fresh.one _
     have hlho13_0 := OS.lt ho13_0
     try simp -implicitDefEqProofs (disch := first | decide | assumption | omega) only [go_sem, RdS.len hdX sl22, RdS.idx hdX sl22, R1.intB hdX (Ext.pres eB), RdS.cells hdX, RdS.len hmX sl23, RdS.idx hmX sl23, RdS.cellB hmX (Ext.pres eB), RdS.cells hmX, RdS.len hvX sl26, RdS.idx hvX sl26, RdS.cellB hvX (Ext.pres eB), RdS.cells hvX, RdS.len (OS.rd how2_3_0) sl22, RdS.idx (OS.rd how2_3_0) sl22, R1.intN (OS.rd how2_3_0), RdS.cells (OS.rd how2_3_0), RdS.len (OS.rd hFr) sl22, RdS.idx (OS.rd hFr) sl22, R1.intN (OS.rd hFr), RdS.cells (OS.rd hFr), RdS.len (OS.rd hR) sl26, RdS.idx (OS.rd hR) sl26, RdS.cellN (OS.rd hR), RdS.cells (OS.rd hR), RdS.len (OS.rd ho13_0) sl22, RdS.idx (OS.rd ho13_0) sl22, R1.intN (OS.rd ho13_0), RdS.cells (OS.rd ho13_0), BoxAt.cell hb1_2, wrap_id]
     refine hK _ _ ?_
     clear hK K
     refine den_seq ?_
     refine den_seq ?_
     refine den_region TTok ?_
     intro K hK
     simp -implicitDefEqProofs (disch := first | decide | assumption | omega) only [go_sem, RdS.len hdX sl22, RdS.idx hdX sl22, R1.intB hdX (Ext.pres eB), RdS.cells hdX, RdS.len hmX sl23, RdS.idx hmX sl23, RdS.cellB hmX (Ext.pres eB), RdS.cells hmX, RdS.len hvX sl26, RdS.idx hvX sl26, RdS.cellB hvX (Ext.pres eB), RdS.cells hvX, RdS.len (OS.rd how2_3_0) sl22, RdS.idx (OS.rd how2_3_0) sl22, R1.intN (OS.rd how2_3_0), RdS.cells (OS.rd how2_3_0), RdS.len (OS.rd hFr) sl22, RdS.idx (OS.rd hFr) sl22, R1.intN (OS.rd hFr), RdS.cells (OS.rd hFr), RdS.len (OS.rd hR) sl26, RdS.idx (OS.rd hR) sl26, RdS.cellN (OS.rd hR), RdS.cells (OS.rd hR), RdS.len (OS.rd ho13_0) sl22, RdS.idx (OS.rd ho13_0) sl22, R1.intN (OS.rd ho13_0), RdS.cells (OS.rd ho13_0), BoxAt.cell hb1_2, wrap_id]
     refine hK _ _ ?_
     clear hK K
     refine den_block ?_
     refine den_sel [16, 64, 2, 9, 10, 11, 12, 15, 55, 56, 57, 62, 63] ?_
     intro env_11
     simp only [go_sem]
     refine den_loopS (σ := Nat × Value × List Nat) (fun st_ => [(16, st_.2.1), (64, .int .i64 (st_.1 : Int))]) (fun st_ H => (st_.1 ≤ (farP X (n - 1) (q - r)).length) ∧ (O1 H st_.2.1 (((farP X (n - 1) (q - r)).take st_.1).map fun z : Int => entP X n ((keptP X n q).getD s 0) z.toNat) st_.2.2) ∧ (Fresh (h9.size) st_.2.2) ∧ (Sub [h9.size] h13_0.size st_.2.2) ∧ (Chg [h9.size] h13_0 H)) (fun st_ => (farP X (n - 1) (q - r)).length - st_.1) (0, v13_0, [h9.size]) ?_ ?_
     ·exact ⟨by first | (simp; done) | (dsimp only; omega) | (simp; omega), by simpa using ho13_0, hfho13_0, Sub.refl, Chg.refl _ _⟩
     ·rintro ⟨k, vhW, fphW⟩ h14 ee13 ⟨hi0, hW, hfhW, sbhW, cL12⟩
      dsimp only at hi0 hW hfhW sbhW cL12
      replace how2_3_0 := OS.chg how2_3_0 cL12 (apart_lt hlhow2_3_0 hfho13_0 (by omega))
      replace hFr := OS.chg hFr cL12 (apart_lt hlhFr hfho13_0 (by omega))
      replace hR := OS.chg hR cL12 (apart_lt hlhR hfho13_0 (by omega))
      replace hb1_2 := BoxAt.chgA hb1_2 cL12 (apart_lt hlhb1_2 hfho13_0 (by omega))
      have := cL12.size
      replace eB := Ext.then eB cL12 (ge_of hfho13_0 (by omega))
      replace cL7 := Chg.step cL7 cL12 (Sub.fresh hfho13_0 (by omega))
      have hlhW := OS.lt hW
      simp only [List.cons_append, List.nil_append]
      refine den_seq ?_
      refine den_region TTok ?_
      intro K hK
      simp -implicitDefEqProofs (disch := first | decide | assumption | omega) only [go_sem, RdS.len hdX sl22, RdS.idx hdX sl22, R1.intB hdX (Ext.pres eB), RdS.cells hdX, RdS.len hmX sl23, RdS.idx hmX sl23, RdS.cellB hmX (Ext.pres eB), RdS.cells hmX, RdS.len hvX sl26, RdS.idx hvX sl26, RdS.cellB hvX (Ext.pres eB), RdS.cells hvX, RdS.len (OS.rd how2_3_0) sl22, RdS.idx (OS.rd how2_3_0) sl22, R1.intN (OS.rd how2_3_0), RdS.cells (OS.rd how2_3_0), RdS.len (OS.rd hFr) sl22, RdS.idx (OS.rd hFr) sl22, R1.intN (OS.rd hFr), RdS.cells (OS.rd hFr), RdS.len (OS.rd hR) sl26, RdS.idx (OS.rd hR) sl26, RdS.cellN (OS.rd hR), RdS.cells (OS.rd hR), RdS.len (OS.rd hW) sl22, RdS.idx (OS.rd hW) sl22, R1.intN (OS.rd hW), RdS.cells (OS.rd hW), BoxAt.cell hb1_2, wrap_id]
      refine hK _ _ ?_
      clear hK K
      refine den_seq ?_
      refine den_cond rfl (fun c3 => ?_) (fun c3 => ?_)
      ·try simp only [decide_eq_true_eq, decide_eq_false_iff_not, beq_iff_eq, beq_eq_false_iff_ne, bne_iff_ne, ne_eq, Bool.not_eq_true', Bool.not_eq_false', Bool.and_eq_true, Bool.or_eq_true, bne_eq_false_iff_eq] at c3
       refine den_skip ?_
       refine den_seq ?_
       refine den_block ?_
       refine den_seq ?_
       refine den_region TTok ?_
       intro K hK
       simp -implicitDefEqProofs (disch := first | decide | assumption | omega) only [go_sem, ld2, RdS.len hdX sl22, RdS.idx hdX sl22, R1.intB hdX (Ext.pres eB), RdS.cells hdX, RdS.len hmX sl23, RdS.idx hmX sl23, RdS.cellB hmX (Ext.pres eB), RdS.cells hmX, RdS.len hvX sl26, RdS.idx hvX sl26, RdS.cellB hvX (Ext.pres eB), RdS.cells hvX, RdS.len (OS.rd how2_3_0) sl22, RdS.idx (OS.rd how2_3_0) sl22, R1.intN (OS.rd how2_3_0), RdS.cells (OS.rd how2_3_0), RdS.len (OS.rd hFr) sl22, RdS.idx (OS.rd hFr) sl22, R1.intN (OS.rd hFr), RdS.cells (OS.rd hFr), RdS.len (OS.rd hR) sl26, RdS.idx (OS.rd hR) sl26, RdS.cellN (OS.rd hR), RdS.cells (OS.rd hR), RdS.len (OS.rd hW) sl22, RdS.idx (OS.rd hW) sl22, R1.intN (OS.rd hW), RdS.cells (OS.rd hW), BoxAt.cell hb1_2, wrap_id]
       refine hK _ _ ?_
       clear hK K
       obtain ⟨hn1, hn2, hmp, hx1, hy1⟩ := near_at hC (n := n) (q := q) (t := q - r) (s := s) (k := k) (by omega) (by omega)
       have hx0 := keptP_at (X := X) (n := n) (q := q) (k := s) (by omega)
       have hy0 := farP_at (X := X) (m := n - 1) (t := q - r) (k := k) (by omega)
       have hmtl : (((farP X (n - 1) (q - r)).take k).map fun z : Int => entP X n ((keptP X n q).getD s 0) z.toNat).length ≤ 8 := by rw [List.length_map, List.length_take]; omega
       refine den_region TTok ?_
       intro K hK
       have hr15 := RdS.rowN hmX ((n - (1 : Int))).toNat (by omega)
       have hlhr15 := RdS.le hr15
       have hr16 := RdS.rowN hr15 (((keptP X n q).getD s 0)).toNat (by omega)
       have hlhr16 := RdS.le hr16
       simp -implicitDefEqProofs (disch := first | decide | assumption | omega) only [go_sem, fa31_2, ld23, ld26, ld22, ld2, RdS.len hdX sl22, RdS.idx hdX sl22, R1.intB hdX (Ext.pres eB), RdS.cells hdX, RdS.len hmX sl23, RdS.idx hmX sl23, RdS.cellB hmX (Ext.pres eB), RdS.cells hmX, RdS.len hvX sl26, RdS.idx hvX sl26, RdS.cellB hvX (Ext.pres eB), RdS.cells hvX, RdS.len hr15 sl26, RdS.idx hr15 sl26, RdS.cellB hr15 (Ext.pres eB), RdS.cells hr15, RdS.len hr16 sl22, RdS.idx hr16 sl22, R1.intB hr16 (Ext.pres eB), RdS.cells hr16, RdS.len (OS.rd how2_3_0) sl22, RdS.idx (OS.rd how2_3_0) sl22, R1.intN (OS.rd how2_3_0), RdS.cells (OS.rd how2_3_0), RdS.len (OS.rd hFr) sl22, RdS.idx (OS.rd hFr) sl22, R1.intN (OS.rd hFr), RdS.cells (OS.rd hFr), RdS.len (OS.rd hR) sl26, RdS.idx (OS.rd hR) sl26, RdS.cellN (OS.rd hR), RdS.cells (OS.rd hR), RdS.len (OS.rd hW) sl22, RdS.idx (OS.rd hW) sl22, R1.intN (OS.rd hW), RdS.cells (OS.rd hW), BoxAt.cell hb1_2, wrap_id]
       refine op_bs1 sz22 rfl rfl ?_
       try simp -implicitDefEqProofs (disch := first | decide | assumption | omega) only [go_sem, RdS.len hdX sl22, RdS.idx hdX sl22, R1.intB hdX (Ext.pres eB), RdS.cells hdX, RdS.len hmX sl23, RdS.idx hmX sl23, RdS.cellB hmX (Ext.pres eB), RdS.cells hmX, RdS.len hvX sl26, RdS.idx hvX sl26, RdS.cellB hvX (Ext.pres eB), RdS.cells hvX, RdS.len hr15 sl26, RdS.idx hr15 sl26, RdS.cellB hr15 (Ext.pres eB), RdS.cells hr15, RdS.len hr16 sl22, RdS.idx hr16 sl22, R1.intB hr16 (Ext.pres eB), RdS.cells hr16, RdS.len (OS.rd how2_3_0) sl22, RdS.idx (OS.rd how2_3_0) sl22, R1.intN (OS.rd how2_3_0), RdS.cells (OS.rd how2_3_0), RdS.len (OS.rd hFr) sl22, RdS.idx (OS.rd hFr) sl22, R1.intN (OS.rd hFr), RdS.cells (OS.rd hFr), RdS.len (OS.rd hR) sl26, RdS.idx (OS.rd hR) sl26, RdS.cellN (OS.rd hR), RdS.cells (OS.rd hR), RdS.len (OS.rd hW) sl22, RdS.idx (OS.rd hW) sl22, R1.intN (OS.rd hW), RdS.cells (OS.rd hW), BoxAt.cell hb1_2, wrap_id]
       refine op_append1 sz22 hW hfhW.nodup ⟨rfl, rfl⟩ List.nodup_nil (Apart.nil _) (by first | omega | (simp; omega)) rfl rfl ?_
       intro v17_14 h17_14 fp17_14 ho17_14 hn17_14 hs17_14 c17_14
       have hsz17_14 := c17_14.size
       have hfho17_14 : Fresh h9.size fp17_14 := Fresh.appd hfhW (Fresh.nil h14.size) (by omega) (by omega) hn17_14 hs17_14
       have sb17 : Sub [h9.size] h13_0.size fp17_14 := Sub.grow sbhW Sub.nil (by omega) hs17_14
       replace how2_3_0 := OS.chg how2_3_0 c17_14 (apart_lt hlhow2_3_0 hfhW (by omega))
       replace hFr := OS.chg hFr c17_14 (apart_lt hlhFr hfhW (by omega))
       replace hR := OS.chg hR c17_14 (apart_lt hlhR hfhW (by omega))
       replace hb1_2 := BoxAt.chgA hb1_2 c17_14 (apart_lt hlhb1_2 hfhW (by omega))
       have := c17_14.size
       replace eB := Ext.then eB c17_14 (ge_of hfhW (by omega))
       replace cL7 := Chg.step cL7 c17_14 (Sub.fresh hfhW (by omega))
       replace cL12 := Chg.step cL12 c17_14 sbhW
       have hlho17_14 := OS.lt ho17_14
       try simp -implicitDefEqProofs (disch := first | decide | assumption | omega) only [go_sem, RdS.len hdX sl22, RdS.idx hdX sl22, R1.intB hdX (Ext.pres eB), RdS.cells hdX, RdS.len hmX sl23, RdS.idx hmX sl23, RdS.cellB hmX (Ext.pres eB), RdS.cells hmX, RdS.len hvX sl26, RdS.idx hvX sl26, RdS.cellB hvX (Ext.pres eB), RdS.cells hvX, RdS.len hr15 sl26, RdS.idx hr15 sl26, RdS.cellB hr15 (Ext.pres eB), RdS.cells hr15, RdS.len hr16 sl22, RdS.idx hr16 sl22, R1.intB hr16 (Ext.pres eB), RdS.cells hr16, RdS.len (OS.rd how2_3_0) sl22, RdS.idx (OS.rd how2_3_0) sl22, R1.intN (OS.rd how2_3_0), RdS.cells (OS.rd how2_3_0), RdS.len (OS.rd hFr) sl22, RdS.idx (OS.rd hFr) sl22, R1.intN (OS.rd hFr), RdS.cells (OS.rd hFr), RdS.len (OS.rd hR) sl26, RdS.idx (OS.rd hR) sl26, RdS.cellN (OS.rd hR), RdS.cells (OS.rd hR), RdS.len (OS.rd ho17_14) sl22, RdS.idx (OS.rd ho17_14) sl22, R1.intN (OS.rd ho17_14), RdS.cells (OS.rd ho17_14), BoxAt.cell hb1_2, wrap_id]
       refine hK _ _ ?_
       clear hK K
       refine den_blk ?_
       refine den_region TTok ?_
       intro K hK
       simp -implicitDefEqProofs (disch := first | decide | assumption | omega) only [go_sem, RdS.len hdX sl22, RdS.idx hdX sl22, R1.intB hdX (Ext.pres eB), RdS.cells hdX, RdS.len hmX sl23, RdS.idx hmX sl23, RdS.cellB hmX (Ext.pres eB), RdS.cells hmX, RdS.len hvX sl26, RdS.idx hvX sl26, RdS.cellB hvX (Ext.pres eB), RdS.cells hvX, RdS.len hr15 sl26, RdS.idx hr15 sl26, RdS.cellB hr15 (Ext.pres eB), RdS.cells hr15, RdS.len hr16 sl22, RdS.idx hr16 sl22, R1.intB hr16 (Ext.pres eB), RdS.cells hr16, RdS.len (OS.rd how2_3_0) sl22, RdS.idx (OS.rd how2_3_0) sl22, R1.intN (OS.rd how2_3_0), RdS.cells (OS.rd how2_3_0), RdS.len (OS.rd hFr) sl22, RdS.idx (OS.rd hFr) sl22, R1.intN (OS.rd hFr), RdS.cells (OS.rd hFr), RdS.len (OS.rd hR) sl26, RdS.idx (OS.rd hR) sl26, RdS.cellN (OS.rd hR), RdS.cells (OS.rd hR), RdS.len (OS.rd ho17_14) sl22, RdS.idx (OS.rd ho17_14) sl22, R1.intN (OS.rd ho17_14), RdS.cells (OS.rd ho17_14), BoxAt.cell hb1_2, wrap_id]
       refine hK _ _ ?_
       clear hK K
       refine den_stop ?_
       rw [show ((X.c.maps.getD (n - 1).toNat default).getD ((keptP X n q).getD s 0).toNat default).getD ((farP X (n - 1) (q - r)).getD k 0).toNat 0 = entP X n ((keptP X n q).getD s 0) ((farP X (n - 1) (q - r)).getD k 0).toNat by rw [entP, hmp], map_takeL (f := fun z : Int => entP X n ((keptP X n q).getD s 0) z.toNat) (d := 0) (by omega)] at ho17_14
       exact ⟨(k + 1, v17_14, fp17_14), by simp [HasL, puts_at], ⟨by first | omega | (dsimp only; omega), ho17_14, hfho17_14, sb17, cL12⟩, by first | omega | (dsimp only; omega)⟩
      ·try simp only [decide_eq_true_eq, decide_eq_false_iff_not, beq_iff_eq, beq_eq_false_iff_ne, bne_iff_ne, ne_eq, Bool.not_eq_true', Bool.not_eq_false', Bool.and_eq_true, Bool.or_eq_true, bne_eq_false_iff_eq] at c3
       refine den_exit ?_
       refine denX_code ?_
       refine denX_stop ?_
       refine denX_hit ?_
       have hrn := rowsN_len X n q (q - r) s
       refine den_region TTok ?_
       intro K hK
       simp -implicitDefEqProofs (disch := first | decide | assumption | omega) only [go_sem, RdS.len hdX sl22, RdS.idx hdX sl22, R1.intB hdX (Ext.pres eB), RdS.cells hdX, RdS.len hmX sl23, RdS.idx hmX sl23, RdS.cellB hmX (Ext.pres eB), RdS.cells hmX, RdS.len hvX sl26, RdS.idx hvX sl26, RdS.cellB hvX (Ext.pres eB), RdS.cells hvX, RdS.len (OS.rd how2_3_0) sl22, RdS.idx (OS.rd how2_3_0) sl22, R1.intN (OS.rd how2_3_0), RdS.cells (OS.rd how2_3_0), RdS.len (OS.rd hFr) sl22, RdS.idx (OS.rd hFr) sl22, R1.intN (OS.rd hFr), RdS.cells (OS.rd hFr), RdS.len (OS.rd hR) sl26, RdS.idx (OS.rd hR) sl26, RdS.cellN (OS.rd hR), RdS.cells (OS.rd hR), RdS.len (OS.rd hW) sl22, RdS.idx (OS.rd hW) sl22, R1.intN (OS.rd hW), RdS.cells (OS.rd hW), BoxAt.cell hb1_2, wrap_id]
       refine op_bs1 sz26 rfl (OS.one hW).2 ?_
       try simp -implicitDefEqProofs (disch := first | decide | assumption | omega) only [go_sem, RdS.len hdX sl22, RdS.idx hdX sl22, R1.intB hdX (Ext.pres eB), RdS.cells hdX, RdS.len hmX sl23, RdS.idx hmX sl23, RdS.cellB hmX (Ext.pres eB), RdS.cells hmX, RdS.len hvX sl26, RdS.idx hvX sl26, RdS.cellB hvX (Ext.pres eB), RdS.cells hvX, RdS.len (OS.rd how2_3_0) sl22, RdS.idx (OS.rd how2_3_0) sl22, R1.intN (OS.rd how2_3_0), RdS.cells (OS.rd how2_3_0), RdS.len (OS.rd hFr) sl22, RdS.idx (OS.rd hFr) sl22, R1.intN (OS.rd hFr), RdS.cells (OS.rd hFr), RdS.len (OS.rd hR) sl26, RdS.idx (OS.rd hR) sl26, RdS.cellN (OS.rd hR), RdS.cells (OS.rd hR), RdS.len (OS.rd hW) sl22, RdS.idx (OS.rd hW) sl22, R1.intN (OS.rd hW), RdS.cells (OS.rd hW), BoxAt.cell hb1_2, wrap_id]
       refine op_append1 sz26 hR hfhR.nodup hW hfhW.nodup (apart_lt hlhR hfhW (by omega)) (by first | omega | (simp; omega)) rfl rfl ?_
       intro v19_3 h19_3 fp19_3 ho19_3 hn19_3 hs19_3 c19_3
       have hsz19_3 := c19_3.size
       have hfho19_3 : Fresh h2_3.size fp19_3 := Fresh.appd hfhR hfhW (by omega) (by omega) hn19_3 hs19_3
       have sb18 : Sub [h2_3.size] h4.size fp19_3 := Sub.grow sbhR (Sub.fresh hfhW (by omega)) (by omega) hs19_3
       replace how2_3_0 := OS.chg how2_3_0 c19_3 (apart_lt hlhow2_3_0 hfhR (by omega))
       replace hFr := OS.chg hFr c19_3 ap10
       replace hb1_2 := BoxAt.chgA hb1_2 c19_3 (apart_lt hlhb1_2 hfhR (by omega))
       have := c19_3.size
       replace eB := Ext.then eB c19_3 (ge_of hfhR (by omega))
       replace cL7 := Chg.step cL7 c19_3 sbhR
       have ap19 : Apart fphFr fp19_3 := Apart.grow hlhFr (by omega) ap10 (apart_lt hlhFr hfhW (by omega)) hs19_3
       have hlho19_3 := OS.lt ho19_3
       try simp -implicitDefEqProofs (disch := first | decide | assumption | omega) only [go_sem, RdS.len hdX sl22, RdS.idx hdX sl22, R1.intB hdX (Ext.pres eB), RdS.cells hdX, RdS.len hmX sl23, RdS.idx hmX sl23, RdS.cellB hmX (Ext.pres eB), RdS.cells hmX, RdS.len hvX sl26, RdS.idx hvX sl26, RdS.cellB hvX (Ext.pres eB), RdS.cells hvX, RdS.len (OS.rd how2_3_0) sl22, RdS.idx (OS.rd how2_3_0) sl22, R1.intN (OS.rd how2_3_0), RdS.cells (OS.rd how2_3_0), RdS.len (OS.rd hFr) sl22, RdS.idx (OS.rd hFr) sl22, R1.intN (OS.rd hFr), RdS.cells (OS.rd hFr), RdS.len (OS.rd ho19_3) sl26, RdS.idx (OS.rd ho19_3) sl26, RdS.cellN (OS.rd ho19_3), RdS.cells (OS.rd ho19_3), BoxAt.cell hb1_2, wrap_id]
       refine hK _ _ ?_
       clear hK K
       refine den_blk ?_
       refine den_region TTok ?_
       intro K hK
       simp -implicitDefEqProofs (disch := first | decide | assumption | omega) only [go_sem, RdS.len hdX sl22, RdS.idx hdX sl22, R1.intB hdX (Ext.pres eB), RdS.cells hdX, RdS.len hmX sl23, RdS.idx hmX sl23, RdS.cellB hmX (Ext.pres eB), RdS.cells hmX, RdS.len hvX sl26, RdS.idx hvX sl26, RdS.cellB hvX (Ext.pres eB), RdS.cells hvX, RdS.len (OS.rd how2_3_0) sl22, RdS.idx (OS.rd how2_3_0) sl22, R1.intN (OS.rd how2_3_0), RdS.cells (OS.rd how2_3_0), RdS.len (OS.rd hFr) sl22, RdS.idx (OS.rd hFr) sl22, R1.intN (OS.rd hFr), RdS.cells (OS.rd hFr), RdS.len (OS.rd ho19_3) sl26, RdS.idx (OS.rd ho19_3) sl26, RdS.cellN (OS.rd ho19_3), RdS.cells (OS.rd ho19_3), BoxAt.cell hb1_2, wrap_id]
       refine hK _ _ ?_
       clear hK K
       refine den_stop ?_
       rw [map_takeE (by omega), farP_row, rowsN_step] at ho19_3
       exact ⟨(s + 1, v19_3, fp19_3), by simp [HasL, puts_at], ⟨by first | omega | (dsimp only; omega), ho19_3, hfho19_3, sb18, cL7⟩, by first | omega | (dsimp only; omega)⟩
    ·try simp only [decide_eq_true_eq, decide_eq_false_iff_not, beq_iff_eq, beq_eq_false_iff_ne, bne_iff_ne, ne_eq, Bool.not_eq_true', Bool.not_eq_false', Bool.and_eq_true, Bool.or_eq_true, bne_eq_false_iff_eq] at c2
     refine den_exit ?_
     refine denX_code ?_
     refine denX_stop ?_
     refine denX_hit ?_
     refine den_seq ?_
     refine den_region TTok ?_
     intro K hK
     simp -implicitDefEqProofs (disch := first | decide | assumption | omega) only [go_sem, RdS.len hdX sl22, RdS.idx hdX sl22, R1.intB hdX (Ext.pres eB), RdS.cells hdX, RdS.len hmX sl23, RdS.idx hmX sl23, RdS.cellB hmX (Ext.pres eB), RdS.cells hmX, RdS.len hvX sl26, RdS.idx hvX sl26, RdS.cellB hvX (Ext.pres eB), RdS.cells hvX, RdS.len (OS.rd how2_3_0) sl22, RdS.idx (OS.rd how2_3_0) sl22, R1.intN (OS.rd how2_3_0), RdS.cells (OS.rd how2_3_0), RdS.len (OS.rd hR) sl26, RdS.idx (OS.rd hR) sl26, RdS.cellN (OS.rd hR), RdS.cells (OS.rd hR), BoxAt.cell hb1_2, wrap_id]
     refine op_bs0 sz26 O1 ?_
     intro v21_0 h21_0 ho21_0 e21_0
     replace how2_3_0 := OS.ext how2_3_0 e21_0
     replace hR := OS.ext hR e21_0
     replace hb1_2 := BoxAt.ext hb1_2 e21_0
     have := Ext.size e21_0
     replace eB := Ext.trans eB e21_0
     have hfho21_0 : Fresh h9.size [h9.size] := Fresh.one _
     have hlho21_0 := OS.lt ho21_0
     try simp -implicitDefEqProofs (disch := first | decide | assumption | omega) only [go_sem, RdS.len hdX sl22, RdS.idx hdX sl22, R1.intB hdX (Ext.pres eB), RdS.cells hdX, RdS.len hmX sl23, RdS.idx hmX sl23, RdS.cellB hmX (Ext.pres eB), RdS.cells hmX, RdS.len hvX sl26, RdS.idx hvX sl26, RdS.cellB hvX (Ext.pres eB), RdS.cells hvX, RdS.len (OS.rd how2_3_0) sl22, RdS.idx (OS.rd how2_3_0) sl22, R1.intN (OS.rd how2_3_0), RdS.cells (OS.rd how2_3_0), RdS.len (OS.rd hR) sl26, RdS.idx (OS.rd hR) sl26, RdS.cellN (OS.rd hR), RdS.cells (OS.rd hR), RdS.len (OS.rd ho21_0) sl26, RdS.idx (OS.rd ho21_0) sl26, RdS.cellN (OS.rd ho21_0), RdS.cells (OS.rd ho21_0), BoxAt.cell hb1_2, wrap_id]
     refine hK _ _ ?_
     clear hK K
     refine den_seq ?_
     refine den_seq ?_
     rw [show s = (keptP X n q).length by omega] at hR
     change O2 _ _ (rowsP X n q (q - r)) _ at hR
     have hkerT := rows_tbl hC n q (q - r)
     have hrl := rowsP_len X n q (q - r)
     have hkq := kerQ_le hC.p hkerT
     refine den_region TTok ?_
     intro K hK
     simp -implicitDefEqProofs (disch := first | decide | assumption | omega) only [go_sem, fa31_0, ld2, RdS.len hdX sl22, RdS.idx hdX sl22, R1.intB hdX (Ext.pres eB), RdS.cells hdX, RdS.len hmX sl23, RdS.idx hmX sl23, RdS.cellB hmX (Ext.pres eB), RdS.cells hmX, RdS.len hvX sl26, RdS.idx hvX sl26, RdS.cellB hvX (Ext.pres eB), RdS.cells hvX, RdS.len (OS.rd how2_3_0) sl22, RdS.idx (OS.rd how2_3_0) sl22, R1.intN (OS.rd how2_3_0), RdS.cells (OS.rd how2_3_0), RdS.len (OS.rd hR) sl26, RdS.idx (OS.rd hR) sl26, RdS.cellN (OS.rd hR), RdS.cells (OS.rd hR), RdS.len (OS.rd ho21_0) sl26, RdS.idx (OS.rd ho21_0) sl26, RdS.cellN (OS.rd ho21_0), RdS.cells (OS.rd ho21_0), BoxAt.cell hb1_2, wrap_id]
     try simp -implicitDefEqProofs (disch := first | decide | assumption | omega) only [go_sem, RdS.len hdX sl22, RdS.idx hdX sl22, R1.intB hdX (Ext.pres eB), RdS.cells hdX, RdS.len hmX sl23, RdS.idx hmX sl23, RdS.cellB hmX (Ext.pres eB), RdS.cells hmX, RdS.len hvX sl26, RdS.idx hvX sl26, RdS.cellB hvX (Ext.pres eB), RdS.cells hvX, RdS.len (OS.rd how2_3_0) sl22, RdS.idx (OS.rd how2_3_0) sl22, R1.intN (OS.rd how2_3_0), RdS.cells (OS.rd how2_3_0), RdS.len (OS.rd hR) sl26, RdS.idx (OS.rd hR) sl26, RdS.cellN (OS.rd hR), RdS.cells (OS.rd hR), RdS.len (OS.rd ho21_0) sl26, RdS.idx (OS.rd ho21_0) sl26, RdS.cellN (OS.rd ho21_0), RdS.cells (OS.rd ho21_0), BoxAt.cell hb1_2, wrap_id]
     refine CallA.mono (iKernel_ok _ X.c.p (rowsP X n q (q - r)) _ (OS.rd hR) hP hkerT (by omega) (by omega)) ?_
     intro vw22_3_0 h22_3
     rintro ⟨zvw22_3_0, fw22_3_0, rfl, how22_3_0, hfw22_3_0, e22_3⟩
     replace how2_3_0 := OS.ext how2_3_0 e22_3
     replace hR := OS.ext hR e22_3
     replace ho21_0 := OS.ext ho21_0 e22_3
     replace hb1_2 := BoxAt.ext hb1_2 e22_3
     have := Ext.size e22_3
     replace eB := Ext.trans eB e22_3
     have hlhow22_3_0 := OS.lt how22_3_0
     try simp -implicitDefEqProofs (disch := first | decide | assumption | omega) only [go_sem, RdS.len hdX sl22, RdS.idx hdX sl22, R1.intB hdX (Ext.pres eB), RdS.cells hdX, RdS.len hmX sl23, RdS.idx hmX sl23, RdS.cellB hmX (Ext.pres eB), RdS.cells hmX, RdS.len hvX sl26, RdS.idx hvX sl26, RdS.cellB hvX (Ext.pres eB), RdS.cells hvX, RdS.len (OS.rd how2_3_0) sl22, RdS.idx (OS.rd how2_3_0) sl22, R1.intN (OS.rd how2_3_0), RdS.cells (OS.rd how2_3_0), RdS.len (OS.rd hR) sl26, RdS.idx (OS.rd hR) sl26, RdS.cellN (OS.rd hR), RdS.cells (OS.rd hR), RdS.len (OS.rd ho21_0) sl26, RdS.idx (OS.rd ho21_0) sl26, RdS.cellN (OS.rd ho21_0), RdS.cells (OS.rd ho21_0), RdS.len (OS.rd how22_3_0) sl26, RdS.idx (OS.rd how22_3_0) sl26, RdS.cellN (OS.rd how22_3_0), RdS.cells (OS.rd how22_3_0), BoxAt.cell hb1_2, wrap_id]
     refine hK _ _ ?_
     clear hK K
     refine den_block ?_
     refine den_sel [19, 95, 2, 9, 10, 93, 94] ?_
     intro env_20
     simp only [go_sem]
     refine den_loopS (σ := Nat × Value × List Nat) (fun st_ => [(19, st_.2.1), (95, .int .i64 (st_.1 : Int))]) (fun st_ H => (st_.1 ≤ (kerQ X.c.p (rowsP X n q (q - r))).length) ∧ (O2 H st_.2.1 (((kerQ X.c.p (rowsP X n q (q - r))).take st_.1).map fun z => wideN (keptP X n q) z (dimP X.c n).toNat (keptP X n q).length) st_.2.2) ∧ (Fresh (h9.size) st_.2.2) ∧ (Sub [h9.size] h22_3.size st_.2.2) ∧ (Chg [h9.size] h22_3 H)) (fun st_ => (kerQ X.c.p (rowsP X n q (q - r))).length - st_.1) (0, v21_0, [h9.size]) ?_ ?_
     ·exact ⟨by first | (simp; done) | (dsimp only; omega) | (simp; omega), by simpa using ho21_0, hfho21_0, Sub.refl, Chg.refl _ _⟩
     ·rintro ⟨v, vhV, fphV⟩ h23 ee22 ⟨hi0, hV, hfhV, sbhV, cL21⟩
      dsimp only at hi0 hV hfhV sbhV cL21
      replace how2_3_0 := OS.chg how2_3_0 cL21 (apart_lt hlhow2_3_0 hfho21_0 (by omega))
      replace hR := OS.chg hR cL21 (apart_lt hlhR hfho21_0 (by omega))
      replace how22_3_0 := OS.chg how22_3_0 cL21 (apart_gt hfw22_3_0 hlho21_0 (by omega))
      replace hb1_2 := BoxAt.chgA hb1_2 cL21 (apart_lt hlhb1_2 hfho21_0 (by omega))
      have := cL21.size
      replace eB := Ext.then eB cL21 (ge_of hfho21_0 (by omega))
      have ap24 : Apart fw22_3_0 fphV := Apart.sub_ hlhow22_3_0 (by omega) (apart_gt hfw22_3_0 hlho21_0 (by omega)) sbhV
      have hlhV := OS.lt hV
      simp only [List.cons_append, List.nil_append]
      refine den_seq ?_
      refine den_region TTok ?_
      intro K hK
      simp -implicitDefEqProofs (disch := first | decide | assumption | omega) only [go_sem, RdS.len hdX sl22, RdS.idx hdX sl22, R1.intB hdX (Ext.pres eB), RdS.cells hdX, RdS.len hmX sl23, RdS.idx hmX sl23, RdS.cellB hmX (Ext.pres eB), RdS.cells hmX, RdS.len hvX sl26, RdS.idx hvX sl26, RdS.cellB hvX (Ext.pres eB), RdS.cells hvX, RdS.len (OS.rd how2_3_0) sl22, RdS.idx (OS.rd how2_3_0) sl22, R1.intN (OS.rd how2_3_0), RdS.cells (OS.rd how2_3_0), RdS.len (OS.rd how22_3_0) sl26, RdS.idx (OS.rd how22_3_0) sl26, RdS.cellN (OS.rd how22_3_0), RdS.cells (OS.rd how22_3_0), RdS.len (OS.rd hV) sl26, RdS.idx (OS.rd hV) sl26, RdS.cellN (OS.rd hV), RdS.cells (OS.rd hV), BoxAt.cell hb1_2, wrap_id]
      refine hK _ _ ?_
      clear hK K
      refine den_seq ?_
      refine den_cond rfl (fun c4 => ?_) (fun c4 => ?_)
      ·try simp only [decide_eq_true_eq, decide_eq_false_iff_not, beq_iff_eq, beq_eq_false_iff_ne, bne_iff_ne, ne_eq, Bool.not_eq_true', Bool.not_eq_false', Bool.and_eq_true, Bool.or_eq_true, bne_eq_false_iff_eq] at c4
       refine den_skip ?_
       refine den_seq ?_
       refine den_block ?_
       refine den_seq ?_
       refine den_region TTok ?_
       intro K hK
       have hr25 := RdS.rowN (OS.rd how22_3_0) v (by omega)
       have hlhr25 := RdS.le hr25
       have xr26 := Ext.refl h23
       simp -implicitDefEqProofs (disch := first | decide | assumption | omega) only [go_sem, ld22, RdS.len hdX sl22, RdS.idx hdX sl22, R1.intB hdX (Ext.pres eB), RdS.cells hdX, RdS.len hmX sl23, RdS.idx hmX sl23, RdS.cellB hmX (Ext.pres eB), RdS.cells hmX, RdS.len hvX sl26, RdS.idx hvX sl26, RdS.cellB hvX (Ext.pres eB), RdS.cells hvX, RdS.len (OS.rd how2_3_0) sl22, RdS.idx (OS.rd how2_3_0) sl22, R1.intN (OS.rd how2_3_0), RdS.cells (OS.rd how2_3_0), RdS.len (OS.rd how22_3_0) sl26, RdS.idx (OS.rd how22_3_0) sl26, RdS.cellN (OS.rd how22_3_0), RdS.cells (OS.rd how22_3_0), RdS.len (OS.rd hV) sl26, RdS.idx (OS.rd hV) sl26, RdS.cellN (OS.rd hV), RdS.cells (OS.rd hV), BoxAt.cell hb1_2, RdS.len hr25 sl22, RdS.idx hr25 sl22, R1.intB hr25 (Ext.pres xr26), RdS.cells hr25, wrap_id]
       refine hK _ _ ?_
       clear hK K
       refine den_seq ?_
       refine den_region TTok ?_
       intro K hK
       simp -implicitDefEqProofs (disch := first | decide | assumption | omega) only [go_sem, ld31, RdS.len hdX sl22, RdS.idx hdX sl22, R1.intB hdX (Ext.pres eB), RdS.cells hdX, RdS.len hmX sl23, RdS.idx hmX sl23, RdS.cellB hmX (Ext.pres eB), RdS.cells hmX, RdS.len hvX sl26, RdS.idx hvX sl26, RdS.cellB hvX (Ext.pres eB), RdS.cells hvX, RdS.len (OS.rd how2_3_0) sl22, RdS.idx (OS.rd how2_3_0) sl22, R1.intN (OS.rd how2_3_0), RdS.cells (OS.rd how2_3_0), RdS.len (OS.rd how22_3_0) sl26, RdS.idx (OS.rd how22_3_0) sl26, RdS.cellN (OS.rd how22_3_0), RdS.cells (OS.rd how22_3_0), RdS.len (OS.rd hV) sl26, RdS.idx (OS.rd hV) sl26, RdS.cellN (OS.rd hV), RdS.cells (OS.rd hV), BoxAt.cell hb1_2, RdS.len hr25 sl22, RdS.idx hr25 sl22, R1.intB hr25 (Ext.pres xr26), RdS.cells hr25, wrap_id]
       try simp -implicitDefEqProofs (disch := first | decide | assumption | omega) only [go_sem, RdS.len hdX sl22, RdS.idx hdX sl22, R1.intB hdX (Ext.pres eB), RdS.cells hdX, RdS.len hmX sl23, RdS.idx hmX sl23, RdS.cellB hmX (Ext.pres eB), RdS.cells hmX, RdS.len hvX sl26, RdS.idx hvX sl26, RdS.cellB hvX (Ext.pres eB), RdS.cells hvX, RdS.len (OS.rd how2_3_0) sl22, RdS.idx (OS.rd how2_3_0) sl22, R1.intN (OS.rd how2_3_0), RdS.cells (OS.rd how2_3_0), RdS.len (OS.rd how22_3_0) sl26, RdS.idx (OS.rd how22_3_0) sl26, RdS.cellN (OS.rd how22_3_0), RdS.cells (OS.rd how22_3_0), RdS.len (OS.rd hV) sl26, RdS.idx (OS.rd hV) sl26, RdS.cellN (OS.rd hV), RdS.cells (OS.rd hV), BoxAt.cell hb1_2, RdS.len hr25 sl22, RdS.idx hr25 sl22, R1.intB hr25 (Ext.pres xr26), RdS.cells hr25, wrap_id]
       refine CallA.mono (iDim_ok _ X.c _ _ ⟨_, _, rfl, (RdS.pres hdX (Ext.pres eB)), (RdS.pres hmX (Ext.pres eB))⟩) ?_
       intro v_ h25_2
       rintro ⟨rfl, e25_2⟩
       replace how2_3_0 := OS.ext how2_3_0 e25_2
       replace how22_3_0 := OS.ext how22_3_0 e25_2
       replace hV := OS.ext hV e25_2
       replace hb1_2 := BoxAt.ext hb1_2 e25_2
       have := Ext.size e25_2
       replace eB := Ext.trans eB e25_2
       replace xr26 := Ext.trans xr26 e25_2
       replace cL21 := Chg.stepE cL21 e25_2
       try simp -implicitDefEqProofs (disch := first | decide | assumption | omega) only [go_sem, RdS.len hdX sl22, RdS.idx hdX sl22, R1.intB hdX (Ext.pres eB), RdS.cells hdX, RdS.len hmX sl23, RdS.idx hmX sl23, RdS.cellB hmX (Ext.pres eB), RdS.cells hmX, RdS.len hvX sl26, RdS.idx hvX sl26, RdS.cellB hvX (Ext.pres eB), RdS.cells hvX, RdS.len (OS.rd how2_3_0) sl22, RdS.idx (OS.rd how2_3_0) sl22, R1.intN (OS.rd how2_3_0), RdS.cells (OS.rd how2_3_0), RdS.len (OS.rd how22_3_0) sl26, RdS.idx (OS.rd how22_3_0) sl26, RdS.cellN (OS.rd how22_3_0), RdS.cells (OS.rd how22_3_0), RdS.len (OS.rd hV) sl26, RdS.idx (OS.rd hV) sl26, RdS.cellN (OS.rd hV), RdS.cells (OS.rd hV), BoxAt.cell hb1_2, RdS.len hr25 sl22, RdS.idx hr25 sl22, R1.intB hr25 (Ext.pres xr26), RdS.cells hr25, wrap_id]
       refine op_make sz22 rfl rfl (by omega) (by omega) OI 0 (fun _ => ⟨rfl, rfl⟩) ?_
       intro v25_3 h25_3 ho25_3 e25_3
       replace how2_3_0 := OS.ext how2_3_0 e25_3
       replace how22_3_0 := OS.ext how22_3_0 e25_3
       replace hV := OS.ext hV e25_3
       replace hb1_2 := BoxAt.ext hb1_2 e25_3
       have := Ext.size e25_3
       replace eB := Ext.trans eB e25_3
       replace xr26 := Ext.trans xr26 e25_3
       replace cL21 := Chg.stepE cL21 e25_3
       have hfho25_3 : Fresh h25_2.size [h25_2.size] := Fresh.one _
       have hlenho25_3 : (List.replicate ((dimP X.c n)).toNat (0 : Int)).length = ((dimP X.c n)).toNat := List.length_replicate
       have hlho25_3 := OS.lt ho25_3
       try simp -implicitDefEqProofs (disch := first | decide | assumption | omega) only [go_sem, RdS.len hdX sl22, RdS.idx hdX sl22, R1.intB hdX (Ext.pres eB), RdS.cells hdX, RdS.len hmX sl23, RdS.idx hmX sl23, RdS.cellB hmX (Ext.pres eB), RdS.cells hmX, RdS.len hvX sl26, RdS.idx hvX sl26, RdS.cellB hvX (Ext.pres eB), RdS.cells hvX, RdS.len (OS.rd how2_3_0) sl22, RdS.idx (OS.rd how2_3_0) sl22, R1.intN (OS.rd how2_3_0), RdS.cells (OS.rd how2_3_0), RdS.len (OS.rd how22_3_0) sl26, RdS.idx (OS.rd how22_3_0) sl26, RdS.cellN (OS.rd how22_3_0), RdS.cells (OS.rd how22_3_0), RdS.len (OS.rd hV) sl26, RdS.idx (OS.rd hV) sl26, RdS.cellN (OS.rd hV), RdS.cells (OS.rd hV), RdS.len (OS.rd ho25_3) sl22, RdS.idx (OS.rd ho25_3) sl22, R1.intN (OS.rd ho25_3), RdS.cells (OS.rd ho25_3), BoxAt.cell hb1_2, RdS.len hr25 sl22, RdS.idx hr25 sl22, R1.intB hr25 (Ext.pres xr26), RdS.cells hr25, wrap_id]
       refine hK _ _ ?_
       clear hK K
       refine den_seq ?_
       refine den_seq ?_
       refine den_region TTok ?_
       intro K hK
       simp -implicitDefEqProofs (disch := first | decide | assumption | omega) only [go_sem, RdS.len hdX sl22, RdS.idx hdX sl22, R1.intB hdX (Ext.pres eB), RdS.cells hdX, RdS.len hmX sl23, RdS.idx hmX sl23, RdS.cellB hmX (Ext.pres eB), RdS.cells hmX, RdS.len hvX sl26, RdS.idx hvX sl26, RdS.cellB hvX (Ext.pres eB), RdS.cells hvX, RdS.len (OS.rd how2_3_0) sl22, RdS.idx (OS.rd how2_3_0) sl22, R1.intN (OS.rd how2_3_0), RdS.cells (OS.rd how2_3_0), RdS.len (OS.rd how22_3_0) sl26, RdS.idx (OS.rd how22_3_0) sl26, RdS.cellN (OS.rd how22_3_0), RdS.cells (OS.rd how22_3_0), RdS.len (OS.rd hV) sl26, RdS.idx (OS.rd hV) sl26, RdS.cellN (OS.rd hV), RdS.cells (OS.rd hV), RdS.len (OS.rd ho25_3) sl22, RdS.idx (OS.rd ho25_3) sl22, R1.intN (OS.rd ho25_3), RdS.cells (OS.rd ho25_3), BoxAt.cell hb1_2, RdS.len hr25 sl22, RdS.idx hr25 sl22, R1.intB hr25 (Ext.pres xr26), RdS.cells hr25, wrap_id]
       refine hK _ _ ?_
       clear hK K
       refine den_block ?_
       refine den_sel [105, 2, 9, 10, 19, 21, 22, 93, 94, 95, 103, 104] ?_
       intro env_27
       simp only [go_sem]
       refine den_loopS (σ := Nat) (fun st_ => [(105, .int .i64 (st_ : Int))]) (fun st_ H => (st_ ≤ (keptP X n q).length) ∧ (O1 H v25_3 (wideN (keptP X n q) ((kerQ X.c.p (rowsP X n q (q - r))).getD v default) (dimP X.c n).toNat st_) [h25_2.size]) ∧ (Chg [h25_2.size] h25_3 H)) (fun st_ => (keptP X n q).length - st_) 0 ?_ ?_
       ·exact ⟨by first | (simp; done) | (dsimp only; omega) | (simp; omega), by exact ho25_3, Chg.refl _ _⟩
       ·rintro k h30 ee29 ⟨hi0, hU, cL28⟩
        replace how2_3_0 := OS.chg how2_3_0 cL28 (apart_lt hlhow2_3_0 hfho25_3 (by omega))
        replace how22_3_0 := OS.chg how22_3_0 cL28 (apart_lt hlhow22_3_0 hfho25_3 (by omega))
        replace hV := OS.chg hV cL28 (apart_lt hlhV hfho25_3 (by omega))
        replace hb1_2 := BoxAt.chgA hb1_2 cL28 (apart_lt hlhb1_2 hfho25_3 (by omega))
        have := cL28.size
        replace eB := Ext.then eB cL28 (ge_of hfho25_3 (by omega))
        replace xr26 := Ext.then xr26 cL28 (ge_of hfho25_3 (by omega))
        replace cL21 := Chg.step cL21 cL28 (Sub.fresh hfho25_3 (by omega))
        have sbhU : Sub [h25_2.size] h25_3.size [h25_2.size] := Sub.refl
        have hfhU := hfho25_3
        have hlhU := hlho25_3
        simp only [List.cons_append, List.nil_append]
        refine den_seq ?_
        refine den_region TTok ?_
        intro K hK
        simp -implicitDefEqProofs (disch := first | decide | assumption | omega) only [go_sem, RdS.len hdX sl22, RdS.idx hdX sl22, R1.intB hdX (Ext.pres eB), RdS.cells hdX, RdS.len hmX sl23, RdS.idx hmX sl23, RdS.cellB hmX (Ext.pres eB), RdS.cells hmX, RdS.len hvX sl26, RdS.idx hvX sl26, RdS.cellB hvX (Ext.pres eB), RdS.cells hvX, RdS.len (OS.rd how2_3_0) sl22, RdS.idx (OS.rd how2_3_0) sl22, R1.intN (OS.rd how2_3_0), RdS.cells (OS.rd how2_3_0), RdS.len (OS.rd how22_3_0) sl26, RdS.idx (OS.rd how22_3_0) sl26, RdS.cellN (OS.rd how22_3_0), RdS.cells (OS.rd how22_3_0), RdS.len (OS.rd hV) sl26, RdS.idx (OS.rd hV) sl26, RdS.cellN (OS.rd hV), RdS.cells (OS.rd hV), RdS.len (OS.rd hU) sl22, RdS.idx (OS.rd hU) sl22, R1.intN (OS.rd hU), RdS.cells (OS.rd hU), BoxAt.cell hb1_2, RdS.len hr25 sl22, RdS.idx hr25 sl22, R1.intB hr25 (Ext.pres xr26), RdS.cells hr25, wrap_id]
        refine hK _ _ ?_
        clear hK K
        refine den_seq ?_
        refine den_cond rfl (fun c5 => ?_) (fun c5 => ?_)
        ·try simp only [decide_eq_true_eq, decide_eq_false_iff_not, beq_iff_eq, beq_eq_false_iff_ne, bne_iff_ne, ne_eq, Bool.not_eq_true', Bool.not_eq_false', Bool.and_eq_true, Bool.or_eq_true, bne_eq_false_iff_eq] at c5
         refine den_skip ?_
         refine den_seq ?_
         refine den_block ?_
         refine den_seq ?_
         refine den_region TTok ?_
         intro K hK
         simp -implicitDefEqProofs (disch := first | decide | assumption | omega) only [go_sem, ld2, RdS.len hdX sl22, RdS.idx hdX sl22, R1.intB hdX (Ext.pres eB), RdS.cells hdX, RdS.len hmX sl23, RdS.idx hmX sl23, RdS.cellB hmX (Ext.pres eB), RdS.cells hmX, RdS.len hvX sl26, RdS.idx hvX sl26, RdS.cellB hvX (Ext.pres eB), RdS.cells hvX, RdS.len (OS.rd how2_3_0) sl22, RdS.idx (OS.rd how2_3_0) sl22, R1.intN (OS.rd how2_3_0), RdS.cells (OS.rd how2_3_0), RdS.len (OS.rd how22_3_0) sl26, RdS.idx (OS.rd how22_3_0) sl26, RdS.cellN (OS.rd how22_3_0), RdS.cells (OS.rd how22_3_0), RdS.len (OS.rd hV) sl26, RdS.idx (OS.rd hV) sl26, RdS.cellN (OS.rd hV), RdS.cells (OS.rd hV), RdS.len (OS.rd hU) sl22, RdS.idx (OS.rd hU) sl22, R1.intN (OS.rd hU), RdS.cells (OS.rd hU), BoxAt.cell hb1_2, RdS.len hr25 sl22, RdS.idx hr25 sl22, R1.intB hr25 (Ext.pres xr26), RdS.cells hr25, wrap_id]
         refine hK _ _ ?_
         clear hK K
         have hx0 := keptP_at (X := X) (n := n) (q := q) (k := k) (by omega)
         have hvl := ker_row hC (n := n) (q := q) (t := q - r) (v := v) (by omega)
         have hwn := wideN_len (keptP X n q) ((kerQ X.c.p (rowsP X n q (q - r))).getD v default) (dimP X.c n).toNat k
         refine den_region TTok ?_
         intro K hK
         simp -implicitDefEqProofs (disch := first | decide | assumption | omega) only [go_sem, ld2, RdS.len hdX sl22, RdS.idx hdX sl22, R1.intB hdX (Ext.pres eB), RdS.cells hdX, RdS.len hmX sl23, RdS.idx hmX sl23, RdS.cellB hmX (Ext.pres eB), RdS.cells hmX, RdS.len hvX sl26, RdS.idx hvX sl26, RdS.cellB hvX (Ext.pres eB), RdS.cells hvX, RdS.len (OS.rd how2_3_0) sl22, RdS.idx (OS.rd how2_3_0) sl22, R1.intN (OS.rd how2_3_0), RdS.cells (OS.rd how2_3_0), RdS.len (OS.rd how22_3_0) sl26, RdS.idx (OS.rd how22_3_0) sl26, RdS.cellN (OS.rd how22_3_0), RdS.cells (OS.rd how22_3_0), RdS.len (OS.rd hV) sl26, RdS.idx (OS.rd hV) sl26, RdS.cellN (OS.rd hV), RdS.cells (OS.rd hV), RdS.len (OS.rd hU) sl22, RdS.idx (OS.rd hU) sl22, R1.intN (OS.rd hU), RdS.cells (OS.rd hU), BoxAt.cell hb1_2, RdS.len hr25 sl22, RdS.idx hr25 sl22, R1.intB hr25 (Ext.pres xr26), RdS.cells hr25, wrap_id]
         refine op_store1 (j := (((keptP X n q).getD k 0)).toNat) st2 hU hfhU.nodup (by first | omega | (simp; omega)) rfl rfl ?_
         intro h29_7 ho29_7 c29_7
         have hsz29_7 := c29_7.size
         replace how2_3_0 := OS.chg how2_3_0 c29_7 (apart_lt hlhow2_3_0 hfhU (by omega))
         replace how22_3_0 := OS.chg how22_3_0 c29_7 (apart_lt hlhow22_3_0 hfhU (by omega))
         replace hV := OS.chg hV c29_7 (apart_lt hlhV hfhU (by omega))
         replace hb1_2 := BoxAt.chgA hb1_2 c29_7 (apart_lt hlhb1_2 hfhU (by omega))
         have := c29_7.size
         replace eB := Ext.then eB c29_7 (ge_of hfhU (by omega))
         replace xr26 := Ext.then xr26 c29_7 (ge_of hfhU (by omega))
         replace cL21 := Chg.step cL21 c29_7 (Sub.fresh hfhU (by omega))
         replace cL28 := Chg.step cL28 c29_7 sbhU
         have hlho29_7 := hlhU
         have hlenho29_7 : ((wideN (keptP X n q) ((kerQ X.c.p (rowsP X n q (q - r))).getD v default) (dimP X.c n).toNat k).set ((((keptP X n q).getD k 0)).toNat) (((kerQ X.c.p (rowsP X n q (q - r))).getD v default).getD k 0) : List Int).length = (wideN (keptP X n q) ((kerQ X.c.p (rowsP X n q (q - r))).getD v default) (dimP X.c n).toNat k : List Int).length := List.length_set
         try simp -implicitDefEqProofs (disch := first | decide | assumption | omega) only [go_sem, RdS.len hdX sl22, RdS.idx hdX sl22, R1.intB hdX (Ext.pres eB), RdS.cells hdX, RdS.len hmX sl23, RdS.idx hmX sl23, RdS.cellB hmX (Ext.pres eB), RdS.cells hmX, RdS.len hvX sl26, RdS.idx hvX sl26, RdS.cellB hvX (Ext.pres eB), RdS.cells hvX, RdS.len (OS.rd how2_3_0) sl22, RdS.idx (OS.rd how2_3_0) sl22, R1.intN (OS.rd how2_3_0), RdS.cells (OS.rd how2_3_0), RdS.len (OS.rd how22_3_0) sl26, RdS.idx (OS.rd how22_3_0) sl26, RdS.cellN (OS.rd how22_3_0), RdS.cells (OS.rd how22_3_0), RdS.len (OS.rd hV) sl26, RdS.idx (OS.rd hV) sl26, RdS.cellN (OS.rd hV), RdS.cells (OS.rd hV), RdS.len (OS.rd ho29_7) sl22, RdS.idx (OS.rd ho29_7) sl22, R1.intN (OS.rd ho29_7), RdS.cells (OS.rd ho29_7), BoxAt.cell hb1_2, RdS.len hr25 sl22, RdS.idx hr25 sl22, R1.intB hr25 (Ext.pres xr26), RdS.cells hr25, wrap_id]
         refine hK _ _ ?_
         clear hK K
         refine den_blk ?_
         refine den_region TTok ?_
         intro K hK
         simp -implicitDefEqProofs (disch := first | decide | assumption | omega) only [go_sem, RdS.len hdX sl22, RdS.idx hdX sl22, R1.intB hdX (Ext.pres eB), RdS.cells hdX, RdS.len hmX sl23, RdS.idx hmX sl23, RdS.cellB hmX (Ext.pres eB), RdS.cells hmX, RdS.len hvX sl26, RdS.idx hvX sl26, RdS.cellB hvX (Ext.pres eB), RdS.cells hvX, RdS.len (OS.rd how2_3_0) sl22, RdS.idx (OS.rd how2_3_0) sl22, R1.intN (OS.rd how2_3_0), RdS.cells (OS.rd how2_3_0), RdS.len (OS.rd how22_3_0) sl26, RdS.idx (OS.rd how22_3_0) sl26, RdS.cellN (OS.rd how22_3_0), RdS.cells (OS.rd how22_3_0), RdS.len (OS.rd hV) sl26, RdS.idx (OS.rd hV) sl26, RdS.cellN (OS.rd hV), RdS.cells (OS.rd hV), RdS.len (OS.rd ho29_7) sl22, RdS.idx (OS.rd ho29_7) sl22, R1.intN (OS.rd ho29_7), RdS.cells (OS.rd ho29_7), BoxAt.cell hb1_2, RdS.len hr25 sl22, RdS.idx hr25 sl22, R1.intB hr25 (Ext.pres xr26), RdS.cells hr25, wrap_id]
         refine hK _ _ ?_
         clear hK K
         refine den_stop ?_
         change O1 _ _ (wideN _ _ _ (k + 1)) _ at ho29_7
         exact ⟨k + 1, by simp [HasL, puts_at], ⟨by first | omega | (dsimp only; omega), ho29_7, cL28⟩, by first | omega | (dsimp only; omega)⟩
        ·try simp only [decide_eq_true_eq, decide_eq_false_iff_not, beq_iff_eq, beq_eq_false_iff_ne, bne_iff_ne, ne_eq, Bool.not_eq_true', Bool.not_eq_false', Bool.and_eq_true, Bool.or_eq_true, bne_eq_false_iff_eq] at c5
         refine den_exit ?_
         refine denX_code ?_
         refine denX_stop ?_
         refine denX_hit ?_
         have hvt : (((kerQ X.c.p (rowsP X n q (q - r))).take v).map fun z => wideN (keptP X n q) z (dimP X.c n).toNat (keptP X n q).length).length ≤ 8 := by rw [List.length_map, List.length_take]; omega
         refine den_region TTok ?_
         intro K hK
         simp -implicitDefEqProofs (disch := first | decide | assumption | omega) only [go_sem, RdS.len hdX sl22, RdS.idx hdX sl22, R1.intB hdX (Ext.pres eB), RdS.cells hdX, RdS.len hmX sl23, RdS.idx hmX sl23, RdS.cellB hmX (Ext.pres eB), RdS.cells hmX, RdS.len hvX sl26, RdS.idx hvX sl26, RdS.cellB hvX (Ext.pres eB), RdS.cells hvX, RdS.len (OS.rd how2_3_0) sl22, RdS.idx (OS.rd how2_3_0) sl22, R1.intN (OS.rd how2_3_0), RdS.cells (OS.rd how2_3_0), RdS.len (OS.rd how22_3_0) sl26, RdS.idx (OS.rd how22_3_0) sl26, RdS.cellN (OS.rd how22_3_0), RdS.cells (OS.rd how22_3_0), RdS.len (OS.rd hV) sl26, RdS.idx (OS.rd hV) sl26, RdS.cellN (OS.rd hV), RdS.cells (OS.rd hV), RdS.len (OS.rd hU) sl22, RdS.idx (OS.rd hU) sl22, R1.intN (OS.rd hU), RdS.cells (OS.rd hU), BoxAt.cell hb1_2, RdS.len hr25 sl22, RdS.idx hr25 sl22, R1.intB hr25 (Ext.pres xr26), RdS.cells hr25, wrap_id]
         refine op_bs1 sz26 rfl (OS.one hU).2 ?_
         try simp -implicitDefEqProofs (disch := first | decide | assumption | omega) only [go_sem, RdS.len hdX sl22, RdS.idx hdX sl22, R1.intB hdX (Ext.pres eB), RdS.cells hdX, RdS.len hmX sl23, RdS.idx hmX sl23, RdS.cellB hmX (Ext.pres eB), RdS.cells hmX, RdS.len hvX sl26, RdS.idx hvX sl26, RdS.cellB hvX (Ext.pres eB), RdS.cells hvX, RdS.len (OS.rd how2_3_0) sl22, RdS.idx (OS.rd how2_3_0) sl22, R1.intN (OS.rd how2_3_0), RdS.cells (OS.rd how2_3_0), RdS.len (OS.rd how22_3_0) sl26, RdS.idx (OS.rd how22_3_0) sl26, RdS.cellN (OS.rd how22_3_0), RdS.cells (OS.rd how22_3_0), RdS.len (OS.rd hV) sl26, RdS.idx (OS.rd hV) sl26, RdS.cellN (OS.rd hV), RdS.cells (OS.rd hV), RdS.len (OS.rd hU) sl22, RdS.idx (OS.rd hU) sl22, R1.intN (OS.rd hU), RdS.cells (OS.rd hU), BoxAt.cell hb1_2, RdS.len hr25 sl22, RdS.idx hr25 sl22, R1.intB hr25 (Ext.pres xr26), RdS.cells hr25, wrap_id]
         refine op_append1 sz26 hV hfhV.nodup hU hfhU.nodup (apart_lt hlhV hfhU (by omega)) (by first | omega | (simp; omega)) rfl rfl ?_
         intro v31_3 h31_3 fp31_3 ho31_3 hn31_3 hs31_3 c31_3
         have hsz31_3 := c31_3.size
         have hfho31_3 : Fresh h9.size fp31_3 := Fresh.appd hfhV hfhU (by omega) (by omega) hn31_3 hs31_3
         have sb31 : Sub [h9.size] h22_3.size fp31_3 := Sub.grow sbhV (Sub.fresh hfhU (by omega)) (by omega) hs31_3
         replace how2_3_0 := OS.chg how2_3_0 c31_3 (apart_lt hlhow2_3_0 hfhV (by omega))
         replace how22_3_0 := OS.chg how22_3_0 c31_3 ap24
         replace hb1_2 := BoxAt.chgA hb1_2 c31_3 (apart_lt hlhb1_2 hfhV (by omega))
         have := c31_3.size
         replace eB := Ext.then eB c31_3 (ge_of hfhV (by omega))
         replace cL21 := Chg.step cL21 c31_3 sbhV
         have ap32 : Apart fw22_3_0 fp31_3 := Apart.grow hlhow22_3_0 (by omega) ap24 (apart_lt hlhow22_3_0 hfhU (by omega)) hs31_3
         have hlho31_3 := OS.lt ho31_3
         try simp -implicitDefEqProofs (disch := first | decide | assumption | omega) only [go_sem, RdS.len hdX sl22, RdS.idx hdX sl22, R1.intB hdX (Ext.pres eB), RdS.cells hdX, RdS.len hmX sl23, RdS.idx hmX sl23, RdS.cellB hmX (Ext.pres eB), RdS.cells hmX, RdS.len hvX sl26, RdS.idx hvX sl26, RdS.cellB hvX (Ext.pres eB), RdS.cells hvX, RdS.len (OS.rd how2_3_0) sl22, RdS.idx (OS.rd how2_3_0) sl22, R1.intN (OS.rd how2_3_0), RdS.cells (OS.rd how2_3_0), RdS.len (OS.rd how22_3_0) sl26, RdS.idx (OS.rd how22_3_0) sl26, RdS.cellN (OS.rd how22_3_0), RdS.cells (OS.rd how22_3_0), RdS.len (OS.rd ho31_3) sl26, RdS.idx (OS.rd ho31_3) sl26, RdS.cellN (OS.rd ho31_3), RdS.cells (OS.rd ho31_3), BoxAt.cell hb1_2, wrap_id]
         refine hK _ _ ?_
         clear hK K
         refine den_blk ?_
         refine den_region TTok ?_
         intro K hK
         simp -implicitDefEqProofs (disch := first | decide | assumption | omega) only [go_sem, RdS.len hdX sl22, RdS.idx hdX sl22, R1.intB hdX (Ext.pres eB), RdS.cells hdX, RdS.len hmX sl23, RdS.idx hmX sl23, RdS.cellB hmX (Ext.pres eB), RdS.cells hmX, RdS.len hvX sl26, RdS.idx hvX sl26, RdS.cellB hvX (Ext.pres eB), RdS.cells hvX, RdS.len (OS.rd how2_3_0) sl22, RdS.idx (OS.rd how2_3_0) sl22, R1.intN (OS.rd how2_3_0), RdS.cells (OS.rd how2_3_0), RdS.len (OS.rd how22_3_0) sl26, RdS.idx (OS.rd how22_3_0) sl26, RdS.cellN (OS.rd how22_3_0), RdS.cells (OS.rd how22_3_0), RdS.len (OS.rd ho31_3) sl26, RdS.idx (OS.rd ho31_3) sl26, RdS.cellN (OS.rd ho31_3), RdS.cells (OS.rd ho31_3), BoxAt.cell hb1_2, wrap_id]
         refine hK _ _ ?_
         clear hK K
         refine den_stop ?_
         rw [show k = (keptP X n q).length by omega, map_takeL (f := fun z => wideN (keptP X n q) z (dimP X.c n).toNat (keptP X n q).length) (d := default) (by omega)] at ho31_3
         exact ⟨(v + 1, v31_3, fp31_3), by simp [HasL, puts_at], ⟨by first | omega | (dsimp only; omega), ho31_3, hfho31_3, sb31, cL21⟩, by first | omega | (dsimp only; omega)⟩
      ·try simp only [decide_eq_true_eq, decide_eq_false_iff_not, beq_iff_eq, beq_eq_false_iff_ne, bne_iff_ne, ne_eq, Bool.not_eq_true', Bool.not_eq_false', Bool.and_eq_true, Bool.or_eq_true, bne_eq_false_iff_eq] at c4
       refine den_exit ?_
       refine denX_code ?_
       refine denX_stop ?_
       refine denX_hit ?_
       refine den_seq ?_
       rw [map_takeE (by omega)] at hV
       change O2 _ _ (wideP X r n q) _ at hV
       have hredT := wide_tbl hC r n q
       have hwl := wide_len hF r n q
       refine den_region TTok ?_
       intro K hK
       simp -implicitDefEqProofs (disch := first | decide | assumption | omega) only [go_sem, fa31_0, ld2, RdS.len hdX sl22, RdS.idx hdX sl22, R1.intB hdX (Ext.pres eB), RdS.cells hdX, RdS.len hmX sl23, RdS.idx hmX sl23, RdS.cellB hmX (Ext.pres eB), RdS.cells hmX, RdS.len hvX sl26, RdS.idx hvX sl26, RdS.cellB hvX (Ext.pres eB), RdS.cells hvX, RdS.len (OS.rd hV) sl26, RdS.idx (OS.rd hV) sl26, RdS.cellN (OS.rd hV), RdS.cells (OS.rd hV), BoxAt.cell hb1_2, wrap_id]
       try simp -implicitDefEqProofs (disch := first | decide | assumption | omega) only [go_sem, RdS.len hdX sl22, RdS.idx hdX sl22, R1.intB hdX (Ext.pres eB), RdS.cells hdX, RdS.len hmX sl23, RdS.idx hmX sl23, RdS.cellB hmX (Ext.pres eB), RdS.cells hmX, RdS.len hvX sl26, RdS.idx hvX sl26, RdS.cellB hvX (Ext.pres eB), RdS.cells hvX, RdS.len (OS.rd hV) sl26, RdS.idx (OS.rd hV) sl26, RdS.cellN (OS.rd hV), RdS.cells (OS.rd hV), BoxAt.cell hb1_2, wrap_id]
       refine CallA.mono (iReduce_ok _ X.c.p (wideP X r n q) _ (OS.rd hV) hP hredT (by omega) (by omega)) ?_
       intro vw33_3_0 h33_3
       rintro ⟨zvw33_3_0, fw33_3_0, rfl, how33_3_0, hfw33_3_0, e33_3⟩
       replace hV := OS.ext hV e33_3
       replace hb1_2 := BoxAt.ext hb1_2 e33_3
       have := Ext.size e33_3
       replace eB := Ext.trans eB e33_3
       have hlhow33_3_0 := OS.lt how33_3_0
       try simp -implicitDefEqProofs (disch := first | decide | assumption | omega) only [go_sem, RdS.len hdX sl22, RdS.idx hdX sl22, R1.intB hdX (Ext.pres eB), RdS.cells hdX, RdS.len hmX sl23, RdS.idx hmX sl23, RdS.cellB hmX (Ext.pres eB), RdS.cells hmX, RdS.len hvX sl26, RdS.idx hvX sl26, RdS.cellB hvX (Ext.pres eB), RdS.cells hvX, RdS.len (OS.rd hV) sl26, RdS.idx (OS.rd hV) sl26, RdS.cellN (OS.rd hV), RdS.cells (OS.rd hV), RdS.len (OS.rd how33_3_0) sl26, RdS.idx (OS.rd how33_3_0) sl26, RdS.cellN (OS.rd how33_3_0), RdS.cells (OS.rd how33_3_0), BoxAt.cell hb1_2, wrap_id]
       refine hK _ _ ?_
       clear hK K
       refine den_ret ?_
       simp (disch := decide) only [resP_1, puts_same, puts_ne]
       exact ⟨_, _, rfl, how33_3_0, hfw33_3_0.mono (by omega), eB⟩
end Go.Proofs.Ytjjjgllbocgkbaa

namespace Go.Proofs.Ytjjjgllbocgkbaa
open Go
set_option maxRecDepth 100000 in
theorem sWide_ok (vL vc : Value) (L : List (List Int)) (c : List Int) (d : Int) (h : Heap) (rL : R2 h vL L) (rc : R1 h vc c) (hd : 0 ≤ d ∧ d ≤ 8) (hcl : c.length ≤ 8) (hcb : ∀ k, k < c.length → 0 ≤ c.getD k 0 ∧ c.getD k 0 < d) (hL : ∀ v, v < L.length → (L.getD v default).length = c.length) (hl : L.length ≤ 8) : CallA Try.prog 148 #[vL, vc, .int .i64 d] h fun v' h' => ∃ w0 f0, v' = w0 ∧ O2 h' w0 (L.map (fun z => wideN c z d.toNat c.length)) f0 ∧ Fresh h.size f0 ∧ Ext h h' := by
 have hleL := RdS.le rL
 have hlec := RdS.le rc
 refine callA_intro TTok (args := [_, _, _]) Try.func148 (by kernel_rfl) rfl 44 rfl (by simp) [.tmp 6] rfl ?_
 simp only [idxs, Nat.reduceAdd]
 refine den_seq ?_
 refine den_region TTok ?_
 intro K hK
 simp -implicitDefEqProofs (disch := first | decide | assumption | omega) only [go_sem, wrap_id]
 refine hK _ _ ?_
 clear hK K
 refine den_seq ?_
 refine den_region TTok ?_
 intro K hK
 simp -implicitDefEqProofs (disch := first | decide | assumption | omega) only [go_sem, wrap_id]
 refine op_bs0 sz26 O1 ?_
 intro v1_0 h1_0 ho1_0 e1_0
 have := Ext.size e1_0
 have eB := e1_0
 have hfho1_0 : Fresh h.size [h.size] := Fresh.one _
 have hlho1_0 := OS.lt ho1_0
 try simp -implicitDefEqProofs (disch := first | decide | assumption | omega) only [go_sem, RdS.len (OS.rd ho1_0) sl26, RdS.idx (OS.rd ho1_0) sl26, RdS.cellN (OS.rd ho1_0), RdS.cells (OS.rd ho1_0), wrap_id]
 refine hK _ _ ?_
 clear hK K
 refine den_seq ?_
 refine den_seq ?_
 refine den_region TTok ?_
 intro K hK
 simp -implicitDefEqProofs (disch := first | decide | assumption | omega) only [go_sem, wrap_id]
 refine hK _ _ ?_
 clear hK K
 refine den_block ?_
 refine den_sel [7, 8, 0, 1, 2] ?_
 intro env_1
 simp only [go_sem]
 refine den_loopS (σ := Nat × Value × List Nat) (fun st_ => [(7, st_.2.1), (8, .int .i64 (st_.1 : Int))]) (fun st_ H => (st_.1 ≤ L.length) ∧ (O2 H st_.2.1 ((L.take st_.1).map fun z => wideN c z d.toNat c.length) st_.2.2) ∧ (Fresh (h.size) st_.2.2) ∧ (Sub [h.size] h1_0.size st_.2.2) ∧ (Chg [h.size] h1_0 H)) (fun st_ => L.length - st_.1) (0, v1_0, [h.size]) ?_ ?_
 ·exact ⟨by first | (simp; done) | (dsimp only; omega) | (simp; omega), by simpa using ho1_0, hfho1_0, Sub.refl, Chg.refl _ _⟩
 ·rintro ⟨v, vhV, fphV⟩ h4 ee3 ⟨hi0, hV, hfhV, sbhV, cL2⟩
  dsimp only at hi0 hV hfhV sbhV cL2
  have := cL2.size
  replace eB := Ext.then eB cL2 (ge_of hfho1_0 (by omega))
  have hlhV := OS.lt hV
  simp only [List.cons_append, List.nil_append]
  refine den_seq ?_
  refine den_seq ?_
  refine den_region TTok ?_
  intro K hK
  simp -implicitDefEqProofs (disch := first | decide | assumption | omega) only [go_sem, RdS.len rL sl26, RdS.idx rL sl26, RdS.cellB rL (Ext.pres eB), RdS.cells rL, wrap_id]
  refine hK _ _ ?_
  clear hK K
  refine den_cond rfl (fun c0 => ?_) (fun c0 => ?_)
  ·try simp only [decide_eq_true_eq, decide_eq_false_iff_not, beq_iff_eq, beq_eq_false_iff_ne, bne_iff_ne, ne_eq, Bool.not_eq_true', Bool.not_eq_false', Bool.and_eq_true, Bool.or_eq_true, bne_eq_false_iff_eq] at c0
   refine den_skip ?_
   refine den_seq ?_
   refine den_block ?_
   refine den_seq ?_
   refine den_region TTok ?_
   intro K hK
   simp -implicitDefEqProofs (disch := first | decide | assumption | omega) only [go_sem, wrap_id]
   refine op_make sz22 rfl rfl (by omega) (by omega) OI 0 (fun _ => ⟨rfl, rfl⟩) ?_
   intro v5_1 h5_1 ho5_1 e5_1
   replace hV := OS.ext hV e5_1
   have := Ext.size e5_1
   replace eB := Ext.trans eB e5_1
   replace cL2 := Chg.stepE cL2 e5_1
   have hfho5_1 : Fresh h4.size [h4.size] := Fresh.one _
   have hlenho5_1 : (List.replicate (d).toNat (0 : Int)).length = (d).toNat := List.length_replicate
   have hlho5_1 := OS.lt ho5_1
   try simp -implicitDefEqProofs (disch := first | decide | assumption | omega) only [go_sem, RdS.len (OS.rd ho5_1) sl22, RdS.idx (OS.rd ho5_1) sl22, R1.intN (OS.rd ho5_1), RdS.cells (OS.rd ho5_1), wrap_id]
   refine hK _ _ ?_
   clear hK K
   refine den_seq ?_
   refine den_seq ?_
   refine den_region TTok ?_
   intro K hK
   simp -implicitDefEqProofs (disch := first | decide | assumption | omega) only [go_sem, wrap_id]
   refine hK _ _ ?_
   clear hK K
   refine den_block ?_
   refine den_sel [10, 0, 1, 2, 7, 8, 9] ?_
   intro env_5
   simp only [go_sem]
   refine den_loopS (σ := Nat) (fun st_ => [(10, .int .i64 (st_ : Int))]) (fun st_ H => (st_ ≤ c.length) ∧ (O1 H v5_1 (wideN c (L.getD v default) d.toNat st_) [h4.size]) ∧ (Chg [h4.size] h5_1 H)) (fun st_ => c.length - st_) 0 ?_ ?_
   ·exact ⟨by first | (simp; done) | (dsimp only; omega) | (simp; omega), by exact ho5_1, Chg.refl _ _⟩
   ·rintro k h8 ee7 ⟨hi0, hU, cL6⟩
    replace hV := OS.chg hV cL6 (apart_lt hlhV hfho5_1 (by omega))
    have := cL6.size
    replace eB := Ext.then eB cL6 (ge_of hfho5_1 (by omega))
    replace cL2 := Chg.step cL2 cL6 (Sub.fresh hfho5_1 (by omega))
    have sbhU : Sub [h4.size] h5_1.size [h4.size] := Sub.refl
    have hfhU := hfho5_1
    have hlhU := hlho5_1
    simp only [List.cons_append, List.nil_append]
    refine den_seq ?_
    refine den_seq ?_
    refine den_region TTok ?_
    intro K hK
    simp -implicitDefEqProofs (disch := first | decide | assumption | omega) only [go_sem, RdS.len rc sl22, RdS.idx rc sl22, R1.intB rc (Ext.pres eB), RdS.cells rc, wrap_id]
    refine hK _ _ ?_
    clear hK K
    refine den_cond rfl (fun c1 => ?_) (fun c1 => ?_)
    ·try simp only [decide_eq_true_eq, decide_eq_false_iff_not, beq_iff_eq, beq_eq_false_iff_ne, bne_iff_ne, ne_eq, Bool.not_eq_true', Bool.not_eq_false', Bool.and_eq_true, Bool.or_eq_true, bne_eq_false_iff_eq] at c1
     refine den_skip ?_
     refine den_seq ?_
     refine den_block ?_
     have hx0 := hcb k (by omega)
     have hvl := hL v (by omega)
     have hwn := wideN_len c (L.getD v default) d.toNat k
     refine den_draw TTok mixed [13] [(0, true), (1, true), (2, true), (3, true), (4, true), (5, true), (6, true), (7, true), (8, true), (9, true), (10, true), (11, true), (12, true), (13, false)] (by kernel_rfl) ?_
     intro K hK
     have hr9 := RdS.rowN rL v (by omega)
     have hlhr9 := RdS.le hr9
     simp -implicitDefEqProofs (disch := first | decide | assumption | omega) only [go_sem, ld22, ld2, RdS.len rL sl26, RdS.idx rL sl26, RdS.cellB rL (Ext.pres eB), RdS.cells rL, RdS.len rc sl22, RdS.idx rc sl22, R1.intB rc (Ext.pres eB), RdS.cells rc, RdS.len hr9 sl22, RdS.idx hr9 sl22, R1.intB hr9 (Ext.pres eB), RdS.cells hr9, RdS.len (OS.rd hU) sl22, RdS.idx (OS.rd hU) sl22, R1.intN (OS.rd hU), RdS.cells (OS.rd hU), wrap_id]
     refine op_store1 (j := (((c).getD k 0)).toNat) st2 hU hfhU.nodup (by first | omega | (simp; omega)) rfl rfl ?_
     intro h9_13 ho9_13 c9_13
     have hsz9_13 := c9_13.size
     replace hV := OS.chg hV c9_13 (apart_lt hlhV hfhU (by omega))
     have := c9_13.size
     replace eB := Ext.then eB c9_13 (ge_of hfhU (by omega))
     replace cL2 := Chg.step cL2 c9_13 (Sub.fresh hfhU (by omega))
     replace cL6 := Chg.step cL6 c9_13 sbhU
     have hlho9_13 := hlhU
     have hlenho9_13 : ((wideN c (L.getD v default) d.toNat k).set ((((c).getD k 0)).toNat) (((L).getD v default).getD k 0) : List Int).length = (wideN c (L.getD v default) d.toNat k : List Int).length := List.length_set
     try simp (disch := decide) only [outv_some, outv_none, put_puts]
     refine plK_last (by decide) ?_
     try simp -implicitDefEqProofs (disch := first | decide | assumption | omega) only [go_sem, wrap_id]
     refine hK _ _ ?_
     clear hK K
     refine den_blk ?_
     refine den_region TTok ?_
     intro K hK
     simp -implicitDefEqProofs (disch := first | decide | assumption | omega) only [go_sem, wrap_id]
     refine hK _ _ ?_
     clear hK K
     refine den_stop ?_
     change O1 _ _ (wideN _ _ _ (k + 1)) _ at ho9_13
     exact ⟨k + 1, by simp [HasL, puts_at], ⟨by first | omega | (dsimp only; omega), ho9_13, cL6⟩, by first | omega | (dsimp only; omega)⟩
    ·try simp only [decide_eq_true_eq, decide_eq_false_iff_not, beq_iff_eq, beq_eq_false_iff_ne, bne_iff_ne, ne_eq, Bool.not_eq_true', Bool.not_eq_false', Bool.and_eq_true, Bool.or_eq_true, bne_eq_false_iff_eq] at c1
     refine den_exit ?_
     refine denX_code ?_
     refine denX_stop ?_
     refine denX_hit ?_
     have hvt : ((L.take v).map fun z => wideN c z d.toNat c.length).length ≤ 8 := by rw [List.length_map, List.length_take]; omega
     refine den_region TTok ?_
     intro K hK
     simp -implicitDefEqProofs (disch := first | decide | assumption | omega) only [go_sem, RdS.len (OS.rd hV) sl26, RdS.idx (OS.rd hV) sl26, RdS.cellN (OS.rd hV), RdS.cells (OS.rd hV), RdS.len (OS.rd hU) sl22, RdS.idx (OS.rd hU) sl22, R1.intN (OS.rd hU), RdS.cells (OS.rd hU), wrap_id]
     refine op_bs1 sz26 rfl (OS.one hU).2 ?_
     try simp -implicitDefEqProofs (disch := first | decide | assumption | omega) only [go_sem, wrap_id]
     refine op_append1 sz26 hV hfhV.nodup hU hfhU.nodup (apart_lt hlhV hfhU (by omega)) (by first | omega | (simp; omega)) rfl rfl ?_
     intro v10_3 h10_3 fp10_3 ho10_3 hn10_3 hs10_3 c10_3
     have hsz10_3 := c10_3.size
     have hfho10_3 : Fresh h.size fp10_3 := Fresh.appd hfhV hfhU (by omega) (by omega) hn10_3 hs10_3
     have sb10 : Sub [h.size] h1_0.size fp10_3 := Sub.grow sbhV (Sub.fresh hfhU (by omega)) (by omega) hs10_3
     have := c10_3.size
     replace eB := Ext.then eB c10_3 (ge_of hfhV (by omega))
     replace cL2 := Chg.step cL2 c10_3 sbhV
     have hlho10_3 := OS.lt ho10_3
     try simp -implicitDefEqProofs (disch := first | decide | assumption | omega) only [go_sem, RdS.len (OS.rd ho10_3) sl26, RdS.idx (OS.rd ho10_3) sl26, RdS.cellN (OS.rd ho10_3), RdS.cells (OS.rd ho10_3), wrap_id]
     refine hK _ _ ?_
     clear hK K
     refine den_blk ?_
     refine den_region TTok ?_
     intro K hK
     simp -implicitDefEqProofs (disch := first | decide | assumption | omega) only [go_sem, wrap_id]
     refine hK _ _ ?_
     clear hK K
     refine den_stop ?_
     rw [show k = c.length by omega, map_takeL (f := fun z => wideN c z d.toNat c.length) (d := default) (by omega)] at ho10_3
     exact ⟨(v + 1, v10_3, fp10_3), by simp [HasL, puts_at], ⟨by first | omega | (dsimp only; omega), ho10_3, hfho10_3, sb10, cL2⟩, by first | omega | (dsimp only; omega)⟩
  ·try simp only [decide_eq_true_eq, decide_eq_false_iff_not, beq_iff_eq, beq_eq_false_iff_ne, bne_iff_ne, ne_eq, Bool.not_eq_true', Bool.not_eq_false', Bool.and_eq_true, Bool.or_eq_true, bne_eq_false_iff_eq] at c0
   refine den_exit ?_
   refine denX_code ?_
   refine denX_stop ?_
   refine denX_hit ?_
   refine den_seq ?_
   refine den_region TTok ?_
   intro K hK
   simp -implicitDefEqProofs (disch := first | decide | assumption | omega) only [go_sem, RdS.len (OS.rd hV) sl26, RdS.idx (OS.rd hV) sl26, RdS.cellN (OS.rd hV), RdS.cells (OS.rd hV), wrap_id]
   refine hK _ _ ?_
   clear hK K
   refine den_ret ?_
   simp (disch := decide) only [resP_1, puts_same, puts_ne]
   rw [map_takeE (by omega)] at hV
   exact ⟨_, _, rfl, hV, hfhV.mono (by omega), eB⟩

set_option maxRecDepth 100000 in
set_option maxHeartbeats 4000000 in
theorem sCyc2_ok (vX : Value) (X : Fl) (r : Int) (n : Int) (q : Int) (h : Heap) (rX : RF h vX X) (hF : IsF X) (hr : -100 ≤ r ∧ r ≤ 100) (hn : 0 ≤ n ∧ n ≤ X.c.dims.length) (hq : -100 ≤ q ∧ q ≤ 200) : CallA Try.prog 95 #[vX, .int .i64 r, .int .i64 n, .int .i64 q] h fun v' h' => ∃ w0 f0, v' = w0 ∧ O2 h' w0 (nearP X r n q) f0 ∧ Fresh h.size f0 ∧ Ext h h' := by
 obtain ⟨vdX, vmX, vvX, rfl, hdX, hmX, hvX⟩ := rX
 have hledX := RdS.le hdX
 have hlemX := RdS.le hmX
 have hlevX := RdS.le hvX
 have hC := hF.c
 have hlC := hC.len
 have hml := hC.ml
 have hln := hF.ln
 have hdb := dimP_bnd hC n
 have hdb1 := dimP_bnd hC (n - 1)
 have hkl := keptP_len hF n q
 have hpb := isP_bnd hC.p
 have hP := hC.p
 refine callA_intro TTok (args := [_, _, _, _]) Try.func95 (by kernel_rfl) rfl 89 rfl (by simp) [.tmp 8] rfl ?_
 simp only [idxs, Nat.reduceAdd]
 refine den_seq ?_
 refine den_region TTok ?_
 intro K hK
 simp -implicitDefEqProofs (disch := first | decide | assumption | omega) only [go_sem, wrap_id]
 refine op_box (cs := #[.int .i64 (X.c.p), vdX, vmX, vvX]) rfl ?_
 intro h0_0 e0_0 hb0_0 z0_0
 have := Ext.size e0_0
 have eB := e0_0
 have hfhb0_0 : Fresh h.size [h.size] := Fresh.one _
 have hlhb0_0 := one_lt (show h.size < h0_0.size by omega)
 try simp -implicitDefEqProofs (disch := first | decide | assumption | omega) only [go_sem, wrap_id]
 refine hK _ _ ?_
 clear hK K
 refine den_seq ?_
 refine den_draw TTok mixed [] [(0, true), (1, true), (2, true), (3, true), (4, true), (5, true), (7, true), (8, true), (9, true), (6, false), (10, false), (11, true), (12, true), (13, true)] (by kernel_rfl) ?_
 intro K hK
 simp -implicitDefEqProofs (disch := first | decide | assumption | omega) only [go_sem, fa31_0, fa33_0, ld2, ld31, ld33, RdS.len hdX sl22, RdS.idx hdX sl22, R1.intB hdX (Ext.pres eB), RdS.cells hdX, RdS.len hmX sl23, RdS.idx hmX sl23, RdS.cellB hmX (Ext.pres eB), RdS.cells hmX, RdS.len hvX sl26, RdS.idx hvX sl26, RdS.cellB hvX (Ext.pres eB), RdS.cells hvX, BoxAt.cell hb0_0, wrap_id]
 try simp -implicitDefEqProofs (disch := first | decide | assumption | omega) only [go_sem, wrap_id]
 refine CallA.mono (sDim_ok _ X.c _ _ ⟨_, _, rfl, (RdS.pres hdX (Ext.pres eB)), (RdS.pres hmX (Ext.pres eB))⟩) ?_
 intro v_ h1_6
 rintro ⟨rfl, e1_6⟩
 replace hb0_0 := BoxAt.ext hb0_0 e1_6
 have := Ext.size e1_6
 replace eB := Ext.trans eB e1_6
 try simp (disch := decide) only [outv_some, outv_none, put_puts]
 refine plK_pres (Ext.pres e1_6) ?_
 try simp -implicitDefEqProofs (disch := first | decide | assumption | omega) only [go_sem, wrap_id]
 try simp -implicitDefEqProofs (disch := first | decide | assumption | omega) only [go_sem, wrap_id]
 refine CallA.mono (sKept_ok _ X n q _ ⟨_, _, _, rfl, (RdS.pres hdX (Ext.pres eB)), (RdS.pres hmX (Ext.pres eB)), (RdS.pres hvX (Ext.pres eB))⟩ hF (by omega)) ?_
 intro vw1_10_0 h1_10
 rintro ⟨zvw1_10_0, fw1_10_0, rfl, how1_10_0, hfw1_10_0, e1_10⟩
 replace hb0_0 := BoxAt.ext hb0_0 e1_10
 have := Ext.size e1_10
 replace eB := Ext.trans eB e1_10
 have hlhow1_10_0 := OS.lt how1_10_0
 try simp (disch := decide) only [outv_some, outv_none, put_puts]
 refine plK_pres (Ext.pres e1_10) ?_
 try simp -implicitDefEqProofs (disch := first | decide | assumption | omega) only [go_sem, RdS.len (OS.rd how1_10_0) sl22, RdS.idx (OS.rd how1_10_0) sl22, R1.intN (OS.rd how1_10_0), RdS.cells (OS.rd how1_10_0), wrap_id]
 refine hK _ _ ?_
 clear hK K
 refine den_seq ?_
 refine den_region TTok ?_
 intro K hK
 simp -implicitDefEqProofs (disch := first | decide | assumption | omega) only [go_sem, fa33_0, ld31, RdS.len hdX sl22, RdS.idx hdX sl22, R1.intB hdX (Ext.pres eB), RdS.cells hdX, RdS.len hmX sl23, RdS.idx hmX sl23, RdS.cellB hmX (Ext.pres eB), RdS.cells hmX, RdS.len hvX sl26, RdS.idx hvX sl26, RdS.cellB hvX (Ext.pres eB), RdS.cells hvX, BoxAt.cell hb0_0, wrap_id]
 try simp -implicitDefEqProofs (disch := first | decide | assumption | omega) only [go_sem, wrap_id]
 refine CallA.mono (sMap_ok _ X.c n _ ⟨_, _, rfl, (RdS.pres hdX (Ext.pres eB)), (RdS.pres hmX (Ext.pres eB))⟩ hC) ?_
 intro vw2_3_0 h2_3
 rintro ⟨zvw2_3_0, rfl, hrw2_3_0, e2_3⟩
 replace how1_10_0 := OS.ext how1_10_0 e2_3
 replace hb0_0 := BoxAt.ext hb0_0 e2_3
 have := Ext.size e2_3
 replace eB := Ext.trans eB e2_3
 have xrw2_3_0 := Ext.refl h2_3
 have hlrw2_3_0 := RdS.le hrw2_3_0
 try simp -implicitDefEqProofs (disch := first | decide | assumption | omega) only [go_sem, wrap_id]
 refine op_bs0 sz26 O1 ?_
 intro v2_4 h2_4 ho2_4 e2_4
 replace how1_10_0 := OS.ext how1_10_0 e2_4
 replace hb0_0 := BoxAt.ext hb0_0 e2_4
 have := Ext.size e2_4
 replace eB := Ext.trans eB e2_4
 replace xrw2_3_0 := Ext.trans xrw2_3_0 e2_4
 have hfho2_4 : Fresh h2_3.size [h2_3.size] := Fresh.one _
 have hlho2_4 := OS.lt ho2_4
 try simp -implicitDefEqProofs (disch := first | decide | assumption | omega) only [go_sem, RdS.len (OS.rd ho2_4) sl26, RdS.idx (OS.rd ho2_4) sl26, RdS.cellN (OS.rd ho2_4), RdS.cells (OS.rd ho2_4), RdS.len hrw2_3_0 sl26, RdS.idx hrw2_3_0 sl26, RdS.cellB hrw2_3_0 (Ext.pres xrw2_3_0), RdS.cells hrw2_3_0, wrap_id]
 refine hK _ _ ?_
 clear hK K
 refine den_seq ?_
 refine den_seq ?_
 refine den_region TTok ?_
 intro K hK
 simp -implicitDefEqProofs (disch := first | decide | assumption | omega) only [go_sem, wrap_id]
 refine hK _ _ ?_
 clear hK K
 refine den_block ?_
 refine den_sel [13, 14, 1, 2, 3, 4, 9, 10, 11, 12] ?_
 intro env_1
 simp only [go_sem]
 refine den_loopS (σ := Nat × Value × List Nat) (fun st_ => [(13, st_.2.1), (14, .int .i64 (st_.1 : Int))]) (fun st_ H => (st_.1 ≤ (keptP X n q).length) ∧ (O2 H st_.2.1 (rowsN X n q (q - r) st_.1) st_.2.2) ∧ (Fresh (h2_3.size) st_.2.2) ∧ (Sub [h2_3.size] h2_4.size st_.2.2) ∧ (Chg [h2_3.size] h2_4 H)) (fun st_ => (keptP X n q).length - st_.1) (0, v2_4, [h2_3.size]) ?_ ?_
 ·exact ⟨by first | (simp; done) | (dsimp only; omega) | (simp; omega), by show O2 _ _ [] _; exact ho2_4, hfho2_4, Sub.refl, Chg.refl _ _⟩
 ·rintro ⟨s, vhR, fphR⟩ h4 ee3 ⟨hi0, hR, hfhR, sbhR, cL2⟩
  dsimp only at hi0 hR hfhR sbhR cL2
  replace how1_10_0 := OS.chg how1_10_0 cL2 (apart_lt hlhow1_10_0 hfho2_4 (by omega))
  replace hb0_0 := BoxAt.chgA hb0_0 cL2 (apart_lt hlhb0_0 hfho2_4 (by omega))
  have := cL2.size
  replace eB := Ext.then eB cL2 (ge_of hfho2_4 (by omega))
  replace xrw2_3_0 := Ext.then xrw2_3_0 cL2 (ge_of hfho2_4 (by omega))
  have hlhR := OS.lt hR
  simp only [List.cons_append, List.nil_append]
  refine den_seq ?_
  refine den_seq ?_
  refine den_region TTok ?_
  intro K hK
  simp -implicitDefEqProofs (disch := first | decide | assumption | omega) only [go_sem, RdS.len (OS.rd how1_10_0) sl22, RdS.idx (OS.rd how1_10_0) sl22, R1.intN (OS.rd how1_10_0), RdS.cells (OS.rd how1_10_0), wrap_id]
  refine hK _ _ ?_
  clear hK K
  refine den_cond rfl (fun c0 => ?_) (fun c0 => ?_)
  ·try simp only [decide_eq_true_eq, decide_eq_false_iff_not, beq_iff_eq, beq_eq_false_iff_ne, bne_iff_ne, ne_eq, Bool.not_eq_true', Bool.not_eq_false', Bool.and_eq_true, Bool.or_eq_true, bne_eq_false_iff_eq] at c0
   refine den_skip ?_
   refine den_seq ?_
   refine den_block ?_
   refine den_seq ?_
   refine den_region TTok ?_
   intro K hK
   simp -implicitDefEqProofs (disch := first | decide | assumption | omega) only [go_sem, wrap_id]
   refine op_bs0 sz22 OI ?_
   intro v6_0 h6_0 ho6_0 e6_0
   replace how1_10_0 := OS.ext how1_10_0 e6_0
   replace hR := OS.ext hR e6_0
   replace hb0_0 := BoxAt.ext hb0_0 e6_0
   have := Ext.size e6_0
   replace eB := Ext.trans eB e6_0
   replace xrw2_3_0 := Ext.trans xrw2_3_0 e6_0
   replace cL2 := Chg.stepE cL2 e6_0
   have hfho6_0 : Fresh h4.size [h4.size] := Fresh.one _
   have hlho6_0 := OS.lt ho6_0
   try simp -implicitDefEqProofs (disch := first | decide | assumption | omega) only [go_sem, RdS.len (OS.rd ho6_0) sl22, RdS.idx (OS.rd ho6_0) sl22, R1.intN (OS.rd ho6_0), RdS.cells (OS.rd ho6_0), wrap_id]
   refine hK _ _ ?_
   clear hK K
   refine den_seq ?_
   refine den_seq ?_
   refine den_region TTok ?_
   intro K hK
   simp -implicitDefEqProofs (disch := first | decide | assumption | omega) only [go_sem, wrap_id]
   refine hK _ _ ?_
   clear hK K
   refine den_block ?_
   refine den_sel [15, 16, 1, 2, 3, 4, 9, 10, 11, 12, 13, 14] ?_
   intro env_5
   simp only [go_sem]
   refine den_loopS (σ := Nat × Value × List Nat) (fun st_ => [(15, st_.2.1), (16, .int .i64 (st_.1 : Int))]) (fun st_ H => (st_.1 ≤ (dimP X.c (n - 1)).toNat) ∧ (O1 H st_.2.1 (rowT X n ((keptP X n q).getD s 0) (q - r) st_.1) st_.2.2) ∧ (Fresh (h4.size) st_.2.2) ∧ (Sub [h4.size] h6_0.size st_.2.2) ∧ (Chg [h4.size] h6_0 H)) (fun st_ => (dimP X.c (n - 1)).toNat - st_.1) (0, v6_0, [h4.size]) ?_ ?_
   ·exact ⟨by first | (simp; done) | (dsimp only; omega) | (simp; omega), by show O1 _ _ [] _; exact ho6_0, hfho6_0, Sub.refl, Chg.refl _ _⟩
   ·rintro ⟨k, vhW, fphW⟩ h8 ee7 ⟨hi0, hW, hfhW, sbhW, cL6⟩
    dsimp only at hi0 hW hfhW sbhW cL6
    replace how1_10_0 := OS.chg how1_10_0 cL6 (apart_lt hlhow1_10_0 hfho6_0 (by omega))
    replace hR := OS.chg hR cL6 (apart_lt hlhR hfho6_0 (by omega))
    replace hb0_0 := BoxAt.chgA hb0_0 cL6 (apart_lt hlhb0_0 hfho6_0 (by omega))
    have := cL6.size
    replace eB := Ext.then eB cL6 (ge_of hfho6_0 (by omega))
    replace xrw2_3_0 := Ext.then xrw2_3_0 cL6 (ge_of hfho6_0 (by omega))
    replace cL2 := Chg.step cL2 cL6 (Sub.fresh hfho6_0 (by omega))
    have hlhW := OS.lt hW
    simp only [List.cons_append, List.nil_append]
    have hwk := rowT_len X n ((keptP X n q).getD s 0) (q - r) k
    have hfk := farT_len X (n - 1) (q - r) k
    refine den_seq ?_
    refine den_seq ?_
    refine den_merge [(50, .bool (((decide ((0 : Int) < n)) && (decide ((k : Int) < (dimP X.c (n - (1 : Int))))))))] [1, 2, 3, 4, 9, 10, 11, 12, 13, 14, 15, 16] (fun H => Ext h8 H) ?_ ?_
     -- a way
    ·refine den_region TTok ?_
     intro K hK
     simp -implicitDefEqProofs (disch := first | decide | assumption | (simp (disch := decide) only [slotOf_zero, slotOf_succ, Option.map_some, puts_same, puts_ne, gv_bool, gv_undef, tt, tf, ft, ff, eq_self, if_true, if_false, Bool.false_eq_true, Bool.not_true, Bool.not_false]; done) | omega) only [go_sem, wrap_id]
     refine opsP_T (by simp (disch := decide) only [slotOf_zero, slotOf_succ, Option.map_some, puts_same, puts_ne, gv_bool, gv_undef, tt, tf, ft, ff, eq_self, if_true, if_false, Bool.false_eq_true, Bool.not_true, Bool.not_false]; rfl) (fun g9 => ?_) (fun g9 => ?_)
     ·try simp -implicitDefEqProofs (disch := first | decide | assumption | (simp (disch := decide) only [slotOf_zero, slotOf_succ, Option.map_some, puts_same, puts_ne, gv_bool, gv_undef, tt, tf, ft, ff, eq_self, if_true, if_false, Bool.false_eq_true, Bool.not_true, Bool.not_false, g9]; done) | omega) only [go_sem, fa33_0, ld31, RdS.len hdX sl22, RdS.idx hdX sl22, R1.intB hdX (Ext.pres eB), RdS.cells hdX, RdS.len hmX sl23, RdS.idx hmX sl23, RdS.cellB hmX (Ext.pres eB), RdS.cells hmX, RdS.len hvX sl26, RdS.idx hvX sl26, RdS.cellB hvX (Ext.pres eB), RdS.cells hvX, BoxAt.cell hb0_0, wrap_id, g9, eq_self, if_true, if_false, Bool.false_eq_true]
      try simp -implicitDefEqProofs (disch := first | decide | assumption | omega) only [go_sem, wrap_id]
      refine CallA.mono (sDim_ok _ X.c _ _ ⟨_, _, rfl, (RdS.pres hdX (Ext.pres eB)), (RdS.pres hmX (Ext.pres eB))⟩) ?_
      intro v_ h8_8
      rintro ⟨rfl, e8_8⟩
      replace how1_10_0 := OS.ext how1_10_0 e8_8
      replace hR := OS.ext hR e8_8
      replace hW := OS.ext hW e8_8
      replace hb0_0 := BoxAt.ext hb0_0 e8_8
      have := Ext.size e8_8
      replace eB := Ext.trans eB e8_8
      replace xrw2_3_0 := Ext.trans xrw2_3_0 e8_8
      replace cL2 := Chg.stepE cL2 e8_8
      replace cL6 := Chg.stepE cL6 e8_8
      try simp -implicitDefEqProofs (disch := first | decide | assumption | (simp (disch := decide) only [slotOf_zero, slotOf_succ, Option.map_some, puts_same, puts_ne, gv_bool, gv_undef, tt, tf, ft, ff, eq_self, if_true, if_false, Bool.false_eq_true, Bool.not_true, Bool.not_false, g9]; done) | omega) only [go_sem, wrap_id, g9, eq_self, if_true, if_false, Bool.false_eq_true]
      refine hK _ _ ?_
      clear hK K
      refine den_stop ?_
      refine ⟨?_, e8_8⟩
      first | (simp (disch := decide) only [go_sem, g9, eq_self, Bool.true_and, Bool.and_true, Bool.false_and, Bool.and_false, Bool.true_or, Bool.or_true, Bool.false_or, Bool.or_false, if_true, if_false, Bool.false_eq_true]; done) | simp [HasL, sel, puts_at, g9]
     ·try simp -implicitDefEqProofs (disch := first | decide | assumption | (simp (disch := decide) only [slotOf_zero, slotOf_succ, Option.map_some, puts_same, puts_ne, gv_bool, gv_undef, tt, tf, ft, ff, eq_self, if_true, if_false, Bool.false_eq_true, Bool.not_true, Bool.not_false, g9]; done) | omega) only [go_sem, wrap_id, g9, eq_self, if_true, if_false, Bool.false_eq_true]
      refine hK _ _ ?_
      clear hK K
      refine den_stop ?_
      refine ⟨?_, Ext.refl _⟩
      first | (simp (disch := decide) only [go_sem, g9, eq_self, Bool.true_and, Bool.and_true, Bool.false_and, Bool.and_false, Bool.true_or, Bool.or_true, Bool.false_or, Bool.or_false, if_true, if_false, Bool.false_eq_true]; done) | simp [HasL, sel, puts_at, g9]
    intro en10 h11 e12
    replace how1_10_0 := OS.ext how1_10_0 e12
    replace hR := OS.ext hR e12
    replace hW := OS.ext hW e12
    replace hb0_0 := BoxAt.ext hb0_0 e12
    have := Ext.size e12
    replace eB := Ext.trans eB e12
    replace xrw2_3_0 := Ext.trans xrw2_3_0 e12
    replace cL2 := Chg.stepE cL2 e12
    replace cL6 := Chg.stepE cL6 e12
    simp (disch := decide) only [go_sem]
    refine den_cond rfl (fun c1 => ?_) (fun c1 => ?_)
    ·try simp only [decide_eq_true_eq, decide_eq_false_iff_not, beq_iff_eq, beq_eq_false_iff_ne, bne_iff_ne, ne_eq, Bool.not_eq_true', Bool.not_eq_false', Bool.and_eq_true, Bool.or_eq_true, bne_eq_false_iff_eq] at c1
     refine den_skip ?_
     refine den_seq ?_
     refine den_block ?_
     refine den_seq ?_
     have hnr := dimP_in (X := X.c) (m := n - 1) (by omega)
     have hdm := hF.dim (n := n - 1) (by omega) (by omega)
     have hlv0 : 0 ≤ (k : Int) ∧ (k : Int) < ((X.lv.getD (n - 1).toNat default).length : Int) := by omega
     refine den_region TTok ?_
     intro K hK
     simp -implicitDefEqProofs (disch := first | decide | assumption | omega) only [go_sem, ld33, RdS.len hdX sl22, RdS.idx hdX sl22, R1.intB hdX (Ext.pres eB), RdS.cells hdX, RdS.len hmX sl23, RdS.idx hmX sl23, RdS.cellB hmX (Ext.pres eB), RdS.cells hmX, RdS.len hvX sl26, RdS.idx hvX sl26, RdS.cellB hvX (Ext.pres eB), RdS.cells hvX, BoxAt.cell hb0_0, wrap_id]
     try simp -implicitDefEqProofs (disch := first | decide | assumption | omega) only [go_sem, wrap_id]
     refine CallA.mono (sLev_ok _ X (n - (1 : Int)) (k : Int) _ ⟨_, _, _, rfl, (RdS.pres hdX (Ext.pres eB)), (RdS.pres hmX (Ext.pres eB)), (RdS.pres hvX (Ext.pres eB))⟩ (by omega) hlv0) ?_
     intro v_ h10_4
     rintro ⟨rfl, e10_4⟩
     replace how1_10_0 := OS.ext how1_10_0 e10_4
     replace hR := OS.ext hR e10_4
     replace hW := OS.ext hW e10_4
     replace hb0_0 := BoxAt.ext hb0_0 e10_4
     have := Ext.size e10_4
     replace eB := Ext.trans eB e10_4
     replace xrw2_3_0 := Ext.trans xrw2_3_0 e10_4
     replace cL2 := Chg.stepE cL2 e10_4
     replace cL6 := Chg.stepE cL6 e10_4
     try simp -implicitDefEqProofs (disch := first | decide | assumption | omega) only [go_sem, wrap_id]
     refine hK _ _ ?_
     clear hK K
     refine den_cond rfl (fun c2 => ?_) (fun c2 => ?_)
     ·try simp only [decide_eq_true_eq, decide_eq_false_iff_not, beq_iff_eq, beq_eq_false_iff_ne, bne_iff_ne, ne_eq, Bool.not_eq_true', Bool.not_eq_false', Bool.and_eq_true, Bool.or_eq_true, bne_eq_false_iff_eq] at c2
      have hx0 := keptP_at (X := X) (n := n) (q := q) (k := s) (by omega)
      have hnr2 := dimP_in (X := X.c) (m := n) (by omega)
      have hmt := mapP_tbl hC n
      have hmr := (hmt.2 _ (getD_mem (k := ((keptP X n q).getD s 0).toNat) (by omega))).1
      rw [if_pos (by omega)] at hmr
      refine den_region TTok ?_
      intro K hK
      have hr13 := RdS.rowN hrw2_3_0 (((keptP X n q).getD s 0)).toNat (by omega)
      have hlhr13 := RdS.le hr13
      have xr14 := xrw2_3_0
      simp -implicitDefEqProofs (disch := first | decide | assumption | omega) only [go_sem, ld22, ld2, RdS.len (OS.rd how1_10_0) sl22, RdS.idx (OS.rd how1_10_0) sl22, R1.intN (OS.rd how1_10_0), RdS.cells (OS.rd how1_10_0), RdS.len (OS.rd hW) sl22, RdS.idx (OS.rd hW) sl22, R1.intN (OS.rd hW), RdS.cells (OS.rd hW), RdS.len hrw2_3_0 sl26, RdS.idx hrw2_3_0 sl26, RdS.cellB hrw2_3_0 (Ext.pres xrw2_3_0), RdS.cells hrw2_3_0, RdS.len hr13 sl22, RdS.idx hr13 sl22, R1.intB hr13 (Ext.pres xr14), RdS.cells hr13, wrap_id]
      refine op_bs1 sz22 rfl rfl ?_
      try simp -implicitDefEqProofs (disch := first | decide | assumption | omega) only [go_sem, wrap_id]
      refine op_append1 sz22 hW hfhW.nodup ⟨rfl, rfl⟩ List.nodup_nil (Apart.nil _) (by first | omega | (simp; omega)) rfl rfl ?_
      intro v11_12 h11_12 fp11_12 ho11_12 hn11_12 hs11_12 c11_12
      have hsz11_12 := c11_12.size
      have hfho11_12 : Fresh h4.size fp11_12 := Fresh.appd hfhW (Fresh.nil h10_4.size) (by omega) (by omega) hn11_12 hs11_12
      have sb15 : Sub [h4.size] h6_0.size fp11_12 := Sub.grow sbhW Sub.nil (by omega) hs11_12
      replace how1_10_0 := OS.chg how1_10_0 c11_12 (apart_lt hlhow1_10_0 hfhW (by omega))
      replace hR := OS.chg hR c11_12 (apart_lt hlhR hfhW (by omega))
      replace hb0_0 := BoxAt.chgA hb0_0 c11_12 (apart_lt hlhb0_0 hfhW (by omega))
      have := c11_12.size
      replace eB := Ext.then eB c11_12 (ge_of hfhW (by omega))
      replace xrw2_3_0 := Ext.then xrw2_3_0 c11_12 (ge_of hfhW (by omega))
      replace xr14 := Ext.then xr14 c11_12 (ge_of hfhW (by omega))
      replace cL2 := Chg.step cL2 c11_12 (Sub.fresh hfhW (by omega))
      replace cL6 := Chg.step cL6 c11_12 sbhW
      have hlho11_12 := OS.lt ho11_12
      try simp -implicitDefEqProofs (disch := first | decide | assumption | omega) only [go_sem, RdS.len (OS.rd ho11_12) sl22, RdS.idx (OS.rd ho11_12) sl22, R1.intN (OS.rd ho11_12), RdS.cells (OS.rd ho11_12), wrap_id]
      refine hK _ _ ?_
      clear hK K
      refine den_blk ?_
      refine den_region TTok ?_
      intro K hK
      simp -implicitDefEqProofs (disch := first | decide | assumption | omega) only [go_sem, wrap_id]
      refine hK _ _ ?_
      clear hK K
      refine den_stop ?_
      first | rw [show ((mapP X.c n).getD ((keptP X n q).getD s 0).toNat default).getD k 0 = entP X n ((keptP X n q).getD s 0) k from rfl, rowT_yes c2] at ho11_12 | rw [rowT_no c2] at ho11_12
      exact ⟨(k + 1, v11_12, fp11_12), by simp [HasL, puts_at], ⟨by first | omega | (dsimp only; omega), ho11_12, hfho11_12, sb15, cL6⟩, by first | omega | (dsimp only; omega)⟩
     ·try simp only [decide_eq_true_eq, decide_eq_false_iff_not, beq_iff_eq, beq_eq_false_iff_ne, bne_iff_ne, ne_eq, Bool.not_eq_true', Bool.not_eq_false', Bool.and_eq_true, Bool.or_eq_true, bne_eq_false_iff_eq] at c2
      refine den_skip ?_
      refine den_blk ?_
      refine den_region TTok ?_
      intro K hK
      simp -implicitDefEqProofs (disch := first | decide | assumption | omega) only [go_sem, wrap_id]
      refine hK _ _ ?_
      clear hK K
      refine den_stop ?_
      first | rw [show ((mapP X.c n).getD ((keptP X n q).getD s 0).toNat default).getD k 0 = entP X n ((keptP X n q).getD s 0) k from rfl, rowT_yes c2] at hW | rw [rowT_no c2] at hW
      exact ⟨(k + 1, vhW, fphW), by simp [HasL, puts_at], ⟨by first | omega | (dsimp only; omega), hW, hfhW, sbhW, cL6⟩, by first | omega | (dsimp only; omega)⟩
    ·try simp only [decide_eq_true_eq, decide_eq_false_iff_not, beq_iff_eq, beq_eq_false_iff_ne, bne_iff_ne, ne_eq, Bool.not_eq_true', Bool.not_eq_false', Bool.and_eq_true, Bool.or_eq_true, bne_eq_false_iff_eq] at c1
     refine den_exit ?_
     refine denX_code ?_
     refine denX_stop ?_
     refine denX_hit ?_
     have hrn := rowsN_len X n q (q - r) s
     refine den_region TTok ?_
     intro K hK
     simp -implicitDefEqProofs (disch := first | decide | assumption | omega) only [go_sem, RdS.len (OS.rd hR) sl26, RdS.idx (OS.rd hR) sl26, RdS.cellN (OS.rd hR), RdS.cells (OS.rd hR), RdS.len (OS.rd hW) sl22, RdS.idx (OS.rd hW) sl22, R1.intN (OS.rd hW), RdS.cells (OS.rd hW), wrap_id]
     refine op_bs1 sz26 rfl (OS.one hW).2 ?_
     try simp -implicitDefEqProofs (disch := first | decide | assumption | omega) only [go_sem, wrap_id]
     refine op_append1 sz26 hR hfhR.nodup hW hfhW.nodup (apart_lt hlhR hfhW (by omega)) (by first | omega | (simp; omega)) rfl rfl ?_
     intro v12_3 h12_3 fp12_3 ho12_3 hn12_3 hs12_3 c12_3
     have hsz12_3 := c12_3.size
     have hfho12_3 : Fresh h2_3.size fp12_3 := Fresh.appd hfhR hfhW (by omega) (by omega) hn12_3 hs12_3
     have sb16 : Sub [h2_3.size] h2_4.size fp12_3 := Sub.grow sbhR (Sub.fresh hfhW (by omega)) (by omega) hs12_3
     replace how1_10_0 := OS.chg how1_10_0 c12_3 (apart_lt hlhow1_10_0 hfhR (by omega))
     replace hb0_0 := BoxAt.chgA hb0_0 c12_3 (apart_lt hlhb0_0 hfhR (by omega))
     have := c12_3.size
     replace eB := Ext.then eB c12_3 (ge_of hfhR (by omega))
     replace xrw2_3_0 := Ext.then xrw2_3_0 c12_3 (ge_of hfhR (by omega))
     replace cL2 := Chg.step cL2 c12_3 sbhR
     have hlho12_3 := OS.lt ho12_3
     try simp -implicitDefEqProofs (disch := first | decide | assumption | omega) only [go_sem, RdS.len (OS.rd ho12_3) sl26, RdS.idx (OS.rd ho12_3) sl26, RdS.cellN (OS.rd ho12_3), RdS.cells (OS.rd ho12_3), wrap_id]
     refine hK _ _ ?_
     clear hK K
     refine den_blk ?_
     refine den_region TTok ?_
     intro K hK
     simp -implicitDefEqProofs (disch := first | decide | assumption | omega) only [go_sem, wrap_id]
     refine hK _ _ ?_
     clear hK K
     refine den_stop ?_
     rw [show k = (dimP X.c (n - 1)).toNat by have := dimP_in (X := X.c) (m := n - 1); simp only [Bool.and_eq_false_iff, decide_eq_false_iff_not] at c1; omega, rowsN_step] at ho12_3
     exact ⟨(s + 1, v12_3, fp12_3), by simp [HasL, puts_at], ⟨by first | omega | (dsimp only; omega), ho12_3, hfho12_3, sb16, cL2⟩, by first | omega | (dsimp only; omega)⟩
  ·try simp only [decide_eq_true_eq, decide_eq_false_iff_not, beq_iff_eq, beq_eq_false_iff_ne, bne_iff_ne, ne_eq, Bool.not_eq_true', Bool.not_eq_false', Bool.and_eq_true, Bool.or_eq_true, bne_eq_false_iff_eq] at c0
   refine den_exit ?_
   refine denX_code ?_
   refine denX_stop ?_
   refine denX_hit ?_
   refine den_seq ?_
   rw [show s = (keptP X n q).length by omega] at hR
   change O2 _ _ (rowsP X n q (q - r)) _ at hR
   have hkerT := rows_tbl hC n q (q - r)
   have hrl := rowsP_len X n q (q - r)
   have hkq := kerQ_le hC.p hkerT
   have hfl := farP_len hC (n - 1) (q - r)
   have hkern : ((keptP X n q).length : Int) = ((rowsP X n q (q - r)).length : Int) := by omega
   have hwcb : ∀ k, k < (keptP X n q).length → 0 ≤ (keptP X n q).getD k 0 ∧ (keptP X n q).getD k 0 < dimP X.c n := fun k hk => keptP_at hk
   have hwL : ∀ v, v < (kerQ X.c.p (rowsP X n q (q - r))).length → ((kerQ X.c.p (rowsP X n q (q - r))).getD v default).length = (keptP X n q).length := fun v hv => ker_row hC hv
   have hredT := wide_tbl hC r n q
   have hwl := wide_len hF r n q
   unfold wideP at hredT hwl
   refine den_region TTok ?_
   intro K hK
   simp -implicitDefEqProofs (disch := first | decide | assumption | omega) only [go_sem, RdS.len (OS.rd how1_10_0) sl22, RdS.idx (OS.rd how1_10_0) sl22, R1.intN (OS.rd how1_10_0), RdS.cells (OS.rd how1_10_0), RdS.len (OS.rd hR) sl26, RdS.idx (OS.rd hR) sl26, RdS.cellN (OS.rd hR), RdS.cells (OS.rd hR), wrap_id]
   try simp -implicitDefEqProofs (disch := first | decide | assumption | omega) only [go_sem, wrap_id]
   refine CallA.mono (sKernel_ok _ X.c.p ((keptP X n q).length : Int) (rowsP X n q (q - r)) _ (OS.rd hR) hP hkerT (by omega) (by omega) hkern) ?_
   intro vw13_5_0 h13_5
   rintro ⟨zvw13_5_0, fw13_5_0, rfl, how13_5_0, hfw13_5_0, e13_5⟩
   replace how1_10_0 := OS.ext how1_10_0 e13_5
   replace hR := OS.ext hR e13_5
   have := Ext.size e13_5
   replace eB := Ext.trans eB e13_5
   replace xrw2_3_0 := Ext.trans xrw2_3_0 e13_5
   have hlhow13_5_0 := OS.lt how13_5_0
   try simp -implicitDefEqProofs (disch := first | decide | assumption | omega) only [go_sem, RdS.len (OS.rd how1_10_0) sl22, RdS.idx (OS.rd how1_10_0) sl22, R1.intN (OS.rd how1_10_0), RdS.cells (OS.rd how1_10_0), wrap_id]
   try simp -implicitDefEqProofs (disch := first | decide | assumption | omega) only [go_sem, wrap_id]
   refine CallA.mono (sWide_ok _ _ (kerQ X.c.p (rowsP X n q (q - r))) (keptP X n q) (dimP X.c n) _ (OS.rd how13_5_0) (OS.rd how1_10_0) (by omega) (by omega) hwcb hwL (by omega)) ?_
   intro vw13_8_0 h13_8
   rintro ⟨zvw13_8_0, fw13_8_0, rfl, how13_8_0, hfw13_8_0, e13_8⟩
   replace how1_10_0 := OS.ext how1_10_0 e13_8
   replace hR := OS.ext hR e13_8
   replace how13_5_0 := OS.ext how13_5_0 e13_8
   have := Ext.size e13_8
   replace eB := Ext.trans eB e13_8
   replace xrw2_3_0 := Ext.trans xrw2_3_0 e13_8
   have hlhow13_8_0 := OS.lt how13_8_0
   try simp -implicitDefEqProofs (disch := first | decide | assumption | omega) only [go_sem, wrap_id]
   try simp -implicitDefEqProofs (disch := first | decide | assumption | omega) only [go_sem, wrap_id]
   refine CallA.mono (sEch_ok _ X.c.p ((kerQ X.c.p (rowsP X n q (q - r))).map (fun z => wideN (keptP X n q) z (dimP X.c n).toNat (keptP X n q).length)) _ (OS.rd how13_8_0) hP hredT (by omega) (by omega)) ?_
   intro vw13_9_0 h13_9
   rintro ⟨zvw13_9_0, fw13_9_0, rfl, how13_9_0, hfw13_9_0, e13_9⟩
   replace how1_10_0 := OS.ext how1_10_0 e13_9
   replace hR := OS.ext hR e13_9
   replace how13_5_0 := OS.ext how13_5_0 e13_9
   replace how13_8_0 := OS.ext how13_8_0 e13_9
   have := Ext.size e13_9
   replace eB := Ext.trans eB e13_9
   replace xrw2_3_0 := Ext.trans xrw2_3_0 e13_9
   have hlhow13_9_0 := OS.lt how13_9_0
   try simp -implicitDefEqProofs (disch := first | decide | assumption | omega) only [go_sem, RdS.len (OS.rd how13_9_0) sl26, RdS.idx (OS.rd how13_9_0) sl26, RdS.cellN (OS.rd how13_9_0), RdS.cells (OS.rd how13_9_0), wrap_id]
   refine hK _ _ ?_
   clear hK K
   refine den_ret ?_
   simp (disch := decide) only [resP_1, puts_same, puts_ne]
   exact ⟨_, _, rfl, how13_9_0, hfw13_9_0.mono (by omega), eB⟩
end Go.Proofs.Ytjjjgllbocgkbaa

namespace Go.Proofs.Ytjjjgllbocgkbaa
open Go
structure PvOk (X Y : Cx) (i : Int) (u : List Int) (j : Int) (v : List Int) : Prop where
 cX : IsC X
 cY : IsC Y
 p : 0 < X.p ∧ X.p ≤ 7
 ci : 0 ≤ i ∧ i ≤ (X.dims.length : Int) - 1
 cj : 0 ≤ j ∧ j ≤ (Y.dims.length : Int) - 1
 lX : X.dims.length ≤ 6
 lY : Y.dims.length ≤ 6
 cu : (u.length : Int) = dimP X i ∧ Bnd X.p u
 cv : (v.length : Int) = dimP Y j ∧ Bnd X.p v
end Go.Proofs.Ytjjjgllbocgkbaa

namespace Go.Proofs.Ytjjjgllbocgkbaa
open Go
section
variable {P : Program} {n : Nat} {K : Env → Heap → Prop} {env : Env} {h : Heap} {d : Option Tmp} {ty : TypeId} {p : String} {a : Array Edge} {g : Option (Nat × Bool)}
end
def famAt (X Y : Cx) (f : List (List (List Int))) (s : Int) (n : Nat) : Bool := tableP X.p (f.getD n default) (X.dims.getD n 0) (dimP Y ((n : Int) + s))
structure IsFam (X Y : Cx) (f : List (List (List Int))) (s : Int) : Prop where
 len : f.length = X.dims.length
 rows : ∀ n, n < f.length → famAt X Y f s n = true
theorem famAt_iff {X Y : Cx} {f : List (List (List Int))} {s : Int} {n : Nat} : famAt X Y f s n = true ↔ ((f.getD n default).length : Int) = X.dims.getD n 0 ∧ (f.getD n default).all (isRow X.p (dimP Y ((n : Int) + s))) = true := by
 simp only [famAt, tableP, Bool.and_eq_true, decide_eq_true_eq]
theorem IsFam.at {X Y : Cx} {f : List (List (List Int))} {s : Int} (h : IsFam X Y f s) {n : Nat} (hn : n < f.length) : ((f.getD n default).length : Int) = X.dims.getD n 0 ∧ Tbl X.p (dimP Y ((n : Int) + s)) (f.getD n default) := tableP_iff.1 (h.rows n hn)
theorem IsFam.row {X Y : Cx} {f : List (List (List Int))} {s : Int} (h : IsFam X Y f s) {n i : Nat} (hn : n < f.length) (hi : i < (f.getD n default).length) : isRow X.p (dimP Y ((n : Int) + s)) ((f.getD n default).getD i default) = true := all_at (d := default) (famAt_iff.1 (h.rows n hn)).2 hi
end Go.Proofs.Ytjjjgllbocgkbaa

namespace Go.Proofs.Ytjjjgllbocgkbaa
open Go
/-- What a round of the test of chain maps knows. -/
structure ChnR (X Y : Cx) (f : List (List (List Int))) (k i : Nat) : Prop where
 hi : i < (X.maps.getD k default).length
 ml : k < X.maps.length
 row : (((X.maps.getD k default).getD i default).length : Int) = X.dims.getD k 0 ∧ Bnd X.p ((X.maps.getD k default).getD i default)
 img : (((f.getD ((k : Int) + 1).toNat default).getD i default).length : Int) = Y.dims.getD ((k : Int) + 1).toNat 0 ∧ Bnd Y.p ((f.getD ((k : Int) + 1).toNat default).getD i default)
end Go.Proofs.Ytjjjgllbocgkbaa

namespace Go.Proofs.Ytjjjgllbocgkbaa
open Go
structure SumOk (p : Int) (f g : List (List (List Int))) : Prop where
 len : f.length = g.length ∧ f.length ≤ 6
 rows : ∀ n, n < f.length → (f.getD n default).length = (g.getD n default).length ∧ (f.getD n default).length ≤ 8
 row : ∀ n i, n < f.length → i < (f.getD n default).length → ((f.getD n default).getD i default).length = ((g.getD n default).getD i default).length ∧ ((f.getD n default).getD i default).length ≤ 8 ∧ Bnd p ((f.getD n default).getD i default) ∧ Bnd p ((g.getD n default).getD i default)
end Go.Proofs.Ytjjjgllbocgkbaa

namespace Go.Proofs.Ytjjjgllbocgkbaa
open Go
/-- A row that is one's own, or one that lies in other blocks. -/
def EM (h0 : Heap) (fE : List Nat) (h : Heap) (u : Value) (x : List Int) (fp : List Nat) : Prop := O1 h u x fp ∨ ESt h0 fE h u x fp
instance {h0 : Heap} {fE : List Nat} : Own (EM h0 fE) := ⟨fun hl h => h.elim (fun a => .inl (Own.loc hl a)) .inr, (fun h => h.elim Own.lt fun a b hb => by rw [a.1] at hb; cases hb), (fun h => h.elim Own.one fun a => a.2.1)⟩
abbrev O2M (h0 : Heap) (fE : List Nat) : Heap → Value → List (List Int) → List Nat → Prop := OS 22 (EM h0 fE)
theorem O2M.nil {h0 : Heap} {fE : List Nat} {h : Heap} {v : Value} {fp : List Nat} (ho : O2 h v [] fp) : O2M h0 fE h v [] fp := by
 rcases ho with ⟨h1, _, h3⟩ | ⟨b, c, cur, fps, rfl, r⟩
 ·exact .inl ⟨h1, rfl, h3⟩
 ·exact .inr ⟨b, c, cur, fps, rfl, ⟨r.val, r.box, r.size, r.max, r.le, r.len, fun j hj => by simp at hj⟩⟩
theorem O2M.rd {h0 : Heap} {fE : List Nat} {h : Heap} {v : Value} {xs : List (List Int)} {fp : List Nat} (ho : O2M h0 fE h v xs fp) (hag : Agr fE h0 h) : R2 h v xs := by
 rcases ho with ⟨rfl, rfl, _⟩ | ⟨b, c, cur, fps, _, r⟩
 ·exact ⟨none, 0, rfl, .inr rfl, by simp, by omega, fun j hj => by simp at hj⟩
 ·refine ⟨some ⟨b, 0, none⟩, c, r.val, .inl rfl, r.le, r.max, fun j hj => ?_⟩
  obtain ⟨u, f, h1, _, h4⟩ := r.el j hj
  refine ⟨u, ?_, h4.elim (fun a => OS.rd a) fun a => a.2.2 h hag⟩
  rw [r.val]
  simp only [sA]
  rw [addr_add, r.box.cell, Nat.zero_add, h1]
theorem ES.row {h : Heap} {vE : Value} {E : List (List Int)} {fE : List Nat} (hE : O2 h vE E fE) (hn : fE.Nodup) {i : Nat} (hi : i < E.length) {H : Heap} : ESt h fE H (rowV h vE i) (E.getD i default) [] := by
 obtain ⟨f, hO, hsub, _, _⟩ := OS.elem hE hn i hi
 exact ⟨rfl, Own.one hO, fun h' hg => OS.rd (show O1 h' (rowV h vE i) (E.getD i default) f from Own.loc (fun b hb => hg b (hsub b hb)) hO)⟩
theorem getD_elem {α : Type} [Inhabited α] {xs : List α} {j : Nat} (hj : j < xs.length) : xs[j] = xs.getD j default := by
 rw [List.getD_eq_getElem?_getD, List.getElem?_eq_getElem hj]; rfl
structure RkOk (X Y : Cx) (f : List (List (List Int))) (n : Int) : Prop where
 cX : IsC X
 cY : IsC Y
 cf : IsFam X Y f 0
 p : X.p = Y.p
 n0 : 0 ≤ n
 n1 : n ≤ (X.dims.length : Int) - 1
end Go.Proofs.Ytjjjgllbocgkbaa

namespace Go.Proofs.Ytjjjgllbocgkbaa
open Go
noncomputable def pgC (X : Fl) (r n q : Int) : Int := if isF X = true then (if in3 r 0 8 = true ∧ in3 n 0 ((X.c.dims.length : Int) - 1) = true ∧ in3 q 0 5 = true then 0 else 2) else 1
theorem pgC_0 {X : Fl} {r n q : Int} (h : pgC X r n q = 0) : IsF X ∧ (0 ≤ r ∧ r ≤ 8) ∧ (0 ≤ n ∧ n ≤ (X.c.dims.length : Int) - 1) ∧ (0 ≤ q ∧ q ≤ 5) := by
 unfold pgC at h
 split at h
 ·rename_i h1
  split at h
  ·rename_i h2
   exact ⟨isF_t.1 h1, in3_iff.1 h2.1, in3_iff.1 h2.2.1, in3_iff.1 h2.2.2⟩
  ·cases h
 ·cases h
theorem Agr.app {f1 f2 : List Nat} {h0 h : Heap} (a : Agr f1 h0 h) (b : Agr f2 h0 h) : Agr (f1 ++ f2) h0 h := fun x hx => (List.mem_append.1 hx).elim (a x) (b x)
theorem ESt.left {h0 : Heap} {f1 f2 : List Nat} {H : Heap} {u : Value} {x : List Int} {fp : List Nat} (h : ESt h0 f1 H u x fp) : ESt h0 (f1 ++ f2) H u x fp := ⟨h.1, h.2.1, fun h' g => h.2.2 h' (fun b hb => g b (List.mem_append_left _ hb))⟩
theorem ESt.right {h0 : Heap} {f1 f2 : List Nat} {H : Heap} {u : Value} {x : List Int} {fp : List Nat} (h : ESt h0 f2 H u x fp) : ESt h0 (f1 ++ f2) H u x fp := ⟨h.1, h.2.1, fun h' g => h.2.2 h' (fun b hb => g b (List.mem_append_right _ hb))⟩
theorem ESt.move {h0 h1 : Heap} {fE : List Nat} {H : Heap} {u : Value} {x : List Int} {fp : List Nat} (a : Agr fE h0 h1) (h : ESt h0 fE H u x fp) : ESt h1 fE H u x fp := ⟨h.1, h.2.1, fun h' g => h.2.2 h' (fun b hb => (g b hb).trans (a b hb))⟩
theorem OS.mapE {α : Type} {e : TypeId} {E F : Heap → Value → α → List Nat → Prop} (k : ∀ h u x fp, E h u x fp → F h u x fp) {h : Heap} {v : Value} {xs : List α} {fp : List Nat} (ho : OS e E h v xs fp) : OS e F h v xs fp := by
 rcases ho with ⟨h1, h2, h3⟩ | ⟨b, c, cur, fps, rfl, r⟩
 ·exact .inl ⟨h1, h2, h3⟩
 ·exact .inr ⟨b, c, cur, fps, rfl, ⟨r.val, r.box, r.size, r.max, r.le, r.len, fun j hj => let ⟨u, f, q1, q2, q3⟩ := r.el j hj; ⟨u, f, q1, q2, k _ _ _ _ q3⟩⟩⟩
/-- A list with borrowed rows, told at a later heap, and of more blocks. -/
theorem O2M.more {h0 h1 : Heap} {f1 f2 : List Nat} {h : Heap} {v : Value} {xs : List (List Int)} {fp : List Nat} (a : Agr f1 h0 h1) (ho : O2M h0 f1 h v xs fp) : O2M h1 (f1 ++ f2) h v xs fp :=
 OS.mapE (fun h u x fp q => q.imp id (fun s => (s.move a).left)) ho

set_option maxRecDepth 100000 in
theorem iPg_ok (vX : Value) (X : Fl) (r : Int) (n : Int) (q : Int) (h : Heap) (rX : RF h vX X)  : CallA Try.prog 81 #[vX, .int .i64 r, .int .i64 n, .int .i64 q] h fun v' h' => v' = .int .i64 (pgC X r n q) ∧ Ext h h' := by
 obtain ⟨vdX, vmX, vvX, rfl, hdX, hmX, hvX⟩ := rX
 have hledX := RdS.le hdX
 have hlemX := RdS.le hmX
 have hlevX := RdS.le hvX
 refine callA_intro TTok (args := [_, _, _, _]) Try.func81 (by kernel_rfl) rfl 30 rfl (by simp) [.tmp 8] rfl ?_
 simp only [idxs, Nat.reduceAdd]
 refine den_seq ?_
 refine den_region TTok ?_
 intro K hK
 simp -implicitDefEqProofs (disch := first | decide | assumption | omega) only [go_sem, wrap_id]
 refine op_box (cs := #[.int .i64 (X.c.p), vdX, vmX, vvX]) rfl ?_
 intro h0_0 e0_0 hb0_0 z0_0
 have := Ext.size e0_0
 have eB := e0_0
 have hfhb0_0 : Fresh h.size [h.size] := Fresh.one _
 have hlhb0_0 := one_lt (show h.size < h0_0.size by omega)
 try simp -implicitDefEqProofs (disch := first | decide | assumption | omega) only [go_sem, wrap_id]
 refine hK _ _ ?_
 clear hK K
 refine den_seq ?_
 refine den_block ?_
 refine den_seq ?_
 refine den_region TTok ?_
 intro K hK
 simp -implicitDefEqProofs (disch := first | decide | assumption | omega) only [go_sem, ld33, RdS.len hdX sl22, RdS.idx hdX sl22, R1.intB hdX (Ext.pres eB), RdS.cells hdX, RdS.len hmX sl23, RdS.idx hmX sl23, RdS.cellB hmX (Ext.pres eB), RdS.cells hmX, RdS.len hvX sl26, RdS.idx hvX sl26, RdS.cellB hvX (Ext.pres eB), RdS.cells hvX, BoxAt.cell hb0_0, wrap_id]
 try simp -implicitDefEqProofs (disch := first | decide | assumption | omega) only [go_sem, wrap_id]
 refine CallA.mono (iIsF_ok _ X _ ⟨_, _, _, rfl, (RdS.pres hdX (Ext.pres eB)), (RdS.pres hmX (Ext.pres eB)), (RdS.pres hvX (Ext.pres eB))⟩ ) ?_
 intro v_ h1_1
 rintro ⟨rfl, e1_1⟩
 replace hb0_0 := BoxAt.ext hb0_0 e1_1
 have := Ext.size e1_1
 replace eB := Ext.trans eB e1_1
 try simp -implicitDefEqProofs (disch := first | decide | assumption | omega) only [go_sem, wrap_id]
 refine hK _ _ ?_
 clear hK K
 refine den_cond rfl (fun c0 => ?_) (fun c0 => ?_)
 ·try simp only [decide_eq_true_eq, decide_eq_false_iff_not, beq_iff_eq, beq_eq_false_iff_ne, bne_iff_ne, ne_eq, Bool.not_eq_true', Bool.not_eq_false', Bool.and_eq_true, Bool.or_eq_true, bne_eq_false_iff_eq, Bool.or_eq_false_iff, Bool.and_eq_false_iff] at c0
  refine den_seq ?_
  refine den_region TTok ?_
  intro K hK
  simp -implicitDefEqProofs (disch := first | decide | assumption | omega) only [go_sem, wrap_id]
  refine hK _ _ ?_
  clear hK K
  refine den_ret ?_
  simp (disch := decide) only [resP_1, puts_same, puts_ne]
  exact ⟨vint (by rw [pgC, if_neg (by rw [c0]; decide)]), eB⟩
 ·try simp only [decide_eq_true_eq, decide_eq_false_iff_not, beq_iff_eq, beq_eq_false_iff_ne, bne_iff_ne, ne_eq, Bool.not_eq_true', Bool.not_eq_false', Bool.and_eq_true, Bool.or_eq_true, bne_eq_false_iff_eq, Bool.or_eq_false_iff, Bool.and_eq_false_iff] at c0
  refine den_seq ?_
  refine den_merge [(13, .bool ((((!((in3 r (0 : Int) (8 : Int)))) || (!((in3 n (0 : Int) (((X.c.dims).length : Int) - 1))))) || (!((in3 q (0 : Int) (5 : Int)))))))] [] (fun H => Ext h1_1 H) ?_ ?_
   -- a way
  ·refine den_region TTok ?_
   intro K hK
   simp -implicitDefEqProofs (disch := first | decide | assumption | (simp (disch := decide) only [slotOf_zero, slotOf_succ, Option.map_some, puts_same, puts_ne, gv_bool, gv_undef, tt, tf, ft, ff, eq_self, if_true, if_false, Bool.false_eq_true, Bool.not_true, Bool.not_false]; done) | omega) only [go_sem, wrap_id]
   try simp -implicitDefEqProofs (disch := first | decide | assumption | omega) only [go_sem, wrap_id]
   refine CallA.pure (iIn_ok _ _ _ _) ?_
   try simp -implicitDefEqProofs (disch := first | decide | assumption | (simp (disch := decide) only [slotOf_zero, slotOf_succ, Option.map_some, puts_same, puts_ne, gv_bool, gv_undef, tt, tf, ft, ff, eq_self, if_true, if_false, Bool.false_eq_true, Bool.not_true, Bool.not_false]; done) | omega) only [go_sem, wrap_id]
   refine opsP_F (by simp (disch := decide) only [slotOf_zero, slotOf_succ, Option.map_some, puts_same, puts_ne, gv_bool, gv_undef, tt, tf, ft, ff, eq_self, if_true, if_false, Bool.false_eq_true, Bool.not_true, Bool.not_false]; rfl) (fun g1 => ?_) (fun g1 => ?_)
   ·try simp -implicitDefEqProofs (disch := first | decide | assumption | (simp (disch := decide) only [slotOf_zero, slotOf_succ, Option.map_some, puts_same, puts_ne, gv_bool, gv_undef, tt, tf, ft, ff, eq_self, if_true, if_false, Bool.false_eq_true, Bool.not_true, Bool.not_false, g1]; done) | omega) only [go_sem, fa33_0, ld31, RdS.len hdX sl22, RdS.idx hdX sl22, R1.intB hdX (Ext.pres eB), RdS.cells hdX, RdS.len hmX sl23, RdS.idx hmX sl23, RdS.cellB hmX (Ext.pres eB), RdS.cells hmX, RdS.len hvX sl26, RdS.idx hvX sl26, RdS.cellB hvX (Ext.pres eB), RdS.cells hvX, BoxAt.cell hb0_0, wrap_id, g1, eq_self, if_true, if_false, Bool.false_eq_true]
    try simp -implicitDefEqProofs (disch := first | decide | assumption | omega) only [go_sem, wrap_id]
    refine CallA.mono (top_ok _ X.c _ ⟨_, _, rfl, (RdS.pres hdX (Ext.pres eB)), (RdS.pres hmX (Ext.pres eB))⟩) ?_
    intro v_ h3_7
    rintro ⟨rfl, e3_7⟩
    replace hb0_0 := BoxAt.ext hb0_0 e3_7
    have := Ext.size e3_7
    replace eB := Ext.trans eB e3_7
    try simp -implicitDefEqProofs (disch := first | decide | assumption | (simp (disch := decide) only [slotOf_zero, slotOf_succ, Option.map_some, puts_same, puts_ne, gv_bool, gv_undef, tt, tf, ft, ff, eq_self, if_true, if_false, Bool.false_eq_true, Bool.not_true, Bool.not_false, g1]; done) | omega) only [go_sem, wrap_id, g1, eq_self, if_true, if_false, Bool.false_eq_true]
    try simp -implicitDefEqProofs (disch := first | decide | assumption | omega) only [go_sem, wrap_id]
    refine CallA.pure (iIn_ok _ _ _ _) ?_
    try simp -implicitDefEqProofs (disch := first | decide | assumption | (simp (disch := decide) only [slotOf_zero, slotOf_succ, Option.map_some, puts_same, puts_ne, gv_bool, gv_undef, tt, tf, ft, ff, eq_self, if_true, if_false, Bool.false_eq_true, Bool.not_true, Bool.not_false, g1]; done) | omega) only [go_sem, wrap_id, g1, eq_self, if_true, if_false, Bool.false_eq_true]
    refine opsP_F (by simp (disch := decide) only [slotOf_zero, slotOf_succ, Option.map_some, puts_same, puts_ne, gv_bool, gv_undef, tt, tf, ft, ff, eq_self, if_true, if_false, Bool.false_eq_true, Bool.not_true, Bool.not_false, g1]; rfl) (fun g2 => ?_) (fun g2 => ?_)
    ·try simp -implicitDefEqProofs (disch := first | decide | assumption | (simp (disch := decide) only [slotOf_zero, slotOf_succ, Option.map_some, puts_same, puts_ne, gv_bool, gv_undef, tt, tf, ft, ff, eq_self, if_true, if_false, Bool.false_eq_true, Bool.not_true, Bool.not_false, g1, g2]; done) | omega) only [go_sem, wrap_id, g1, g2, eq_self, if_true, if_false, Bool.false_eq_true]
     try simp -implicitDefEqProofs (disch := first | decide | assumption | omega) only [go_sem, wrap_id]
     refine CallA.pure (iIn_ok _ _ _ _) ?_
     try simp -implicitDefEqProofs (disch := first | decide | assumption | (simp (disch := decide) only [slotOf_zero, slotOf_succ, Option.map_some, puts_same, puts_ne, gv_bool, gv_undef, tt, tf, ft, ff, eq_self, if_true, if_false, Bool.false_eq_true, Bool.not_true, Bool.not_false, g1, g2]; done) | omega) only [go_sem, wrap_id, g1, g2, eq_self, if_true, if_false, Bool.false_eq_true]
     refine hK _ _ ?_
     clear hK K
     refine den_stop ?_
     refine ⟨?_, e3_7⟩
     first | (simp (disch := decide) only [go_sem, g1, g2, eq_self, Bool.true_and, Bool.and_true, Bool.false_and, Bool.and_false, Bool.true_or, Bool.or_true, Bool.false_or, Bool.or_false, if_true, if_false, Bool.false_eq_true]; done) | simp [HasL, sel, puts_at, g1, g2]
    ·try simp -implicitDefEqProofs (disch := first | decide | assumption | (simp (disch := decide) only [slotOf_zero, slotOf_succ, Option.map_some, puts_same, puts_ne, gv_bool, gv_undef, tt, tf, ft, ff, eq_self, if_true, if_false, Bool.false_eq_true, Bool.not_true, Bool.not_false, g1, g2]; done) | omega) only [go_sem, wrap_id, g1, g2, eq_self, if_true, if_false, Bool.false_eq_true]
     refine hK _ _ ?_
     clear hK K
     refine den_stop ?_
     refine ⟨?_, e3_7⟩
     first | (simp (disch := decide) only [go_sem, g1, g2, eq_self, Bool.true_and, Bool.and_true, Bool.false_and, Bool.and_false, Bool.true_or, Bool.or_true, Bool.false_or, Bool.or_false, if_true, if_false, Bool.false_eq_true]; done) | simp [HasL, sel, puts_at, g1, g2]
   ·try simp -implicitDefEqProofs (disch := first | decide | assumption | (simp (disch := decide) only [slotOf_zero, slotOf_succ, Option.map_some, puts_same, puts_ne, gv_bool, gv_undef, tt, tf, ft, ff, eq_self, if_true, if_false, Bool.false_eq_true, Bool.not_true, Bool.not_false, g1]; done) | omega) only [go_sem, wrap_id, g1, eq_self, if_true, if_false, Bool.false_eq_true]
    try simp -implicitDefEqProofs (disch := first | decide | assumption | (simp (disch := decide) only [slotOf_zero, slotOf_succ, Option.map_some, puts_same, puts_ne, gv_bool, gv_undef, tt, tf, ft, ff, eq_self, if_true, if_false, Bool.false_eq_true, Bool.not_true, Bool.not_false, g1]; done) | omega) only [go_sem, wrap_id, g1, eq_self, if_true, if_false, Bool.false_eq_true]
    refine hK _ _ ?_
    clear hK K
    refine den_stop ?_
    refine ⟨?_, Ext.refl _⟩
    first | (simp (disch := decide) only [go_sem, g1, eq_self, Bool.true_and, Bool.and_true, Bool.false_and, Bool.and_false, Bool.true_or, Bool.or_true, Bool.false_or, Bool.or_false, if_true, if_false, Bool.false_eq_true]; done) | simp [HasL, sel, puts_at, g1]
  intro en3 h4 e5
  replace hb0_0 := BoxAt.ext hb0_0 e5
  have := Ext.size e5
  replace eB := Ext.trans eB e5
  simp (disch := decide) only [go_sem]
  refine den_cond rfl (fun c1 => ?_) (fun c1 => ?_)
  ·try simp only [decide_eq_true_eq, decide_eq_false_iff_not, beq_iff_eq, beq_eq_false_iff_ne, bne_iff_ne, ne_eq, Bool.not_eq_true', Bool.not_eq_false', Bool.and_eq_true, Bool.or_eq_true, bne_eq_false_iff_eq, Bool.or_eq_false_iff, Bool.and_eq_false_iff] at c1
   refine den_seq ?_
   refine den_region TTok ?_
   intro K hK
   simp -implicitDefEqProofs (disch := first | decide | assumption | omega) only [go_sem, wrap_id]
   refine hK _ _ ?_
   clear hK K
   refine den_ret ?_
   simp (disch := decide) only [resP_1, puts_same, puts_ne]
   exact ⟨vint (by rw [pgC, if_pos c0, if_neg (by rintro ⟨h1, h2, h3⟩; simp [h1, h2, h3] at c1)]), eB⟩
  ·try simp only [decide_eq_true_eq, decide_eq_false_iff_not, beq_iff_eq, beq_eq_false_iff_ne, bne_iff_ne, ne_eq, Bool.not_eq_true', Bool.not_eq_false', Bool.and_eq_true, Bool.or_eq_true, bne_eq_false_iff_eq, Bool.or_eq_false_iff, Bool.and_eq_false_iff] at c1
   refine den_skip ?_
   refine den_blk ?_
   refine den_seq ?_
   refine den_region TTok ?_
   intro K hK
   simp -implicitDefEqProofs (disch := first | decide | assumption | omega) only [go_sem, wrap_id]
   refine hK _ _ ?_
   clear hK K
   refine den_ret ?_
   simp (disch := decide) only [resP_1, puts_same, puts_ne]
   exact ⟨vint (by rw [pgC, if_pos c0, if_pos (by simpa [and_assoc] using c1)]), eB⟩

set_option maxRecDepth 100000 in
theorem sPg_ok (vX : Value) (X : Fl) (r : Int) (n : Int) (q : Int) (h : Heap) (rX : RF h vX X)  : CallA Try.prog 88 #[vX, .int .i64 r, .int .i64 n, .int .i64 q] h fun v' h' => v' = .int .i64 (pgC X r n q) ∧ Ext h h' := by
 obtain ⟨vdX, vmX, vvX, rfl, hdX, hmX, hvX⟩ := rX
 have hledX := RdS.le hdX
 have hlemX := RdS.le hmX
 have hlevX := RdS.le hvX
 refine callA_intro TTok (args := [_, _, _, _]) Try.func88 (by kernel_rfl) rfl 31 rfl (by simp) [.tmp 8] rfl ?_
 simp only [idxs, Nat.reduceAdd]
 refine den_seq ?_
 refine den_region TTok ?_
 intro K hK
 simp -implicitDefEqProofs (disch := first | decide | assumption | omega) only [go_sem, wrap_id]
 refine op_box (cs := #[.int .i64 (X.c.p), vdX, vmX, vvX]) rfl ?_
 intro h0_0 e0_0 hb0_0 z0_0
 have := Ext.size e0_0
 have eB := e0_0
 have hfhb0_0 : Fresh h.size [h.size] := Fresh.one _
 have hlhb0_0 := one_lt (show h.size < h0_0.size by omega)
 try simp -implicitDefEqProofs (disch := first | decide | assumption | omega) only [go_sem, wrap_id]
 refine hK _ _ ?_
 clear hK K
 refine den_seq ?_
 refine den_block ?_
 refine den_seq ?_
 refine den_region TTok ?_
 intro K hK
 simp -implicitDefEqProofs (disch := first | decide | assumption | omega) only [go_sem, ld33, RdS.len hdX sl22, RdS.idx hdX sl22, R1.intB hdX (Ext.pres eB), RdS.cells hdX, RdS.len hmX sl23, RdS.idx hmX sl23, RdS.cellB hmX (Ext.pres eB), RdS.cells hmX, RdS.len hvX sl26, RdS.idx hvX sl26, RdS.cellB hvX (Ext.pres eB), RdS.cells hvX, BoxAt.cell hb0_0, wrap_id]
 try simp -implicitDefEqProofs (disch := first | decide | assumption | omega) only [go_sem, wrap_id]
 refine CallA.mono (sIsF_ok _ X _ ⟨_, _, _, rfl, (RdS.pres hdX (Ext.pres eB)), (RdS.pres hmX (Ext.pres eB)), (RdS.pres hvX (Ext.pres eB))⟩ ) ?_
 intro v_ h1_1
 rintro ⟨rfl, e1_1⟩
 replace hb0_0 := BoxAt.ext hb0_0 e1_1
 have := Ext.size e1_1
 replace eB := Ext.trans eB e1_1
 try simp -implicitDefEqProofs (disch := first | decide | assumption | omega) only [go_sem, wrap_id]
 refine hK _ _ ?_
 clear hK K
 refine den_cond rfl (fun c0 => ?_) (fun c0 => ?_)
 ·try simp only [decide_eq_true_eq, decide_eq_false_iff_not, beq_iff_eq, beq_eq_false_iff_ne, bne_iff_ne, ne_eq, Bool.not_eq_true', Bool.not_eq_false', Bool.and_eq_true, Bool.or_eq_true, bne_eq_false_iff_eq, Bool.or_eq_false_iff, Bool.and_eq_false_iff] at c0
  refine den_seq ?_
  refine den_region TTok ?_
  intro K hK
  simp -implicitDefEqProofs (disch := first | decide | assumption | omega) only [go_sem, wrap_id]
  refine hK _ _ ?_
  clear hK K
  refine den_ret ?_
  simp (disch := decide) only [resP_1, puts_same, puts_ne]
  exact ⟨vint (by rw [pgC, if_neg (by rw [c0]; decide)]), eB⟩
 ·try simp only [decide_eq_true_eq, decide_eq_false_iff_not, beq_iff_eq, beq_eq_false_iff_ne, bne_iff_ne, ne_eq, Bool.not_eq_true', Bool.not_eq_false', Bool.and_eq_true, Bool.or_eq_true, bne_eq_false_iff_eq, Bool.or_eq_false_iff, Bool.and_eq_false_iff] at c0
  have hln := (isF_t.1 c0).ln
  refine den_seq ?_
  refine den_mergeH [(13, .bool ((((!((in3 r (0 : Int) (8 : Int)))) || (!((in3 n (0 : Int) (((X.lv).length : Int) - (1 : Int)))))) || (!((in3 q (0 : Int) (5 : Int)))))))] [] ?_ ?_
   -- a way
  ·refine den_region TTok ?_
   intro K hK
   simp -implicitDefEqProofs (disch := first | decide | assumption | (simp (disch := decide) only [slotOf_zero, slotOf_succ, Option.map_some, puts_same, puts_ne, gv_bool, gv_undef, tt, tf, ft, ff, eq_self, if_true, if_false, Bool.false_eq_true, Bool.not_true, Bool.not_false]; done) | omega) only [go_sem, wrap_id]
   try simp -implicitDefEqProofs (disch := first | decide | assumption | omega) only [go_sem, wrap_id]
   refine CallA.pure (sIn_ok _ _ _ _) ?_
   try simp -implicitDefEqProofs (disch := first | decide | assumption | (simp (disch := decide) only [slotOf_zero, slotOf_succ, Option.map_some, puts_same, puts_ne, gv_bool, gv_undef, tt, tf, ft, ff, eq_self, if_true, if_false, Bool.false_eq_true, Bool.not_true, Bool.not_false]; done) | omega) only [go_sem, wrap_id]
   refine opsP_F (by simp (disch := decide) only [slotOf_zero, slotOf_succ, Option.map_some, puts_same, puts_ne, gv_bool, gv_undef, tt, tf, ft, ff, eq_self, if_true, if_false, Bool.false_eq_true, Bool.not_true, Bool.not_false]; rfl) (fun g1 => ?_) (fun g1 => ?_)
   ·try simp -implicitDefEqProofs (disch := first | decide | assumption | (simp (disch := decide) only [slotOf_zero, slotOf_succ, Option.map_some, puts_same, puts_ne, gv_bool, gv_undef, tt, tf, ft, ff, eq_self, if_true, if_false, Bool.false_eq_true, Bool.not_true, Bool.not_false, g1]; done) | omega) only [go_sem, fa33_1, ld26, RdS.len hdX sl22, RdS.idx hdX sl22, R1.intB hdX (Ext.pres eB), RdS.cells hdX, RdS.len hmX sl23, RdS.idx hmX sl23, RdS.cellB hmX (Ext.pres eB), RdS.cells hmX, RdS.len hvX sl26, RdS.idx hvX sl26, RdS.cellB hvX (Ext.pres eB), RdS.cells hvX, BoxAt.cell hb0_0, wrap_id, g1, eq_self, if_true, if_false, Bool.false_eq_true]
    try simp -implicitDefEqProofs (disch := first | decide | assumption | omega) only [go_sem, wrap_id]
    refine CallA.pure (sIn_ok _ _ _ _) ?_
    try simp -implicitDefEqProofs (disch := first | decide | assumption | (simp (disch := decide) only [slotOf_zero, slotOf_succ, Option.map_some, puts_same, puts_ne, gv_bool, gv_undef, tt, tf, ft, ff, eq_self, if_true, if_false, Bool.false_eq_true, Bool.not_true, Bool.not_false, g1]; done) | omega) only [go_sem, wrap_id, g1, eq_self, if_true, if_false, Bool.false_eq_true]
    refine opsP_F (by simp (disch := decide) only [slotOf_zero, slotOf_succ, Option.map_some, puts_same, puts_ne, gv_bool, gv_undef, tt, tf, ft, ff, eq_self, if_true, if_false, Bool.false_eq_true, Bool.not_true, Bool.not_false, g1]; rfl) (fun g2 => ?_) (fun g2 => ?_)
    ·try simp -implicitDefEqProofs (disch := first | decide | assumption | (simp (disch := decide) only [slotOf_zero, slotOf_succ, Option.map_some, puts_same, puts_ne, gv_bool, gv_undef, tt, tf, ft, ff, eq_self, if_true, if_false, Bool.false_eq_true, Bool.not_true, Bool.not_false, g1, g2]; done) | omega) only [go_sem, wrap_id, g1, g2, eq_self, if_true, if_false, Bool.false_eq_true]
     try simp -implicitDefEqProofs (disch := first | decide | assumption | omega) only [go_sem, wrap_id]
     refine CallA.pure (sIn_ok _ _ _ _) ?_
     try simp -implicitDefEqProofs (disch := first | decide | assumption | (simp (disch := decide) only [slotOf_zero, slotOf_succ, Option.map_some, puts_same, puts_ne, gv_bool, gv_undef, tt, tf, ft, ff, eq_self, if_true, if_false, Bool.false_eq_true, Bool.not_true, Bool.not_false, g1, g2]; done) | omega) only [go_sem, wrap_id, g1, g2, eq_self, if_true, if_false, Bool.false_eq_true]
     refine hK _ _ ?_
     clear hK K
     refine den_stop ?_
     refine ⟨?_, rfl⟩
     first | (simp (disch := decide) only [go_sem, g1, g2, eq_self, Bool.true_and, Bool.and_true, Bool.false_and, Bool.and_false, Bool.true_or, Bool.or_true, Bool.false_or, Bool.or_false, if_true, if_false, Bool.false_eq_true]; done) | simp [HasL, sel, puts_at, g1, g2]
    ·try simp -implicitDefEqProofs (disch := first | decide | assumption | (simp (disch := decide) only [slotOf_zero, slotOf_succ, Option.map_some, puts_same, puts_ne, gv_bool, gv_undef, tt, tf, ft, ff, eq_self, if_true, if_false, Bool.false_eq_true, Bool.not_true, Bool.not_false, g1, g2]; done) | omega) only [go_sem, wrap_id, g1, g2, eq_self, if_true, if_false, Bool.false_eq_true]
     refine hK _ _ ?_
     clear hK K
     refine den_stop ?_
     refine ⟨?_, rfl⟩
     first | (simp (disch := decide) only [go_sem, g1, g2, eq_self, Bool.true_and, Bool.and_true, Bool.false_and, Bool.and_false, Bool.true_or, Bool.or_true, Bool.false_or, Bool.or_false, if_true, if_false, Bool.false_eq_true]; done) | simp [HasL, sel, puts_at, g1, g2]
   ·try simp -implicitDefEqProofs (disch := first | decide | assumption | (simp (disch := decide) only [slotOf_zero, slotOf_succ, Option.map_some, puts_same, puts_ne, gv_bool, gv_undef, tt, tf, ft, ff, eq_self, if_true, if_false, Bool.false_eq_true, Bool.not_true, Bool.not_false, g1]; done) | omega) only [go_sem, wrap_id, g1, eq_self, if_true, if_false, Bool.false_eq_true]
    try simp -implicitDefEqProofs (disch := first | decide | assumption | (simp (disch := decide) only [slotOf_zero, slotOf_succ, Option.map_some, puts_same, puts_ne, gv_bool, gv_undef, tt, tf, ft, ff, eq_self, if_true, if_false, Bool.false_eq_true, Bool.not_true, Bool.not_false, g1]; done) | omega) only [go_sem, wrap_id, g1, eq_self, if_true, if_false, Bool.false_eq_true]
    refine hK _ _ ?_
    clear hK K
    refine den_stop ?_
    refine ⟨?_, rfl⟩
    first | (simp (disch := decide) only [go_sem, g1, eq_self, Bool.true_and, Bool.and_true, Bool.false_and, Bool.and_false, Bool.true_or, Bool.or_true, Bool.false_or, Bool.or_false, if_true, if_false, Bool.false_eq_true]; done) | simp [HasL, sel, puts_at, g1]
  intro en3
  simp (disch := decide) only [go_sem]
  refine den_cond rfl (fun c1 => ?_) (fun c1 => ?_)
  ·try simp only [decide_eq_true_eq, decide_eq_false_iff_not, beq_iff_eq, beq_eq_false_iff_ne, bne_iff_ne, ne_eq, Bool.not_eq_true', Bool.not_eq_false', Bool.and_eq_true, Bool.or_eq_true, bne_eq_false_iff_eq, Bool.or_eq_false_iff, Bool.and_eq_false_iff] at c1
   refine den_seq ?_
   refine den_region TTok ?_
   intro K hK
   simp -implicitDefEqProofs (disch := first | decide | assumption | omega) only [go_sem, wrap_id]
   refine hK _ _ ?_
   clear hK K
   refine den_ret ?_
   simp (disch := decide) only [resP_1, puts_same, puts_ne]
   exact ⟨vint (by rw [pgC, if_pos c0, if_neg (by rintro ⟨h1, h2, h3⟩; rw [← hln] at h2; simp [h1, h2, h3] at c1)]), eB⟩
  ·try simp only [decide_eq_true_eq, decide_eq_false_iff_not, beq_iff_eq, beq_eq_false_iff_ne, bne_iff_ne, ne_eq, Bool.not_eq_true', Bool.not_eq_false', Bool.and_eq_true, Bool.or_eq_true, bne_eq_false_iff_eq, Bool.or_eq_false_iff, Bool.and_eq_false_iff] at c1
   refine den_skip ?_
   refine den_blk ?_
   refine den_seq ?_
   refine den_region TTok ?_
   intro K hK
   simp -implicitDefEqProofs (disch := first | decide | assumption | omega) only [go_sem, wrap_id]
   refine hK _ _ ?_
   clear hK K
   refine den_ret ?_
   simp (disch := decide) only [resP_1, puts_same, puts_ne]
   exact ⟨vint (by rw [pgC, if_pos c0, if_pos (by rw [← hln]; simpa [and_assoc] using c1)]), eB⟩
end Go.Proofs.Ytjjjgllbocgkbaa

namespace Go.Proofs.Ytjjjgllbocgkbaa
open Go
theorem OS.vl {α : Type} {e : TypeId} {E : Heap → Value → α → List Nat → Prop} {h : Heap} {v : Value} {xs : List α} {fp : List Nat} (ho : OS e E h v xs fp) : ∃ A c, v = .slice A xs.length c := by
 rcases ho with ⟨rfl, rfl, _⟩ | ⟨b, c, cur, fps, rfl, r⟩
 ·exact ⟨_, _, rfl⟩
 ·exact ⟨_, _, r.val⟩
end Go.Proofs.Ytjjjgllbocgkbaa

namespace Go.Proofs.Ytjjjgllbocgkbaa
open Go
/-- A couple, as data. -/
structure Cp where
 p : Int
 d : Int
 e : Int
 i : List (List Int)
 j : List (List Int)
 k : List (List Int)
def RP (h : Heap) (v : Value) (X : Cp) : Prop := ∃ vi vj vk, v = .agg #[.int .i64 X.p, .int .i64 X.d, .int .i64 X.e, vi, vj, vk] ∧ R2 h vi X.i ∧ R2 h vj X.j ∧ R2 h vk X.k
instance : Mono RP := ⟨fun hp ⟨vd, vm, vl, e, h1, h2, h3⟩ => ⟨vd, vm, vl, e, h1.pres hp, h2.pres hp, h3.pres hp⟩⟩
theorem RP.pres {h h' : Heap} {v : Value} {X : Cp} (hv : RP h v X) (hp : HPres h h') : RP h' v X := Mono.mono hp hv

structure HMP (X : Cp) : Prop where
 i : HM2 X.i
 j : HM2 X.j
 k : HM2 X.k
open Go.ChangeShapes Go.WideShapes Go.ChangeAt Go.RowKit Go.Joins
end Go.Proofs.Ytjjjgllbocgkbaa

namespace Go.Proofs.Ytjjjgllbocgkbaa
open Go
structure ArOk (X Y : Cx) (f g : List (List (List Int))) : Prop where
 cX : IsC X
 cY : IsC Y
 cf : IsFam X Y f 0
 cg : IsFam X Y g 0
 p : X.p = Y.p
 l : X.dims.length = Y.dims.length
end Go.Proofs.Ytjjjgllbocgkbaa

namespace Go.Proofs.Ytjjjgllbocgkbaa
open Go
def apV (M : List (List Int)) (v : Nat → Int) : Nat → Int := fun j => sm M.length fun i => v i * g2 M i j
section
variable {p : Int} {M N : List (List Int)}
end
abbrev TB (p : Int) (w : Nat) (M : List (List Int)) : Prop := ∀ r ∈ M, r.length = w ∧ Bnd p r
theorem TB.tbl {p : Int} {w : Nat} {M : List (List Int)} (h : TB p w M) : Tbl p ((List.replicate w (0 : Int)).length : Int) M := fun r hr => ⟨by rw [List.length_replicate]; exact congrArg Nat.cast (h r hr).1, (h r hr).2⟩
section
variable {p : Int} {w : Nat} {B : List (List Int)} {l : Nat → Nat}
end
structure IsCp (C : Cp) : Prop where
 p : isP C.p = true
 d : 0 ≤ C.d ∧ C.d ≤ 24
 e : 0 ≤ C.e ∧ C.e ≤ 24
 il : (C.i.length : Int) = C.d
 jl : (C.j.length : Int) = C.d
 kl : (C.k.length : Int) = C.e
 ir : TB C.p C.d.toNat C.i
 jr : TB C.p C.e.toNat C.j
 kr : TB C.p C.d.toNat C.k
/-- What of exactness is handed on. -/
structure Ex3 (C : Cp) : Prop where
 c : IsCp C
 a : ∀ v : Nat → Int, (∀ j, Cg C.p (apV C.i v j) 0) → (∀ k, C.d.toNat ≤ k → Cg C.p (v k) 0) → Sp C.p C.k v
 b : ∀ i, i < C.i.length → ∀ j, Cg C.p (apV C.j (g2 C.i i) j) 0
 k : ∀ i, i < C.j.length → ∀ j, Cg C.p (apV C.k (g2 C.j i) j) 0
section
variable {C : Cp}
end
end Go.Proofs.Ytjjjgllbocgkbaa

namespace Go.Proofs.Ytjjjgllbocgkbaa
open Go
section
variable {C : Cp}
end
end Go.Proofs.Ytjjjgllbocgkbaa

namespace Go.Proofs.Ytjjjgllbocgkbaa
open Go
section
variable {o : Oper} {l m : List Oper} {j : Nat}
end
end Go.Proofs.Ytjjjgllbocgkbaa

namespace Go.Proofs.Ytjjjgllbocgkbaa
open Go
/-- A row that is read, from some heap on. -/
def ER (h0 : Heap) (_ : Heap) (u : Value) (x : List Int) (fp : List Nat) : Prop := fp = [] ∧ (u.oneCell' = true ∧ u.cells = #[u]) ∧ ∀ h' : Heap, Ext h0 h' → R1 h' u x
instance {h0 : Heap} : Own (ER h0) := ⟨fun _ h => h, (fun h b hb => by rw [h.1] at hb; cases hb), (fun h => h.2.1)⟩
abbrev O2R (h0 : Heap) : Heap → Value → List (List Int) → List Nat → Prop := OS 22 (ER h0)
theorem O2R.nil {h0 : Heap} {h : Heap} {v : Value} {fp : List Nat} (ho : O2 h v [] fp) : O2R h0 h v [] fp := by
 rcases ho with ⟨h1, _, h3⟩ | ⟨b, c, cur, fps, rfl, r⟩
 ·exact .inl ⟨h1, rfl, h3⟩
 ·exact .inr ⟨b, c, cur, fps, rfl, ⟨r.val, r.box, r.size, r.max, r.le, r.len, fun j hj => by simp at hj⟩⟩
theorem O2R.rd {h0 : Heap} {h : Heap} {v : Value} {xs : List (List Int)} {fp : List Nat} (ho : O2R h0 h v xs fp) (e : Ext h0 h) : R2 h v xs := by
 rcases ho with ⟨rfl, rfl, _⟩ | ⟨b, c, cur, fps, _, r⟩
 ·exact ⟨none, 0, rfl, .inr rfl, by simp, by omega, fun j hj => by simp at hj⟩
 ·refine ⟨some ⟨b, 0, none⟩, c, r.val, .inl rfl, r.le, r.max, fun j hj => ?_⟩
  obtain ⟨u, f, h1, _, h4⟩ := r.el j hj
  refine ⟨u, ?_, h4.2.2 h e⟩
  rw [r.val]
  simp only [sA]
  rw [addr_add, r.box.cell, Nat.zero_add, h1]
theorem ER.one {h0 H : Heap} {u : Value} {x : List Int} (hu : R1 h0 u x) : ER h0 H u x [] := ⟨rfl, ⟨RdS.one hu, RdS.cells hu⟩, fun h' e => hu.pres e.pres⟩
theorem rowV_extR {α : Type} {E : Heap → Value → α → Prop} {h h' : Heap} {v : Value} {xs : List α} (hv : RdS E h v xs) (e : Ext h h') {j : Nat} (hj : j < xs.length) : rowV h' v j = rowV h v j := by
 obtain ⟨A, c, rfl, _, _, _, hr⟩ := hv
 obtain ⟨u, h1, _⟩ := hr j hj
 unfold rowV
 rw [h1, Ext.pres e _ _ h1]
theorem ER.row {h0 h H : Heap} {v : Value} {xs : List (List Int)} (hv : R2 h0 v xs) (e : Ext h0 h) {j : Nat} (hj : j < xs.length) : ER h0 H (rowV h v j) (xs.getD j default) [] := by
 rw [rowV_extR hv e hj]
 exact ER.one (RdS.rowN hv j hj)
theorem getD_elemR {α : Type} [Inhabited α] {xs : List α} {j : Nat} (hj : j < xs.length) : xs[j] = xs.getD j default := by
 rw [List.getD_eq_getElem?_getD, List.getElem?_eq_getElem hj]; rfl
end Go.Proofs.Ytjjjgllbocgkbaa
