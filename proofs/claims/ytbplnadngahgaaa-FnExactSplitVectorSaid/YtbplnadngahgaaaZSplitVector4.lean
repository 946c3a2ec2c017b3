/-
  What the statement FnExactSplitVector uses of the walks, part 4.
  Conditions: each theorem's own.
-/
import Derived.Test.YtbplnadngahgaaaG16
import Derived.Test.YtbplnadngahgaaaG17
import Derived.Test.YtbplnadngahgaaaG14
import Derived.Test.YtbplnadngahgaaaG13
import Derived.Test.YtbplnadngahgaaaG15
import Derived.Test.YtbplnadngahgaaaG18
import Derived.Test.YtbplnadngahgaaaG19
import Derived.Test.YtbplnadngahgaaaG20
import Derived.Test.YtbplnadngahgaaaZSplitVector1
import Derived.Test.YtbplnadngahgaaaZSplitVector2
import Derived.Test.YtbplnadngahgaaaZSplitVector3
set_option linter.unusedVariables false
set_option linter.unusedSimpArgs false
namespace Go.Proofs.Ytbplnadngahgaaa
open Go
def addRow (p k : Int) (a b : List Int) : List Int := (List.range a.length).map fun q : Nat => (a.getD q 0 + k * b.getD q 0) % p
theorem addRow_len (p k : Int) (a b : List Int) : (addRow p k a b).length = a.length := by simp [addRow]
theorem addRow_get (p k : Int) (a b : List Int) {i : Nat} (h : i < a.length) : (addRow p k a b).getD i 0 = (a.getD i 0 + k * b.getD i 0) % p := by
  rw [addRow, List.getD_eq_getElem?_getD, List.getElem?_eq_getElem (by simpa using h)]; simp
theorem addRow_bnd {p k : Int} (hp : 0 < p) (a b : List Int) : Bnd p (addRow p k a b) := fun x hx => by
  obtain ⟨q, _, rfl⟩ := List.mem_map.1 hx
  exact ⟨Int.emod_nonneg _ (by omega), Int.emod_lt_of_pos _ hp⟩
theorem addRow_step {p k : Int} {a b : List Int} {i : Nat} (h : i < a.length) (h0 : 0 ≤ a.getD i 0 + k * b.getD i 0) : (mix (addRow p k a b) a i).set i (Int.tmod ((mix (addRow p k a b) a i).getD i 0 + k * b.getD i 0) p) = mix (addRow p k a b) a (i + 1) := by
  rw [mix_get _ _ _ _ (addRow_len p k a b) h, Int.tmod_eq_emod_of_nonneg h0, ← addRow_get p k a b h, mix_set _ _ _ _ (addRow_len p k a b) h]
structure SumOk (p : Int) (f g : List (List (List Int))) : Prop where
  len : f.length = g.length ∧ f.length ≤ 6
  rows : ∀ n, n < f.length → (f.getD n default).length = (g.getD n default).length ∧ (f.getD n default).length ≤ 8
  row : ∀ n i, n < f.length → i < (f.getD n default).length → ((f.getD n default).getD i default).length = ((g.getD n default).getD i default).length ∧ ((f.getD n default).getD i default).length ≤ 8 ∧ Bnd p ((f.getD n default).getD i default) ∧ Bnd p ((g.getD n default).getD i default)
theorem mul42 {k y p : Int} (hk : -6 ≤ k ∧ k ≤ 6) (hy : 0 ≤ y ∧ y < p) (hp : p ≤ 7) : -36 ≤ k * y ∧ k * y ≤ 36 := by
  have h1 : k * y ≤ 6 * y := Int.mul_le_mul_of_nonneg_right hk.2 hy.1
  have h2 : (-6) * y ≤ k * y := Int.mul_le_mul_of_nonneg_right hk.1 hy.1
  omega

set_option maxRecDepth 100000 in
theorem iTog_ok (vv vw : Value) (p : Int) (v : List Int) (w : List Int) (k : Int) (h : Heap) (rv : R1 h vv v) (rw : R1 h vw w) (hp : 0 < p ∧ p ≤ 7) (hl : v.length = w.length ∧ v.length ≤ 8) (hv : Bnd p v) (hw : Bnd p w) (hk : 0 ≤ k ∧ k ≤ 6) : CallA Try.prog 63 #[.int .i64 p, vv, vw, .int .i64 k] h fun v' h' => ∃ w0 f0, v' = w0 ∧ O1 h' w0 (addRow p k v w) f0 ∧ Fresh h.size f0 ∧ Ext h h' := by
  have hlev := RdS.le rv
  have hlew := RdS.le rw
  refine callA_intro TTok (args := [_, _, _, _]) Try.func63 (by kernel_rfl) rfl 36 rfl (by simp) [.tmp 8] rfl ?_
  simp only [idxs, Nat.reduceAdd]
  refine den_seq ?_
  refine den_region TTok ?_
  intro K hK
  simp -implicitDefEqProofs (disch := first | decide | assumption | omega) only [go_sem, RdS.len rv sl22, RdS.idx rv sl22, R1.intB rv (HPres.refl _), RdS.cells rv, RdS.len rw sl22, RdS.idx rw sl22, R1.intB rw (HPres.refl _), RdS.cells rw, wrap_id]
  refine hK _ _ ?_
  clear hK K
  refine den_seq ?_
  refine den_region TTok ?_
  intro K hK
  simp -implicitDefEqProofs (disch := first | decide | assumption | omega) only [go_sem, RdS.len rv sl22, RdS.idx rv sl22, R1.intB rv (HPres.refl _), RdS.cells rv, RdS.len rw sl22, RdS.idx rw sl22, R1.intB rw (HPres.refl _), RdS.cells rw, wrap_id]
  try simp -implicitDefEqProofs (disch := first | decide | assumption | omega) only [go_sem, RdS.len rv sl22, RdS.idx rv sl22, R1.intB rv (HPres.refl _), RdS.cells rv, RdS.len rw sl22, RdS.idx rw sl22, R1.intB rw (HPres.refl _), RdS.cells rw, wrap_id]
  refine CallA.mono (clone1_ok _ v _ rv (by omega)) ?_
  intro vw1_1_0 h1_1
  rintro ⟨zvw1_1_0, fw1_1_0, rfl, how1_1_0, hfw1_1_0, e1_1⟩
  have := Ext.size e1_1
  have eB := e1_1
  have hlhow1_1_0 := OS.lt how1_1_0
  try simp -implicitDefEqProofs (disch := first | decide | assumption | omega) only [go_sem, RdS.len rv sl22, RdS.idx rv sl22, R1.intB rv (Ext.pres eB), RdS.cells rv, RdS.len rw sl22, RdS.idx rw sl22, R1.intB rw (Ext.pres eB), RdS.cells rw, RdS.len (OS.rd how1_1_0) sl22, RdS.idx (OS.rd how1_1_0) sl22, R1.intN (OS.rd how1_1_0), RdS.cells (OS.rd how1_1_0), wrap_id]
  refine hK _ _ ?_
  clear hK K
  refine den_seq ?_
  refine den_seq ?_
  refine den_region TTok ?_
  intro K hK
  simp -implicitDefEqProofs (disch := first | decide | assumption | omega) only [go_sem, RdS.len rv sl22, RdS.idx rv sl22, R1.intB rv (Ext.pres eB), RdS.cells rv, RdS.len rw sl22, RdS.idx rw sl22, R1.intB rw (Ext.pres eB), RdS.cells rw, RdS.len (OS.rd how1_1_0) sl22, RdS.idx (OS.rd how1_1_0) sl22, R1.intN (OS.rd how1_1_0), RdS.cells (OS.rd how1_1_0), wrap_id]
  refine hK _ _ ?_
  clear hK K
  refine den_block ?_
  refine den_sel [16, 0, 3, 9, 14, 15] ?_
  intro env_1
  simp only [go_sem]
  refine den_loopS (σ := Nat) (fun st_ => [(16, .int .i64 (st_ : Int))]) (fun st_ H => (st_ ≤ w.length) ∧ (O1 H vw1_1_0 (mix (addRow p k v w) v st_) fw1_1_0) ∧ (Chg fw1_1_0 h1_1 H)) (fun st_ => w.length - st_) 0 ?_ ?_
  · exact ⟨by first | (simp; done) | (dsimp only; omega) | (simp; omega), by rw [mix_zero]; exact how1_1_0, Chg.refl _ _⟩
  · rintro i h4 ee3 ⟨hi0, hO, cL2⟩
    have := cL2.size
    replace eB := Ext.then eB cL2 (ge_of hfw1_1_0 (by omega))
    have sbhO : Sub fw1_1_0 h1_1.size fw1_1_0 := Sub.refl
    have hfhO := hfw1_1_0
    have hlhO := OS.lt hO
    simp only [List.cons_append, List.nil_append]
    refine den_seq ?_
    refine den_region TTok ?_
    intro K hK
    simp -implicitDefEqProofs (disch := first | decide | assumption | omega) only [go_sem, RdS.len rv sl22, RdS.idx rv sl22, R1.intB rv (Ext.pres eB), RdS.cells rv, RdS.len rw sl22, RdS.idx rw sl22, R1.intB rw (Ext.pres eB), RdS.cells rw, RdS.len (OS.rd hO) sl22, RdS.idx (OS.rd hO) sl22, R1.intN (OS.rd hO), RdS.cells (OS.rd hO), wrap_id]
    refine hK _ _ ?_
    clear hK K
    refine den_seq ?_
    refine den_cond rfl (fun c0 => ?_) (fun c0 => ?_)
    · try simp only [decide_eq_true_eq, decide_eq_false_iff_not, beq_iff_eq, beq_eq_false_iff_ne, bne_iff_ne, ne_eq, Bool.not_eq_true', Bool.not_eq_false', Bool.and_eq_true, Bool.or_eq_true, bne_eq_false_iff_eq] at c0
      refine den_skip ?_
      refine den_seq ?_
      refine den_block ?_
      refine den_seq ?_
      refine den_region TTok ?_
      intro K hK
      simp -implicitDefEqProofs (disch := first | decide | assumption | omega) only [go_sem, ld2, RdS.len rv sl22, RdS.idx rv sl22, R1.intB rv (Ext.pres eB), RdS.cells rv, RdS.len rw sl22, RdS.idx rw sl22, R1.intB rw (Ext.pres eB), RdS.cells rw, RdS.len (OS.rd hO) sl22, RdS.idx (OS.rd hO) sl22, R1.intN (OS.rd hO), RdS.cells (OS.rd hO), wrap_id]
      refine hK _ _ ?_
      clear hK K
      have hml := mix_len (addRow p k v w) v i (addRow_len p k v w)
      have hxu := hv.at (k := i) (by omega)
      have hxw := hw.at (k := i) (by omega)
      have hmg := mix_get (addRow p k v w) v i 0 (addRow_len p k v w) (by omega)
      have hky := mul42 (k := k) (by omega) hxw hp.2
      have hk0 : 0 ≤ k * w.getD i 0 := Int.mul_nonneg hk.1 hxw.1
      refine den_region TTok ?_
      intro K hK
      simp -implicitDefEqProofs (disch := first | decide | assumption | omega) only [go_sem, ld2, RdS.len rv sl22, RdS.idx rv sl22, R1.intB rv (Ext.pres eB), RdS.cells rv, RdS.len rw sl22, RdS.idx rw sl22, R1.intB rw (Ext.pres eB), RdS.cells rw, RdS.len (OS.rd hO) sl22, RdS.idx (OS.rd hO) sl22, R1.intN (OS.rd hO), RdS.cells (OS.rd hO), wrap_id]
      refine op_store1 (j := i) st2 hO hfhO.nodup (by first | omega | (simp; omega)) rfl rfl ?_
      intro h5_13 ho5_13 c5_13
      have hsz5_13 := c5_13.size
      have := c5_13.size
      replace eB := Ext.then eB c5_13 (ge_of hfhO (by omega))
      replace cL2 := Chg.step cL2 c5_13 sbhO
      have hlho5_13 := OS.lt ho5_13
      have hlenho5_13 : ((mix (addRow p k v w) v i).set i (Int.tmod (((mix (addRow p k v w) v i).getD i 0) + (k * ((w).getD i 0))) p) : List Int).length = (mix (addRow p k v w) v i : List Int).length := List.length_set
      try simp -implicitDefEqProofs (disch := first | decide | assumption | omega) only [go_sem, RdS.len rv sl22, RdS.idx rv sl22, R1.intB rv (Ext.pres eB), RdS.cells rv, RdS.len rw sl22, RdS.idx rw sl22, R1.intB rw (Ext.pres eB), RdS.cells rw, RdS.len (OS.rd ho5_13) sl22, RdS.idx (OS.rd ho5_13) sl22, R1.intN (OS.rd ho5_13), RdS.cells (OS.rd ho5_13), wrap_id]
      refine hK _ _ ?_
      clear hK K
      refine den_blk ?_
      refine den_region TTok ?_
      intro K hK
      simp -implicitDefEqProofs (disch := first | decide | assumption | omega) only [go_sem, RdS.len rv sl22, RdS.idx rv sl22, R1.intB rv (Ext.pres eB), RdS.cells rv, RdS.len rw sl22, RdS.idx rw sl22, R1.intB rw (Ext.pres eB), RdS.cells rw, RdS.len (OS.rd ho5_13) sl22, RdS.idx (OS.rd ho5_13) sl22, R1.intN (OS.rd ho5_13), RdS.cells (OS.rd ho5_13), wrap_id]
      refine hK _ _ ?_
      clear hK K
      refine den_stop ?_
      rw [addRow_step (by omega) (by omega)] at ho5_13
      exact ⟨i + 1, by simp [HasL, puts_at], ⟨by first | omega | (dsimp only; omega), ho5_13, cL2⟩, by first | omega | (dsimp only; omega)⟩
    · try simp only [decide_eq_true_eq, decide_eq_false_iff_not, beq_iff_eq, beq_eq_false_iff_ne, bne_iff_ne, ne_eq, Bool.not_eq_true', Bool.not_eq_false', Bool.and_eq_true, Bool.or_eq_true, bne_eq_false_iff_eq] at c0
      refine den_exit ?_
      refine denX_code ?_
      refine denX_stop ?_
      refine denX_hit ?_
      refine den_seq ?_
      refine den_region TTok ?_
      intro K hK
      simp -implicitDefEqProofs (disch := first | decide | assumption | omega) only [go_sem, RdS.len rv sl22, RdS.idx rv sl22, R1.intB rv (Ext.pres eB), RdS.cells rv, RdS.len rw sl22, RdS.idx rw sl22, R1.intB rw (Ext.pres eB), RdS.cells rw, RdS.len (OS.rd hO) sl22, RdS.idx (OS.rd hO) sl22, R1.intN (OS.rd hO), RdS.cells (OS.rd hO), wrap_id]
      refine hK _ _ ?_
      clear hK K
      refine den_ret ?_
      simp (disch := decide) only [resP_1, puts_same, puts_ne]
      rw [mix_end _ _ _ (addRow_len p k v w) (by omega)] at hO
      exact ⟨_, _, rfl, hO, hfhO.mono (by omega), eB⟩
end Go.Proofs.Ytbplnadngahgaaa

namespace Go.Proofs.Ytbplnadngahgaaa
open Go
/-- A row that is one's own, or one that lies in other blocks. -/
def EM (h0 : Heap) (fE : List Nat) (h : Heap) (u : Value) (x : List Int) (fp : List Nat) : Prop := O1 h u x fp ∨ ESt h0 fE h u x fp
instance {h0 : Heap} {fE : List Nat} : Own (EM h0 fE) := ⟨fun hl h => h.elim (fun a => .inl (Own.loc hl a)) .inr, (fun h => h.elim Own.lt fun a b hb => by rw [a.1] at hb; cases hb), (fun h => h.elim Own.one fun a => a.2.1)⟩
abbrev O2M (h0 : Heap) (fE : List Nat) : Heap → Value → List (List Int) → List Nat → Prop := OS 22 (EM h0 fE)
theorem O2M.nil {h0 : Heap} {fE : List Nat} {h : Heap} {v : Value} {fp : List Nat} (ho : O2 h v [] fp) : O2M h0 fE h v [] fp := by
  rcases ho with ⟨h1, _, h3⟩ | ⟨b, c, cur, fps, rfl, r⟩
  · exact .inl ⟨h1, rfl, h3⟩
  · exact .inr ⟨b, c, cur, fps, rfl, ⟨r.val, r.box, r.size, r.max, r.le, r.len, fun j hj => by simp at hj⟩⟩
theorem O2M.rd {h0 : Heap} {fE : List Nat} {h : Heap} {v : Value} {xs : List (List Int)} {fp : List Nat} (ho : O2M h0 fE h v xs fp) (hag : Agr fE h0 h) : R2 h v xs := by
  rcases ho with ⟨rfl, rfl, _⟩ | ⟨b, c, cur, fps, _, r⟩
  · exact ⟨none, 0, rfl, .inr rfl, by simp, by omega, fun j hj => by simp at hj⟩
  · refine ⟨some ⟨b, 0, none⟩, c, r.val, .inl rfl, r.le, r.max, fun j hj => ?_⟩
    obtain ⟨u, f, h1, _, h4⟩ := r.el j hj
    refine ⟨u, ?_, h4.elim (fun a => OS.rd a) fun a => a.2.2 h hag⟩
    rw [r.val]
    simp only [sA]
    rw [addr_add, r.box.cell, Nat.zero_add, h1]
structure RkOk (X Y : Cx) (f : List (List (List Int))) (n : Int) : Prop where
  cX : IsC X
  cY : IsC Y
  cf : IsFam X Y f 0
  p : X.p = Y.p
  n0 : 0 ≤ n
  n1 : n ≤ (X.dims.length : Int) - 1
end Go.Proofs.Ytbplnadngahgaaa

namespace Go.Proofs.Ytbplnadngahgaaa
open Go
structure ArOk (X Y : Cx) (f g : List (List (List Int))) : Prop where
  cX : IsC X
  cY : IsC Y
  cf : IsFam X Y f 0
  cg : IsFam X Y g 0
  p : X.p = Y.p
  l : X.dims.length = Y.dims.length
end Go.Proofs.Ytbplnadngahgaaa

namespace Go.Proofs.Ytbplnadngahgaaa
open Go
noncomputable def spW (X : Cx) (n : Int) (v : List Int) : List Int := restP X.p (cycP X n) v
noncomputable def spC (X : Cx) (n : Int) (v : List Int) : List Int := addRow X.p (X.p - 1) v (spW X n v)
noncomputable def spH (X : Cx) (n : Int) (v : List Int) : List Int := restP X.p (bndP X n) (spC X n v)
noncomputable def spB (X : Cx) (n : Int) (v : List Int) : List Int := addRow X.p (X.p - 1) (spC X n v) (spH X n v)
structure SpOk (X : Cx) (n : Int) (v : List Int) : Prop where
  cX : IsC X
  n0 : 0 ≤ n
  n1 : n ≤ (X.dims.length : Int) - 1
  len : v.length = (dimP X n).toNat
  bnd : Bnd X.p v
theorem SpOk.facts {X : Cx} {n : Int} {v : List Int} (h : SpOk X n v) : (v.length ≤ 8 ∧ (spW X n v).length = v.length ∧ (spC X n v).length = v.length ∧ (spH X n v).length = v.length ∧ (spB X n v).length = v.length) ∧ Bnd X.p (spW X n v) ∧ Bnd X.p (spC X n v) ∧ Bnd X.p (spH X n v) := by
  have hp := isP_bnd h.cX.p
  have hd := dimP_bnd h.cX n
  have l := h.len
  have lw : (spW X n v).length = v.length := restP_len _ _ _
  have lc : (spC X n v).length = v.length := addRow_len _ _ _ _
  have lh : (spH X n v).length = v.length := (restP_len _ _ _).trans lc
  have lb : (spB X n v).length = v.length := (addRow_len _ _ _ _).trans lc
  exact ⟨⟨by omega, lw, lc, lh, lb⟩, restP_bnd hp.1 h.bnd, addRow_bnd hp.1 _ _, restP_bnd hp.1 (addRow_bnd hp.1 _ _)⟩
theorem subRow {p : Int} {a b : List Int} : ((List.range a.length).map fun q : Nat => (a.getD q 0 - b.getD q 0) % p) = addRow p (p - 1) a b := by
  apply List.map_congr_left
  intro q _
  rw [Int.sub_mul, Int.one_mul, show a.getD q 0 + (p * b.getD q 0 - b.getD q 0) = a.getD q 0 - b.getD q 0 + p * b.getD q 0 by omega, Int.add_mul_emod_self_left]
noncomputable def spC_ (X : Cx) (n : Int) (v : List Int) : Int := cadd (degC X n) 2 (!(isRow X.p (X.dims.getD n.toNat 0) v))
noncomputable def spD (X : Cx) (n : Int) (v : List Int) : Int := cadd (degC X n) 2 (!(isRow X.p (dimP X n) v))
theorem spD_eq (X : Cx) (n : Int) (v : List Int) : spC_ X n v = spD X n v := by
  unfold spC_ spD
  by_cases h : degC X n = 0
  · obtain ⟨_, h0, h1⟩ := degC_0 h
    rw [dimP, if_pos (in3_iff.2 ⟨h0, h1⟩)]
  · rw [cadd_n h, cadd_n h]
noncomputable def spR (X : Cx) (n : Int) (v : List Int) : List (List Int) × Int := if spD X n v = 0 then ([spB X n v, spH X n v, spW X n v], 0) else ([], spD X n v)
theorem spD_0 {X : Cx} {n : Int} {v : List Int} (h : spD X n v = 0) : SpOk X n v := by
  obtain ⟨h1, h2⟩ := (cadd_0 (by decide)).1 h
  obtain ⟨hC, h0, h1⟩ := degC_0 h1
  simp only [Bool.not_eq_false', isRow_iff] at h2
  have := dimP_bnd hC n
  exact ⟨hC, h0, h1, by omega, h2.2⟩
theorem cnt_sp (X : Cx) (n : Int) (v : List Int) : 0 ≤ cntL cnt1 (spR X n v).1 ∧ cntL cnt1 (spR X n v).1 ≤ 24 := by
  unfold spR
  split
  · rename_i h
    have f := (spD_0 h).facts.1
    simp only [cntL, cnt1]
    omega
  · exact ⟨Int.le_refl _, by show (0 : Int) ≤ _; decide⟩

theorem Apart.app_l {f1 f2 fp : List Nat} (h1 : Apart f1 fp) (h2 : Apart f2 fp) : Apart (f1 ++ f2) fp := fun b hb => (List.mem_append.1 hb).elim (h1 b) (h2 b)
theorem one_new {f : List Nat} {n m : Nat} (l : ∀ b ∈ f, b < n) (h : n ≤ m) : Apart f [m] := fun b hb hm => by
  have := l b hb
  simp at hm; omega

set_option maxRecDepth 100000 in
theorem sMinus_ok (va vb : Value) (p : Int) (a : List Int) (b : List Int) (h : Heap) (ra : R1 h va a) (rb : R1 h vb b) (hp : 0 < p ∧ p ≤ 7) (hl : a.length ≤ b.length ∧ a.length ≤ 1000) (ha : Bnd p a) (hb : Bnd p b) : CallA Try.prog 129 #[.int .i64 p, va, vb] h fun v' h' => ∃ w0 f0, v' = w0 ∧ O1 h' w0 (addRow p (p - 1) a b) f0 ∧ Fresh h.size f0 ∧ Ext h h' := by
  have hlea := RdS.le ra
  have hleb := RdS.le rb
  refine callA_intro TTok (args := [_, _, _]) Try.func129 (by kernel_rfl) rfl 31 rfl (by simp) [.tmp 6] rfl ?_
  simp only [idxs, Nat.reduceAdd]
  refine den_seq ?_
  refine den_region TTok ?_
  intro K hK
  simp -implicitDefEqProofs (disch := first | decide | assumption | omega) only [go_sem, RdS.len ra sl22, RdS.idx ra sl22, R1.intB ra (HPres.refl _), RdS.cells ra, RdS.len rb sl22, RdS.idx rb sl22, R1.intB rb (HPres.refl _), RdS.cells rb, wrap_id]
  refine hK _ _ ?_
  clear hK K
  refine den_seq ?_
  refine den_region TTok ?_
  intro K hK
  simp -implicitDefEqProofs (disch := first | decide | assumption | omega) only [go_sem, RdS.len ra sl22, RdS.idx ra sl22, R1.intB ra (HPres.refl _), RdS.cells ra, RdS.len rb sl22, RdS.idx rb sl22, R1.intB rb (HPres.refl _), RdS.cells rb, wrap_id]
  refine op_bs0 sz22 OI ?_
  intro v1_0 h1_0 ho1_0 e1_0
  have := Ext.size e1_0
  have eB := e1_0
  have hfho1_0 : Fresh h.size [h.size] := Fresh.one _
  have hlho1_0 := OS.lt ho1_0
  try simp -implicitDefEqProofs (disch := first | decide | assumption | omega) only [go_sem, RdS.len ra sl22, RdS.idx ra sl22, R1.intB ra (Ext.pres eB), RdS.cells ra, RdS.len rb sl22, RdS.idx rb sl22, R1.intB rb (Ext.pres eB), RdS.cells rb, RdS.len (OS.rd ho1_0) sl22, RdS.idx (OS.rd ho1_0) sl22, R1.intN (OS.rd ho1_0), RdS.cells (OS.rd ho1_0), wrap_id]
  refine hK _ _ ?_
  clear hK K
  refine den_seq ?_
  refine den_seq ?_
  refine den_region TTok ?_
  intro K hK
  simp -implicitDefEqProofs (disch := first | decide | assumption | omega) only [go_sem, RdS.len ra sl22, RdS.idx ra sl22, R1.intB ra (Ext.pres eB), RdS.cells ra, RdS.len rb sl22, RdS.idx rb sl22, R1.intB rb (Ext.pres eB), RdS.cells rb, RdS.len (OS.rd ho1_0) sl22, RdS.idx (OS.rd ho1_0) sl22, R1.intN (OS.rd ho1_0), RdS.cells (OS.rd ho1_0), wrap_id]
  refine hK _ _ ?_
  clear hK K
  refine den_block ?_
  refine den_sel [7, 8, 0, 1, 2] ?_
  intro env_1
  simp only [go_sem]
  refine den_loopS (σ := Nat × Value × List Nat) (fun st_ => [(7, st_.2.1), (8, .int .i64 (st_.1 : Int))]) (fun st_ H => (st_.1 ≤ a.length) ∧ (O1 H st_.2.1 ((List.range st_.1).map fun q : Nat => (a.getD q 0 - b.getD q 0) % p) st_.2.2) ∧ (Fresh (h.size) st_.2.2) ∧ (Sub [h.size] h1_0.size st_.2.2) ∧ (Chg [h.size] h1_0 H)) (fun st_ => a.length - st_.1) (0, v1_0, [h.size]) ?_ ?_
  · exact ⟨by first | (simp; done) | (dsimp only; omega) | (simp; omega), by simpa using ho1_0, hfho1_0, Sub.refl, Chg.refl _ _⟩
  · rintro ⟨i, vhO, fphO⟩ h4 ee3 ⟨hi0, hO, hfhO, sbhO, cL2⟩
    dsimp only at hi0 hO hfhO sbhO cL2
    have := cL2.size
    replace eB := Ext.then eB cL2 (ge_of hfho1_0 (by omega))
    have hlhO := OS.lt hO
    simp only [List.cons_append, List.nil_append]
    have hlo : ((List.range i).map fun q : Nat => (a.getD q 0 - b.getD q 0) % p).length = i := by simp
    refine den_seq ?_
    refine den_seq ?_
    refine den_region TTok ?_
    intro K hK
    simp -implicitDefEqProofs (disch := first | decide | assumption | omega) only [go_sem, RdS.len ra sl22, RdS.idx ra sl22, R1.intB ra (Ext.pres eB), RdS.cells ra, RdS.len rb sl22, RdS.idx rb sl22, R1.intB rb (Ext.pres eB), RdS.cells rb, RdS.len (OS.rd hO) sl22, RdS.idx (OS.rd hO) sl22, R1.intN (OS.rd hO), RdS.cells (OS.rd hO), wrap_id]
    refine hK _ _ ?_
    clear hK K
    refine den_cond rfl (fun c0 => ?_) (fun c0 => ?_)
    · try simp only [decide_eq_true_eq, decide_eq_false_iff_not, beq_iff_eq, beq_eq_false_iff_ne, bne_iff_ne, ne_eq, Bool.not_eq_true', Bool.not_eq_false', Bool.and_eq_true, Bool.or_eq_true, bne_eq_false_iff_eq] at c0
      refine den_skip ?_
      refine den_seq ?_
      refine den_block ?_
      have hxa := ha.at (k := i) (by omega)
      have hxb := hb.at (k := i) (by omega)
      refine den_draw TTok mixed [13] [(0, true), (1, true), (2, true), (3, true), (4, true), (5, true), (6, true), (7, true), (8, true), (9, true), (10, true), (11, false), (12, false), (13, false), (14, true)] (by kernel_rfl) ?_
      intro K hK
      simp -implicitDefEqProofs (disch := first | decide | assumption | omega) only [go_sem, ld2, RdS.len ra sl22, RdS.idx ra sl22, R1.intB ra (Ext.pres eB), RdS.cells ra, RdS.len rb sl22, RdS.idx rb sl22, R1.intB rb (Ext.pres eB), RdS.cells rb, RdS.len (OS.rd hO) sl22, RdS.idx (OS.rd hO) sl22, R1.intN (OS.rd hO), RdS.cells (OS.rd hO), wrap_id]
      try simp -implicitDefEqProofs (disch := first | decide | assumption | omega) only [go_sem, RdS.len ra sl22, RdS.idx ra sl22, R1.intB ra (Ext.pres eB), RdS.cells ra, RdS.len rb sl22, RdS.idx rb sl22, R1.intB rb (Ext.pres eB), RdS.cells rb, RdS.len (OS.rd hO) sl22, RdS.idx (OS.rd hO) sl22, R1.intN (OS.rd hO), RdS.cells (OS.rd hO), wrap_id]
      refine CallA.mono (sMod_ok  p (((a).getD i 0) - ((b).getD i 0)) _  (by omega) (by omega)) ?_
      intro v_ h5_11
      rintro ⟨rfl, e5_11⟩
      replace hO := OS.ext hO e5_11
      have := Ext.size e5_11
      replace eB := Ext.trans eB e5_11
      replace cL2 := Chg.stepE cL2 e5_11
      try simp (disch := decide) only [outv_some, outv_none, put_puts]
      refine plK_pres (Ext.pres e5_11) ?_
      try simp -implicitDefEqProofs (disch := first | decide | assumption | omega) only [go_sem, RdS.len ra sl22, RdS.idx ra sl22, R1.intB ra (Ext.pres eB), RdS.cells ra, RdS.len rb sl22, RdS.idx rb sl22, R1.intB rb (Ext.pres eB), RdS.cells rb, RdS.len (OS.rd hO) sl22, RdS.idx (OS.rd hO) sl22, R1.intN (OS.rd hO), RdS.cells (OS.rd hO), wrap_id]
      refine op_bs1 sz22 rfl rfl ?_
      try simp (disch := decide) only [outv_some, outv_none, put_puts]
      refine plK_pres (Ext.pres (Ext.push _ _)) ?_
      try simp -implicitDefEqProofs (disch := first | decide | assumption | omega) only [go_sem, RdS.len ra sl22, RdS.idx ra sl22, R1.intB ra (Ext.pres eB), RdS.cells ra, RdS.len rb sl22, RdS.idx rb sl22, R1.intB rb (Ext.pres eB), RdS.cells rb, RdS.len (OS.rd hO) sl22, RdS.idx (OS.rd hO) sl22, R1.intN (OS.rd hO), RdS.cells (OS.rd hO), wrap_id]
      refine op_append1 sz22 hO hfhO.nodup ⟨rfl, rfl⟩ List.nodup_nil (Apart.nil _) (by first | omega | (simp; omega)) rfl rfl ?_
      intro v5_13 h5_13 fp5_13 ho5_13 hn5_13 hs5_13 c5_13
      have hsz5_13 := c5_13.size
      have hfho5_13 : Fresh h.size fp5_13 := Fresh.appd hfhO (Fresh.nil h5_11.size) (by omega) (by omega) hn5_13 hs5_13
      have sb5 : Sub [h.size] h1_0.size fp5_13 := Sub.grow sbhO Sub.nil (by omega) hs5_13
      have := c5_13.size
      replace eB := Ext.then eB c5_13 (ge_of hfhO (by omega))
      replace cL2 := Chg.step cL2 c5_13 sbhO
      have hlho5_13 := OS.lt ho5_13
      try simp (disch := decide) only [outv_some, outv_none, put_puts]
      refine plK_last (by decide) ?_
      try simp -implicitDefEqProofs (disch := first | decide | assumption | omega) only [go_sem, RdS.len ra sl22, RdS.idx ra sl22, R1.intB ra (Ext.pres eB), RdS.cells ra, RdS.len rb sl22, RdS.idx rb sl22, R1.intB rb (Ext.pres eB), RdS.cells rb, RdS.len (OS.rd ho5_13) sl22, RdS.idx (OS.rd ho5_13) sl22, R1.intN (OS.rd ho5_13), RdS.cells (OS.rd ho5_13), wrap_id]
      refine hK _ _ ?_
      clear hK K
      refine den_blk ?_
      refine den_region TTok ?_
      intro K hK
      simp -implicitDefEqProofs (disch := first | decide | assumption | omega) only [go_sem, RdS.len ra sl22, RdS.idx ra sl22, R1.intB ra (Ext.pres eB), RdS.cells ra, RdS.len rb sl22, RdS.idx rb sl22, R1.intB rb (Ext.pres eB), RdS.cells rb, RdS.len (OS.rd ho5_13) sl22, RdS.idx (OS.rd ho5_13) sl22, R1.intN (OS.rd ho5_13), RdS.cells (OS.rd ho5_13), wrap_id]
      refine hK _ _ ?_
      clear hK K
      refine den_stop ?_
      rw [range_step (fun q : Nat => (a.getD q 0 - b.getD q 0) % p)] at ho5_13
      exact ⟨(i + 1, v5_13, fp5_13), by simp [HasL, puts_at], ⟨by first | omega | (dsimp only; omega), ho5_13, hfho5_13, sb5, cL2⟩, by first | omega | (dsimp only; omega)⟩
    · try simp only [decide_eq_true_eq, decide_eq_false_iff_not, beq_iff_eq, beq_eq_false_iff_ne, bne_iff_ne, ne_eq, Bool.not_eq_true', Bool.not_eq_false', Bool.and_eq_true, Bool.or_eq_true, bne_eq_false_iff_eq] at c0
      refine den_exit ?_
      refine denX_code ?_
      refine denX_stop ?_
      refine denX_hit ?_
      refine den_seq ?_
      refine den_region TTok ?_
      intro K hK
      simp -implicitDefEqProofs (disch := first | decide | assumption | omega) only [go_sem, RdS.len ra sl22, RdS.idx ra sl22, R1.intB ra (Ext.pres eB), RdS.cells ra, RdS.len rb sl22, RdS.idx rb sl22, R1.intB rb (Ext.pres eB), RdS.cells rb, RdS.len (OS.rd hO) sl22, RdS.idx (OS.rd hO) sl22, R1.intN (OS.rd hO), RdS.cells (OS.rd hO), wrap_id]
      refine hK _ _ ?_
      clear hK K
      refine den_ret ?_
      simp (disch := decide) only [resP_1, puts_same, puts_ne]
      rw [show i = a.length by omega, subRow] at hO
      exact ⟨_, _, rfl, hO, hfhO.mono (by omega), eB⟩

set_option maxRecDepth 100000 in
theorem iSplit_ok (vX vv : Value) (X : Cx) (n : Int) (v : List Int) (h : Heap) (rX : RC h vX X) (rv : R1 h vv v) (hS : SpOk X n v) : CallA Try.prog 92 #[vX, .int .i64 n, vv] h fun v' h' => ∃ w0 f0 w1 f1 w2 f2, v' = .tuple #[w0, w1, w2] ∧ O1 h' w0 (spB X n v) f0 ∧ Fresh h.size f0 ∧ O1 h' w1 (spH X n v) f1 ∧ Fresh h.size f1 ∧ O1 h' w2 (spW X n v) f2 ∧ Fresh h.size f2 ∧ Apart f0 f1 ∧ Apart f0 f2 ∧ Apart f1 f2 ∧ Ext h h' := by
  obtain ⟨vdX, vmX, rfl, hdX, hmX⟩ := rX
  have hledX := RdS.le hdX
  have hlemX := RdS.le hmX
  have hlev := RdS.le rv
  have hC := hS.cX
  have hCx := hC
  have hn0 := hS.n0
  have hn1 := hS.n1
  have hlX := hC.len
  have hdn := dimP_bnd hC n
  have hvl := hS.len
  obtain ⟨hfl, hbw, hbc, hbh⟩ := hS.facts
  have hpb := isP_bnd hC.p
  have hP := hC.p
  obtain ⟨lc, hrC⟩ := cyc_rr hC n
  obtain ⟨lb, hrB⟩ := bnd_rr hC hn0
  refine callA_intro TTok (args := [_, _, _]) Try.func92 (by kernel_rfl) rfl 41 rfl (by simp) [.tmp 6, .tmp 7, .tmp 8] rfl ?_
  simp only [idxs, Nat.reduceAdd]
  refine den_seq ?_
  refine den_region TTok ?_
  intro K hK
  simp -implicitDefEqProofs (disch := first | decide | assumption | omega) only [go_sem, RdS.len hdX sl22, RdS.idx hdX sl22, R1.intB hdX (HPres.refl _), RdS.cells hdX, RdS.len hmX sl23, RdS.idx hmX sl23, RdS.cellB hmX (HPres.refl _), RdS.cells hmX, RdS.len rv sl22, RdS.idx rv sl22, R1.intB rv (HPres.refl _), RdS.cells rv, wrap_id]
  refine op_box (cs := #[.int .i64 (X.p), vdX, vmX]) rfl ?_
  intro h0_0 e0_0 hb0_0 z0_0
  have := Ext.size e0_0
  have eB := e0_0
  have hfhb0_0 : Fresh h.size [h.size] := Fresh.one _
  have hlhb0_0 := one_lt (show h.size < h0_0.size by omega)
  try simp -implicitDefEqProofs (disch := first | decide | assumption | omega) only [go_sem, RdS.len hdX sl22, RdS.idx hdX sl22, R1.intB hdX (Ext.pres eB), RdS.cells hdX, RdS.len hmX sl23, RdS.idx hmX sl23, RdS.cellB hmX (Ext.pres eB), RdS.cells hmX, RdS.len rv sl22, RdS.idx rv sl22, R1.intB rv (Ext.pres eB), RdS.cells rv, BoxAt.cell hb0_0, wrap_id]
  refine hK _ _ ?_
  clear hK K
  refine den_seq ?_
  refine den_region TTok ?_
  intro K hK
  simp -implicitDefEqProofs (disch := first | decide | assumption | omega) only [go_sem, fa30_0, ld2, RdS.len hdX sl22, RdS.idx hdX sl22, R1.intB hdX (Ext.pres eB), RdS.cells hdX, RdS.len hmX sl23, RdS.idx hmX sl23, RdS.cellB hmX (Ext.pres eB), RdS.cells hmX, RdS.len rv sl22, RdS.idx rv sl22, R1.intB rv (Ext.pres eB), RdS.cells rv, BoxAt.cell hb0_0, wrap_id]
  refine hK _ _ ?_
  clear hK K
  refine den_seq ?_
  have hrr := hrC
  have hrv : v.length = (dimP X n).toNat ∧ (dimP X n).toNat ≤ 1000 := ⟨hvl, by omega⟩
  have hrb := hS.bnd
  refine den_region TTok ?_
  intro K hK
  simp -implicitDefEqProofs (disch := first | decide | assumption | omega) only [go_sem, ld30, RdS.len hdX sl22, RdS.idx hdX sl22, R1.intB hdX (Ext.pres eB), RdS.cells hdX, RdS.len hmX sl23, RdS.idx hmX sl23, RdS.cellB hmX (Ext.pres eB), RdS.cells hmX, RdS.len rv sl22, RdS.idx rv sl22, R1.intB rv (Ext.pres eB), RdS.cells rv, BoxAt.cell hb0_0, wrap_id]
  try simp -implicitDefEqProofs (disch := first | decide | assumption | omega) only [go_sem, RdS.len hdX sl22, RdS.idx hdX sl22, R1.intB hdX (Ext.pres eB), RdS.cells hdX, RdS.len hmX sl23, RdS.idx hmX sl23, RdS.cellB hmX (Ext.pres eB), RdS.cells hmX, RdS.len rv sl22, RdS.idx rv sl22, R1.intB rv (Ext.pres eB), RdS.cells rv, BoxAt.cell hb0_0, wrap_id]
  refine CallA.mono (iCyc_ok _ X n _ ⟨_, _, rfl, (RdS.pres hdX (Ext.pres eB)), (RdS.pres hmX (Ext.pres eB))⟩ hCx (by omega)) ?_
  intro vw2_4_0 h2_4
  rintro ⟨zvw2_4_0, fw2_4_0, rfl, how2_4_0, hfw2_4_0, e2_4⟩
  replace hb0_0 := BoxAt.ext hb0_0 e2_4
  have := Ext.size e2_4
  replace eB := Ext.trans eB e2_4
  have hlhow2_4_0 := OS.lt how2_4_0
  try simp -implicitDefEqProofs (disch := first | decide | assumption | omega) only [go_sem, RdS.len hdX sl22, RdS.idx hdX sl22, R1.intB hdX (Ext.pres eB), RdS.cells hdX, RdS.len hmX sl23, RdS.idx hmX sl23, RdS.cellB hmX (Ext.pres eB), RdS.cells hmX, RdS.len rv sl22, RdS.idx rv sl22, R1.intB rv (Ext.pres eB), RdS.cells rv, RdS.len (OS.rd how2_4_0) sl36, RdS.idx (OS.rd how2_4_0) sl36, RdS.cellN (OS.rd how2_4_0), RdS.cells (OS.rd how2_4_0), BoxAt.cell hb0_0, wrap_id]
  try simp -implicitDefEqProofs (disch := first | decide | assumption | omega) only [go_sem, RdS.len hdX sl22, RdS.idx hdX sl22, R1.intB hdX (Ext.pres eB), RdS.cells hdX, RdS.len hmX sl23, RdS.idx hmX sl23, RdS.cellB hmX (Ext.pres eB), RdS.cells hmX, RdS.len rv sl22, RdS.idx rv sl22, R1.intB rv (Ext.pres eB), RdS.cells rv, RdS.len (OS.rd how2_4_0) sl36, RdS.idx (OS.rd how2_4_0) sl36, RdS.cellN (OS.rd how2_4_0), RdS.cells (OS.rd how2_4_0), BoxAt.cell hb0_0, wrap_id]
  refine CallA.mono (iModulo_ok _ _ X.p v (cycP X n) _ (RdS.pres rv (Ext.pres eB)) (OS.rd how2_4_0) hP hrr hrv hrb) ?_
  intro vw2_5_0 h2_5
  rintro ⟨zvw2_5_0, fw2_5_0, rfl, how2_5_0, hfw2_5_0, e2_5⟩
  replace how2_4_0 := OS.ext how2_4_0 e2_5
  replace hb0_0 := BoxAt.ext hb0_0 e2_5
  have := Ext.size e2_5
  replace eB := Ext.trans eB e2_5
  change O1 _ _ (spW X n v) _ at how2_5_0
  have hlhow2_5_0 := OS.lt how2_5_0
  try simp -implicitDefEqProofs (disch := first | decide | assumption | omega) only [go_sem, RdS.len hdX sl22, RdS.idx hdX sl22, R1.intB hdX (Ext.pres eB), RdS.cells hdX, RdS.len hmX sl23, RdS.idx hmX sl23, RdS.cellB hmX (Ext.pres eB), RdS.cells hmX, RdS.len rv sl22, RdS.idx rv sl22, R1.intB rv (Ext.pres eB), RdS.cells rv, RdS.len (OS.rd how2_4_0) sl36, RdS.idx (OS.rd how2_4_0) sl36, RdS.cellN (OS.rd how2_4_0), RdS.cells (OS.rd how2_4_0), RdS.len (OS.rd how2_5_0) sl22, RdS.idx (OS.rd how2_5_0) sl22, R1.intN (OS.rd how2_5_0), RdS.cells (OS.rd how2_5_0), BoxAt.cell hb0_0, wrap_id]
  refine hK _ _ ?_
  clear hK K
  refine den_seq ?_
  have hto : (v.length = (spW X n v).length ∧ v.length ≤ 8) ∧ Bnd X.p v ∧ Bnd X.p (spW X n v) := ⟨by omega, hS.bnd, hbw⟩
  have hmi : (v.length ≤ (spW X n v).length ∧ v.length ≤ 1000) ∧ Bnd X.p v ∧ Bnd X.p (spW X n v) := ⟨by omega, hS.bnd, hbw⟩
  refine den_region TTok ?_
  intro K hK
  simp -implicitDefEqProofs (disch := first | decide | assumption | omega) only [go_sem, RdS.len hdX sl22, RdS.idx hdX sl22, R1.intB hdX (Ext.pres eB), RdS.cells hdX, RdS.len hmX sl23, RdS.idx hmX sl23, RdS.cellB hmX (Ext.pres eB), RdS.cells hmX, RdS.len rv sl22, RdS.idx rv sl22, R1.intB rv (Ext.pres eB), RdS.cells rv, RdS.len (OS.rd how2_5_0) sl22, RdS.idx (OS.rd how2_5_0) sl22, R1.intN (OS.rd how2_5_0), RdS.cells (OS.rd how2_5_0), BoxAt.cell hb0_0, wrap_id]
  try simp -implicitDefEqProofs (disch := first | decide | assumption | omega) only [go_sem, RdS.len hdX sl22, RdS.idx hdX sl22, R1.intB hdX (Ext.pres eB), RdS.cells hdX, RdS.len hmX sl23, RdS.idx hmX sl23, RdS.cellB hmX (Ext.pres eB), RdS.cells hmX, RdS.len rv sl22, RdS.idx rv sl22, R1.intB rv (Ext.pres eB), RdS.cells rv, RdS.len (OS.rd how2_5_0) sl22, RdS.idx (OS.rd how2_5_0) sl22, R1.intN (OS.rd how2_5_0), RdS.cells (OS.rd how2_5_0), BoxAt.cell hb0_0, wrap_id]
  refine CallA.mono (iTog_ok _ _ X.p v (spW X n v) (X.p - (1 : Int)) _ (RdS.pres rv (Ext.pres eB)) (OS.rd how2_5_0) (by omega) hto.1 hto.2.1 hto.2.2 (by omega)) ?_
  intro vw3_5_0 h3_5
  rintro ⟨zvw3_5_0, fw3_5_0, rfl, how3_5_0, hfw3_5_0, e3_5⟩
  replace how2_5_0 := OS.ext how2_5_0 e3_5
  replace hb0_0 := BoxAt.ext hb0_0 e3_5
  have := Ext.size e3_5
  replace eB := Ext.trans eB e3_5
  change O1 _ _ (spC X n v) _ at how3_5_0
  have hlhow3_5_0 := OS.lt how3_5_0
  try simp -implicitDefEqProofs (disch := first | decide | assumption | omega) only [go_sem, RdS.len hdX sl22, RdS.idx hdX sl22, R1.intB hdX (Ext.pres eB), RdS.cells hdX, RdS.len hmX sl23, RdS.idx hmX sl23, RdS.cellB hmX (Ext.pres eB), RdS.cells hmX, RdS.len rv sl22, RdS.idx rv sl22, R1.intB rv (Ext.pres eB), RdS.cells rv, RdS.len (OS.rd how2_5_0) sl22, RdS.idx (OS.rd how2_5_0) sl22, R1.intN (OS.rd how2_5_0), RdS.cells (OS.rd how2_5_0), RdS.len (OS.rd how3_5_0) sl22, RdS.idx (OS.rd how3_5_0) sl22, R1.intN (OS.rd how3_5_0), RdS.cells (OS.rd how3_5_0), BoxAt.cell hb0_0, wrap_id]
  refine hK _ _ ?_
  clear hK K
  refine den_seq ?_
  have hrr := hrB
  have hrv : (spC X n v).length = (dimP X n).toNat ∧ (dimP X n).toNat ≤ 1000 := ⟨by omega, by omega⟩
  have hrb := hbc
  refine den_region TTok ?_
  intro K hK
  simp -implicitDefEqProofs (disch := first | decide | assumption | omega) only [go_sem, ld30, RdS.len hdX sl22, RdS.idx hdX sl22, R1.intB hdX (Ext.pres eB), RdS.cells hdX, RdS.len hmX sl23, RdS.idx hmX sl23, RdS.cellB hmX (Ext.pres eB), RdS.cells hmX, RdS.len rv sl22, RdS.idx rv sl22, R1.intB rv (Ext.pres eB), RdS.cells rv, RdS.len (OS.rd how2_5_0) sl22, RdS.idx (OS.rd how2_5_0) sl22, R1.intN (OS.rd how2_5_0), RdS.cells (OS.rd how2_5_0), RdS.len (OS.rd how3_5_0) sl22, RdS.idx (OS.rd how3_5_0) sl22, R1.intN (OS.rd how3_5_0), RdS.cells (OS.rd how3_5_0), BoxAt.cell hb0_0, wrap_id]
  try simp -implicitDefEqProofs (disch := first | decide | assumption | omega) only [go_sem, RdS.len hdX sl22, RdS.idx hdX sl22, R1.intB hdX (Ext.pres eB), RdS.cells hdX, RdS.len hmX sl23, RdS.idx hmX sl23, RdS.cellB hmX (Ext.pres eB), RdS.cells hmX, RdS.len rv sl22, RdS.idx rv sl22, R1.intB rv (Ext.pres eB), RdS.cells rv, RdS.len (OS.rd how2_5_0) sl22, RdS.idx (OS.rd how2_5_0) sl22, R1.intN (OS.rd how2_5_0), RdS.cells (OS.rd how2_5_0), RdS.len (OS.rd how3_5_0) sl22, RdS.idx (OS.rd how3_5_0) sl22, R1.intN (OS.rd how3_5_0), RdS.cells (OS.rd how3_5_0), BoxAt.cell hb0_0, wrap_id]
  refine CallA.mono (iBnd_ok _ X n _ ⟨_, _, rfl, (RdS.pres hdX (Ext.pres eB)), (RdS.pres hmX (Ext.pres eB))⟩ hCx (by omega)) ?_
  intro vw4_4_0 h4_4
  rintro ⟨zvw4_4_0, fw4_4_0, rfl, how4_4_0, hfw4_4_0, e4_4⟩
  replace how2_5_0 := OS.ext how2_5_0 e4_4
  replace how3_5_0 := OS.ext how3_5_0 e4_4
  replace hb0_0 := BoxAt.ext hb0_0 e4_4
  have := Ext.size e4_4
  replace eB := Ext.trans eB e4_4
  have hlhow4_4_0 := OS.lt how4_4_0
  try simp -implicitDefEqProofs (disch := first | decide | assumption | omega) only [go_sem, RdS.len hdX sl22, RdS.idx hdX sl22, R1.intB hdX (Ext.pres eB), RdS.cells hdX, RdS.len hmX sl23, RdS.idx hmX sl23, RdS.cellB hmX (Ext.pres eB), RdS.cells hmX, RdS.len rv sl22, RdS.idx rv sl22, R1.intB rv (Ext.pres eB), RdS.cells rv, RdS.len (OS.rd how2_5_0) sl22, RdS.idx (OS.rd how2_5_0) sl22, R1.intN (OS.rd how2_5_0), RdS.cells (OS.rd how2_5_0), RdS.len (OS.rd how3_5_0) sl22, RdS.idx (OS.rd how3_5_0) sl22, R1.intN (OS.rd how3_5_0), RdS.cells (OS.rd how3_5_0), RdS.len (OS.rd how4_4_0) sl36, RdS.idx (OS.rd how4_4_0) sl36, RdS.cellN (OS.rd how4_4_0), RdS.cells (OS.rd how4_4_0), BoxAt.cell hb0_0, wrap_id]
  try simp -implicitDefEqProofs (disch := first | decide | assumption | omega) only [go_sem, RdS.len hdX sl22, RdS.idx hdX sl22, R1.intB hdX (Ext.pres eB), RdS.cells hdX, RdS.len hmX sl23, RdS.idx hmX sl23, RdS.cellB hmX (Ext.pres eB), RdS.cells hmX, RdS.len rv sl22, RdS.idx rv sl22, R1.intB rv (Ext.pres eB), RdS.cells rv, RdS.len (OS.rd how2_5_0) sl22, RdS.idx (OS.rd how2_5_0) sl22, R1.intN (OS.rd how2_5_0), RdS.cells (OS.rd how2_5_0), RdS.len (OS.rd how3_5_0) sl22, RdS.idx (OS.rd how3_5_0) sl22, R1.intN (OS.rd how3_5_0), RdS.cells (OS.rd how3_5_0), RdS.len (OS.rd how4_4_0) sl36, RdS.idx (OS.rd how4_4_0) sl36, RdS.cellN (OS.rd how4_4_0), RdS.cells (OS.rd how4_4_0), BoxAt.cell hb0_0, wrap_id]
  refine CallA.mono (iModulo_ok _ _ X.p (spC X n v) (bndP X n) _ (OS.rd how3_5_0) (OS.rd how4_4_0) hP hrr hrv hrb) ?_
  intro vw4_5_0 h4_5
  rintro ⟨zvw4_5_0, fw4_5_0, rfl, how4_5_0, hfw4_5_0, e4_5⟩
  replace how2_5_0 := OS.ext how2_5_0 e4_5
  replace how3_5_0 := OS.ext how3_5_0 e4_5
  replace how4_4_0 := OS.ext how4_4_0 e4_5
  replace hb0_0 := BoxAt.ext hb0_0 e4_5
  have := Ext.size e4_5
  replace eB := Ext.trans eB e4_5
  change O1 _ _ (spH X n v) _ at how4_5_0
  have hlhow4_5_0 := OS.lt how4_5_0
  try simp -implicitDefEqProofs (disch := first | decide | assumption | omega) only [go_sem, RdS.len hdX sl22, RdS.idx hdX sl22, R1.intB hdX (Ext.pres eB), RdS.cells hdX, RdS.len hmX sl23, RdS.idx hmX sl23, RdS.cellB hmX (Ext.pres eB), RdS.cells hmX, RdS.len rv sl22, RdS.idx rv sl22, R1.intB rv (Ext.pres eB), RdS.cells rv, RdS.len (OS.rd how2_5_0) sl22, RdS.idx (OS.rd how2_5_0) sl22, R1.intN (OS.rd how2_5_0), RdS.cells (OS.rd how2_5_0), RdS.len (OS.rd how3_5_0) sl22, RdS.idx (OS.rd how3_5_0) sl22, R1.intN (OS.rd how3_5_0), RdS.cells (OS.rd how3_5_0), RdS.len (OS.rd how4_4_0) sl36, RdS.idx (OS.rd how4_4_0) sl36, RdS.cellN (OS.rd how4_4_0), RdS.cells (OS.rd how4_4_0), RdS.len (OS.rd how4_5_0) sl22, RdS.idx (OS.rd how4_5_0) sl22, R1.intN (OS.rd how4_5_0), RdS.cells (OS.rd how4_5_0), BoxAt.cell hb0_0, wrap_id]
  refine hK _ _ ?_
  clear hK K
  refine den_seq ?_
  have hto : ((spC X n v).length = (spH X n v).length ∧ (spC X n v).length ≤ 8) ∧ Bnd X.p (spC X n v) ∧ Bnd X.p (spH X n v) := ⟨by omega, hbc, hbh⟩
  have hmi : ((spC X n v).length ≤ (spH X n v).length ∧ (spC X n v).length ≤ 1000) ∧ Bnd X.p (spC X n v) ∧ Bnd X.p (spH X n v) := ⟨by omega, hbc, hbh⟩
  refine den_region TTok ?_
  intro K hK
  simp -implicitDefEqProofs (disch := first | decide | assumption | omega) only [go_sem, RdS.len hdX sl22, RdS.idx hdX sl22, R1.intB hdX (Ext.pres eB), RdS.cells hdX, RdS.len hmX sl23, RdS.idx hmX sl23, RdS.cellB hmX (Ext.pres eB), RdS.cells hmX, RdS.len rv sl22, RdS.idx rv sl22, R1.intB rv (Ext.pres eB), RdS.cells rv, RdS.len (OS.rd how2_5_0) sl22, RdS.idx (OS.rd how2_5_0) sl22, R1.intN (OS.rd how2_5_0), RdS.cells (OS.rd how2_5_0), RdS.len (OS.rd how3_5_0) sl22, RdS.idx (OS.rd how3_5_0) sl22, R1.intN (OS.rd how3_5_0), RdS.cells (OS.rd how3_5_0), RdS.len (OS.rd how4_5_0) sl22, RdS.idx (OS.rd how4_5_0) sl22, R1.intN (OS.rd how4_5_0), RdS.cells (OS.rd how4_5_0), wrap_id]
  try simp -implicitDefEqProofs (disch := first | decide | assumption | omega) only [go_sem, RdS.len hdX sl22, RdS.idx hdX sl22, R1.intB hdX (Ext.pres eB), RdS.cells hdX, RdS.len hmX sl23, RdS.idx hmX sl23, RdS.cellB hmX (Ext.pres eB), RdS.cells hmX, RdS.len rv sl22, RdS.idx rv sl22, R1.intB rv (Ext.pres eB), RdS.cells rv, RdS.len (OS.rd how2_5_0) sl22, RdS.idx (OS.rd how2_5_0) sl22, R1.intN (OS.rd how2_5_0), RdS.cells (OS.rd how2_5_0), RdS.len (OS.rd how3_5_0) sl22, RdS.idx (OS.rd how3_5_0) sl22, R1.intN (OS.rd how3_5_0), RdS.cells (OS.rd how3_5_0), RdS.len (OS.rd how4_5_0) sl22, RdS.idx (OS.rd how4_5_0) sl22, R1.intN (OS.rd how4_5_0), RdS.cells (OS.rd how4_5_0), wrap_id]
  refine CallA.mono (iTog_ok _ _ X.p (spC X n v) (spH X n v) (X.p - (1 : Int)) _ (OS.rd how3_5_0) (OS.rd how4_5_0) (by omega) hto.1 hto.2.1 hto.2.2 (by omega)) ?_
  intro vw5_5_0 h5_5
  rintro ⟨zvw5_5_0, fw5_5_0, rfl, how5_5_0, hfw5_5_0, e5_5⟩
  replace how2_5_0 := OS.ext how2_5_0 e5_5
  replace how3_5_0 := OS.ext how3_5_0 e5_5
  replace how4_5_0 := OS.ext how4_5_0 e5_5
  have := Ext.size e5_5
  replace eB := Ext.trans eB e5_5
  change O1 _ _ (spB X n v) _ at how5_5_0
  have hlhow5_5_0 := OS.lt how5_5_0
  try simp -implicitDefEqProofs (disch := first | decide | assumption | omega) only [go_sem, RdS.len hdX sl22, RdS.idx hdX sl22, R1.intB hdX (Ext.pres eB), RdS.cells hdX, RdS.len hmX sl23, RdS.idx hmX sl23, RdS.cellB hmX (Ext.pres eB), RdS.cells hmX, RdS.len rv sl22, RdS.idx rv sl22, R1.intB rv (Ext.pres eB), RdS.cells rv, RdS.len (OS.rd how2_5_0) sl22, RdS.idx (OS.rd how2_5_0) sl22, R1.intN (OS.rd how2_5_0), RdS.cells (OS.rd how2_5_0), RdS.len (OS.rd how3_5_0) sl22, RdS.idx (OS.rd how3_5_0) sl22, R1.intN (OS.rd how3_5_0), RdS.cells (OS.rd how3_5_0), RdS.len (OS.rd how4_5_0) sl22, RdS.idx (OS.rd how4_5_0) sl22, R1.intN (OS.rd how4_5_0), RdS.cells (OS.rd how4_5_0), RdS.len (OS.rd how5_5_0) sl22, RdS.idx (OS.rd how5_5_0) sl22, R1.intN (OS.rd how5_5_0), RdS.cells (OS.rd how5_5_0), wrap_id]
  refine hK _ _ ?_
  clear hK K
  refine den_ret ?_
  simp (disch := decide) only [resP_3, puts_same, puts_ne]
  exact ⟨_, _, _, _, _, _, rfl, how5_5_0, hfw5_5_0.mono (by omega), how4_5_0, hfw4_5_0.mono (by omega), how2_5_0, hfw2_5_0.mono (by omega), (apart_gt hfw5_5_0 hlhow4_5_0 (by omega)), (apart_gt hfw5_5_0 hlhow2_5_0 (by omega)), (apart_gt hfw4_5_0 hlhow2_5_0 (by omega)), eB⟩

set_option maxRecDepth 100000 in
theorem sSplit_ok (vX vv : Value) (X : Cx) (n : Int) (v : List Int) (h : Heap) (rX : RC h vX X) (rv : R1 h vv v) (hS : SpOk X n v) : CallA Try.prog 90 #[vX, .int .i64 n, vv] h fun v' h' => ∃ w0 f0, v' = w0 ∧ O2 h' w0 ([spB X n v, spH X n v, spW X n v]) f0 ∧ Fresh h.size f0 ∧ Ext h h' := by
  obtain ⟨vdX, vmX, rfl, hdX, hmX⟩ := rX
  have hledX := RdS.le hdX
  have hlemX := RdS.le hmX
  have hlev := RdS.le rv
  have hC := hS.cX
  have hCx := hC
  have hn0 := hS.n0
  have hn1 := hS.n1
  have hlX := hC.len
  have hdn := dimP_bnd hC n
  have hvl := hS.len
  obtain ⟨hfl, hbw, hbc, hbh⟩ := hS.facts
  have hpb := isP_bnd hC.p
  have hP := hC.p
  obtain ⟨lc, hrC⟩ := cyc_rr hC n
  obtain ⟨lb, hrB⟩ := bnd_rr hC hn0
  refine callA_intro TTok (args := [_, _, _]) Try.func90 (by kernel_rfl) rfl 37 rfl (by simp) [.tmp 6] rfl ?_
  simp only [idxs, Nat.reduceAdd]
  refine den_seq ?_
  refine den_region TTok ?_
  intro K hK
  simp -implicitDefEqProofs (disch := first | decide | assumption | omega) only [go_sem, RdS.len hdX sl22, RdS.idx hdX sl22, R1.intB hdX (HPres.refl _), RdS.cells hdX, RdS.len hmX sl23, RdS.idx hmX sl23, RdS.cellB hmX (HPres.refl _), RdS.cells hmX, RdS.len rv sl22, RdS.idx rv sl22, R1.intB rv (HPres.refl _), RdS.cells rv, wrap_id]
  refine op_box (cs := #[.int .i64 (X.p), vdX, vmX]) rfl ?_
  intro h0_0 e0_0 hb0_0 z0_0
  have := Ext.size e0_0
  have eB := e0_0
  have hfhb0_0 : Fresh h.size [h.size] := Fresh.one _
  have hlhb0_0 := one_lt (show h.size < h0_0.size by omega)
  try simp -implicitDefEqProofs (disch := first | decide | assumption | omega) only [go_sem, RdS.len hdX sl22, RdS.idx hdX sl22, R1.intB hdX (Ext.pres eB), RdS.cells hdX, RdS.len hmX sl23, RdS.idx hmX sl23, RdS.cellB hmX (Ext.pres eB), RdS.cells hmX, RdS.len rv sl22, RdS.idx rv sl22, R1.intB rv (Ext.pres eB), RdS.cells rv, BoxAt.cell hb0_0, wrap_id]
  refine hK _ _ ?_
  clear hK K
  refine den_seq ?_
  have hrr := hrC
  have hrv : v.length = (dimP X n).toNat ∧ (dimP X n).toNat ≤ 1000 := ⟨hvl, by omega⟩
  have hrb := hS.bnd
  refine den_draw TTok mixed [] [(0, true), (1, true), (2, true), (3, true), (5, true), (4, false), (6, false), (7, true)] (by kernel_rfl) ?_
  intro K hK
  simp -implicitDefEqProofs (disch := first | decide | assumption | omega) only [go_sem, fa30_0, ld2, ld30, RdS.len hdX sl22, RdS.idx hdX sl22, R1.intB hdX (Ext.pres eB), RdS.cells hdX, RdS.len hmX sl23, RdS.idx hmX sl23, RdS.cellB hmX (Ext.pres eB), RdS.cells hmX, RdS.len rv sl22, RdS.idx rv sl22, R1.intB rv (Ext.pres eB), RdS.cells rv, BoxAt.cell hb0_0, wrap_id]
  try simp -implicitDefEqProofs (disch := first | decide | assumption | omega) only [go_sem, RdS.len hdX sl22, RdS.idx hdX sl22, R1.intB hdX (Ext.pres eB), RdS.cells hdX, RdS.len hmX sl23, RdS.idx hmX sl23, RdS.cellB hmX (Ext.pres eB), RdS.cells hmX, RdS.len rv sl22, RdS.idx rv sl22, R1.intB rv (Ext.pres eB), RdS.cells rv, BoxAt.cell hb0_0, wrap_id]
  refine CallA.mono (sCyc_ok _ X n _ ⟨_, _, rfl, (RdS.pres hdX (Ext.pres eB)), (RdS.pres hmX (Ext.pres eB))⟩ hCx (by omega)) ?_
  intro vw1_4_0 h1_4
  rintro ⟨zvw1_4_0, fw1_4_0, rfl, how1_4_0, hfw1_4_0, e1_4⟩
  replace hb0_0 := BoxAt.ext hb0_0 e1_4
  have := Ext.size e1_4
  replace eB := Ext.trans eB e1_4
  have hlhow1_4_0 := OS.lt how1_4_0
  try simp (disch := decide) only [outv_some, outv_none, put_puts]
  refine plK_pres (Ext.pres e1_4) ?_
  try simp -implicitDefEqProofs (disch := first | decide | assumption | omega) only [go_sem, RdS.len hdX sl22, RdS.idx hdX sl22, R1.intB hdX (Ext.pres eB), RdS.cells hdX, RdS.len hmX sl23, RdS.idx hmX sl23, RdS.cellB hmX (Ext.pres eB), RdS.cells hmX, RdS.len rv sl22, RdS.idx rv sl22, R1.intB rv (Ext.pres eB), RdS.cells rv, RdS.len (OS.rd how1_4_0) sl36, RdS.idx (OS.rd how1_4_0) sl36, RdS.cellN (OS.rd how1_4_0), RdS.cells (OS.rd how1_4_0), BoxAt.cell hb0_0, wrap_id]
  try simp -implicitDefEqProofs (disch := first | decide | assumption | omega) only [go_sem, RdS.len hdX sl22, RdS.idx hdX sl22, R1.intB hdX (Ext.pres eB), RdS.cells hdX, RdS.len hmX sl23, RdS.idx hmX sl23, RdS.cellB hmX (Ext.pres eB), RdS.cells hmX, RdS.len rv sl22, RdS.idx rv sl22, R1.intB rv (Ext.pres eB), RdS.cells rv, RdS.len (OS.rd how1_4_0) sl36, RdS.idx (OS.rd how1_4_0) sl36, RdS.cellN (OS.rd how1_4_0), RdS.cells (OS.rd how1_4_0), BoxAt.cell hb0_0, wrap_id]
  refine CallA.mono (sRest_ok _ _ X.p (cycP X n) v _ (OS.rd how1_4_0) (RdS.pres rv (Ext.pres eB)) hP hrr hrv hrb) ?_
  intro vw1_6_0 h1_6
  rintro ⟨zvw1_6_0, fw1_6_0, rfl, how1_6_0, hfw1_6_0, e1_6⟩
  replace how1_4_0 := OS.ext how1_4_0 e1_6
  replace hb0_0 := BoxAt.ext hb0_0 e1_6
  have := Ext.size e1_6
  replace eB := Ext.trans eB e1_6
  change O1 _ _ (spW X n v) _ at how1_6_0
  have hlhow1_6_0 := OS.lt how1_6_0
  try simp (disch := decide) only [outv_some, outv_none, put_puts]
  refine plK_pres (Ext.pres e1_6) ?_
  try simp -implicitDefEqProofs (disch := first | decide | assumption | omega) only [go_sem, RdS.len hdX sl22, RdS.idx hdX sl22, R1.intB hdX (Ext.pres eB), RdS.cells hdX, RdS.len hmX sl23, RdS.idx hmX sl23, RdS.cellB hmX (Ext.pres eB), RdS.cells hmX, RdS.len rv sl22, RdS.idx rv sl22, R1.intB rv (Ext.pres eB), RdS.cells rv, RdS.len (OS.rd how1_4_0) sl36, RdS.idx (OS.rd how1_4_0) sl36, RdS.cellN (OS.rd how1_4_0), RdS.cells (OS.rd how1_4_0), RdS.len (OS.rd how1_6_0) sl22, RdS.idx (OS.rd how1_6_0) sl22, R1.intN (OS.rd how1_6_0), RdS.cells (OS.rd how1_6_0), BoxAt.cell hb0_0, wrap_id]
  refine hK _ _ ?_
  clear hK K
  refine den_seq ?_
  have hto : (v.length = (spW X n v).length ∧ v.length ≤ 8) ∧ Bnd X.p v ∧ Bnd X.p (spW X n v) := ⟨by omega, hS.bnd, hbw⟩
  have hmi : (v.length ≤ (spW X n v).length ∧ v.length ≤ 1000) ∧ Bnd X.p v ∧ Bnd X.p (spW X n v) := ⟨by omega, hS.bnd, hbw⟩
  refine den_region TTok ?_
  intro K hK
  simp -implicitDefEqProofs (disch := first | decide | assumption | omega) only [go_sem, fa30_0, ld2, RdS.len hdX sl22, RdS.idx hdX sl22, R1.intB hdX (Ext.pres eB), RdS.cells hdX, RdS.len hmX sl23, RdS.idx hmX sl23, RdS.cellB hmX (Ext.pres eB), RdS.cells hmX, RdS.len rv sl22, RdS.idx rv sl22, R1.intB rv (Ext.pres eB), RdS.cells rv, RdS.len (OS.rd how1_6_0) sl22, RdS.idx (OS.rd how1_6_0) sl22, R1.intN (OS.rd how1_6_0), RdS.cells (OS.rd how1_6_0), BoxAt.cell hb0_0, wrap_id]
  try simp -implicitDefEqProofs (disch := first | decide | assumption | omega) only [go_sem, RdS.len hdX sl22, RdS.idx hdX sl22, R1.intB hdX (Ext.pres eB), RdS.cells hdX, RdS.len hmX sl23, RdS.idx hmX sl23, RdS.cellB hmX (Ext.pres eB), RdS.cells hmX, RdS.len rv sl22, RdS.idx rv sl22, R1.intB rv (Ext.pres eB), RdS.cells rv, RdS.len (OS.rd how1_6_0) sl22, RdS.idx (OS.rd how1_6_0) sl22, R1.intN (OS.rd how1_6_0), RdS.cells (OS.rd how1_6_0), BoxAt.cell hb0_0, wrap_id]
  refine CallA.mono (sMinus_ok _ _ X.p v (spW X n v) _ (RdS.pres rv (Ext.pres eB)) (OS.rd how1_6_0) (by omega) hmi.1 hmi.2.1 hmi.2.2) ?_
  intro vw2_4_0 h2_4
  rintro ⟨zvw2_4_0, fw2_4_0, rfl, how2_4_0, hfw2_4_0, e2_4⟩
  replace how1_6_0 := OS.ext how1_6_0 e2_4
  replace hb0_0 := BoxAt.ext hb0_0 e2_4
  have := Ext.size e2_4
  replace eB := Ext.trans eB e2_4
  change O1 _ _ (spC X n v) _ at how2_4_0
  have hlhow2_4_0 := OS.lt how2_4_0
  try simp -implicitDefEqProofs (disch := first | decide | assumption | omega) only [go_sem, RdS.len hdX sl22, RdS.idx hdX sl22, R1.intB hdX (Ext.pres eB), RdS.cells hdX, RdS.len hmX sl23, RdS.idx hmX sl23, RdS.cellB hmX (Ext.pres eB), RdS.cells hmX, RdS.len rv sl22, RdS.idx rv sl22, R1.intB rv (Ext.pres eB), RdS.cells rv, RdS.len (OS.rd how1_6_0) sl22, RdS.idx (OS.rd how1_6_0) sl22, R1.intN (OS.rd how1_6_0), RdS.cells (OS.rd how1_6_0), RdS.len (OS.rd how2_4_0) sl22, RdS.idx (OS.rd how2_4_0) sl22, R1.intN (OS.rd how2_4_0), RdS.cells (OS.rd how2_4_0), BoxAt.cell hb0_0, wrap_id]
  refine hK _ _ ?_
  clear hK K
  refine den_seq ?_
  have hrr := hrB
  have hrv : (spC X n v).length = (dimP X n).toNat ∧ (dimP X n).toNat ≤ 1000 := ⟨by omega, by omega⟩
  have hrb := hbc
  refine den_draw TTok mixed [] [(0, true), (1, true), (2, true), (3, true), (5, true), (4, false), (6, false), (7, true)] (by kernel_rfl) ?_
  intro K hK
  simp -implicitDefEqProofs (disch := first | decide | assumption | omega) only [go_sem, fa30_0, ld2, ld30, RdS.len hdX sl22, RdS.idx hdX sl22, R1.intB hdX (Ext.pres eB), RdS.cells hdX, RdS.len hmX sl23, RdS.idx hmX sl23, RdS.cellB hmX (Ext.pres eB), RdS.cells hmX, RdS.len rv sl22, RdS.idx rv sl22, R1.intB rv (Ext.pres eB), RdS.cells rv, RdS.len (OS.rd how1_6_0) sl22, RdS.idx (OS.rd how1_6_0) sl22, R1.intN (OS.rd how1_6_0), RdS.cells (OS.rd how1_6_0), RdS.len (OS.rd how2_4_0) sl22, RdS.idx (OS.rd how2_4_0) sl22, R1.intN (OS.rd how2_4_0), RdS.cells (OS.rd how2_4_0), BoxAt.cell hb0_0, wrap_id]
  try simp -implicitDefEqProofs (disch := first | decide | assumption | omega) only [go_sem, RdS.len hdX sl22, RdS.idx hdX sl22, R1.intB hdX (Ext.pres eB), RdS.cells hdX, RdS.len hmX sl23, RdS.idx hmX sl23, RdS.cellB hmX (Ext.pres eB), RdS.cells hmX, RdS.len rv sl22, RdS.idx rv sl22, R1.intB rv (Ext.pres eB), RdS.cells rv, RdS.len (OS.rd how1_6_0) sl22, RdS.idx (OS.rd how1_6_0) sl22, R1.intN (OS.rd how1_6_0), RdS.cells (OS.rd how1_6_0), RdS.len (OS.rd how2_4_0) sl22, RdS.idx (OS.rd how2_4_0) sl22, R1.intN (OS.rd how2_4_0), RdS.cells (OS.rd how2_4_0), BoxAt.cell hb0_0, wrap_id]
  refine CallA.mono (sBnd_ok _ X n _ ⟨_, _, rfl, (RdS.pres hdX (Ext.pres eB)), (RdS.pres hmX (Ext.pres eB))⟩ hCx (by omega)) ?_
  intro vw3_4_0 h3_4
  rintro ⟨zvw3_4_0, fw3_4_0, rfl, how3_4_0, hfw3_4_0, e3_4⟩
  replace how1_6_0 := OS.ext how1_6_0 e3_4
  replace how2_4_0 := OS.ext how2_4_0 e3_4
  replace hb0_0 := BoxAt.ext hb0_0 e3_4
  have := Ext.size e3_4
  replace eB := Ext.trans eB e3_4
  have hlhow3_4_0 := OS.lt how3_4_0
  try simp (disch := decide) only [outv_some, outv_none, put_puts]
  refine plK_pres (Ext.pres e3_4) ?_
  try simp -implicitDefEqProofs (disch := first | decide | assumption | omega) only [go_sem, RdS.len hdX sl22, RdS.idx hdX sl22, R1.intB hdX (Ext.pres eB), RdS.cells hdX, RdS.len hmX sl23, RdS.idx hmX sl23, RdS.cellB hmX (Ext.pres eB), RdS.cells hmX, RdS.len rv sl22, RdS.idx rv sl22, R1.intB rv (Ext.pres eB), RdS.cells rv, RdS.len (OS.rd how1_6_0) sl22, RdS.idx (OS.rd how1_6_0) sl22, R1.intN (OS.rd how1_6_0), RdS.cells (OS.rd how1_6_0), RdS.len (OS.rd how2_4_0) sl22, RdS.idx (OS.rd how2_4_0) sl22, R1.intN (OS.rd how2_4_0), RdS.cells (OS.rd how2_4_0), RdS.len (OS.rd how3_4_0) sl36, RdS.idx (OS.rd how3_4_0) sl36, RdS.cellN (OS.rd how3_4_0), RdS.cells (OS.rd how3_4_0), BoxAt.cell hb0_0, wrap_id]
  try simp -implicitDefEqProofs (disch := first | decide | assumption | omega) only [go_sem, RdS.len hdX sl22, RdS.idx hdX sl22, R1.intB hdX (Ext.pres eB), RdS.cells hdX, RdS.len hmX sl23, RdS.idx hmX sl23, RdS.cellB hmX (Ext.pres eB), RdS.cells hmX, RdS.len rv sl22, RdS.idx rv sl22, R1.intB rv (Ext.pres eB), RdS.cells rv, RdS.len (OS.rd how1_6_0) sl22, RdS.idx (OS.rd how1_6_0) sl22, R1.intN (OS.rd how1_6_0), RdS.cells (OS.rd how1_6_0), RdS.len (OS.rd how2_4_0) sl22, RdS.idx (OS.rd how2_4_0) sl22, R1.intN (OS.rd how2_4_0), RdS.cells (OS.rd how2_4_0), RdS.len (OS.rd how3_4_0) sl36, RdS.idx (OS.rd how3_4_0) sl36, RdS.cellN (OS.rd how3_4_0), RdS.cells (OS.rd how3_4_0), BoxAt.cell hb0_0, wrap_id]
  refine CallA.mono (sRest_ok _ _ X.p (bndP X n) (spC X n v) _ (OS.rd how3_4_0) (OS.rd how2_4_0) hP hrr hrv hrb) ?_
  intro vw3_6_0 h3_6
  rintro ⟨zvw3_6_0, fw3_6_0, rfl, how3_6_0, hfw3_6_0, e3_6⟩
  replace how1_6_0 := OS.ext how1_6_0 e3_6
  replace how2_4_0 := OS.ext how2_4_0 e3_6
  replace how3_4_0 := OS.ext how3_4_0 e3_6
  replace hb0_0 := BoxAt.ext hb0_0 e3_6
  have := Ext.size e3_6
  replace eB := Ext.trans eB e3_6
  change O1 _ _ (spH X n v) _ at how3_6_0
  have hlhow3_6_0 := OS.lt how3_6_0
  try simp (disch := decide) only [outv_some, outv_none, put_puts]
  refine plK_pres (Ext.pres e3_6) ?_
  try simp -implicitDefEqProofs (disch := first | decide | assumption | omega) only [go_sem, RdS.len hdX sl22, RdS.idx hdX sl22, R1.intB hdX (Ext.pres eB), RdS.cells hdX, RdS.len hmX sl23, RdS.idx hmX sl23, RdS.cellB hmX (Ext.pres eB), RdS.cells hmX, RdS.len rv sl22, RdS.idx rv sl22, R1.intB rv (Ext.pres eB), RdS.cells rv, RdS.len (OS.rd how1_6_0) sl22, RdS.idx (OS.rd how1_6_0) sl22, R1.intN (OS.rd how1_6_0), RdS.cells (OS.rd how1_6_0), RdS.len (OS.rd how2_4_0) sl22, RdS.idx (OS.rd how2_4_0) sl22, R1.intN (OS.rd how2_4_0), RdS.cells (OS.rd how2_4_0), RdS.len (OS.rd how3_4_0) sl36, RdS.idx (OS.rd how3_4_0) sl36, RdS.cellN (OS.rd how3_4_0), RdS.cells (OS.rd how3_4_0), RdS.len (OS.rd how3_6_0) sl22, RdS.idx (OS.rd how3_6_0) sl22, R1.intN (OS.rd how3_6_0), RdS.cells (OS.rd how3_6_0), BoxAt.cell hb0_0, wrap_id]
  refine hK _ _ ?_
  clear hK K
  refine den_seq ?_
  have hto : ((spC X n v).length = (spH X n v).length ∧ (spC X n v).length ≤ 8) ∧ Bnd X.p (spC X n v) ∧ Bnd X.p (spH X n v) := ⟨by omega, hbc, hbh⟩
  have hmi : ((spC X n v).length ≤ (spH X n v).length ∧ (spC X n v).length ≤ 1000) ∧ Bnd X.p (spC X n v) ∧ Bnd X.p (spH X n v) := ⟨by omega, hbc, hbh⟩
  refine den_region TTok ?_
  intro K hK
  simp -implicitDefEqProofs (disch := first | decide | assumption | omega) only [go_sem, fa30_0, ld2, RdS.len hdX sl22, RdS.idx hdX sl22, R1.intB hdX (Ext.pres eB), RdS.cells hdX, RdS.len hmX sl23, RdS.idx hmX sl23, RdS.cellB hmX (Ext.pres eB), RdS.cells hmX, RdS.len rv sl22, RdS.idx rv sl22, R1.intB rv (Ext.pres eB), RdS.cells rv, RdS.len (OS.rd how1_6_0) sl22, RdS.idx (OS.rd how1_6_0) sl22, R1.intN (OS.rd how1_6_0), RdS.cells (OS.rd how1_6_0), RdS.len (OS.rd how2_4_0) sl22, RdS.idx (OS.rd how2_4_0) sl22, R1.intN (OS.rd how2_4_0), RdS.cells (OS.rd how2_4_0), RdS.len (OS.rd how3_6_0) sl22, RdS.idx (OS.rd how3_6_0) sl22, R1.intN (OS.rd how3_6_0), RdS.cells (OS.rd how3_6_0), BoxAt.cell hb0_0, wrap_id]
  try simp -implicitDefEqProofs (disch := first | decide | assumption | omega) only [go_sem, RdS.len hdX sl22, RdS.idx hdX sl22, R1.intB hdX (Ext.pres eB), RdS.cells hdX, RdS.len hmX sl23, RdS.idx hmX sl23, RdS.cellB hmX (Ext.pres eB), RdS.cells hmX, RdS.len rv sl22, RdS.idx rv sl22, R1.intB rv (Ext.pres eB), RdS.cells rv, RdS.len (OS.rd how1_6_0) sl22, RdS.idx (OS.rd how1_6_0) sl22, R1.intN (OS.rd how1_6_0), RdS.cells (OS.rd how1_6_0), RdS.len (OS.rd how2_4_0) sl22, RdS.idx (OS.rd how2_4_0) sl22, R1.intN (OS.rd how2_4_0), RdS.cells (OS.rd how2_4_0), RdS.len (OS.rd how3_6_0) sl22, RdS.idx (OS.rd how3_6_0) sl22, R1.intN (OS.rd how3_6_0), RdS.cells (OS.rd how3_6_0), BoxAt.cell hb0_0, wrap_id]
  refine CallA.mono (sMinus_ok _ _ X.p (spC X n v) (spH X n v) _ (OS.rd how2_4_0) (OS.rd how3_6_0) (by omega) hmi.1 hmi.2.1 hmi.2.2) ?_
  intro vw4_4_0 h4_4
  rintro ⟨zvw4_4_0, fw4_4_0, rfl, how4_4_0, hfw4_4_0, e4_4⟩
  replace how1_6_0 := OS.ext how1_6_0 e4_4
  replace how2_4_0 := OS.ext how2_4_0 e4_4
  replace how3_6_0 := OS.ext how3_6_0 e4_4
  replace hb0_0 := BoxAt.ext hb0_0 e4_4
  have := Ext.size e4_4
  replace eB := Ext.trans eB e4_4
  change O1 _ _ (spB X n v) _ at how4_4_0
  have hlhow4_4_0 := OS.lt how4_4_0
  try simp -implicitDefEqProofs (disch := first | decide | assumption | omega) only [go_sem, RdS.len hdX sl22, RdS.idx hdX sl22, R1.intB hdX (Ext.pres eB), RdS.cells hdX, RdS.len hmX sl23, RdS.idx hmX sl23, RdS.cellB hmX (Ext.pres eB), RdS.cells hmX, RdS.len rv sl22, RdS.idx rv sl22, R1.intB rv (Ext.pres eB), RdS.cells rv, RdS.len (OS.rd how1_6_0) sl22, RdS.idx (OS.rd how1_6_0) sl22, R1.intN (OS.rd how1_6_0), RdS.cells (OS.rd how1_6_0), RdS.len (OS.rd how2_4_0) sl22, RdS.idx (OS.rd how2_4_0) sl22, R1.intN (OS.rd how2_4_0), RdS.cells (OS.rd how2_4_0), RdS.len (OS.rd how3_6_0) sl22, RdS.idx (OS.rd how3_6_0) sl22, R1.intN (OS.rd how3_6_0), RdS.cells (OS.rd how3_6_0), RdS.len (OS.rd how4_4_0) sl22, RdS.idx (OS.rd how4_4_0) sl22, R1.intN (OS.rd how4_4_0), RdS.cells (OS.rd how4_4_0), BoxAt.cell hb0_0, wrap_id]
  refine op_bs3O how4_4_0 how3_6_0 how1_6_0 ?_
  intro v4_7 h4_7 ho4_7 e4_7 hsz4_7
  have hfho4_7 : Fresh h.size (h4_4.size :: (fw4_4_0 ++ (fw3_6_0 ++ fw1_6_0))) := Fresh.two (l1 := h4_4.size) (fp := [h4_4.size]) (Fresh.one _) (Fresh.two (hfw4_4_0.mono (Nat.le_refl _)) (Fresh.two hfw3_6_0 hfw1_6_0 (apart_gt hfw3_6_0 hlhow1_6_0 (by omega)) (lo := h.size) (by omega) (by omega)) (Apart.app (apart_gt hfw4_4_0 hlhow3_6_0 (by omega)) (apart_gt hfw4_4_0 hlhow1_6_0 (by omega))) (lo := h.size) (by omega) (by omega)) (Apart.symm (Apart.app_l (one_new hlhow4_4_0 (by omega)) (Apart.app_l (one_new hlhow3_6_0 (by omega)) (one_new hlhow1_6_0 (by omega))))) (by omega) (by omega)
  replace how2_4_0 := OS.ext how2_4_0 e4_7
  replace hb0_0 := BoxAt.ext hb0_0 e4_7
  have := Ext.size e4_7
  replace eB := Ext.trans eB e4_7
  have hlho4_7 := OS.lt ho4_7
  try simp -implicitDefEqProofs (disch := first | decide | assumption | omega) only [go_sem, RdS.len hdX sl22, RdS.idx hdX sl22, R1.intB hdX (Ext.pres eB), RdS.cells hdX, RdS.len hmX sl23, RdS.idx hmX sl23, RdS.cellB hmX (Ext.pres eB), RdS.cells hmX, RdS.len rv sl22, RdS.idx rv sl22, R1.intB rv (Ext.pres eB), RdS.cells rv, RdS.len (OS.rd how2_4_0) sl22, RdS.idx (OS.rd how2_4_0) sl22, R1.intN (OS.rd how2_4_0), RdS.cells (OS.rd how2_4_0), RdS.len (OS.rd ho4_7) sl36, RdS.idx (OS.rd ho4_7) sl36, RdS.cellN (OS.rd ho4_7), RdS.cells (OS.rd ho4_7), BoxAt.cell hb0_0, wrap_id]
  refine hK _ _ ?_
  clear hK K
  refine den_ret ?_
  simp (disch := decide) only [resP_1, puts_same, puts_ne]
  exact ⟨_, _, rfl, ho4_7, hfho4_7.mono (by omega), eB⟩

set_option maxRecDepth 100000 in
theorem iSV_ok (vX vv : Value) (X : Cx) (n : Int) (v : List Int) (h : Heap) (rX : RC h vX X) (rv : R1 h vv v)  : CallA Try.prog 49 #[vX, .int .i64 n, vv] h fun v' h' => ∃ w0 f0, v' = .tuple #[w0, .int .i64 ((spR X n v).2)] ∧ O2 h' w0 ((spR X n v).1) f0 ∧ Fresh h.size f0 ∧ Ext h h' := by
  obtain ⟨vdX, vmX, rfl, hdX, hmX⟩ := rX
  have hledX := RdS.le hdX
  have hlemX := RdS.le hmX
  have hlev := RdS.le rv
  refine callA_intro TTok (args := [_, _, _]) Try.func49 (by kernel_rfl) rfl 44 rfl (by simp) [.tmp 6, .tmp 7] rfl ?_
  simp only [idxs, Nat.reduceAdd]
  refine den_seq ?_
  refine den_region TTok ?_
  intro K hK
  simp -implicitDefEqProofs (disch := first | decide | assumption | omega) only [go_sem, RdS.len hdX sl22, RdS.idx hdX sl22, R1.intB hdX (HPres.refl _), RdS.cells hdX, RdS.len hmX sl23, RdS.idx hmX sl23, RdS.cellB hmX (HPres.refl _), RdS.cells hmX, RdS.len rv sl22, RdS.idx rv sl22, R1.intB rv (HPres.refl _), RdS.cells rv, wrap_id]
  refine op_box (cs := #[.int .i64 (X.p), vdX, vmX]) rfl ?_
  intro h0_0 e0_0 hb0_0 z0_0
  have := Ext.size e0_0
  have eB := e0_0
  have hfhb0_0 : Fresh h.size [h.size] := Fresh.one _
  have hlhb0_0 := one_lt (show h.size < h0_0.size by omega)
  try simp -implicitDefEqProofs (disch := first | decide | assumption | omega) only [go_sem, RdS.len hdX sl22, RdS.idx hdX sl22, R1.intB hdX (Ext.pres eB), RdS.cells hdX, RdS.len hmX sl23, RdS.idx hmX sl23, RdS.cellB hmX (Ext.pres eB), RdS.cells hmX, RdS.len rv sl22, RdS.idx rv sl22, R1.intB rv (Ext.pres eB), RdS.cells rv, BoxAt.cell hb0_0, wrap_id]
  refine hK _ _ ?_
  clear hK K
  refine den_seq ?_
  refine den_region TTok ?_
  intro K hK
  simp -implicitDefEqProofs (disch := first | decide | assumption | omega) only [go_sem, ld30, RdS.len hdX sl22, RdS.idx hdX sl22, R1.intB hdX (Ext.pres eB), RdS.cells hdX, RdS.len hmX sl23, RdS.idx hmX sl23, RdS.cellB hmX (Ext.pres eB), RdS.cells hmX, RdS.len rv sl22, RdS.idx rv sl22, R1.intB rv (Ext.pres eB), RdS.cells rv, BoxAt.cell hb0_0, wrap_id]
  try simp -implicitDefEqProofs (disch := first | decide | assumption | omega) only [go_sem, RdS.len hdX sl22, RdS.idx hdX sl22, R1.intB hdX (Ext.pres eB), RdS.cells hdX, RdS.len hmX sl23, RdS.idx hmX sl23, RdS.cellB hmX (Ext.pres eB), RdS.cells hmX, RdS.len rv sl22, RdS.idx rv sl22, R1.intB rv (Ext.pres eB), RdS.cells rv, BoxAt.cell hb0_0, wrap_id]
  refine CallA.mono (iDeg_ok _ X n _ ⟨_, _, rfl, (RdS.pres hdX (Ext.pres eB)), (RdS.pres hmX (Ext.pres eB))⟩ ) ?_
  intro v_ h1_2
  rintro ⟨rfl, e1_2⟩
  replace hb0_0 := BoxAt.ext hb0_0 e1_2
  have := Ext.size e1_2
  replace eB := Ext.trans eB e1_2
  try simp -implicitDefEqProofs (disch := first | decide | assumption | omega) only [go_sem, RdS.len hdX sl22, RdS.idx hdX sl22, R1.intB hdX (Ext.pres eB), RdS.cells hdX, RdS.len hmX sl23, RdS.idx hmX sl23, RdS.cellB hmX (Ext.pres eB), RdS.cells hmX, RdS.len rv sl22, RdS.idx rv sl22, R1.intB rv (Ext.pres eB), RdS.cells rv, BoxAt.cell hb0_0, wrap_id]
  refine hK _ _ ?_
  clear hK K
  refine den_seq ?_
  refine den_seq ?_
  refine den_merge [(28, .bool ((((degC X n) == (0 : Int)) && (!((isRow X.p ((X.dims).getD (n).toNat 0) (v)))))))] [1, 2, 3, 8] (fun H => Ext h1_2 H) ?_ ?_
    -- a way
  · refine den_draw TTok mixed [] [(0, true), (1, true), (2, true), (3, true), (4, true), (5, true), (6, true), (7, true), (8, true), (9, true), (10, true), (11, false), (12, true), (13, true)] (by kernel_rfl) ?_
    intro K hK
    simp -implicitDefEqProofs (disch := first | decide | assumption | (simp (disch := decide) only [slotOf_zero, slotOf_succ, Option.map_some, puts_same, puts_ne, gv_bool, gv_undef, tt, tf, ft, ff, eq_self, if_true, if_false, Bool.false_eq_true, Bool.not_true, Bool.not_false]; done) | omega) only [go_sem, RdS.len hdX sl22, RdS.idx hdX sl22, R1.intB hdX (Ext.pres eB), RdS.cells hdX, RdS.len hmX sl23, RdS.idx hmX sl23, RdS.cellB hmX (Ext.pres eB), RdS.cells hmX, RdS.len rv sl22, RdS.idx rv sl22, R1.intB rv (Ext.pres eB), RdS.cells rv, BoxAt.cell hb0_0, wrap_id]
    refine plG_T (by simp (disch := decide) only [slotOf_zero, slotOf_succ, Option.map_some, puts_same, puts_ne, gv_bool, gv_undef, tt, tf, ft, ff, eq_self, if_true, if_false, Bool.false_eq_true, Bool.not_true, Bool.not_false]; rfl) (fun g1 => ?_) (fun g1 => ?_)
    · obtain ⟨hC, hn0, hn1⟩ := degC_0 (b0 g1)
      have hlX := hC.len
      have hpb := isP_bnd hC.p
      try simp -implicitDefEqProofs (disch := first | decide | assumption | (simp (disch := decide) only [slotOf_zero, slotOf_succ, Option.map_some, puts_same, puts_ne, gv_bool, gv_undef, tt, tf, ft, ff, eq_self, if_true, if_false, Bool.false_eq_true, Bool.not_true, Bool.not_false, g1]; done) | omega) only [go_sem, fa30_0, fa30_1, ld22, ld2, RdS.len hdX sl22, RdS.idx hdX sl22, R1.intB hdX (Ext.pres eB), RdS.cells hdX, RdS.len hmX sl23, RdS.idx hmX sl23, RdS.cellB hmX (Ext.pres eB), RdS.cells hmX, RdS.len rv sl22, RdS.idx rv sl22, R1.intB rv (Ext.pres eB), RdS.cells rv, BoxAt.cell hb0_0, wrap_id, g1, eq_self, if_true, if_false, Bool.false_eq_true]
      try simp -implicitDefEqProofs (disch := first | decide | assumption | omega) only [go_sem, RdS.len hdX sl22, RdS.idx hdX sl22, R1.intB hdX (Ext.pres eB), RdS.cells hdX, RdS.len hmX sl23, RdS.idx hmX sl23, RdS.cellB hmX (Ext.pres eB), RdS.cells hmX, RdS.len rv sl22, RdS.idx rv sl22, R1.intB rv (Ext.pres eB), RdS.cells rv, BoxAt.cell hb0_0, wrap_id]
      refine CallA.mono (isVec_ok _ _ _ _ _ (RdS.pres rv (Ext.pres eB)) (by omega)) ?_
      intro v_ h2_11
      rintro ⟨rfl, e2_11⟩
      replace hb0_0 := BoxAt.ext hb0_0 e2_11
      have := Ext.size e2_11
      replace eB := Ext.trans eB e2_11
      try simp (disch := decide) only [outv_some, outv_none, put_puts]
      refine plK_pres (Ext.pres e2_11) ?_
      try simp -implicitDefEqProofs (disch := first | decide | assumption | (simp (disch := decide) only [slotOf_zero, slotOf_succ, Option.map_some, puts_same, puts_ne, gv_bool, gv_undef, tt, tf, ft, ff, eq_self, if_true, if_false, Bool.false_eq_true, Bool.not_true, Bool.not_false, g1]; done) | omega) only [go_sem, RdS.len hdX sl22, RdS.idx hdX sl22, R1.intB hdX (Ext.pres eB), RdS.cells hdX, RdS.len hmX sl23, RdS.idx hmX sl23, RdS.cellB hmX (Ext.pres eB), RdS.cells hmX, RdS.len rv sl22, RdS.idx rv sl22, R1.intB rv (Ext.pres eB), RdS.cells rv, BoxAt.cell hb0_0, wrap_id, g1, eq_self, if_true, if_false, Bool.false_eq_true]
      refine hK _ _ ?_
      clear hK K
      refine den_stop ?_
      refine ⟨?_, e2_11⟩
      first | (simp (disch := decide) only [go_sem, g1, eq_self, Bool.true_and, Bool.and_true, Bool.false_and, Bool.and_false, Bool.true_or, Bool.or_true, Bool.false_or, Bool.or_false, if_true, if_false, Bool.false_eq_true]; done) | simp [HasL, sel, puts_at, g1]
    · try simp -implicitDefEqProofs (disch := first | decide | assumption | (simp (disch := decide) only [slotOf_zero, slotOf_succ, Option.map_some, puts_same, puts_ne, gv_bool, gv_undef, tt, tf, ft, ff, eq_self, if_true, if_false, Bool.false_eq_true, Bool.not_true, Bool.not_false, g1]; done) | omega) only [go_sem, RdS.len hdX sl22, RdS.idx hdX sl22, R1.intB hdX (Ext.pres eB), RdS.cells hdX, RdS.len hmX sl23, RdS.idx hmX sl23, RdS.cellB hmX (Ext.pres eB), RdS.cells hmX, RdS.len rv sl22, RdS.idx rv sl22, R1.intB rv (Ext.pres eB), RdS.cells rv, BoxAt.cell hb0_0, wrap_id, g1, eq_self, if_true, if_false, Bool.false_eq_true]
      refine hK _ _ ?_
      clear hK K
      refine den_stop ?_
      refine ⟨?_, Ext.refl _⟩
      first | (simp (disch := decide) only [go_sem, g1, eq_self, Bool.true_and, Bool.and_true, Bool.false_and, Bool.and_false, Bool.true_or, Bool.or_true, Bool.false_or, Bool.or_false, if_true, if_false, Bool.false_eq_true]; done) | simp [HasL, sel, puts_at, g1]
  intro en2 h3 e4
  replace hb0_0 := BoxAt.ext hb0_0 e4
  have := Ext.size e4
  replace eB := Ext.trans eB e4
  simp (disch := decide) only [go_sem]
  refine den_mergeH [(8, .int .i64 ((cadd (degC X n) (2 : Int) (!((isRow X.p ((X.dims).getD (n).toNat 0) (v)))))))] [1, 2, 3] ?_ ?_
  · refine den_cond rfl (fun c0 => ?_) (fun c0 => ?_)
    · refine den_region TTok ?_
      intro K hK
      simp -implicitDefEqProofs (disch := first | decide | assumption | omega) only [go_sem, RdS.len hdX sl22, RdS.idx hdX sl22, R1.intB hdX (Ext.pres eB), RdS.cells hdX, RdS.len hmX sl23, RdS.idx hmX sl23, RdS.cellB hmX (Ext.pres eB), RdS.cells hmX, RdS.len rv sl22, RdS.idx rv sl22, R1.intB rv (Ext.pres eB), RdS.cells rv, BoxAt.cell hb0_0, wrap_id]
      refine hK _ _ ?_
      clear hK K
      refine den_stop ?_
      refine ⟨?_, rfl⟩; simp (disch := decide) only [go_sem, c0, caddT c0, eq_self, if_true, if_false, Bool.false_eq_true, reduceCtorEq]
    · refine den_skip ?_
      refine den_stop ?_
      refine ⟨?_, rfl⟩; simp (disch := decide) only [go_sem, c0, caddF c0, eq_self, if_true, if_false, Bool.false_eq_true, reduceCtorEq]
  intro en5
  simp (disch := decide) only [go_sem]
  refine den_seq ?_
  refine den_seq ?_
  refine den_region TTok ?_
  intro K hK
  simp -implicitDefEqProofs (disch := first | decide | assumption | omega) only [go_sem, RdS.len hdX sl22, RdS.idx hdX sl22, R1.intB hdX (Ext.pres eB), RdS.cells hdX, RdS.len hmX sl23, RdS.idx hmX sl23, RdS.cellB hmX (Ext.pres eB), RdS.cells hmX, RdS.len rv sl22, RdS.idx rv sl22, R1.intB rv (Ext.pres eB), RdS.cells rv, BoxAt.cell hb0_0, wrap_id]
  refine hK _ _ ?_
  clear hK K
  refine den_cond rfl (fun c1 => ?_) (fun c1 => ?_)
  · try simp only [decide_eq_true_eq, decide_eq_false_iff_not, beq_iff_eq, beq_eq_false_iff_ne, bne_iff_ne, ne_eq, Bool.not_eq_true', Bool.not_eq_false', Bool.and_eq_true, Bool.or_eq_true, bne_eq_false_iff_eq] at c1
    refine den_seq ?_
    refine den_region TTok ?_
    intro K hK
    simp -implicitDefEqProofs (disch := first | decide | assumption | omega) only [go_sem, RdS.len hdX sl22, RdS.idx hdX sl22, R1.intB hdX (Ext.pres eB), RdS.cells hdX, RdS.len hmX sl23, RdS.idx hmX sl23, RdS.cellB hmX (Ext.pres eB), RdS.cells hmX, RdS.len rv sl22, RdS.idx rv sl22, R1.intB rv (Ext.pres eB), RdS.cells rv, wrap_id]
    refine hK _ _ ?_
    clear hK K
    refine den_ret ?_
    simp (disch := decide) only [resP_2, puts_same, puts_ne]
    have hz : spR X n v = ([], spD X n v) := by rw [spR, if_neg (fun h => c1 ((spD_eq X n v).trans h))]
    rw [hz, ← spD_eq]
    exact ⟨.slice none 0 0, [], rfl, OS.nil, Fresh.nil _, eB⟩
  · try simp only [decide_eq_true_eq, decide_eq_false_iff_not, beq_iff_eq, beq_eq_false_iff_ne, bne_iff_ne, ne_eq, Bool.not_eq_true', Bool.not_eq_false', Bool.and_eq_true, Bool.or_eq_true, bne_eq_false_iff_eq] at c1
    have hsp := spD_0 ((spD_eq X n v).symm.trans (show spC_ X n v = 0 from c1))
    refine den_skip ?_
    refine den_seq ?_
    refine den_region TTok ?_
    intro K hK
    simp -implicitDefEqProofs (disch := first | decide | assumption | omega) only [go_sem, ld30, RdS.len hdX sl22, RdS.idx hdX sl22, R1.intB hdX (Ext.pres eB), RdS.cells hdX, RdS.len hmX sl23, RdS.idx hmX sl23, RdS.cellB hmX (Ext.pres eB), RdS.cells hmX, RdS.len rv sl22, RdS.idx rv sl22, R1.intB rv (Ext.pres eB), RdS.cells rv, BoxAt.cell hb0_0, wrap_id]
    try simp -implicitDefEqProofs (disch := first | decide | assumption | omega) only [go_sem, RdS.len hdX sl22, RdS.idx hdX sl22, R1.intB hdX (Ext.pres eB), RdS.cells hdX, RdS.len hmX sl23, RdS.idx hmX sl23, RdS.cellB hmX (Ext.pres eB), RdS.cells hmX, RdS.len rv sl22, RdS.idx rv sl22, R1.intB rv (Ext.pres eB), RdS.cells rv, BoxAt.cell hb0_0, wrap_id]
    refine CallA.mono (iSplit_ok _ _ X n v _ ⟨_, _, rfl, (RdS.pres hdX (Ext.pres eB)), (RdS.pres hmX (Ext.pres eB))⟩ (RdS.pres rv (Ext.pres eB)) hsp) ?_
    intro v_ h6_3
    rintro ⟨vw6_3_0, fw6_3_0, vw6_3_1, fw6_3_1, vw6_3_2, fw6_3_2, rfl, how6_3_0, hfw6_3_0, how6_3_1, hfw6_3_1, how6_3_2, hfw6_3_2, hap6_3_0_1, hap6_3_0_2, hap6_3_1_2, e6_3⟩
    replace hb0_0 := BoxAt.ext hb0_0 e6_3
    have := Ext.size e6_3
    replace eB := Ext.trans eB e6_3
    have hlhow6_3_0 := OS.lt how6_3_0
    have hlhow6_3_1 := OS.lt how6_3_1
    have hlhow6_3_2 := OS.lt how6_3_2
    have ap6 : Apart fw6_3_0 fw6_3_1 := hap6_3_0_1
    have ap7 : Apart fw6_3_0 fw6_3_2 := hap6_3_0_2
    have ap8 : Apart fw6_3_1 fw6_3_2 := hap6_3_1_2
    try simp -implicitDefEqProofs (disch := first | decide | assumption | omega) only [go_sem, RdS.len hdX sl22, RdS.idx hdX sl22, R1.intB hdX (Ext.pres eB), RdS.cells hdX, RdS.len hmX sl23, RdS.idx hmX sl23, RdS.cellB hmX (Ext.pres eB), RdS.cells hmX, RdS.len rv sl22, RdS.idx rv sl22, R1.intB rv (Ext.pres eB), RdS.cells rv, RdS.len (OS.rd how6_3_0) sl22, RdS.idx (OS.rd how6_3_0) sl22, R1.intN (OS.rd how6_3_0), RdS.cells (OS.rd how6_3_0), RdS.len (OS.rd how6_3_1) sl22, RdS.idx (OS.rd how6_3_1) sl22, R1.intN (OS.rd how6_3_1), RdS.cells (OS.rd how6_3_1), RdS.len (OS.rd how6_3_2) sl22, RdS.idx (OS.rd how6_3_2) sl22, R1.intN (OS.rd how6_3_2), RdS.cells (OS.rd how6_3_2), BoxAt.cell hb0_0, wrap_id]
    refine hK _ _ ?_
    clear hK K
    refine den_seq ?_
    refine den_region TTok ?_
    intro K hK
    simp -implicitDefEqProofs (disch := first | decide | assumption | omega) only [go_sem, RdS.len hdX sl22, RdS.idx hdX sl22, R1.intB hdX (Ext.pres eB), RdS.cells hdX, RdS.len hmX sl23, RdS.idx hmX sl23, RdS.cellB hmX (Ext.pres eB), RdS.cells hmX, RdS.len rv sl22, RdS.idx rv sl22, R1.intB rv (Ext.pres eB), RdS.cells rv, RdS.len (OS.rd how6_3_0) sl22, RdS.idx (OS.rd how6_3_0) sl22, R1.intN (OS.rd how6_3_0), RdS.cells (OS.rd how6_3_0), RdS.len (OS.rd how6_3_1) sl22, RdS.idx (OS.rd how6_3_1) sl22, R1.intN (OS.rd how6_3_1), RdS.cells (OS.rd how6_3_1), RdS.len (OS.rd how6_3_2) sl22, RdS.idx (OS.rd how6_3_2) sl22, R1.intN (OS.rd how6_3_2), RdS.cells (OS.rd how6_3_2), wrap_id]
    refine op_bs3O how6_3_0 how6_3_1 how6_3_2 ?_
    intro v7_3 h7_3 ho7_3 e7_3 hsz7_3
    have hfho7_3 : Fresh h.size (h6_3.size :: (fw6_3_0 ++ (fw6_3_1 ++ fw6_3_2))) := Fresh.two (l1 := h6_3.size) (fp := [h6_3.size]) (Fresh.one _) (Fresh.two (hfw6_3_0.mono (Nat.le_refl _)) (Fresh.two hfw6_3_1 hfw6_3_2 ap8 (lo := h.size) (by omega) (by omega)) (Apart.app ap6 ap7) (lo := h.size) (by omega) (by omega)) (Apart.symm (Apart.app_l (one_new hlhow6_3_0 (by omega)) (Apart.app_l (one_new hlhow6_3_1 (by omega)) (one_new hlhow6_3_2 (by omega))))) (by omega) (by omega)
    have := Ext.size e7_3
    replace eB := Ext.trans eB e7_3
    have hlho7_3 := OS.lt ho7_3
    try simp -implicitDefEqProofs (disch := first | decide | assumption | omega) only [go_sem, RdS.len hdX sl22, RdS.idx hdX sl22, R1.intB hdX (Ext.pres eB), RdS.cells hdX, RdS.len hmX sl23, RdS.idx hmX sl23, RdS.cellB hmX (Ext.pres eB), RdS.cells hmX, RdS.len rv sl22, RdS.idx rv sl22, R1.intB rv (Ext.pres eB), RdS.cells rv, RdS.len (OS.rd ho7_3) sl36, RdS.idx (OS.rd ho7_3) sl36, RdS.cellN (OS.rd ho7_3), RdS.cells (OS.rd ho7_3), wrap_id]
    refine hK _ _ ?_
    clear hK K
    refine den_ret ?_
    simp (disch := decide) only [resP_2, puts_same, puts_ne]
    have hz : spR X n v = ([spB X n v, spH X n v, spW X n v], 0) := by rw [spR, if_pos ((spD_eq X n v).symm.trans (show spC_ X n v = 0 from c1))]
    rw [hz]
    exact ⟨_, _, rfl, ho7_3, hfho7_3.mono (by omega), eB⟩

set_option maxRecDepth 100000 in
theorem sSV_ok (vX vv : Value) (X : Cx) (n : Int) (v : List Int) (h : Heap) (rX : RC h vX X) (rv : R1 h vv v)  : CallA Try.prog 47 #[vX, .int .i64 n, vv] h fun v' h' => ∃ w0 f0, v' = .tuple #[w0, .int .i64 ((spR X n v).2)] ∧ O2 h' w0 ((spR X n v).1) f0 ∧ Fresh h.size f0 ∧ Ext h h' := by
  obtain ⟨vdX, vmX, rfl, hdX, hmX⟩ := rX
  have hledX := RdS.le hdX
  have hlemX := RdS.le hmX
  have hlev := RdS.le rv
  refine callA_intro TTok (args := [_, _, _]) Try.func47 (by kernel_rfl) rfl 28 rfl (by simp) [.tmp 6, .tmp 7] rfl ?_
  simp only [idxs, Nat.reduceAdd]
  refine den_seq ?_
  refine den_region TTok ?_
  intro K hK
  simp -implicitDefEqProofs (disch := first | decide | assumption | omega) only [go_sem, RdS.len hdX sl22, RdS.idx hdX sl22, R1.intB hdX (HPres.refl _), RdS.cells hdX, RdS.len hmX sl23, RdS.idx hmX sl23, RdS.cellB hmX (HPres.refl _), RdS.cells hmX, RdS.len rv sl22, RdS.idx rv sl22, R1.intB rv (HPres.refl _), RdS.cells rv, wrap_id]
  refine op_box (cs := #[.int .i64 (X.p), vdX, vmX]) rfl ?_
  intro h0_0 e0_0 hb0_0 z0_0
  have := Ext.size e0_0
  have eB := e0_0
  have hfhb0_0 : Fresh h.size [h.size] := Fresh.one _
  have hlhb0_0 := one_lt (show h.size < h0_0.size by omega)
  try simp -implicitDefEqProofs (disch := first | decide | assumption | omega) only [go_sem, RdS.len hdX sl22, RdS.idx hdX sl22, R1.intB hdX (Ext.pres eB), RdS.cells hdX, RdS.len hmX sl23, RdS.idx hmX sl23, RdS.cellB hmX (Ext.pres eB), RdS.cells hmX, RdS.len rv sl22, RdS.idx rv sl22, R1.intB rv (Ext.pres eB), RdS.cells rv, BoxAt.cell hb0_0, wrap_id]
  refine hK _ _ ?_
  clear hK K
  refine den_seq ?_
  refine den_region TTok ?_
  intro K hK
  simp -implicitDefEqProofs (disch := first | decide | assumption | omega) only [go_sem, ld30, RdS.len hdX sl22, RdS.idx hdX sl22, R1.intB hdX (Ext.pres eB), RdS.cells hdX, RdS.len hmX sl23, RdS.idx hmX sl23, RdS.cellB hmX (Ext.pres eB), RdS.cells hmX, RdS.len rv sl22, RdS.idx rv sl22, R1.intB rv (Ext.pres eB), RdS.cells rv, BoxAt.cell hb0_0, wrap_id]
  try simp -implicitDefEqProofs (disch := first | decide | assumption | omega) only [go_sem, RdS.len hdX sl22, RdS.idx hdX sl22, R1.intB hdX (Ext.pres eB), RdS.cells hdX, RdS.len hmX sl23, RdS.idx hmX sl23, RdS.cellB hmX (Ext.pres eB), RdS.cells hmX, RdS.len rv sl22, RdS.idx rv sl22, R1.intB rv (Ext.pres eB), RdS.cells rv, BoxAt.cell hb0_0, wrap_id]
  refine CallA.mono (sDeg8_ok _ X n _ ⟨_, _, rfl, (RdS.pres hdX (Ext.pres eB)), (RdS.pres hmX (Ext.pres eB))⟩ ) ?_
  intro v_ h1_2
  rintro ⟨rfl, e1_2⟩
  replace hb0_0 := BoxAt.ext hb0_0 e1_2
  have := Ext.size e1_2
  replace eB := Ext.trans eB e1_2
  try simp -implicitDefEqProofs (disch := first | decide | assumption | omega) only [go_sem, RdS.len hdX sl22, RdS.idx hdX sl22, R1.intB hdX (Ext.pres eB), RdS.cells hdX, RdS.len hmX sl23, RdS.idx hmX sl23, RdS.cellB hmX (Ext.pres eB), RdS.cells hmX, RdS.len rv sl22, RdS.idx rv sl22, R1.intB rv (Ext.pres eB), RdS.cells rv, BoxAt.cell hb0_0, wrap_id]
  refine hK _ _ ?_
  clear hK K
  refine den_seq ?_
  refine den_seq ?_
  refine den_merge [(20, .bool ((((degC X n) == (0 : Int)) && (!((isRow X.p (dimP X n) v))))))] [1, 2, 3, 8] (fun H => Ext h1_2 H) ?_ ?_
    -- a way
  · refine den_region TTok ?_
    intro K hK
    simp -implicitDefEqProofs (disch := first | decide | assumption | (simp (disch := decide) only [slotOf_zero, slotOf_succ, Option.map_some, puts_same, puts_ne, gv_bool, gv_undef, tt, tf, ft, ff, eq_self, if_true, if_false, Bool.false_eq_true, Bool.not_true, Bool.not_false]; done) | omega) only [go_sem, RdS.len hdX sl22, RdS.idx hdX sl22, R1.intB hdX (Ext.pres eB), RdS.cells hdX, RdS.len hmX sl23, RdS.idx hmX sl23, RdS.cellB hmX (Ext.pres eB), RdS.cells hmX, RdS.len rv sl22, RdS.idx rv sl22, R1.intB rv (Ext.pres eB), RdS.cells rv, BoxAt.cell hb0_0, wrap_id]
    refine opsP_T (by simp (disch := decide) only [slotOf_zero, slotOf_succ, Option.map_some, puts_same, puts_ne, gv_bool, gv_undef, tt, tf, ft, ff, eq_self, if_true, if_false, Bool.false_eq_true, Bool.not_true, Bool.not_false]; rfl) (fun g1 => ?_) (fun g1 => ?_)
    · obtain ⟨hC, hn0, hn1⟩ := degC_0 (b0 g1)
      have hlX := hC.len
      have hpb := isP_bnd hC.p
      try simp -implicitDefEqProofs (disch := first | decide | assumption | (simp (disch := decide) only [slotOf_zero, slotOf_succ, Option.map_some, puts_same, puts_ne, gv_bool, gv_undef, tt, tf, ft, ff, eq_self, if_true, if_false, Bool.false_eq_true, Bool.not_true, Bool.not_false, g1]; done) | omega) only [go_sem, ld30, RdS.len hdX sl22, RdS.idx hdX sl22, R1.intB hdX (Ext.pres eB), RdS.cells hdX, RdS.len hmX sl23, RdS.idx hmX sl23, RdS.cellB hmX (Ext.pres eB), RdS.cells hmX, RdS.len rv sl22, RdS.idx rv sl22, R1.intB rv (Ext.pres eB), RdS.cells rv, BoxAt.cell hb0_0, wrap_id, g1, eq_self, if_true, if_false, Bool.false_eq_true]
      try simp -implicitDefEqProofs (disch := first | decide | assumption | omega) only [go_sem, RdS.len hdX sl22, RdS.idx hdX sl22, R1.intB hdX (Ext.pres eB), RdS.cells hdX, RdS.len hmX sl23, RdS.idx hmX sl23, RdS.cellB hmX (Ext.pres eB), RdS.cells hmX, RdS.len rv sl22, RdS.idx rv sl22, R1.intB rv (Ext.pres eB), RdS.cells rv, BoxAt.cell hb0_0, wrap_id]
      refine CallA.mono (l04Vec_ok _ _ X n v _ ⟨_, _, rfl, (RdS.pres hdX (Ext.pres eB)), (RdS.pres hmX (Ext.pres eB))⟩ (RdS.pres rv (Ext.pres eB)) (by omega)) ?_
      intro v_ h2_6
      rintro ⟨rfl, e2_6⟩
      replace hb0_0 := BoxAt.ext hb0_0 e2_6
      have := Ext.size e2_6
      replace eB := Ext.trans eB e2_6
      try simp -implicitDefEqProofs (disch := first | decide | assumption | (simp (disch := decide) only [slotOf_zero, slotOf_succ, Option.map_some, puts_same, puts_ne, gv_bool, gv_undef, tt, tf, ft, ff, eq_self, if_true, if_false, Bool.false_eq_true, Bool.not_true, Bool.not_false, g1]; done) | omega) only [go_sem, RdS.len hdX sl22, RdS.idx hdX sl22, R1.intB hdX (Ext.pres eB), RdS.cells hdX, RdS.len hmX sl23, RdS.idx hmX sl23, RdS.cellB hmX (Ext.pres eB), RdS.cells hmX, RdS.len rv sl22, RdS.idx rv sl22, R1.intB rv (Ext.pres eB), RdS.cells rv, BoxAt.cell hb0_0, wrap_id, g1, eq_self, if_true, if_false, Bool.false_eq_true]
      refine hK _ _ ?_
      clear hK K
      refine den_stop ?_
      refine ⟨?_, e2_6⟩
      first | (simp (disch := decide) only [go_sem, g1, eq_self, Bool.true_and, Bool.and_true, Bool.false_and, Bool.and_false, Bool.true_or, Bool.or_true, Bool.false_or, Bool.or_false, if_true, if_false, Bool.false_eq_true]; done) | simp [HasL, sel, puts_at, g1]
    · try simp -implicitDefEqProofs (disch := first | decide | assumption | (simp (disch := decide) only [slotOf_zero, slotOf_succ, Option.map_some, puts_same, puts_ne, gv_bool, gv_undef, tt, tf, ft, ff, eq_self, if_true, if_false, Bool.false_eq_true, Bool.not_true, Bool.not_false, g1]; done) | omega) only [go_sem, RdS.len hdX sl22, RdS.idx hdX sl22, R1.intB hdX (Ext.pres eB), RdS.cells hdX, RdS.len hmX sl23, RdS.idx hmX sl23, RdS.cellB hmX (Ext.pres eB), RdS.cells hmX, RdS.len rv sl22, RdS.idx rv sl22, R1.intB rv (Ext.pres eB), RdS.cells rv, BoxAt.cell hb0_0, wrap_id, g1, eq_self, if_true, if_false, Bool.false_eq_true]
      refine hK _ _ ?_
      clear hK K
      refine den_stop ?_
      refine ⟨?_, Ext.refl _⟩
      first | (simp (disch := decide) only [go_sem, g1, eq_self, Bool.true_and, Bool.and_true, Bool.false_and, Bool.and_false, Bool.true_or, Bool.or_true, Bool.false_or, Bool.or_false, if_true, if_false, Bool.false_eq_true]; done) | simp [HasL, sel, puts_at, g1]
  intro en2 h3 e4
  replace hb0_0 := BoxAt.ext hb0_0 e4
  have := Ext.size e4
  replace eB := Ext.trans eB e4
  simp (disch := decide) only [go_sem]
  refine den_mergeH [(8, .int .i64 ((cadd (degC X n) (2 : Int) (!((isRow X.p (dimP X n) v))))))] [1, 2, 3] ?_ ?_
  · refine den_cond rfl (fun c0 => ?_) (fun c0 => ?_)
    · refine den_region TTok ?_
      intro K hK
      simp -implicitDefEqProofs (disch := first | decide | assumption | omega) only [go_sem, RdS.len hdX sl22, RdS.idx hdX sl22, R1.intB hdX (Ext.pres eB), RdS.cells hdX, RdS.len hmX sl23, RdS.idx hmX sl23, RdS.cellB hmX (Ext.pres eB), RdS.cells hmX, RdS.len rv sl22, RdS.idx rv sl22, R1.intB rv (Ext.pres eB), RdS.cells rv, BoxAt.cell hb0_0, wrap_id]
      refine hK _ _ ?_
      clear hK K
      refine den_stop ?_
      refine ⟨?_, rfl⟩; simp (disch := decide) only [go_sem, c0, caddT c0, eq_self, if_true, if_false, Bool.false_eq_true, reduceCtorEq]
    · refine den_skip ?_
      refine den_stop ?_
      refine ⟨?_, rfl⟩; simp (disch := decide) only [go_sem, c0, caddF c0, eq_self, if_true, if_false, Bool.false_eq_true, reduceCtorEq]
  intro en5
  simp (disch := decide) only [go_sem]
  refine den_seq ?_
  refine den_seq ?_
  refine den_region TTok ?_
  intro K hK
  simp -implicitDefEqProofs (disch := first | decide | assumption | omega) only [go_sem, RdS.len hdX sl22, RdS.idx hdX sl22, R1.intB hdX (Ext.pres eB), RdS.cells hdX, RdS.len hmX sl23, RdS.idx hmX sl23, RdS.cellB hmX (Ext.pres eB), RdS.cells hmX, RdS.len rv sl22, RdS.idx rv sl22, R1.intB rv (Ext.pres eB), RdS.cells rv, BoxAt.cell hb0_0, wrap_id]
  refine hK _ _ ?_
  clear hK K
  refine den_cond rfl (fun c1 => ?_) (fun c1 => ?_)
  · try simp only [decide_eq_true_eq, decide_eq_false_iff_not, beq_iff_eq, beq_eq_false_iff_ne, bne_iff_ne, ne_eq, Bool.not_eq_true', Bool.not_eq_false', Bool.and_eq_true, Bool.or_eq_true, bne_eq_false_iff_eq] at c1
    refine den_seq ?_
    refine den_region TTok ?_
    intro K hK
    simp -implicitDefEqProofs (disch := first | decide | assumption | omega) only [go_sem, RdS.len hdX sl22, RdS.idx hdX sl22, R1.intB hdX (Ext.pres eB), RdS.cells hdX, RdS.len hmX sl23, RdS.idx hmX sl23, RdS.cellB hmX (Ext.pres eB), RdS.cells hmX, RdS.len rv sl22, RdS.idx rv sl22, R1.intB rv (Ext.pres eB), RdS.cells rv, wrap_id]
    refine hK _ _ ?_
    clear hK K
    refine den_ret ?_
    simp (disch := decide) only [resP_2, puts_same, puts_ne]
    have hz : spR X n v = ([], spD X n v) := by rw [spR, if_neg (show ¬ spD X n v = 0 from c1)]
    rw [hz]
    exact ⟨.slice none 0 0, [], rfl, OS.nil, Fresh.nil _, eB⟩
  · try simp only [decide_eq_true_eq, decide_eq_false_iff_not, beq_iff_eq, beq_eq_false_iff_ne, bne_iff_ne, ne_eq, Bool.not_eq_true', Bool.not_eq_false', Bool.and_eq_true, Bool.or_eq_true, bne_eq_false_iff_eq] at c1
    have hsp := spD_0 (show spD X n v = 0 from c1)
    refine den_skip ?_
    refine den_seq ?_
    refine den_region TTok ?_
    intro K hK
    simp -implicitDefEqProofs (disch := first | decide | assumption | omega) only [go_sem, ld30, RdS.len hdX sl22, RdS.idx hdX sl22, R1.intB hdX (Ext.pres eB), RdS.cells hdX, RdS.len hmX sl23, RdS.idx hmX sl23, RdS.cellB hmX (Ext.pres eB), RdS.cells hmX, RdS.len rv sl22, RdS.idx rv sl22, R1.intB rv (Ext.pres eB), RdS.cells rv, BoxAt.cell hb0_0, wrap_id]
    try simp -implicitDefEqProofs (disch := first | decide | assumption | omega) only [go_sem, RdS.len hdX sl22, RdS.idx hdX sl22, R1.intB hdX (Ext.pres eB), RdS.cells hdX, RdS.len hmX sl23, RdS.idx hmX sl23, RdS.cellB hmX (Ext.pres eB), RdS.cells hmX, RdS.len rv sl22, RdS.idx rv sl22, R1.intB rv (Ext.pres eB), RdS.cells rv, BoxAt.cell hb0_0, wrap_id]
    refine CallA.mono (sSplit_ok _ _ X n v _ ⟨_, _, rfl, (RdS.pres hdX (Ext.pres eB)), (RdS.pres hmX (Ext.pres eB))⟩ (RdS.pres rv (Ext.pres eB)) hsp) ?_
    intro vw6_3_0 h6_3
    rintro ⟨zvw6_3_0, fw6_3_0, rfl, how6_3_0, hfw6_3_0, e6_3⟩
    replace hb0_0 := BoxAt.ext hb0_0 e6_3
    have := Ext.size e6_3
    replace eB := Ext.trans eB e6_3
    have hlhow6_3_0 := OS.lt how6_3_0
    try simp -implicitDefEqProofs (disch := first | decide | assumption | omega) only [go_sem, RdS.len hdX sl22, RdS.idx hdX sl22, R1.intB hdX (Ext.pres eB), RdS.cells hdX, RdS.len hmX sl23, RdS.idx hmX sl23, RdS.cellB hmX (Ext.pres eB), RdS.cells hmX, RdS.len rv sl22, RdS.idx rv sl22, R1.intB rv (Ext.pres eB), RdS.cells rv, RdS.len (OS.rd how6_3_0) sl36, RdS.idx (OS.rd how6_3_0) sl36, RdS.cellN (OS.rd how6_3_0), RdS.cells (OS.rd how6_3_0), BoxAt.cell hb0_0, wrap_id]
    refine hK _ _ ?_
    clear hK K
    refine den_ret ?_
    simp (disch := decide) only [resP_2, puts_same, puts_ne]
    have hz : spR X n v = ([spB X n v, spH X n v, spW X n v], 0) := by rw [spR, if_pos (show spD X n v = 0 from c1)]
    rw [hz]
    exact ⟨_, _, rfl, how6_3_0, hfw6_3_0.mono (by omega), eB⟩
end Go.Proofs.Ytbplnadngahgaaa

namespace Go.Proofs.Ytbplnadngahgaaa
open Go
set_option maxRecDepth 100000 in
set_option maxHeartbeats 4000000 in
theorem exactSplitVector_law (vX vv : Value) (X : Cx) (n : Int) (v : List Int) (h : Heap) (rX : RC h vX X) (rv : R1 h vv v)  : CallA Try.prog 12 #[vX, .int .i64 n, vv] h fun v' h' => v' = .bool (true) ∧ Ext h h' := by
  obtain ⟨vdX, vmX, rfl, hdX, hmX⟩ := rX
  have hledX := RdS.le hdX
  have hlemX := RdS.le hmX
  have hlev := RdS.le rv
  refine callA_intro TTok (args := [_, _, _]) Try.func12 (by kernel_rfl) rfl 122 rfl (by simp) [.tmp 6] rfl ?_
  simp only [idxs, Nat.reduceAdd]
  refine den_seq ?_
  refine den_region TTok ?_
  intro K hK
  simp -implicitDefEqProofs (disch := first | decide | assumption | omega) only [go_sem, RdS.len rv sl22, wrap_id]
  refine op_box (cs := #[.int .i64 (X.p), vdX, vmX]) rfl ?_
  intro h0_0 e0_0 hb0_0 z0_0
  have := Ext.size e0_0
  have eB := e0_0
  have hfhb0_0 : Fresh h.size [h.size] := Fresh.one _
  have hlhb0_0 := one_lt (show h.size < h0_0.size by omega)
  try simp -implicitDefEqProofs (disch := first | decide | assumption | omega) only [go_sem, BoxAt.cell hb0_0, RdS.len rv sl22, wrap_id]
  refine hK _ _ ?_
  clear hK K
  refine den_seq ?_
  refine den_seq ?_
  refine den_region TTok ?_
  intro K hK
  simp -implicitDefEqProofs (disch := first | decide | assumption | omega) only [go_sem, BoxAt.cell hb0_0, RdS.len rv sl22, wrap_id]
  refine hK _ _ ?_
  clear hK K
  refine den_cond rfl (fun c0 => ?_) (fun c0 => ?_)
  · try simp only [decide_eq_true_eq, decide_eq_false_iff_not, beq_iff_eq, beq_eq_false_iff_ne, bne_iff_ne, ne_eq, Bool.not_eq_true', Bool.not_eq_false', Bool.and_eq_true, Bool.or_eq_true, bne_eq_false_iff_eq] at c0
    refine den_seq ?_
    refine den_region TTok ?_
    intro K hK
    simp -implicitDefEqProofs (disch := first | decide | assumption | omega) only [go_sem, RdS.len rv sl22, wrap_id]
    refine hK _ _ ?_
    clear hK K
    refine den_ret ?_
    simp (disch := decide) only [resP_1, puts_same, puts_ne]
    exact ⟨by first | rfl | trivial, eB⟩
  · try simp only [decide_eq_true_eq, decide_eq_false_iff_not, beq_iff_eq, beq_eq_false_iff_ne, bne_iff_ne, ne_eq, Bool.not_eq_true', Bool.not_eq_false', Bool.and_eq_true, Bool.or_eq_true, bne_eq_false_iff_eq] at c0
    have hMv : HM1 v := by unfold HM1; omega
    have hcnv := cnt1_le hMv
    refine den_skip ?_
    refine den_seq ?_
    refine den_region TTok ?_
    intro K hK
    simp -implicitDefEqProofs (disch := first | decide | assumption | omega) only [go_sem, BoxAt.cell hb0_0, RdS.len rv sl22, wrap_id]
    refine hK _ _ ?_
    clear hK K
    refine den_seq ?_
    refine den_region TTok ?_
    intro K hK
    simp -implicitDefEqProofs (disch := first | decide | assumption | omega) only [go_sem, ld25, BoxAt.cell hb0_0, RdS.len rv sl22, wrap_id]
    try simp -implicitDefEqProofs (disch := first | decide | assumption | omega) only [go_sem, BoxAt.cell hb0_0, RdS.len rv sl22, wrap_id]
    refine CallA.mono (szC_ok _ X _ _ ⟨_, _, rfl, (RdS.pres hdX (Ext.pres eB)), (RdS.pres hmX (Ext.pres eB))⟩ (by omega) (by omega)) ?_
    intro v_ h4_2
    rintro ⟨rfl, e4_2⟩
    replace hb0_0 := BoxAt.ext hb0_0 e4_2
    have := Ext.size e4_2
    replace eB := Ext.trans eB e4_2
    have := szC_le X (1048576 : Int) (by omega)
    try simp -implicitDefEqProofs (disch := first | decide | assumption | omega) only [go_sem, BoxAt.cell hb0_0, RdS.len rv sl22, wrap_id]
    refine hK _ _ ?_
    clear hK K
    refine den_seq ?_
    refine den_seq ?_
    refine den_region TTok ?_
    intro K hK
    simp -implicitDefEqProofs (disch := first | decide | assumption | omega) only [go_sem, BoxAt.cell hb0_0, RdS.len rv sl22, wrap_id]
    refine hK _ _ ?_
    clear hK K
    refine den_cond rfl (fun c1 => ?_) (fun c1 => ?_)
    · try simp only [decide_eq_true_eq, decide_eq_false_iff_not, beq_iff_eq, beq_eq_false_iff_ne, bne_iff_ne, ne_eq, Bool.not_eq_true', Bool.not_eq_false', Bool.and_eq_true, Bool.or_eq_true, bne_eq_false_iff_eq] at c1
      refine den_seq ?_
      refine den_region TTok ?_
      intro K hK
      simp -implicitDefEqProofs (disch := first | decide | assumption | omega) only [go_sem, RdS.len rv sl22, wrap_id]
      refine hK _ _ ?_
      clear hK K
      refine den_ret ?_
      simp (disch := decide) only [resP_1, puts_same, puts_ne]
      exact ⟨by first | rfl | trivial, eB⟩
    · try simp only [decide_eq_true_eq, decide_eq_false_iff_not, beq_iff_eq, beq_eq_false_iff_ne, bne_iff_ne, ne_eq, Bool.not_eq_true', Bool.not_eq_false', Bool.and_eq_true, Bool.or_eq_true, bne_eq_false_iff_eq] at c1
      have hMX := szC_ok' (by omega) (by omega) c1
      have hcnX := szC_cntA (by omega) (by omega) c1
      have hci := cnt_sp X n v
      refine den_skip ?_
      refine den_seq ?_
      refine den_region TTok ?_
      intro K hK
      simp -implicitDefEqProofs (disch := first | decide | assumption | omega) only [go_sem, ld25, BoxAt.cell hb0_0, RdS.len rv sl22, wrap_id]
      try simp -implicitDefEqProofs (disch := first | decide | assumption | omega) only [go_sem, BoxAt.cell hb0_0, RdS.len rv sl22, wrap_id]
      refine CallA.mono (toC_ok _ X _ ⟨_, _, rfl, (RdS.pres hdX (Ext.pres eB)), (RdS.pres hmX (Ext.pres eB))⟩ hMX) ?_
      intro v_ h7_1
      rintro ⟨vd7_1, vm7_1, fd7_1, fm7_1, rfl, hod7_1, hom7_1, hf7_1, e7_1⟩
      replace hb0_0 := BoxAt.ext hb0_0 e7_1
      have := Ext.size e7_1
      replace eB := Ext.trans eB e7_1
      have hfd7_1 := hf7_1.left
      have hfm7_1 := hf7_1.right
      have hlhod7_1 := OS.lt hod7_1
      have hlhom7_1 := OS.lt hom7_1
      have ap1 : Apart fd7_1 fm7_1 := apart_nodup hf7_1
      try simp -implicitDefEqProofs (disch := first | decide | assumption | omega) only [go_sem, BoxAt.cell hb0_0, RdS.len rv sl22, wrap_id]
      try simp -implicitDefEqProofs (disch := first | decide | assumption | omega) only [go_sem, BoxAt.cell hb0_0, RdS.len rv sl22, wrap_id]
      refine CallA.mono (toS_ok _ v _ (RdS.pres rv (Ext.pres eB)) hMv) ?_
      intro v7_4 h7_4
      rintro ⟨f7_4, ho7_4, hf7_4, e7_4⟩
      replace hod7_1 := OS.ext hod7_1 e7_4
      replace hom7_1 := OS.ext hom7_1 e7_4
      replace hb0_0 := BoxAt.ext hb0_0 e7_4
      have := Ext.size e7_4
      replace eB := Ext.trans eB e7_4
      have hlho7_4 := OS.lt ho7_4
      try simp -implicitDefEqProofs (disch := first | decide | assumption | omega) only [go_sem, BoxAt.cell hb0_0, RdS.len rv sl22, wrap_id]
      try simp -implicitDefEqProofs (disch := first | decide | assumption | omega) only [go_sem, BoxAt.cell hb0_0, RdS.len rv sl22, wrap_id]
      refine CallA.mono (sSV_ok _ _ X n v _ ⟨_, _, rfl, (OS.rd hod7_1), (OS.rd hom7_1)⟩ (OS.rd ho7_4) ) ?_
      intro v_ h7_5
      rintro ⟨vw7_5_0, fw7_5_0, rfl, how7_5_0, hfw7_5_0, e7_5⟩
      replace hod7_1 := OS.ext hod7_1 e7_5
      replace hom7_1 := OS.ext hom7_1 e7_5
      replace ho7_4 := OS.ext ho7_4 e7_5
      replace hb0_0 := BoxAt.ext hb0_0 e7_5
      have := Ext.size e7_5
      replace eB := Ext.trans eB e7_5
      have hlhow7_5_0 := OS.lt how7_5_0
      try simp -implicitDefEqProofs (disch := first | decide | assumption | omega) only [go_sem, BoxAt.cell hb0_0, RdS.len rv sl22, wrap_id]
      refine hK _ _ ?_
      clear hK K
      refine den_seq ?_
      refine den_region TTok ?_
      intro K hK
      simp -implicitDefEqProofs (disch := first | decide | assumption | omega) only [go_sem, ld25, BoxAt.cell hb0_0, RdS.len rv sl22, wrap_id]
      try simp -implicitDefEqProofs (disch := first | decide | assumption | omega) only [go_sem, BoxAt.cell hb0_0, RdS.len rv sl22, wrap_id]
      refine CallA.mono (toC_ok _ X _ ⟨_, _, rfl, (RdS.pres hdX (Ext.pres eB)), (RdS.pres hmX (Ext.pres eB))⟩ hMX) ?_
      intro v_ h8_1
      rintro ⟨vd8_1, vm8_1, fd8_1, fm8_1, rfl, hod8_1, hom8_1, hf8_1, e8_1⟩
      replace how7_5_0 := OS.ext how7_5_0 e8_1
      replace hb0_0 := BoxAt.ext hb0_0 e8_1
      have := Ext.size e8_1
      replace eB := Ext.trans eB e8_1
      have hfd8_1 := hf8_1.left
      have hfm8_1 := hf8_1.right
      have hlhod8_1 := OS.lt hod8_1
      have hlhom8_1 := OS.lt hom8_1
      have ap2 : Apart fd8_1 fm8_1 := apart_nodup hf8_1
      try simp -implicitDefEqProofs (disch := first | decide | assumption | omega) only [go_sem, BoxAt.cell hb0_0, RdS.len rv sl22, wrap_id]
      refine op_alloc (cs := #[.int .i64 0, .slice none 0 0, .slice none 0 0]) (by kernel_rfl) ?_
      intro h8_2 e8_2 hb8_2 z8_2
      replace how7_5_0 := OS.ext how7_5_0 e8_2
      replace hod8_1 := OS.ext hod8_1 e8_2
      replace hom8_1 := OS.ext hom8_1 e8_2
      replace hb0_0 := BoxAt.ext hb0_0 e8_2
      have := Ext.size e8_2
      replace eB := Ext.trans eB e8_2
      have hfhb8_2 : Fresh h8_1.size [h8_1.size] := Fresh.one _
      have hlhb8_2 := one_lt (show h8_1.size < h8_2.size by omega)
      try simp -implicitDefEqProofs (disch := first | decide | assumption | omega) only [go_sem, BoxAt.cell hb0_0, BoxAt.cell hb8_2, RdS.len rv sl22, wrap_id]
      refine op_storeB (cs' := #[.int .i64 (X.p), vd8_1, vm8_1]) st30 hb8_2 rfl rfl rfl (by simp) (allOne_mem (l := [.int .i64 (X.p), vd8_1, vm8_1]) ⟨rfl, (OS.one hod8_1).1, (OS.one hom8_1).1, trivial⟩) rfl ?_
      intro h8_3 hb8_2 c8_3
      replace how7_5_0 := OS.chg how7_5_0 c8_3 (apart_lt hlhow7_5_0 hfhb8_2 (by omega))
      replace hod8_1 := OS.chg hod8_1 c8_3 (apart_lt hlhod8_1 hfhb8_2 (by omega))
      replace hom8_1 := OS.chg hom8_1 c8_3 (apart_lt hlhom8_1 hfhb8_2 (by omega))
      replace hb0_0 := BoxAt.chgA hb0_0 c8_3 (apart_lt hlhb0_0 hfhb8_2 (by omega))
      have := c8_3.size
      replace eB := Ext.then eB c8_3 (ge_of hfhb8_2 (by omega))
      try simp -implicitDefEqProofs (disch := first | decide | assumption | omega) only [go_sem, BoxAt.cell hb0_0, BoxAt.cell hb8_2, RdS.len rv sl22, wrap_id]
      refine hK _ _ ?_
      clear hK K
      refine den_seq ?_
      refine den_region TTok ?_
      intro K hK
      simp -implicitDefEqProofs (disch := first | decide | assumption | omega) only [go_sem, BoxAt.cell hb0_0, BoxAt.cell hb8_2, RdS.len rv sl22, wrap_id]
      try simp -implicitDefEqProofs (disch := first | decide | assumption | omega) only [go_sem, BoxAt.cell hb0_0, BoxAt.cell hb8_2, RdS.len rv sl22, wrap_id]
      refine CallA.mono (toS_ok _ v _ (RdS.pres rv (Ext.pres eB)) hMv) ?_
      intro v9_1 h9_1
      rintro ⟨f9_1, ho9_1, hf9_1, e9_1⟩
      replace how7_5_0 := OS.ext how7_5_0 e9_1
      replace hod8_1 := OS.ext hod8_1 e9_1
      replace hom8_1 := OS.ext hom8_1 e9_1
      replace hb0_0 := BoxAt.ext hb0_0 e9_1
      replace hb8_2 := BoxAt.ext hb8_2 e9_1
      have := Ext.size e9_1
      replace eB := Ext.trans eB e9_1
      have hlho9_1 := OS.lt ho9_1
      try simp -implicitDefEqProofs (disch := first | decide | assumption | omega) only [go_sem, BoxAt.cell hb0_0, BoxAt.cell hb8_2, RdS.len rv sl22, wrap_id]
      refine hK _ _ ?_
      clear hK K
      refine den_seq ?_
      refine den_region TTok ?_
      intro K hK
      simp -implicitDefEqProofs (disch := first | decide | assumption | omega) only [go_sem, ld30, BoxAt.cell hb0_0, BoxAt.cell hb8_2, RdS.len rv sl22, wrap_id]
      try simp -implicitDefEqProofs (disch := first | decide | assumption | omega) only [go_sem, BoxAt.cell hb0_0, BoxAt.cell hb8_2, RdS.len rv sl22, wrap_id]
      refine CallA.mono (iSV_ok _ _ X n v _ ⟨_, _, rfl, (OS.rd hod8_1), (OS.rd hom8_1)⟩ (OS.rd ho9_1) ) ?_
      intro v_ h10_3
      rintro ⟨vw10_3_0, fw10_3_0, rfl, how10_3_0, hfw10_3_0, e10_3⟩
      replace how7_5_0 := OS.ext how7_5_0 e10_3
      replace hod8_1 := OS.ext hod8_1 e10_3
      replace hom8_1 := OS.ext hom8_1 e10_3
      replace ho9_1 := OS.ext ho9_1 e10_3
      replace hb0_0 := BoxAt.ext hb0_0 e10_3
      replace hb8_2 := BoxAt.ext hb8_2 e10_3
      have := Ext.size e10_3
      replace eB := Ext.trans eB e10_3
      have hlhow10_3_0 := OS.lt how10_3_0
      try simp -implicitDefEqProofs (disch := first | decide | assumption | omega) only [go_sem, BoxAt.cell hb0_0, BoxAt.cell hb8_2, RdS.len rv sl22, wrap_id]
      refine hK _ _ ?_
      clear hK K
      refine den_seq ?_
      refine den_seq ?_
      refine den_mergeH [(55, .bool (((!(true)) || (((spR X n v).2) != ((spR X n v).2)))))] [1, 2, 3, 8, 9, 10, 11, 12, 13] ?_ ?_
        -- a way
      · refine den_region TTok ?_
        intro K hK
        simp -implicitDefEqProofs (disch := first | decide | assumption | (simp (disch := decide) only [slotOf_zero, slotOf_succ, Option.map_some, puts_same, puts_ne, gv_bool, gv_undef, tt, tf, ft, ff, eq_self, if_true, if_false, Bool.false_eq_true, Bool.not_true, Bool.not_false]; done) | omega) only [go_sem, BoxAt.cell hb0_0, BoxAt.cell hb8_2, RdS.len rv sl22, wrap_id]
        try simp -implicitDefEqProofs (disch := first | decide | assumption | omega) only [go_sem, BoxAt.cell hb0_0, BoxAt.cell hb8_2, RdS.len rv sl22, wrap_id]
        refine CallA.pure (eqSS_same _ _ _ _ (OS.rd how10_3_0) (OS.rd how7_5_0)) ?_
        try simp -implicitDefEqProofs (disch := first | decide | assumption | (simp (disch := decide) only [slotOf_zero, slotOf_succ, Option.map_some, puts_same, puts_ne, gv_bool, gv_undef, tt, tf, ft, ff, eq_self, if_true, if_false, Bool.false_eq_true, Bool.not_true, Bool.not_false]; done) | omega) only [go_sem, BoxAt.cell hb0_0, BoxAt.cell hb8_2, RdS.len rv sl22, wrap_id]
        try simp -implicitDefEqProofs (disch := first | decide | assumption | (simp (disch := decide) only [slotOf_zero, slotOf_succ, Option.map_some, puts_same, puts_ne, gv_bool, gv_undef, tt, tf, ft, ff, eq_self, if_true, if_false, Bool.false_eq_true, Bool.not_true, Bool.not_false]; done) | omega) only [go_sem, BoxAt.cell hb0_0, BoxAt.cell hb8_2, RdS.len rv sl22, wrap_id]
        refine hK _ _ ?_
        clear hK K
        refine den_stop ?_
        refine ⟨?_, rfl⟩
        first | (simp (disch := decide) only [go_sem, eq_self, Bool.true_and, Bool.and_true, Bool.false_and, Bool.and_false, Bool.true_or, Bool.or_true, Bool.false_or, Bool.or_false, if_true, if_false, Bool.false_eq_true]; done) | simp [HasL, sel, puts_at]
      intro en3
      simp (disch := decide) only [go_sem]
      refine den_cond rfl (fun c2 => ?_) (fun c2 => ?_)
      · try simp only [decide_eq_true_eq, decide_eq_false_iff_not, beq_iff_eq, beq_eq_false_iff_ne, bne_iff_ne, ne_eq, Bool.not_eq_true', Bool.not_eq_false', Bool.and_eq_true, Bool.or_eq_true, bne_eq_false_iff_eq] at c2
        refine den_seq ?_
        refine den_region TTok ?_
        intro K hK
        simp -implicitDefEqProofs (disch := first | decide | assumption | omega) only [go_sem, RdS.len rv sl22, wrap_id]
        refine hK _ _ ?_
        clear hK K
        refine den_ret ?_
        simp (disch := decide) only [resP_1, puts_same, puts_ne]
        exact absurd c2 (by first | (simp; done) | (simp; omega) | omega | (simp [eqC_self]; done))
      · try simp only [decide_eq_true_eq, decide_eq_false_iff_not, beq_iff_eq, beq_eq_false_iff_ne, bne_iff_ne, ne_eq, Bool.not_eq_true', Bool.not_eq_false', Bool.and_eq_true, Bool.or_eq_true, bne_eq_false_iff_eq] at c2
        refine den_skip ?_
        refine den_seq ?_
        refine den_seq ?_
        refine den_draw TTok mixed [] [(0, true), (1, true), (2, false), (3, false), (4, true)] (by kernel_rfl) ?_
        intro K hK
        simp -implicitDefEqProofs (disch := first | decide | assumption | omega) only [go_sem, ld30, ld25, BoxAt.cell hb0_0, BoxAt.cell hb8_2, RdS.len rv sl22, wrap_id]
        try simp -implicitDefEqProofs (disch := first | decide | assumption | omega) only [go_sem, BoxAt.cell hb0_0, BoxAt.cell hb8_2, RdS.len rv sl22, wrap_id]
        refine CallA.mono (toC_ok _ X _ ⟨_, _, rfl, (RdS.pres hdX (Ext.pres eB)), (RdS.pres hmX (Ext.pres eB))⟩ hMX) ?_
        intro v_ h13_2
        rintro ⟨vd13_2, vm13_2, fd13_2, fm13_2, rfl, hod13_2, hom13_2, hf13_2, e13_2⟩
        replace how7_5_0 := OS.ext how7_5_0 e13_2
        replace hod8_1 := OS.ext hod8_1 e13_2
        replace hom8_1 := OS.ext hom8_1 e13_2
        replace ho9_1 := OS.ext ho9_1 e13_2
        replace how10_3_0 := OS.ext how10_3_0 e13_2
        replace hb0_0 := BoxAt.ext hb0_0 e13_2
        replace hb8_2 := BoxAt.ext hb8_2 e13_2
        have := Ext.size e13_2
        replace eB := Ext.trans eB e13_2
        have hfd13_2 := hf13_2.left
        have hfm13_2 := hf13_2.right
        have hlhod13_2 := OS.lt hod13_2
        have hlhom13_2 := OS.lt hom13_2
        have ap6 : Apart fd13_2 fm13_2 := apart_nodup hf13_2
        try simp (disch := decide) only [outv_some, outv_none, put_puts]
        refine plK_pres (Ext.pres e13_2) ?_
        try simp -implicitDefEqProofs (disch := first | decide | assumption | omega) only [go_sem, BoxAt.cell hb0_0, BoxAt.cell hb8_2, RdS.len rv sl22, wrap_id]
        try simp -implicitDefEqProofs (disch := first | decide | assumption | omega) only [go_sem, BoxAt.cell hb0_0, BoxAt.cell hb8_2, RdS.len rv sl22, wrap_id]
        refine CallA.mono (eqC_same _ _ X _ ⟨_, _, rfl, (OS.rd hod8_1), (OS.rd hom8_1)⟩ ⟨_, _, rfl, (OS.rd hod13_2), (OS.rd hom13_2)⟩) ?_
        intro v_ h13_3
        rintro ⟨rfl, e13_3⟩
        replace how7_5_0 := OS.ext how7_5_0 e13_3
        replace hod8_1 := OS.ext hod8_1 e13_3
        replace hom8_1 := OS.ext hom8_1 e13_3
        replace ho9_1 := OS.ext ho9_1 e13_3
        replace how10_3_0 := OS.ext how10_3_0 e13_3
        replace hod13_2 := OS.ext hod13_2 e13_3
        replace hom13_2 := OS.ext hom13_2 e13_3
        replace hb0_0 := BoxAt.ext hb0_0 e13_3
        replace hb8_2 := BoxAt.ext hb8_2 e13_3
        have := Ext.size e13_3
        replace eB := Ext.trans eB e13_3
        try simp (disch := decide) only [outv_some, outv_none, put_puts]
        refine plK_pres (Ext.pres e13_3) ?_
        try simp -implicitDefEqProofs (disch := first | decide | assumption | omega) only [go_sem, BoxAt.cell hb0_0, BoxAt.cell hb8_2, RdS.len rv sl22, wrap_id]
        refine hK _ _ ?_
        clear hK K
        refine den_cond rfl (fun c3 => ?_) (fun c3 => ?_)
        · try simp only [decide_eq_true_eq, decide_eq_false_iff_not, beq_iff_eq, beq_eq_false_iff_ne, bne_iff_ne, ne_eq, Bool.not_eq_true', Bool.not_eq_false', Bool.and_eq_true, Bool.or_eq_true, bne_eq_false_iff_eq] at c3
          refine den_seq ?_
          refine den_region TTok ?_
          intro K hK
          simp -implicitDefEqProofs (disch := first | decide | assumption | omega) only [go_sem, RdS.len rv sl22, wrap_id]
          refine hK _ _ ?_
          clear hK K
          refine den_ret ?_
          simp (disch := decide) only [resP_1, puts_same, puts_ne]
          exact absurd c3 (by first | (simp; done) | (simp; omega) | omega | (simp [eqC_self]; done))
        · try simp only [decide_eq_true_eq, decide_eq_false_iff_not, beq_iff_eq, beq_eq_false_iff_ne, bne_iff_ne, ne_eq, Bool.not_eq_true', Bool.not_eq_false', Bool.and_eq_true, Bool.or_eq_true, bne_eq_false_iff_eq] at c3
          refine den_skip ?_
          refine den_seq ?_
          refine den_seq ?_
          refine den_region TTok ?_
          intro K hK
          simp -implicitDefEqProofs (disch := first | decide | assumption | omega) only [go_sem, BoxAt.cell hb0_0, BoxAt.cell hb8_2, RdS.len rv sl22, wrap_id]
          try simp -implicitDefEqProofs (disch := first | decide | assumption | omega) only [go_sem, BoxAt.cell hb0_0, BoxAt.cell hb8_2, RdS.len rv sl22, wrap_id]
          refine CallA.mono (toS_ok _ v _ (RdS.pres rv (Ext.pres eB)) hMv) ?_
          intro v15_2 h15_2
          rintro ⟨f15_2, ho15_2, hf15_2, e15_2⟩
          replace how7_5_0 := OS.ext how7_5_0 e15_2
          replace hod8_1 := OS.ext hod8_1 e15_2
          replace hom8_1 := OS.ext hom8_1 e15_2
          replace ho9_1 := OS.ext ho9_1 e15_2
          replace how10_3_0 := OS.ext how10_3_0 e15_2
          replace hb0_0 := BoxAt.ext hb0_0 e15_2
          replace hb8_2 := BoxAt.ext hb8_2 e15_2
          have := Ext.size e15_2
          replace eB := Ext.trans eB e15_2
          have hlho15_2 := OS.lt ho15_2
          try simp -implicitDefEqProofs (disch := first | decide | assumption | omega) only [go_sem, BoxAt.cell hb0_0, BoxAt.cell hb8_2, RdS.len rv sl22, wrap_id]
          try simp -implicitDefEqProofs (disch := first | decide | assumption | omega) only [go_sem, BoxAt.cell hb0_0, BoxAt.cell hb8_2, RdS.len rv sl22, wrap_id]
          refine CallA.pure (eqS_same _ _ _ _ (OS.rd ho9_1) (OS.rd ho15_2)) ?_
          try simp -implicitDefEqProofs (disch := first | decide | assumption | omega) only [go_sem, BoxAt.cell hb0_0, BoxAt.cell hb8_2, RdS.len rv sl22, wrap_id]
          refine hK _ _ ?_
          clear hK K
          refine den_cond rfl (fun c4 => ?_) (fun c4 => ?_)
          · try simp only [decide_eq_true_eq, decide_eq_false_iff_not, beq_iff_eq, beq_eq_false_iff_ne, bne_iff_ne, ne_eq, Bool.not_eq_true', Bool.not_eq_false', Bool.and_eq_true, Bool.or_eq_true, bne_eq_false_iff_eq] at c4
            refine den_seq ?_
            refine den_region TTok ?_
            intro K hK
            simp -implicitDefEqProofs (disch := first | decide | assumption | omega) only [go_sem, RdS.len rv sl22, wrap_id]
            refine hK _ _ ?_
            clear hK K
            refine den_ret ?_
            simp (disch := decide) only [resP_1, puts_same, puts_ne]
            exact absurd c4 (by first | (simp; done) | (simp; omega) | omega | (simp [eqC_self]; done))
          · try simp only [decide_eq_true_eq, decide_eq_false_iff_not, beq_iff_eq, beq_eq_false_iff_ne, bne_iff_ne, ne_eq, Bool.not_eq_true', Bool.not_eq_false', Bool.and_eq_true, Bool.or_eq_true, bne_eq_false_iff_eq] at c4
            refine den_skip ?_
            refine den_seq ?_
            refine den_region TTok ?_
            intro K hK
            simp -implicitDefEqProofs (disch := first | decide | assumption | omega) only [go_sem, BoxAt.cell hb0_0, BoxAt.cell hb8_2, RdS.len rv sl22, wrap_id]
            refine hK _ _ ?_
            clear hK K
            refine den_seq ?_
            refine den_region TTok ?_
            intro K hK
            simp -implicitDefEqProofs (disch := first | decide | assumption | omega) only [go_sem, ld30, BoxAt.cell hb0_0, BoxAt.cell hb8_2, RdS.len rv sl22, wrap_id]
            try simp -implicitDefEqProofs (disch := first | decide | assumption | omega) only [go_sem, BoxAt.cell hb0_0, BoxAt.cell hb8_2, RdS.len rv sl22, wrap_id]
            refine CallA.mono (markCx_ok _ _ X (1 : Int) _ _ _ hod8_1 hom8_1 (List.nodup_append.2 ⟨hfd8_1.nodup, hfm8_1.nodup, fun b hb c hc e => ap2 b hb (e ▸ hc)⟩) (by omega)) ?_
            intro v_ h18_2
            rintro ⟨rfl, hogd18_2, hogm18_2, cg18_2⟩
            replace how7_5_0 := OS.chg how7_5_0 cg18_2 (Apart.app (apart_lt hlhow7_5_0 hfd8_1 (by omega)) (apart_lt hlhow7_5_0 hfm8_1 (by omega)))
            replace ho9_1 := OS.chg ho9_1 cg18_2 (Apart.app (apart_gt hf9_1 hlhod8_1 (by omega)) (apart_gt hf9_1 hlhom8_1 (by omega)))
            replace how10_3_0 := OS.chg how10_3_0 cg18_2 (Apart.app (apart_gt hfw10_3_0 hlhod8_1 (by omega)) (apart_gt hfw10_3_0 hlhom8_1 (by omega)))
            replace hb0_0 := BoxAt.chgA hb0_0 cg18_2 (Apart.app (apart_lt hlhb0_0 hfd8_1 (by omega)) (apart_lt hlhb0_0 hfm8_1 (by omega)))
            replace hb8_2 := BoxAt.chgA hb8_2 cg18_2 (Apart.app (apart_gt hfhb8_2 hlhod8_1 (by omega)) (apart_gt hfhb8_2 hlhom8_1 (by omega)))
            have := cg18_2.size
            replace eB := Ext.then eB cg18_2 (ge_app (ge_of hfd8_1 (by omega)) (ge_of hfm8_1 (by omega)))
            have ap7 : Apart fm8_1 fd8_1 := (Apart.symm ap2)
            have hlhogd18_2 := hlhod8_1
            have ap8 : Apart fd8_1 fm8_1 := (Apart.symm ap7)
            have hlhogm18_2 := hlhom8_1
            try simp -implicitDefEqProofs (disch := first | decide | assumption | omega) only [go_sem, BoxAt.cell hb0_0, BoxAt.cell hb8_2, RdS.len rv sl22, wrap_id]
            refine hK _ _ ?_
            clear hK K
            refine den_seq ?_
            refine den_region TTok ?_
            intro K hK
            simp -implicitDefEqProofs (disch := first | decide | assumption | omega) only [go_sem, BoxAt.cell hb0_0, RdS.len rv sl22, wrap_id]
            try simp -implicitDefEqProofs (disch := first | decide | assumption | omega) only [go_sem, BoxAt.cell hb0_0, RdS.len rv sl22, wrap_id]
            refine CallA.mono (markS_ok _ v ((1 : Int) + cnt1 X.dims + cntL cnt2 X.maps) _ _ ho9_1 hf9_1.nodup (by omega)) ?_
            intro v_ h19_2
            rintro ⟨rfl, hog19_2, cg19_2⟩
            replace how7_5_0 := OS.chg how7_5_0 cg19_2 (apart_lt hlhow7_5_0 hf9_1 (by omega))
            replace how10_3_0 := OS.chg how10_3_0 cg19_2 (apart_gt hfw10_3_0 hlho9_1 (by omega))
            replace hb0_0 := BoxAt.chgA hb0_0 cg19_2 (apart_lt hlhb0_0 hf9_1 (by omega))
            have := cg19_2.size
            replace eB := Ext.then eB cg19_2 (ge_of hf9_1 (by omega))
            have hlhog19_2 := hlho9_1
            try simp -implicitDefEqProofs (disch := first | decide | assumption | omega) only [go_sem, BoxAt.cell hb0_0, RdS.len rv sl22, wrap_id]
            refine hK _ _ ?_
            clear hK K
            refine den_seq ?_
            refine den_seq ?_
            refine den_mergeH [(84, .bool ((((decide ((((1 : Int) + cnt1 X.dims + cntL cnt2 X.maps) + cnt1 v) < (0 : Int))) || (!(true))) || (((spR X n v).2) != ((spR X n v).2)))))] [1, 2, 3, 8, 9, 12] ?_ ?_
              -- a way
            · refine den_region TTok ?_
              intro K hK
              simp -implicitDefEqProofs (disch := first | decide | assumption | (simp (disch := decide) only [slotOf_zero, slotOf_succ, Option.map_some, puts_same, puts_ne, gv_bool, gv_undef, tt, tf, ft, ff, eq_self, if_true, if_false, Bool.false_eq_true, Bool.not_true, Bool.not_false]; done) | omega) only [go_sem, BoxAt.cell hb0_0, RdS.len rv sl22, wrap_id]
              refine opsP_F (by simp (disch := decide) only [slotOf_zero, slotOf_succ, Option.map_some, puts_same, puts_ne, gv_bool, gv_undef, tt, tf, ft, ff, eq_self, if_true, if_false, Bool.false_eq_true, Bool.not_true, Bool.not_false]; rfl) (fun g9 => ?_) (fun g9 => ?_)
              · try simp -implicitDefEqProofs (disch := first | decide | assumption | (simp (disch := decide) only [slotOf_zero, slotOf_succ, Option.map_some, puts_same, puts_ne, gv_bool, gv_undef, tt, tf, ft, ff, eq_self, if_true, if_false, Bool.false_eq_true, Bool.not_true, Bool.not_false, g9]; done) | omega) only [go_sem, BoxAt.cell hb0_0, RdS.len rv sl22, wrap_id, g9, eq_self, if_true, if_false, Bool.false_eq_true]
                try simp -implicitDefEqProofs (disch := first | decide | assumption | omega) only [go_sem, BoxAt.cell hb0_0, RdS.len rv sl22, wrap_id]
                refine CallA.pure (eqSS_same _ _ _ _ (OS.rd how10_3_0) (OS.rd how7_5_0)) ?_
                try simp -implicitDefEqProofs (disch := first | decide | assumption | (simp (disch := decide) only [slotOf_zero, slotOf_succ, Option.map_some, puts_same, puts_ne, gv_bool, gv_undef, tt, tf, ft, ff, eq_self, if_true, if_false, Bool.false_eq_true, Bool.not_true, Bool.not_false, g9]; done) | omega) only [go_sem, BoxAt.cell hb0_0, RdS.len rv sl22, wrap_id, g9, eq_self, if_true, if_false, Bool.false_eq_true]
                try simp -implicitDefEqProofs (disch := first | decide | assumption | (simp (disch := decide) only [slotOf_zero, slotOf_succ, Option.map_some, puts_same, puts_ne, gv_bool, gv_undef, tt, tf, ft, ff, eq_self, if_true, if_false, Bool.false_eq_true, Bool.not_true, Bool.not_false, g9]; done) | omega) only [go_sem, BoxAt.cell hb0_0, RdS.len rv sl22, wrap_id, g9, eq_self, if_true, if_false, Bool.false_eq_true]
                refine hK _ _ ?_
                clear hK K
                refine den_stop ?_
                refine ⟨?_, rfl⟩
                first | (simp (disch := decide) only [go_sem, g9, eq_self, Bool.true_and, Bool.and_true, Bool.false_and, Bool.and_false, Bool.true_or, Bool.or_true, Bool.false_or, Bool.or_false, if_true, if_false, Bool.false_eq_true]; done) | simp [HasL, sel, puts_at, g9]
              · try simp -implicitDefEqProofs (disch := first | decide | assumption | (simp (disch := decide) only [slotOf_zero, slotOf_succ, Option.map_some, puts_same, puts_ne, gv_bool, gv_undef, tt, tf, ft, ff, eq_self, if_true, if_false, Bool.false_eq_true, Bool.not_true, Bool.not_false, g9]; done) | omega) only [go_sem, BoxAt.cell hb0_0, RdS.len rv sl22, wrap_id, g9, eq_self, if_true, if_false, Bool.false_eq_true]
                try simp -implicitDefEqProofs (disch := first | decide | assumption | (simp (disch := decide) only [slotOf_zero, slotOf_succ, Option.map_some, puts_same, puts_ne, gv_bool, gv_undef, tt, tf, ft, ff, eq_self, if_true, if_false, Bool.false_eq_true, Bool.not_true, Bool.not_false, g9]; done) | omega) only [go_sem, BoxAt.cell hb0_0, RdS.len rv sl22, wrap_id, g9, eq_self, if_true, if_false, Bool.false_eq_true]
                refine hK _ _ ?_
                clear hK K
                refine den_stop ?_
                refine ⟨?_, rfl⟩
                first | (simp (disch := decide) only [go_sem, g9, eq_self, Bool.true_and, Bool.and_true, Bool.false_and, Bool.and_false, Bool.true_or, Bool.or_true, Bool.false_or, Bool.or_false, if_true, if_false, Bool.false_eq_true]; done) | simp [HasL, sel, puts_at, g9]
            intro en10
            simp (disch := decide) only [go_sem]
            refine den_cond rfl (fun c5 => ?_) (fun c5 => ?_)
            · try simp only [decide_eq_true_eq, decide_eq_false_iff_not, beq_iff_eq, beq_eq_false_iff_ne, bne_iff_ne, ne_eq, Bool.not_eq_true', Bool.not_eq_false', Bool.and_eq_true, Bool.or_eq_true, bne_eq_false_iff_eq] at c5
              refine den_seq ?_
              refine den_region TTok ?_
              intro K hK
              simp -implicitDefEqProofs (disch := first | decide | assumption | omega) only [go_sem, RdS.len rv sl22, wrap_id]
              refine hK _ _ ?_
              clear hK K
              refine den_ret ?_
              simp (disch := decide) only [resP_1, puts_same, puts_ne]
              exact absurd c5 (by first | (simp; done) | (simp; omega) | omega | (simp [eqC_self]; done))
            · try simp only [decide_eq_true_eq, decide_eq_false_iff_not, beq_iff_eq, beq_eq_false_iff_ne, bne_iff_ne, ne_eq, Bool.not_eq_true', Bool.not_eq_false', Bool.and_eq_true, Bool.or_eq_true, bne_eq_false_iff_eq] at c5
              refine den_skip ?_
              refine den_seq ?_
              refine den_region TTok ?_
              intro K hK
              simp -implicitDefEqProofs (disch := first | decide | assumption | omega) only [go_sem, BoxAt.cell hb0_0, RdS.len rv sl22, wrap_id]
              refine hK _ _ ?_
              clear hK K
              refine den_seq ?_
              refine den_region TTok ?_
              intro K hK
              simp -implicitDefEqProofs (disch := first | decide | assumption | omega) only [go_sem, BoxAt.cell hb0_0, RdS.len rv sl22, wrap_id]
              try simp -implicitDefEqProofs (disch := first | decide | assumption | omega) only [go_sem, BoxAt.cell hb0_0, RdS.len rv sl22, wrap_id]
              refine CallA.mono (markSS_ok _ ((spR X n v).1) (1 : Int) _ _ how10_3_0 hfw10_3_0.nodup (by omega)) ?_
              intro v_ h23_2
              rintro ⟨rfl, hog23_2, cg23_2⟩
              replace how7_5_0 := OS.chg how7_5_0 cg23_2 (apart_lt hlhow7_5_0 hfw10_3_0 (by omega))
              replace hb0_0 := BoxAt.chgA hb0_0 cg23_2 (apart_lt hlhb0_0 hfw10_3_0 (by omega))
              have := cg23_2.size
              replace eB := Ext.then eB cg23_2 (ge_of hfw10_3_0 (by omega))
              have hlhog23_2 := hlhow10_3_0
              try simp -implicitDefEqProofs (disch := first | decide | assumption | omega) only [go_sem, BoxAt.cell hb0_0, RdS.len rv sl22, wrap_id]
              refine hK _ _ ?_
              clear hK K
              refine den_seq ?_
              refine den_region TTok ?_
              intro K hK
              simp -implicitDefEqProofs (disch := first | decide | assumption | omega) only [go_sem, BoxAt.cell hb0_0, RdS.len rv sl22, wrap_id]
              refine hK _ _ ?_
              clear hK K
              refine den_seq ?_
              refine den_region TTok ?_
              intro K hK
              simp -implicitDefEqProofs (disch := first | decide | assumption | omega) only [go_sem, BoxAt.cell hb0_0, RdS.len rv sl22, wrap_id]
              try simp -implicitDefEqProofs (disch := first | decide | assumption | omega) only [go_sem, BoxAt.cell hb0_0, RdS.len rv sl22, wrap_id]
              refine CallA.pure (heldSS_ok _ ((spR X n v).1) (1 : Int) _ (OS.rd hog23_2) (by omega)) ?_
              try simp -implicitDefEqProofs (disch := first | decide | assumption | omega) only [go_sem, BoxAt.cell hb0_0, RdS.len rv sl22, wrap_id]
              refine hK _ _ ?_
              clear hK K
              refine den_seq ?_
              refine den_seq ?_
              refine den_region TTok ?_
              intro K hK
              simp -implicitDefEqProofs (disch := first | decide | assumption | omega) only [go_sem, BoxAt.cell hb0_0, RdS.len rv sl22, wrap_id]
              refine hK _ _ ?_
              clear hK K
              refine den_cond rfl (fun c6 => ?_) (fun c6 => ?_)
              · try simp only [decide_eq_true_eq, decide_eq_false_iff_not, beq_iff_eq, beq_eq_false_iff_ne, bne_iff_ne, ne_eq, Bool.not_eq_true', Bool.not_eq_false', Bool.and_eq_true, Bool.or_eq_true, bne_eq_false_iff_eq] at c6
                refine den_seq ?_
                refine den_region TTok ?_
                intro K hK
                simp -implicitDefEqProofs (disch := first | decide | assumption | omega) only [go_sem, RdS.len rv sl22, wrap_id]
                refine hK _ _ ?_
                clear hK K
                refine den_ret ?_
                simp (disch := decide) only [resP_1, puts_same, puts_ne]
                exact absurd c6 (by first | (simp; done) | (simp; omega) | omega | (simp [eqC_self]; done))
              · try simp only [decide_eq_true_eq, decide_eq_false_iff_not, beq_iff_eq, beq_eq_false_iff_ne, bne_iff_ne, ne_eq, Bool.not_eq_true', Bool.not_eq_false', Bool.and_eq_true, Bool.or_eq_true, bne_eq_false_iff_eq] at c6
                refine den_skip ?_
                refine den_seq ?_
                refine den_seq ?_
                refine den_region TTok ?_
                intro K hK
                simp -implicitDefEqProofs (disch := first | decide | assumption | omega) only [go_sem, BoxAt.cell hb0_0, RdS.len rv sl22, wrap_id]
                refine hK _ _ ?_
                clear hK K
                refine den_cond rfl (fun c7 => ?_) (fun c7 => ?_)
                · try simp only [decide_eq_true_eq, decide_eq_false_iff_not, beq_iff_eq, beq_eq_false_iff_ne, bne_iff_ne, ne_eq, Bool.not_eq_true', Bool.not_eq_false', Bool.and_eq_true, Bool.or_eq_true, bne_eq_false_iff_eq] at c7
                  refine den_seq ?_
                  refine den_region TTok ?_
                  intro K hK
                  simp -implicitDefEqProofs (disch := first | decide | assumption | omega) only [go_sem, RdS.len rv sl22, wrap_id]
                  refine hK _ _ ?_
                  clear hK K
                  refine den_ret ?_
                  simp (disch := decide) only [resP_1, puts_same, puts_ne]
                  exact absurd c7 (by first | (simp; done) | (simp; omega) | omega | (simp [eqC_self]; done))
                · try simp only [decide_eq_true_eq, decide_eq_false_iff_not, beq_iff_eq, beq_eq_false_iff_ne, bne_iff_ne, ne_eq, Bool.not_eq_true', Bool.not_eq_false', Bool.and_eq_true, Bool.or_eq_true, bne_eq_false_iff_eq] at c7
                  refine den_skip ?_
                  refine den_seq ?_
                  refine den_region TTok ?_
                  intro K hK
                  simp -implicitDefEqProofs (disch := first | decide | assumption | omega) only [go_sem, ld25, BoxAt.cell hb0_0, RdS.len rv sl22, wrap_id]
                  try simp -implicitDefEqProofs (disch := first | decide | assumption | omega) only [go_sem, BoxAt.cell hb0_0, RdS.len rv sl22, wrap_id]
                  refine CallA.mono (toC_ok _ X _ ⟨_, _, rfl, (RdS.pres hdX (Ext.pres eB)), (RdS.pres hmX (Ext.pres eB))⟩ hMX) ?_
                  intro v_ h30_1
                  rintro ⟨vd30_1, vm30_1, fd30_1, fm30_1, rfl, hod30_1, hom30_1, hf30_1, e30_1⟩
                  replace how7_5_0 := OS.ext how7_5_0 e30_1
                  replace hog23_2 := OS.ext hog23_2 e30_1
                  replace hb0_0 := BoxAt.ext hb0_0 e30_1
                  have := Ext.size e30_1
                  replace eB := Ext.trans eB e30_1
                  have hfd30_1 := hf30_1.left
                  have hfm30_1 := hf30_1.right
                  have hlhod30_1 := OS.lt hod30_1
                  have hlhom30_1 := OS.lt hom30_1
                  have ap13 : Apart fd30_1 fm30_1 := apart_nodup hf30_1
                  try simp -implicitDefEqProofs (disch := first | decide | assumption | omega) only [go_sem, BoxAt.cell hb0_0, RdS.len rv sl22, wrap_id]
                  try simp -implicitDefEqProofs (disch := first | decide | assumption | omega) only [go_sem, BoxAt.cell hb0_0, RdS.len rv sl22, wrap_id]
                  refine CallA.mono (toS_ok _ v _ (RdS.pres rv (Ext.pres eB)) hMv) ?_
                  intro v30_4 h30_4
                  rintro ⟨f30_4, ho30_4, hf30_4, e30_4⟩
                  replace how7_5_0 := OS.ext how7_5_0 e30_4
                  replace hog23_2 := OS.ext hog23_2 e30_4
                  replace hod30_1 := OS.ext hod30_1 e30_4
                  replace hom30_1 := OS.ext hom30_1 e30_4
                  replace hb0_0 := BoxAt.ext hb0_0 e30_4
                  have := Ext.size e30_4
                  replace eB := Ext.trans eB e30_4
                  have hlho30_4 := OS.lt ho30_4
                  try simp -implicitDefEqProofs (disch := first | decide | assumption | omega) only [go_sem, BoxAt.cell hb0_0, RdS.len rv sl22, wrap_id]
                  try simp -implicitDefEqProofs (disch := first | decide | assumption | omega) only [go_sem, BoxAt.cell hb0_0, RdS.len rv sl22, wrap_id]
                  refine CallA.mono (iSV_ok _ _ X n v _ ⟨_, _, rfl, (OS.rd hod30_1), (OS.rd hom30_1)⟩ (OS.rd ho30_4) ) ?_
                  intro v_ h30_5
                  rintro ⟨vw30_5_0, fw30_5_0, rfl, how30_5_0, hfw30_5_0, e30_5⟩
                  replace how7_5_0 := OS.ext how7_5_0 e30_5
                  replace hog23_2 := OS.ext hog23_2 e30_5
                  replace hod30_1 := OS.ext hod30_1 e30_5
                  replace hom30_1 := OS.ext hom30_1 e30_5
                  replace ho30_4 := OS.ext ho30_4 e30_5
                  replace hb0_0 := BoxAt.ext hb0_0 e30_5
                  have := Ext.size e30_5
                  replace eB := Ext.trans eB e30_5
                  have hlhow30_5_0 := OS.lt how30_5_0
                  try simp -implicitDefEqProofs (disch := first | decide | assumption | omega) only [go_sem, BoxAt.cell hb0_0, RdS.len rv sl22, wrap_id]
                  refine hK _ _ ?_
                  clear hK K
                  refine den_seq ?_
                  refine den_seq ?_
                  refine den_mergeH [(113, .bool (((!(true)) || (((spR X n v).2) != ((spR X n v).2)))))] [12, 15] ?_ ?_
                    -- a way
                  · refine den_region TTok ?_
                    intro K hK
                    simp -implicitDefEqProofs (disch := first | decide | assumption | (simp (disch := decide) only [slotOf_zero, slotOf_succ, Option.map_some, puts_same, puts_ne, gv_bool, gv_undef, tt, tf, ft, ff, eq_self, if_true, if_false, Bool.false_eq_true, Bool.not_true, Bool.not_false]; done) | omega) only [go_sem, RdS.len rv sl22, wrap_id]
                    try simp -implicitDefEqProofs (disch := first | decide | assumption | omega) only [go_sem, RdS.len rv sl22, wrap_id]
                    refine CallA.pure (eqSS_same _ _ _ _ (OS.rd how30_5_0) (OS.rd how7_5_0)) ?_
                    try simp -implicitDefEqProofs (disch := first | decide | assumption | (simp (disch := decide) only [slotOf_zero, slotOf_succ, Option.map_some, puts_same, puts_ne, gv_bool, gv_undef, tt, tf, ft, ff, eq_self, if_true, if_false, Bool.false_eq_true, Bool.not_true, Bool.not_false]; done) | omega) only [go_sem, RdS.len rv sl22, wrap_id]
                    try simp -implicitDefEqProofs (disch := first | decide | assumption | (simp (disch := decide) only [slotOf_zero, slotOf_succ, Option.map_some, puts_same, puts_ne, gv_bool, gv_undef, tt, tf, ft, ff, eq_self, if_true, if_false, Bool.false_eq_true, Bool.not_true, Bool.not_false]; done) | omega) only [go_sem, RdS.len rv sl22, wrap_id]
                    refine hK _ _ ?_
                    clear hK K
                    refine den_stop ?_
                    refine ⟨?_, rfl⟩
                    first | (simp (disch := decide) only [go_sem, eq_self, Bool.true_and, Bool.and_true, Bool.false_and, Bool.and_false, Bool.true_or, Bool.or_true, Bool.false_or, Bool.or_false, if_true, if_false, Bool.false_eq_true]; done) | simp [HasL, sel, puts_at]
                  intro en14
                  simp (disch := decide) only [go_sem]
                  refine den_cond rfl (fun c8 => ?_) (fun c8 => ?_)
                  · try simp only [decide_eq_true_eq, decide_eq_false_iff_not, beq_iff_eq, beq_eq_false_iff_ne, bne_iff_ne, ne_eq, Bool.not_eq_true', Bool.not_eq_false', Bool.and_eq_true, Bool.or_eq_true, bne_eq_false_iff_eq] at c8
                    refine den_seq ?_
                    refine den_region TTok ?_
                    intro K hK
                    simp -implicitDefEqProofs (disch := first | decide | assumption | omega) only [go_sem, RdS.len rv sl22, wrap_id]
                    refine hK _ _ ?_
                    clear hK K
                    refine den_ret ?_
                    simp (disch := decide) only [resP_1, puts_same, puts_ne]
                    exact absurd c8 (by first | (simp; done) | (simp; omega) | omega | (simp [eqC_self]; done))
                  · try simp only [decide_eq_true_eq, decide_eq_false_iff_not, beq_iff_eq, beq_eq_false_iff_ne, bne_iff_ne, ne_eq, Bool.not_eq_true', Bool.not_eq_false', Bool.and_eq_true, Bool.or_eq_true, bne_eq_false_iff_eq] at c8
                    refine den_skip ?_
                    refine den_seq ?_
                    refine den_region TTok ?_
                    intro K hK
                    simp -implicitDefEqProofs (disch := first | decide | assumption | omega) only [go_sem, RdS.len rv sl22, wrap_id]
                    refine hK _ _ ?_
                    clear hK K
                    refine den_seq ?_
                    refine den_region TTok ?_
                    intro K hK
                    simp -implicitDefEqProofs (disch := first | decide | assumption | omega) only [go_sem, RdS.len rv sl22, wrap_id]
                    try simp -implicitDefEqProofs (disch := first | decide | assumption | omega) only [go_sem, RdS.len rv sl22, wrap_id]
                    refine CallA.pure (heldSS_ok _ ((spR X n v).1) (1 : Int) _ (OS.rd hog23_2) (by omega)) ?_
                    try simp -implicitDefEqProofs (disch := first | decide | assumption | omega) only [go_sem, RdS.len rv sl22, wrap_id]
                    refine hK _ _ ?_
                    clear hK K
                    refine den_seq ?_
                    refine den_seq ?_
                    refine den_region TTok ?_
                    intro K hK
                    simp -implicitDefEqProofs (disch := first | decide | assumption | omega) only [go_sem, RdS.len rv sl22, wrap_id]
                    refine hK _ _ ?_
                    clear hK K
                    refine den_cond rfl (fun c9 => ?_) (fun c9 => ?_)
                    · try simp only [decide_eq_true_eq, decide_eq_false_iff_not, beq_iff_eq, beq_eq_false_iff_ne, bne_iff_ne, ne_eq, Bool.not_eq_true', Bool.not_eq_false', Bool.and_eq_true, Bool.or_eq_true, bne_eq_false_iff_eq] at c9
                      refine den_seq ?_
                      refine den_region TTok ?_
                      intro K hK
                      simp -implicitDefEqProofs (disch := first | decide | assumption | omega) only [go_sem, RdS.len rv sl22, wrap_id]
                      refine hK _ _ ?_
                      clear hK K
                      refine den_ret ?_
                      simp (disch := decide) only [resP_1, puts_same, puts_ne]
                      exact absurd c9 (by first | (simp; done) | (simp; omega) | omega | (simp [eqC_self]; done))
                    · try simp only [decide_eq_true_eq, decide_eq_false_iff_not, beq_iff_eq, beq_eq_false_iff_ne, bne_iff_ne, ne_eq, Bool.not_eq_true', Bool.not_eq_false', Bool.and_eq_true, Bool.or_eq_true, bne_eq_false_iff_eq] at c9
                      refine den_skip ?_
                      refine den_seq ?_
                      refine den_seq ?_
                      refine den_region TTok ?_
                      intro K hK
                      simp -implicitDefEqProofs (disch := first | decide | assumption | omega) only [go_sem, RdS.len rv sl22, wrap_id]
                      refine hK _ _ ?_
                      clear hK K
                      refine den_cond rfl (fun c10 => ?_) (fun c10 => ?_)
                      · try simp only [decide_eq_true_eq, decide_eq_false_iff_not, beq_iff_eq, beq_eq_false_iff_ne, bne_iff_ne, ne_eq, Bool.not_eq_true', Bool.not_eq_false', Bool.and_eq_true, Bool.or_eq_true, bne_eq_false_iff_eq] at c10
                        refine den_seq ?_
                        refine den_region TTok ?_
                        intro K hK
                        simp -implicitDefEqProofs (disch := first | decide | assumption | omega) only [go_sem, RdS.len rv sl22, wrap_id]
                        refine hK _ _ ?_
                        clear hK K
                        refine den_ret ?_
                        simp (disch := decide) only [resP_1, puts_same, puts_ne]
                        exact absurd c10 (by first | (simp; done) | (simp; omega) | omega | (simp [eqC_self]; done))
                      · try simp only [decide_eq_true_eq, decide_eq_false_iff_not, beq_iff_eq, beq_eq_false_iff_ne, bne_iff_ne, ne_eq, Bool.not_eq_true', Bool.not_eq_false', Bool.and_eq_true, Bool.or_eq_true, bne_eq_false_iff_eq] at c10
                        refine den_skip ?_
                        refine den_seq ?_
                        refine den_region TTok ?_
                        intro K hK
                        simp -implicitDefEqProofs (disch := first | decide | assumption | omega) only [go_sem, RdS.len rv sl22, wrap_id]
                        refine hK _ _ ?_
                        clear hK K
                        refine den_ret ?_
                        simp (disch := decide) only [resP_1, puts_same, puts_ne]
                        exact ⟨by first | rfl | trivial, eB⟩
end Go.Proofs.Ytbplnadngahgaaa
