/-
  Walks: the program's reduction.
  Conditions: each theorem's own.
-/
import Derived.Test.YtbplnadngahgaaaD3
set_option linter.unusedVariables false
set_option linter.unusedSimpArgs false
namespace Go.Proofs.Ytbplnadngahgaaa
open Go
theorem idxP_cases {α : Type} {f : α → Bool} {xs : List α} (d : α) : (idxP f xs = -1 ∧ ∀ j, j < xs.length → f (xs.getD j d) = false) ∨ ∃ k : Nat, k < xs.length ∧ idxP f xs = k ∧ f (xs.getD k d) = true := by
  have key : ∀ n, n ≤ xs.length → (∀ j, j < n → f (xs.getD j d) = false) ∨ ∃ k : Nat, k < n ∧ (∀ j, j < k → f (xs.getD j d) = false) ∧ f (xs.getD k d) = true := by
    intro n
    induction n with
    | zero => intro _; exact .inl fun j hj => by omega
    | succ n ih =>
      intro hn
      rcases ih (by omega) with h | ⟨k, hk, h⟩
      · by_cases e : f (xs.getD n d) = true
        · exact .inr ⟨n, by omega, h, e⟩
        · exact .inl fun j hj => by
            rcases Nat.lt_succ_iff_lt_or_eq.1 hj with h' | h'
            · exact h j h'
            · rw [h']; simpa using e
      · exact .inr ⟨k, by omega, h⟩
  rcases key xs.length (Nat.le_refl _) with h | ⟨k, hk, h1, h2⟩
  · exact .inl ⟨idxP_none (all_getD (d := d) h), h⟩
  · exact .inr ⟨k, hk, idxP_at hk h1 h2, h2⟩
theorem drop_getD {α : Type} {xs : List α} {n j : Nat} {d : α} : (xs.drop n).getD j d = xs.getD (n + j) d := by
  rw [List.getD_eq_getElem?_getD, List.getElem?_drop, List.getD_eq_getElem?_getD]
theorem set_self {S : List (List Int)} {d : Nat} (hd : d < S.length) : S.set d (S.getD d default) = S := by
  rw [List.getD_eq_getElem?_getD, List.getElem?_eq_getElem hd]; exact List.set_getElem_self hd
theorem clrP_zero (p : Int) (d c : Nat) (S : List (List Int)) : clrP p d c S 0 = S := by
  rw [clrP]
  apply List.ext_getElem (by simp)
  intro i h1 h2
  simp only [List.getElem_map, List.getElem_range]
  rw [if_neg (by omega), List.getD_eq_getElem?_getD, List.getElem?_eq_getElem h2]; rfl
theorem clr_same {p : Int} {d c : Nat} {S : List (List Int)} {i : Nat} (h : i = d) : clrP p d c S (i + 1) = clrP p d c S i := by
  rw [clrP, clrP]
  apply List.map_congr_left
  intro q _
  by_cases h1 : q < i ∧ q ≠ d
  · rw [if_pos h1, if_pos ⟨by omega, h1.2⟩]
  · rw [if_neg h1, if_neg (by omega)]
theorem clr_upd {p : Int} {d c : Nat} {S : List (List Int)} {i : Nat} (h : i ≠ d) (hi : i < S.length) (hd : d < S.length) : (clrP p d c S i).set i (lessRow p (((clrP p d c S i).getD i default).getD c 0) ((clrP p d c S i).getD i default) ((clrP p d c S i).getD d default)) = clrP p d c S (i + 1) := by
  have gi : (clrP p d c S i).getD i default = S.getD i default := by rw [clrP_get hi, if_neg (by omega)]
  have gd : (clrP p d c S i).getD d default = S.getD d default := by rw [clrP_get hd, if_neg (by omega)]
  have g3 : ∀ {xs ys : List (List Int)}, xs.length = ys.length → (∀ q, q < xs.length → xs.getD q default = ys.getD q default) → xs = ys := by
    intro xs ys hl hh
    apply List.ext_getElem hl
    intro q h1 h2
    have := hh q h1
    rwa [List.getD_eq_getElem?_getD, List.getD_eq_getElem?_getD, List.getElem?_eq_getElem h1, List.getElem?_eq_getElem h2] at this
  rw [gi, gd]
  refine g3 (by rw [List.length_set, clrP_len, clrP_len]) (fun q hq => ?_)
  rw [List.length_set, clrP_len] at hq
  rw [getD_set (by rw [clrP_len]; exact hi), clrP_get hq, clrP_get hq]
  by_cases e : i = q
  · subst e
    rw [if_pos rfl, if_pos ⟨by omega, h⟩]
  · rw [if_neg e]
    by_cases h1 : q < i ∧ q ≠ d
    · rw [if_pos h1, if_pos ⟨by omega, h1.2⟩]
    · rw [if_neg h1, if_neg (by omega)]
theorem swapP_fst {M : List (List Int)} {d a : Nat} (hd : d < M.length) (ha : a < M.length) : (swapP M d a).getD d default = M.getD a default := by
  rw [swapP_get hd ha]
  by_cases e : a = d
  · rw [if_pos e, e]
  · rw [if_neg e, if_pos rfl]
theorem ech_nil {p : Int} (hp : 1 < p) : ech p [] = [] := ech_eq (w := 0) (l := fun i => i) hp Rr.nil Eqv.refl (fun h => absurd rfl h)
theorem mul36A {x y p : Int} (hx : 0 ≤ x ∧ x < p) (hy : 0 ≤ y ∧ y < p) (hp : p ≤ 7) : 0 ≤ x * y ∧ x * y ≤ 36 := mul36 hx hy hp

set_option maxRecDepth 100000 in
theorem red1_ok (c : Nat) (v : Value) (xs : List Int) (b : Nat) (h : Heap) (hv : R1 h v xs) (hb : BoxAt h b #[.int .i64 (c : Int)] 3) (hc : c < xs.length) : CallA Try.prog 145 #[v, .pointer (some ⟨b, 0, none⟩)] h fun v' h' => v' = .bool (xs.getD c 0 != 0) ∧ h' = h := by
  have hle := RdS.le hv
  refine callA_intro TTok (args := [_, _]) Try.func145 (by kernel_rfl) rfl 9 rfl (by simp) [.tmp 3] rfl ?_
  simp only [idxs, Nat.reduceAdd]
  refine den_seq ?_
  refine den_region TTok ?_
  intro K hK
  simp -implicitDefEqProofs (disch := first | decide | assumption | omega) only [go_sem, RdS.len hv sl22, RdS.idx hv sl22, R1.intB hv (HPres.refl _), RdS.cells hv, BoxAt.cell hb, wrap_id, Int.toNat_natCast]
  refine hK _ _ ?_
  clear hK K
  refine den_seq ?_
  refine den_region TTok ?_
  intro K hK
  simp -implicitDefEqProofs (disch := first | decide | assumption | omega) only [go_sem, ld2, ld3, RdS.len hv sl22, RdS.idx hv sl22, R1.intB hv (HPres.refl _), RdS.cells hv, BoxAt.cell hb, wrap_id, Int.toNat_natCast]
  refine hK _ _ ?_
  clear hK K
  refine den_ret ?_
  simp (disch := decide) only [resP_1, puts_same, puts_ne]
  exact ⟨by first | rfl | trivial, trivial⟩

set_option maxRecDepth 100000 in
theorem iReduce_ok (vR : Value) (p : Int) (R : List (List Int)) (h : Heap) (rR : R2 h vR R) {w : Nat} (hP : isP p = true) (hT : ∀ r ∈ R, r.length = w ∧ Bnd p r) (hw : w ≤ 1000) (hl : R.length ≤ 1000) : CallA Try.prog 111 #[.int .i64 p, vR] h fun v' h' => ∃ w0 f0, v' = w0 ∧ O2 h' w0 (ech p R) f0 ∧ Fresh h.size f0 ∧ Ext h h' := by
  have hleR := RdS.le rR
  have hp := isP_two hP
  refine callA_intro TTok (args := [_, _]) Try.func111 (by kernel_rfl) rfl 134 rfl (by simp) [.tmp 4] rfl ?_
  simp only [idxs, Nat.reduceAdd]
  refine den_seq ?_
  refine den_region TTok ?_
  intro K hK
  simp -implicitDefEqProofs (disch := first | decide | assumption | omega) only [go_sem, RdS.len rR sl36, RdS.idx rR sl36, RdS.cellB rR (HPres.refl _), RdS.cells rR, wrap_id, Int.toNat_zero]
  refine hK _ _ ?_
  clear hK K
  refine den_seq ?_
  refine den_region TTok ?_
  intro K hK
  simp -implicitDefEqProofs (disch := first | decide | assumption | omega) only [go_sem, RdS.len rR sl36, RdS.idx rR sl36, RdS.cellB rR (HPres.refl _), RdS.cells rR, wrap_id, Int.toNat_zero]
  refine op_bs0 sz36 O1 ?_
  intro v1_0 h1_0 ho1_0 e1_0
  have := Ext.size e1_0
  have eB := e1_0
  have hfho1_0 : Fresh h.size [h.size] := Fresh.one _
  have hlho1_0 := OS.lt ho1_0
  try simp -implicitDefEqProofs (disch := first | decide | assumption | omega) only [go_sem, RdS.len rR sl36, RdS.idx rR sl36, RdS.cellB rR (Ext.pres eB), RdS.cells rR, RdS.len (OS.rd ho1_0) sl36, RdS.idx (OS.rd ho1_0) sl36, RdS.cellN (OS.rd ho1_0), RdS.cells (OS.rd ho1_0), wrap_id, Int.toNat_zero]
  refine hK _ _ ?_
  clear hK K
  refine den_seq ?_
  refine den_seq ?_
  refine den_region TTok ?_
  intro K hK
  simp -implicitDefEqProofs (disch := first | decide | assumption | omega) only [go_sem, RdS.len rR sl36, RdS.idx rR sl36, RdS.cellB rR (Ext.pres eB), RdS.cells rR, RdS.len (OS.rd ho1_0) sl36, RdS.idx (OS.rd ho1_0) sl36, RdS.cellN (OS.rd ho1_0), RdS.cells (OS.rd ho1_0), wrap_id, Int.toNat_zero]
  refine hK _ _ ?_
  clear hK K
  refine den_block ?_
  refine den_sel [5, 17, 0, 15, 16] ?_
  intro env_1
  simp only [go_sem]
  refine den_loopS (σ := Nat × Value × List Nat) (fun st_ => [(5, st_.2.1), (17, .int .i64 (st_.1 : Int))]) (fun st_ H => (st_.1 ≤ R.length) ∧ (O2 H st_.2.1 (R.take st_.1) st_.2.2) ∧ (Fresh (h.size) st_.2.2) ∧ (Sub [h.size] h1_0.size st_.2.2) ∧ (Chg [h.size] h1_0 H)) (fun st_ => R.length - st_.1) (0, v1_0, [h.size]) ?_ ?_
  · exact ⟨by first | (simp; done) | (dsimp only; omega) | (simp; omega), by simpa using ho1_0, hfho1_0, Sub.refl, Chg.refl _ _⟩
  · rintro ⟨k, vhL, fphL⟩ h4 ee3 ⟨hi0, hL, hfhL, sbhL, cL2⟩
    dsimp only at hi0 hL hfhL sbhL cL2
    have := cL2.size
    replace eB := Ext.then eB cL2 (ge_of hfho1_0 (by omega))
    have hlhL := OS.lt hL
    simp only [List.cons_append, List.nil_append]
    refine den_seq ?_
    refine den_region TTok ?_
    intro K hK
    simp -implicitDefEqProofs (disch := first | decide | assumption | omega) only [go_sem, RdS.len rR sl36, RdS.idx rR sl36, RdS.cellB rR (Ext.pres eB), RdS.cells rR, RdS.len (OS.rd hL) sl36, RdS.idx (OS.rd hL) sl36, RdS.cellN (OS.rd hL), RdS.cells (OS.rd hL), wrap_id, Int.toNat_zero]
    refine hK _ _ ?_
    clear hK K
    refine den_seq ?_
    refine den_cond rfl (fun c0 => ?_) (fun c0 => ?_)
    · try simp only [decide_eq_true_eq, decide_eq_false_iff_not, beq_iff_eq, beq_eq_false_iff_ne, bne_iff_ne, ne_eq, Bool.not_eq_true', Bool.not_eq_false', Bool.and_eq_true, Bool.or_eq_true, bne_eq_false_iff_eq] at c0
      refine den_skip ?_
      refine den_seq ?_
      refine den_block ?_
      refine den_seq ?_
      refine den_region TTok ?_
      intro K hK
      have hr5 := RdS.rowN rR k (by omega)
      have hlhr5 := RdS.le hr5
      simp -implicitDefEqProofs (disch := first | decide | assumption | omega) only [go_sem, ld22, RdS.len rR sl36, RdS.idx rR sl36, RdS.cellB rR (Ext.pres eB), RdS.cells rR, RdS.len hr5 sl22, RdS.idx hr5 sl22, R1.intB hr5 (Ext.pres eB), RdS.cells hr5, RdS.len (OS.rd hL) sl36, RdS.idx (OS.rd hL) sl36, RdS.cellN (OS.rd hL), RdS.cells (OS.rd hL), wrap_id, Int.toNat_zero]
      refine hK _ _ ?_
      clear hK K
      have hri_ := (hT _ (getD_mem (show k < R.length by omega))).1
      have hlt_ : (R.take k).length = k := by simp; omega
      refine den_region TTok ?_
      intro K hK
      simp -implicitDefEqProofs (disch := first | decide | assumption | omega) only [go_sem, RdS.len rR sl36, RdS.idx rR sl36, RdS.cellB rR (Ext.pres eB), RdS.cells rR, RdS.len hr5 sl22, RdS.idx hr5 sl22, R1.intB hr5 (Ext.pres eB), RdS.cells hr5, RdS.len (OS.rd hL) sl36, RdS.idx (OS.rd hL) sl36, RdS.cellN (OS.rd hL), RdS.cells (OS.rd hL), wrap_id, Int.toNat_zero]
      try simp -implicitDefEqProofs (disch := first | decide | assumption | omega) only [go_sem, RdS.len rR sl36, RdS.idx rR sl36, RdS.cellB rR (Ext.pres eB), RdS.cells rR, RdS.len hr5 sl22, RdS.idx hr5 sl22, R1.intB hr5 (Ext.pres eB), RdS.cells hr5, RdS.len (OS.rd hL) sl36, RdS.idx (OS.rd hL) sl36, RdS.cellN (OS.rd hL), RdS.cells (OS.rd hL), wrap_id, Int.toNat_zero]
      refine CallA.mono (clone1_ok _ ((R).getD k default) _ (RdS.pres hr5 (Ext.pres eB)) (by omega)) ?_
      intro vw5_2_0 h5_2
      rintro ⟨zvw5_2_0, fw5_2_0, rfl, how5_2_0, hfw5_2_0, e5_2⟩
      replace hL := OS.ext hL e5_2
      have := Ext.size e5_2
      replace eB := Ext.trans eB e5_2
      replace cL2 := Chg.stepE cL2 e5_2
      have hlhow5_2_0 := OS.lt how5_2_0
      try simp -implicitDefEqProofs (disch := first | decide | assumption | omega) only [go_sem, RdS.len rR sl36, RdS.idx rR sl36, RdS.cellB rR (Ext.pres eB), RdS.cells rR, RdS.len hr5 sl22, RdS.idx hr5 sl22, R1.intB hr5 (Ext.pres eB), RdS.cells hr5, RdS.len (OS.rd hL) sl36, RdS.idx (OS.rd hL) sl36, RdS.cellN (OS.rd hL), RdS.cells (OS.rd hL), RdS.len (OS.rd how5_2_0) sl22, RdS.idx (OS.rd how5_2_0) sl22, R1.intN (OS.rd how5_2_0), RdS.cells (OS.rd how5_2_0), wrap_id, Int.toNat_zero]
      refine op_bs1 sz36 rfl (OS.one how5_2_0).2 ?_
      try simp -implicitDefEqProofs (disch := first | decide | assumption | omega) only [go_sem, RdS.len rR sl36, RdS.idx rR sl36, RdS.cellB rR (Ext.pres eB), RdS.cells rR, RdS.len hr5 sl22, RdS.idx hr5 sl22, R1.intB hr5 (Ext.pres eB), RdS.cells hr5, RdS.len (OS.rd hL) sl36, RdS.idx (OS.rd hL) sl36, RdS.cellN (OS.rd hL), RdS.cells (OS.rd hL), RdS.len (OS.rd how5_2_0) sl22, RdS.idx (OS.rd how5_2_0) sl22, R1.intN (OS.rd how5_2_0), RdS.cells (OS.rd how5_2_0), wrap_id, Int.toNat_zero]
      refine op_append1 sz36 hL hfhL.nodup how5_2_0 hfw5_2_0.nodup (apart_lt hlhL hfw5_2_0 (by omega)) (by first | omega | (simp; omega)) rfl rfl ?_
      intro v5_4 h5_4 fp5_4 ho5_4 hn5_4 hs5_4 c5_4
      have hsz5_4 := c5_4.size
      have hfho5_4 : Fresh h.size fp5_4 := Fresh.appd hfhL hfw5_2_0 (by omega) (by omega) hn5_4 hs5_4
      have sb6 : Sub [h.size] h1_0.size fp5_4 := Sub.grow sbhL (Sub.fresh hfw5_2_0 (by omega)) (by omega) hs5_4
      have := c5_4.size
      replace eB := Ext.then eB c5_4 (ge_of hfhL (by omega))
      replace cL2 := Chg.step cL2 c5_4 sbhL
      have hlho5_4 := OS.lt ho5_4
      try simp -implicitDefEqProofs (disch := first | decide | assumption | omega) only [go_sem, RdS.len rR sl36, RdS.idx rR sl36, RdS.cellB rR (Ext.pres eB), RdS.cells rR, RdS.len hr5 sl22, RdS.idx hr5 sl22, R1.intB hr5 (Ext.pres eB), RdS.cells hr5, RdS.len (OS.rd ho5_4) sl36, RdS.idx (OS.rd ho5_4) sl36, RdS.cellN (OS.rd ho5_4), RdS.cells (OS.rd ho5_4), wrap_id, Int.toNat_zero]
      refine hK _ _ ?_
      clear hK K
      refine den_blk ?_
      refine den_region TTok ?_
      intro K hK
      simp -implicitDefEqProofs (disch := first | decide | assumption | omega) only [go_sem, RdS.len rR sl36, RdS.idx rR sl36, RdS.cellB rR (Ext.pres eB), RdS.cells rR, RdS.len hr5 sl22, RdS.idx hr5 sl22, R1.intB hr5 (Ext.pres eB), RdS.cells hr5, RdS.len (OS.rd ho5_4) sl36, RdS.idx (OS.rd ho5_4) sl36, RdS.cellN (OS.rd ho5_4), RdS.cells (OS.rd ho5_4), wrap_id, Int.toNat_zero]
      refine hK _ _ ?_
      clear hK K
      refine den_stop ?_
      rw [← take_snoc (by omega)] at ho5_4
      exact ⟨(k + 1, v5_4, fp5_4), by simp [HasL, puts_at], ⟨by first | omega | (dsimp only; omega), ho5_4, hfho5_4, sb6, cL2⟩, by first | omega | (dsimp only; omega)⟩
    · try simp only [decide_eq_true_eq, decide_eq_false_iff_not, beq_iff_eq, beq_eq_false_iff_ne, bne_iff_ne, ne_eq, Bool.not_eq_true', Bool.not_eq_false', Bool.and_eq_true, Bool.or_eq_true, bne_eq_false_iff_eq] at c0
      refine den_exit ?_
      refine denX_code ?_
      refine denX_stop ?_
      refine denX_hit ?_
      refine den_seq ?_
      refine den_seq ?_
      rw [List.take_of_length_le (by omega)] at hL
      have hw0 : 0 < R.length → (R.getD 0 default).length = w := fun h0_ => (hT _ (getD_mem h0_)).1
      refine den_region TTok ?_
      intro K hK
      simp -implicitDefEqProofs (disch := first | decide | assumption | omega) only [go_sem, RdS.len rR sl36, RdS.idx rR sl36, RdS.cellB rR (Ext.pres eB), RdS.cells rR, RdS.len (OS.rd hL) sl36, RdS.idx (OS.rd hL) sl36, RdS.cellN (OS.rd hL), RdS.cells (OS.rd hL), wrap_id, Int.toNat_zero]
      refine hK _ _ ?_
      clear hK K
      refine den_cond rfl (fun c1 => ?_) (fun c1 => ?_)
      · try simp only [decide_eq_true_eq, decide_eq_false_iff_not, beq_iff_eq, beq_eq_false_iff_ne, bne_iff_ne, ne_eq, Bool.not_eq_true', Bool.not_eq_false', Bool.and_eq_true, Bool.or_eq_true, bne_eq_false_iff_eq] at c1
        refine den_seq ?_
        refine den_region TTok ?_
        intro K hK
        simp -implicitDefEqProofs (disch := first | decide | assumption | omega) only [go_sem, RdS.len rR sl36, RdS.idx rR sl36, RdS.cellB rR (Ext.pres eB), RdS.cells rR, RdS.len (OS.rd hL) sl36, RdS.idx (OS.rd hL) sl36, RdS.cellN (OS.rd hL), RdS.cells (OS.rd hL), wrap_id, Int.toNat_zero]
        refine hK _ _ ?_
        clear hK K
        refine den_ret ?_
        simp (disch := decide) only [resP_1, puts_same, puts_ne]
        have hz : R = [] := List.length_eq_zero_iff.1 (by omega)
        subst hz
        rw [ech_nil (isP_two hP).1]
        exact ⟨_, _, rfl, hL, hfhL.mono (by omega), eB⟩
      · try simp only [decide_eq_true_eq, decide_eq_false_iff_not, beq_iff_eq, beq_eq_false_iff_ne, bne_iff_ne, ne_eq, Bool.not_eq_true', Bool.not_eq_false', Bool.and_eq_true, Bool.or_eq_true, bne_eq_false_iff_eq] at c1
        refine den_skip ?_
        refine den_seq ?_
        refine den_region TTok ?_
        intro K hK
        simp -implicitDefEqProofs (disch := first | decide | assumption | omega) only [go_sem, RdS.len rR sl36, RdS.idx rR sl36, RdS.cellB rR (Ext.pres eB), RdS.cells rR, RdS.len (OS.rd hL) sl36, RdS.idx (OS.rd hL) sl36, RdS.cellN (OS.rd hL), RdS.cells (OS.rd hL), wrap_id, Int.toNat_zero]
        refine hK _ _ ?_
        clear hK K
        refine den_seq ?_
        refine den_seq ?_
        have hwz := hw0 (by omega)
        have hz10 := RdS.cellN (OS.rd hL) 0 (by omega)
        rw [addr_zero] at hz10
        refine den_region TTok ?_
        intro K hK
        have hr7 := RdS.rowN (OS.rd hL) 0 (by omega)
        have hlhr7 := RdS.le hr7
        have xr8 := Ext.refl h4
        simp -implicitDefEqProofs (disch := first | decide | assumption | omega) only [go_sem, ld22, RdS.len rR sl36, RdS.idx rR sl36, RdS.cellB rR (Ext.pres eB), RdS.cells rR, RdS.len (OS.rd hL) sl36, RdS.idx (OS.rd hL) sl36, RdS.cellN (OS.rd hL), RdS.cells (OS.rd hL), RdS.len hr7 sl22, RdS.idx hr7 sl22, R1.intB hr7 (Ext.pres xr8), RdS.cells hr7, wrap_id, Int.toNat_zero, hz10]
        refine hK _ _ ?_
        clear hK K
        refine den_block ?_
        refine den_sel [8, 35, 0, 5, 34] ?_
        intro env_9
        simp only [go_sem]
        refine den_loopS (σ := Nat × Nat × List (List Int) × (Nat → Nat) × List Nat) (fun st_ => [(8, .int .i64 (st_.2.1 : Int)), (35, .int .i64 (st_.1 : Int))]) (fun st_ H => (RI p w R st_.2.2.1 st_.2.2.2.1 st_.2.1 st_.1) ∧ (st_.1 ≤ w) ∧ (O2 H vhL (st_.2.2.1) st_.2.2.2.2) ∧ (Fresh (h.size) st_.2.2.2.2) ∧ (Sub fphL h4.size st_.2.2.2.2) ∧ (Chg fphL h4 H)) (fun st_ => w - st_.1) (0, 0, R, (fun i => i), fphL) ?_ ?_
        · exact ⟨RI.start hT, by dsimp only; omega, by exact hL, hfhL, Sub.refl, Chg.refl _ _⟩
        · rintro ⟨c, d, M, l, fphM⟩ h12 ee11 ⟨hri, hcw_, hM, hfhM, sbhM, cL10⟩
          dsimp only at hri hcw_ hM hfhM sbhM cL10
          have := cL10.size
          replace eB := Ext.then eB cL10 (ge_of hfhL (by omega))
          have hlhM := OS.lt hM
          simp only [List.cons_append, List.nil_append]
          have hln := hri.ln
          have hdl := hri.dl
          refine den_seq ?_
          refine den_region TTok ?_
          intro K hK
          simp -implicitDefEqProofs (disch := first | decide | assumption | omega) only [go_sem, RdS.len rR sl36, RdS.idx rR sl36, RdS.cellB rR (Ext.pres eB), RdS.cells rR, RdS.len (OS.rd hM) sl36, RdS.idx (OS.rd hM) sl36, RdS.cellN (OS.rd hM), RdS.cells (OS.rd hM), wrap_id, Int.toNat_zero]
          refine hK _ _ ?_
          clear hK K
          refine den_seq ?_
          refine den_cond rfl (fun c2 => ?_) (fun c2 => ?_)
          · try simp only [decide_eq_true_eq, decide_eq_false_iff_not, beq_iff_eq, beq_eq_false_iff_ne, bne_iff_ne, ne_eq, Bool.not_eq_true', Bool.not_eq_false', Bool.and_eq_true, Bool.or_eq_true, bne_eq_false_iff_eq] at c2
            refine den_skip ?_
            refine den_seq ?_
            refine den_block ?_
            refine den_seq ?_
            refine den_region TTok ?_
            intro K hK
            simp -implicitDefEqProofs (disch := first | decide | assumption | omega) only [go_sem, RdS.len rR sl36, RdS.idx rR sl36, RdS.cellB rR (Ext.pres eB), RdS.cells rR, RdS.len (OS.rd hM) sl36, RdS.idx (OS.rd hM) sl36, RdS.cellN (OS.rd hM), RdS.cells (OS.rd hM), wrap_id, Int.toNat_zero]
            refine op_alloc (cs := #[.int .i64 0]) (by kernel_rfl) ?_
            intro h12_1 e12_1 hb12_1 z12_1
            replace hM := OS.ext hM e12_1
            have := Ext.size e12_1
            replace eB := Ext.trans eB e12_1
            replace cL10 := Chg.stepE cL10 e12_1
            have hfhb12_1 : Fresh h12.size [h12.size] := Fresh.one _
            have hlhb12_1 := one_lt (show h12.size < h12_1.size by omega)
            try simp -implicitDefEqProofs (disch := first | decide | assumption | omega) only [go_sem, RdS.len rR sl36, RdS.idx rR sl36, RdS.cellB rR (Ext.pres eB), RdS.cells rR, RdS.len (OS.rd hM) sl36, RdS.idx (OS.rd hM) sl36, RdS.cellN (OS.rd hM), RdS.cells (OS.rd hM), BoxAt.cell hb12_1, wrap_id, Int.toNat_zero]
            refine op_storeB (cs' := #[.int .i64 ((c : Int))]) st3 hb12_1 rfl rfl rfl (by simp) (allOne_mem (l := [.int .i64 ((c : Int))]) ⟨rfl, trivial⟩) rfl ?_
            intro h12_2 hb12_1 c12_2
            replace hM := OS.chg hM c12_2 (apart_lt hlhM hfhb12_1 (by omega))
            have := c12_2.size
            replace eB := Ext.then eB c12_2 (ge_of hfhb12_1 (by omega))
            replace cL10 := Chg.step cL10 c12_2 (Sub.fresh hfhb12_1 (by omega))
            try simp -implicitDefEqProofs (disch := first | decide | assumption | omega) only [go_sem, RdS.len rR sl36, RdS.idx rR sl36, RdS.cellB rR (Ext.pres eB), RdS.cells rR, RdS.len (OS.rd hM) sl36, RdS.idx (OS.rd hM) sl36, RdS.cellN (OS.rd hM), RdS.cells (OS.rd hM), BoxAt.cell hb12_1, wrap_id, Int.toNat_zero]
            refine hK _ _ ?_
            clear hK K
            refine den_seq ?_
            obtain ⟨vs, hes, hRs⟩ := RdS.dropV (k := .i64) (OS.rd hM) sl36 (lo := (d : Int)) (by omega) (by omega)
            rw [Int.toNat_natCast] at hRs
            have hdj : ∀ j, j < (M.drop d).length → ((M.drop d).getD j default).length = w := fun j hj => by
              rw [List.length_drop] at hj
              rw [drop_getD]; exact hri.len (d + j) (by omega)
            refine den_region TTok ?_
            intro K hK
            simp -implicitDefEqProofs (disch := first | decide | assumption | omega) only [go_sem, RdS.len rR sl36, RdS.idx rR sl36, RdS.cellB rR (Ext.pres eB), RdS.cells rR, RdS.len (OS.rd hM) sl36, RdS.idx (OS.rd hM) sl36, RdS.cellN (OS.rd hM), RdS.cells (OS.rd hM), BoxAt.cell hb12_1, wrap_id, Int.toNat_zero, hes, Option.map_some, Option.map_none]
            try simp -implicitDefEqProofs (disch := first | decide | assumption | omega) only [go_sem, RdS.len rR sl36, RdS.idx rR sl36, RdS.cellB rR (Ext.pres eB), RdS.cells rR, RdS.len (OS.rd hM) sl36, RdS.idx (OS.rd hM) sl36, RdS.cellN (OS.rd hM), RdS.cells (OS.rd hM), BoxAt.cell hb12_1, wrap_id, Int.toNat_zero, hes, Option.map_some, Option.map_none]
            refine CallA.mono (idx2_ok _ (M.drop d) _ _ (fun r : List Int => r.getD c 0 != 0) _ hRs (fun j hj h' e => by
    simp only [List.append_toArray, List.cons_append, List.nil_append]
    exact CallA.mono (red1_ok c _ _ _ _ ((RdS.rowN hRs j hj).pres (Ext.pres e)) (BoxAt.ext hb12_1 e) (by rw [hdj j hj]; omega)) (fun _ _ ⟨e1, e2⟩ => ⟨e1, e2 ▸ Ext.refl _⟩))) ?_
            intro v_ h13_4
            rintro ⟨rfl, e13_4⟩
            replace hM := OS.ext hM e13_4
            replace hb12_1 := BoxAt.ext hb12_1 e13_4
            have := Ext.size e13_4
            replace eB := Ext.trans eB e13_4
            replace cL10 := Chg.stepE cL10 e13_4
            try simp -implicitDefEqProofs (disch := first | decide | assumption | omega) only [go_sem, RdS.len rR sl36, RdS.idx rR sl36, RdS.cellB rR (Ext.pres eB), RdS.cells rR, RdS.len (OS.rd hM) sl36, RdS.idx (OS.rd hM) sl36, RdS.cellN (OS.rd hM), RdS.cells (OS.rd hM), BoxAt.cell hb12_1, wrap_id, Int.toNat_zero, hes, Option.map_some, Option.map_none]
            refine hK _ _ ?_
            clear hK K
            refine den_seq ?_
            refine den_seq ?_
            refine den_region TTok ?_
            intro K hK
            simp -implicitDefEqProofs (disch := first | decide | assumption | omega) only [go_sem, RdS.len rR sl36, RdS.idx rR sl36, RdS.cellB rR (Ext.pres eB), RdS.cells rR, RdS.len (OS.rd hM) sl36, RdS.idx (OS.rd hM) sl36, RdS.cellN (OS.rd hM), RdS.cells (OS.rd hM), BoxAt.cell hb12_1, wrap_id, Int.toNat_zero]
            refine hK _ _ ?_
            clear hK K
            refine den_cond rfl (fun c3 => ?_) (fun c3 => ?_)
            · try simp only [decide_eq_true_eq, decide_eq_false_iff_not, beq_iff_eq, beq_eq_false_iff_ne, bne_iff_ne, ne_eq, Bool.not_eq_true', Bool.not_eq_false', Bool.and_eq_true, Bool.or_eq_true, bne_eq_false_iff_eq] at c3
              have hnone : ∀ q, d ≤ q → q < M.length → g2 M q c = 0 := fun q hq1 hq2 => by
                rcases idxP_cases (f := fun r : List Int => r.getD c 0 != 0) (xs := M.drop d) default with ⟨_, hz⟩ | ⟨k_, _, hk2, _⟩
                · have := hz (q - d) (by rw [List.length_drop]; omega)
                  rw [drop_getD, show d + (q - d) = q by omega] at this
                  simpa using this
                · omega
              refine den_exit ?_
              refine denX_code ?_
              refine denX_hit ?_
              refine den_region TTok ?_
              intro K hK
              simp -implicitDefEqProofs (disch := first | decide | assumption | omega) only [go_sem, RdS.len rR sl36, RdS.idx rR sl36, RdS.cellB rR (Ext.pres eB), RdS.cells rR, RdS.len (OS.rd hM) sl36, RdS.idx (OS.rd hM) sl36, RdS.cellN (OS.rd hM), RdS.cells (OS.rd hM), wrap_id, Int.toNat_zero]
              refine hK _ _ ?_
              clear hK K
              refine den_stop ?_
              exact ⟨(c + 1, d, M, l, fphM), by simp [HasL, puts_at], ⟨hri.skip (fun q hq1 hq2 => hnone q hq1 hq2), by dsimp only; omega, hM, hfhM, sbhM, cL10⟩, by first | omega | (dsimp only; omega)⟩
            · try simp only [decide_eq_true_eq, decide_eq_false_iff_not, beq_iff_eq, beq_eq_false_iff_ne, bne_iff_ne, ne_eq, Bool.not_eq_true', Bool.not_eq_false', Bool.and_eq_true, Bool.or_eq_true, bne_eq_false_iff_eq] at c3
              obtain ⟨a, ha, hea, hfa⟩ : ∃ k : Nat, k < (M.drop d).length ∧ idxP (fun r : List Int => r.getD c 0 != 0) (M.drop d) = (k : Int) ∧ (fun r : List Int => r.getD c 0 != 0) ((M.drop d).getD k default) = true := by
                rcases idxP_cases (f := fun r : List Int => r.getD c 0 != 0) (xs := M.drop d) default with ⟨hm, _⟩ | h
                · omega
                · exact h
              rw [List.length_drop] at ha
              have haM : d + a < M.length := by omega
              have hpc : (M.getD (d + a) default).getD c 0 ≠ 0 := by rw [drop_getD] at hfa; simpa using hfa
              have eda : ((d : Int) + (a : Int)).toNat = d + a := by omega
              refine den_skip ?_
              refine den_seq ?_
              refine den_draw TTok mixed [17, 19] [(0, true), (1, true), (2, true), (3, true), (4, true), (5, true), (6, true), (7, true), (8, true), (9, true), (10, true), (11, true), (12, true), (13, true), (14, true), (15, true), (16, true), (17, false), (18, true), (19, false)] (by kernel_rfl) ?_
              intro K hK
              have hr13 := RdS.rowN (OS.rd hM) (((d : Int) + (a : Int))).toNat (by omega)
              have hlhr13 := RdS.le hr13
              have xr14 := Ext.refl h13_4
              have hr15 := RdS.rowN (OS.rd hM) d (by omega)
              have hlhr15 := RdS.le hr15
              have xr16 := Ext.refl h13_4
              simp -implicitDefEqProofs (disch := first | decide | assumption | omega) only [go_sem, ld22, RdS.len rR sl36, RdS.idx rR sl36, RdS.cellB rR (Ext.pres eB), RdS.cells rR, RdS.len (OS.rd hM) sl36, RdS.idx (OS.rd hM) sl36, RdS.cellN (OS.rd hM), RdS.cells (OS.rd hM), BoxAt.cell hb12_1, RdS.len hr13 sl22, RdS.idx hr13 sl22, R1.intB hr13 (Ext.pres xr14), RdS.cells hr13, RdS.len hr15 sl22, RdS.idx hr15 sl22, R1.intB hr15 (Ext.pres xr16), RdS.cells hr15, wrap_id, Int.toNat_zero, hea]
              have hq := OS.swap hM hfhM.nodup (d := d) (a := d + a) (by omega) haM
              obtain ⟨hq1, hq2, hq3, hq4, fpS, hoS, hnS, hsS, cS⟩ := hq
              refine op_raw st22 hq1 hq3 rfl rfl ?_
              try simp (disch := decide) only [outv_some, outv_none, put_puts]
              refine plK_last (by decide) ?_
              try simp -implicitDefEqProofs (disch := first | decide | assumption | omega) only [go_sem, RdS.len rR sl36, RdS.idx rR sl36, RdS.cellB rR (Ext.pres eB), RdS.cells rR, RdS.len (OS.rd hM) sl36, RdS.idx (OS.rd hM) sl36, RdS.cellN (OS.rd hM), RdS.cells (OS.rd hM), BoxAt.cell hb12_1, RdS.len hr13 sl22, RdS.idx hr13 sl22, R1.intB hr13 (Ext.pres xr14), RdS.cells hr13, RdS.len hr15 sl22, RdS.idx hr15 sl22, R1.intB hr15 (Ext.pres xr16), RdS.cells hr15, wrap_id, Int.toNat_zero, hea]
              refine op_raw st22 hq2 hq4 rfl rfl ?_
              generalize (hset (hset h13_4 ((sA vhL).add d) (rowV h13_4 vhL (d + a))) ((sA vhL).add (d + a)) (rowV h13_4 vhL d)) = h15_19 at hoS cS ⊢
              have hszS := cS.size
              have hfhoS : Fresh h.size fpS := ⟨hnS, fun b hb => hfhM.ge b (hsS b hb)⟩
              have sb17 : Sub fphL h4.size fpS := fun b hb => sbhM b (hsS b hb)
              replace hb12_1 := BoxAt.chgA hb12_1 cS (apart_gt hfhb12_1 hlhM (by omega))
              have := cS.size
              replace eB := Ext.then eB cS (ge_of hfhM (by omega))
              replace cL10 := Chg.step cL10 cS sbhM
              have ap18 : Apart [h12.size] fpS := (fun b hb hq => (apart_gt hfhb12_1 hlhM (by omega)) b hb (hsS b hq))
              have hlhoS := OS.lt hoS
              obtain ⟨S, hS_⟩ : ∃ S, S = swapP M d (d + a) := ⟨_, rfl⟩
              rw [← hS_] at hoS
              have hri1 : RI p w R S l d c := hS_ ▸ hri.swap (by omega) haM
              have hSl := hri1.ln
              have hSd := hri1.len d (by omega)
              have hSb := hri1.bnd d (by omega)
              have hSc : (S.getD d default).getD c 0 ≠ 0 := by rw [hS_, swapP_fst (by omega) haM]; exact hpc
              have hSx := hSb.at (k := c) (by omega)
              have hiv := invP_ok hP (x := (S.getD d default).getD c 0) (by omega) hSx.2
              try simp (disch := decide) only [outv_some, outv_none, put_puts]
              refine plK_last (by decide) ?_
              try simp -implicitDefEqProofs (disch := first | decide | assumption | omega) only [go_sem, RdS.len rR sl36, RdS.idx rR sl36, RdS.cellB rR (Ext.pres eB), RdS.cells rR, RdS.len (OS.rd hoS) sl36, RdS.idx (OS.rd hoS) sl36, RdS.cellN (OS.rd hoS), RdS.cells (OS.rd hoS), BoxAt.cell hb12_1, wrap_id, Int.toNat_zero, hea]
              refine hK _ _ ?_
              clear hK K
              refine den_seq ?_
              have hcw : c < w := by omega
              refine den_draw TTok mixed [] [(0, true), (1, true), (2, true), (3, true), (4, true), (5, true), (6, true), (7, true), (8, false), (9, true)] (by kernel_rfl) ?_
              intro K hK
              have hr19 := RdS.rowN (OS.rd hoS) d (by omega)
              have hlhr19 := RdS.le hr19
              have xr20 := Ext.refl h15_19
              simp -implicitDefEqProofs (disch := first | decide | assumption | omega) only [go_sem, ld22, ld2, ld3, RdS.len rR sl36, RdS.idx rR sl36, RdS.cellB rR (Ext.pres eB), RdS.cells rR, RdS.len (OS.rd hoS) sl36, RdS.idx (OS.rd hoS) sl36, RdS.cellN (OS.rd hoS), RdS.cells (OS.rd hoS), BoxAt.cell hb12_1, RdS.len hr19 sl22, RdS.idx hr19 sl22, R1.intB hr19 (Ext.pres xr20), RdS.cells hr19, wrap_id, Int.toNat_zero]
              try simp -implicitDefEqProofs (disch := first | decide | assumption | omega) only [go_sem, RdS.len rR sl36, RdS.idx rR sl36, RdS.cellB rR (Ext.pres eB), RdS.cells rR, RdS.len (OS.rd hoS) sl36, RdS.idx (OS.rd hoS) sl36, RdS.cellN (OS.rd hoS), RdS.cells (OS.rd hoS), BoxAt.cell hb12_1, RdS.len hr19 sl22, RdS.idx hr19 sl22, R1.intB hr19 (Ext.pres xr20), RdS.cells hr19, wrap_id, Int.toNat_zero]
              refine CallA.mono (iInv_ok  p (((S).getD d default).getD c 0) _  hP (by omega)) ?_
              intro v_ h16_8
              rintro ⟨rfl, e16_8⟩
              replace hoS := OS.ext hoS e16_8
              replace hb12_1 := BoxAt.ext hb12_1 e16_8
              have := Ext.size e16_8
              replace eB := Ext.trans eB e16_8
              replace xr20 := Ext.trans xr20 e16_8
              replace cL10 := Chg.stepE cL10 e16_8
              try simp (disch := decide) only [outv_some, outv_none, put_puts]
              refine plK_pres (Ext.pres e16_8) ?_
              try simp -implicitDefEqProofs (disch := first | decide | assumption | omega) only [go_sem, RdS.len rR sl36, RdS.idx rR sl36, RdS.cellB rR (Ext.pres eB), RdS.cells rR, RdS.len (OS.rd hoS) sl36, RdS.idx (OS.rd hoS) sl36, RdS.cellN (OS.rd hoS), RdS.cells (OS.rd hoS), BoxAt.cell hb12_1, RdS.len hr19 sl22, RdS.idx hr19 sl22, R1.intB hr19 (Ext.pres xr20), RdS.cells hr19, wrap_id, Int.toNat_zero]
              refine hK _ _ ?_
              clear hK K
              refine den_seq ?_
              refine den_seq ?_
              refine den_region TTok ?_
              intro K hK
              have hr21 := RdS.rowN (OS.rd hoS) d (by omega)
              have hlhr21 := RdS.le hr21
              have xr22 := Ext.refl h16_8
              simp -implicitDefEqProofs (disch := first | decide | assumption | omega) only [go_sem, ld22, RdS.len rR sl36, RdS.idx rR sl36, RdS.cellB rR (Ext.pres eB), RdS.cells rR, RdS.len (OS.rd hoS) sl36, RdS.idx (OS.rd hoS) sl36, RdS.cellN (OS.rd hoS), RdS.cells (OS.rd hoS), BoxAt.cell hb12_1, RdS.len hr19 sl22, RdS.idx hr19 sl22, R1.intB hr19 (Ext.pres xr20), RdS.cells hr19, RdS.len hr21 sl22, RdS.idx hr21 sl22, R1.intB hr21 (Ext.pres xr22), RdS.cells hr21, wrap_id, Int.toNat_zero]
              refine hK _ _ ?_
              clear hK K
              refine den_block ?_
              refine den_sel [77, 0, 5, 8, 9, 11, 34, 35, 76] ?_
              intro env_23
              simp only [go_sem]
              refine den_loopS (σ := Nat × List Nat) (fun st_ => [(77, .int .i64 (st_.1 : Int))]) (fun st_ H => (st_.1 ≤ (S.getD d default).length) ∧ (O2 H vhL (S.set d (mix (sclRow p (invP p ((S.getD d default).getD c 0)) (S.getD d default)) (S.getD d default) st_.1)) st_.2) ∧ (Fresh (h.size) st_.2) ∧ (Sub fpS h16_8.size st_.2) ∧ (Chg fpS h16_8 H)) (fun st_ => (S.getD d default).length - st_.1) (0, fpS) ?_ ?_
              · exact ⟨by first | (simp; done) | (dsimp only; omega) | (simp; omega), by rw [mix_zero, set_self (by omega)]; exact hoS, hfhoS, Sub.refl, Chg.refl _ _⟩
              · rintro ⟨k, fphC⟩ h26 ee25 ⟨hi0, hC, hfhC, sbhC, cL24⟩
                dsimp only at hi0 hC hfhC sbhC cL24
                replace hb12_1 := BoxAt.chgA hb12_1 cL24 ap18
                have := cL24.size
                replace eB := Ext.then eB cL24 (ge_of hfhoS (by omega))
                replace cL10 := Chg.step cL10 cL24 sb17
                have ap27 : Apart [h12.size] fphC := Apart.sub_ hlhb12_1 (by omega) ap18 sbhC
                have sb28 : Sub fphL h4.size fphC := Sub.trans sbhC sb17 (by omega)
                have hlhC := OS.lt hC
                simp only [List.cons_append, List.nil_append]
                have hsl0 : (S.set d (mix (sclRow p (invP p ((S.getD d default).getD c 0)) (S.getD d default)) (S.getD d default) k)).length = S.length := List.length_set
                refine den_seq ?_
                refine den_region TTok ?_
                intro K hK
                simp -implicitDefEqProofs (disch := first | decide | assumption | omega) only [go_sem, RdS.len rR sl36, RdS.idx rR sl36, RdS.cellB rR (Ext.pres eB), RdS.cells rR, RdS.len (OS.rd hC) sl36, RdS.idx (OS.rd hC) sl36, RdS.cellN (OS.rd hC), RdS.cells (OS.rd hC), BoxAt.cell hb12_1, wrap_id, Int.toNat_zero]
                refine hK _ _ ?_
                clear hK K
                refine den_seq ?_
                refine den_cond rfl (fun c4 => ?_) (fun c4 => ?_)
                · try simp only [decide_eq_true_eq, decide_eq_false_iff_not, beq_iff_eq, beq_eq_false_iff_ne, bne_iff_ne, ne_eq, Bool.not_eq_true', Bool.not_eq_false', Bool.and_eq_true, Bool.or_eq_true, bne_eq_false_iff_eq] at c4
                  refine den_skip ?_
                  refine den_seq ?_
                  refine den_block ?_
                  refine den_seq ?_
                  refine den_region TTok ?_
                  intro K hK
                  simp -implicitDefEqProofs (disch := first | decide | assumption | omega) only [go_sem, RdS.len rR sl36, RdS.idx rR sl36, RdS.cellB rR (Ext.pres eB), RdS.cells rR, RdS.len (OS.rd hC) sl36, RdS.idx (OS.rd hC) sl36, RdS.cellN (OS.rd hC), RdS.cells (OS.rd hC), BoxAt.cell hb12_1, wrap_id, Int.toNat_zero]
                  refine hK _ _ ?_
                  clear hK K
                  have hgd : (S.set d (mix (sclRow p (invP p ((S.getD d default).getD c 0)) (S.getD d default)) (S.getD d default) k)).getD d default = mix (sclRow p (invP p ((S.getD d default).getD c 0)) (S.getD d default)) (S.getD d default) k := by rw [getD_set (by omega), if_pos rfl]
                  have hv20 : ((S.set d (mix (sclRow p (invP p ((S.getD d default).getD c 0)) (S.getD d default)) (S.getD d default) k)).getD d default).getD k 0 = (S.getD d default).getD k 0 := by rw [hgd, mix_get _ _ _ _ (sclR_len _ _ _) (by omega)]
                  have hgl : ((S.set d (mix (sclRow p (invP p ((S.getD d default).getD c 0)) (S.getD d default)) (S.getD d default) k)).getD d default).length = w := by rw [hgd, mix_len _ _ _ (sclR_len _ _ _)]; exact hSd
                  have hxk := hSb.at (k := k) (by omega)
                  have hmu := mul36A (x := ((S.set d (mix (sclRow p (invP p ((S.getD d default).getD c 0)) (S.getD d default)) (S.getD d default) k)).getD d default).getD k 0) (y := (invP p ((S.getD d default).getD c 0))) (p := p) (by omega) ⟨by omega, hiv.1.2⟩ hp.2
                  have hsl_ : (S.set d (mix (sclRow p (invP p ((S.getD d default).getD c 0)) (S.getD d default)) (S.getD d default) k)).length = S.length := List.length_set
                  refine den_draw TTok mixed [17] [(0, true), (1, true), (2, true), (3, true), (4, true), (5, true), (6, true), (7, true), (8, true), (9, true), (10, true), (11, true), (12, true), (13, true), (14, true), (15, true), (16, true), (17, false)] (by kernel_rfl) ?_
                  intro K hK
                  have hr29 := RdS.rowN (OS.rd hC) d (by omega)
                  have hlhr29 := RdS.le hr29
                  have xr30 := Ext.refl h26
                  have hr31 := RdS.rowN (OS.rd hC) d (by omega)
                  have hlhr31 := RdS.le hr31
                  have xr32 := Ext.refl h26
                  simp -implicitDefEqProofs (disch := first | decide | assumption | omega) only [go_sem, ld22, ld2, RdS.len rR sl36, RdS.idx rR sl36, RdS.cellB rR (Ext.pres eB), RdS.cells rR, RdS.len (OS.rd hC) sl36, RdS.idx (OS.rd hC) sl36, RdS.cellN (OS.rd hC), RdS.cells (OS.rd hC), BoxAt.cell hb12_1, RdS.len hr29 sl22, RdS.idx hr29 sl22, R1.intB hr29 (Ext.pres xr30), RdS.cells hr29, RdS.len hr31 sl22, RdS.idx hr31 sl22, R1.intB hr31 (Ext.pres xr32), RdS.cells hr31, wrap_id, Int.toNat_zero]
                  obtain ⟨fr20_17, hE20_17, hS20_17, hN20_17, hB20_17⟩ := OS.elem hC hfhC.nodup d (by omega)
                  refine op_store1 (j := k) st2 hE20_17 hN20_17 (by first | omega | (simp; omega)) rfl rfl ?_
                  intro h20_17 hF20_17 cE20_17
                  have ho20_17 := hB20_17 _ _ cE20_17 hF20_17
                  have c20_17 := cE20_17.mono hS20_17
                  have hsz20_17 := c20_17.size
                  replace hb12_1 := BoxAt.chgA hb12_1 c20_17 ap27
                  have := c20_17.size
                  replace eB := Ext.then eB c20_17 (ge_of hfhC (by omega))
                  replace cL10 := Chg.step cL10 c20_17 sb28
                  replace cL24 := Chg.step cL24 c20_17 sbhC
                  have ap33 : Apart [h12.size] fphC := ap27
                  have hlho20_17 := hlhC
                  have hlenho20_17 : ((S.set d (mix (sclRow p (invP p ((S.getD d default).getD c 0)) (S.getD d default)) (S.getD d default) k)).set d (((S.set d (mix (sclRow p (invP p ((S.getD d default).getD c 0)) (S.getD d default)) (S.getD d default) k)).getD d default).set k (Int.tmod ((((S.set d (mix (sclRow p (invP p ((S.getD d default).getD c 0)) (S.getD d default)) (S.getD d default) k)).getD d default).getD k 0) * (invP p (((S).getD d default).getD c 0))) p)) : List (List Int)).length = (S.set d (mix (sclRow p (invP p ((S.getD d default).getD c 0)) (S.getD d default)) (S.getD d default) k) : List (List Int)).length := List.length_set
                  try simp (disch := decide) only [outv_some, outv_none, put_puts]
                  refine plK_last (by decide) ?_
                  try simp -implicitDefEqProofs (disch := first | decide | assumption | omega) only [go_sem, RdS.len rR sl36, RdS.idx rR sl36, RdS.cellB rR (Ext.pres eB), RdS.cells rR, RdS.len (OS.rd ho20_17) sl36, RdS.idx (OS.rd ho20_17) sl36, RdS.cellN (OS.rd ho20_17), RdS.cells (OS.rd ho20_17), BoxAt.cell hb12_1, wrap_id, Int.toNat_zero]
                  refine hK _ _ ?_
                  clear hK K
                  refine den_blk ?_
                  refine den_region TTok ?_
                  intro K hK
                  simp -implicitDefEqProofs (disch := first | decide | assumption | omega) only [go_sem, RdS.len rR sl36, RdS.idx rR sl36, RdS.cellB rR (Ext.pres eB), RdS.cells rR, RdS.len (OS.rd ho20_17) sl36, RdS.idx (OS.rd ho20_17) sl36, RdS.cellN (OS.rd ho20_17), RdS.cells (OS.rd ho20_17), BoxAt.cell hb12_1, wrap_id, Int.toNat_zero]
                  refine hK _ _ ?_
                  clear hK K
                  refine den_stop ?_
                  rw [hv20, tmod_e (by rw [← hv20]; exact hmu.1), Int.mul_comm, ← sclR_get p _ (by omega), nest_set (by omega), mix_set _ _ _ _ (sclR_len _ _ _) (by omega)] at ho20_17
                  exact ⟨(k + 1, fphC), by simp [HasL, puts_at], ⟨by first | omega | (dsimp only; omega), ho20_17, hfhC, sbhC, cL24⟩, by first | omega | (dsimp only; omega)⟩
                · try simp only [decide_eq_true_eq, decide_eq_false_iff_not, beq_iff_eq, beq_eq_false_iff_ne, bne_iff_ne, ne_eq, Bool.not_eq_true', Bool.not_eq_false', Bool.and_eq_true, Bool.or_eq_true, bne_eq_false_iff_eq] at c4
                  refine den_exit ?_
                  refine denX_code ?_
                  refine denX_stop ?_
                  refine denX_hit ?_
                  refine den_seq ?_
                  refine den_seq ?_
                  rw [mix_end _ _ _ (sclR_len _ _ _) (by omega)] at hC
                  obtain ⟨hri2, hS1⟩ := hri1.scale hP (by omega) (by omega) hSc
                  obtain ⟨S2, hS2_⟩ : ∃ S2, S2 = S.set d (sclRow p (invP p ((S.getD d default).getD c 0)) (S.getD d default)) := ⟨_, rfl⟩
                  change RI p w R (S.set d (sclRow p (invP p ((S.getD d default).getD c 0)) (S.getD d default))) l d c at hri2
                  change g2 (S.set d (sclRow p (invP p ((S.getD d default).getD c 0)) (S.getD d default))) d c = 1 at hS1
                  rw [← hS2_] at hC hri2 hS1
                  have hS2l := hri2.ln
                  refine den_region TTok ?_
                  intro K hK
                  simp -implicitDefEqProofs (disch := first | decide | assumption | omega) only [go_sem, RdS.len rR sl36, RdS.idx rR sl36, RdS.cellB rR (Ext.pres eB), RdS.cells rR, RdS.len (OS.rd hC) sl36, RdS.idx (OS.rd hC) sl36, RdS.cellN (OS.rd hC), RdS.cells (OS.rd hC), BoxAt.cell hb12_1, wrap_id, Int.toNat_zero]
                  refine hK _ _ ?_
                  clear hK K
                  refine den_block ?_
                  refine den_sel [100, 0, 5, 8, 9, 34, 35, 99] ?_
                  intro env_34
                  simp only [go_sem]
                  refine den_loopS (σ := Nat × List Nat) (fun st_ => [(100, .int .i64 (st_.1 : Int))]) (fun st_ H => (st_.1 ≤ S2.length) ∧ (O2 H vhL (clrP p d c S2 st_.1) st_.2) ∧ (Fresh (h.size) st_.2) ∧ (Sub fphC h26.size st_.2) ∧ (Chg fphC h26 H)) (fun st_ => S2.length - st_.1) (0, fphC) ?_ ?_
                  · exact ⟨by first | (simp; done) | (dsimp only; omega) | (simp; omega), by rw [clrP_zero]; exact hC, hfhC, Sub.refl, Chg.refl _ _⟩
                  · rintro ⟨i, fphJ⟩ h37 ee36 ⟨hi0, hJ, hfhJ, sbhJ, cL35⟩
                    dsimp only at hi0 hJ hfhJ sbhJ cL35
                    replace hb12_1 := BoxAt.chgA hb12_1 cL35 ap27
                    have := cL35.size
                    replace eB := Ext.then eB cL35 (ge_of hfhC (by omega))
                    replace cL10 := Chg.step cL10 cL35 sb28
                    have ap38 : Apart [h12.size] fphJ := Apart.sub_ hlhb12_1 (by omega) ap27 sbhJ
                    have sb39 : Sub fphL h4.size fphJ := Sub.trans sbhJ sb28 (by omega)
                    have hlhJ := OS.lt hJ
                    simp only [List.cons_append, List.nil_append]
                    have hcl0 := clrP_len p d c S2 i
                    refine den_seq ?_
                    refine den_region TTok ?_
                    intro K hK
                    simp -implicitDefEqProofs (disch := first | decide | assumption | omega) only [go_sem, RdS.len rR sl36, RdS.idx rR sl36, RdS.cellB rR (Ext.pres eB), RdS.cells rR, RdS.len (OS.rd hJ) sl36, RdS.idx (OS.rd hJ) sl36, RdS.cellN (OS.rd hJ), RdS.cells (OS.rd hJ), BoxAt.cell hb12_1, wrap_id, Int.toNat_zero]
                    refine hK _ _ ?_
                    clear hK K
                    refine den_seq ?_
                    refine den_cond rfl (fun c5 => ?_) (fun c5 => ?_)
                    · try simp only [decide_eq_true_eq, decide_eq_false_iff_not, beq_iff_eq, beq_eq_false_iff_ne, bne_iff_ne, ne_eq, Bool.not_eq_true', Bool.not_eq_false', Bool.and_eq_true, Bool.or_eq_true, bne_eq_false_iff_eq] at c5
                      refine den_skip ?_
                      refine den_seq ?_
                      refine den_block ?_
                      refine den_seq ?_
                      refine den_region TTok ?_
                      intro K hK
                      simp -implicitDefEqProofs (disch := first | decide | assumption | omega) only [go_sem, RdS.len rR sl36, RdS.idx rR sl36, RdS.cellB rR (Ext.pres eB), RdS.cells rR, RdS.len (OS.rd hJ) sl36, RdS.idx (OS.rd hJ) sl36, RdS.cellN (OS.rd hJ), RdS.cells (OS.rd hJ), BoxAt.cell hb12_1, wrap_id, Int.toNat_zero]
                      refine hK _ _ ?_
                      clear hK K
                      refine den_seq ?_
                      refine den_region TTok ?_
                      intro K hK
                      simp -implicitDefEqProofs (disch := first | decide | assumption | omega) only [go_sem, RdS.len rR sl36, RdS.idx rR sl36, RdS.cellB rR (Ext.pres eB), RdS.cells rR, RdS.len (OS.rd hJ) sl36, RdS.idx (OS.rd hJ) sl36, RdS.cellN (OS.rd hJ), RdS.cells (OS.rd hJ), BoxAt.cell hb12_1, wrap_id, Int.toNat_zero]
                      refine hK _ _ ?_
                      clear hK K
                      refine den_cond rfl (fun c6 => ?_) (fun c6 => ?_)
                      · try simp only [decide_eq_true_eq, decide_eq_false_iff_not, beq_iff_eq, beq_eq_false_iff_ne, bne_iff_ne, ne_eq, Bool.not_eq_true', Bool.not_eq_false', Bool.and_eq_true, Bool.or_eq_true, bne_eq_false_iff_eq] at c6
                        have hgi : (clrP p d c S2 i).getD i default = S2.getD i default := by rw [clrP_get (by omega), if_neg (by omega)]
                        have hgd : (clrP p d c S2 i).getD d default = S2.getD d default := by rw [clrP_get (by omega), if_neg (by omega)]
                        have hli := hri2.len i (by omega)
                        have hld := hri2.len d (by omega)
                        have hcp : 0 < p ∧ p ≤ 7 := by omega
                        have hcl : ((clrP p d c S2 i).getD d default).length = ((clrP p d c S2 i).getD i default).length := by rw [hgi, hgd]; omega
                        have hca : Bnd p ((clrP p d c S2 i).getD i default) := by rw [hgi]; exact hri2.bnd i (by omega)
                        have hcb : Bnd p ((clrP p d c S2 i).getD d default) := by rw [hgd]; exact hri2.bnd d (by omega)
                        have hlc : ((clrP p d c S2 i).getD i default).length = w := by rw [hgi]; exact hli
                        have hck := hca.at (k := c) (by omega)
                        refine den_draw TTok mixed [16] [(0, true), (1, true), (2, true), (3, true), (4, true), (5, true), (6, true), (7, true), (8, true), (9, true), (10, true), (11, true), (12, true), (13, true), (14, true), (15, true), (16, false)] (by kernel_rfl) ?_
                        intro K hK
                        have hr40 := RdS.rowN (OS.rd hJ) i (by omega)
                        have hlhr40 := RdS.le hr40
                        have xr41 := Ext.refl h37
                        have hr42 := RdS.rowN (OS.rd hJ) d (by omega)
                        have hlhr42 := RdS.le hr42
                        have xr43 := Ext.refl h37
                        have hr44 := RdS.rowN (OS.rd hJ) i (by omega)
                        have hlhr44 := RdS.le hr44
                        have xr45 := Ext.refl h37
                        simp -implicitDefEqProofs (disch := first | decide | assumption | omega) only [go_sem, ld22, ld2, ld3, RdS.len rR sl36, RdS.idx rR sl36, RdS.cellB rR (Ext.pres eB), RdS.cells rR, RdS.len (OS.rd hJ) sl36, RdS.idx (OS.rd hJ) sl36, RdS.cellN (OS.rd hJ), RdS.cells (OS.rd hJ), BoxAt.cell hb12_1, RdS.len hr40 sl22, RdS.idx hr40 sl22, R1.intB hr40 (Ext.pres xr41), RdS.cells hr40, RdS.len hr42 sl22, RdS.idx hr42 sl22, R1.intB hr42 (Ext.pres xr43), RdS.cells hr42, RdS.len hr44 sl22, RdS.idx hr44 sl22, R1.intB hr44 (Ext.pres xr45), RdS.cells hr44, wrap_id, Int.toNat_zero]
                        try simp -implicitDefEqProofs (disch := first | decide | assumption | omega) only [go_sem, RdS.len rR sl36, RdS.idx rR sl36, RdS.cellB rR (Ext.pres eB), RdS.cells rR, RdS.len (OS.rd hJ) sl36, RdS.idx (OS.rd hJ) sl36, RdS.cellN (OS.rd hJ), RdS.cells (OS.rd hJ), BoxAt.cell hb12_1, RdS.len hr40 sl22, RdS.idx hr40 sl22, R1.intB hr40 (Ext.pres xr41), RdS.cells hr40, RdS.len hr42 sl22, RdS.idx hr42 sl22, R1.intB hr42 (Ext.pres xr43), RdS.cells hr42, RdS.len hr44 sl22, RdS.idx hr44 sl22, R1.intB hr44 (Ext.pres xr45), RdS.cells hr44, wrap_id, Int.toNat_zero]
                        obtain ⟨f2, hE2, hN2, hU2, hB2, hK2⟩ := OS.two hJ hfhJ.nodup (i := i) (d := d) (by omega) (by omega) (by omega)
                        refine CallA.mono (clear_ok _ (((clrP p d c S2 i).getD i default).getD c 0) _ _ _ _ _ _ hE2 hN2 (RdS.pres hr42 (Ext.pres xr43)) (fun h_ c_ => (hK2 h_ c_).elim fun g hg => OS.rd hg) hcp hcl hca hcb hck) ?_
                        intro v_ h26_16
                        rintro ⟨rfl, hF2, cE2⟩
                        have hog26_16 := hB2 _ _ cE2 hF2
                        have cg26_16 := cE2.mono hU2
                        replace hb12_1 := BoxAt.chgA hb12_1 cg26_16 ap38
                        have := cg26_16.size
                        replace eB := Ext.then eB cg26_16 (ge_of hfhJ (by omega))
                        replace cL10 := Chg.step cL10 cg26_16 sb39
                        replace cL35 := Chg.step cL35 cg26_16 sbhJ
                        have ap46 : Apart [h12.size] fphJ := ap38
                        have hlhog26_16 := hlhJ
                        try simp (disch := decide) only [outv_some, outv_none, put_puts]
                        refine plK_last (by decide) ?_
                        try simp -implicitDefEqProofs (disch := first | decide | assumption | omega) only [go_sem, RdS.len rR sl36, RdS.idx rR sl36, RdS.cellB rR (Ext.pres eB), RdS.cells rR, RdS.len (OS.rd hog26_16) sl36, RdS.idx (OS.rd hog26_16) sl36, RdS.cellN (OS.rd hog26_16), RdS.cells (OS.rd hog26_16), BoxAt.cell hb12_1, wrap_id, Int.toNat_zero]
                        refine hK _ _ ?_
                        clear hK K
                        refine den_blk ?_
                        refine den_region TTok ?_
                        intro K hK
                        simp -implicitDefEqProofs (disch := first | decide | assumption | omega) only [go_sem, RdS.len rR sl36, RdS.idx rR sl36, RdS.cellB rR (Ext.pres eB), RdS.cells rR, RdS.len (OS.rd hog26_16) sl36, RdS.idx (OS.rd hog26_16) sl36, RdS.cellN (OS.rd hog26_16), RdS.cells (OS.rd hog26_16), BoxAt.cell hb12_1, wrap_id, Int.toNat_zero]
                        refine hK _ _ ?_
                        clear hK K
                        refine den_stop ?_
                        first | rw [clr_upd (by omega) (by omega) (by omega)] at hog26_16 | rw [← clr_same (by omega)] at hog26_16
                        exact ⟨(i + 1, fphJ), by simp [HasL, puts_at], ⟨by first | omega | (dsimp only; omega), hog26_16, hfhJ, sbhJ, cL35⟩, by first | omega | (dsimp only; omega)⟩
                      · try simp only [decide_eq_true_eq, decide_eq_false_iff_not, beq_iff_eq, beq_eq_false_iff_ne, bne_iff_ne, ne_eq, Bool.not_eq_true', Bool.not_eq_false', Bool.and_eq_true, Bool.or_eq_true, bne_eq_false_iff_eq] at c6
                        refine den_skip ?_
                        refine den_blk ?_
                        refine den_region TTok ?_
                        intro K hK
                        simp -implicitDefEqProofs (disch := first | decide | assumption | omega) only [go_sem, RdS.len rR sl36, RdS.idx rR sl36, RdS.cellB rR (Ext.pres eB), RdS.cells rR, RdS.len (OS.rd hJ) sl36, RdS.idx (OS.rd hJ) sl36, RdS.cellN (OS.rd hJ), RdS.cells (OS.rd hJ), BoxAt.cell hb12_1, wrap_id, Int.toNat_zero]
                        refine hK _ _ ?_
                        clear hK K
                        refine den_stop ?_
                        first | rw [clr_upd (by omega) (by omega) (by omega)] at hJ | rw [← clr_same (by omega)] at hJ
                        exact ⟨(i + 1, fphJ), by simp [HasL, puts_at], ⟨by first | omega | (dsimp only; omega), hJ, hfhJ, sbhJ, cL35⟩, by first | omega | (dsimp only; omega)⟩
                    · try simp only [decide_eq_true_eq, decide_eq_false_iff_not, beq_iff_eq, beq_eq_false_iff_ne, bne_iff_ne, ne_eq, Bool.not_eq_true', Bool.not_eq_false', Bool.and_eq_true, Bool.or_eq_true, bne_eq_false_iff_eq] at c5
                      refine den_exit ?_
                      refine denX_code ?_
                      refine denX_stop ?_
                      refine denX_hit ?_
                      refine den_seq ?_
                      have hri3 := hri2.clear hP (by omega) (by omega) hS1
                      rw [show i = S2.length by omega] at hJ
                      have hcl1 := clrP_len p d c S2 S2.length
                      refine den_region TTok ?_
                      intro K hK
                      simp -implicitDefEqProofs (disch := first | decide | assumption | omega) only [go_sem, RdS.len rR sl36, RdS.idx rR sl36, RdS.cellB rR (Ext.pres eB), RdS.cells rR, RdS.len (OS.rd hJ) sl36, RdS.idx (OS.rd hJ) sl36, RdS.cellN (OS.rd hJ), RdS.cells (OS.rd hJ), wrap_id, Int.toNat_zero]
                      refine hK _ _ ?_
                      clear hK K
                      refine den_seq ?_
                      refine den_region TTok ?_
                      intro K hK
                      simp -implicitDefEqProofs (disch := first | decide | assumption | omega) only [go_sem, RdS.len rR sl36, RdS.idx rR sl36, RdS.cellB rR (Ext.pres eB), RdS.cells rR, RdS.len (OS.rd hJ) sl36, RdS.idx (OS.rd hJ) sl36, RdS.cellN (OS.rd hJ), RdS.cells (OS.rd hJ), wrap_id, Int.toNat_zero]
                      refine hK _ _ ?_
                      clear hK K
                      refine den_cond rfl (fun c7 => ?_) (fun c7 => ?_)
                      · try simp only [decide_eq_true_eq, decide_eq_false_iff_not, beq_iff_eq, beq_eq_false_iff_ne, bne_iff_ne, ne_eq, Bool.not_eq_true', Bool.not_eq_false', Bool.and_eq_true, Bool.or_eq_true, bne_eq_false_iff_eq] at c7
                        refine den_exit ?_
                        refine denX_miss (by decide) ?_
                        refine denX_code ?_
                        refine denX_stop ?_
                        refine denX_hit ?_
                        refine den_seq ?_
                        obtain ⟨vt, fpt, het, hot, hnt, hut⟩ := OS.takeV (k := .i64) hJ hfhJ.nodup sl36 (hi := ((d : Int) + (1 : Int))) (by omega) (by omega)
                        refine den_region TTok ?_
                        intro K hK
                        simp -implicitDefEqProofs (disch := first | decide | assumption | omega) only [go_sem, RdS.len rR sl36, RdS.idx rR sl36, RdS.cellB rR (Ext.pres eB), RdS.cells rR, RdS.len (OS.rd hJ) sl36, RdS.idx (OS.rd hJ) sl36, RdS.cellN (OS.rd hJ), RdS.cells (OS.rd hJ), wrap_id, Int.toNat_zero, het, Option.map_some, Option.map_none]
                        refine hK _ _ ?_
                        clear hK K
                        refine den_ret ?_
                        simp (disch := decide) only [resP_1, puts_same, puts_ne]
                        have hec := hri3.ech hP hT (.inl (by rw [clrP_len]; omega))
                        rw [hec]
                        exact ⟨vt, fpt, rfl, (by simpa using hot), ⟨hnt, fun b hb => by have := hfhJ.ge b (hut b hb); omega⟩, eB⟩
                      · try simp only [decide_eq_true_eq, decide_eq_false_iff_not, beq_iff_eq, beq_eq_false_iff_ne, bne_iff_ne, ne_eq, Bool.not_eq_true', Bool.not_eq_false', Bool.and_eq_true, Bool.or_eq_true, bne_eq_false_iff_eq] at c7
                        refine den_skip ?_
                        refine den_blk ?_
                        refine den_region TTok ?_
                        intro K hK
                        simp -implicitDefEqProofs (disch := first | decide | assumption | omega) only [go_sem, RdS.len rR sl36, RdS.idx rR sl36, RdS.cellB rR (Ext.pres eB), RdS.cells rR, RdS.len (OS.rd hJ) sl36, RdS.idx (OS.rd hJ) sl36, RdS.cellN (OS.rd hJ), RdS.cells (OS.rd hJ), wrap_id, Int.toNat_zero]
                        refine hK _ _ ?_
                        clear hK K
                        refine den_stop ?_
                        exact ⟨(c + 1, d + 1, clrP p d c S2 S2.length, fun i => if i = d then c else l i, fphJ), by simp [HasL, puts_at], ⟨hri3, by dsimp only; omega, hJ, hfhJ, sb39, cL10⟩, by first | omega | (dsimp only; omega)⟩
          · try simp only [decide_eq_true_eq, decide_eq_false_iff_not, beq_iff_eq, beq_eq_false_iff_ne, bne_iff_ne, ne_eq, Bool.not_eq_true', Bool.not_eq_false', Bool.and_eq_true, Bool.or_eq_true, bne_eq_false_iff_eq] at c2
            refine den_exit ?_
            refine denX_code ?_
            refine denX_stop ?_
            refine denX_hit ?_
            refine den_seq ?_
            obtain ⟨vt, fpt, het, hot, hnt, hut⟩ := OS.takeV (k := .i64) hM hfhM.nodup sl36 (hi := (d : Int)) (by omega) (by omega)
            refine den_region TTok ?_
            intro K hK
            simp -implicitDefEqProofs (disch := first | decide | assumption | omega) only [go_sem, RdS.len rR sl36, RdS.idx rR sl36, RdS.cellB rR (Ext.pres eB), RdS.cells rR, RdS.len (OS.rd hM) sl36, RdS.idx (OS.rd hM) sl36, RdS.cellN (OS.rd hM), RdS.cells (OS.rd hM), wrap_id, Int.toNat_zero, het, Option.map_some, Option.map_none]
            refine hK _ _ ?_
            clear hK K
            refine den_ret ?_
            simp (disch := decide) only [resP_1, puts_same, puts_ne]
            have hec := hri.ech hP hT (.inr (by omega))
            rw [hec]
            exact ⟨vt, fpt, rfl, (by simpa using hot), ⟨hnt, fun b hb => by have := hfhM.ge b (hut b hb); omega⟩, eB⟩

end Go.Proofs.Ytbplnadngahgaaa
