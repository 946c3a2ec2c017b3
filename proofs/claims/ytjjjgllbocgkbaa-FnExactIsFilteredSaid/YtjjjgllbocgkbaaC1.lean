/-
  Walks: all numbers of a complex.
  Conditions: each theorem's own.
-/
import Derived.Test.YtjjjgllbocgkbaaA4
set_option linter.unusedVariables false
set_option linter.unusedSimpArgs false
namespace Go.Proofs.Ytjjjgllbocgkbaa
open Go
abbrev M3 := List (List (List Int))
/-- A number is added at a place, modulo p. -/
def upd3 (p : Int) (M : M3) (k r c : Nat) (x : Int) : M3 := M.set k ((M.getD k default).set r (((M.getD k default).getD r default).set c ((((M.getD k default).getD r default).getD c 0 + x) % p)))
def get3 (M : M3) (k r c : Nat) : Int := ((M.getD k default).getD r default).getD c 0
/-- How long a table of tables is, row by row. -/
structure Sh (L : Nat) (A B : Nat → Nat) (M : M3) : Prop where
  len : M.length = L
  rows : ∀ k, k < L → (M.getD k default).length = A k
  cols : ∀ k r, k < L → r < A k → ((M.getD k default).getD r default).length = B k
theorem getD_set {α : Type} {xs : List α} {k j : Nat} {x d : α} (h : k < xs.length) : (xs.set k x).getD j d = if k = j then x else xs.getD j d := by
  simp only [List.getD_eq_getElem?_getD, List.getElem?_set]
  split
  · rename_i e; subst e; first | rfl | (rw [if_pos h]; rfl)
  · rfl
theorem upd3_sh {L : Nat} {A B : Nat → Nat} {M : M3} {p x : Int} {k r c : Nat} (s : Sh L A B M) (hk : k < L) (hr : r < A k) : Sh L A B (upd3 p M k r c x) := by
  have hk' : k < M.length := by have := s.len; omega
  have hr' : r < (M.getD k default).length := by have := s.rows k hk; omega
  refine ⟨by rw [upd3, List.length_set]; exact s.len, fun j hj => ?_, fun j q hj hq => ?_⟩
  · rw [upd3, getD_set hk']
    split
    · rename_i e; subst e; rw [List.length_set]; exact s.rows _ hk
    · exact s.rows j hj
  · rw [upd3, getD_set hk']
    split
    · rename_i e; subst e
      rw [getD_set hr']
      split
      · rename_i e; subst e; rw [List.length_set]; exact s.cols _ _ hk hr
      · exact s.cols _ q hj hq
    · exact s.cols j q hj hq
theorem upd3_get {L : Nat} {A B : Nat → Nat} {M : M3} {p x : Int} {k r c : Nat} (s : Sh L A B M) (hk : k < L) (hr : r < A k) (hc : c < B k) (k' r' c' : Nat) : get3 (upd3 p M k r c x) k' r' c' = if (k, r, c) = (k', r', c') then (get3 M k' r' c' + x) % p else get3 M k' r' c' := by
  have hk' : k < M.length := by have := s.len; omega
  have hr' : r < (M.getD k default).length := by have := s.rows k hk; omega
  have hc' : c < ((M.getD k default).getD r default).length := by have := s.cols k r hk hr; omega
  by_cases e1 : k = k'
  · subst e1
    by_cases e2 : r = r'
    · subst e2
      by_cases e3 : c = c'
      · subst e3
        simp only [get3, upd3, getD_set hk', getD_set hr', getD_set hc', if_true]
      · rw [if_neg (by simp [e3])]
        simp only [get3, upd3, getD_set hk', getD_set hr', getD_set hc', if_true, if_neg e3]
    · rw [if_neg (by simp [e2])]
      simp only [get3, upd3, getD_set hk', getD_set hr', if_true, if_neg e2]
  · rw [if_neg (by simp [e1])]
    simp only [get3, upd3, getD_set hk', if_neg e1]
theorem Sh.ext {L : Nat} {A B : Nat → Nat} {M N : M3} (s : Sh L A B M) (t : Sh L A B N) (h : ∀ k r c, k < L → r < A k → c < B k → get3 M k r c = get3 N k r c) : M = N := by
  have g3 : ∀ {α : Type} [Inhabited α] {xs ys : List α}, xs.length = ys.length → (∀ i, i < xs.length → xs.getD i default = ys.getD i default) → xs = ys := by
    intro α _ xs ys hl hh
    apply List.ext_getElem hl
    intro i h1 h2
    have := hh i h1
    rwa [List.getD_eq_getElem?_getD, List.getD_eq_getElem?_getD, List.getElem?_eq_getElem h1, List.getElem?_eq_getElem h2] at this
  refine g3 (by rw [s.len, t.len]) (fun k hk => ?_)
  rw [s.len] at hk
  refine g3 (by rw [s.rows k hk, t.rows k hk]) (fun r hr => ?_)
  rw [s.rows k hk] at hr
  refine g3 (by rw [s.cols k r hk hr, t.cols k r hk hr]) (fun c hc => ?_)
  rw [s.cols k r hk hr] at hc
  exact h k r c hk hr hc
def In3 (p : Int) (L : Nat) (A B : Nat → Nat) (M : M3) : Prop := ∀ k r c, k < L → r < A k → c < B k → 0 ≤ get3 M k r c ∧ get3 M k r c < p
abbrev Upd := (Nat × Nat × Nat) × Int
def applyU (p : Int) : M3 → List Upd → M3
  | M, [] => M
  | M, u :: l => applyU p (upd3 p M u.1.1 u.1.2.1 u.1.2.2 u.2) l
theorem applyU_app (p : Int) : ∀ (l m : List Upd) (M : M3), applyU p M (l ++ m) = applyU p (applyU p M l) m
  | [], _, _ => rfl
  | u :: l, m, M => by rw [List.cons_append, applyU, applyU, applyU_app p l m]
/-- What the updates of a list bring to a place. -/
def sumT (t : Nat × Nat × Nat) : List Upd → Int
  | [] => 0
  | u :: l => (if u.1 = t then u.2 else 0) + sumT t l
theorem sumT_app (t : Nat × Nat × Nat) : ∀ l m : List Upd, sumT t (l ++ m) = sumT t l + sumT t m
  | [], m => by simp [sumT]
  | u :: l, m => by rw [List.cons_append, sumT, sumT, sumT_app t l m, Int.add_assoc]
def InU (L : Nat) (A B : Nat → Nat) (u : Upd) : Prop := u.1.1 < L ∧ u.1.2.1 < A u.1.1 ∧ u.1.2.2 < B u.1.1
theorem applyU_sh {L : Nat} {A B : Nat → Nat} {p : Int} : ∀ {l : List Upd} {M : M3}, Sh L A B M → (∀ u ∈ l, InU L A B u) → Sh L A B (applyU p M l)
  | [], _, s, _ => s
  | u :: l, M, s, h => by
    rw [applyU]
    exact applyU_sh (upd3_sh s (h u (by simp)).1 (h u (by simp)).2.1) (fun v hv => h v (List.mem_cons_of_mem _ hv))
theorem upd3_in {L : Nat} {A B : Nat → Nat} {p : Int} {M : M3} {u : Upd} (hp : 0 < p) (s : Sh L A B M) (hi : In3 p L A B M) (hu : InU L A B u) : In3 p L A B (upd3 p M u.1.1 u.1.2.1 u.1.2.2 u.2) := by
  intro k r c h1 h2 h3
  rw [upd3_get s hu.1 hu.2.1 hu.2.2]
  split
  · exact ⟨Int.emod_nonneg _ (by omega), Int.emod_lt_of_pos _ hp⟩
  · exact hi k r c h1 h2 h3
theorem applyU_in {L : Nat} {A B : Nat → Nat} {p : Int} (hp : 0 < p) : ∀ {l : List Upd} {M : M3}, Sh L A B M → In3 p L A B M → (∀ u ∈ l, InU L A B u) → In3 p L A B (applyU p M l)
  | [], _, _, hi, _ => hi
  | u :: l, M, s, hi, h => by
    rw [applyU]
    exact applyU_in hp (upd3_sh s (h u (by simp)).1 (h u (by simp)).2.1) (upd3_in hp s hi (h u (by simp))) (fun v hv => h v (List.mem_cons_of_mem _ hv))
theorem applyU_get {L : Nat} {A B : Nat → Nat} {p : Int} (hp : 0 < p) {k r c : Nat} (h1 : k < L) (h2 : r < A k) (h3 : c < B k) : ∀ {l : List Upd} {M : M3}, Sh L A B M → In3 p L A B M → (∀ u ∈ l, InU L A B u) → get3 (applyU p M l) k r c = (get3 M k r c + sumT (k, r, c) l) % p
  | [], M, s, hi, _ => by
    have := hi k r c h1 h2 h3
    rw [applyU, sumT, Int.add_zero, Int.emod_eq_of_lt this.1 this.2]
  | u :: l, M, s, hi, h => by
    have hu := h u (by simp)
    rw [applyU, applyU_get hp h1 h2 h3 (upd3_sh s hu.1 hu.2.1) (upd3_in hp s hi hu) (fun v hv => h v (List.mem_cons_of_mem _ hv)), upd3_get s hu.1 hu.2.1 hu.2.2, sumT]
    by_cases e : u.1 = (k, r, c)
    · rw [if_pos (show (u.1.1, u.1.2.1, u.1.2.2) = (k, r, c) from e), if_pos e, Int.emod_add_emod]
      congr 1; omega
    · rw [if_neg (show ¬ (u.1.1, u.1.2.1, u.1.2.2) = (k, r, c) from e), if_neg e, Int.zero_add]
-- the updates of all numbers of a complex's maps
abbrev UF := Nat → Nat → Nat → Int → List Upd
def uJ (U : UF) (k i : Nat) (row : List Int) : Nat → List Upd
  | 0 => []
  | m + 1 => uJ U k i row m ++ U k i m (row.getD m 0)
def uI (U : UF) (k : Nat) (R : List (List Int)) : Nat → List Upd
  | 0 => []
  | m + 1 => uI U k R m ++ uJ U k m (R.getD m default) (R.getD m default).length
def uK (U : UF) (M : M3) : Nat → List Upd
  | 0 => []
  | m + 1 => uK U M m ++ uI U m (M.getD m default) (M.getD m default).length
/-- An element of a nested row of one's own. -/
theorem OS.row2 {h : Heap} {vm : Value} {M : M3} {f : List Nat} (hm : O3 h vm M f) (hn : f.Nodup) {k r : Nat} (hk : k < M.length) (hr : r < (M.getD k default).length) :
    ∃ f2, O1 h (rowV h (rowV h vm k) r) ((M.getD k default).getD r default) f2 ∧ f2.Nodup ∧ (∀ b ∈ f2, b ∈ f) ∧ ∀ h' x', Chg f2 h h' → O1 h' (rowV h (rowV h vm k) r) x' f2 → O3 h' vm (M.set k ((M.getD k default).set r x')) f := by
  obtain ⟨f1, hE1, hs1, hn1, hb1⟩ := OS.elem hm hn k hk
  obtain ⟨f2, hE2, hs2, hn2, hb2⟩ := OS.elem hE1 hn1 r hr
  exact ⟨f2, hE2, hn2, fun b hb => hs1 b (hs2 b hb), fun h' x' c o => hb1 h' _ (c.mono hs2) (hb2 h' _ c o)⟩

set_option maxRecDepth 100000 in
theorem addAt_ok (p : Int) (vd vm : Value) (D : List Int) (M : M3) (f : List Nat) (n r c x : Int) (h : Heap) (rd : R1 h vd D) (hom : O3 h vm M f) (hn : f.Nodup) (hp : 0 < p ∧ p ≤ 7) (h1 : 1 ≤ n ∧ n ≤ M.length) (h2 : 0 ≤ r ∧ r < (M.getD (n - 1).toNat default).length) (h3 : 0 ≤ c ∧ c < ((M.getD (n - 1).toNat default).getD r.toNat default).length) (hc : 0 ≤ get3 M (n - 1).toNat r.toNat c.toNat ∧ get3 M (n - 1).toNat r.toNat c.toNat < p) (hx : -7 ≤ x ∧ x ≤ 7) : CallA Try.prog 86 #[.agg #[.int .i64 p, vd, vm], .int .i64 n, .int .i64 r, .int .i64 c, .int .i64 x] h fun v' h' => v' = .tuple #[] ∧ O3 h' vm (upd3 p M (n - 1).toNat r.toNat c.toNat x) f ∧ Chg f h h' := by
  have hleM := OS.len_le hom
  unfold get3 at hc
  refine callA_intro TTok (args := [_, _, _, _, _]) Try.func86 (by kernel_rfl) rfl 38 rfl (by simp) [] rfl ?_
  simp only [idxs, Nat.reduceAdd]
  refine den_seq ?_
  refine den_region TTok ?_
  intro K hK
  simp -implicitDefEqProofs (disch := first | decide | assumption | omega) only [go_sem, RdS.len rd sl22, RdS.idx rd sl22, R1.intB rd (HPres.refl _), RdS.cells rd, RdS.len (OS.rd hom) sl23, RdS.idx (OS.rd hom) sl23, RdS.cellN (OS.rd hom), RdS.cells (OS.rd hom), wrap_id]
  refine op_box (cs := #[.int .i64 (p), vd, vm]) rfl ?_
  intro h0_0 e0_0 hb0_0 z0_0
  replace hom := OS.ext hom e0_0
  have := Ext.size e0_0
  have eB := e0_0
  try simp -implicitDefEqProofs (disch := first | decide | assumption | omega) only [go_sem, RdS.len rd sl22, RdS.idx rd sl22, R1.intB rd (Ext.pres eB), RdS.cells rd, RdS.len (OS.rd hom) sl23, RdS.idx (OS.rd hom) sl23, RdS.cellN (OS.rd hom), RdS.cells (OS.rd hom), BoxAt.cell hb0_0, wrap_id]
  refine hK _ _ ?_
  clear hK K
  refine den_seq ?_
  have hr1 := RdS.rowN (OS.rd hom) (n - 1).toNat (by omega)
  have hr2 := RdS.rowN hr1 r.toNat (by omega)
  obtain ⟨f2, hE, hn2, hs2, hbk⟩ := OS.row2 hom hn (k := (n - 1).toNat) (r := r.toNat) (by omega) (by omega)
  refine den_region TTok ?_
  intro K hK
  simp -implicitDefEqProofs (disch := first | decide | assumption | omega) only [go_sem, fa31_2, ld23, ld26, ld22, RdS.len rd sl22, RdS.idx rd sl22, R1.intB rd (Ext.pres eB), RdS.cells rd, RdS.len (OS.rd hom) sl23, RdS.idx (OS.rd hom) sl23, RdS.cellN (OS.rd hom), RdS.cells (OS.rd hom), BoxAt.cell hb0_0, wrap_id, RdS.idx hr1 sl26, RdS.cellN hr1, RdS.idx hr2 sl22]
  refine hK _ _ ?_
  clear hK K
  have htm := tmod_in (x := ((M.getD (n - 1).toNat default).getD r.toNat default).getD c.toNat 0 + x) hp.1
  refine den_draw TTok mixed [16] [(0, true), (1, true), (2, true), (3, true), (4, true), (5, true), (6, true), (7, true), (8, true), (9, true), (10, true), (11, true), (12, true), (13, true), (14, true), (15, true), (16, false)] (by kernel_rfl) ?_
  intro K hK
  simp -implicitDefEqProofs (disch := first | decide | assumption | omega) only [go_sem, fa31_0, ld2, RdS.len rd sl22, RdS.idx rd sl22, R1.intB rd (Ext.pres eB), RdS.cells rd, RdS.len (OS.rd hom) sl23, RdS.idx (OS.rd hom) sl23, RdS.cellN (OS.rd hom), RdS.cells (OS.rd hom), BoxAt.cell hb0_0, wrap_id, R1.intN hr2]
  refine op_store1 (j := c.toNat) st2 hE hn2 (by omega) rfl rfl ?_
  intro h16 hE2 c16
  rw [mod_twice hp.1] at hE2
  have hom2 := hbk _ _ c16 hE2
  try simp (disch := decide) only [outv_some, outv_none, put_puts]
  refine plK_last (by decide) ?_
  try simp -implicitDefEqProofs (disch := first | decide | assumption | omega) only [go_sem, RdS.len rd sl22, RdS.idx rd sl22, R1.intB rd (Ext.pres eB), RdS.cells rd, RdS.len (OS.rd hom) sl23, RdS.idx (OS.rd hom) sl23, RdS.cellN (OS.rd hom), RdS.cells (OS.rd hom), BoxAt.cell hb0_0, wrap_id, R1.intN hr2]
  refine hK _ _ ?_
  clear hK K
  refine den_nil ?_
  simp (disch := decide) only [resP_0, puts_same, puts_ne]
  exact ⟨by first | rfl | trivial, hom2, (eB.chg _).trans (c16.mono hs2)⟩

set_option maxRecDepth 100000 in
theorem each_ok (p : Int) (Rel : M3 → Heap → Prop) (U : UF) (fpC : List Nat) (g : FuncId) (cs : Array Value) (X : Cx) (vd vm : Value) (h0 : Heap) (hd : R1 h0 vd X.dims) (hm : R3 h0 vm X.maps) (s0 : M3) (h : Heap) (hR : Rel s0 h) (hRe : ∀ s H H', Rel s H → Ext H H' → Rel s H') (hR0 : ∀ s H, Rel s H → Ext h0 H) (hfp : ∀ b ∈ fpC, b < h.size) (hst : ∀ s H k i j, k < X.maps.length → i < (X.maps.getD k default).length → j < ((X.maps.getD k default).getD i default).length → Rel s H → CallA Try.prog g (#[.int .i64 ((k : Int) + 1), .int .i64 (i : Int), .int .i64 (j : Int), .int .i64 (((X.maps.getD k default).getD i default).getD j 0)] ++ cs) H fun u H' => Rel (applyU p s (U k i j (((X.maps.getD k default).getD i default).getD j 0))) H' ∧ Chg fpC H H') : CallA Try.prog 75 #[.agg #[.int .i64 X.p, vd, vm], .func (.func g) #[] cs] h fun v' h' => v' = .tuple #[] ∧ Rel (applyU p s0 (uK U X.maps X.maps.length)) h' ∧ Chg fpC h h' := by
  have hle := RdS.le hd
  have hlm := RdS.le hm
  have eB := hR0 _ _ hR
  refine callA_intro TTok (args := [_, _]) Try.func75 (by kernel_rfl) rfl 42 rfl (by simp) [] rfl ?_
  simp only [idxs, Nat.reduceAdd]
  refine den_seq ?_
  refine den_region TTok ?_
  intro K hK
  simp -implicitDefEqProofs (disch := first | decide | assumption | omega) only [go_sem, RdS.len hd sl22, RdS.idx hd sl22, R1.intB hd (Ext.pres eB), RdS.cells hd, RdS.len hm sl23, RdS.idx hm sl23, RdS.cellB hm (Ext.pres eB), RdS.cells hm, wrap_id]
  refine op_box (cs := #[.int .i64 (X.p), vd, vm]) rfl ?_
  intro h0_0 e0_0 hb0_0 z0_0
  have := Ext.size e0_0
  replace eB := Ext.trans eB e0_0
  try simp -implicitDefEqProofs (disch := first | decide | assumption | omega) only [go_sem, RdS.len hd sl22, RdS.idx hd sl22, R1.intB hd (Ext.pres eB), RdS.cells hd, RdS.len hm sl23, RdS.idx hm sl23, RdS.cellB hm (Ext.pres eB), RdS.cells hm, BoxAt.cell hb0_0, wrap_id]
  refine hK _ _ ?_
  clear hK K
  refine den_seq ?_
  refine den_region TTok ?_
  intro K hK
  simp -implicitDefEqProofs (disch := first | decide | assumption | omega) only [go_sem, fa31_2, ld23, RdS.len hd sl22, RdS.idx hd sl22, R1.intB hd (Ext.pres eB), RdS.cells hd, RdS.len hm sl23, RdS.idx hm sl23, RdS.cellB hm (Ext.pres eB), RdS.cells hm, BoxAt.cell hb0_0, wrap_id]
  refine hK _ _ ?_
  clear hK K
  refine den_block ?_
  refine den_sel [13, 1, 11, 12] ?_
  intro env_1
  simp only [go_sem]
  refine den_loopS (σ := Nat) (fun s => [(13, .int .i64 (s : Int))]) (fun s H => Ext h0 H ∧ s ≤ X.maps.length ∧ Rel (applyU p s0 (uK U X.maps s)) H ∧ Chg fpC h H ∧ BoxAt H h.size #[.int .i64 X.p, vd, vm] 31) (fun s => X.maps.length - s) 0 ?_ ?_
  · exact ⟨eB, by omega, hRe _ _ _ hR e0_0, Ext.chg e0_0 _, hb0_0⟩
  · rintro k h4 ee3 ⟨eB, hk, hR, hch, hb⟩
    simp only [List.cons_append, List.nil_append]
    have := Ext.size eB
    refine den_seq ?_
    refine den_region TTok ?_
    intro K hK
    simp -implicitDefEqProofs (disch := first | decide | assumption | omega) only [go_sem, RdS.len hd sl22, RdS.idx hd sl22, R1.intB hd (Ext.pres eB), RdS.cells hd, RdS.len hm sl23, RdS.idx hm sl23, RdS.cellB hm (Ext.pres eB), RdS.cells hm, BoxAt.cell hb, wrap_id]
    refine hK _ _ ?_
    clear hK K
    refine den_seq ?_
    refine den_cond rfl (fun c0 => ?_) (fun c0 => ?_)
    · try simp only [decide_eq_true_eq, decide_eq_false_iff_not, beq_iff_eq, beq_eq_false_iff_ne, bne_iff_ne, ne_eq, Bool.not_eq_true', Bool.not_eq_false', Bool.and_eq_true, Bool.or_eq_true, bne_eq_false_iff_eq] at c0
      refine den_skip ?_
      refine den_seq ?_
      refine den_block ?_
      refine den_seq ?_
      refine den_region TTok ?_
      intro K hK
      have hr5 := RdS.rowN hm k (by omega)
      have hlhr5 := RdS.le hr5
      simp -implicitDefEqProofs (disch := first | decide | assumption | omega) only [go_sem, ld26, RdS.len hd sl22, RdS.idx hd sl22, R1.intB hd (Ext.pres eB), RdS.cells hd, RdS.len hm sl23, RdS.idx hm sl23, RdS.cellB hm (Ext.pres eB), RdS.cells hm, RdS.len hr5 sl26, RdS.idx hr5 sl26, RdS.cellB hr5 (Ext.pres eB), RdS.cells hr5, BoxAt.cell hb, wrap_id]
      refine hK _ _ ?_
      clear hK K
      refine den_seq ?_
      refine den_region TTok ?_
      intro K hK
      simp -implicitDefEqProofs (disch := first | decide | assumption | omega) only [go_sem, RdS.len hd sl22, RdS.idx hd sl22, R1.intB hd (Ext.pres eB), RdS.cells hd, RdS.len hm sl23, RdS.idx hm sl23, RdS.cellB hm (Ext.pres eB), RdS.cells hm, RdS.len hr5 sl26, RdS.idx hr5 sl26, RdS.cellB hr5 (Ext.pres eB), RdS.cells hr5, BoxAt.cell hb, wrap_id]
      refine hK _ _ ?_
      clear hK K
      refine den_block ?_
      refine den_sel [20, 1, 4, 11, 12, 13, 18, 19] ?_
      intro env_6
      simp only [go_sem]
      refine den_loopS (σ := Nat) (fun s => [(20, .int .i64 (s : Int))]) (fun s H => Ext h0 H ∧ s ≤ (X.maps.getD k default).length ∧ Rel (applyU p (applyU p s0 (uK U X.maps k)) (uI U k (X.maps.getD k default) s)) H ∧ Chg fpC h H ∧ BoxAt H h.size #[.int .i64 X.p, vd, vm] 31) (fun s => (X.maps.getD k default).length - s) 0 ?_ ?_
      · exact ⟨eB, by omega, hR, hch, hb⟩
      · rintro i h9 ee8 ⟨eB, hi, hR, hch, hb⟩
        simp only [List.cons_append, List.nil_append]
        have := Ext.size eB
        refine den_seq ?_
        refine den_region TTok ?_
        intro K hK
        simp -implicitDefEqProofs (disch := first | decide | assumption | omega) only [go_sem, RdS.len hd sl22, RdS.idx hd sl22, R1.intB hd (Ext.pres eB), RdS.cells hd, RdS.len hm sl23, RdS.idx hm sl23, RdS.cellB hm (Ext.pres eB), RdS.cells hm, RdS.len hr5 sl26, RdS.idx hr5 sl26, RdS.cellB hr5 (Ext.pres eB), RdS.cells hr5, BoxAt.cell hb, wrap_id]
        refine hK _ _ ?_
        clear hK K
        refine den_seq ?_
        refine den_cond rfl (fun c1 => ?_) (fun c1 => ?_)
        · try simp only [decide_eq_true_eq, decide_eq_false_iff_not, beq_iff_eq, beq_eq_false_iff_ne, bne_iff_ne, ne_eq, Bool.not_eq_true', Bool.not_eq_false', Bool.and_eq_true, Bool.or_eq_true, bne_eq_false_iff_eq] at c1
          refine den_skip ?_
          refine den_seq ?_
          refine den_block ?_
          refine den_seq ?_
          refine den_region TTok ?_
          intro K hK
          have hr10 := RdS.rowN hr5 i (by omega)
          have hlhr10 := RdS.le hr10
          simp -implicitDefEqProofs (disch := first | decide | assumption | omega) only [go_sem, ld22, RdS.len hd sl22, RdS.idx hd sl22, R1.intB hd (Ext.pres eB), RdS.cells hd, RdS.len hm sl23, RdS.idx hm sl23, RdS.cellB hm (Ext.pres eB), RdS.cells hm, RdS.len hr5 sl26, RdS.idx hr5 sl26, RdS.cellB hr5 (Ext.pres eB), RdS.cells hr5, RdS.len hr10 sl22, RdS.idx hr10 sl22, R1.intB hr10 (Ext.pres eB), RdS.cells hr10, BoxAt.cell hb, wrap_id]
          refine hK _ _ ?_
          clear hK K
          refine den_seq ?_
          refine den_region TTok ?_
          intro K hK
          simp -implicitDefEqProofs (disch := first | decide | assumption | omega) only [go_sem, RdS.len hd sl22, RdS.idx hd sl22, R1.intB hd (Ext.pres eB), RdS.cells hd, RdS.len hm sl23, RdS.idx hm sl23, RdS.cellB hm (Ext.pres eB), RdS.cells hm, RdS.len hr5 sl26, RdS.idx hr5 sl26, RdS.cellB hr5 (Ext.pres eB), RdS.cells hr5, RdS.len hr10 sl22, RdS.idx hr10 sl22, R1.intB hr10 (Ext.pres eB), RdS.cells hr10, BoxAt.cell hb, wrap_id]
          refine hK _ _ ?_
          clear hK K
          refine den_block ?_
          refine den_sel [27, 1, 4, 6, 11, 12, 13, 18, 19, 20, 25, 26] ?_
          intro env_11
          simp only [go_sem]
          refine den_loopS (σ := Nat) (fun s => [(27, .int .i64 (s : Int))]) (fun s H => Ext h0 H ∧ s ≤ ((X.maps.getD k default).getD i default).length ∧ Rel (applyU p (applyU p (applyU p s0 (uK U X.maps k)) (uI U k (X.maps.getD k default) i)) (uJ U k i ((X.maps.getD k default).getD i default) s)) H ∧ Chg fpC h H ∧ BoxAt H h.size #[.int .i64 X.p, vd, vm] 31) (fun s => ((X.maps.getD k default).getD i default).length - s) 0 ?_ ?_
          · exact ⟨eB, by omega, hR, hch, hb⟩
          · rintro j h14 ee13 ⟨eB, hj, hR, hch, hb⟩
            simp only [List.cons_append, List.nil_append]
            have := Ext.size eB
            refine den_seq ?_
            refine den_region TTok ?_
            intro K hK
            simp -implicitDefEqProofs (disch := first | decide | assumption | omega) only [go_sem, RdS.len hd sl22, RdS.idx hd sl22, R1.intB hd (Ext.pres eB), RdS.cells hd, RdS.len hm sl23, RdS.idx hm sl23, RdS.cellB hm (Ext.pres eB), RdS.cells hm, RdS.len hr5 sl26, RdS.idx hr5 sl26, RdS.cellB hr5 (Ext.pres eB), RdS.cells hr5, RdS.len hr10 sl22, RdS.idx hr10 sl22, R1.intB hr10 (Ext.pres eB), RdS.cells hr10, BoxAt.cell hb, wrap_id]
            refine hK _ _ ?_
            clear hK K
            refine den_seq ?_
            refine den_cond rfl (fun c2 => ?_) (fun c2 => ?_)
            · try simp only [decide_eq_true_eq, decide_eq_false_iff_not, beq_iff_eq, beq_eq_false_iff_ne, bne_iff_ne, ne_eq, Bool.not_eq_true', Bool.not_eq_false', Bool.and_eq_true, Bool.or_eq_true, bne_eq_false_iff_eq] at c2
              refine den_skip ?_
              refine den_seq ?_
              refine den_block ?_
              refine den_seq ?_
              refine den_region TTok ?_
              intro K hK
              simp -implicitDefEqProofs (disch := first | decide | assumption | omega) only [go_sem, ld2, RdS.len hd sl22, RdS.idx hd sl22, R1.intB hd (Ext.pres eB), RdS.cells hd, RdS.len hm sl23, RdS.idx hm sl23, RdS.cellB hm (Ext.pres eB), RdS.cells hm, RdS.len hr5 sl26, RdS.idx hr5 sl26, RdS.cellB hr5 (Ext.pres eB), RdS.cells hr5, RdS.len hr10 sl22, RdS.idx hr10 sl22, R1.intB hr10 (Ext.pres eB), RdS.cells hr10, BoxAt.cell hb, wrap_id]
              refine hK _ _ ?_
              clear hK K
              refine den_region TTok ?_
              intro K hK
              simp -implicitDefEqProofs (disch := first | decide | assumption | omega) only [go_sem, RdS.len hd sl22, RdS.idx hd sl22, R1.intB hd (Ext.pres eB), RdS.cells hd, RdS.len hm sl23, RdS.idx hm sl23, RdS.cellB hm (Ext.pres eB), RdS.cells hm, RdS.len hr5 sl26, RdS.idx hr5 sl26, RdS.cellB hr5 (Ext.pres eB), RdS.cells hr5, RdS.len hr10 sl22, RdS.idx hr10 sl22, R1.intB hr10 (Ext.pres eB), RdS.cells hr10, BoxAt.cell hb, wrap_id]
              try simp -implicitDefEqProofs (disch := first | decide | assumption | omega) only [go_sem, RdS.len hd sl22, RdS.idx hd sl22, R1.intB hd (Ext.pres eB), RdS.cells hd, RdS.len hm sl23, RdS.idx hm sl23, RdS.cellB hm (Ext.pres eB), RdS.cells hm, RdS.len hr5 sl26, RdS.idx hr5 sl26, RdS.cellB hr5 (Ext.pres eB), RdS.cells hr5, RdS.len hr10 sl22, RdS.idx hr10 sl22, R1.intB hr10 (Ext.pres eB), RdS.cells hr10, BoxAt.cell hb, wrap_id]
              refine CallA.mono (hst _ _ k i j (by omega) (by omega) (by omega) hR) ?_
              intro u h10_6
              rintro ⟨hR2, cv⟩
              have hbl := hb.lt
              replace hb := BoxAt.chg hb cv (fun hm => by have := hfp _ hm; omega)
              replace hch := hch.trans cv
              replace eB := hR0 _ _ hR2
              try simp -implicitDefEqProofs (disch := first | decide | assumption | omega) only [go_sem, RdS.len hd sl22, RdS.idx hd sl22, R1.intB hd (Ext.pres eB), RdS.cells hd, RdS.len hm sl23, RdS.idx hm sl23, RdS.cellB hm (Ext.pres eB), RdS.cells hm, RdS.len hr5 sl26, RdS.idx hr5 sl26, RdS.cellB hr5 (Ext.pres eB), RdS.cells hr5, RdS.len hr10 sl22, RdS.idx hr10 sl22, R1.intB hr10 (Ext.pres eB), RdS.cells hr10, BoxAt.cell hb, wrap_id]
              refine hK _ _ ?_
              clear hK K
              refine den_blk ?_
              refine den_region TTok ?_
              intro K hK
              simp -implicitDefEqProofs (disch := first | decide | assumption | omega) only [go_sem, RdS.len hd sl22, RdS.idx hd sl22, R1.intB hd (Ext.pres eB), RdS.cells hd, RdS.len hm sl23, RdS.idx hm sl23, RdS.cellB hm (Ext.pres eB), RdS.cells hm, RdS.len hr5 sl26, RdS.idx hr5 sl26, RdS.cellB hr5 (Ext.pres eB), RdS.cells hr5, RdS.len hr10 sl22, RdS.idx hr10 sl22, R1.intB hr10 (Ext.pres eB), RdS.cells hr10, BoxAt.cell hb, wrap_id]
              refine hK _ _ ?_
              clear hK K
              refine den_stop ?_
              refine ⟨j + 1, by simp [HasL, puts_at], ⟨eB, by omega, ?_, hch, hb⟩, by omega⟩
              rw [uJ, applyU_app]
              exact hR2
            · try simp only [decide_eq_true_eq, decide_eq_false_iff_not, beq_iff_eq, beq_eq_false_iff_ne, bne_iff_ne, ne_eq, Bool.not_eq_true', Bool.not_eq_false', Bool.and_eq_true, Bool.or_eq_true, bne_eq_false_iff_eq] at c2
              refine den_exit ?_
              refine denX_code ?_
              refine denX_stop ?_
              refine denX_hit ?_
              refine den_blk ?_
              refine den_region TTok ?_
              intro K hK
              simp -implicitDefEqProofs (disch := first | decide | assumption | omega) only [go_sem, RdS.len hd sl22, RdS.idx hd sl22, R1.intB hd (Ext.pres eB), RdS.cells hd, RdS.len hm sl23, RdS.idx hm sl23, RdS.cellB hm (Ext.pres eB), RdS.cells hm, RdS.len hr5 sl26, RdS.idx hr5 sl26, RdS.cellB hr5 (Ext.pres eB), RdS.cells hr5, RdS.len hr10 sl22, RdS.idx hr10 sl22, R1.intB hr10 (Ext.pres eB), RdS.cells hr10, BoxAt.cell hb, wrap_id]
              refine hK _ _ ?_
              clear hK K
              refine den_stop ?_
              refine ⟨i + 1, by simp [HasL, puts_at], ⟨eB, by omega, ?_, hch, hb⟩, by omega⟩
              rw [uI, applyU_app, show ((X.maps.getD k default).getD i default).length = j by omega]
              exact hR
        · try simp only [decide_eq_true_eq, decide_eq_false_iff_not, beq_iff_eq, beq_eq_false_iff_ne, bne_iff_ne, ne_eq, Bool.not_eq_true', Bool.not_eq_false', Bool.and_eq_true, Bool.or_eq_true, bne_eq_false_iff_eq] at c1
          refine den_exit ?_
          refine denX_code ?_
          refine denX_stop ?_
          refine denX_hit ?_
          refine den_blk ?_
          refine den_region TTok ?_
          intro K hK
          simp -implicitDefEqProofs (disch := first | decide | assumption | omega) only [go_sem, RdS.len hd sl22, RdS.idx hd sl22, R1.intB hd (Ext.pres eB), RdS.cells hd, RdS.len hm sl23, RdS.idx hm sl23, RdS.cellB hm (Ext.pres eB), RdS.cells hm, RdS.len hr5 sl26, RdS.idx hr5 sl26, RdS.cellB hr5 (Ext.pres eB), RdS.cells hr5, BoxAt.cell hb, wrap_id]
          refine hK _ _ ?_
          clear hK K
          refine den_stop ?_
          refine ⟨k + 1, by simp [HasL, puts_at], ⟨eB, by omega, ?_, hch, hb⟩, by omega⟩
          rw [uK, applyU_app, show (X.maps.getD k default).length = i by omega]
          exact hR
    · try simp only [decide_eq_true_eq, decide_eq_false_iff_not, beq_iff_eq, beq_eq_false_iff_ne, bne_iff_ne, ne_eq, Bool.not_eq_true', Bool.not_eq_false', Bool.and_eq_true, Bool.or_eq_true, bne_eq_false_iff_eq] at c0
      refine den_exit ?_
      refine denX_code ?_
      refine denX_stop ?_
      refine denX_hit ?_
      refine den_nil ?_
      simp (disch := decide) only [resP_0, puts_same, puts_ne]
      rw [show X.maps.length = k by omega]
      exact ⟨by first | rfl | trivial, hR, hch⟩

end Go.Proofs.Ytjjjgllbocgkbaa
