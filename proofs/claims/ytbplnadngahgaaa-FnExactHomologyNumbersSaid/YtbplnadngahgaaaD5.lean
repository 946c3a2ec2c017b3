/-
  Walks: the reference's reduction.
  Conditions: each theorem's own.
-/
import Derived.Test.YtbplnadngahgaaaD4
set_option linter.unusedVariables false
set_option linter.unusedSimpArgs false
namespace Go.Proofs.Ytbplnadngahgaaa
open Go
/-- A row that is one's own, or one that lies elsewhere and is told by its value alone. -/
def EB (h : Heap) (u : Value) (x : List Int × Option Value) (fp : List Nat) : Prop := (x.2 = none ∧ O1 h u x.1 fp) ∨ (x.2 = some u ∧ (u.oneCell' = true ∧ u.cells = #[u]) ∧ fp = [])
instance : Own EB := ⟨fun hl h => h.elim (fun a => .inl ⟨a.1, Own.loc hl a.2⟩) .inr, (fun h b hb => by
  rcases h with h | h
  · exact Own.lt h.2 b hb
  · rw [h.2.2] at hb; cases hb), (fun h => by
  rcases h with h | h
  · exact Own.one h.2
  · exact h.2.1)⟩
theorem EB.own {h : Heap} {u : Value} {x : List Int} {fp : List Nat} (ho : O1 h u x fp) : EB h u (x, none) fp := .inl ⟨rfl, ho⟩
theorem EB.bor {h : Heap} {u : Value} {x : List Int} (ho : u.oneCell' = true ∧ u.cells = #[u]) : EB h u (x, some u) [] := .inr ⟨rfl, ho, rfl⟩
abbrev O2B : Heap → Value → List (List Int × Option Value) → List Nat → Prop := OS 22 EB
theorem OB.nil {h : Heap} {v : Value} {fp : List Nat} (ho : O2 h v [] fp) : O2B h v [] fp := by
  rcases ho with ⟨h1, _, h3⟩ | ⟨b, c, cur, fps, rfl, r⟩
  · exact .inl ⟨h1, rfl, h3⟩
  · exact .inr ⟨b, c, cur, fps, rfl, ⟨r.val, r.box, r.size, r.max, r.le, r.len, fun j hj => by simp at hj⟩⟩
theorem OB.join {h : Heap} {v vo : Value} {xs : List (List Int × Option Value)} {own : List Int} {fp fo : List Nat} {pos : Nat} (ho : O2B h v xs fp) (hn : fp.Nodup) (oo : O1 h vo own fo) (hno : fo.Nodup) (ap : Apart fp fo) (hp : pos < xs.length) (hx : xs.getD pos default = (own, some vo)) (hz : ∀ j, j < xs.length → j ≠ pos → (xs.getD j default).2 = none) : ∃ fp', O2 h v (xs.map Prod.fst) fp' ∧ fp'.Nodup ∧ ∀ b ∈ fp', b ∈ fp ∨ b ∈ fo := by
  rcases ho with ⟨_, rfl, _⟩ | ⟨b, c, cur, fps, rfl, r⟩
  · simp at hp
  · obtain ⟨hnb, hnf⟩ := List.nodup_cons.1 hn
    have gx : ∀ j (hj : j < xs.length), xs.getD j default = xs[j] := fun j hj => by rw [List.getD_eq_getElem?_getD, List.getElem?_eq_getElem hj]; rfl
    refine ⟨b :: (fps.set pos fo).flatten, .inr ⟨b, c, cur, fps.set pos fo, rfl, ⟨by rw [List.length_map]; exact r.val, r.box, r.size, r.max, by rw [List.length_map]; exact r.le, by rw [List.length_set, List.length_map]; exact r.len, fun j hj => ?_⟩⟩, List.nodup_cons.2 ⟨fun hm => ?_, nodup_flatten_set hnf hno (fun q hq => ap q (List.mem_cons_of_mem _ hq))⟩, fun q hq => ?_⟩
    · have hj' : j < xs.length := by simpa using hj
      obtain ⟨u, f, k1, k2, k3⟩ := r.el j hj'
      rw [List.getElem_map]
      by_cases e : pos = j
      · subst e
        rw [gx _ hj'] at hx
        rw [hx] at k3 ⊢
        rcases k3 with k3 | k3
        · cases k3.1
        · have hv : vo = u := by injection k3.1
          exact ⟨u, fo, k1, by rw [List.getElem?_set_self (by rw [r.len]; exact hj')], hv ▸ oo⟩
      · have h2 := hz j hj' (Ne.symm e)
        rw [gx _ hj'] at h2
        rcases k3 with k3 | k3
        · exact ⟨u, f, k1, by rw [List.getElem?_set_ne e]; exact k2, k3.2⟩
        · rw [h2] at k3; cases k3.1
    · rcases mem_flatten_set hm with h1 | h1
      · exact hnb h1
      · exact ap b (by simp) h1
    · rcases List.mem_cons.1 hq with rfl | hq
      · exact .inl (by simp)
      · rcases mem_flatten_set hq with h1 | h1
        · exact .inl (List.mem_cons_of_mem _ h1)
        · exact .inr h1
abbrev tagR (p : Int) (own : List Int) (at_ : Nat) (r : List Int) : List Int × Option Value := (redR p own at_ r, none)
def nextT (p : Int) (L : List (List Int)) (own : List Int) (at_ pos : Nat) (vo : Value) (k : Nat) : List (List Int × Option Value) := if k ≤ pos then (L.take k).map (tagR p own at_) else (L.take pos).map (tagR p own at_) ++ (own, some vo) :: ((L.take k).drop pos).map (tagR p own at_)
def putT (p : Int) (L : List (List Int)) (own : List Int) (at_ pos : Nat) (vo : Value) : List (List Int × Option Value) := (L.take pos).map (tagR p own at_) ++ (own, some vo) :: (L.drop pos).map (tagR p own at_)
section
variable {p : Int} {L : List (List Int)} {own : List Int} {at_ pos : Nat} {vo : Value}
theorem nextT_zero : nextT p L own at_ pos vo 0 = [] := by simp [nextT]
theorem nextT_len {k : Nat} (hk : k ≤ L.length) : (nextT p L own at_ pos vo k).length ≤ L.length + 1 := by
  unfold nextT
  split
  · simp; omega
  · simp; omega
theorem nextT_step {k : Nat} (hk : k < L.length) (hne : k ≠ pos) : nextT p L own at_ pos vo k ++ [(redR p own at_ (L.getD k default), none)] = nextT p L own at_ pos vo (k + 1) := by
  unfold nextT
  by_cases h : k < pos
  · rw [if_pos (by omega), if_pos (by omega)]; exact map_takeA (f := tagR p own at_) hk
  · rw [if_neg (by omega), if_neg (by omega), List.append_assoc, List.cons_append, take_snoc hk, List.drop_append, List.map_append]
    have : (L.take k).length = k := by simp; omega
    rw [this, show pos - k = 0 by omega]; rfl
theorem nextT_at {k : Nat} (hk : k < L.length) (e : k = pos) : nextT p L own at_ pos vo k ++ [(own, some vo)] ++ [(redR p own at_ (L.getD k default), none)] = nextT p L own at_ pos vo (k + 1) := by
  subst e
  unfold nextT
  rw [if_pos (Nat.le_refl _), if_neg (by omega), List.append_assoc, take_snoc hk, List.drop_append]
  have : (L.take k).length = k := by simp; omega
  rw [this, Nat.sub_self, List.drop_of_length_le (by omega)]; rfl
theorem nextT_end1 {k : Nat} (hk : ¬ k < L.length) (h : k ≤ pos) : nextT p L own at_ pos vo k ++ [(own, some vo)] = putT p L own at_ pos vo := by
  unfold nextT putT
  rw [if_pos h, List.take_of_length_le (by omega), List.take_of_length_le (by omega), List.drop_of_length_le (by omega)]; rfl
theorem nextT_end2 {k : Nat} (hk : ¬ k < L.length) (h : pos < k) : nextT p L own at_ pos vo k = putT p L own at_ pos vo := by
  unfold nextT putT
  rw [if_neg (by omega), List.take_of_length_le (i := k) (by omega)]
theorem putT_fst : (putT p L own at_ pos vo).map Prod.fst = putP p L own at_ pos := by
  unfold putT putP
  simp [List.map_append, Function.comp_def]
theorem putT_len (h : pos ≤ L.length) : (putT p L own at_ pos vo).length = L.length + 1 := by
  simp [putT]; omega
theorem putT_at (h : pos ≤ L.length) : (putT p L own at_ pos vo).getD pos default = (own, some vo) := by
  have hl : ((L.take pos).map (tagR p own at_)).length = pos := by simp; omega
  rw [putT, List.getD_eq_getElem?_getD, List.getElem?_append_right (by omega), hl, Nat.sub_self]; rfl
theorem putT_other (h : pos ≤ L.length) {j : Nat} (hj : j < (putT p L own at_ pos vo).length) (hne : j ≠ pos) : ((putT p L own at_ pos vo).getD j default).2 = none := by
  have hl : ((L.take pos).map (tagR p own at_)).length = pos := by simp; omega
  rw [putT_len h] at hj
  rw [putT, List.getD_eq_getElem?_getD]
  by_cases h1 : j < pos
  · rw [List.getElem?_append_left (by omega), List.getElem?_map, List.getElem?_take, if_pos h1, List.getElem?_eq_getElem (by omega)]; rfl
  · rw [List.getElem?_append_right (by omega), hl]
    obtain ⟨q, rfl⟩ : ∃ q, j = pos + q + 1 := ⟨j - pos - 1, by omega⟩
    rw [show pos + q + 1 - pos = q + 1 by omega, List.getElem?_cons_succ, List.getElem?_map, List.getElem?_drop, List.getElem?_eq_getElem (by omega)]; rfl
end

set_option maxRecDepth 100000 in
theorem sEch_ok (vR : Value) (p : Int) (R : List (List Int)) (h : Heap) (rR : R2 h vR R) {w : Nat} (hP : isP p = true) (hT : ∀ r ∈ R, r.length = w ∧ Bnd p r) (hw : w ≤ 1000) (hl : R.length ≤ 1000) : CallA Try.prog 83 #[.int .i64 p, vR] h fun v' h' => ∃ w0 f0, v' = w0 ∧ O2 h' w0 (ech p R) f0 ∧ Fresh h.size f0 ∧ Ext h h' := by
  have hleR := RdS.le rR
  have hp := isP_two hP
  refine callA_intro TTok (args := [_, _]) Try.func83 (by kernel_rfl) rfl 102 rfl (by simp) [.tmp 4] rfl ?_
  simp only [idxs, Nat.reduceAdd]
  refine den_seq ?_
  refine den_region TTok ?_
  intro K hK
  simp -implicitDefEqProofs (disch := first | decide | assumption | omega) only [go_sem, RdS.len rR sl36, RdS.idx rR sl36, RdS.cellB rR (HPres.refl _), RdS.cells rR, wrap_id]
  refine hK _ _ ?_
  clear hK K
  refine den_seq ?_
  refine den_region TTok ?_
  intro K hK
  simp -implicitDefEqProofs (disch := first | decide | assumption | omega) only [go_sem, RdS.len rR sl36, RdS.idx rR sl36, RdS.cellB rR (HPres.refl _), RdS.cells rR, wrap_id]
  refine op_bs0 sz36 O1 ?_
  intro v1_0 h1_0 ho1_0 e1_0
  have := Ext.size e1_0
  have eB := e1_0
  have hfho1_0 : Fresh h.size [h.size] := Fresh.one _
  have hlho1_0 := OS.lt ho1_0
  try simp -implicitDefEqProofs (disch := first | decide | assumption | omega) only [go_sem, RdS.len rR sl36, RdS.idx rR sl36, RdS.cellB rR (Ext.pres eB), RdS.cells rR, RdS.len (OS.rd ho1_0) sl36, RdS.idx (OS.rd ho1_0) sl36, RdS.cellN (OS.rd ho1_0), RdS.cells (OS.rd ho1_0), wrap_id]
  refine hK _ _ ?_
  clear hK K
  refine den_seq ?_
  refine den_seq ?_
  refine den_region TTok ?_
  intro K hK
  simp -implicitDefEqProofs (disch := first | decide | assumption | omega) only [go_sem, RdS.len rR sl36, RdS.idx rR sl36, RdS.cellB rR (Ext.pres eB), RdS.cells rR, RdS.len (OS.rd ho1_0) sl36, RdS.idx (OS.rd ho1_0) sl36, RdS.cellN (OS.rd ho1_0), RdS.cells (OS.rd ho1_0), wrap_id]
  refine hK _ _ ?_
  clear hK K
  refine den_block ?_
  refine den_sel [5, 6, 0, 1] ?_
  intro env_1
  simp only [go_sem]
  refine den_loopS (σ := Nat × List (List Int) × Value × List Nat) (fun st_ => [(5, st_.2.2.1), (6, .int .i64 (st_.1 : Int))]) (fun st_ H => (Red p w st_.2.1 (R.take st_.1)) ∧ (st_.1 ≤ R.length) ∧ (O2 H st_.2.2.1 (st_.2.1) st_.2.2.2) ∧ (Fresh (h.size) st_.2.2.2) ∧ (Sub [h.size] h1_0.size st_.2.2.2) ∧ (Chg [h.size] h1_0 H)) (fun st_ => R.length - st_.1) (0, [], v1_0, [h.size]) ?_ ?_
  · exact ⟨(by rw [List.take_zero]; exact Red.nil), by simp, by exact ho1_0, hfho1_0, Sub.refl, Chg.refl _ _⟩
  · rintro ⟨i, L, vhL, fphL⟩ h4 ee3 ⟨hred, hi, hL, hfhL, sbhL, cL2⟩
    dsimp only at hred hi hL hfhL sbhL cL2
    have := cL2.size
    replace eB := Ext.then eB cL2 (ge_of hfho1_0 (by omega))
    have hlhL := OS.lt hL
    simp only [List.cons_append, List.nil_append]
    obtain ⟨⟨l, hrl⟩, hrE⟩ := id hred
    have hLw := hrl.le_w
    refine den_seq ?_
    refine den_seq ?_
    refine den_region TTok ?_
    intro K hK
    simp -implicitDefEqProofs (disch := first | decide | assumption | omega) only [go_sem, RdS.len rR sl36, RdS.idx rR sl36, RdS.cellB rR (Ext.pres eB), RdS.cells rR, RdS.len (OS.rd hL) sl36, RdS.idx (OS.rd hL) sl36, RdS.cellN (OS.rd hL), RdS.cells (OS.rd hL), wrap_id]
    refine hK _ _ ?_
    clear hK K
    refine den_cond rfl (fun c0 => ?_) (fun c0 => ?_)
    · try simp only [decide_eq_true_eq, decide_eq_false_iff_not, beq_iff_eq, beq_eq_false_iff_ne, bne_iff_ne, ne_eq, Bool.not_eq_true', Bool.not_eq_false', Bool.and_eq_true, Bool.or_eq_true, bne_eq_false_iff_eq] at c0
      refine den_skip ?_
      refine den_seq ?_
      refine den_block ?_
      refine den_seq ?_
      have hRi := hT _ (getD_mem (show i < R.length by omega))
      have hrr := hrl
      have hrv : (R.getD i default).length = w ∧ w ≤ 1000 := ⟨hRi.1, hw⟩
      have hrb := hRi.2
      refine den_region TTok ?_
      intro K hK
      have hr5 := RdS.rowN rR i (by omega)
      have hlhr5 := RdS.le hr5
      simp -implicitDefEqProofs (disch := first | decide | assumption | omega) only [go_sem, ld22, RdS.len rR sl36, RdS.idx rR sl36, RdS.cellB rR (Ext.pres eB), RdS.cells rR, RdS.len hr5 sl22, RdS.idx hr5 sl22, R1.intB hr5 (Ext.pres eB), RdS.cells hr5, RdS.len (OS.rd hL) sl36, RdS.idx (OS.rd hL) sl36, RdS.cellN (OS.rd hL), RdS.cells (OS.rd hL), wrap_id]
      try simp -implicitDefEqProofs (disch := first | decide | assumption | omega) only [go_sem, RdS.len rR sl36, RdS.idx rR sl36, RdS.cellB rR (Ext.pres eB), RdS.cells rR, RdS.len hr5 sl22, RdS.idx hr5 sl22, R1.intB hr5 (Ext.pres eB), RdS.cells hr5, RdS.len (OS.rd hL) sl36, RdS.idx (OS.rd hL) sl36, RdS.cellN (OS.rd hL), RdS.cells (OS.rd hL), wrap_id]
      refine CallA.mono (sRest_ok _ _ p L ((R).getD i default) _ (OS.rd hL) (RdS.pres hr5 (Ext.pres eB)) hP hrr hrv hrb) ?_
      intro vw5_6_0 h5_6
      rintro ⟨zvw5_6_0, fw5_6_0, rfl, how5_6_0, hfw5_6_0, e5_6⟩
      replace hL := OS.ext hL e5_6
      have := Ext.size e5_6
      replace eB := Ext.trans eB e5_6
      replace cL2 := Chg.stepE cL2 e5_6
      have hlhow5_6_0 := OS.lt how5_6_0
      try simp -implicitDefEqProofs (disch := first | decide | assumption | omega) only [go_sem, RdS.len rR sl36, RdS.idx rR sl36, RdS.cellB rR (Ext.pres eB), RdS.cells rR, RdS.len hr5 sl22, RdS.idx hr5 sl22, R1.intB hr5 (Ext.pres eB), RdS.cells hr5, RdS.len (OS.rd hL) sl36, RdS.idx (OS.rd hL) sl36, RdS.cellN (OS.rd hL), RdS.cells (OS.rd hL), RdS.len (OS.rd how5_6_0) sl22, RdS.idx (OS.rd how5_6_0) sl22, R1.intN (OS.rd how5_6_0), RdS.cells (OS.rd how5_6_0), wrap_id]
      refine hK _ _ ?_
      clear hK K
      refine den_seq ?_
      refine den_region TTok ?_
      intro K hK
      simp -implicitDefEqProofs (disch := first | decide | assumption | omega) only [go_sem, RdS.len rR sl36, RdS.idx rR sl36, RdS.cellB rR (Ext.pres eB), RdS.cells rR, RdS.len hr5 sl22, RdS.idx hr5 sl22, R1.intB hr5 (Ext.pres eB), RdS.cells hr5, RdS.len (OS.rd hL) sl36, RdS.idx (OS.rd hL) sl36, RdS.cellN (OS.rd hL), RdS.cells (OS.rd hL), RdS.len (OS.rd how5_6_0) sl22, RdS.idx (OS.rd how5_6_0) sl22, R1.intN (OS.rd how5_6_0), RdS.cells (OS.rd how5_6_0), wrap_id]
      try simp -implicitDefEqProofs (disch := first | decide | assumption | omega) only [go_sem, RdS.len rR sl36, RdS.idx rR sl36, RdS.cellB rR (Ext.pres eB), RdS.cells rR, RdS.len hr5 sl22, RdS.idx hr5 sl22, R1.intB hr5 (Ext.pres eB), RdS.cells hr5, RdS.len (OS.rd hL) sl36, RdS.idx (OS.rd hL) sl36, RdS.cellN (OS.rd hL), RdS.cells (OS.rd hL), RdS.len (OS.rd how5_6_0) sl22, RdS.idx (OS.rd how5_6_0) sl22, R1.intN (OS.rd how5_6_0), RdS.cells (OS.rd how5_6_0), wrap_id]
      refine CallA.pure (sLead_ok _ (restP p L ((R).getD i default)) _ (OS.rd how5_6_0)) ?_
      try simp -implicitDefEqProofs (disch := first | decide | assumption | omega) only [go_sem, RdS.len rR sl36, RdS.idx rR sl36, RdS.cellB rR (Ext.pres eB), RdS.cells rR, RdS.len hr5 sl22, RdS.idx hr5 sl22, R1.intB hr5 (Ext.pres eB), RdS.cells hr5, RdS.len (OS.rd hL) sl36, RdS.idx (OS.rd hL) sl36, RdS.cellN (OS.rd hL), RdS.cells (OS.rd hL), RdS.len (OS.rd how5_6_0) sl22, RdS.idx (OS.rd how5_6_0) sl22, R1.intN (OS.rd how5_6_0), RdS.cells (OS.rd how5_6_0), wrap_id]
      refine hK _ _ ?_
      clear hK K
      refine den_seq ?_
      refine den_seq ?_
      refine den_region TTok ?_
      intro K hK
      simp -implicitDefEqProofs (disch := first | decide | assumption | omega) only [go_sem, RdS.len rR sl36, RdS.idx rR sl36, RdS.cellB rR (Ext.pres eB), RdS.cells rR, RdS.len hr5 sl22, RdS.idx hr5 sl22, R1.intB hr5 (Ext.pres eB), RdS.cells hr5, RdS.len (OS.rd hL) sl36, RdS.idx (OS.rd hL) sl36, RdS.cellN (OS.rd hL), RdS.cells (OS.rd hL), RdS.len (OS.rd how5_6_0) sl22, RdS.idx (OS.rd how5_6_0) sl22, R1.intN (OS.rd how5_6_0), RdS.cells (OS.rd how5_6_0), wrap_id]
      refine hK _ _ ?_
      clear hK K
      refine den_cond rfl (fun c1 => ?_) (fun c1 => ?_)
      · try simp only [decide_eq_true_eq, decide_eq_false_iff_not, beq_iff_eq, beq_eq_false_iff_ne, bne_iff_ne, ne_eq, Bool.not_eq_true', Bool.not_eq_false', Bool.and_eq_true, Bool.or_eq_true, bne_eq_false_iff_eq] at c1
        refine den_exit ?_
        refine denX_code ?_
        refine denX_hit ?_
        refine den_region TTok ?_
        intro K hK
        simp -implicitDefEqProofs (disch := first | decide | assumption | omega) only [go_sem, RdS.len rR sl36, RdS.idx rR sl36, RdS.cellB rR (Ext.pres eB), RdS.cells rR, RdS.len hr5 sl22, RdS.idx hr5 sl22, R1.intB hr5 (Ext.pres eB), RdS.cells hr5, RdS.len (OS.rd hL) sl36, RdS.idx (OS.rd hL) sl36, RdS.cellN (OS.rd hL), RdS.cells (OS.rd hL), wrap_id]
        refine hK _ _ ?_
        clear hK K
        refine den_stop ?_
        exact ⟨(i + 1, L, vhL, fphL), by simp [HasL, puts_at], ⟨(by rw [take_snoc (by omega)]; exact Red.skip hred hp.1 hrv.1 hrb c1), by dsimp only; omega, hL, hfhL, sbhL, cL2⟩, by first | omega | (dsimp only; omega)⟩
      · try simp only [decide_eq_true_eq, decide_eq_false_iff_not, beq_iff_eq, beq_eq_false_iff_ne, bne_iff_ne, ne_eq, Bool.not_eq_true', Bool.not_eq_false', Bool.and_eq_true, Bool.or_eq_true, bne_eq_false_iff_eq] at c1
        obtain ⟨k0, hk0, hke, hkz, hkn⟩ : ∃ k : Nat, k < (restP p L (R.getD i default)).length ∧ leadP (restP p L (R.getD i default)) = (k : Int) ∧ (∀ j, j < k → (restP p L (R.getD i default)).getD j 0 = 0) ∧ (restP p L (R.getD i default)).getD k 0 ≠ 0 := by
          rcases lead_cases (restP p L (R.getD i default)) with ⟨hm, _⟩ | h
          · omega
          · exact h
        rw [hke]
        have hbO := restP_bnd (p := p) (L := L) (by omega) hrb
        have hxk := hbO.at hk0
        have hiv := invP_ok hP (x := (restP p L (R.getD i default)).getD k0 0) (by omega) hxk.2
        have hlO := restP_len p L (R.getD i default)
        have hown : (ownP p L (R.getD i default)) = sclRow p (invP p ((restP p L (R.getD i default)).getD k0 0)) (restP p L (R.getD i default)) := by rw [ownP, hke, Int.toNat_natCast]
        obtain ⟨hok, _⟩ := ownP_ok hP hrr hrv.1 hrb hke
        obtain ⟨hq1, hq2, hq3⟩ := posP_ok (at_ := k0) hrr
        refine den_skip ?_
        refine den_seq ?_
        refine den_region TTok ?_
        intro K hK
        simp -implicitDefEqProofs (disch := first | decide | assumption | omega) only [go_sem, ld2, RdS.len rR sl36, RdS.idx rR sl36, RdS.cellB rR (Ext.pres eB), RdS.cells rR, RdS.len hr5 sl22, RdS.idx hr5 sl22, R1.intB hr5 (Ext.pres eB), RdS.cells hr5, RdS.len (OS.rd hL) sl36, RdS.idx (OS.rd hL) sl36, RdS.cellN (OS.rd hL), RdS.cells (OS.rd hL), RdS.len (OS.rd how5_6_0) sl22, RdS.idx (OS.rd how5_6_0) sl22, R1.intN (OS.rd how5_6_0), RdS.cells (OS.rd how5_6_0), wrap_id]
        try simp -implicitDefEqProofs (disch := first | decide | assumption | omega) only [go_sem, RdS.len rR sl36, RdS.idx rR sl36, RdS.cellB rR (Ext.pres eB), RdS.cells rR, RdS.len hr5 sl22, RdS.idx hr5 sl22, R1.intB hr5 (Ext.pres eB), RdS.cells hr5, RdS.len (OS.rd hL) sl36, RdS.idx (OS.rd hL) sl36, RdS.cellN (OS.rd hL), RdS.cells (OS.rd hL), RdS.len (OS.rd how5_6_0) sl22, RdS.idx (OS.rd how5_6_0) sl22, R1.intN (OS.rd how5_6_0), RdS.cells (OS.rd how5_6_0), wrap_id]
        refine CallA.mono (sInv_ok  p ((restP p L ((R).getD i default)).getD k0 0) _  hP (by omega)) ?_
        intro v_ h8_5
        rintro ⟨rfl, e8_5⟩
        replace hL := OS.ext hL e8_5
        replace how5_6_0 := OS.ext how5_6_0 e8_5
        have := Ext.size e8_5
        replace eB := Ext.trans eB e8_5
        replace cL2 := Chg.stepE cL2 e8_5
        try simp -implicitDefEqProofs (disch := first | decide | assumption | omega) only [go_sem, RdS.len rR sl36, RdS.idx rR sl36, RdS.cellB rR (Ext.pres eB), RdS.cells rR, RdS.len hr5 sl22, RdS.idx hr5 sl22, R1.intB hr5 (Ext.pres eB), RdS.cells hr5, RdS.len (OS.rd hL) sl36, RdS.idx (OS.rd hL) sl36, RdS.cellN (OS.rd hL), RdS.cells (OS.rd hL), RdS.len (OS.rd how5_6_0) sl22, RdS.idx (OS.rd how5_6_0) sl22, R1.intN (OS.rd how5_6_0), RdS.cells (OS.rd how5_6_0), wrap_id]
        refine hK _ _ ?_
        clear hK K
        refine den_seq ?_
        refine den_seq ?_
        refine den_region TTok ?_
        intro K hK
        simp -implicitDefEqProofs (disch := first | decide | assumption | omega) only [go_sem, RdS.len rR sl36, RdS.idx rR sl36, RdS.cellB rR (Ext.pres eB), RdS.cells rR, RdS.len hr5 sl22, RdS.idx hr5 sl22, R1.intB hr5 (Ext.pres eB), RdS.cells hr5, RdS.len (OS.rd hL) sl36, RdS.idx (OS.rd hL) sl36, RdS.cellN (OS.rd hL), RdS.cells (OS.rd hL), RdS.len (OS.rd how5_6_0) sl22, RdS.idx (OS.rd how5_6_0) sl22, R1.intN (OS.rd how5_6_0), RdS.cells (OS.rd how5_6_0), wrap_id]
        refine hK _ _ ?_
        clear hK K
        refine den_block ?_
        refine den_sel [10, 0, 1, 5, 6, 7, 8, 9] ?_
        intro env_6
        simp only [go_sem]
        refine den_loopS (σ := Nat) (fun st_ => [(10, .int .i64 (st_ : Int))]) (fun st_ H => (st_ ≤ (restP p L (R.getD i default)).length) ∧ (O1 H vw5_6_0 (mix (sclRow p (invP p ((restP p L (R.getD i default)).getD k0 0)) (restP p L (R.getD i default))) (restP p L (R.getD i default)) st_) fw5_6_0) ∧ (Chg fw5_6_0 h8_5 H)) (fun st_ => (restP p L (R.getD i default)).length - st_) 0 ?_ ?_
        · exact ⟨by first | (simp; done) | (dsimp only; omega) | (simp; omega), by rw [mix_zero]; exact how5_6_0, Chg.refl _ _⟩
        · rintro k h9 ee8 ⟨hi0, hS, cL7⟩
          replace hL := OS.chg hL cL7 (apart_lt hlhL hfw5_6_0 (by omega))
          have := cL7.size
          replace eB := Ext.then eB cL7 (ge_of hfw5_6_0 (by omega))
          replace cL2 := Chg.step cL2 cL7 (Sub.fresh hfw5_6_0 (by omega))
          have sbhS : Sub fw5_6_0 h8_5.size fw5_6_0 := Sub.refl
          have hfhS := hfw5_6_0
          have hlhS := hlhow5_6_0
          simp only [List.cons_append, List.nil_append]
          have hml_ := mix_len (sclRow p (invP p ((restP p L (R.getD i default)).getD k0 0)) (restP p L (R.getD i default))) (restP p L (R.getD i default)) k (sclR_len _ _ _)
          refine den_seq ?_
          refine den_seq ?_
          refine den_region TTok ?_
          intro K hK
          simp -implicitDefEqProofs (disch := first | decide | assumption | omega) only [go_sem, RdS.len rR sl36, RdS.idx rR sl36, RdS.cellB rR (Ext.pres eB), RdS.cells rR, RdS.len hr5 sl22, RdS.idx hr5 sl22, R1.intB hr5 (Ext.pres eB), RdS.cells hr5, RdS.len (OS.rd hL) sl36, RdS.idx (OS.rd hL) sl36, RdS.cellN (OS.rd hL), RdS.cells (OS.rd hL), RdS.len (OS.rd hS) sl22, RdS.idx (OS.rd hS) sl22, R1.intN (OS.rd hS), RdS.cells (OS.rd hS), wrap_id]
          refine hK _ _ ?_
          clear hK K
          refine den_cond rfl (fun c2 => ?_) (fun c2 => ?_)
          · try simp only [decide_eq_true_eq, decide_eq_false_iff_not, beq_iff_eq, beq_eq_false_iff_ne, bne_iff_ne, ne_eq, Bool.not_eq_true', Bool.not_eq_false', Bool.and_eq_true, Bool.or_eq_true, bne_eq_false_iff_eq] at c2
            refine den_skip ?_
            refine den_seq ?_
            refine den_block ?_
            have hmg := mix_get (sclRow p (invP p ((restP p L (R.getD i default)).getD k0 0)) (restP p L (R.getD i default))) (restP p L (R.getD i default)) k 0 (sclR_len _ _ _) (by omega)
            have hxq := hbO.at (k := k) (by omega)
            have hmu := mul36A (x := (mix (sclRow p (invP p ((restP p L (R.getD i default)).getD k0 0)) (restP p L (R.getD i default))) (restP p L (R.getD i default)) k).getD k 0) (y := (invP p ((restP p L (R.getD i default)).getD k0 0))) (p := p) (by omega) ⟨by omega, hiv.1.2⟩ hp.2
            refine den_region TTok ?_
            intro K hK
            simp -implicitDefEqProofs (disch := first | decide | assumption | omega) only [go_sem, ld2, RdS.len rR sl36, RdS.idx rR sl36, RdS.cellB rR (Ext.pres eB), RdS.cells rR, RdS.len hr5 sl22, RdS.idx hr5 sl22, R1.intB hr5 (Ext.pres eB), RdS.cells hr5, RdS.len (OS.rd hL) sl36, RdS.idx (OS.rd hL) sl36, RdS.cellN (OS.rd hL), RdS.cells (OS.rd hL), RdS.len (OS.rd hS) sl22, RdS.idx (OS.rd hS) sl22, R1.intN (OS.rd hS), RdS.cells (OS.rd hS), wrap_id]
            refine op_store1 (j := k) st2 hS hfhS.nodup (by first | omega | (simp; omega)) rfl rfl ?_
            intro h12_11 ho12_11 c12_11
            have hsz12_11 := c12_11.size
            replace hL := OS.chg hL c12_11 (apart_lt hlhL hfhS (by omega))
            have := c12_11.size
            replace eB := Ext.then eB c12_11 (ge_of hfhS (by omega))
            replace cL2 := Chg.step cL2 c12_11 (Sub.fresh hfhS (by omega))
            replace cL7 := Chg.step cL7 c12_11 sbhS
            have hlho12_11 := hlhS
            have hlenho12_11 : ((mix (sclRow p (invP p ((restP p L (R.getD i default)).getD k0 0)) (restP p L (R.getD i default))) (restP p L (R.getD i default)) k).set k (Int.tmod (((mix (sclRow p (invP p ((restP p L (R.getD i default)).getD k0 0)) (restP p L (R.getD i default))) (restP p L (R.getD i default)) k).getD k 0) * (invP p ((restP p L ((R).getD i default)).getD k0 0))) p) : List Int).length = (mix (sclRow p (invP p ((restP p L (R.getD i default)).getD k0 0)) (restP p L (R.getD i default))) (restP p L (R.getD i default)) k : List Int).length := List.length_set
            try simp -implicitDefEqProofs (disch := first | decide | assumption | omega) only [go_sem, RdS.len rR sl36, RdS.idx rR sl36, RdS.cellB rR (Ext.pres eB), RdS.cells rR, RdS.len hr5 sl22, RdS.idx hr5 sl22, R1.intB hr5 (Ext.pres eB), RdS.cells hr5, RdS.len (OS.rd hL) sl36, RdS.idx (OS.rd hL) sl36, RdS.cellN (OS.rd hL), RdS.cells (OS.rd hL), RdS.len (OS.rd ho12_11) sl22, RdS.idx (OS.rd ho12_11) sl22, R1.intN (OS.rd ho12_11), RdS.cells (OS.rd ho12_11), wrap_id]
            refine hK _ _ ?_
            clear hK K
            refine den_blk ?_
            refine den_region TTok ?_
            intro K hK
            simp -implicitDefEqProofs (disch := first | decide | assumption | omega) only [go_sem, RdS.len rR sl36, RdS.idx rR sl36, RdS.cellB rR (Ext.pres eB), RdS.cells rR, RdS.len hr5 sl22, RdS.idx hr5 sl22, R1.intB hr5 (Ext.pres eB), RdS.cells hr5, RdS.len (OS.rd hL) sl36, RdS.idx (OS.rd hL) sl36, RdS.cellN (OS.rd hL), RdS.cells (OS.rd hL), RdS.len (OS.rd ho12_11) sl22, RdS.idx (OS.rd ho12_11) sl22, R1.intN (OS.rd ho12_11), RdS.cells (OS.rd ho12_11), wrap_id]
            refine hK _ _ ?_
            clear hK K
            refine den_stop ?_
            rw [tmod_e hmu.1, hmg, Int.mul_comm, ← sclR_get p _ (by omega), mix_set _ _ _ _ (sclR_len _ _ _) (by omega)] at ho12_11
            exact ⟨k + 1, by simp [HasL, puts_at], ⟨by first | omega | (dsimp only; omega), ho12_11, cL7⟩, by first | omega | (dsimp only; omega)⟩
          · try simp only [decide_eq_true_eq, decide_eq_false_iff_not, beq_iff_eq, beq_eq_false_iff_ne, bne_iff_ne, ne_eq, Bool.not_eq_true', Bool.not_eq_false', Bool.and_eq_true, Bool.or_eq_true, bne_eq_false_iff_eq] at c2
            refine den_exit ?_
            refine denX_code ?_
            refine denX_stop ?_
            refine denX_hit ?_
            refine den_seq ?_
            rw [mix_end _ _ _ (sclR_len _ _ _) (by omega), ← hown] at hS
            have hOl : (ownP p L (R.getD i default)).length = w := hok.len
            refine den_region TTok ?_
            intro K hK
            simp -implicitDefEqProofs (disch := first | decide | assumption | omega) only [go_sem, RdS.len rR sl36, RdS.idx rR sl36, RdS.cellB rR (Ext.pres eB), RdS.cells rR, RdS.len hr5 sl22, RdS.idx hr5 sl22, R1.intB hr5 (Ext.pres eB), RdS.cells hr5, RdS.len (OS.rd hL) sl36, RdS.idx (OS.rd hL) sl36, RdS.cellN (OS.rd hL), RdS.cells (OS.rd hL), RdS.len (OS.rd hS) sl22, RdS.idx (OS.rd hS) sl22, R1.intN (OS.rd hS), RdS.cells (OS.rd hS), wrap_id]
            refine op_bs0 sz36 O1 ?_
            intro v13_0 h13_0 ho13_0 e13_0
            replace hL := OS.ext hL e13_0
            replace hS := OS.ext hS e13_0
            have := Ext.size e13_0
            replace eB := Ext.trans eB e13_0
            replace cL2 := Chg.stepE cL2 e13_0
            have hfho13_0 : Fresh h9.size [h9.size] := Fresh.one _
            have hlho13_0 := OS.lt ho13_0
            try simp -implicitDefEqProofs (disch := first | decide | assumption | omega) only [go_sem, RdS.len rR sl36, RdS.idx rR sl36, RdS.cellB rR (Ext.pres eB), RdS.cells rR, RdS.len hr5 sl22, RdS.idx hr5 sl22, R1.intB hr5 (Ext.pres eB), RdS.cells hr5, RdS.len (OS.rd hL) sl36, RdS.idx (OS.rd hL) sl36, RdS.cellN (OS.rd hL), RdS.cells (OS.rd hL), RdS.len (OS.rd hS) sl22, RdS.idx (OS.rd hS) sl22, R1.intN (OS.rd hS), RdS.cells (OS.rd hS), RdS.len (OS.rd ho13_0) sl36, RdS.idx (OS.rd ho13_0) sl36, RdS.cellN (OS.rd ho13_0), RdS.cells (OS.rd ho13_0), wrap_id]
            refine hK _ _ ?_
            clear hK K
            refine den_seq ?_
            refine den_seq ?_
            refine den_region TTok ?_
            intro K hK
            simp -implicitDefEqProofs (disch := first | decide | assumption | omega) only [go_sem, RdS.len rR sl36, RdS.idx rR sl36, RdS.cellB rR (Ext.pres eB), RdS.cells rR, RdS.len hr5 sl22, RdS.idx hr5 sl22, R1.intB hr5 (Ext.pres eB), RdS.cells hr5, RdS.len (OS.rd hL) sl36, RdS.idx (OS.rd hL) sl36, RdS.cellN (OS.rd hL), RdS.cells (OS.rd hL), RdS.len (OS.rd hS) sl22, RdS.idx (OS.rd hS) sl22, R1.intN (OS.rd hS), RdS.cells (OS.rd hS), RdS.len (OS.rd ho13_0) sl36, RdS.idx (OS.rd ho13_0) sl36, RdS.cellN (OS.rd ho13_0), RdS.cells (OS.rd ho13_0), wrap_id]
            refine hK _ _ ?_
            clear hK K
            refine den_block ?_
            refine den_sel [11, 12, 13, 0, 1, 5, 6, 7, 8] ?_
            intro env_10
            simp only [go_sem]
            refine den_loopS (σ := Nat × Bool × Value × List Nat) (fun st_ => [(11, st_.2.2.1), (12, .bool st_.2.1), (13, .int .i64 (st_.1 : Int))]) (fun st_ H => (st_.1 ≤ L.length) ∧ (st_.2.1 = decide (posP L k0 < st_.1)) ∧ (O2B H st_.2.2.1 (nextT p L (ownP p L (R.getD i default)) k0 (posP L k0) vw5_6_0 st_.1) st_.2.2.2) ∧ (Fresh (h9.size) st_.2.2.2) ∧ (Sub [h9.size] h13_0.size st_.2.2.2) ∧ (Chg [h9.size] h13_0 H)) (fun st_ => L.length - st_.1) (0, false, v13_0, [h9.size]) ?_ ?_
            · exact ⟨by simp, by simp, by rw [nextT_zero]; exact OB.nil ho13_0, hfho13_0, Sub.refl, Chg.refl _ _⟩
            · rintro ⟨k, b, vhN, fphN⟩ h13 ee12 ⟨hk, hb, hN, hfhN, sbhN, cL11⟩
              dsimp only at hk hb hN hfhN sbhN cL11
              replace hL := OS.chg hL cL11 (apart_lt hlhL hfho13_0 (by omega))
              replace hS := OS.chg hS cL11 (apart_lt hlhS hfho13_0 (by omega))
              have := cL11.size
              replace eB := Ext.then eB cL11 (ge_of hfho13_0 (by omega))
              replace cL2 := Chg.step cL2 cL11 (Sub.fresh hfho13_0 (by omega))
              have hlhN := OS.lt hN
              simp only [List.cons_append, List.nil_append]
              have hnl := nextT_len (p := p) (own := (ownP p L (R.getD i default))) (at_ := k0) (pos := posP L k0) (vo := vw5_6_0) hk
              refine den_seq ?_
              refine den_seq ?_
              refine den_region TTok ?_
              intro K hK
              simp -implicitDefEqProofs (disch := first | decide | assumption | omega) only [go_sem, RdS.len rR sl36, RdS.idx rR sl36, RdS.cellB rR (Ext.pres eB), RdS.cells rR, RdS.len hr5 sl22, RdS.idx hr5 sl22, R1.intB hr5 (Ext.pres eB), RdS.cells hr5, RdS.len (OS.rd hL) sl36, RdS.idx (OS.rd hL) sl36, RdS.cellN (OS.rd hL), RdS.cells (OS.rd hL), RdS.len (OS.rd hS) sl22, RdS.idx (OS.rd hS) sl22, R1.intN (OS.rd hS), RdS.cells (OS.rd hS), wrap_id]
              refine hK _ _ ?_
              clear hK K
              refine den_cond rfl (fun c3 => ?_) (fun c3 => ?_)
              · try simp only [decide_eq_true_eq, decide_eq_false_iff_not, beq_iff_eq, beq_eq_false_iff_ne, bne_iff_ne, ne_eq, Bool.not_eq_true', Bool.not_eq_false', Bool.and_eq_true, Bool.or_eq_true, bne_eq_false_iff_eq] at c3
                refine den_skip ?_
                refine den_seq ?_
                refine den_block ?_
                refine den_seq ?_
                refine den_seq ?_
                refine den_mergeH [(72, .bool (((!(b)) && (decide ((k0 : Int) < (leadP ((L).getD k default)))))))] [0, 1, 5, 6, 7, 8, 11, 12, 13] ?_ ?_
                  -- a way
                · refine den_region TTok ?_
                  intro K hK
                  simp -implicitDefEqProofs (disch := first | decide | assumption | (simp (disch := decide) only [slotOf_zero, slotOf_succ, Option.map_some, puts_same, puts_ne, gv_bool, gv_undef, tt, tf, ft, ff, eq_self, if_true, if_false, Bool.false_eq_true, Bool.not_true, Bool.not_false]; done) | omega) only [go_sem, RdS.len rR sl36, RdS.idx rR sl36, RdS.cellB rR (Ext.pres eB), RdS.cells rR, RdS.len hr5 sl22, RdS.idx hr5 sl22, R1.intB hr5 (Ext.pres eB), RdS.cells hr5, RdS.len (OS.rd hL) sl36, RdS.idx (OS.rd hL) sl36, RdS.cellN (OS.rd hL), RdS.cells (OS.rd hL), RdS.len (OS.rd hS) sl22, RdS.idx (OS.rd hS) sl22, R1.intN (OS.rd hS), RdS.cells (OS.rd hS), wrap_id]
                  refine opsP_T (by simp (disch := decide) only [slotOf_zero, slotOf_succ, Option.map_some, puts_same, puts_ne, gv_bool, gv_undef, tt, tf, ft, ff, eq_self, if_true, if_false, Bool.false_eq_true, Bool.not_true, Bool.not_false]; rfl) (fun g14 => ?_) (fun g14 => ?_)
                  · have hr15 := RdS.rowN (OS.rd hL) k (by omega)
                    have hlhr15 := RdS.le hr15
                    have xr16 := Ext.refl h13
                    try simp -implicitDefEqProofs (disch := first | decide | assumption | (simp (disch := decide) only [slotOf_zero, slotOf_succ, Option.map_some, puts_same, puts_ne, gv_bool, gv_undef, tt, tf, ft, ff, eq_self, if_true, if_false, Bool.false_eq_true, Bool.not_true, Bool.not_false, g14]; done) | omega) only [go_sem, ld22, RdS.len rR sl36, RdS.idx rR sl36, RdS.cellB rR (Ext.pres eB), RdS.cells rR, RdS.len hr5 sl22, RdS.idx hr5 sl22, R1.intB hr5 (Ext.pres eB), RdS.cells hr5, RdS.len (OS.rd hL) sl36, RdS.idx (OS.rd hL) sl36, RdS.cellN (OS.rd hL), RdS.cells (OS.rd hL), RdS.len (OS.rd hS) sl22, RdS.idx (OS.rd hS) sl22, R1.intN (OS.rd hS), RdS.cells (OS.rd hS), RdS.len hr15 sl22, RdS.idx hr15 sl22, R1.intB hr15 (Ext.pres xr16), RdS.cells hr15, wrap_id, g14, eq_self, if_true, if_false, Bool.false_eq_true]
                    try simp -implicitDefEqProofs (disch := first | decide | assumption | omega) only [go_sem, RdS.len rR sl36, RdS.idx rR sl36, RdS.cellB rR (Ext.pres eB), RdS.cells rR, RdS.len hr5 sl22, RdS.idx hr5 sl22, R1.intB hr5 (Ext.pres eB), RdS.cells hr5, RdS.len (OS.rd hL) sl36, RdS.idx (OS.rd hL) sl36, RdS.cellN (OS.rd hL), RdS.cells (OS.rd hL), RdS.len (OS.rd hS) sl22, RdS.idx (OS.rd hS) sl22, R1.intN (OS.rd hS), RdS.cells (OS.rd hS), RdS.len hr15 sl22, RdS.idx hr15 sl22, R1.intB hr15 (Ext.pres xr16), RdS.cells hr15, wrap_id]
                    refine CallA.pure (sLead_ok _ ((L).getD k default) _ (RdS.pres hr15 (Ext.pres xr16))) ?_
                    try simp -implicitDefEqProofs (disch := first | decide | assumption | (simp (disch := decide) only [slotOf_zero, slotOf_succ, Option.map_some, puts_same, puts_ne, gv_bool, gv_undef, tt, tf, ft, ff, eq_self, if_true, if_false, Bool.false_eq_true, Bool.not_true, Bool.not_false, g14]; done) | omega) only [go_sem, RdS.len rR sl36, RdS.idx rR sl36, RdS.cellB rR (Ext.pres eB), RdS.cells rR, RdS.len hr5 sl22, RdS.idx hr5 sl22, R1.intB hr5 (Ext.pres eB), RdS.cells hr5, RdS.len (OS.rd hL) sl36, RdS.idx (OS.rd hL) sl36, RdS.cellN (OS.rd hL), RdS.cells (OS.rd hL), RdS.len (OS.rd hS) sl22, RdS.idx (OS.rd hS) sl22, R1.intN (OS.rd hS), RdS.cells (OS.rd hS), RdS.len hr15 sl22, RdS.idx hr15 sl22, R1.intB hr15 (Ext.pres xr16), RdS.cells hr15, wrap_id, g14, eq_self, if_true, if_false, Bool.false_eq_true]
                    refine hK _ _ ?_
                    clear hK K
                    refine den_stop ?_
                    refine ⟨?_, rfl⟩
                    first | (simp (disch := decide) only [go_sem, g14, eq_self, Bool.true_and, Bool.and_true, Bool.false_and, Bool.and_false, Bool.true_or, Bool.or_true, Bool.false_or, Bool.or_false, if_true, if_false, Bool.false_eq_true]; done) | simp [HasL, sel, puts_at, g14]
                  · try simp -implicitDefEqProofs (disch := first | decide | assumption | (simp (disch := decide) only [slotOf_zero, slotOf_succ, Option.map_some, puts_same, puts_ne, gv_bool, gv_undef, tt, tf, ft, ff, eq_self, if_true, if_false, Bool.false_eq_true, Bool.not_true, Bool.not_false, g14]; done) | omega) only [go_sem, RdS.len rR sl36, RdS.idx rR sl36, RdS.cellB rR (Ext.pres eB), RdS.cells rR, RdS.len hr5 sl22, RdS.idx hr5 sl22, R1.intB hr5 (Ext.pres eB), RdS.cells hr5, RdS.len (OS.rd hL) sl36, RdS.idx (OS.rd hL) sl36, RdS.cellN (OS.rd hL), RdS.cells (OS.rd hL), RdS.len (OS.rd hS) sl22, RdS.idx (OS.rd hS) sl22, R1.intN (OS.rd hS), RdS.cells (OS.rd hS), wrap_id, g14, eq_self, if_true, if_false, Bool.false_eq_true]
                    refine hK _ _ ?_
                    clear hK K
                    refine den_stop ?_
                    refine ⟨?_, rfl⟩
                    first | (simp (disch := decide) only [go_sem, g14, eq_self, Bool.true_and, Bool.and_true, Bool.false_and, Bool.and_false, Bool.true_or, Bool.or_true, Bool.false_or, Bool.or_false, if_true, if_false, Bool.false_eq_true]; done) | simp [HasL, sel, puts_at, g14]
                intro en17
                simp (disch := decide) only [go_sem]
                refine den_cond rfl (fun c4 => ?_) (fun c4 => ?_)
                · try simp only [decide_eq_true_eq, decide_eq_false_iff_not, beq_iff_eq, beq_eq_false_iff_ne, bne_iff_ne, ne_eq, Bool.not_eq_true', Bool.not_eq_false', Bool.and_eq_true, Bool.or_eq_true, bne_eq_false_iff_eq] at c4
                  have hld := hrr.lead (i := k) (by omega)
                  have hkp : k = posP L k0 := by
                    have h1 := c4
                    rw [hb] at h1
                    simp only [Bool.not_eq_true', decide_eq_false_iff_not] at h1
                    rcases Nat.lt_or_ge k (posP L k0) with h2 | h2
                    · have := hq2 k h2; omega
                    · omega
                  refine den_seq ?_
                  refine den_region TTok ?_
                  intro K hK
                  simp -implicitDefEqProofs (disch := first | decide | assumption | omega) only [go_sem, RdS.len rR sl36, RdS.idx rR sl36, RdS.cellB rR (Ext.pres eB), RdS.cells rR, RdS.len hr5 sl22, RdS.idx hr5 sl22, R1.intB hr5 (Ext.pres eB), RdS.cells hr5, RdS.len (OS.rd hL) sl36, RdS.idx (OS.rd hL) sl36, RdS.cellN (OS.rd hL), RdS.cells (OS.rd hL), RdS.len (OS.rd hS) sl22, RdS.idx (OS.rd hS) sl22, R1.intN (OS.rd hS), RdS.cells (OS.rd hS), wrap_id]
                  refine op_bs1 sz36 rfl (OS.one hS).2 ?_
                  try simp -implicitDefEqProofs (disch := first | decide | assumption | omega) only [go_sem, RdS.len rR sl36, RdS.idx rR sl36, RdS.cellB rR (Ext.pres eB), RdS.cells rR, RdS.len hr5 sl22, RdS.idx hr5 sl22, R1.intB hr5 (Ext.pres eB), RdS.cells hr5, RdS.len (OS.rd hL) sl36, RdS.idx (OS.rd hL) sl36, RdS.cellN (OS.rd hL), RdS.cells (OS.rd hL), RdS.len (OS.rd hS) sl22, RdS.idx (OS.rd hS) sl22, R1.intN (OS.rd hS), RdS.cells (OS.rd hS), wrap_id]
                  refine op_append1 sz36 hN hfhN.nodup (EB.bor (x := (ownP p L (R.getD i default))) (OS.one hS)) List.nodup_nil (Apart.nil _) (by first | omega | (simp; omega)) rfl rfl ?_
                  intro v18_3 h18_3 fp18_3 ho18_3 hn18_3 hs18_3 c18_3
                  have hsz18_3 := c18_3.size
                  have hfho18_3 : Fresh h9.size fp18_3 := Fresh.appd hfhN (Fresh.nil h13.size) (by omega) (by omega) hn18_3 hs18_3
                  have sb20 : Sub [h9.size] h13_0.size fp18_3 := Sub.grow sbhN Sub.nil (by omega) hs18_3
                  replace hL := OS.chg hL c18_3 (apart_lt hlhL hfhN (by omega))
                  replace hS := OS.chg hS c18_3 (apart_lt hlhS hfhN (by omega))
                  have := c18_3.size
                  replace eB := Ext.then eB c18_3 (ge_of hfhN (by omega))
                  replace cL2 := Chg.step cL2 c18_3 (Sub.fresh hfhN (by omega))
                  replace cL11 := Chg.step cL11 c18_3 sbhN
                  have hlho18_3 := OS.lt ho18_3
                  have hla18_3 : (nextT p L (ownP p L (R.getD i default)) k0 (posP L k0) vw5_6_0 k ++ [((ownP p L (R.getD i default)), some vw5_6_0)]).length = (nextT p L (ownP p L (R.getD i default)) k0 (posP L k0) vw5_6_0 k).length + 1 := by rw [List.length_append]; rfl
                  try simp -implicitDefEqProofs (disch := first | decide | assumption | omega) only [go_sem, RdS.len rR sl36, RdS.idx rR sl36, RdS.cellB rR (Ext.pres eB), RdS.cells rR, RdS.len hr5 sl22, RdS.idx hr5 sl22, R1.intB hr5 (Ext.pres eB), RdS.cells hr5, RdS.len (OS.rd hL) sl36, RdS.idx (OS.rd hL) sl36, RdS.cellN (OS.rd hL), RdS.cells (OS.rd hL), RdS.len (OS.rd hS) sl22, RdS.idx (OS.rd hS) sl22, R1.intN (OS.rd hS), RdS.cells (OS.rd hS), wrap_id]
                  refine hK _ _ ?_
                  clear hK K
                  refine den_region TTok ?_
                  intro K hK
                  simp -implicitDefEqProofs (disch := first | decide | assumption | omega) only [go_sem, RdS.len rR sl36, RdS.idx rR sl36, RdS.cellB rR (Ext.pres eB), RdS.cells rR, RdS.len hr5 sl22, RdS.idx hr5 sl22, R1.intB hr5 (Ext.pres eB), RdS.cells hr5, RdS.len (OS.rd hL) sl36, RdS.idx (OS.rd hL) sl36, RdS.cellN (OS.rd hL), RdS.cells (OS.rd hL), RdS.len (OS.rd hS) sl22, RdS.idx (OS.rd hS) sl22, R1.intN (OS.rd hS), RdS.cells (OS.rd hS), wrap_id]
                  refine hK _ _ ?_
                  clear hK K
                  have hLk := hrr.len k (by omega)
                  have hLb := hrr.bnd k (by omega)
                  have hkw := hok.lt
                  have hlk := hLb.at (k := k0) (by omega)
                  have hls : ((L.getD k default).length ≤ (ownP p L (R.getD i default)).length ∧ (L.getD k default).length ≤ 1000) ∧ Bnd p (L.getD k default) ∧ Bnd p (ownP p L (R.getD i default)) := ⟨by omega, hLb, hok.bnd⟩
                  refine den_draw TTok mixed [16] [(0, true), (1, true), (2, true), (3, true), (4, true), (5, true), (6, true), (7, true), (8, true), (9, true), (10, true), (11, true), (12, true), (13, true), (14, false), (15, false), (16, false), (17, true)] (by kernel_rfl) ?_
                  intro K hK
                  have hr21 := RdS.rowN (OS.rd hL) k (by omega)
                  have hlhr21 := RdS.le hr21
                  have xr22 := Ext.refl h18_3
                  have hr23 := RdS.rowN (OS.rd hL) k (by omega)
                  have hlhr23 := RdS.le hr23
                  have xr24 := Ext.refl h18_3
                  simp -implicitDefEqProofs (disch := first | decide | assumption | omega) only [go_sem, ld22, ld2, RdS.len rR sl36, RdS.idx rR sl36, RdS.cellB rR (Ext.pres eB), RdS.cells rR, RdS.len hr5 sl22, RdS.idx hr5 sl22, R1.intB hr5 (Ext.pres eB), RdS.cells hr5, RdS.len (OS.rd hL) sl36, RdS.idx (OS.rd hL) sl36, RdS.cellN (OS.rd hL), RdS.cells (OS.rd hL), RdS.len (OS.rd hS) sl22, RdS.idx (OS.rd hS) sl22, R1.intN (OS.rd hS), RdS.cells (OS.rd hS), RdS.len hr21 sl22, RdS.idx hr21 sl22, R1.intB hr21 (Ext.pres xr22), RdS.cells hr21, RdS.len hr23 sl22, RdS.idx hr23 sl22, R1.intB hr23 (Ext.pres xr24), RdS.cells hr23, wrap_id]
                  try simp -implicitDefEqProofs (disch := first | decide | assumption | omega) only [go_sem, RdS.len rR sl36, RdS.idx rR sl36, RdS.cellB rR (Ext.pres eB), RdS.cells rR, RdS.len hr5 sl22, RdS.idx hr5 sl22, R1.intB hr5 (Ext.pres eB), RdS.cells hr5, RdS.len (OS.rd hL) sl36, RdS.idx (OS.rd hL) sl36, RdS.cellN (OS.rd hL), RdS.cells (OS.rd hL), RdS.len (OS.rd hS) sl22, RdS.idx (OS.rd hS) sl22, R1.intN (OS.rd hS), RdS.cells (OS.rd hS), RdS.len hr21 sl22, RdS.idx hr21 sl22, R1.intB hr21 (Ext.pres xr22), RdS.cells hr21, RdS.len hr23 sl22, RdS.idx hr23 sl22, R1.intB hr23 (Ext.pres xr24), RdS.cells hr23, wrap_id]
                  refine CallA.mono (sLess_ok _ _ p ((L).getD k default) (ownP p L (R.getD i default)) (((L).getD k default).getD k0 0) _ (RdS.pres hr21 (Ext.pres xr22)) (OS.rd hS) (by omega) hls.1 hls.2.1 hls.2.2 (by omega)) ?_
                  intro vw20_14_0 h20_14
                  rintro ⟨zvw20_14_0, fw20_14_0, rfl, how20_14_0, hfw20_14_0, e20_14⟩
                  replace hL := OS.ext hL e20_14
                  replace hS := OS.ext hS e20_14
                  replace ho18_3 := OS.ext ho18_3 e20_14
                  have := Ext.size e20_14
                  replace eB := Ext.trans eB e20_14
                  replace xr22 := Ext.trans xr22 e20_14
                  replace xr24 := Ext.trans xr24 e20_14
                  replace cL2 := Chg.stepE cL2 e20_14
                  replace cL11 := Chg.stepE cL11 e20_14
                  have hlhow20_14_0 := OS.lt how20_14_0
                  try simp (disch := decide) only [outv_some, outv_none, put_puts]
                  refine plK_pres (Ext.pres e20_14) ?_
                  try simp -implicitDefEqProofs (disch := first | decide | assumption | omega) only [go_sem, RdS.len rR sl36, RdS.idx rR sl36, RdS.cellB rR (Ext.pres eB), RdS.cells rR, RdS.len hr5 sl22, RdS.idx hr5 sl22, R1.intB hr5 (Ext.pres eB), RdS.cells hr5, RdS.len (OS.rd hL) sl36, RdS.idx (OS.rd hL) sl36, RdS.cellN (OS.rd hL), RdS.cells (OS.rd hL), RdS.len (OS.rd hS) sl22, RdS.idx (OS.rd hS) sl22, R1.intN (OS.rd hS), RdS.cells (OS.rd hS), RdS.len (OS.rd how20_14_0) sl22, RdS.idx (OS.rd how20_14_0) sl22, R1.intN (OS.rd how20_14_0), RdS.cells (OS.rd how20_14_0), RdS.len hr21 sl22, RdS.idx hr21 sl22, R1.intB hr21 (Ext.pres xr22), RdS.cells hr21, RdS.len hr23 sl22, RdS.idx hr23 sl22, R1.intB hr23 (Ext.pres xr24), RdS.cells hr23, wrap_id]
                  refine op_bs1 sz36 rfl (OS.one how20_14_0).2 ?_
                  try simp (disch := decide) only [outv_some, outv_none, put_puts]
                  refine plK_pres (Ext.pres (Ext.push _ _)) ?_
                  try simp -implicitDefEqProofs (disch := first | decide | assumption | omega) only [go_sem, RdS.len rR sl36, RdS.idx rR sl36, RdS.cellB rR (Ext.pres eB), RdS.cells rR, RdS.len hr5 sl22, RdS.idx hr5 sl22, R1.intB hr5 (Ext.pres eB), RdS.cells hr5, RdS.len (OS.rd hL) sl36, RdS.idx (OS.rd hL) sl36, RdS.cellN (OS.rd hL), RdS.cells (OS.rd hL), RdS.len (OS.rd hS) sl22, RdS.idx (OS.rd hS) sl22, R1.intN (OS.rd hS), RdS.cells (OS.rd hS), RdS.len (OS.rd how20_14_0) sl22, RdS.idx (OS.rd how20_14_0) sl22, R1.intN (OS.rd how20_14_0), RdS.cells (OS.rd how20_14_0), RdS.len hr21 sl22, RdS.idx hr21 sl22, R1.intB hr21 (Ext.pres xr22), RdS.cells hr21, RdS.len hr23 sl22, RdS.idx hr23 sl22, R1.intB hr23 (Ext.pres xr24), RdS.cells hr23, wrap_id]
                  refine op_append1 sz36 ho18_3 hfho18_3.nodup (EB.own how20_14_0) hfw20_14_0.nodup (apart_lt hlho18_3 hfw20_14_0 (by omega)) (by first | omega | (simp; omega)) rfl rfl ?_
                  intro v20_16 h20_16 fp20_16 ho20_16 hn20_16 hs20_16 c20_16
                  have hsz20_16 := c20_16.size
                  have hfho20_16 : Fresh h9.size fp20_16 := Fresh.appd hfho18_3 hfw20_14_0 (by omega) (by omega) hn20_16 hs20_16
                  have sb25 : Sub [h9.size] h13_0.size fp20_16 := Sub.grow sb20 (Sub.fresh hfw20_14_0 (by omega)) (by omega) hs20_16
                  replace hL := OS.chg hL c20_16 (apart_lt hlhL hfho18_3 (by omega))
                  replace hS := OS.chg hS c20_16 (apart_lt hlhS hfho18_3 (by omega))
                  have := c20_16.size
                  replace eB := Ext.then eB c20_16 (ge_of hfho18_3 (by omega))
                  replace cL2 := Chg.step cL2 c20_16 (Sub.fresh hfho18_3 (by omega))
                  replace cL11 := Chg.step cL11 c20_16 sb20
                  have hlho20_16 := OS.lt ho20_16
                  change O2B _ _ (nextT p L (ownP p L (R.getD i default)) k0 (posP L k0) vw5_6_0 k ++ [((ownP p L (R.getD i default)), some vw5_6_0)] ++ [(redR p (ownP p L (R.getD i default)) k0 (L.getD k default), none)]) _ at ho20_16
                  try simp (disch := decide) only [outv_some, outv_none, put_puts]
                  refine plK_last (by decide) ?_
                  try simp -implicitDefEqProofs (disch := first | decide | assumption | omega) only [go_sem, RdS.len rR sl36, RdS.idx rR sl36, RdS.cellB rR (Ext.pres eB), RdS.cells rR, RdS.len hr5 sl22, RdS.idx hr5 sl22, R1.intB hr5 (Ext.pres eB), RdS.cells hr5, RdS.len (OS.rd hL) sl36, RdS.idx (OS.rd hL) sl36, RdS.cellN (OS.rd hL), RdS.cells (OS.rd hL), RdS.len (OS.rd hS) sl22, RdS.idx (OS.rd hS) sl22, R1.intN (OS.rd hS), RdS.cells (OS.rd hS), wrap_id]
                  refine hK _ _ ?_
                  clear hK K
                  refine den_blk ?_
                  refine den_region TTok ?_
                  intro K hK
                  simp -implicitDefEqProofs (disch := first | decide | assumption | omega) only [go_sem, RdS.len rR sl36, RdS.idx rR sl36, RdS.cellB rR (Ext.pres eB), RdS.cells rR, RdS.len hr5 sl22, RdS.idx hr5 sl22, R1.intB hr5 (Ext.pres eB), RdS.cells hr5, RdS.len (OS.rd hL) sl36, RdS.idx (OS.rd hL) sl36, RdS.cellN (OS.rd hL), RdS.cells (OS.rd hL), RdS.len (OS.rd hS) sl22, RdS.idx (OS.rd hS) sl22, R1.intN (OS.rd hS), RdS.cells (OS.rd hS), wrap_id]
                  refine hK _ _ ?_
                  clear hK K
                  refine den_stop ?_
                  first | rw [nextT_at (by omega) hkp] at ho20_16 | rw [nextT_step (by omega) hkp] at ho20_16
                  exact ⟨(k + 1, true, v20_16, fp20_16), by simp [HasL, puts_at], ⟨by dsimp only; omega, (decide_eq_true (by omega)).symm, ho20_16, hfho20_16, sb25, cL11⟩, by first | omega | (dsimp only; omega)⟩
                · try simp only [decide_eq_true_eq, decide_eq_false_iff_not, beq_iff_eq, beq_eq_false_iff_ne, bne_iff_ne, ne_eq, Bool.not_eq_true', Bool.not_eq_false', Bool.and_eq_true, Bool.or_eq_true, bne_eq_false_iff_eq] at c4
                  have hld := hrr.lead (i := k) (by omega)
                  have hkp : k ≠ posP L k0 := fun he => by
                    have h1 := c4
                    rw [hb] at h1
                    have h2 := hq3 k (by omega) (by omega)
                    have h3 := hok.ne (i := k) (by omega)
                    rcases Bool.and_eq_false_iff.1 h1 with h4 | h4
                    · simp only [Bool.not_eq_false', decide_eq_true_eq] at h4; omega
                    · simp only [decide_eq_false_iff_not] at h4; omega
                  refine den_skip ?_
                  have hLk := hrr.len k (by omega)
                  have hLb := hrr.bnd k (by omega)
                  have hkw := hok.lt
                  have hlk := hLb.at (k := k0) (by omega)
                  have hls : ((L.getD k default).length ≤ (ownP p L (R.getD i default)).length ∧ (L.getD k default).length ≤ 1000) ∧ Bnd p (L.getD k default) ∧ Bnd p (ownP p L (R.getD i default)) := ⟨by omega, hLb, hok.bnd⟩
                  refine den_draw TTok mixed [16] [(0, true), (1, true), (2, true), (3, true), (4, true), (5, true), (6, true), (7, true), (8, true), (9, true), (10, true), (11, true), (12, true), (13, true), (14, false), (15, false), (16, false), (17, true)] (by kernel_rfl) ?_
                  intro K hK
                  have hr26 := RdS.rowN (OS.rd hL) k (by omega)
                  have hlhr26 := RdS.le hr26
                  have xr27 := Ext.refl h13
                  have hr28 := RdS.rowN (OS.rd hL) k (by omega)
                  have hlhr28 := RdS.le hr28
                  have xr29 := Ext.refl h13
                  simp -implicitDefEqProofs (disch := first | decide | assumption | omega) only [go_sem, ld22, ld2, RdS.len rR sl36, RdS.idx rR sl36, RdS.cellB rR (Ext.pres eB), RdS.cells rR, RdS.len hr5 sl22, RdS.idx hr5 sl22, R1.intB hr5 (Ext.pres eB), RdS.cells hr5, RdS.len (OS.rd hL) sl36, RdS.idx (OS.rd hL) sl36, RdS.cellN (OS.rd hL), RdS.cells (OS.rd hL), RdS.len (OS.rd hS) sl22, RdS.idx (OS.rd hS) sl22, R1.intN (OS.rd hS), RdS.cells (OS.rd hS), RdS.len hr26 sl22, RdS.idx hr26 sl22, R1.intB hr26 (Ext.pres xr27), RdS.cells hr26, RdS.len hr28 sl22, RdS.idx hr28 sl22, R1.intB hr28 (Ext.pres xr29), RdS.cells hr28, wrap_id]
                  try simp -implicitDefEqProofs (disch := first | decide | assumption | omega) only [go_sem, RdS.len rR sl36, RdS.idx rR sl36, RdS.cellB rR (Ext.pres eB), RdS.cells rR, RdS.len hr5 sl22, RdS.idx hr5 sl22, R1.intB hr5 (Ext.pres eB), RdS.cells hr5, RdS.len (OS.rd hL) sl36, RdS.idx (OS.rd hL) sl36, RdS.cellN (OS.rd hL), RdS.cells (OS.rd hL), RdS.len (OS.rd hS) sl22, RdS.idx (OS.rd hS) sl22, R1.intN (OS.rd hS), RdS.cells (OS.rd hS), RdS.len hr26 sl22, RdS.idx hr26 sl22, R1.intB hr26 (Ext.pres xr27), RdS.cells hr26, RdS.len hr28 sl22, RdS.idx hr28 sl22, R1.intB hr28 (Ext.pres xr29), RdS.cells hr28, wrap_id]
                  refine CallA.mono (sLess_ok _ _ p ((L).getD k default) (ownP p L (R.getD i default)) (((L).getD k default).getD k0 0) _ (RdS.pres hr26 (Ext.pres xr27)) (OS.rd hS) (by omega) hls.1 hls.2.1 hls.2.2 (by omega)) ?_
                  intro vw20_14_1_0 h20_14_1
                  rintro ⟨zvw20_14_1_0, fw20_14_1_0, rfl, how20_14_1_0, hfw20_14_1_0, e20_14_1⟩
                  replace hL := OS.ext hL e20_14_1
                  replace hS := OS.ext hS e20_14_1
                  replace hN := OS.ext hN e20_14_1
                  have := Ext.size e20_14_1
                  replace eB := Ext.trans eB e20_14_1
                  replace xr27 := Ext.trans xr27 e20_14_1
                  replace xr29 := Ext.trans xr29 e20_14_1
                  replace cL2 := Chg.stepE cL2 e20_14_1
                  replace cL11 := Chg.stepE cL11 e20_14_1
                  have hlhow20_14_1_0 := OS.lt how20_14_1_0
                  try simp (disch := decide) only [outv_some, outv_none, put_puts]
                  refine plK_pres (Ext.pres e20_14_1) ?_
                  try simp -implicitDefEqProofs (disch := first | decide | assumption | omega) only [go_sem, RdS.len rR sl36, RdS.idx rR sl36, RdS.cellB rR (Ext.pres eB), RdS.cells rR, RdS.len hr5 sl22, RdS.idx hr5 sl22, R1.intB hr5 (Ext.pres eB), RdS.cells hr5, RdS.len (OS.rd hL) sl36, RdS.idx (OS.rd hL) sl36, RdS.cellN (OS.rd hL), RdS.cells (OS.rd hL), RdS.len (OS.rd hS) sl22, RdS.idx (OS.rd hS) sl22, R1.intN (OS.rd hS), RdS.cells (OS.rd hS), RdS.len (OS.rd how20_14_1_0) sl22, RdS.idx (OS.rd how20_14_1_0) sl22, R1.intN (OS.rd how20_14_1_0), RdS.cells (OS.rd how20_14_1_0), RdS.len hr26 sl22, RdS.idx hr26 sl22, R1.intB hr26 (Ext.pres xr27), RdS.cells hr26, RdS.len hr28 sl22, RdS.idx hr28 sl22, R1.intB hr28 (Ext.pres xr29), RdS.cells hr28, wrap_id]
                  refine op_bs1 sz36 rfl (OS.one how20_14_1_0).2 ?_
                  try simp (disch := decide) only [outv_some, outv_none, put_puts]
                  refine plK_pres (Ext.pres (Ext.push _ _)) ?_
                  try simp -implicitDefEqProofs (disch := first | decide | assumption | omega) only [go_sem, RdS.len rR sl36, RdS.idx rR sl36, RdS.cellB rR (Ext.pres eB), RdS.cells rR, RdS.len hr5 sl22, RdS.idx hr5 sl22, R1.intB hr5 (Ext.pres eB), RdS.cells hr5, RdS.len (OS.rd hL) sl36, RdS.idx (OS.rd hL) sl36, RdS.cellN (OS.rd hL), RdS.cells (OS.rd hL), RdS.len (OS.rd hS) sl22, RdS.idx (OS.rd hS) sl22, R1.intN (OS.rd hS), RdS.cells (OS.rd hS), RdS.len (OS.rd how20_14_1_0) sl22, RdS.idx (OS.rd how20_14_1_0) sl22, R1.intN (OS.rd how20_14_1_0), RdS.cells (OS.rd how20_14_1_0), RdS.len hr26 sl22, RdS.idx hr26 sl22, R1.intB hr26 (Ext.pres xr27), RdS.cells hr26, RdS.len hr28 sl22, RdS.idx hr28 sl22, R1.intB hr28 (Ext.pres xr29), RdS.cells hr28, wrap_id]
                  refine op_append1 sz36 hN hfhN.nodup (EB.own how20_14_1_0) hfw20_14_1_0.nodup (apart_lt hlhN hfw20_14_1_0 (by omega)) (by first | omega | (simp; omega)) rfl rfl ?_
                  intro v20_16_1 h20_16_1 fp20_16_1 ho20_16_1 hn20_16_1 hs20_16_1 c20_16_1
                  have hsz20_16_1 := c20_16_1.size
                  have hfho20_16_1 : Fresh h9.size fp20_16_1 := Fresh.appd hfhN hfw20_14_1_0 (by omega) (by omega) hn20_16_1 hs20_16_1
                  have sb30 : Sub [h9.size] h13_0.size fp20_16_1 := Sub.grow sbhN (Sub.fresh hfw20_14_1_0 (by omega)) (by omega) hs20_16_1
                  replace hL := OS.chg hL c20_16_1 (apart_lt hlhL hfhN (by omega))
                  replace hS := OS.chg hS c20_16_1 (apart_lt hlhS hfhN (by omega))
                  have := c20_16_1.size
                  replace eB := Ext.then eB c20_16_1 (ge_of hfhN (by omega))
                  replace cL2 := Chg.step cL2 c20_16_1 (Sub.fresh hfhN (by omega))
                  replace cL11 := Chg.step cL11 c20_16_1 sbhN
                  have hlho20_16_1 := OS.lt ho20_16_1
                  change O2B _ _ (nextT p L (ownP p L (R.getD i default)) k0 (posP L k0) vw5_6_0 k ++ [(redR p (ownP p L (R.getD i default)) k0 (L.getD k default), none)]) _ at ho20_16_1
                  try simp (disch := decide) only [outv_some, outv_none, put_puts]
                  refine plK_last (by decide) ?_
                  try simp -implicitDefEqProofs (disch := first | decide | assumption | omega) only [go_sem, RdS.len rR sl36, RdS.idx rR sl36, RdS.cellB rR (Ext.pres eB), RdS.cells rR, RdS.len hr5 sl22, RdS.idx hr5 sl22, R1.intB hr5 (Ext.pres eB), RdS.cells hr5, RdS.len (OS.rd hL) sl36, RdS.idx (OS.rd hL) sl36, RdS.cellN (OS.rd hL), RdS.cells (OS.rd hL), RdS.len (OS.rd hS) sl22, RdS.idx (OS.rd hS) sl22, R1.intN (OS.rd hS), RdS.cells (OS.rd hS), wrap_id]
                  refine hK _ _ ?_
                  clear hK K
                  refine den_blk ?_
                  refine den_region TTok ?_
                  intro K hK
                  simp -implicitDefEqProofs (disch := first | decide | assumption | omega) only [go_sem, RdS.len rR sl36, RdS.idx rR sl36, RdS.cellB rR (Ext.pres eB), RdS.cells rR, RdS.len hr5 sl22, RdS.idx hr5 sl22, R1.intB hr5 (Ext.pres eB), RdS.cells hr5, RdS.len (OS.rd hL) sl36, RdS.idx (OS.rd hL) sl36, RdS.cellN (OS.rd hL), RdS.cells (OS.rd hL), RdS.len (OS.rd hS) sl22, RdS.idx (OS.rd hS) sl22, R1.intN (OS.rd hS), RdS.cells (OS.rd hS), wrap_id]
                  refine hK _ _ ?_
                  clear hK K
                  refine den_stop ?_
                  first | rw [nextT_at (by omega) hkp] at ho20_16_1 | rw [nextT_step (by omega) hkp] at ho20_16_1
                  exact ⟨(k + 1, b, v20_16_1, fp20_16_1), by simp [HasL, puts_at], ⟨by dsimp only; omega, (hb.trans (decide_eq_decide.2 (by omega))), ho20_16_1, hfho20_16_1, sb30, cL11⟩, by first | omega | (dsimp only; omega)⟩
              · try simp only [decide_eq_true_eq, decide_eq_false_iff_not, beq_iff_eq, beq_eq_false_iff_ne, bne_iff_ne, ne_eq, Bool.not_eq_true', Bool.not_eq_false', Bool.and_eq_true, Bool.or_eq_true, bne_eq_false_iff_eq] at c3
                refine den_exit ?_
                refine denX_code ?_
                refine denX_stop ?_
                refine denX_hit ?_
                refine den_seq ?_
                refine den_seq ?_
                refine den_region TTok ?_
                intro K hK
                simp -implicitDefEqProofs (disch := first | decide | assumption | omega) only [go_sem, RdS.len rR sl36, RdS.idx rR sl36, RdS.cellB rR (Ext.pres eB), RdS.cells rR, RdS.len hr5 sl22, RdS.idx hr5 sl22, R1.intB hr5 (Ext.pres eB), RdS.cells hr5, RdS.len (OS.rd hS) sl22, RdS.idx (OS.rd hS) sl22, R1.intN (OS.rd hS), RdS.cells (OS.rd hS), wrap_id]
                refine hK _ _ ?_
                clear hK K
                refine den_cond rfl (fun c5 => ?_) (fun c5 => ?_)
                · try simp only [decide_eq_true_eq, decide_eq_false_iff_not, beq_iff_eq, beq_eq_false_iff_ne, bne_iff_ne, ne_eq, Bool.not_eq_true', Bool.not_eq_false', Bool.and_eq_true, Bool.or_eq_true, bne_eq_false_iff_eq] at c5
                  have hkp : k ≤ posP L k0 := by
                    have h1 := hb.symm.trans (show b = false by simpa using c5)
                    simp only [decide_eq_false_iff_not] at h1
                    omega
                  refine den_region TTok ?_
                  intro K hK
                  simp -implicitDefEqProofs (disch := first | decide | assumption | omega) only [go_sem, RdS.len rR sl36, RdS.idx rR sl36, RdS.cellB rR (Ext.pres eB), RdS.cells rR, RdS.len hr5 sl22, RdS.idx hr5 sl22, R1.intB hr5 (Ext.pres eB), RdS.cells hr5, RdS.len (OS.rd hS) sl22, RdS.idx (OS.rd hS) sl22, R1.intN (OS.rd hS), RdS.cells (OS.rd hS), wrap_id]
                  refine op_bs1 sz36 rfl (OS.one hS).2 ?_
                  try simp -implicitDefEqProofs (disch := first | decide | assumption | omega) only [go_sem, RdS.len rR sl36, RdS.idx rR sl36, RdS.cellB rR (Ext.pres eB), RdS.cells rR, RdS.len hr5 sl22, RdS.idx hr5 sl22, R1.intB hr5 (Ext.pres eB), RdS.cells hr5, RdS.len (OS.rd hS) sl22, RdS.idx (OS.rd hS) sl22, R1.intN (OS.rd hS), RdS.cells (OS.rd hS), wrap_id]
                  refine op_append1 sz36 hN hfhN.nodup (EB.bor (x := (ownP p L (R.getD i default))) (OS.one hS)) List.nodup_nil (Apart.nil _) (by first | omega | (simp; omega)) rfl rfl ?_
                  intro v22_3 h22_3 fp22_3 ho22_3 hn22_3 hs22_3 c22_3
                  have hsz22_3 := c22_3.size
                  have hfho22_3 : Fresh h9.size fp22_3 := Fresh.appd hfhN (Fresh.nil h13.size) (by omega) (by omega) hn22_3 hs22_3
                  replace hS := OS.chg hS c22_3 (apart_lt hlhS hfhN (by omega))
                  have := c22_3.size
                  replace eB := Ext.then eB c22_3 (ge_of hfhN (by omega))
                  replace cL2 := Chg.step cL2 c22_3 (Sub.fresh hfhN (by omega))
                  have hlho22_3 := OS.lt ho22_3
                  have hla22_3 : (nextT p L (ownP p L (R.getD i default)) k0 (posP L k0) vw5_6_0 k ++ [((ownP p L (R.getD i default)), some vw5_6_0)]).length = (nextT p L (ownP p L (R.getD i default)) k0 (posP L k0) vw5_6_0 k).length + 1 := by rw [List.length_append]; rfl
                  try simp -implicitDefEqProofs (disch := first | decide | assumption | omega) only [go_sem, RdS.len rR sl36, RdS.idx rR sl36, RdS.cellB rR (Ext.pres eB), RdS.cells rR, RdS.len hr5 sl22, RdS.idx hr5 sl22, R1.intB hr5 (Ext.pres eB), RdS.cells hr5, RdS.len (OS.rd hS) sl22, RdS.idx (OS.rd hS) sl22, R1.intN (OS.rd hS), RdS.cells (OS.rd hS), wrap_id]
                  refine hK _ _ ?_
                  clear hK K
                  rw [nextT_end1 (by omega) (by omega)] at ho22_3
                  obtain ⟨fpJ, hoJ, hnJ, huJ⟩ := OB.join ho22_3 hfho22_3.nodup hS hfhS.nodup (apart_gt hfho22_3 hlhS (by omega)) (by rw [putT_len hq1]; omega) (putT_at hq1) (fun j hj hne => putT_other hq1 hj hne)
                  rw [putT_fst] at hoJ
                  have hfhoJ : Fresh (h4.size) fpJ := Fresh.appd (hfho22_3.mono (by omega)) hfhS (by omega) (by omega) hnJ (fun b hb => (huJ b hb).elim .inl (fun h => .inr (.inl h)) : ∀ b ∈ fpJ, b ∈ fp22_3 ∨ b ∈ fw5_6_0 ∨ h22_3.size ≤ b)
                  have sb31 : Sub [h.size] h1_0.size fpJ := Sub.grow (Sub.fresh hfho22_3 (by omega)) (Sub.fresh hfhS (by omega)) (by omega) (fun b hb => (huJ b hb).elim .inl (fun h => .inr (.inl h)) : ∀ b ∈ fpJ, b ∈ fp22_3 ∨ b ∈ fw5_6_0 ∨ h22_3.size ≤ b)
                  have hlhoJ := OS.lt hoJ
                  refine den_region TTok ?_
                  intro K hK
                  simp -implicitDefEqProofs (disch := first | decide | assumption | omega) only [go_sem, RdS.len rR sl36, RdS.idx rR sl36, RdS.cellB rR (Ext.pres eB), RdS.cells rR, RdS.len hr5 sl22, RdS.idx hr5 sl22, R1.intB hr5 (Ext.pres eB), RdS.cells hr5, RdS.len (OS.rd hoJ) sl36, RdS.idx (OS.rd hoJ) sl36, RdS.cellN (OS.rd hoJ), RdS.cells (OS.rd hoJ), wrap_id]
                  refine hK _ _ ?_
                  clear hK K
                  refine den_blk ?_
                  refine den_region TTok ?_
                  intro K hK
                  simp -implicitDefEqProofs (disch := first | decide | assumption | omega) only [go_sem, RdS.len rR sl36, RdS.idx rR sl36, RdS.cellB rR (Ext.pres eB), RdS.cells rR, RdS.len hr5 sl22, RdS.idx hr5 sl22, R1.intB hr5 (Ext.pres eB), RdS.cells hr5, RdS.len (OS.rd hoJ) sl36, RdS.idx (OS.rd hoJ) sl36, RdS.cellN (OS.rd hoJ), RdS.cells (OS.rd hoJ), wrap_id]
                  refine hK _ _ ?_
                  clear hK K
                  refine den_stop ?_
                  exact ⟨(i + 1, putP p L (ownP p L (R.getD i default)) k0 (posP L k0), v22_3, fpJ), by simp [HasL, puts_at], ⟨(by rw [take_snoc (by omega)]; exact Red.put hred hP hrv.1 hrb hke), by dsimp only; omega, hoJ, (hfhoJ.mono (by omega)), sb31, cL2⟩, by first | omega | (dsimp only; omega)⟩
                · try simp only [decide_eq_true_eq, decide_eq_false_iff_not, beq_iff_eq, beq_eq_false_iff_ne, bne_iff_ne, ne_eq, Bool.not_eq_true', Bool.not_eq_false', Bool.and_eq_true, Bool.or_eq_true, bne_eq_false_iff_eq] at c5
                  have hkp : posP L k0 < k := by
                    have h1 := hb.symm.trans (show b = true by simpa using c5)
                    simpa only [decide_eq_true_eq] using h1
                  refine den_skip ?_
                  rw [nextT_end2 (by omega) (by omega)] at hN
                  obtain ⟨fpJ, hoJ, hnJ, huJ⟩ := OB.join hN hfhN.nodup hS hfhS.nodup (apart_gt hfhN hlhS (by omega)) (by rw [putT_len hq1]; omega) (putT_at hq1) (fun j hj hne => putT_other hq1 hj hne)
                  rw [putT_fst] at hoJ
                  have hfhoJ : Fresh (h4.size) fpJ := Fresh.appd (hfhN.mono (by omega)) hfhS (by omega) (by omega) hnJ (fun b hb => (huJ b hb).elim .inl (fun h => .inr (.inl h)) : ∀ b ∈ fpJ, b ∈ fphN ∨ b ∈ fw5_6_0 ∨ h13.size ≤ b)
                  have sb32 : Sub [h.size] h1_0.size fpJ := Sub.grow (Sub.fresh hfhN (by omega)) (Sub.fresh hfhS (by omega)) (by omega) (fun b hb => (huJ b hb).elim .inl (fun h => .inr (.inl h)) : ∀ b ∈ fpJ, b ∈ fphN ∨ b ∈ fw5_6_0 ∨ h13.size ≤ b)
                  have hlhoJ := OS.lt hoJ
                  refine den_region TTok ?_
                  intro K hK
                  simp -implicitDefEqProofs (disch := first | decide | assumption | omega) only [go_sem, RdS.len rR sl36, RdS.idx rR sl36, RdS.cellB rR (Ext.pres eB), RdS.cells rR, RdS.len hr5 sl22, RdS.idx hr5 sl22, R1.intB hr5 (Ext.pres eB), RdS.cells hr5, RdS.len (OS.rd hoJ) sl36, RdS.idx (OS.rd hoJ) sl36, RdS.cellN (OS.rd hoJ), RdS.cells (OS.rd hoJ), wrap_id]
                  refine hK _ _ ?_
                  clear hK K
                  refine den_blk ?_
                  refine den_region TTok ?_
                  intro K hK
                  simp -implicitDefEqProofs (disch := first | decide | assumption | omega) only [go_sem, RdS.len rR sl36, RdS.idx rR sl36, RdS.cellB rR (Ext.pres eB), RdS.cells rR, RdS.len hr5 sl22, RdS.idx hr5 sl22, R1.intB hr5 (Ext.pres eB), RdS.cells hr5, RdS.len (OS.rd hoJ) sl36, RdS.idx (OS.rd hoJ) sl36, RdS.cellN (OS.rd hoJ), RdS.cells (OS.rd hoJ), wrap_id]
                  refine hK _ _ ?_
                  clear hK K
                  refine den_stop ?_
                  exact ⟨(i + 1, putP p L (ownP p L (R.getD i default)) k0 (posP L k0), vhN, fpJ), by simp [HasL, puts_at], ⟨(by rw [take_snoc (by omega)]; exact Red.put hred hP hrv.1 hrb hke), by dsimp only; omega, hoJ, (hfhoJ.mono (by omega)), sb32, cL2⟩, by first | omega | (dsimp only; omega)⟩
    · try simp only [decide_eq_true_eq, decide_eq_false_iff_not, beq_iff_eq, beq_eq_false_iff_ne, bne_iff_ne, ne_eq, Bool.not_eq_true', Bool.not_eq_false', Bool.and_eq_true, Bool.or_eq_true, bne_eq_false_iff_eq] at c0
      refine den_exit ?_
      refine denX_code ?_
      refine denX_stop ?_
      refine denX_hit ?_
      refine den_seq ?_
      refine den_region TTok ?_
      intro K hK
      simp -implicitDefEqProofs (disch := first | decide | assumption | omega) only [go_sem, RdS.len rR sl36, RdS.idx rR sl36, RdS.cellB rR (Ext.pres eB), RdS.cells rR, RdS.len (OS.rd hL) sl36, RdS.idx (OS.rd hL) sl36, RdS.cellN (OS.rd hL), RdS.cells (OS.rd hL), wrap_id]
      refine hK _ _ ?_
      clear hK K
      refine den_ret ?_
      simp (disch := decide) only [resP_1, puts_same, puts_ne]
      have hec : ech p R = L := Red.ech hP hT (by rw [List.take_of_length_le (by omega)] at hred; exact hred)
      rw [hec]
      exact ⟨_, _, rfl, hL, hfhL.mono (by omega), eB⟩

end Go.Proofs.Ytbplnadngahgaaa
