/-
  Walks: tables that are updated.
  Conditions: each theorem's own.
-/
import Derived.Test.YtacajcjibhifmaaDoorC2
set_option linter.unusedVariables false
set_option linter.unusedSimpArgs false
namespace Go.Proofs.YtacajcjibhifmaaDoor
open Go
/-- A function that is called for each number updates a table of one's own. -/
structure ORel (p : Int) (h0 : Heap) (vw : Value) (fw : List Nat) (L : Nat) (A B : Nat → Nat) (Ot : Heap → Prop) (s : M3) (H : Heap) : Prop where
  o : O3 H vw s fw
  sh : Sh L A B s
  i3 : In3 p L A B s
  e : Ext h0 H
  ot : Ot H
section
variable {U : UF} {τ : Nat → Nat → Nat → Nat × Nat × Nat} {ω : Nat → Nat → Nat → Int → Int}
theorem sumT_one (hU : ∀ k i j v, U k i j v = [(τ k i j, ω k i j v)]) (t : Nat × Nat × Nat) (k i j : Nat) (v : Int) : sumT t (U k i j v) = if τ k i j = t then ω k i j v else 0 := by
  rw [hU, sumT, sumT, Int.add_zero]
theorem sumT_uJ (hU : ∀ k i j v, U k i j v = [(τ k i j, ω k i j v)]) {t : Nat × Nat × Nat} {k i k0 i0 j0 : Nat} {row : List Int} (ht : τ k0 i0 j0 = t) : ∀ m, (∀ j, j < m → τ k i j = t → k = k0 ∧ i = i0 ∧ j = j0) → sumT t (uJ U k i row m) = if k = k0 ∧ i = i0 ∧ j0 < m then ω k0 i0 j0 (row.getD j0 0) else 0
  | 0, _ => by rw [uJ, sumT, if_neg (by omega)]
  | m + 1, h => by
    rw [uJ, sumT_app, sumT_uJ hU ht m (fun j hj => h j (by omega)), sumT_one hU]
    by_cases hc : τ k i m = t
    · obtain ⟨rfl, rfl, rfl⟩ := h m (by omega) hc
      rw [if_neg (by omega), if_pos hc, if_pos ⟨rfl, rfl, by omega⟩, Int.zero_add]
    · rw [if_neg hc, Int.add_zero]
      by_cases h1 : k = k0 ∧ i = i0 ∧ j0 < m
      · rw [if_pos h1, if_pos ⟨h1.1, h1.2.1, by omega⟩]
      · rw [if_neg h1, if_neg]
        rintro ⟨rfl, rfl, h2⟩
        exact hc (by rw [show m = j0 by omega]; exact ht)
theorem sumT_uI (hU : ∀ k i j v, U k i j v = [(τ k i j, ω k i j v)]) {t : Nat × Nat × Nat} {k k0 i0 j0 : Nat} {R : List (List Int)} (ht : τ k0 i0 j0 = t) : ∀ m, (∀ i, i < m → ∀ j, j < (R.getD i default).length → τ k i j = t → k = k0 ∧ i = i0 ∧ j = j0) → (k = k0 → j0 < (R.getD i0 default).length) → sumT t (uI U k R m) = if k = k0 ∧ i0 < m then ω k0 i0 j0 ((R.getD i0 default).getD j0 0) else 0
  | 0, _, _ => by rw [uI, sumT, if_neg (by omega)]
  | m + 1, h, hj0 => by
    rw [uI, sumT_app, sumT_uI hU ht m (fun i hi => h i (by omega)) hj0, sumT_uJ hU ht _ (h m (by omega))]
    by_cases hk : k = k0
    · by_cases hm : m = i0
      · subst hm
        rw [if_neg (by omega), if_pos ⟨hk, rfl, hj0 hk⟩, if_pos ⟨hk, by omega⟩, Int.zero_add]
      · have e2 : ¬ (k = k0 ∧ m = i0 ∧ j0 < (R.getD m default).length) := fun e => hm e.2.1
        rw [if_neg e2, Int.add_zero]
        by_cases h1 : i0 < m
        · rw [if_pos ⟨hk, h1⟩, if_pos ⟨hk, by omega⟩]
        · rw [if_neg (by omega), if_neg (by omega)]
    · rw [if_neg (fun e => hk e.1), if_neg (fun e => hk e.1), if_neg (fun e => hk e.1), Int.add_zero]
theorem sumT_uK (hU : ∀ k i j v, U k i j v = [(τ k i j, ω k i j v)]) {t : Nat × Nat × Nat} {k0 i0 j0 : Nat} {M : M3} (ht : τ k0 i0 j0 = t) : ∀ m, (∀ k, k < m → ∀ i, i < (M.getD k default).length → ∀ j, j < ((M.getD k default).getD i default).length → τ k i j = t → k = k0 ∧ i = i0 ∧ j = j0) → i0 < (M.getD k0 default).length → j0 < ((M.getD k0 default).getD i0 default).length → sumT t (uK U M m) = if k0 < m then ω k0 i0 j0 (((M.getD k0 default).getD i0 default).getD j0 0) else 0
  | 0, _, _, _ => by rw [uK, sumT, if_neg (by omega)]
  | m + 1, h, hi0, hj0 => by
    rw [uK, sumT_app, sumT_uK hU ht m (fun k hk => h k (by omega)) hi0 hj0, sumT_uI hU ht _ (h m (by omega)) (fun e => by rw [e]; exact hj0)]
    by_cases hm : m = k0
    · subst hm
      rw [if_neg (by omega), if_pos ⟨rfl, hi0⟩, if_pos (by omega), Int.zero_add]
    · have e2 : ¬ (m = k0 ∧ i0 < (M.getD m default).length) := fun e => hm e.1
      rw [if_neg e2, Int.add_zero]
      by_cases h1 : k0 < m
      · rw [if_pos h1, if_pos (by omega)]
      · rw [if_neg h1, if_neg (by omega)]
theorem sumT_none (hU : ∀ k i j v, U k i j v = [(τ k i j, ω k i j v)]) {t : Nat × Nat × Nat} {M : M3} (h : ∀ k, k < M.length → ∀ i, i < (M.getD k default).length → ∀ j, j < ((M.getD k default).getD i default).length → τ k i j ≠ t) : sumT t (uK U M M.length) = 0 := by
  have hJ : ∀ k i row m, (∀ j, j < m → τ k i j ≠ t) → sumT t (uJ U k i row m) = 0 := by
    intro k i row m
    induction m with
    | zero => intro _; rfl
    | succ m ih => intro hh; rw [uJ, sumT_app, ih (fun j hj => hh j (by omega)), sumT_one hU, if_neg (hh m (by omega))]; rfl
  have hI : ∀ k R m, (∀ i, i < m → ∀ j, j < (R.getD i default).length → τ k i j ≠ t) → sumT t (uI U k R m) = 0 := by
    intro k R m
    induction m with
    | zero => intro _; rfl
    | succ m ih => intro hh; rw [uI, sumT_app, ih (fun i hi => hh i (by omega)), hJ _ _ _ _ (hh m (by omega))]; rfl
  have hK : ∀ m, m ≤ M.length → sumT t (uK U M m) = 0 := by
    intro m
    induction m with
    | zero => intro _; rfl
    | succ m ih => intro hh; rw [uK, sumT_app, ih (by omega), hI _ _ _ (h m (by omega))]; rfl
  exact hK _ (Nat.le_refl _)
end
theorem uK_all {U : UF} {M : M3} {Q : Upd → Prop} (h : ∀ k i j, k < M.length → i < (M.getD k default).length → j < ((M.getD k default).getD i default).length → ∀ u ∈ U k i j (((M.getD k default).getD i default).getD j 0), Q u) : ∀ u ∈ uK U M M.length, Q u := by
  have hJ : ∀ k i m, k < M.length → i < (M.getD k default).length → m ≤ ((M.getD k default).getD i default).length → ∀ u ∈ uJ U k i ((M.getD k default).getD i default) m, Q u := by
    intro k i m hk hi
    induction m with
    | zero => intro _ u hu; cases hu
    | succ m ih =>
      intro hm u hu
      rcases List.mem_append.1 hu with hu | hu
      · exact ih (by omega) u hu
      · exact h k i m hk hi (by omega) u hu
  have hI : ∀ k m, k < M.length → m ≤ (M.getD k default).length → ∀ u ∈ uI U k (M.getD k default) m, Q u := by
    intro k m hk
    induction m with
    | zero => intro _ u hu; cases hu
    | succ m ih =>
      intro hm u hu
      rcases List.mem_append.1 hu with hu | hu
      · exact ih (by omega) u hu
      · exact hJ k m _ hk (by omega) (Nat.le_refl _) u hu
  have hK : ∀ m, m ≤ M.length → ∀ u ∈ uK U M m, Q u := by
    intro m
    induction m with
    | zero => intro _ u hu; cases hu
    | succ m ih =>
      intro hm u hu
      rcases List.mem_append.1 hu with hu | hu
      · exact ih (by omega) u hu
      · exact hI m _ (by omega) (Nat.le_refl _) u hu
  exact hK _ (Nat.le_refl _)
theorem cnt_sh {L : Nat} {A B : Nat → Nat} {M : M3} (s : Sh L A B M) {m a b : Nat} (hL : L ≤ m) (hA : ∀ k, k < L → A k ≤ a) (hB : ∀ k, k < L → B k ≤ b) : 0 ≤ cntL cnt2 M ∧ cntL cnt2 M ≤ m * ((a : Int) * b) := by
  have g : ∀ {α : Type} [Inhabited α] {xs : List α} {x : α}, x ∈ xs → ∃ i, i < xs.length ∧ xs.getD i default = x := by
    intro α _ xs x hx
    obtain ⟨i, hi, rfl⟩ := List.getElem_of_mem hx
    exact ⟨i, hi, by rw [List.getD_eq_getElem?_getD, List.getElem?_eq_getElem hi]; rfl⟩
  refine cntL_bnd (Int.mul_nonneg (by omega) (by omega)) (fun x hx => ?_) (by rw [s.len]; exact hL)
  obtain ⟨k, hk, rfl⟩ := g hx
  rw [s.len] at hk
  refine cntL_bnd (ct := cnt1) (by omega) (fun y hy => ?_) (by rw [s.rows k hk]; exact hA k hk)
  obtain ⟨r, hr, rfl⟩ := g hy
  rw [s.rows k hk] at hr
  have h1 := s.cols k r hk hr
  have h2 := hB k hk
  simp only [cnt1]; omega
/-- Number j of row i of map k. -/
theorem IsC.num {X : Cx} (hC : IsC X) {k i j : Nat} (hk : k < X.maps.length) (hi : i < (X.maps.getD k default).length) (hj : j < ((X.maps.getD k default).getD i default).length) : 0 ≤ ((X.maps.getD k default).getD i default).getD j 0 ∧ ((X.maps.getD k default).getD i default).getD j 0 < X.p := ((tableP_iff.1 (hC.tb k hk)).2.at hi).2.at hj
theorem IsC.lens {X : Cx} (hC : IsC X) {k : Nat} (hk : k < X.maps.length) : ((X.maps.getD k default).length : Int) = X.dims.getD (k + 1) 0 ∧ ∀ i, i < (X.maps.getD k default).length → (((X.maps.getD k default).getD i default).length : Int) = X.dims.getD k 0 := by
  have t := tableP_iff.1 (hC.tb k hk)
  rw [show ((k : Int) + 1).toNat = k + 1 by omega] at t
  exact ⟨t.1, fun i hi => (t.2.at hi).1⟩

end Go.Proofs.YtacajcjibhifmaaDoor
