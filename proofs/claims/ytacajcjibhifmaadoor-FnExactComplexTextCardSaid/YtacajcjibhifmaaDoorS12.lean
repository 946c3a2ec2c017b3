/-
  Walks: the place of a pair.
  Conditions: each theorem's own.
-/
import Derived.Test.YtacajcjibhifmaaDoorS11
set_option linter.unusedVariables false
set_option linter.unusedSimpArgs false
namespace Go.Proofs.YtacajcjibhifmaaDoor
open Go
theorem twoP_0 {X Y : Cx} (h : twoP X Y = 0) : IsC X ∧ IsC Y ∧ X.p = Y.p := by
  unfold twoP at h
  split at h
  · rename_i hc
    split at h
    · exact ⟨isC_t.1 hc.1, isC_t.1 hc.2, by assumption⟩
    · cases h
  · cases h
theorem twoP_bnd (X Y : Cx) : 0 ≤ twoP X Y ∧ twoP X Y ≤ 2 := by
  unfold twoP
  split
  · split <;> omega
  · omega
theorem dimP_bnd {X : Cx} (hC : IsC X) (n : Int) : 0 ≤ dimP X n ∧ dimP X n ≤ 8 := by
  unfold dimP
  split
  · rename_i h
    rw [in3_iff] at h
    exact dm_at hC.dm (by omega)
  · omega
theorem dimP_out {X : Cx} {n : Int} (h : ¬ (0 ≤ n ∧ n ≤ (X.dims.length : Int) - 1)) : dimP X n = 0 := by
  rw [dimP, if_neg (by rw [in3_iff]; exact h)]
def sumP (X Y : Cx) (s : Int) : Nat → Int
  | 0 => 0
  | k + 1 => sumP X Y s k + dimP X k * dimP Y (s - k)
theorem mul64 {x y : Int} (hx : 0 ≤ x ∧ x ≤ 8) (hy : 0 ≤ y ∧ y ≤ 8) : 0 ≤ x * y ∧ x * y ≤ 64 := by
  refine ⟨Int.mul_nonneg hx.1 hy.1, ?_⟩
  have := Int.mul_le_mul hx.2 hy.2 hy.1 (by omega : (0 : Int) ≤ 8)
  simpa using this
theorem sumP_bnd {X Y : Cx} (hX : IsC X) (hY : IsC Y) (s : Int) : ∀ k : Nat, 0 ≤ sumP X Y s k ∧ sumP X Y s k ≤ 64 * k
  | 0 => by simp [sumP]
  | k + 1 => by
    have h1 := sumP_bnd hX hY s k
    have h2 := mul64 (dimP_bnd hX k) (dimP_bnd hY (s - k))
    rw [sumP]; omega
def placeP (X Y : Cx) (i a j b : Int) : Int := sumP X Y (i + j) i.toNat + a * dimP Y j + b
noncomputable def cod1 (X Y : Cx) (i j : Int) : Int := if (twoP X Y == 0 && (!in3 i 0 ((X.dims.length : Int) - 1) || !in3 j 0 ((Y.dims.length : Int) - 1))) = true then 2 else twoP X Y
noncomputable def cod2 (X Y : Cx) (i a j b : Int) : Int := if (cod1 X Y i j == 0 && (!in3 a 0 (dimP X i - 1) || !in3 b 0 (dimP Y j - 1))) = true then 2 else cod1 X Y i j
noncomputable def codI (X Y : Cx) (i a j b : Int) : Int := if (twoP X Y == 0 && (!in3 a 0 (dimP X i - 1) || !in3 b 0 (dimP Y j - 1))) = true then 2 else twoP X Y
theorem cod1_0 {X Y : Cx} {i j : Int} (h : cod1 X Y i j = 0) : IsC X ∧ IsC Y ∧ 0 ≤ i ∧ i ≤ 5 ∧ 0 ≤ j ∧ j ≤ 5 := by
  unfold cod1 at h
  split at h
  · cases h
  · rename_i hc
    obtain ⟨h1, h2, _⟩ := twoP_0 h
    simp only [h, beq_self_eq_true, Bool.true_and, Bool.or_eq_true, Bool.not_eq_true', not_or, Bool.not_eq_false, in3_iff] at hc
    have := h1.len; have := h2.len
    exact ⟨h1, h2, by omega, by omega, by omega, by omega⟩
theorem cod2_0 {X Y : Cx} {i a j b : Int} (h : cod2 X Y i a j b = 0) : IsC X ∧ IsC Y ∧ 0 ≤ i ∧ i ≤ 5 ∧ 0 ≤ j ∧ j ≤ 5 ∧ 0 ≤ a ∧ a ≤ 8 ∧ 0 ≤ b ∧ b ≤ 8 := by
  unfold cod2 at h
  split at h
  · cases h
  · rename_i hc
    obtain ⟨h1, h2, h3, h4, h5, h6⟩ := cod1_0 h
    simp only [h, beq_self_eq_true, Bool.true_and, Bool.or_eq_true, Bool.not_eq_true', not_or, Bool.not_eq_false, in3_iff] at hc
    have := dimP_bnd h1 i; have := dimP_bnd h2 j
    exact ⟨h1, h2, h3, h4, h5, h6, by omega, by omega, by omega, by omega⟩
theorem codI_eq (X Y : Cx) (i a j b : Int) : codI X Y i a j b = cod2 X Y i a j b := by
  unfold codI cod2
  by_cases h0 : twoP X Y = 0
  · by_cases hr : in3 i 0 ((X.dims.length : Int) - 1) = true ∧ in3 j 0 ((Y.dims.length : Int) - 1) = true
    · have : cod1 X Y i j = twoP X Y := by unfold cod1; rw [hr.1, hr.2]; simp
      rw [this]
    · have h1 : cod1 X Y i j = 2 := by
        unfold cod1
        rw [if_pos]
        simp only [h0, beq_self_eq_true, Bool.true_and, Bool.or_eq_true, Bool.not_eq_true']
        rcases Classical.not_and_iff_not_or_not.1 hr with h | h
        · exact .inl (by simpa using h)
        · exact .inr (by simpa using h)
      have h2 : (!in3 a 0 (dimP X i - 1) || !in3 b 0 (dimP Y j - 1)) = true := by
        rw [in3_iff, in3_iff] at hr
        rcases Classical.not_and_iff_not_or_not.1 hr with h | h
        · rw [dimP_out h, in3_f.2 (by omega)]; rfl
        · rw [dimP_out h, Bool.or_eq_true]; exact .inr (by rw [in3_f.2 (by omega)]; rfl)
      rw [h1, h0, h2]; rfl
  · have : cod1 X Y i j = twoP X Y := by
      unfold cod1
      rw [if_neg]
      simp [h0]
    rw [this]

end Go.Proofs.YtacajcjibhifmaaDoor
