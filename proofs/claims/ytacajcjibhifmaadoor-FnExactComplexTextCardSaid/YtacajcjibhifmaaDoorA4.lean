/-
  Walks: the code of two complexes.
  Conditions: each theorem's own.
-/
import Derived.Test.YtacajcjibhifmaaDoorA2
set_option linter.unusedVariables false
set_option linter.unusedSimpArgs false
namespace Go.Proofs.YtacajcjibhifmaaDoor
open Go
/-- A code, and another one where the first is 0. -/
def cadd (c e : Int) (b : Bool) : Int := if ((c == 0) && b) = true then e else c
theorem cadd_0 {c e : Int} {b : Bool} (he : e ≠ 0) : cadd c e b = 0 ↔ c = 0 ∧ b = false := by
  unfold cadd
  by_cases h : c = 0 <;> cases b <;> simp [h, he]
theorem b0 {x : Int} (h : (x == 0) = true) : x = 0 := by simpa using h
theorem caddT {c e : Int} {b : Bool} (h : ((c == 0) && b) = true) : cadd c e b = e := if_pos h
theorem caddF {c e : Int} {b : Bool} (h : ((c == 0) && b) = false) : cadd c e b = c := if_neg (by rw [h]; decide)
theorem cadd_n {c e : Int} {b : Bool} (h : c ≠ 0) : cadd c e b = c := by simp [cadd, h]
theorem cadd_z {e : Int} {b : Bool} : cadd 0 e b = if b = true then e else 0 := by simp [cadd]
noncomputable def pairC (X Y : Cx) : Int := if isC X = true ∧ isC Y = true then (if X.p = Y.p ∧ X.dims.length = Y.dims.length then 0 else 2) else 1
noncomputable def pairL (L : List Cx) : Int := if L.all isC = true then (if L.all (fun X => X.p == (L.getD 0 default).p && X.dims.length == (L.getD 0 default).dims.length) = true then 0 else 2) else 1
theorem pairL_two (X Y : Cx) : pairL [X, Y] = pairC X Y := by
  unfold pairL pairC
  by_cases h1 : isC X = true <;> by_cases h2 : isC Y = true <;> by_cases h3 : X.p = Y.p <;> by_cases h4 : X.dims.length = Y.dims.length <;> simp [h1, h2, h3, h4, eq_comm (a := Y.p), eq_comm (a := Y.dims.length)]
theorem pairC_0 {X Y : Cx} (h : pairC X Y = 0) : IsC X ∧ IsC Y ∧ X.p = Y.p ∧ X.dims.length = Y.dims.length := by
  unfold pairC at h
  split at h
  · rename_i hc
    split at h
    · rename_i h2; exact ⟨isC_t.1 hc.1, isC_t.1 hc.2, h2.1, h2.2⟩
    · cases h
  · cases h
theorem pairC_bnd (X Y : Cx) : 0 ≤ pairC X Y ∧ pairC X Y ≤ 2 := by
  unfold pairC
  split
  · split <;> omega
  · omega
theorem dimP_at {X : Cx} {k : Nat} (h : k < X.dims.length) : dimP X (k : Int) = X.dims.getD k 0 := by
  rw [dimP, if_pos (in3_iff.2 ⟨by omega, by omega⟩)]; rfl

end Go.Proofs.YtacajcjibhifmaaDoor
