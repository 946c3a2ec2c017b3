/-
  Walks: rows that are scaled.
  Conditions: each theorem's own.
-/
import Derived.Test.YtacajcjibhifmaaDoorC4
import Derived.Test.YtacajcjibhifmaaDoorB3
set_option linter.unusedVariables false
set_option linter.unusedSimpArgs false
namespace Go.Proofs.YtacajcjibhifmaaDoor
open Go
/-- A row times k, modulo p. -/
def sclRow (p k : Int) (r : List Int) : List Int := (List.range r.length).map fun q : Nat => (k * r.getD q 0) % p
def sclRows (p k : Int) (R : List (List Int)) : List (List Int) := (List.range R.length).map fun q : Nat => sclRow p k (R.getD q default)
def lessRow (p k : Int) (a b : List Int) : List Int := (List.range a.length).map fun q : Nat => (a.getD q 0 - k * b.getD q 0) % p
theorem lessRow_zero {p k : Int} {r : List Int} {n : Nat} (h : n = r.length) : lessRow p k (List.replicate n 0) r = sclRow p (-k) r := by
  subst h
  rw [lessRow, sclRow, List.length_replicate]
  apply List.map_congr_left
  intro q hq
  rw [List.mem_range] at hq
  rw [getD_repl hq, Int.zero_sub, Int.neg_mul]
theorem id_range (R : List (List Int)) : (List.range R.length).map (fun q : Nat => R.getD q default) = R := by
  apply List.ext_getElem (by simp)
  intro i h1 h2
  simp only [List.getElem_map, List.getElem_range, List.getD_eq_getElem?_getD, List.getElem?_eq_getElem h2, Option.getD_some]
theorem mul42A {k y p : Int} (hk : -6 ≤ k ∧ k ≤ 6) (hy : 0 ≤ y ∧ y < p) (hp : p ≤ 7) : -36 ≤ k * y ∧ k * y ≤ 36 := by
  have h1 : k * y ≤ 6 * y := Int.mul_le_mul_of_nonneg_right hk.2 hy.1
  have h2 : (-6) * y ≤ k * y := Int.mul_le_mul_of_nonneg_right hk.1 hy.1
  omega

end Go.Proofs.YtacajcjibhifmaaDoor
