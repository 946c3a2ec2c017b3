/-
  Walks: pairs of complexes.
  Conditions: each theorem's own.
-/
import Derived.Test.YtacajcjibhifmaaDoorS10
import Derived.Test.YtacajcjibhifmaaDoorG15
set_option linter.unusedVariables false
set_option linter.unusedSimpArgs false
namespace Go.Proofs.YtacajcjibhifmaaDoor
open Go
/-- What the program says of a list of complexes: 0, 1 for an invalid one, 2 for two primes. -/
noncomputable def sameP (L : List Cx) : Int := if L.all isC = true then (if L.all (fun X => X.p == (L.getD 0 default).p) = true then 0 else 2) else 1
noncomputable def twoP (X Y : Cx) : Int := if isC X = true ∧ isC Y = true then (if X.p = Y.p then 0 else 2) else 1
theorem sameP_two (X Y : Cx) : sameP [X, Y] = twoP X Y := by
  unfold sameP twoP
  by_cases h1 : isC X = true <;> by_cases h2 : isC Y = true <;> by_cases h3 : X.p = Y.p <;> simp [h1, h2, h3, eq_comm (a := Y.p)]
theorem vint_i {k : IntKind} {x y : Int} (e : x = y) : Value.int k x = Value.int k y := by rw [e]

end Go.Proofs.YtacajcjibhifmaaDoor
