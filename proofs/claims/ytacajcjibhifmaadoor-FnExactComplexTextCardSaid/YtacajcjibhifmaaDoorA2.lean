/-
  Walks: units.
  Conditions: each theorem's own.
-/
import Derived.Test.YtacajcjibhifmaaDoorA1
set_option linter.unusedVariables false
set_option linter.unusedSimpArgs false
namespace Go.Proofs.YtacajcjibhifmaaDoor
open Go
def unitP (n i : Nat) : List Int := (List.replicate n 0).set i 1
def unitsP (d : Int) : List (List Int) := (List.range d.toNat).map fun i => unitP d.toNat i

end Go.Proofs.YtacajcjibhifmaaDoor
