/-
  Walks: marks that are held.
  Conditions: each theorem's own.
-/
import Derived.Test.YtacajcjibhifmaaDoorM15
set_option linter.unusedVariables false
set_option linter.unusedSimpArgs false
namespace Go.Proofs.YtacajcjibhifmaaDoor
open Go
end Go.Proofs.YtacajcjibhifmaaDoor
