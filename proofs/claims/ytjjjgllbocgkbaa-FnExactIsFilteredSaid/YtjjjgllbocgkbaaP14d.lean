/-
  Walks: AddComplexes.
  Conditions: each theorem's own.
-/
import Derived.Test.YtjjjgllbocgkbaaP14c
set_option linter.unusedVariables false
set_option linter.unusedSimpArgs false
namespace Go.Proofs.Ytjjjgllbocgkbaa
open Go
end Go.Proofs.Ytjjjgllbocgkbaa
