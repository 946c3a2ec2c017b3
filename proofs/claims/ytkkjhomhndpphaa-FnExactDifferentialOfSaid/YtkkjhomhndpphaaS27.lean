/-
  Walks: how long a differential is.
  Conditions: each theorem's own.
-/
import Derived.Test.YtkkjhomhndpphaaS26
set_option linter.unusedVariables false
set_option linter.unusedSimpArgs false
namespace Go.Proofs.Ytkkjhomhndpphaa
open Go
theorem dof_len (X : Cx) (n : Int) (v : List Int) : cnt1 (dofP X n v).1 ≤ 8 := by
  unfold dofP cnt1
  split
  · rename_i hc
    obtain ⟨hC, h0, h1⟩ := codeP_0 hc
    split
    · dsimp only
      unfold diffP
      split
      · simp
      · rename_i hn
        obtain ⟨d, l, t⟩ := hC.pre.app (n := n) (by omega) h1
        have e : ((List.replicate (X.dims.getD (n - 1).toNat 0).toNat (0 : Int)).length : Int) = X.dims.getD (n - 1).toNat 0 := by rw [List.length_replicate]; omega
        rw [accP_len (by rw [e]; exact t), e]
        exact d.2
    · simp
  · simp

end Go.Proofs.Ytkkjhomhndpphaa
