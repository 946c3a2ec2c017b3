/-
  Walks: differentials of vectors.
  Conditions: each theorem's own.
-/
import Derived.Test.YtkkjhomhndpphaaS23
set_option linter.unusedVariables false
set_option linter.unusedSimpArgs false
namespace Go.Proofs.Ytkkjhomhndpphaa
open Go
theorem mapP_ok {X : Cx} (hC : IsC X) {n : Int} (h0 : 0 ≤ n) (h1 : n ≤ (X.dims.length : Int) - 1) : ((mapP X n).length : Int) = X.dims.getD n.toNat 0 ∧ Tbl X.p (dimP X (n - 1)) (mapP X n) := by
  by_cases hn : 1 ≤ n
  · obtain ⟨d, l, t⟩ := hC.pre.app (n := n) (by omega) h1
    rw [mapP, if_pos (in3_iff.2 ⟨hn, h1⟩), dimP, if_pos (in3_iff.2 ⟨by omega, by omega⟩)]
    exact ⟨l, t⟩
  · have e : n = 0 := by omega
    subst e
    have d := dimP_bnd hC 0
    have d0 : dimP X 0 = X.dims.getD (0 : Int).toNat 0 := by rw [dimP, if_pos (in3_iff.2 ⟨by omega, by omega⟩)]
    rw [mapP, if_neg (by rw [in3_iff]; omega), dimP_out (n := 0 - 1) (by omega)]
    refine ⟨by rw [List.length_replicate]; omega, fun r hr => ?_⟩
    rw [List.eq_of_mem_replicate hr]
    exact ⟨rfl, fun x hx => by cases hx⟩
noncomputable def dofP (X : Cx) (n : Int) (v : List Int) : List Int × Int := if codeP X n = 0 then (if isRow X.p (X.dims.getD n.toNat 0) v = true then (diffP X n v, 0) else ([], 2)) else ([], codeP X n)
theorem accP_nil {p : Int} : ∀ (v : List Int) (rows : List (List Int)), (∀ r ∈ rows, r = []) → accP p v rows [] = []
  | [], _, _ => rfl
  | _ :: _, [], _ => rfl
  | x :: v, r :: rows, h => by rw [accP, stepRow, List.zipWith_nil_left]; exact accP_nil v rows (fun y hy => h y (List.mem_cons_of_mem _ hy))
theorem diff_spec {X : Cx} (hC : IsC X) {n : Int} (h0 : 0 ≤ n) (h1 : n ≤ (X.dims.length : Int) - 1) (v : List Int) : accP X.p v (mapP X n) (List.replicate (dimP X (n - 1)).toNat 0) = diffP X n v := by
  by_cases hn : 1 ≤ n
  · rw [mapP, if_pos (in3_iff.2 ⟨hn, h1⟩), dimP, if_pos (in3_iff.2 ⟨by omega, by omega⟩), diffP, if_neg (by omega)]
  · have e : n = 0 := by omega
    subst e
    rw [mapP, if_neg (by rw [in3_iff]; omega), dimP_out (n := 0 - 1) (by omega), diffP, if_pos (by omega)]
    exact accP_nil _ _ (fun r hr => List.eq_of_mem_replicate hr)

end Go.Proofs.Ytkkjhomhndpphaa
