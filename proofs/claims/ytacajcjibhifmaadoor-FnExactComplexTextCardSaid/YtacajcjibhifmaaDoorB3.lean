/-
  Walks: maps and equality.
  Conditions: each theorem's own.
-/
import Derived.Test.YtacajcjibhifmaaDoorA2
set_option linter.unusedVariables false
set_option linter.unusedSimpArgs false
namespace Go.Proofs.YtacajcjibhifmaaDoor
open Go
def mapP (X : Cx) (n : Int) : List (List Int) := if in3 n 1 ((X.dims.length : Int) - 1) = true then X.maps.getD (n - 1).toNat default else List.replicate (dimP X n).toNat []
theorem mapP_ok {X : Cx} (hC : IsC X) {n : Int} (h0 : 0 ≤ n) (h1 : n ≤ (X.dims.length : Int) - 1) : ((mapP X n).length : Int) = X.dims.getD n.toNat 0 ∧ Tbl X.p (dimP X (n - 1)) (mapP X n) := by
  by_cases hn : 1 ≤ n
  · obtain ⟨d, l, t⟩ := hC.pre.app (n := n) (by omega) h1
    rw [mapP, if_pos (in3_iff.2 ⟨hn, h1⟩), dimP, if_pos (in3_iff.2 ⟨by omega, by omega⟩)]
    exact ⟨l, t⟩
  · have e : n = 0 := by omega
    subst e
    have d := dimP_bnd hC 0
    have d0 : dimP X 0 = X.dims.getD (0 : Int).toNat 0 := by rw [dimP, if_pos (in3_iff.2 ⟨by omega, by omega⟩)]
    rw [mapP, if_neg (by rw [in3_iff]; omega), dimP_out (n := 0 - 1) (by omega)]
    refine ⟨by rw [List.length_replicate]; omega, fun r hr => ?_⟩
    rw [List.eq_of_mem_replicate hr]
    exact ⟨rfl, fun x hx => by cases hx⟩
theorem accP_nil {p : Int} : ∀ (v : List Int) (rows : List (List Int)), (∀ r ∈ rows, r = []) → accP p v rows [] = []
  | [], _, _ => rfl
  | _ :: _, [], _ => rfl
  | x :: v, r :: rows, h => by rw [accP, stepRow, List.zipWith_nil_left]; exact accP_nil v rows (fun y hy => h y (List.mem_cons_of_mem _ hy))
theorem diff_spec {X : Cx} (hC : IsC X) {n : Int} (h0 : 0 ≤ n) (h1 : n ≤ (X.dims.length : Int) - 1) (v : List Int) : accP X.p v (mapP X n) (List.replicate (dimP X (n - 1)).toNat 0) = diffP X n v := by
  by_cases hn : 1 ≤ n
  · rw [mapP, if_pos (in3_iff.2 ⟨hn, h1⟩), dimP, if_pos (in3_iff.2 ⟨by omega, by omega⟩), diffP, if_neg (by omega)]
  · have e : n = 0 := by omega
    subst e
    rw [mapP, if_neg (by rw [in3_iff]; omega), dimP_out (n := 0 - 1) (by omega), diffP, if_pos (by omega)]
    exact accP_nil _ _ (fun r hr => List.eq_of_mem_replicate hr)
theorem diff_len {X : Cx} (hC : IsC X) {n : Int} (v : List Int) : ((diffP X n v).length : Int) = dimP X (n - 1) ∨ n ≤ 0 ∨ (X.dims.length : Int) - 1 < n := by
  by_cases hn : n ≤ 0 ∨ (X.dims.length : Int) - 1 < n
  · exact .inr hn
  · obtain ⟨d, l, t⟩ := hC.pre.app (n := n) (by omega) (by omega)
    have e : ((List.replicate (X.dims.getD (n - 1).toNat 0).toNat (0 : Int)).length : Int) = X.dims.getD (n - 1).toNat 0 := by rw [List.length_replicate]; omega
    refine .inl ?_
    rw [diffP, if_neg hn, accP_len (by rw [e]; exact t), e, dimP, if_pos (in3_iff.2 ⟨by omega, by omega⟩)]
theorem diff_bnd {X : Cx} (hC : IsC X) {n : Int} {v : List Int} (hb : Bnd X.p v) : Bnd X.p (diffP X n v) := by
  unfold diffP
  split
  · exact fun x hx => by cases hx
  · rename_i hn
    obtain ⟨d, l, t⟩ := hC.pre.app (n := n) (by omega) (by omega)
    have hp := isP_bnd hC.p
    exact accP_bnd hp.1 hb t (Bnd.zeros hp.1 _)
theorem step0 {p : Int} {row acc : List Int} (hb : Bnd p acc) (hl : row.length = acc.length) : stepRow p 0 row acc = acc := by
  refine getD_extA (stepRow_len hl) (fun n hn => ?_)
  rw [stepRow_len hl] at hn
  have := hb.at hn
  rw [stepRow_get hl hn, Int.zero_mul, Int.add_zero, Int.tmod_eq_of_lt this.1 this.2]
theorem step1 {p : Int} {row : List Int} {w : Nat} (hb : Bnd p row) (hl : row.length = w) : stepRow p 1 row (List.replicate w 0) = row := by
  have hl' : row.length = (List.replicate w (0 : Int)).length := by simpa using hl
  refine getD_extA (by rw [stepRow_len hl']; simpa using hl.symm) (fun n hn => ?_)
  rw [stepRow_len hl'] at hn
  have := hb.at (k := n) (by omega)
  have z : (List.replicate w (0 : Int)).getD n 0 = 0 := by
    rw [List.getD_eq_getElem?_getD, List.getElem?_eq_getElem hn]; simp
  rw [stepRow_get hl' hn, z, Int.zero_add, Int.one_mul, Int.tmod_eq_of_lt this.1 this.2]
theorem accP_zeros {p : Int} : ∀ (m : Nat) (rows : List (List Int)) (acc : List Int), Bnd p acc → Tbl p acc.length rows → accP p (List.replicate m 0) rows acc = acc
  | 0, _, _, _, _ => rfl
  | m + 1, [], _, _, _ => rfl
  | m + 1, r :: rows, acc, hb, ht => by
    have h1 := (ht r (by simp)).1
    rw [List.replicate_succ, accP, step0 hb (by omega)]
    exact accP_zeros m rows acc hb (fun y hy => ht y (List.mem_cons_of_mem _ hy))
theorem accP_unit {p : Int} (hp : 0 < p) {w : Nat} : ∀ (rows : List (List Int)) (i : Nat), i < rows.length → Tbl p w rows → accP p (unitP rows.length i) rows (List.replicate w 0) = rows.getD i default
  | r :: rows, 0, _, ht => by
    have h1 := ht r (by simp)
    have e : unitP (r :: rows).length 0 = 1 :: List.replicate rows.length 0 := by simp [unitP, List.replicate_succ]
    rw [e, accP, step1 h1.2 (by omega), accP_zeros _ _ _ h1.2 (fun y hy => by rw [h1.1]; exact ht y (List.mem_cons_of_mem _ hy))]
    rfl
  | r :: rows, i + 1, hi, ht => by
    have h1 := ht r (by simp)
    have e : unitP (r :: rows).length (i + 1) = 0 :: unitP rows.length i := by simp [unitP, List.replicate_succ]
    rw [e, accP, step0 (Bnd.zeros hp _) (by simp; omega), accP_unit hp rows i (by simpa using hi) (fun y hy => ht y (List.mem_cons_of_mem _ hy))]
    rfl
theorem diff_unit {X : Cx} (hC : IsC X) {k i : Nat} (hk : (k : Int) + 1 ≤ (X.dims.length : Int) - 1) (hi : (i : Int) < X.dims.getD ((k : Int) + 1).toNat 0) : diffP X ((k : Int) + 1) (unitP (X.dims.getD ((k : Int) + 1).toNat 0).toNat i) = (X.maps.getD k default).getD i default := by
  obtain ⟨d, l, t⟩ := hC.pre.app (n := (k : Int) + 1) (by omega) hk
  rw [diffP, if_neg (by omega)]
  rw [Int.add_sub_cancel, Int.toNat_natCast] at *
  have e : (X.dims.getD ((k : Int) + 1).toNat 0).toNat = (X.maps.getD k default).length := by omega
  rw [e]
  exact accP_unit (isP_bnd hC.p).1 _ _ (by omega) (by rw [show (((X.dims.getD k 0).toNat : Nat) : Int) = X.dims.getD k 0 by omega]; exact t)

end Go.Proofs.YtacajcjibhifmaaDoor
