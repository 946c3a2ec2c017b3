/-
  Walks: blank complexes.
  Conditions: each theorem's own.
-/
import Derived.Test.YtacajcjibhifmaaDoorC1
set_option linter.unusedVariables false
set_option linter.unusedSimpArgs false
namespace Go.Proofs.YtacajcjibhifmaaDoor
open Go
theorem bCx {v : Value} {xs : List Int} {h : Heap} (hv : R1 h v xs) (p : Int) : buildV TT 29 [(0, .int .i64 p), (1, v)] = some (.agg #[.int .i64 p, v, .slice none 0 0]) := by
  obtain ⟨A, c, rfl, _⟩ := hv
  kernel_rfl
theorem bC0 : buildV TT 29 [] = some (.agg #[.int .i64 0, .slice none 0 0, .slice none 0 0]) := by kernel_rfl
theorem OS.isSl {α : Type} {e : TypeId} {E : Heap → Value → α → List Nat → Prop} {h : Heap} {v : Value} {xs : List α} {fp : List Nat} (ho : OS e E h v xs fp) : ∃ A n c, v = .slice A n c := by
  rcases ho with ⟨rfl, _⟩ | ⟨b, c, cur, fps, rfl, r⟩
  · exact ⟨_, _, _, rfl⟩
  · exact ⟨_, _, _, r.val⟩
theorem bC3 {v w : Value} (hv : ∃ A n c, v = .slice A n c) (hw : ∃ A n c, w = .slice A n c) (p : Int) : buildV TT 29 [(0, .int .i64 p), (1, v), (2, w)] = some (.agg #[.int .i64 p, v, w]) := by
  obtain ⟨A, n, c, rfl⟩ := hv
  obtain ⟨A', n', c', rfl⟩ := hw
  kernel_rfl
def zblk (D : List Int) (k : Nat) : M3 := (List.range k).map fun j => List.replicate (D.getD (j + 1) 0).toNat (List.replicate (D.getD j 0).toNat 0)
theorem zblk_step (D : List Int) (k : Nat) : zblk D k ++ [List.replicate (D.getD (k + 1) 0).toNat (List.replicate (D.getD k 0).toNat 0)] = zblk D (k + 1) := by simp [zblk, List.range_succ]
theorem zblk_len (D : List Int) (k : Nat) : (zblk D k).length = k := by simp [zblk]
theorem getD_map_range {α : Type} [Inhabited α] (f : Nat → α) {n k : Nat} (h : k < n) : ((List.range n).map f).getD k default = f k := by
  rw [List.getD_eq_getElem?_getD, List.getElem?_eq_getElem (by simpa using h)]; simp
theorem getD_repl {α : Type} {x d : α} {n k : Nat} (h : k < n) : (List.replicate n x).getD k d = x := by
  rw [List.getD_eq_getElem?_getD, List.getElem?_eq_getElem (by simpa using h)]; simp
theorem zblk_sh (D : List Int) (n : Nat) : Sh n (fun k => (D.getD (k + 1) 0).toNat) (fun k => (D.getD k 0).toNat) (zblk D n) := by
  refine ⟨zblk_len D n, fun k hk => ?_, fun k r hk hr => ?_⟩
  · rw [zblk, getD_map_range _ hk, List.length_replicate]
  · rw [zblk, getD_map_range _ hk, getD_repl hr, List.length_replicate]
theorem zblk_get (D : List Int) (n : Nat) {k r c : Nat} (hk : k < n) (hr : r < (D.getD (k + 1) 0).toNat) (hc : c < (D.getD k 0).toNat) : get3 (zblk D n) k r c = 0 := by
  rw [get3, zblk, getD_map_range _ hk, getD_repl hr, getD_repl hc]
theorem D_at {D : List Int} (h : D.all (fun x => in3 x 0 8) = true) {k : Nat} (hk : k < D.length) : 0 ≤ D.getD k 0 ∧ D.getD k 0 ≤ 8 := in3_iff.1 (all_at (d := 0) h hk)

def revAt (xs : List Int) (i q : Nat) : Int := if q < i ∨ xs.length - i ≤ q then xs.getD (xs.length - 1 - q) 0 else xs.getD q 0
def revP (xs : List Int) (i : Nat) : List Int := (List.range xs.length).map (revAt xs i)
theorem revP_len (xs : List Int) (i : Nat) : (revP xs i).length = xs.length := by simp [revP]
theorem revP_get (xs : List Int) (i : Nat) {q : Nat} (h : q < xs.length) : (revP xs i).getD q 0 = revAt xs i q := by
  rw [revP, List.getD_eq_getElem?_getD, List.getElem?_eq_getElem (by simpa using h)]; simp
theorem revP_zero (xs : List Int) : revP xs 0 = xs := by
  refine getD_extA (by rw [revP_len]) (fun q hq => ?_)
  rw [revP_len] at hq
  rw [revP_get xs 0 hq, revAt, if_neg (by omega)]
theorem getD_rev (xs : List Int) {q : Nat} (h : q < xs.length) : xs.reverse.getD q 0 = xs.getD (xs.length - 1 - q) 0 := by
  rw [List.getD_eq_getElem?_getD, List.getD_eq_getElem?_getD, List.getElem?_reverse h]
theorem revP_end {xs : List Int} {i : Nat} (h : xs.length ≤ 2 * i + 1) : revP xs i = xs.reverse := by
  refine getD_extA (by rw [revP_len, List.length_reverse]) (fun q hq => ?_)
  rw [revP_len] at hq
  rw [revP_get xs i hq, getD_rev xs hq, revAt]
  split
  · rfl
  · rename_i hn
    congr 1; omega
theorem revP_step {xs : List Int} {i : Nat} (h : 2 * i + 1 < xs.length) : ((revP xs i).set i ((revP xs i).getD (xs.length - 1 - i) 0)).set (xs.length - 1 - i) ((revP xs i).getD i 0) = revP xs (i + 1) := by
  have hl := revP_len xs i
  refine getD_extA (by rw [List.length_set, List.length_set, revP_len, revP_len]) (fun q hq => ?_)
  rw [List.length_set, List.length_set, hl] at hq
  rw [getD_set (by rw [List.length_set, hl]; omega), getD_set (by rw [hl]; omega), revP_get xs (i + 1) hq, revP_get xs i hq, revP_get xs i (q := i) (by omega), revP_get xs i (q := xs.length - 1 - i) (by omega)]
  simp only [revAt]
  by_cases h1 : xs.length - 1 - i = q
  · subst h1
    rw [if_pos rfl, if_neg (by omega), if_pos (by omega)]
    congr 1; omega
  · rw [if_neg h1]
    by_cases h2 : i = q
    · subst h2
      rw [if_pos rfl, if_neg (by omega), if_pos (by omega)]
    · rw [if_neg h2]
      by_cases h3 : q < i ∨ xs.length - i ≤ q
      · rw [if_pos h3, if_pos (by omega)]
      · rw [if_neg h3, if_neg (by omega)]

end Go.Proofs.YtacajcjibhifmaaDoor
