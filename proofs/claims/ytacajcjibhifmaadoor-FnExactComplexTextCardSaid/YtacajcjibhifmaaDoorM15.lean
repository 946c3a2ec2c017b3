/-
  Walks: marks.
  Conditions: each theorem's own.
-/
import Derived.Test.YtacajcjibhifmaaDoorM14
set_option linter.unusedVariables false
set_option linter.unusedSimpArgs false
namespace Go.Proofs.YtacajcjibhifmaaDoor
open Go
def markI : List Int → Int → List Int
  | [], _ => []
  | _ :: r, k => k :: markI r (k + 1)
def markL {α : Type} (mk : α → Int → α) (ct : α → Int) : List α → Int → List α
  | [], _ => []
  | x :: r, k => mk x k :: markL mk ct r (k + ct x)
def cntL {α : Type} (ct : α → Int) : List α → Int
  | [] => 0
  | x :: r => ct x + cntL ct r
def cnt1 (xs : List Int) : Int := xs.length
abbrev cnt2 : List (List Int) → Int := cntL cnt1
abbrev cnt3 : List (List (List Int)) → Int := cntL cnt2
abbrev mark2 : List (List Int) → Int → List (List Int) := markL markI cnt1
abbrev mark3 : List (List (List Int)) → Int → List (List (List Int)) := markL mark2 cnt2
theorem markI_len : ∀ (xs : List Int) (k : Int), (markI xs k).length = xs.length
  | [], _ => rfl
  | _ :: r, k => by simp [markI, markI_len r]
theorem markI_get : ∀ (xs : List Int) (k : Int) (i : Nat), i < xs.length → (markI xs k).getD i 0 = k + i
  | _ :: r, k, 0, _ => by simp [markI]
  | _ :: r, k, i + 1, h => by
    have := markI_get r (k + 1) i (by simpa using h)
    simp only [markI, List.getD_cons_succ, this]; omega
theorem mark_set {xs : List Int} {k : Int} {i : Nat} (h : i < xs.length) : (mix (markI xs k) xs i).set i (k + i) = mix (markI xs k) xs (i + 1) := by
  rw [← markI_get xs k i h, mix_set _ _ _ _ (markI_len xs k) h]
section
variable {α : Type} {mk : α → Int → α} {ct : α → Int}
theorem markL_len : ∀ (xs : List α) (k : Int), (markL mk ct xs k).length = xs.length
  | [], _ => rfl
  | _ :: r, k => by simp [markL, markL_len r]
theorem markL_get [Inhabited α] : ∀ (xs : List α) (k : Int) (i : Nat), i < xs.length → (markL mk ct xs k).getD i default = mk (xs.getD i default) (k + cntL ct (xs.take i))
  | x :: r, k, 0, _ => by simp [markL, cntL]
  | x :: r, k, i + 1, h => by
    have := markL_get r (k + ct x) i (by simpa using h)
    simp only [markL, List.getD_cons_succ, this, List.take_succ_cons, cntL]
    rw [Int.add_assoc]
theorem cntL_take [Inhabited α] : ∀ (xs : List α) (i : Nat), i < xs.length → cntL ct (xs.take (i + 1)) = cntL ct (xs.take i) + ct (xs.getD i default)
  | x :: r, 0, _ => by simp [cntL]
  | x :: r, i + 1, h => by
    have := cntL_take r i (by simpa using h)
    simp only [List.take_succ_cons, cntL, List.getD_cons_succ] at this ⊢
    omega
theorem cntL_nonneg (h : ∀ x, 0 ≤ ct x) : ∀ xs : List α, 0 ≤ cntL ct xs
  | [] => by simp [cntL]
  | x :: r => by have := h x; have := cntL_nonneg h r; simp only [cntL]; omega
theorem cntL_le (h : ∀ x, 0 ≤ ct x) : ∀ (xs : List α) (i : Nat), cntL ct (xs.take i) ≤ cntL ct xs
  | [], i => by simp
  | x :: r, 0 => by have := cntL_nonneg h (x :: r); simpa [cntL] using this
  | x :: r, i + 1 => by have := cntL_le h r i; simp only [List.take_succ_cons, cntL]; omega
theorem markL_set [Inhabited α] {xs : List α} {k : Int} {i : Nat} (h : i < xs.length) : (mix (markL mk ct xs k) xs i).set i (mk (xs.getD i default) (k + cntL ct (xs.take i))) = mix (markL mk ct xs k) xs (i + 1) := by
  rw [← markL_get (mk := mk) (ct := ct) xs k i h, mix_set _ _ _ _ (markL_len xs k) h]
end
theorem cnt1_nn (x : List Int) : 0 ≤ cnt1 x := by unfold cnt1; omega
theorem cnt2_nn (x : List (List Int)) : 0 ≤ cnt2 x := cntL_nonneg cnt1_nn x
theorem cnt3_nn (x : List (List (List Int))) : 0 ≤ cnt3 x := cntL_nonneg cnt2_nn x

end Go.Proofs.YtacajcjibhifmaaDoor
