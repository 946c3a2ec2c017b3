/-
  How large the arguments are: what the counts tell.
  Conditions: each theorem's own.
-/
import Derived.Test.YtacajcjibhifmaaDoorS12
import Derived.Test.YtacajcjibhifmaaDoorG16
set_option linter.unusedVariables false
set_option linter.unusedSimpArgs false
namespace Go.Proofs.YtacajcjibhifmaaDoor
open Go
theorem szI_ok {xs : List Int} {l : Int} (hl : l ≤ 1048576) (h : ¬ szI xs l < 0) : HM1 xs := by
  unfold szI at h
  unfold HM1
  split at h <;> omega
theorem szRows_ok {α : Type} {f : α → Int → Int} {P : α → Prop} (hle : ∀ x l, 0 ≤ l → -1 ≤ f x l ∧ f x l ≤ l) (hP : ∀ x l, 0 ≤ l → l ≤ 1048576 → ¬ f x l < 0 → P x) : ∀ (r : List α) (l : Int), 0 ≤ l → l ≤ 1048576 → ¬ szRows f r l < 0 → ∀ x ∈ r, P x
  | [], _, _, _, _, x, hx => by cases hx
  | y :: r, l, h0, h1, h, x, hx => by
    unfold szRows at h
    split at h
    · omega
    · rename_i hc
      have := hle y l h0
      rcases List.mem_cons.1 hx with rfl | hx
      · exact hP _ l h0 h1 hc
      · exact szRows_ok hle hP r (f y l) (by omega) (by omega) h x hx
theorem szL_ok {α : Type} {f : α → Int → Int} {P : α → Prop} (hle : ∀ x l, 0 ≤ l → -1 ≤ f x l ∧ f x l ≤ l) (hP : ∀ x l, 0 ≤ l → l ≤ 1048576 → ¬ f x l < 0 → P x) {r : List α} {l : Int} (h1 : l ≤ 1048576) (h : ¬ szL f r l < 0) : (r.length : Int) ≤ 1048576 ∧ ∀ x ∈ r, P x := by
  unfold szL at h
  split at h
  · omega
  · exact ⟨by omega, szRows_ok hle hP r _ (by omega) (by omega) h⟩
theorem sz2_ok {r : List (List Int)} {l : Int} (h0 : 0 ≤ l) (h1 : l ≤ 1048576) (h : ¬ sz2 r l < 0) : HM2 r := szL_ok szI_le (fun x l _ h1 h => szI_ok h1 h) h1 h
theorem sz3_ok {r : List (List (List Int))} {l : Int} (h0 : 0 ≤ l) (h1 : l ≤ 1048576) (h : ¬ sz3 r l < 0) : HM3 r := szL_ok sz2_le (fun x l h0 h1 h => sz2_ok h0 h1 h) h1 h
theorem szC_ok' {X : Cx} {l : Int} (h0 : 0 ≤ l) (h1 : l ≤ 1048576) (h : ¬ szC X l < 0) : HMC X := by
  unfold szC at h
  have hle := szI_le X.dims l h0
  split at h
  · omega
  · rename_i hc
    split at h
    · omega
    · rename_i hc2
      exact ⟨szI_ok h1 hc, sz3_ok (by omega) (by omega) hc2⟩
theorem Fresh.left {lo : Nat} {f1 f2 : List Nat} (h : Fresh lo (f1 ++ f2)) : Fresh lo f1 := ⟨(List.nodup_append.1 h.nodup).1, fun b hb => h.ge b (List.mem_append_left _ hb)⟩
theorem Fresh.right {lo : Nat} {f1 f2 : List Nat} (h : Fresh lo (f1 ++ f2)) : Fresh lo f2 := ⟨(List.nodup_append.1 h.nodup).2.1, fun b hb => h.ge b (List.mem_append_right _ hb)⟩
end Go.Proofs.YtacajcjibhifmaaDoor
