/-
  Walks: marks of complexes.
  Conditions: each theorem's own.
-/
import Derived.Test.YtacajcjibhifmaaDoorA0
import Derived.Test.YtacajcjibhifmaaDoorM16
set_option linter.unusedVariables false
set_option linter.unusedSimpArgs false
namespace Go.Proofs.YtacajcjibhifmaaDoor
open Go
theorem cnt1_le {X : List Int} (h : HM1 X) : 0 ≤ cnt1 X ∧ cnt1 X ≤ 1048576 := ⟨cnt1_nn X, by unfold cnt1 HM1 at *; omega⟩
theorem szI_cntA {xs : List Int} {l : Int} (h : ¬ szI xs l < 0) : cnt1 xs ≤ l - szI xs l := by
  unfold szI at *
  unfold cnt1
  split at h
  · omega
  · rename_i hc; rw [if_neg hc]; omega
theorem szRows_cntA {α : Type} {f : α → Int → Int} {ct : α → Int} (hc : ∀ x l, ¬ f x l < 0 → ct x ≤ l - f x l) : ∀ (r : List α) (l : Int), ¬ szRows f r l < 0 → cntL ct r ≤ l - szRows f r l
  | [], l, _ => by simp [cntL, szRows]
  | x :: r, l, h => by
    unfold szRows at *
    split at h
    · omega
    · rename_i hx
      have h1 := hc x l hx
      have h2 := szRows_cntA hc r (f x l) h
      rw [if_neg hx, cntL]; omega
theorem szL_cntA {α : Type} {f : α → Int → Int} {ct : α → Int} (hc : ∀ x l, ¬ f x l < 0 → ct x ≤ l - f x l) (r : List α) (l : Int) (h : ¬ szL f r l < 0) : cntL ct r ≤ l - szL f r l := by
  unfold szL at *
  split at h
  · omega
  · rename_i hx
    have := szRows_cntA hc r _ h
    rw [if_neg hx]; omega
theorem sz2_cntA {R : List (List Int)} {l : Int} (h0 : 0 ≤ l) (h1 : l ≤ 1048576) (h : ¬ sz2 R l < 0) : 0 ≤ cntL cnt1 R ∧ cntL cnt1 R ≤ 1048576 := ⟨cntL_nonneg cnt1_nn R, by
  have := szL_cntA (f := szI) (ct := cnt1) (fun x l hx => szI_cntA hx) R l h
  have e : szL szI R l = sz2 R l := rfl
  omega⟩
theorem sz3_cntA {R : List (List (List Int))} {l : Int} (h0 : 0 ≤ l) (h1 : l ≤ 1048576) (h : ¬ sz3 R l < 0) : 0 ≤ cntL cnt2 R ∧ cntL cnt2 R ≤ 1048576 := ⟨cntL_nonneg cnt2_nn R, by
  have := szL_cntA (f := sz2) (ct := cnt2) (fun x l hx => szL_cntA (f := szI) (ct := cnt1) (fun x l hx => szI_cntA hx) x l hx) R l h
  have e : szL sz2 R l = sz3 R l := rfl
  omega⟩
theorem szC_cntA {X : Cx} {l : Int} (h0 : 0 ≤ l) (h1 : l ≤ 1048576) (h : ¬ szC X l < 0) : 0 ≤ cnt1 X.dims ∧ 0 ≤ cntL cnt2 X.maps ∧ cnt1 X.dims + cntL cnt2 X.maps ≤ 1048576 := ⟨cnt1_nn _, cntL_nonneg cnt2_nn _, by
  unfold szC at h
  split at h
  · omega
  · rename_i h1
    split at h
    · omega
    · have a := szI_cntA h1
      have b := szL_cntA (f := sz2) (ct := cnt2) (fun x l hx => szL_cntA (f := szI) (ct := cnt1) (fun x l hx => szI_cntA hx) x l hx) X.maps _ (show ¬ szL sz2 X.maps (szI X.dims l) < 0 from by assumption)
      have e : szL sz2 X.maps (szI X.dims l) = sz3 X.maps (szI X.dims l) := rfl
      omega⟩
theorem cnt_mapA {α β : Type} {f : α → β} {c : α → Int} {c' : β → Int} (h : ∀ x, c' (f x) = c x) : ∀ xs : List α, cntL c' (xs.map f) = cntL c xs
  | [] => rfl
  | x :: r => by simp only [List.map_cons, cntL, h, cnt_mapA h r]
/-- A list whose elements count at most c each. -/
theorem cntL_bnd {α : Type} {ct : α → Int} {c : Int} (hc : 0 ≤ c) : ∀ {xs : List α} {m : Nat}, (∀ x ∈ xs, 0 ≤ ct x ∧ ct x ≤ c) → xs.length ≤ m → 0 ≤ cntL ct xs ∧ cntL ct xs ≤ m * c
  | [], m, _, _ => ⟨Int.le_refl _, Int.mul_nonneg (by omega) hc⟩
  | x :: r, m, h, hm => by
    have h1 := h x (by simp)
    simp only [List.length_cons] at hm
    obtain ⟨m', rfl⟩ : ∃ m', m = m' + 1 := ⟨m - 1, by omega⟩
    have h2 := cntL_bnd hc (xs := r) (m := m') (fun y hy => h y (List.mem_cons_of_mem _ hy)) (by omega)
    have e : ((m' + 1 : Nat) : Int) * c = (m' : Int) * c + c := by rw [Int.natCast_add, Int.add_mul]; simp
    rw [cntL, e]; omega

theorem eqS_same (v w : Value) (xs : List Int) (h : Heap) (hv : R1 h v xs) (hw : R1 h w xs) : CallA Tryd.prog 17 #[v, w] h fun u h' => u = .bool true ∧ h' = h := (eqS_ok v w xs xs h hv hw).mono fun u h' e => ⟨by rw [e.1]; simp, e.2⟩
theorem eqSS_same (v w : Value) (xs : List (List Int)) (h : Heap) (hv : R2 h v xs) (hw : R2 h w xs) : CallA Tryd.prog 42 #[v, w] h fun u h' => u = .bool true ∧ h' = h := (eqSS_ok v w xs xs h hv hw).mono fun u h' e => ⟨by rw [e.1]; simp, e.2⟩
theorem eqSSS_same (v w : Value) (xs : List (List (List Int))) (h : Heap) (hv : R3 h v xs) (hw : R3 h w xs) : CallA Tryd.prog 18 #[v, w] h fun u h' => u = .bool true ∧ h' = h := (eqSSS_ok v w xs xs h hv hw).mono fun u h' e => ⟨by rw [e.1]; simp, e.2⟩
theorem eqC_same (v w : Value) (X : Cx) (h : Heap) (hv : RC h v X) (hw : RC h w X) : CallA Tryd.prog 8 #[v, w] h fun u h' => u = .bool true ∧ Ext h h' := (eqC_ok v w X X h hv hw).mono fun u h' e => ⟨by rw [e.1, eqC_self], e.2⟩
end Go.Proofs.YtacajcjibhifmaaDoor
