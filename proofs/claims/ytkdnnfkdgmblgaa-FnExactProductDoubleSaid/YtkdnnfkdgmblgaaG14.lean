/-
  The ground, fifteenth part: guards that are open, and where their ways meet again.
  Conditions: none.
-/
import Derived.Test.YtkdnnfkdgmblgaaG13
set_option linter.unusedVariables false
set_option linter.unusedSimpArgs false
namespace Go.Proofs.Ytkdnnfkdgmblgaa
open Go

section
variable {P : Program} {n : Nat} {Qr : Env → Heap → Prop} {k : List It} {env : Env} {h : Heap}
theorem tt : (true == true) = true := rfl
theorem tf : (true == false) = false := rfl
theorem ft : (false == true) = false := rfl
theorem ff : (false == false) = true := rfl
attribute [go_sem] tt tf ft ff Bool.not_true Bool.not_false
/-- Every way through c leaves L and R; the slots ts stay. -/
theorem den_merge {c : Code} (L : List (Nat × Value)) (ts : List Nat) (R : Heap → Prop)
    (h1 : den P n Qr (.code c :: .stop (fun env' h' => HasL env' (L ++ sel env ts) ∧ R h') :: k) env h) (h2 : ∀ e h', R h' → den P n Qr k (puts e (L ++ sel env ts)) h') : den P n Qr (.code c :: k) env h := by
  refine den_join _ h1 ?_
  rintro env' h' ⟨hl, hr⟩
  have := h2 env' h' hr
  rwa [hl.puts] at this
theorem den_mergeH {c : Code} (L : List (Nat × Value)) (ts : List Nat) (h1 : den P n Qr (.code c :: .stop (fun env' h' => HasL env' (L ++ sel env ts) ∧ h' = h) :: k) env h) (h2 : ∀ e, den P n Qr k (puts e (L ++ sel env ts)) h) : den P n Qr (.code c :: k) env h :=
  den_merge L ts (fun H => H = h) h1 (fun e h' hh => by rw [hh]; exact h2 e)
/-- A loop that leaves the heap alone. -/
theorem den_loopP {σ : Type} {e : Env} {lc : List (Nat × Value)} {c : Code} (st : σ → List (Nat × Value)) (I : σ → Prop) (μ : σ → Nat) (s0 : σ) (hI : h = h ∧ I s0)
    (round : ∀ s e, I s → den P n Qr (.code c :: .stop (fun env' h' => ∃ s', HasL env' (st s' ++ lc) ∧ (h' = h ∧ I s') ∧ μ s' < μ s) :: k) (puts e (st s ++ lc)) h) :
    den P n Qr (.code (.loop c) :: k) (puts e (st s0 ++ lc)) h :=
  den_loopS st (fun s H => H = h ∧ I s) μ s0 hI (fun s H e hs => by rw [hs.1]; exact round s e hs.2)
end
theorem CallA.pure {P : Program} {g : FuncId} {args : Array Value} {h : Heap} {w : Value} {R : Value → Heap → Prop} (hc : CallA P g args h fun v h' => v = w ∧ h' = h) (hr : R w h) : CallA P g args h R :=
  hc.mono fun v h' ⟨e1, e2⟩ => by rw [e1, e2]; exact hr
theorem resP_c1 {T : Tab} {R : Value → Heap → Prop} {env : Env} {h : Heap} {a : Nat} {t : TypeId} : resP T [.cell a t] R env h = Bd (asAd (env a)) fun ad => Bd (loadV T h t ad) fun v => R v h := by
  unfold resP resV resL resL
  cases asAd (env a) with
  | none => rfl
  | some ad =>
    simp only [Option.bind_some, Bd_some]
    cases loadV T h t ad <;> rfl
def allOne : List Value → Prop
  | [] => True
  | v :: r => v.oneCell' = true ∧ allOne r
theorem allOne_mem : ∀ {l : List Value}, allOne l → ∀ v ∈ l.toArray.toList, v.oneCell' = true
  | [], _, v, hv => by cases hv
  | u :: r, h, v, hv => by
    rcases List.mem_cons.1 hv with rfl | hv
    · exact h.1
    · exact allOne_mem h.2 v hv
/-- Comparing from the left. -/
theorem eq_step {α : Type} {xs ys : List α} {d d' : α} {k : Nat} (hl : xs.length = ys.length) (hk : k < xs.length) (h : xs.take k = ys.take k) (e : xs.getD k d = ys.getD k d') : xs.take (k + 1) = ys.take (k + 1) := by
  rw [List.take_succ_eq_append_getElem hk, List.take_succ_eq_append_getElem (by omega : k < ys.length), h]
  rw [List.getD_eq_getElem?_getD, List.getElem?_eq_getElem hk, List.getD_eq_getElem?_getD, List.getElem?_eq_getElem (by omega : k < ys.length)] at e
  simp only [Option.getD_some] at e
  rw [e]
theorem eq_stop {α : Type} {xs ys : List α} {d : α} {k : Nat} (e : xs.getD k d ≠ ys.getD k d) : xs ≠ ys := fun h => e (by rw [h])
theorem eq_end {α : Type} {xs ys : List α} {k : Nat} (hl : xs.length = ys.length) (hk : ¬ k < xs.length) (h : xs.take k = ys.take k) : xs = ys := by
  rwa [List.take_of_length_le (by omega), List.take_of_length_le (by omega)] at h
end Go.Proofs.Ytkdnnfkdgmblgaa
