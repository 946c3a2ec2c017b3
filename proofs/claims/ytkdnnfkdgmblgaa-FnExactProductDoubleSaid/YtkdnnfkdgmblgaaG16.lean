/-
  The ground, seventeenth part: arguments as the statements give them, opened into what the walks ask.
  Conditions: none.
-/
import Derived.Test.YtkdnnfkdgmblgaaG15
import Derived.WalkKit
import Derived.ProofKit
import Derived.OpenShut
import Derived.ShutString
import Derived.ChangeOld
import Derived.Below
import Derived.SizedLaws
import Derived.Lib.SmallJoins
set_option linter.unusedVariables false
set_option linter.unusedSimpArgs false
namespace Go.Proofs.Ytkdnnfkdgmblgaa
open Go Go.ChangeShapes Go.WideShapes Go.ChangeAt Go.RowKit Go.Joins
set_option maxRecDepth 100000

/-- What reads as data of type t is one value, and reads by E. -/
def Opens {α : Type} (P : Program) (t : TypeId) (E : Heap → Value → α → Prop) : Prop :=
  ∀ (H : Type) (enc : TypeId × Value → H) (w : World) (base : Nat) (spare : Nat → Bool) (held : Bool) (fuel : Nat) (cs : List Value) (x : DataW H × List MemPlace), DataW.trod enc P w base spare held fuel t cs = some x → ∃ v a, cs = [v] ∧ E w.heap v a
theorem opens_int {P : Program} {t : TypeId} (ht : P.underlying t = some (.int .i64)) : Opens P t RdI := by
  intro H enc w base spare held fuel cs x h
  obtain ⟨n, rfl, _, _⟩ := DataW.trod_int ht h
  exact ⟨_, n, rfl, rfl⟩
theorem choose_list {α : Type} {Q : Nat → α → Prop} : ∀ n : Nat, (∀ i, i < n → ∃ a, Q i a) → ∃ xs : List α, xs.length = n ∧ ∀ i (hi : i < xs.length), Q i xs[i]
  | 0, _ => ⟨[], rfl, fun i hi => by simp at hi⟩
  | n + 1, h => by
    obtain ⟨xs, hl, hx⟩ := choose_list n (fun i hi => h i (by omega))
    obtain ⟨a, ha⟩ := h n (by omega)
    refine ⟨xs ++ [a], by simp [hl], fun i hi => ?_⟩
    by_cases hc : i < xs.length
    · rw [List.getElem_append_left hc]; exact hx i hc
    · have : i = n := by simp at hi; omega
      subst this
      rw [List.getElem_append_right (by omega)]
      simpa [hl] using ha
theorem opens_slice {α : Type} {P : Program} {t e : TypeId} {E : Heap → Value → α → Prop} (ht : P.underlying t = some (.slice e)) (hc : P.cellsOf e = 1) (he : Opens P e E) : Opens P t (RdS E) := by
  intro H enc w base spare held fuel cs x h
  rcases DataW.trod_slice ht h with ⟨rfl, _⟩ | ⟨a, len, cap, elems, rest, n, _, rfl, _, hb, hl, hm, hlen, hel, _, _⟩
  · exact ⟨_, [], rfl, none, 0, rfl, .inr rfl, by simp, by omega, fun j hj => by simp at hj⟩
  · have each : ∀ i, i < len → ∃ q, ∃ u, hcell w.heap (a.add i) = some u ∧ E w.heap u q := by
      intro i hi
      have h1 := hel i hi
      have hi' : i < elems.length := by omega
      rw [hc, Nat.mul_one, List.getElem?_eq_getElem hi', Option.bind_eq_some_iff] at h1
      obtain ⟨cs', hcs, hy⟩ := h1
      obtain ⟨u, q, rfl, hq⟩ := he H enc w base spare held n cs' _ hy
      refine ⟨q, u, ?_, hq⟩
      rw [← cell_hw]
      exact cell_of_cells?_one hcs
    obtain ⟨xs, hxl, hx⟩ := choose_list len each
    have hm' : cap ≤ 9223372036854775807 := Nat.le_trans hm (by decide)
    exact ⟨_, xs, rfl, some a, cap, by rw [hxl], .inl rfl, by omega, hm', fun j hj => hx j hj⟩

theorem opens1 : Opens Try.prog 22 R1 := opens_slice Try.underlying22 (by kernel_rfl) (opens_int Try.underlying2)
theorem opens2 : Opens Try.prog 27 R2 := opens_slice Try.underlying27 (by kernel_rfl) opens1
theorem opens3 : Opens Try.prog 23 R3 := opens_slice Try.underlying23 (by kernel_rfl) opens2
theorem open_cx {H : Type} {enc : TypeId × Value → H} {w : World} {base : Nat} {spare : Nat → Bool} {held : Bool} {r : Reach} {b0 : Nat} {v : Value} {d : DataW H} {p : List MemPlace}
    (hv : Value.okWide Try.prog w r b0 25 v) (h : DataW.Trod enc Try.prog w base spare held 25 v d p) : ∃ X, RC w.heap v X := by
  obtain ⟨v0, v1, v2, y0, y1, y2, n, rfl, _, _, h0, h1, h2⟩ := open_agg3 Try.underlying25 (by kernel_rfl) (by kernel_rfl) hv h
  obtain ⟨u0, a0, e0, k0⟩ := opens_int Try.underlying2 _ _ _ _ _ _ _ _ _ h0
  obtain ⟨u1, a1, e1, k1⟩ := opens1 _ _ _ _ _ _ _ _ _ h1
  obtain ⟨u2, a2, e2, k2⟩ := opens3 _ _ _ _ _ _ _ _ _ h2
  injection e0 with e0
  injection e1 with e1
  injection e2 with e2
  subst e0; subst e1; subst e2
  exact ⟨⟨a0, a1, a2⟩, _, _, by rw [show v0 = .int .i64 a0 from k0], k1, k2⟩

/-- What a proved call leaves, as the rows ask it. -/
theorem CallA.calls {P : Program} {g : FuncId} {args : Array Value} {w : World} {u : Value} (hc : CallA P g args w.heap fun v h' => v = u ∧ Ext w.heap h') : Calls P g args w fun e w' => e = .returned u ∧ Below w.heap.size w w' := by
  obtain ⟨fn, _, _, _, h⟩ := hc
  refine (h w rfl).mono ?_
  rintro e w' ⟨v, he, hf, hv, hx⟩
  exact ⟨by rw [he, hv], hf.os, hf.tape, hf.output, hx.size, hx.block⟩
end Go.Proofs.Ytkdnnfkdgmblgaa
