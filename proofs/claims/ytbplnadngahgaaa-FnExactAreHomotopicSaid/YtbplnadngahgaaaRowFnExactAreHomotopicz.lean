/-
  FnExactAreHomotopic: the program's function returns what the reference's returns, for all arguments.
  Conditions: none.
-/
import Derived.Test.YtbplnadngahgaaaRows
import Derived.Test.YtbplnadngahgaaaG16
import Derived.Test.YtbplnadngahgaaaZAreHomotopic1
import Derived.Test.YtbplnadngahgaaaZAreHomotopic2
import Derived.Test.YtbplnadngahgaaaZAreHomotopic3
import Derived.Test.YtbplnadngahgaaaZAreHomotopic4
import Derived.Test.YtbplnadngahgaaaZAreHomotopic5
namespace Go.Proofs.Ytbplnadngahgaaa.fnExactAreHomotopic
open Go Go.ChangeShapes Go.WideShapes Go.ChangeAt Go.RowKit Go.Joins
set_option linter.unusedVariables false
set_option linter.unusedSimpArgs false
theorem own : ownKnob Try.prog.godebug = none := by kernel_rfl
theorem laidOut : laidOutB Try.prog = true := by kernel_rfl
set_option maxRecDepth 100000 in
set_option maxHeartbeats 4000000 in
theorem lifted (os : Os) (started : os.Started) (H : Type) (enc : TypeId × Value → H) :
    ReturnsInHanded {} Try.checked os 3 .any (Rows.fnExactAreHomotopicSpec.pre6 enc Try.prog Try.f3 Rows.fnExactAreHomotopicRow.domain false) (Rows.fnExactAreHomotopicSpec.post enc Try.prog Try.f3 false true false false) := by
  refine returnsInHanded_of_change_sized (C := Try.checked) own started (by kernel_rfl) Try.func3
    (ChangeSpec.witness6 (enc := enc) (C := Try.checked) false ⟨#[], #[.agg #[.int .i64 0, .slice none 0 0, .slice none 0 0], .agg #[.int .i64 0, .slice none 0 0, .slice none 0 0], .slice none 0 0, .slice none 0 0], []⟩ 8 (by kernel_rfl) (by kernel_rfl) (by kernel_rfl) (by kernel_rfl)) ?_
  intro W base args ds gs before hval0 hW hcnd hsz0 _
  have hval : ∀ (j : Nat) t v, Try.f3.params[j]? = some t → args[j]? = some v → Value.okWide Try.prog W .any base t v := hval0
  have hW' := hW
  obtain ⟨p, q, hA0, hV, rfl, hfz, hnd⟩ := hW
  have hA : DataW.TrodAll enc Try.prog W 0 (fun _ => true) true Try.f3.params.toList args.toList ds p := hA0
  rw [Try.params3] at hA hval
  obtain ⟨v0, vs0, d0, ds0, p0, q0, hargs, rfl, rfl, h0, r0⟩ := trodAll_cons hA
  obtain ⟨v1, vs1, d1, ds1, p1, q1, rfl, rfl, rfl, h1, r1⟩ := trodAll_cons r0
  obtain ⟨v2, vs2, d2, ds2, p2, q2, rfl, rfl, rfl, h2, r2⟩ := trodAll_cons r1
  obtain ⟨v3, vs3, d3, ds3, p3, q3, rfl, rfl, rfl, h3, r3⟩ := trodAll_cons r2
  obtain ⟨rfl, rfl, rfl⟩ := trodAll_nil r3
  obtain rfl : args = #[v0, v1, v2, v3] := by cases args; simp_all
  obtain ⟨rfl, rfl⟩ := trodVars_none hV
  have lt0 : ∀ x ∈ p0, x.block < W.heap.size := by obtain ⟨m, hm⟩ := h0; exact DataW.trod_lt m _ _ _ hm
  obtain ⟨X0, x0⟩ := open_cx (hval 0 25 v0 rfl rfl) h0
  have lt1 : ∀ x ∈ p1, x.block < W.heap.size := by obtain ⟨m, hm⟩ := h1; exact DataW.trod_lt m _ _ _ hm
  obtain ⟨X1, x1⟩ := open_cx (hval 1 25 v1 rfl rfl) h1
  obtain ⟨a2, len2, cap2, rfl⟩ := okWide_slice Try.underlying23 (hval 2 23 v2 rfl rfl)
  have lt2 : ∀ x ∈ p2, x.block < W.heap.size := by obtain ⟨m, hm⟩ := h2; exact DataW.trod_lt m _ _ _ hm
  obtain ⟨X2, x2⟩ : ∃ xs, R3 W.heap (.slice a2 len2 cap2) xs := by
    obtain ⟨m, hm⟩ := h2
    obtain ⟨u, xs, e, k⟩ := opens3 _ _ _ _ _ _ _ _ _ hm
    simp [Value.cells] at e
    subst e
    exact ⟨xs, k⟩
  obtain ⟨a3, len3, cap3, rfl⟩ := okWide_slice Try.underlying23 (hval 3 23 v3 rfl rfl)
  have lt3 : ∀ x ∈ p3, x.block < W.heap.size := by obtain ⟨m, hm⟩ := h3; exact DataW.trod_lt m _ _ _ hm
  obtain ⟨X3, x3⟩ : ∃ xs, R3 W.heap (.slice a3 len3 cap3) xs := by
    obtain ⟨m, hm⟩ := h3
    obtain ⟨u, xs, e, k⟩ := opens3 _ _ _ _ _ _ _ _ _ hm
    simp [Value.cells] at e
    subst e
    exact ⟨xs, k⟩
  clear hA0 hval0 hsz0
  refine (CallA.calls (exactAreHomotopic_law _ _ _ _ X0 X1 X2 X3 _ x0 x1 x2 x3)).mono fun e W' ⟨he, bel⟩ => ?_
  subst he
  exact ⟨_, rfl, _, _, _, [], _, [], hW', trodAll_mk1 (shut_bool Try.underlying4 _), (trodAll_cons_mk (Below.trod laidOut (by kernel_rfl) (of_decide_eq_true (by kernel_rfl)) h0 bel lt0) (trodAll_cons_mk (Below.trod laidOut (by kernel_rfl) (of_decide_eq_true (by kernel_rfl)) h1 bel lt1) (trodAll_cons_mk (Below.trod laidOut (by kernel_rfl) (of_decide_eq_true (by kernel_rfl)) h2 bel lt2) (trodAll_cons_mk (Below.trod laidOut (by kernel_rfl) (of_decide_eq_true (by kernel_rfl)) h3 bel lt3) trodAll_mk0)))), rfl, bel.frame _, fun h => by cases h⟩
theorem fact1 : Try.pinned.checked.prog.funcNamed Rows.fnExactAreHomotopicRow.func = some 3 := by kernel_rfl
theorem fact2 : joinedFacts Try.pinned.checked.prog 3 Try.f3 Rows.fnExactAreHomotopicSpec Rows.fnExactAreHomotopicRow = true := by kernel_rfl
theorem fact3 : Try.f3.isInstance Try.pinned.checked.prog Rows.fnExactAreHomotopicRow.origin Rows.fnExactAreHomotopicRow.targs := of_decide_eq_true (by kernel_rfl)
theorem fact4 : Try.f3.isWrapper Try.pinned.checked.prog Rows.fnExactAreHomotopicRow.wrapper Rows.fnExactAreHomotopicRow.mainSum := by
  unfold Func.isWrapper
  first
  | (rw [if_pos (by decide +kernel)]; kernel_rfl)
  | (rw [if_neg (by decide +kernel)]; exact ⟨rfl, rfl⟩)
theorem over : Rows.fnExactAreHomotopicRow.holds Try.pinned (OpenSpec.ofChange Rows.fnExactAreHomotopicSpec) :=
  OpenClaim.holds_of_wide 3 Try.f3 rfl rfl rfl rfl rfl rfl rfl ⟨rfl, rfl, rfl, rfl, rfl⟩ rfl rfl rfl rfl rfl fact1 Try.func3 fact2 fact3 fact4 (fun os started H enc _ => lifted os started H enc)
end Go.Proofs.Ytbplnadngahgaaa.fnExactAreHomotopic
namespace Go.Proofs.Ytbplnadngahgaaa
/-- The statement, proved. -/
theorem fnExactAreHomotopic_holds : Rows.FnExactAreHomotopicSaid := fnExactAreHomotopic.over
end Go.Proofs.Ytbplnadngahgaaa
