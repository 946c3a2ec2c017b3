/-
  FnExactProductFamily: the program's function returns what the reference's returns, for all arguments.
  Conditions: none.
-/
import Derived.Test.YtjjjgllbocgkbaaRows
import Derived.Test.YtjjjgllbocgkbaaG16
import Derived.Test.YtjjjgllbocgkbaaZProductFamily1
import Derived.Test.YtjjjgllbocgkbaaZProductFamily2
import Derived.Test.YtjjjgllbocgkbaaZProductFamily3
import Derived.Test.YtjjjgllbocgkbaaZProductFamily4
import Derived.Test.YtjjjgllbocgkbaaZProductFamily5
namespace Go.Proofs.Ytjjjgllbocgkbaa.fnExactProductFamily
open Go Go.ChangeShapes Go.WideShapes Go.ChangeAt Go.RowKit Go.Joins
set_option linter.unusedVariables false
set_option linter.unusedSimpArgs false
theorem own : ownKnob Try.prog.godebug = none := by kernel_rfl
theorem laidOut : laidOutB Try.prog = true := by kernel_rfl
set_option maxRecDepth 100000 in
set_option maxHeartbeats 4000000 in
theorem lifted (os : Os) (started : os.Started) (H : Type) (enc : TypeId × Value → H) :
    ReturnsInHanded {} Try.checked os 14 .any (Rows.fnExactProductFamilySpec.pre6 enc Try.prog Try.f14 Rows.fnExactProductFamilyRow.domain false) (Rows.fnExactProductFamilySpec.post enc Try.prog Try.f14 false true false false) := by
  refine returnsInHanded_of_change_sized (C := Try.checked) own started (by kernel_rfl) Try.func14
    (ChangeSpec.witness6 (enc := enc) (C := Try.checked) false ⟨#[], #[.agg #[.int .i64 0, .slice none 0 0, .slice none 0 0], .agg #[.int .i64 0, .slice none 0 0, .slice none 0 0], .slice none 0 0, .agg #[.int .i64 0, .slice none 0 0, .slice none 0 0], .agg #[.int .i64 0, .slice none 0 0, .slice none 0 0], .slice none 0 0], []⟩ 8 (by kernel_rfl) (by kernel_rfl) (by kernel_rfl) (by kernel_rfl)) ?_
  intro W base args ds gs before hval0 hW hcnd hsz0 _
  have hval : ∀ (j : Nat) t v, Try.f14.params[j]? = some t → args[j]? = some v → Value.okWide Try.prog W .any base t v := hval0
  have hW' := hW
  obtain ⟨p, q, hA0, hV, rfl, hfz, hnd⟩ := hW
  have hA : DataW.TrodAll enc Try.prog W 0 (fun _ => true) true Try.f14.params.toList args.toList ds p := hA0
  rw [Try.params14] at hA hval
  obtain ⟨v0, vs0, d0, ds0, p0, q0, hargs, rfl, rfl, h0, r0⟩ := trodAll_cons hA
  obtain ⟨v1, vs1, d1, ds1, p1, q1, rfl, rfl, rfl, h1, r1⟩ := trodAll_cons r0
  obtain ⟨v2, vs2, d2, ds2, p2, q2, rfl, rfl, rfl, h2, r2⟩ := trodAll_cons r1
  obtain ⟨v3, vs3, d3, ds3, p3, q3, rfl, rfl, rfl, h3, r3⟩ := trodAll_cons r2
  obtain ⟨v4, vs4, d4, ds4, p4, q4, rfl, rfl, rfl, h4, r4⟩ := trodAll_cons r3
  obtain ⟨v5, vs5, d5, ds5, p5, q5, rfl, rfl, rfl, h5, r5⟩ := trodAll_cons r4
  obtain ⟨rfl, rfl, rfl⟩ := trodAll_nil r5
  obtain rfl : args = #[v0, v1, v2, v3, v4, v5] := by cases args; simp_all
  obtain ⟨rfl, rfl⟩ := trodVars_none hV
  have lt0 : ∀ x ∈ p0, x.block < W.heap.size := by obtain ⟨m, hm⟩ := h0; exact DataW.trod_lt m _ _ _ hm
  obtain ⟨X0, x0⟩ := open_cx (hval 0 25 v0 rfl rfl) h0
  have lt1 : ∀ x ∈ p1, x.block < W.heap.size := by obtain ⟨m, hm⟩ := h1; exact DataW.trod_lt m _ _ _ hm
  obtain ⟨X1, x1⟩ := open_cx (hval 1 25 v1 rfl rfl) h1
  obtain ⟨a2, len2, cap2, rfl⟩ := okWide_slice Try.underlying23 (hval 2 23 v2 rfl rfl)
  have lt2 : ∀ x ∈ p2, x.block < W.heap.size := by obtain ⟨m, hm⟩ := h2; exact DataW.trod_lt m _ _ _ hm
  obtain ⟨X2, x2⟩ : ∃ xs, R3 W.heap (.slice a2 len2 cap2) xs := by
    obtain ⟨m, hm⟩ := h2
    obtain ⟨u, xs, e, k⟩ := opens3 _ _ _ _ _ _ _ _ _ hm
    simp [Value.cells] at e
    subst e
    exact ⟨xs, k⟩
  have lt3 : ∀ x ∈ p3, x.block < W.heap.size := by obtain ⟨m, hm⟩ := h3; exact DataW.trod_lt m _ _ _ hm
  obtain ⟨X3, x3⟩ := open_cx (hval 3 25 v3 rfl rfl) h3
  have lt4 : ∀ x ∈ p4, x.block < W.heap.size := by obtain ⟨m, hm⟩ := h4; exact DataW.trod_lt m _ _ _ hm
  obtain ⟨X4, x4⟩ := open_cx (hval 4 25 v4 rfl rfl) h4
  obtain ⟨a5, len5, cap5, rfl⟩ := okWide_slice Try.underlying23 (hval 5 23 v5 rfl rfl)
  have lt5 : ∀ x ∈ p5, x.block < W.heap.size := by obtain ⟨m, hm⟩ := h5; exact DataW.trod_lt m _ _ _ hm
  obtain ⟨X5, x5⟩ : ∃ xs, R3 W.heap (.slice a5 len5 cap5) xs := by
    obtain ⟨m, hm⟩ := h5
    obtain ⟨u, xs, e, k⟩ := opens3 _ _ _ _ _ _ _ _ _ hm
    simp [Value.cells] at e
    subst e
    exact ⟨xs, k⟩
  clear hA0 hval0 hsz0
  refine (CallA.calls (exactProductFamily_law _ _ _ _ _ _ X0 X1 X2 X3 X4 X5 _ x0 x1 x2 x3 x4 x5)).mono fun e W' ⟨he, bel⟩ => ?_
  subst he
  exact ⟨_, rfl, _, _, _, [], _, [], hW', trodAll_mk1 (shut_bool Try.underlying4 _), (trodAll_cons_mk (Below.trod laidOut (by kernel_rfl) (of_decide_eq_true (by kernel_rfl)) h0 bel lt0) (trodAll_cons_mk (Below.trod laidOut (by kernel_rfl) (of_decide_eq_true (by kernel_rfl)) h1 bel lt1) (trodAll_cons_mk (Below.trod laidOut (by kernel_rfl) (of_decide_eq_true (by kernel_rfl)) h2 bel lt2) (trodAll_cons_mk (Below.trod laidOut (by kernel_rfl) (of_decide_eq_true (by kernel_rfl)) h3 bel lt3) (trodAll_cons_mk (Below.trod laidOut (by kernel_rfl) (of_decide_eq_true (by kernel_rfl)) h4 bel lt4) (trodAll_cons_mk (Below.trod laidOut (by kernel_rfl) (of_decide_eq_true (by kernel_rfl)) h5 bel lt5) trodAll_mk0)))))), rfl, bel.frame _, fun h => by cases h⟩
theorem fact1 : Try.pinned.checked.prog.funcNamed Rows.fnExactProductFamilyRow.func = some 14 := by kernel_rfl
theorem fact2 : joinedFacts Try.pinned.checked.prog 14 Try.f14 Rows.fnExactProductFamilySpec Rows.fnExactProductFamilyRow = true := by kernel_rfl
theorem fact3 : Try.f14.isInstance Try.pinned.checked.prog Rows.fnExactProductFamilyRow.origin Rows.fnExactProductFamilyRow.targs := of_decide_eq_true (by kernel_rfl)
theorem fact4 : Try.f14.isWrapper Try.pinned.checked.prog Rows.fnExactProductFamilyRow.wrapper Rows.fnExactProductFamilyRow.mainSum := by
  unfold Func.isWrapper
  first
  | (rw [if_pos (by decide +kernel)]; kernel_rfl)
  | (rw [if_neg (by decide +kernel)]; exact ⟨rfl, rfl⟩)
theorem over : Rows.fnExactProductFamilyRow.holds Try.pinned (OpenSpec.ofChange Rows.fnExactProductFamilySpec) :=
  OpenClaim.holds_of_wide 14 Try.f14 rfl rfl rfl rfl rfl rfl rfl ⟨rfl, rfl, rfl, rfl, rfl⟩ rfl rfl rfl rfl rfl fact1 Try.func14 fact2 fact3 fact4 (fun os started H enc _ => lifted os started H enc)
end Go.Proofs.Ytjjjgllbocgkbaa.fnExactProductFamily
namespace Go.Proofs.Ytjjjgllbocgkbaa
/-- The statement, proved. -/
theorem fnExactProductFamily_holds : Rows.FnExactProductFamilySaid := fnExactProductFamily.over
end Go.Proofs.Ytjjjgllbocgkbaa
