/-
  FnExactPageSizes: the program's function returns what the reference's returns, for all arguments.
  Conditions: none.
-/
import Derived.Test.YtjjjgllbocgkbaaRows
import Derived.Test.YtjjjgllbocgkbaaG16
import Derived.Test.YtjjjgllbocgkbaaZPageSizes1
import Derived.Test.YtjjjgllbocgkbaaZPageSizes2
import Derived.Test.YtjjjgllbocgkbaaZPageSizes3
import Derived.Test.YtjjjgllbocgkbaaZPageSizes4
import Derived.Test.YtjjjgllbocgkbaaZPageSizes5
namespace Go.Proofs.Ytjjjgllbocgkbaa.fnExactPageSizes
open Go Go.ChangeShapes Go.WideShapes Go.ChangeAt Go.RowKit Go.Joins
set_option linter.unusedVariables false
set_option linter.unusedSimpArgs false
theorem own : ownKnob Try.prog.godebug = none := by kernel_rfl
theorem laidOut : laidOutB Try.prog = true := by kernel_rfl
set_option maxRecDepth 100000 in
set_option maxHeartbeats 4000000 in
theorem lifted (os : Os) (started : os.Started) (H : Type) (enc : TypeId × Value → H) :
    ReturnsInHanded {} Try.checked os 12 .any (Rows.fnExactPageSizesSpec.pre6 enc Try.prog Try.f12 Rows.fnExactPageSizesRow.domain false) (Rows.fnExactPageSizesSpec.post enc Try.prog Try.f12 false true false false) := by
  refine returnsInHanded_of_change_sized (C := Try.checked) own started (by kernel_rfl) Try.func12
    (ChangeSpec.witness6 (enc := enc) (C := Try.checked) false ⟨#[], #[.agg #[.int .i64 0, .int .i64 0, .int .i64 0, .slice none 0 0, .slice none 0 0, .slice none 0 0], .int .i64 0], []⟩ 8 (by kernel_rfl) (by kernel_rfl) (by kernel_rfl) (by kernel_rfl)) ?_
  intro W base args ds gs before hval0 hW hcnd hsz0 _
  have hval : ∀ (j : Nat) t v, Try.f12.params[j]? = some t → args[j]? = some v → Value.okWide Try.prog W .any base t v := hval0
  have hW' := hW
  obtain ⟨p, q, hA0, hV, rfl, hfz, hnd⟩ := hW
  have hA : DataW.TrodAll enc Try.prog W 0 (fun _ => true) true Try.f12.params.toList args.toList ds p := hA0
  rw [Try.params12] at hA hval
  obtain ⟨v0, vs0, d0, ds0, p0, q0, hargs, rfl, rfl, h0, r0⟩ := trodAll_cons hA
  obtain ⟨v1, vs1, d1, ds1, p1, q1, rfl, rfl, rfl, h1, r1⟩ := trodAll_cons r0
  obtain ⟨rfl, rfl, rfl⟩ := trodAll_nil r1
  obtain rfl : args = #[v0, v1] := by cases args; simp_all
  obtain ⟨rfl, rfl⟩ := trodVars_none hV
  have lt0 : ∀ x ∈ p0, x.block < W.heap.size := by obtain ⟨m, hm⟩ := h0; exact DataW.trod_lt m _ _ _ hm
  obtain ⟨X0, x0⟩ := open_cp (hval 0 51 v0 rfl rfl) h0
  obtain ⟨a1, rfl, rfl, rfl, w1⟩ := open_int Try.underlying2 (hval 1 2 v1 rfl rfl) h1
  clear hA0 hval0 hsz0
  refine (CallA.calls (exactPageSizes_law _ X0 a1 _ x0)).mono fun e W' ⟨he, bel⟩ => ?_
  subst he
  exact ⟨_, rfl, _, _, _, [], _, [], hW', trodAll_mk1 (shut_bool Try.underlying4 _), (trodAll_cons_mk (Below.trod laidOut (by kernel_rfl) (of_decide_eq_true (by kernel_rfl)) h0 bel lt0) (trodAll_cons_mk (shut_int Try.underlying2 w1) trodAll_mk0)), rfl, bel.frame _, fun h => by cases h⟩
theorem fact1 : Try.pinned.checked.prog.funcNamed Rows.fnExactPageSizesRow.func = some 12 := by kernel_rfl
theorem fact2 : joinedFacts Try.pinned.checked.prog 12 Try.f12 Rows.fnExactPageSizesSpec Rows.fnExactPageSizesRow = true := by kernel_rfl
theorem fact3 : Try.f12.isInstance Try.pinned.checked.prog Rows.fnExactPageSizesRow.origin Rows.fnExactPageSizesRow.targs := of_decide_eq_true (by kernel_rfl)
theorem fact4 : Try.f12.isWrapper Try.pinned.checked.prog Rows.fnExactPageSizesRow.wrapper Rows.fnExactPageSizesRow.mainSum := by
  unfold Func.isWrapper
  first
  | (rw [if_pos (by decide +kernel)]; kernel_rfl)
  | (rw [if_neg (by decide +kernel)]; exact ⟨rfl, rfl⟩)
theorem over : Rows.fnExactPageSizesRow.holds Try.pinned (OpenSpec.ofChange Rows.fnExactPageSizesSpec) :=
  OpenClaim.holds_of_wide 12 Try.f12 rfl rfl rfl rfl rfl rfl rfl ⟨rfl, rfl, rfl, rfl, rfl⟩ rfl rfl rfl rfl rfl fact1 Try.func12 fact2 fact3 fact4 (fun os started H enc _ => lifted os started H enc)
end Go.Proofs.Ytjjjgllbocgkbaa.fnExactPageSizes
namespace Go.Proofs.Ytjjjgllbocgkbaa
/-- The statement, proved. -/
theorem fnExactPageSizes_holds : Rows.FnExactPageSizesSaid := fnExactPageSizes.over
end Go.Proofs.Ytjjjgllbocgkbaa
