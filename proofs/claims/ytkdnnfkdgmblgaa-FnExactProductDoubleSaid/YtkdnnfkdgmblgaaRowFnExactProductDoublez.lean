/-
  FnExactProductDouble: the program's function returns what the reference's returns, for all arguments.
  Conditions: none.
-/
import Derived.Test.YtkdnnfkdgmblgaaRows
import Derived.Test.YtkdnnfkdgmblgaaG16
import Derived.Test.YtkdnnfkdgmblgaaZProductDouble1
import Derived.Test.YtkdnnfkdgmblgaaZProductDouble2
import Derived.Test.YtkdnnfkdgmblgaaZProductDouble3
import Derived.Test.YtkdnnfkdgmblgaaZProductDouble4
import Derived.Test.YtkdnnfkdgmblgaaZProductDouble5
namespace Go.Proofs.Ytkdnnfkdgmblgaa.fnExactProductDouble
open Go Go.ChangeShapes Go.WideShapes Go.ChangeAt Go.RowKit Go.Joins
set_option linter.unusedVariables false
set_option linter.unusedSimpArgs false
theorem own : ownKnob Try.prog.godebug = none := by kernel_rfl
theorem laidOut : laidOutB Try.prog = true := by kernel_rfl
set_option maxRecDepth 100000 in
set_option maxHeartbeats 4000000 in
theorem lifted (os : Os) (started : os.Started) (H : Type) (enc : TypeId × Value → H) :
    ReturnsInHanded {} Try.checked os 3 .any (Rows.fnExactProductDoubleSpec.pre6 enc Try.prog Try.f3 Rows.fnExactProductDoubleRow.domain false) (Rows.fnExactProductDoubleSpec.post enc Try.prog Try.f3 false true false false) := by
  refine returnsInHanded_of_change_sized (C := Try.checked) own started (by kernel_rfl) Try.func3
    (ChangeSpec.witness6 (enc := enc) (C := Try.checked) false ⟨#[], #[.agg #[.int .i64 0, .slice none 0 0, .slice none 0 0], .agg #[.int .i64 0, .slice none 0 0, .slice none 0 0]], []⟩ 8 (by kernel_rfl) (by kernel_rfl) (by kernel_rfl) (by kernel_rfl)) ?_
  intro W base args ds gs before hval0 hW hcnd hsz0 _
  have hval : ∀ (j : Nat) t v, Try.f3.params[j]? = some t → args[j]? = some v → Value.okWide Try.prog W .any base t v := hval0
  have hW' := hW
  obtain ⟨p, q, hA0, hV, rfl, hfz, hnd⟩ := hW
  have hA : DataW.TrodAll enc Try.prog W 0 (fun _ => true) true Try.f3.params.toList args.toList ds p := hA0
  rw [Try.params3] at hA hval
  obtain ⟨v0, vs0, d0, ds0, p0, q0, hargs, rfl, rfl, h0, r0⟩ := trodAll_cons hA
  obtain ⟨v1, vs1, d1, ds1, p1, q1, rfl, rfl, rfl, h1, r1⟩ := trodAll_cons r0
  obtain ⟨rfl, rfl, rfl⟩ := trodAll_nil r1
  obtain rfl : args = #[v0, v1] := by cases args; simp_all
  obtain ⟨rfl, rfl⟩ := trodVars_none hV
  have lt0 : ∀ x ∈ p0, x.block < W.heap.size := by obtain ⟨m, hm⟩ := h0; exact DataW.trod_lt m _ _ _ hm
  obtain ⟨X0, x0⟩ := open_cx (hval 0 25 v0 rfl rfl) h0
  have lt1 : ∀ x ∈ p1, x.block < W.heap.size := by obtain ⟨m, hm⟩ := h1; exact DataW.trod_lt m _ _ _ hm
  obtain ⟨X1, x1⟩ := open_cx (hval 1 25 v1 rfl rfl) h1
  clear hA0 hval0 hsz0
  refine (CallA.calls (exactProductDouble_law _ _ X0 X1 _ x0 x1)).mono fun e W' ⟨he, bel⟩ => ?_
  subst he
  exact ⟨_, rfl, _, _, _, [], _, [], hW', trodAll_mk1 (shut_bool Try.underlying4 _), (trodAll_cons_mk (Below.trod laidOut (by kernel_rfl) (of_decide_eq_true (by kernel_rfl)) h0 bel lt0) (trodAll_cons_mk (Below.trod laidOut (by kernel_rfl) (of_decide_eq_true (by kernel_rfl)) h1 bel lt1) trodAll_mk0)), rfl, bel.frame _, fun h => by cases h⟩
theorem fact1 : Try.pinned.checked.prog.funcNamed Rows.fnExactProductDoubleRow.func = some 3 := by kernel_rfl
theorem fact2 : joinedFacts Try.pinned.checked.prog 3 Try.f3 Rows.fnExactProductDoubleSpec Rows.fnExactProductDoubleRow = true := by kernel_rfl
theorem fact3 : Try.f3.isInstance Try.pinned.checked.prog Rows.fnExactProductDoubleRow.origin Rows.fnExactProductDoubleRow.targs := of_decide_eq_true (by kernel_rfl)
theorem fact4 : Try.f3.isWrapper Try.pinned.checked.prog Rows.fnExactProductDoubleRow.wrapper Rows.fnExactProductDoubleRow.mainSum := by
  unfold Func.isWrapper
  first
  | (rw [if_pos (by decide +kernel)]; kernel_rfl)
  | (rw [if_neg (by decide +kernel)]; exact ⟨rfl, rfl⟩)
theorem over : Rows.fnExactProductDoubleRow.holds Try.pinned (OpenSpec.ofChange Rows.fnExactProductDoubleSpec) :=
  OpenClaim.holds_of_wide 3 Try.f3 rfl rfl rfl rfl rfl rfl rfl ⟨rfl, rfl, rfl, rfl, rfl⟩ rfl rfl rfl rfl rfl fact1 Try.func3 fact2 fact3 fact4 (fun os started H enc _ => lifted os started H enc)
end Go.Proofs.Ytkdnnfkdgmblgaa.fnExactProductDouble
namespace Go.Proofs.Ytkdnnfkdgmblgaa
/-- The statement, proved. -/
theorem fnExactProductDouble_holds : Rows.FnExactProductDoubleSaid := fnExactProductDouble.over
end Go.Proofs.Ytkdnnfkdgmblgaa
