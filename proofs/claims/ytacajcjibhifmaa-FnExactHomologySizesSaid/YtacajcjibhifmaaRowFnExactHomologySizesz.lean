/-
  FnExactHomologySizes: the program's function returns what the reference's returns, for all arguments.
  Conditions: none.
-/
import Derived.Test.YtacajcjibhifmaaRows
import Derived.Test.YtacajcjibhifmaaG16
import Derived.Test.YtacajcjibhifmaaZHomologySizes1
import Derived.Test.YtacajcjibhifmaaZHomologySizes2
import Derived.Test.YtacajcjibhifmaaZHomologySizes3
import Derived.Test.YtacajcjibhifmaaZHomologySizes4
import Derived.Test.YtacajcjibhifmaaZHomologySizes5
namespace Go.Proofs.Ytacajcjibhifmaa.fnExactHomologySizes
open Go Go.ChangeShapes Go.WideShapes Go.ChangeAt Go.RowKit Go.Joins
set_option linter.unusedVariables false
set_option linter.unusedSimpArgs false
theorem own : ownKnob Try.prog.godebug = none := by kernel_rfl
theorem laidOut : laidOutB Try.prog = true := by kernel_rfl
set_option maxRecDepth 100000 in
set_option maxHeartbeats 4000000 in
theorem lifted (os : Os) (started : os.Started) (H : Type) (enc : TypeId × Value → H) :
    ReturnsInHanded {} Try.checked os 7 .any (Rows.fnExactHomologySizesSpec.pre6 enc Try.prog Try.f7 Rows.fnExactHomologySizesRow.domain false) (Rows.fnExactHomologySizesSpec.post enc Try.prog Try.f7 false true false false) := by
  refine returnsInHanded_of_change_sized (C := Try.checked) own started (by kernel_rfl) Try.func7
    (ChangeSpec.witness6 (enc := enc) (C := Try.checked) false ⟨#[], #[.agg (dgA dgZ)], []⟩ 8 (by kernel_rfl) (by kernel_rfl) (by kernel_rfl) (by kernel_rfl)) ?_
  intro W base args ds gs before hval0 hW hcnd hsz0 _
  have hval : ∀ (j : Nat) t v, Try.f7.params[j]? = some t → args[j]? = some v → Value.okWide Try.prog W .any base t v := hval0
  have hW' := hW
  obtain ⟨p, q, hA0, hV, rfl, hfz, hnd⟩ := hW
  have hA : DataW.TrodAll enc Try.prog W 0 (fun _ => true) true Try.f7.params.toList args.toList ds p := hA0
  rw [Try.params7] at hA hval
  obtain ⟨v0, vs0, d0, ds0, p0, q0, hargs, rfl, rfl, h0, r0⟩ := trodAll_cons hA
  obtain ⟨rfl, rfl, rfl⟩ := trodAll_nil r0
  obtain rfl : args = #[v0] := by cases args; simp_all
  obtain ⟨rfl, rfl⟩ := trodVars_none hV
  have lt0 : ∀ x ∈ p0, x.block < W.heap.size := by obtain ⟨m, hm⟩ := h0; exact DataW.trod_lt m _ _ _ hm
  obtain ⟨X0, e0, x0⟩ := open_dga (hval 0 27 v0 rfl rfl) h0
  subst e0
  clear hA0 hval0 hsz0
  refine (CallA.calls (exactHomologySizes_law X0 _ x0)).mono fun e W' ⟨he, bel⟩ => ?_
  subst he
  exact ⟨_, rfl, _, _, _, [], _, [], hW', trodAll_mk1 (shut_bool Try.underlying4 _), (trodAll_cons_mk (Below.trod laidOut (by kernel_rfl) (of_decide_eq_true (by kernel_rfl)) h0 bel lt0) trodAll_mk0), rfl, bel.frame _, fun h => by cases h⟩
theorem fact1 : Try.pinned.checked.prog.funcNamed Rows.fnExactHomologySizesRow.func = some 7 := by kernel_rfl
theorem fact2 : joinedFacts Try.pinned.checked.prog 7 Try.f7 Rows.fnExactHomologySizesSpec Rows.fnExactHomologySizesRow = true := by kernel_rfl
theorem fact3 : Try.f7.isInstance Try.pinned.checked.prog Rows.fnExactHomologySizesRow.origin Rows.fnExactHomologySizesRow.targs := of_decide_eq_true (by kernel_rfl)
theorem fact4 : Try.f7.isWrapper Try.pinned.checked.prog Rows.fnExactHomologySizesRow.wrapper Rows.fnExactHomologySizesRow.mainSum := by
  unfold Func.isWrapper
  first
  | (rw [if_pos (by decide +kernel)]; kernel_rfl)
  | (rw [if_neg (by decide +kernel)]; exact ⟨rfl, rfl⟩)
theorem over : Rows.fnExactHomologySizesRow.holds Try.pinned (OpenSpec.ofChange Rows.fnExactHomologySizesSpec) :=
  OpenClaim.holds_of_wide 7 Try.f7 rfl rfl rfl rfl rfl rfl rfl ⟨rfl, rfl, rfl, rfl, rfl⟩ rfl rfl rfl rfl rfl fact1 Try.func7 fact2 fact3 fact4 (fun os started H enc _ => lifted os started H enc)
end Go.Proofs.Ytacajcjibhifmaa.fnExactHomologySizes
namespace Go.Proofs.Ytacajcjibhifmaa
/-- The statement, proved. -/
theorem fnExactHomologySizes_holds : Rows.FnExactHomologySizesSaid := fnExactHomologySizes.over
end Go.Proofs.Ytacajcjibhifmaa
