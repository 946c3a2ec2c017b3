/-
  FnExactTensorDga: the program's function returns what the reference's returns, for all arguments.
  Conditions: none.
-/
import Derived.Test.YtacajcjibhifmaaRows
import Derived.Test.YtacajcjibhifmaaG16
import Derived.Test.YtacajcjibhifmaaZTensorDga1
import Derived.Test.YtacajcjibhifmaaZTensorDga2
import Derived.Test.YtacajcjibhifmaaZTensorDga3
import Derived.Test.YtacajcjibhifmaaZTensorDga4
import Derived.Test.YtacajcjibhifmaaZTensorDga5
namespace Go.Proofs.Ytacajcjibhifmaa.fnExactTensorDga
open Go Go.ChangeShapes Go.WideShapes Go.ChangeAt Go.RowKit Go.Joins
set_option linter.unusedVariables false
set_option linter.unusedSimpArgs false
theorem own : ownKnob Try.prog.godebug = none := by kernel_rfl
theorem laidOut : laidOutB Try.prog = true := by kernel_rfl
set_option maxRecDepth 100000 in
set_option maxHeartbeats 4000000 in
theorem lifted (os : Os) (started : os.Started) (H : Type) (enc : TypeId × Value → H) :
    ReturnsInHanded {} Try.checked os 6 .any (Rows.fnExactTensorDgaSpec.pre6 enc Try.prog Try.f6 Rows.fnExactTensorDgaRow.domain false) (Rows.fnExactTensorDgaSpec.post enc Try.prog Try.f6 false true false false) := by
  refine returnsInHanded_of_change_sized (C := Try.checked) own started (by kernel_rfl) Try.func6
    (ChangeSpec.witness6 (enc := enc) (C := Try.checked) false ⟨#[], #[.agg (dgA dgZ), .agg (dgA dgZ)], []⟩ 8 (by kernel_rfl) (by kernel_rfl) (by kernel_rfl) (by kernel_rfl)) ?_
  intro W base args ds gs before hval0 hW hcnd hsz0 _
  have hval : ∀ (j : Nat) t v, Try.f6.params[j]? = some t → args[j]? = some v → Value.okWide Try.prog W .any base t v := hval0
  have hW' := hW
  obtain ⟨p, q, hA0, hV, rfl, hfz, hnd⟩ := hW
  have hA : DataW.TrodAll enc Try.prog W 0 (fun _ => true) true Try.f6.params.toList args.toList ds p := hA0
  rw [Try.params6] at hA hval
  obtain ⟨v0, vs0, d0, ds0, p0, q0, hargs, rfl, rfl, h0, r0⟩ := trodAll_cons hA
  obtain ⟨v1, vs1, d1, ds1, p1, q1, rfl, rfl, rfl, h1, r1⟩ := trodAll_cons r0
  obtain ⟨rfl, rfl, rfl⟩ := trodAll_nil r1
  obtain rfl : args = #[v0, v1] := by cases args; simp_all
  obtain ⟨rfl, rfl⟩ := trodVars_none hV
  have lt0 : ∀ x ∈ p0, x.block < W.heap.size := by obtain ⟨m, hm⟩ := h0; exact DataW.trod_lt m _ _ _ hm
  obtain ⟨X0, e0, x0⟩ := open_dga (hval 0 27 v0 rfl rfl) h0
  subst e0
  have lt1 : ∀ x ∈ p1, x.block < W.heap.size := by obtain ⟨m, hm⟩ := h1; exact DataW.trod_lt m _ _ _ hm
  obtain ⟨X1, e1, x1⟩ := open_dga (hval 1 27 v1 rfl rfl) h1
  subst e1
  clear hA0 hval0 hsz0
  refine (CallA.calls (exactTensorDga_law X0 X1 _ x0 x1)).mono fun e W' ⟨he, bel⟩ => ?_
  subst he
  exact ⟨_, rfl, _, _, _, [], _, [], hW', trodAll_mk1 (shut_bool Try.underlying4 _), (trodAll_cons_mk (Below.trod laidOut (by kernel_rfl) (of_decide_eq_true (by kernel_rfl)) h0 bel lt0) (trodAll_cons_mk (Below.trod laidOut (by kernel_rfl) (of_decide_eq_true (by kernel_rfl)) h1 bel lt1) trodAll_mk0)), rfl, bel.frame _, fun h => by cases h⟩
theorem fact1 : Try.pinned.checked.prog.funcNamed Rows.fnExactTensorDgaRow.func = some 6 := by kernel_rfl
theorem fact2 : joinedFacts Try.pinned.checked.prog 6 Try.f6 Rows.fnExactTensorDgaSpec Rows.fnExactTensorDgaRow = true := by kernel_rfl
theorem fact3 : Try.f6.isInstance Try.pinned.checked.prog Rows.fnExactTensorDgaRow.origin Rows.fnExactTensorDgaRow.targs := of_decide_eq_true (by kernel_rfl)
theorem fact4 : Try.f6.isWrapper Try.pinned.checked.prog Rows.fnExactTensorDgaRow.wrapper Rows.fnExactTensorDgaRow.mainSum := by
  unfold Func.isWrapper
  first
  | (rw [if_pos (by decide +kernel)]; kernel_rfl)
  | (rw [if_neg (by decide +kernel)]; exact ⟨rfl, rfl⟩)
theorem over : Rows.fnExactTensorDgaRow.holds Try.pinned (OpenSpec.ofChange Rows.fnExactTensorDgaSpec) :=
  OpenClaim.holds_of_wide 6 Try.f6 rfl rfl rfl rfl rfl rfl rfl ⟨rfl, rfl, rfl, rfl, rfl⟩ rfl rfl rfl rfl rfl fact1 Try.func6 fact2 fact3 fact4 (fun os started H enc _ => lifted os started H enc)
end Go.Proofs.Ytacajcjibhifmaa.fnExactTensorDga
namespace Go.Proofs.Ytacajcjibhifmaa
/-- The statement, proved. -/
theorem fnExactTensorDga_holds : Rows.FnExactTensorDgaSaid := fnExactTensorDga.over
end Go.Proofs.Ytacajcjibhifmaa
