/-
  FnDgas: the program's function returns what the reference's returns, for all arguments.
  Conditions: none.
-/
import Derived.Test.YtacajcjibhifmaaRows
import Derived.Test.YtacajcjibhifmaaZDgas1
import Derived.Test.YtacajcjibhifmaaZDgas2
import Derived.Test.YtacajcjibhifmaaZDgas3
import Derived.Test.YtacajcjibhifmaaZDgas4
import Derived.Test.YtacajcjibhifmaaZDgas5
import Derived.Test.YtacajcjibhifmaaZDgas6
import Derived.Test.YtacajcjibhifmaaZDgas7
namespace Go.Proofs.Ytacajcjibhifmaa.fnDgas
open Go Go.ChangeShapes Go.WideShapes Go.ChangeAt Go.RowKit Go.Joins
set_option linter.unusedVariables false
set_option linter.unusedSimpArgs false
theorem own : ownKnob Try.prog.godebug = none := by kernel_rfl
theorem laidOut : laidOutB Try.prog = true := by kernel_rfl
set_option maxRecDepth 100000 in
set_option maxHeartbeats 4000000 in
theorem lifted (os : Os) (started : os.Started) (H : Type) (enc : TypeId × Value → H) :
    ReturnsInHanded {} Try.checked os 4 .any (Rows.fnDgasSpec.pre6 enc Try.prog Try.f4 Rows.fnDgasRow.domain false) (Rows.fnDgasSpec.post enc Try.prog Try.f4 false true false false) := by
  refine returnsInHanded_of_change_sized (C := Try.checked) own started (by kernel_rfl) Try.func4
    (ChangeSpec.witness6 (enc := enc) (C := Try.checked) false ⟨#[], #[.slice none 0 0], []⟩ 8 (by kernel_rfl) (by kernel_rfl) (by kernel_rfl) (by kernel_rfl)) ?_
  intro W base args ds gs before hval0 hW hcnd hsz0 _
  have hval : ∀ (j : Nat) t v, Try.f4.params[j]? = some t → args[j]? = some v → Value.okWide Try.prog W .any base t v := hval0
  have hW' := hW
  obtain ⟨p, q, hA0, hV, rfl, hfz, hnd⟩ := hW
  have hA : DataW.TrodAll enc Try.prog W 0 (fun _ => true) true Try.f4.params.toList args.toList ds p := hA0
  rw [Try.params4] at hA hval
  obtain ⟨v0, vs0, d0, ds0, p0, q0, hargs, rfl, rfl, h0, r0⟩ := trodAll_cons hA
  obtain ⟨rfl, rfl, rfl⟩ := trodAll_nil r0
  obtain rfl : args = #[v0] := by cases args; simp_all
  obtain ⟨rfl, rfl⟩ := trodVars_none hV
  obtain ⟨a0, len0, cap0, rfl⟩ := okWide_slice Try.underlying37 (hval 0 37 v0 rfl rfl)
  have lt0 : ∀ x ∈ p0, x.block < W.heap.size := by obtain ⟨m, hm⟩ := h0; exact DataW.trod_lt m _ _ _ hm
  obtain ⟨X0, x0⟩ : ∃ xs, RY W.heap (.slice a0 len0 cap0) xs := by
    obtain ⟨m, hm⟩ := h0
    obtain ⟨u, xs, e, k⟩ := opensY _ _ _ _ _ _ _ _ _ hm
    simp [Value.cells] at e
    subst e
    exact ⟨xs, k⟩
  clear hA0 hval0 hsz0
  refine (CallA.calls (dgas_law _ X0 _ x0)).mono fun e W' ⟨he, bel⟩ => ?_
  subst he
  exact ⟨_, rfl, _, _, _, [], _, [], hW', trodAll_mk1 (shut_bool Try.underlying4 _), (trodAll_cons_mk (Below.trod laidOut (by kernel_rfl) (of_decide_eq_true (by kernel_rfl)) h0 bel lt0) trodAll_mk0), rfl, bel.frame _, fun h => by cases h⟩
theorem fact1 : Try.pinned.checked.prog.funcNamed Rows.fnDgasRow.func = some 4 := by kernel_rfl
theorem fact2 : joinedFacts Try.pinned.checked.prog 4 Try.f4 Rows.fnDgasSpec Rows.fnDgasRow = true := by kernel_rfl
theorem fact3 : Try.f4.isInstance Try.pinned.checked.prog Rows.fnDgasRow.origin Rows.fnDgasRow.targs := of_decide_eq_true (by kernel_rfl)
theorem fact4 : Try.f4.isWrapper Try.pinned.checked.prog Rows.fnDgasRow.wrapper Rows.fnDgasRow.mainSum := by
  unfold Func.isWrapper
  first
  | (rw [if_pos (by decide +kernel)]; kernel_rfl)
  | (rw [if_neg (by decide +kernel)]; exact ⟨rfl, rfl⟩)
theorem over : Rows.fnDgasRow.holds Try.pinned (OpenSpec.ofChange Rows.fnDgasSpec) :=
  OpenClaim.holds_of_wide 4 Try.f4 rfl rfl rfl rfl rfl rfl rfl ⟨rfl, rfl, rfl, rfl, rfl⟩ rfl rfl rfl rfl rfl fact1 Try.func4 fact2 fact3 fact4 (fun os started H enc _ => lifted os started H enc)
end Go.Proofs.Ytacajcjibhifmaa.fnDgas
namespace Go.Proofs.Ytacajcjibhifmaa
/-- The statement, proved. -/
theorem fnDgas_holds : Rows.FnDgasSaid := fnDgas.over
end Go.Proofs.Ytacajcjibhifmaa
