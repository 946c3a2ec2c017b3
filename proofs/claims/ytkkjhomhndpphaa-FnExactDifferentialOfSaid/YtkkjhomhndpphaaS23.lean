/-
  Walks: vectors of the reference.
  Conditions: each theorem's own.
-/
import Derived.Test.YtkkjhomhndpphaaS22
set_option linter.unusedVariables false
set_option linter.unusedSimpArgs false
namespace Go.Proofs.Ytkkjhomhndpphaa
open Go
section
variable {P : Program} {n : Nat} {K : Env → Heap → Prop} {env : Env} {h : Heap} {d : Option Tmp} {ty : TypeId} {p : String} {a : Array Edge} {g : Option (Nat × Bool)} {t e : TypeId} {bytes : Nat} {z : Value}
-- a slice of one row that is read
set_option maxRecDepth 100000 in
theorem op_bs1R {x : Operand} {u : Value} {xs : List Int} (sz : SlZ TT t e bytes z) (hx : ev env x = u) (hu : R1 h u xs) (hk : ∀ v' h', R2 h' v' [xs] → Ext h h' → outv n ⟨d, .buildSlice t 1 #[(0, x)], ty, p, a, g⟩ K env h' v') :
    opP P TT n ⟨d, .buildSlice t 1 #[(0, x)], ty, p, a, g⟩ K env h := by
  refine op_bs1 sz hx (RdS.cells hu) ?_
  have ex := Ext.push h (.cells #[u] e)
  have hb := BoxAt.new h #[u] e
  refine hk _ _ ⟨some ⟨h.size, 0, none⟩, 1, rfl, .inl rfl, by simp, by omega, fun j hj => ?_⟩ ex
  have hj' : j = 0 := by simp at hj; omega
  subst hj'
  exact ⟨u, by simp only [sA, addr_add, hb.cell]; rfl, hu.pres ex.pres⟩
end

set_option maxRecDepth 100000 in
theorem sVec_ok (p w : Int) (v : Value) (xs : List Int) (h : Heap) (hv : R1 h v xs) (hp : -9223372036854775807 ≤ p ∧ p ≤ 9223372036854775807) : CallA Try.prog 94 #[.int .i64 p, v, .int .i64 w] h fun v' h' => v' = .bool (isRow p w xs) ∧ Ext h h' := by
  refine callA_intro TTok (args := [_, _, _]) Try.func94 (by kernel_rfl) rfl 12 rfl (by simp) [.tmp 6] rfl ?_
  simp only [idxs, Nat.reduceAdd]
  refine den_seq ?_
  refine den_region TTok ?_
  intro K hK
  simp -implicitDefEqProofs (disch := first | decide | assumption | omega) only [go_sem, RdS.len hv sl37, RdS.idx hv sl37, R1.intB hv (HPres.refl _), RdS.cells hv]
  refine hK _ _ ?_
  clear hK K
  refine den_seq ?_
  refine den_region TTok ?_
  intro K hK
  simp -implicitDefEqProofs (disch := first | decide | assumption | omega) only [go_sem, RdS.len hv sl37, RdS.idx hv sl37, R1.intB hv (HPres.refl _), RdS.cells hv]
  refine op_bs1R (xs := xs) sz65 rfl hv ?_
  intro v1_2 h1_2 hl1_2 e1_2
  have := Ext.size e1_2
  have eB := e1_2
  try simp -implicitDefEqProofs (disch := first | decide | assumption | omega) only [go_sem, RdS.len hv sl37, RdS.idx hv sl37, R1.intB hv (Ext.pres eB), RdS.cells hv]
  try simp -implicitDefEqProofs (disch := first | decide | assumption | omega) only [go_sem, RdS.len hv sl37, RdS.idx hv sl37, R1.intB hv (Ext.pres eB), RdS.cells hv]
  refine CallA.pure (sTable_ok _ _ [xs] _ _ _ hl1_2 hp) ?_
  try simp -implicitDefEqProofs (disch := first | decide | assumption | omega) only [go_sem, RdS.len hv sl37, RdS.idx hv sl37, R1.intB hv (Ext.pres eB), RdS.cells hv]
  refine hK _ _ ?_
  clear hK K
  refine den_ret ?_
  simp (disch := decide) only [resP_1, puts_same, puts_ne]
  exact ⟨vbool (by simp [tableP]), eB⟩

end Go.Proofs.Ytkkjhomhndpphaa
