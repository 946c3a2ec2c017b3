/-
  Walks: units.
  Conditions: each theorem's own.
-/
import Derived.Test.YtjjjgllbocgkbaaA1
set_option linter.unusedVariables false
set_option linter.unusedSimpArgs false
namespace Go.Proofs.Ytjjjgllbocgkbaa
open Go
def unitP (n i : Nat) : List Int := (List.replicate n 0).set i 1
def unitsP (d : Int) : List (List Int) := (List.range d.toNat).map fun i => unitP d.toNat i

set_option maxRecDepth 100000 in
theorem sUnit_ok (n : Int) (i : Int) (h : Heap)  (hn : 0 ≤ i ∧ i < n ∧ n ≤ 1048576) : CallA Try.prog 189 #[.int .i64 n, .int .i64 i] h fun v' h' => ∃ w0 f0, v' = w0 ∧ O1 h' w0 (unitP n.toNat i.toNat) f0 ∧ Fresh h.size f0 ∧ Ext h h' := by
  refine callA_intro TTok (args := [_, _]) Try.func189 (by kernel_rfl) rfl 12 rfl (by simp) [.tmp 4] rfl ?_
  simp only [idxs, Nat.reduceAdd]
  refine den_seq ?_
  refine den_region TTok ?_
  intro K hK
  simp -implicitDefEqProofs (disch := first | decide | assumption | omega) only [go_sem, wrap_id]
  refine hK _ _ ?_
  clear hK K
  refine den_seq ?_
  refine den_region TTok ?_
  intro K hK
  simp -implicitDefEqProofs (disch := first | decide | assumption | omega) only [go_sem, wrap_id]
  refine op_make sz22 rfl rfl (by omega) (by omega) OI 0 (fun _ => ⟨rfl, rfl⟩) ?_
  intro v1_1 h1_1 ho1_1 e1_1
  have := Ext.size e1_1
  have eB := e1_1
  have hfho1_1 : Fresh h.size [h.size] := Fresh.one _
  have hlenho1_1 : (List.replicate (n).toNat (0 : Int)).length = (n).toNat := List.length_replicate
  have hlho1_1 := OS.lt ho1_1
  try simp -implicitDefEqProofs (disch := first | decide | assumption | omega) only [go_sem, RdS.len (OS.rd ho1_1) sl22, RdS.idx (OS.rd ho1_1) sl22, R1.intN (OS.rd ho1_1), RdS.cells (OS.rd ho1_1), wrap_id]
  refine hK _ _ ?_
  clear hK K
  refine den_seq ?_
  refine den_region TTok ?_
  intro K hK
  simp -implicitDefEqProofs (disch := first | decide | assumption | omega) only [go_sem, RdS.len (OS.rd ho1_1) sl22, RdS.idx (OS.rd ho1_1) sl22, R1.intN (OS.rd ho1_1), RdS.cells (OS.rd ho1_1), wrap_id]
  refine op_store1 (j := (i).toNat) st2 ho1_1 hfho1_1.nodup (by first | omega | (simp; omega)) rfl rfl ?_
  intro h2_3 ho2_3 c2_3
  have hsz2_3 := c2_3.size
  have := c2_3.size
  replace eB := Ext.then eB c2_3 (ge_of hfho1_1 (by omega))
  have hlho2_3 := OS.lt ho2_3
  have hlenho2_3 : ((List.replicate (n).toNat 0).set ((i).toNat) (1 : Int) : List Int).length = (List.replicate (n).toNat 0 : List Int).length := List.length_set
  try simp -implicitDefEqProofs (disch := first | decide | assumption | omega) only [go_sem, RdS.len (OS.rd ho2_3) sl22, RdS.idx (OS.rd ho2_3) sl22, R1.intN (OS.rd ho2_3), RdS.cells (OS.rd ho2_3), wrap_id]
  refine hK _ _ ?_
  clear hK K
  refine den_seq ?_
  refine den_region TTok ?_
  intro K hK
  simp -implicitDefEqProofs (disch := first | decide | assumption | omega) only [go_sem, RdS.len (OS.rd ho2_3) sl22, RdS.idx (OS.rd ho2_3) sl22, R1.intN (OS.rd ho2_3), RdS.cells (OS.rd ho2_3), wrap_id]
  refine hK _ _ ?_
  clear hK K
  refine den_ret ?_
  simp (disch := decide) only [resP_1, puts_same, puts_ne]
  exact ⟨_, _, rfl, ho2_3, hfho1_1.mono (by omega), eB⟩

set_option maxRecDepth 100000 in
theorem iUnit_ok (n : Int) (i : Int) (h : Heap)  (hn : 0 ≤ i ∧ i < n ∧ n ≤ 1048576) : CallA Try.prog 210 #[.int .i64 n, .int .i64 i] h fun v' h' => ∃ w0 f0, v' = w0 ∧ O1 h' w0 (unitP n.toNat i.toNat) f0 ∧ Fresh h.size f0 ∧ Ext h h' := by
  refine callA_intro TTok (args := [_, _]) Try.func210 (by kernel_rfl) rfl 12 rfl (by simp) [.tmp 4] rfl ?_
  simp only [idxs, Nat.reduceAdd]
  refine den_seq ?_
  refine den_region TTok ?_
  intro K hK
  simp -implicitDefEqProofs (disch := first | decide | assumption | omega) only [go_sem, wrap_id]
  refine hK _ _ ?_
  clear hK K
  refine den_seq ?_
  refine den_region TTok ?_
  intro K hK
  simp -implicitDefEqProofs (disch := first | decide | assumption | omega) only [go_sem, wrap_id]
  refine op_make sz22 rfl rfl (by omega) (by omega) OI 0 (fun _ => ⟨rfl, rfl⟩) ?_
  intro v1_1 h1_1 ho1_1 e1_1
  have := Ext.size e1_1
  have eB := e1_1
  have hfho1_1 : Fresh h.size [h.size] := Fresh.one _
  have hlenho1_1 : (List.replicate (n).toNat (0 : Int)).length = (n).toNat := List.length_replicate
  have hlho1_1 := OS.lt ho1_1
  try simp -implicitDefEqProofs (disch := first | decide | assumption | omega) only [go_sem, RdS.len (OS.rd ho1_1) sl22, RdS.idx (OS.rd ho1_1) sl22, R1.intN (OS.rd ho1_1), RdS.cells (OS.rd ho1_1), wrap_id]
  refine hK _ _ ?_
  clear hK K
  refine den_seq ?_
  refine den_region TTok ?_
  intro K hK
  simp -implicitDefEqProofs (disch := first | decide | assumption | omega) only [go_sem, RdS.len (OS.rd ho1_1) sl22, RdS.idx (OS.rd ho1_1) sl22, R1.intN (OS.rd ho1_1), RdS.cells (OS.rd ho1_1), wrap_id]
  refine op_store1 (j := (i).toNat) st2 ho1_1 hfho1_1.nodup (by first | omega | (simp; omega)) rfl rfl ?_
  intro h2_3 ho2_3 c2_3
  have hsz2_3 := c2_3.size
  have := c2_3.size
  replace eB := Ext.then eB c2_3 (ge_of hfho1_1 (by omega))
  have hlho2_3 := OS.lt ho2_3
  have hlenho2_3 : ((List.replicate (n).toNat 0).set ((i).toNat) (1 : Int) : List Int).length = (List.replicate (n).toNat 0 : List Int).length := List.length_set
  try simp -implicitDefEqProofs (disch := first | decide | assumption | omega) only [go_sem, RdS.len (OS.rd ho2_3) sl22, RdS.idx (OS.rd ho2_3) sl22, R1.intN (OS.rd ho2_3), RdS.cells (OS.rd ho2_3), wrap_id]
  refine hK _ _ ?_
  clear hK K
  refine den_seq ?_
  refine den_region TTok ?_
  intro K hK
  simp -implicitDefEqProofs (disch := first | decide | assumption | omega) only [go_sem, RdS.len (OS.rd ho2_3) sl22, RdS.idx (OS.rd ho2_3) sl22, R1.intN (OS.rd ho2_3), RdS.cells (OS.rd ho2_3), wrap_id]
  refine hK _ _ ?_
  clear hK K
  refine den_ret ?_
  simp (disch := decide) only [resP_1, puts_same, puts_ne]
  exact ⟨_, _, rfl, ho2_3, hfho1_1.mono (by omega), eB⟩

end Go.Proofs.Ytjjjgllbocgkbaa
