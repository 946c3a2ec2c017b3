/-
  Walks: units.
  Conditions: each theorem's own.
-/
import Derived.Test.YtffggocjkhcgeaaA1
set_option linter.unusedVariables false
set_option linter.unusedSimpArgs false
namespace Go.Proofs.Ytffggocjkhcgeaa
open Go
def unitP (n i : Nat) : List Int := (List.replicate n 0).set i 1
def unitsP (d : Int) : List (List Int) := (List.range d.toNat).map fun i => unitP d.toNat i

set_option maxRecDepth 100000 in
theorem sUnit_ok (n : Int) (i : Int) (h : Heap)  (hn : 0 ≤ i ∧ i < n ∧ n ≤ 1048576) : CallA Try.prog 122 #[.int .i64 n, .int .i64 i] h fun v' h' => ∃ w0 f0, v' = w0 ∧ O1 h' w0 (unitP n.toNat i.toNat) f0 ∧ Fresh h.size f0 ∧ Ext h h' := by
  refine callA_intro TTok (args := [_, _]) Try.func122 (by kernel_rfl) rfl 12 rfl (by simp) [.tmp 4] rfl ?_
  simp only [idxs, Nat.reduceAdd]
  refine den_seq ?_
  refine den_region TTok ?_
  intro K hK
  simp -implicitDefEqProofs (disch := first | decide | assumption | omega) only [go_sem, wrap_id]
  refine hK _ _ ?_
  clear hK K
  refine den_seq ?_
  refine den_region TTok ?_
  intro K hK
  simp -implicitDefEqProofs (disch := first | decide | assumption | omega) only [go_sem, wrap_id]
  refine op_make sz22 rfl rfl (by omega) (by omega) OI 0 (fun _ => ⟨rfl, rfl⟩) ?_
  intro v1_1 h1_1 ho1_1 e1_1
  have := Ext.size e1_1
  have eB := e1_1
  have hfho1_1 : Fresh h.size [h.size] := Fresh.one _
  have hlenho1_1 : (List.replicate (n).toNat (0 : Int)).length = (n).toNat := List.length_replicate
  have hlho1_1 := OS.lt ho1_1
  try simp -implicitDefEqProofs (disch := first | decide | assumption | omega) only [go_sem, RdS.len (OS.rd ho1_1) sl22, RdS.idx (OS.rd ho1_1) sl22, R1.intN (OS.rd ho1_1), RdS.cells (OS.rd ho1_1), wrap_id]
  refine hK _ _ ?_
  clear hK K
  refine den_seq ?_
  refine den_region TTok ?_
  intro K hK
  simp -implicitDefEqProofs (disch := first | decide | assumption | omega) only [go_sem, RdS.len (OS.rd ho1_1) sl22, RdS.idx (OS.rd ho1_1) sl22, R1.intN (OS.rd ho1_1), RdS.cells (OS.rd ho1_1), wrap_id]
  refine op_store1 (j := (i).toNat) st2 ho1_1 hfho1_1.nodup (by first | omega | (simp; omega)) rfl rfl ?_
  intro h2_3 ho2_3 c2_3
  have hsz2_3 := c2_3.size
  have := c2_3.size
  replace eB := Ext.then eB c2_3 (ge_of hfho1_1 (by omega))
  have hlho2_3 := OS.lt ho2_3
  have hlenho2_3 : ((List.replicate (n).toNat 0).set ((i).toNat) (1 : Int) : List Int).length = (List.replicate (n).toNat 0 : List Int).length := List.length_set
  try simp -implicitDefEqProofs (disch := first | decide | assumption | omega) only [go_sem, RdS.len (OS.rd ho2_3) sl22, RdS.idx (OS.rd ho2_3) sl22, R1.intN (OS.rd ho2_3), RdS.cells (OS.rd ho2_3), wrap_id]
  refine hK _ _ ?_
  clear hK K
  refine den_seq ?_
  refine den_region TTok ?_
  intro K hK
  simp -implicitDefEqProofs (disch := first | decide | assumption | omega) only [go_sem, RdS.len (OS.rd ho2_3) sl22, RdS.idx (OS.rd ho2_3) sl22, R1.intN (OS.rd ho2_3), RdS.cells (OS.rd ho2_3), wrap_id]
  refine hK _ _ ?_
  clear hK K
  refine den_ret ?_
  simp (disch := decide) only [resP_1, puts_same, puts_ne]
  exact ⟨_, _, rfl, ho2_3, hfho1_1.mono (by omega), eB⟩

set_option maxRecDepth 100000 in
theorem iUnit_ok (n : Int) (i : Int) (h : Heap)  (hn : 0 ≤ i ∧ i < n ∧ n ≤ 1048576) : CallA Try.prog 154 #[.int .i64 n, .int .i64 i] h fun v' h' => ∃ w0 f0, v' = w0 ∧ O1 h' w0 (unitP n.toNat i.toNat) f0 ∧ Fresh h.size f0 ∧ Ext h h' := by
  refine callA_intro TTok (args := [_, _]) Try.func154 (by kernel_rfl) rfl 12 rfl (by simp) [.tmp 4] rfl ?_
  simp only [idxs, Nat.reduceAdd]
  refine den_seq ?_
  refine den_region TTok ?_
  intro K hK
  simp -implicitDefEqProofs (disch := first | decide | assumption | omega) only [go_sem, wrap_id]
  refine hK _ _ ?_
  clear hK K
  refine den_seq ?_
  refine den_region TTok ?_
  intro K hK
  simp -implicitDefEqProofs (disch := first | decide | assumption | omega) only [go_sem, wrap_id]
  refine op_make sz22 rfl rfl (by omega) (by omega) OI 0 (fun _ => ⟨rfl, rfl⟩) ?_
  intro v1_1 h1_1 ho1_1 e1_1
  have := Ext.size e1_1
  have eB := e1_1
  have hfho1_1 : Fresh h.size [h.size] := Fresh.one _
  have hlenho1_1 : (List.replicate (n).toNat (0 : Int)).length = (n).toNat := List.length_replicate
  have hlho1_1 := OS.lt ho1_1
  try simp -implicitDefEqProofs (disch := first | decide | assumption | omega) only [go_sem, RdS.len (OS.rd ho1_1) sl22, RdS.idx (OS.rd ho1_1) sl22, R1.intN (OS.rd ho1_1), RdS.cells (OS.rd ho1_1), wrap_id]
  refine hK _ _ ?_
  clear hK K
  refine den_seq ?_
  refine den_region TTok ?_
  intro K hK
  simp -implicitDefEqProofs (disch := first | decide | assumption | omega) only [go_sem, RdS.len (OS.rd ho1_1) sl22, RdS.idx (OS.rd ho1_1) sl22, R1.intN (OS.rd ho1_1), RdS.cells (OS.rd ho1_1), wrap_id]
  refine op_store1 (j := (i).toNat) st2 ho1_1 hfho1_1.nodup (by first | omega | (simp; omega)) rfl rfl ?_
  intro h2_3 ho2_3 c2_3
  have hsz2_3 := c2_3.size
  have := c2_3.size
  replace eB := Ext.then eB c2_3 (ge_of hfho1_1 (by omega))
  have hlho2_3 := OS.lt ho2_3
  have hlenho2_3 : ((List.replicate (n).toNat 0).set ((i).toNat) (1 : Int) : List Int).length = (List.replicate (n).toNat 0 : List Int).length := List.length_set
  try simp -implicitDefEqProofs (disch := first | decide | assumption | omega) only [go_sem, RdS.len (OS.rd ho2_3) sl22, RdS.idx (OS.rd ho2_3) sl22, R1.intN (OS.rd ho2_3), RdS.cells (OS.rd ho2_3), wrap_id]
  refine hK _ _ ?_
  clear hK K
  refine den_seq ?_
  refine den_region TTok ?_
  intro K hK
  simp -implicitDefEqProofs (disch := first | decide | assumption | omega) only [go_sem, RdS.len (OS.rd ho2_3) sl22, RdS.idx (OS.rd ho2_3) sl22, R1.intN (OS.rd ho2_3), RdS.cells (OS.rd ho2_3), wrap_id]
  refine hK _ _ ?_
  clear hK K
  refine den_ret ?_
  simp (disch := decide) only [resP_1, puts_same, puts_ne]
  exact ⟨_, _, rfl, ho2_3, hfho1_1.mono (by omega), eB⟩

set_option maxRecDepth 100000 in
theorem iUnits_ok (n : Int) (h : Heap)  (hn : 0 ≤ n ∧ n ≤ 1048576) : CallA Try.prog 125 #[.int .i64 n] h fun v' h' => ∃ w0 f0, v' = w0 ∧ O2 h' w0 (unitsP n) f0 ∧ Fresh h.size f0 ∧ Ext h h' := by
  refine callA_intro TTok (args := [_]) Try.func125 (by kernel_rfl) rfl 18 rfl (by simp) [.tmp 2] rfl ?_
  simp only [idxs, Nat.reduceAdd]
  refine den_seq ?_
  refine den_region TTok ?_
  intro K hK
  simp -implicitDefEqProofs (disch := first | decide | assumption | omega) only [go_sem, wrap_id]
  refine hK _ _ ?_
  clear hK K
  refine den_seq ?_
  refine den_region TTok ?_
  intro K hK
  simp -implicitDefEqProofs (disch := first | decide | assumption | omega) only [go_sem, wrap_id]
  refine op_bs0 sz56 O1 ?_
  intro v1_0 h1_0 ho1_0 e1_0
  have := Ext.size e1_0
  have eB := e1_0
  have hfho1_0 : Fresh h.size [h.size] := Fresh.one _
  have hlho1_0 := OS.lt ho1_0
  try simp -implicitDefEqProofs (disch := first | decide | assumption | omega) only [go_sem, RdS.len (OS.rd ho1_0) sl56, RdS.idx (OS.rd ho1_0) sl56, RdS.cellN (OS.rd ho1_0), RdS.cells (OS.rd ho1_0), wrap_id]
  refine hK _ _ ?_
  clear hK K
  refine den_seq ?_
  refine den_seq ?_
  refine den_region TTok ?_
  intro K hK
  simp -implicitDefEqProofs (disch := first | decide | assumption | omega) only [go_sem, RdS.len (OS.rd ho1_0) sl56, RdS.idx (OS.rd ho1_0) sl56, RdS.cellN (OS.rd ho1_0), RdS.cells (OS.rd ho1_0), wrap_id]
  refine hK _ _ ?_
  clear hK K
  refine den_block ?_
  refine den_sel [3, 7, 0, 6] ?_
  intro env_1
  simp only [go_sem]
  refine den_loopS (σ := Nat × Value × List Nat) (fun st_ => [(3, st_.2.1), (7, .int .i64 (st_.1 : Int))]) (fun st_ H => ((st_.1 : Int) ≤ n) ∧ (O2 H st_.2.1 ((List.range st_.1).map fun i => unitP n.toNat i) st_.2.2) ∧ (Fresh (h.size) st_.2.2) ∧ (Sub [h.size] h1_0.size st_.2.2) ∧ (Chg [h.size] h1_0 H)) (fun st_ => n.toNat - st_.1) (0, v1_0, [h.size]) ?_ ?_
  · exact ⟨by first | (simp; done) | (dsimp only; omega) | (simp; omega), by simpa using ho1_0, hfho1_0, Sub.refl, Chg.refl _ _⟩
  · rintro ⟨k, vhO, fphO⟩ h4 ee3 ⟨hi0, hO, hfhO, sbhO, cL2⟩
    dsimp only at hi0 hO hfhO sbhO cL2
    have := cL2.size
    replace eB := Ext.then eB cL2 (ge_of hfho1_0 (by omega))
    have hlhO := OS.lt hO
    simp only [List.cons_append, List.nil_append]
    have hlr : ((List.range k).map fun i => unitP n.toNat i).length = k := by simp
    refine den_seq ?_
    refine den_region TTok ?_
    intro K hK
    simp -implicitDefEqProofs (disch := first | decide | assumption | omega) only [go_sem, RdS.len (OS.rd hO) sl56, RdS.idx (OS.rd hO) sl56, RdS.cellN (OS.rd hO), RdS.cells (OS.rd hO), wrap_id]
    refine hK _ _ ?_
    clear hK K
    refine den_seq ?_
    refine den_cond rfl (fun c0 => ?_) (fun c0 => ?_)
    · try simp only [decide_eq_true_eq, decide_eq_false_iff_not, beq_iff_eq, beq_eq_false_iff_ne, bne_iff_ne, ne_eq, Bool.not_eq_true', Bool.not_eq_false', Bool.and_eq_true, Bool.or_eq_true, bne_eq_false_iff_eq] at c0
      refine den_skip ?_
      refine den_seq ?_
      refine den_block ?_
      refine den_seq ?_
      refine den_region TTok ?_
      intro K hK
      simp -implicitDefEqProofs (disch := first | decide | assumption | omega) only [go_sem, RdS.len (OS.rd hO) sl56, RdS.idx (OS.rd hO) sl56, RdS.cellN (OS.rd hO), RdS.cells (OS.rd hO), wrap_id]
      refine hK _ _ ?_
      clear hK K
      refine den_region TTok ?_
      intro K hK
      simp -implicitDefEqProofs (disch := first | decide | assumption | omega) only [go_sem, RdS.len (OS.rd hO) sl56, RdS.idx (OS.rd hO) sl56, RdS.cellN (OS.rd hO), RdS.cells (OS.rd hO), wrap_id]
      try simp -implicitDefEqProofs (disch := first | decide | assumption | omega) only [go_sem, RdS.len (OS.rd hO) sl56, RdS.idx (OS.rd hO) sl56, RdS.cellN (OS.rd hO), RdS.cells (OS.rd hO), wrap_id]
      refine CallA.mono (iUnit_ok  n (k : Int) _  (by omega)) ?_
      intro vw5_3_0 h5_3
      rintro ⟨zvw5_3_0, fw5_3_0, rfl, how5_3_0, hfw5_3_0, e5_3⟩
      replace hO := OS.ext hO e5_3
      have := Ext.size e5_3
      replace eB := Ext.trans eB e5_3
      replace cL2 := Chg.stepE cL2 e5_3
      have hlhow5_3_0 := OS.lt how5_3_0
      try simp -implicitDefEqProofs (disch := first | decide | assumption | omega) only [go_sem, RdS.len (OS.rd hO) sl56, RdS.idx (OS.rd hO) sl56, RdS.cellN (OS.rd hO), RdS.cells (OS.rd hO), RdS.len (OS.rd how5_3_0) sl22, RdS.idx (OS.rd how5_3_0) sl22, R1.intN (OS.rd how5_3_0), RdS.cells (OS.rd how5_3_0), wrap_id]
      refine op_bs1 sz56 rfl (OS.one how5_3_0).2 ?_
      try simp -implicitDefEqProofs (disch := first | decide | assumption | omega) only [go_sem, RdS.len (OS.rd hO) sl56, RdS.idx (OS.rd hO) sl56, RdS.cellN (OS.rd hO), RdS.cells (OS.rd hO), RdS.len (OS.rd how5_3_0) sl22, RdS.idx (OS.rd how5_3_0) sl22, R1.intN (OS.rd how5_3_0), RdS.cells (OS.rd how5_3_0), wrap_id]
      refine op_append1 sz56 hO hfhO.nodup how5_3_0 hfw5_3_0.nodup (apart_lt hlhO hfw5_3_0 (by omega)) (by first | omega | (simp; omega)) rfl rfl ?_
      intro v5_5 h5_5 fp5_5 ho5_5 hn5_5 hs5_5 c5_5
      have hsz5_5 := c5_5.size
      have hfho5_5 : Fresh h.size fp5_5 := Fresh.appd hfhO hfw5_3_0 (by omega) (by omega) hn5_5 hs5_5
      have sb5 : Sub [h.size] h1_0.size fp5_5 := Sub.grow sbhO (Sub.fresh hfw5_3_0 (by omega)) (by omega) hs5_5
      have := c5_5.size
      replace eB := Ext.then eB c5_5 (ge_of hfhO (by omega))
      replace cL2 := Chg.step cL2 c5_5 sbhO
      have hlho5_5 := OS.lt ho5_5
      try simp -implicitDefEqProofs (disch := first | decide | assumption | omega) only [go_sem, RdS.len (OS.rd ho5_5) sl56, RdS.idx (OS.rd ho5_5) sl56, RdS.cellN (OS.rd ho5_5), RdS.cells (OS.rd ho5_5), wrap_id]
      refine hK _ _ ?_
      clear hK K
      refine den_blk ?_
      refine den_region TTok ?_
      intro K hK
      simp -implicitDefEqProofs (disch := first | decide | assumption | omega) only [go_sem, RdS.len (OS.rd ho5_5) sl56, RdS.idx (OS.rd ho5_5) sl56, RdS.cellN (OS.rd ho5_5), RdS.cells (OS.rd ho5_5), wrap_id]
      refine hK _ _ ?_
      clear hK K
      refine den_stop ?_
      rw [Int.toNat_natCast, range_step (fun i => unitP n.toNat i)] at ho5_5
      exact ⟨(k + 1, v5_5, fp5_5), by simp [HasL, puts_at], ⟨by first | omega | (dsimp only; omega), ho5_5, hfho5_5, sb5, cL2⟩, by first | omega | (dsimp only; omega)⟩
    · try simp only [decide_eq_true_eq, decide_eq_false_iff_not, beq_iff_eq, beq_eq_false_iff_ne, bne_iff_ne, ne_eq, Bool.not_eq_true', Bool.not_eq_false', Bool.and_eq_true, Bool.or_eq_true, bne_eq_false_iff_eq] at c0
      refine den_exit ?_
      refine denX_code ?_
      refine denX_stop ?_
      refine denX_hit ?_
      refine den_seq ?_
      refine den_region TTok ?_
      intro K hK
      simp -implicitDefEqProofs (disch := first | decide | assumption | omega) only [go_sem, RdS.len (OS.rd hO) sl56, RdS.idx (OS.rd hO) sl56, RdS.cellN (OS.rd hO), RdS.cells (OS.rd hO), wrap_id]
      refine hK _ _ ?_
      clear hK K
      refine den_ret ?_
      simp (disch := decide) only [resP_1, puts_same, puts_ne]
      have e : unitsP n = (List.range k).map fun i => unitP n.toNat i := by rw [unitsP, show n.toNat = k by omega]
      rw [e]
      exact ⟨_, _, rfl, hO, hfhO.mono (by omega), eB⟩

end Go.Proofs.Ytffggocjkhcgeaa
