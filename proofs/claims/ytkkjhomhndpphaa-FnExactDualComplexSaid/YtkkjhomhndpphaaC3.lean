/-
  Walks: reversal.
  Conditions: each theorem's own.
-/
import Derived.Test.YtkkjhomhndpphaaC2
set_option linter.unusedVariables false
set_option linter.unusedSimpArgs false
namespace Go.Proofs.Ytkkjhomhndpphaa
open Go
set_option maxRecDepth 100000 in
theorem rev1_ok (v : Value) (xs : List Int) (f : List Nat) (h : Heap) (ho : O1 h v xs f) (hn : f.Nodup) : CallA Try.prog 127 #[v] h fun v' h' => v' = .tuple #[] ∧ O1 h' v xs.reverse f ∧ Chg f h h' := by
  have hfr : Fresh 0 f := ⟨hn, fun b _ => Nat.zero_le b⟩
  have hle := OS.len_le ho
  refine callA_intro TTok (args := [_]) Try.func127 (by kernel_rfl) rfl 28 rfl (by simp) [] rfl ?_
  simp only [idxs, Nat.reduceAdd]
  have hlho := OS.lt ho
  have cA : Chg f h h := Chg.refl _ _
  refine den_seq ?_
  refine den_region TTok ?_
  intro K hK
  simp -implicitDefEqProofs (disch := first | decide | assumption | omega) only [go_sem, RdS.len (OS.rd ho) sl37, RdS.idx (OS.rd ho) sl37, R1.intN (OS.rd ho), RdS.cells (OS.rd ho), wrap_id]
  refine hK _ _ ?_
  clear hK K
  refine den_block ?_
  refine den_sel [2, 3, 0] ?_
  intro env_1
  simp only [go_sem]
  refine den_loopS (σ := Nat × Int) (fun st_ => [(2, .int .i64 (st_.1 : Int)), (3, .int .i64 st_.2)]) (fun st_ H => (2 * st_.1 ≤ xs.length + 1) ∧ (st_.2 = (xs.length : Int) - 1 - st_.1) ∧ (O1 H v (revP xs st_.1) f) ∧ (Chg f h H)) (fun st_ => xs.length - st_.1) (0, ((xs.length : Int) - 1)) ?_ ?_
  · exact ⟨by first | (simp; done) | (dsimp only; omega) | (simp; omega), by first | (simp; done) | (dsimp only; omega) | (simp; omega), by rw [revP_zero]; exact ho, Chg.refl _ _⟩
  · rintro ⟨i, j⟩ h4 ee3 ⟨hi, hj, hO, cL2⟩
    dsimp only at hi hj hO cL2
    have := cL2.size
    replace cA := Chg.step cA cL2 Sub.refl
    have sbhO : Sub f h.size f := Sub.refl
    have hfhO := hfr
    have sb5 : Sub f h.size f := Sub.trans sbhO Sub.refl (by omega)
    have hlhO := OS.lt hO
    simp only [List.cons_append, List.nil_append]
    refine den_seq ?_
    refine den_seq ?_
    refine den_region TTok ?_
    intro K hK
    simp -implicitDefEqProofs (disch := first | decide | assumption | omega) only [go_sem, RdS.len (OS.rd hO) sl37, RdS.idx (OS.rd hO) sl37, R1.intN (OS.rd hO), RdS.cells (OS.rd hO), wrap_id]
    refine hK _ _ ?_
    clear hK K
    refine den_cond rfl (fun c0 => ?_) (fun c0 => ?_)
    · try simp only [decide_eq_true_eq, decide_eq_false_iff_not, beq_iff_eq, beq_eq_false_iff_ne, bne_iff_ne, ne_eq, Bool.not_eq_true', Bool.not_eq_false', Bool.and_eq_true, Bool.or_eq_true, bne_eq_false_iff_eq] at c0
      refine den_skip ?_
      refine den_seq ?_
      refine den_block ?_
      have hrl := revP_len xs i
      have ej : j.toNat = xs.length - 1 - i := by omega
      refine den_draw TTok mixed [13, 15] [(0, true), (1, true), (2, true), (3, true), (4, true), (5, true), (6, true), (7, true), (8, true), (9, true), (10, true), (11, true), (12, true), (13, false), (14, true), (15, false)] (by kernel_rfl) ?_
      intro K hK
      simp -implicitDefEqProofs (disch := first | decide | assumption | omega) only [go_sem, ld2, RdS.len (OS.rd hO) sl37, RdS.idx (OS.rd hO) sl37, R1.intN (OS.rd hO), RdS.cells (OS.rd hO), wrap_id]
      refine op_store1 (j := i) st2 hO hfhO.nodup (by first | omega | (simp; omega)) rfl rfl ?_
      intro h3_13 ho3_13 c3_13
      have hsz3_13 := c3_13.size
      have := c3_13.size
      replace cA := Chg.step cA c3_13 sb5
      replace cL2 := Chg.step cL2 c3_13 sbhO
      have hlho3_13 := OS.lt ho3_13
      have hlenho3_13 : ((revP xs i).set i ((revP xs i).getD (j).toNat 0) : List Int).length = (revP xs i : List Int).length := List.length_set
      try simp (disch := decide) only [outv_some, outv_none, put_puts]
      refine plK_last (by decide) ?_
      try simp -implicitDefEqProofs (disch := first | decide | assumption | omega) only [go_sem, RdS.len (OS.rd ho3_13) sl37, RdS.idx (OS.rd ho3_13) sl37, R1.intN (OS.rd ho3_13), RdS.cells (OS.rd ho3_13), wrap_id]
      refine op_store1 (j := (j).toNat) st2 ho3_13 hfhO.nodup (by first | omega | (simp; omega)) rfl rfl ?_
      intro h3_15 ho3_15 c3_15
      have hsz3_15 := c3_15.size
      have := c3_15.size
      replace cA := Chg.step cA c3_15 sb5
      replace cL2 := Chg.step cL2 c3_15 sbhO
      have hlho3_15 := OS.lt ho3_15
      have hlenho3_15 : (((revP xs i).set i ((revP xs i).getD (j).toNat 0)).set ((j).toNat) ((revP xs i).getD i 0) : List Int).length = ((revP xs i).set i ((revP xs i).getD (j).toNat 0) : List Int).length := List.length_set
      try simp (disch := decide) only [outv_some, outv_none, put_puts]
      refine plK_last (by decide) ?_
      try simp -implicitDefEqProofs (disch := first | decide | assumption | omega) only [go_sem, RdS.len (OS.rd ho3_15) sl37, RdS.idx (OS.rd ho3_15) sl37, R1.intN (OS.rd ho3_15), RdS.cells (OS.rd ho3_15), wrap_id]
      refine hK _ _ ?_
      clear hK K
      refine den_blk ?_
      refine den_region TTok ?_
      intro K hK
      simp -implicitDefEqProofs (disch := first | decide | assumption | omega) only [go_sem, RdS.len (OS.rd ho3_15) sl37, RdS.idx (OS.rd ho3_15) sl37, R1.intN (OS.rd ho3_15), RdS.cells (OS.rd ho3_15), wrap_id]
      refine hK _ _ ?_
      clear hK K
      refine den_stop ?_
      rw [ej, revP_step (by omega)] at ho3_15
      exact ⟨(i + 1, j - 1), by simp [HasL, puts_at], ⟨by first | omega | (dsimp only; omega), by first | omega | (dsimp only; omega), ho3_15, cL2⟩, by first | omega | (dsimp only; omega)⟩
    · try simp only [decide_eq_true_eq, decide_eq_false_iff_not, beq_iff_eq, beq_eq_false_iff_ne, bne_iff_ne, ne_eq, Bool.not_eq_true', Bool.not_eq_false', Bool.and_eq_true, Bool.or_eq_true, bne_eq_false_iff_eq] at c0
      refine den_exit ?_
      refine denX_code ?_
      refine denX_stop ?_
      refine denX_hit ?_
      refine den_nil ?_
      simp (disch := decide) only [resP_0, puts_same, puts_ne]
      rw [revP_end (by omega)] at hO
      exact ⟨by first | rfl | trivial, hO, cA⟩

end Go.Proofs.Ytkkjhomhndpphaa
