/-
  Walks: digits, words.
  Conditions: each theorem's own.
-/
import Derived.Test.YtacajcjibhifmaaDoorK1
set_option linter.unusedVariables false
set_option linter.unusedSimpArgs false
namespace Go.Proofs.YtacajcjibhifmaaDoor
open Go
theorem map_takeK {α β : Type} {f : α → β} {xs : List α} {k : Nat} {d : α} (h : k < xs.length) : (xs.take k).map f ++ [f (xs.getD k d)] = (xs.take (k + 1)).map f := by
  rw [List.take_succ_eq_append_getElem h, List.map_append, List.getD_eq_getElem?_getD, List.getElem?_eq_getElem h]; rfl
theorem map_endK {α β : Type} {f : α → β} {xs : List α} {k : Nat} (h : ¬ k < xs.length) : (xs.take k).map f = xs.map f := by rw [List.take_of_length_le (by omega)]
theorem wrap_u8 {x : Int} (h : 0 ≤ x ∧ x ≤ 255) : IntKind.u8.wrap x = x := by
  simp [IntKind.wrap, IntKind.signed, IntKind.bits]
  omega
theorem cv_i64 {k : IntKind} {x : Int} : convV TT 2 5 (.int k x) = some (.int .u8 (IntKind.u8.wrap x)) := by kernel_rfl
/-- Words with something between them, as they are put together. -/
def jtN (sep : List UInt8) (ws : List (List UInt8)) : Nat → List UInt8
  | 0 => []
  | i + 1 => (if decide ((0 : Int) < (i : Int)) = true then jtN sep ws i ++ sep else jtN sep ws i) ++ ws.getD i []
theorem jtN_take {sep : List UInt8} {ws : List (List UInt8)} : ∀ {k : Nat}, k ≤ ws.length → jtN sep ws k = Lib.join (ws.take k) sep
  | 0, _ => by rw [List.take_zero]; rfl
  | k + 1, h => by
    have ih := jtN_take (sep := sep) (ws := ws) (k := k) (by omega)
    match ws, h with
    | x :: r, h =>
      cases k with
      | zero =>
        rw [jtN, if_neg (by simp), List.take_succ_cons, List.take_zero, Lib.join_one]; rfl
      | succ k =>
        have hk : k < r.length := by simp at h; omega
        rw [jtN, if_pos (by simp), ih, List.take_succ_cons, List.take_succ_cons, Lib.join_cons, Lib.join_cons, Lib.joinTail_take_succ sep r k (r.getD k []) (by rw [List.getD_eq_getElem?_getD, List.getElem?_eq_getElem hk]; rfl)]
        simp
theorem jtN_end {sep : List UInt8} {ws : List (List UInt8)} {k : Nat} (h : k = ws.length) : jtN sep ws k = Lib.join ws sep := by
  rw [jtN_take (by omega), h, List.take_length]
theorem join_le {sep : List UInt8} {c : Nat} : ∀ {ws : List (List UInt8)}, (∀ w ∈ ws, w.length ≤ c) → (Lib.join ws sep).length ≤ ws.length * (c + sep.length)
  | [], _ => by simp [Lib.join_nil]
  | x :: r, h => by
    rw [Lib.join_cons, List.length_append]
    have h1 : (Lib.joinTail sep r).length ≤ r.length * (c + sep.length) := by
      have : ∀ r : List (List UInt8), (∀ w ∈ r, w.length ≤ c) → (Lib.joinTail sep r).length ≤ r.length * (c + sep.length) := fun r => by
        induction r with
        | nil => intro _; simp [Lib.joinTail]
        | cons y r ih =>
          intro hr
          have h2 := ih fun w hw => hr w (List.mem_cons_of_mem _ hw)
          have h3 := hr y (by simp)
          simp only [Lib.joinTail, List.map_cons, List.flatten_cons, List.length_append, List.length_cons, Nat.add_mul, Nat.one_mul] at h2 ⊢
          omega
      exact this r fun w hw => h w (List.mem_cons_of_mem _ hw)
    have h2 := h x (by simp)
    simp only [List.length_cons, Nat.add_mul, Nat.one_mul]
    omega
theorem join_all {sep : List UInt8} {c m : Nat} {ws : List (List UInt8)} (h : ∀ w ∈ ws, w.length ≤ c) (hm : ws.length ≤ m) (hs : sep.length ≤ 1) : (Lib.join ws sep).length ≤ m * (c + 1) := by
  have h1 := join_le (sep := sep) h
  have h2 := Nat.mul_le_mul hm (show c + sep.length ≤ c + 1 by omega)
  omega
theorem jtN_le {sep : List UInt8} {c m : Nat} {ws : List (List UInt8)} (h : ∀ w ∈ ws, w.length ≤ c) {k : Nat} (hk : k ≤ ws.length) (hm : ws.length ≤ m) (hs : sep.length ≤ 1) : (jtN sep ws k).length ≤ m * (c + 1) := by
  rw [jtN_take hk]
  exact join_all (fun w hw => h w (List.mem_of_mem_take hw)) (by rw [List.length_take]; omega) hs
theorem ifl {c : Prop} [Decidable c] {a b : List UInt8} {n : Nat} (h1 : a.length ≤ n) (h2 : b.length ≤ n) : (if c then a else b).length ≤ n := by
  split
  · exact h1
  · exact h2
theorem app1 (a : List UInt8) (x : UInt8) : (a ++ [x]).length = a.length + 1 := by simp
def dgs (r : List Int) : List UInt8 := strB (r.map fun x => 48 + x)
theorem dgs_len (r : List Int) : (dgs r).length = r.length := by simp [dgs, strB]
theorem dgs_step {r : List Int} {k : Nat} (h : k < r.length) : dgs (r.take k) ++ dg8 (r.getD k 0) = dgs (r.take (k + 1)) := by
  have := map_takeK (f := fun x : Int => UInt8.ofNat (48 + x).toNat) (d := 0) h
  simp only [dgs, strB, List.map_map, dg8] at this ⊢
  exact this
def rowT (r : List Int) : List UInt8 := if r.length = 0 then [45] else dgs r
def rowsT (R : List (List Int)) : List UInt8 := if R.length = 0 then [45] else Lib.join (R.map rowT) [44]
def txtC (X : Cx) : List UInt8 := dg8 X.p ++ [58] ++ Lib.join (X.dims.map dg8) [44] ++ [58] ++ Lib.join (X.maps.map rowsT) [59]
theorem dg8_len (n : Int) : (dg8 n).length = 1 := rfl
theorem rowT_le {r : List Int} (h : r.length ≤ 8) : (rowT r).length ≤ 8 := by
  unfold rowT
  split
  · simp
  · rw [dgs_len]; exact h
def SmR (R : List (List Int)) : Prop := R.length ≤ 8 ∧ ∀ r ∈ R, r.length ≤ 8 ∧ ∀ x ∈ r, 0 ≤ x ∧ x < 10
theorem SmR.row {R : List (List Int)} (h : SmR R) {i : Nat} (hi : i < R.length) : (R.getD i default).length ≤ 8 ∧ ∀ k, k < (R.getD i default).length → 0 ≤ (R.getD i default).getD k 0 ∧ (R.getD i default).getD k 0 < 10 := by
  have hm : R.getD i default ∈ R := by rw [List.getD_eq_getElem?_getD, List.getElem?_eq_getElem hi]; exact List.getElem_mem hi
  refine ⟨(h.2 _ hm).1, fun k hk => (h.2 _ hm).2 _ ?_⟩
  rw [List.getD_eq_getElem?_getD (i := k), List.getElem?_eq_getElem hk]; exact List.getElem_mem hk
theorem SmR.ws {R : List (List Int)} (h : SmR R) : ∀ w ∈ R.map rowT, w.length ≤ 8 := fun w hw => by
  obtain ⟨r, hr, rfl⟩ := List.mem_map.1 hw
  exact rowT_le (h.2 r hr).1
theorem rowsT_le {R : List (List Int)} (h : SmR R) : (rowsT R).length ≤ 72 := by
  unfold rowsT
  split
  · simp
  · exact join_all (m := 8) (c := 8) h.ws (by rw [List.length_map]; exact h.1) (by simp)
theorem rt_step {R : List (List Int)} {i : Nat} (hi : i < R.length) {T : List UInt8} (hT : T = jtN [44] (R.map rowT) i) : (if ((((R.getD i default).length : Int)) == (0 : Int)) = true then (if decide ((0 : Int) < (i : Int)) = true then T ++ [44] else T) ++ [45] else (if decide ((0 : Int) < (i : Int)) = true then T ++ [44] else T)) ++ dgs (R.getD i default) = jtN [44] (R.map rowT) (i + 1) := by
  have hg : (R.map rowT).getD i [] = rowT (R.getD i default) := by
    rw [List.getD_eq_getElem?_getD, List.getElem?_map, List.getElem?_eq_getElem hi, List.getD_eq_getElem?_getD, List.getElem?_eq_getElem hi]; rfl
  rw [jtN, hg, ← hT, rowT]
  by_cases h : (R.getD i default).length = 0
  · rw [if_pos h, if_pos (by simpa using h), List.length_eq_zero_iff.1 h]
    show _ ++ [] = _
    rw [List.append_nil]
  · rw [if_neg h, if_neg (by simpa using h)]

set_option maxRecDepth 100000 in
theorem sDec_ok (n : Int) (h : Heap)  (hn : 0 ≤ n ∧ n < 10) : CallA Tryd.prog 25 #[.int .i64 n] h fun v' h' => v' = sV (dg8 n) ∧ Ext h h' := by
  refine callA_intro TTok (args := [_]) Tryd.func25 (by kernel_rfl) rfl 26 rfl (by simp) [.tmp 2] rfl ?_
  simp only [idxs, Nat.reduceAdd]
  refine den_seq ?_
  refine den_region TTok ?_
  intro K hK
  simp -implicitDefEqProofs (disch := first | decide | assumption | omega) only [go_sem, wrap_id, sV_0, sV_44, sV_45, sV_58, sV_59, sV_cells, bin_sadd, bin_sne, bin_seq, cv_i64, wrap_u8]
  refine hK _ _ ?_
  clear hK K
  refine den_seq ?_
  refine den_seq ?_
  refine den_region TTok ?_
  intro K hK
  simp -implicitDefEqProofs (disch := first | decide | assumption | omega) only [go_sem, wrap_id, sV_0, sV_44, sV_45, sV_58, sV_59, sV_cells, bin_sadd, bin_sne, bin_seq, cv_i64, wrap_u8]
  refine hK _ _ ?_
  clear hK K
  refine den_cond rfl (fun c0 => ?_) (fun c0 => ?_)
  · try simp only [decide_eq_true_eq, decide_eq_false_iff_not, beq_iff_eq, beq_eq_false_iff_ne, bne_iff_ne, ne_eq, Bool.not_eq_true', Bool.not_eq_false', Bool.and_eq_true, Bool.or_eq_true, bne_eq_false_iff_eq] at c0
    exact absurd c0 (by omega)
  · try simp only [decide_eq_true_eq, decide_eq_false_iff_not, beq_iff_eq, beq_eq_false_iff_ne, bne_iff_ne, ne_eq, Bool.not_eq_true', Bool.not_eq_false', Bool.and_eq_true, Bool.or_eq_true, bne_eq_false_iff_eq] at c0
    refine den_skip ?_
    refine den_seq ?_
    refine den_seq ?_
    refine den_region TTok ?_
    intro K hK
    simp -implicitDefEqProofs (disch := first | decide | assumption | omega) only [go_sem, wrap_id, sV_0, sV_44, sV_45, sV_58, sV_59, sV_cells, bin_sadd, bin_sne, bin_seq, cv_i64, wrap_u8]
    refine hK _ _ ?_
    clear hK K
    refine den_cond rfl (fun c1 => ?_) (fun c1 => ?_)
    · try simp only [decide_eq_true_eq, decide_eq_false_iff_not, beq_iff_eq, beq_eq_false_iff_ne, bne_iff_ne, ne_eq, Bool.not_eq_true', Bool.not_eq_false', Bool.and_eq_true, Bool.or_eq_true, bne_eq_false_iff_eq] at c1
      refine den_seq ?_
      refine den_region TTok ?_
      intro K hK
      simp -implicitDefEqProofs (disch := first | decide | assumption | omega) only [go_sem, T2, T5, wrap_id, sV_0, sV_44, sV_45, sV_58, sV_59, sV_cells, bin_sadd, bin_sne, bin_seq, cv_i64, wrap_u8]
      refine op_bs1Y rfl ?_
      intro v4_3 h4_3 ho4_3 e4_3
      have := Ext.size e4_3
      have eB := e4_3
      have hfho4_3 : Fresh h.size [h.size] := Fresh.one _
      have hlho4_3 := OS.lt ho4_3
      try simp -implicitDefEqProofs (disch := first | decide | assumption | omega) only [go_sem, T63, T9, OY.cv ho4_3, wrap_id, sV_0, sV_44, sV_45, sV_58, sV_59, sV_cells, bin_sadd, bin_sne, bin_seq, cv_i64, wrap_u8]
      refine hK _ _ ?_
      clear hK K
      refine den_ret ?_
      simp (disch := decide) only [resP_1, puts_same, puts_ne]
      exact ⟨by first | rfl | trivial, eB⟩
    · try simp only [decide_eq_true_eq, decide_eq_false_iff_not, beq_iff_eq, beq_eq_false_iff_ne, bne_iff_ne, ne_eq, Bool.not_eq_true', Bool.not_eq_false', Bool.and_eq_true, Bool.or_eq_true, bne_eq_false_iff_eq] at c1
      exact absurd c1 (by omega)

set_option maxRecDepth 100000 in
theorem iDec_ok (n : Int) (h : Heap)  (hn : 0 ≤ n ∧ n < 10) : CallA Tryd.prog 39 #[.int .i64 n] h fun v' h' => v' = sV (dg8 n) ∧ Ext h h' := by
  refine callA_intro TTok (args := [_]) Tryd.func39 (by kernel_rfl) rfl 5 rfl (by simp) [.tmp 2] rfl ?_
  simp only [idxs, Nat.reduceAdd]
  refine den_seq ?_
  refine den_region TTok ?_
  intro K hK
  simp -implicitDefEqProofs (disch := first | decide | assumption | omega) only [go_sem, wrap_id, sV_0, sV_44, sV_45, sV_58, sV_59, sV_cells, bin_sadd, bin_sne, bin_seq, cv_i64, wrap_u8]
  refine hK _ _ ?_
  clear hK K
  refine den_seq ?_
  refine den_region TTok ?_
  intro K hK
  simp -implicitDefEqProofs (disch := first | decide | assumption | omega) only [go_sem, wrap_id, sV_0, sV_44, sV_45, sV_58, sV_59, sV_cells, bin_sadd, bin_sne, bin_seq, cv_i64, wrap_u8]
  try simp -implicitDefEqProofs (disch := first | decide | assumption | omega) only [go_sem, wrap_id, sV_0, sV_44, sV_45, sV_58, sV_59, sV_cells, bin_sadd, bin_sne, bin_seq, cv_i64, wrap_u8]
  refine CallA.pure (dec_ok n _ (by omega)) ?_
  try simp -implicitDefEqProofs (disch := first | decide | assumption | omega) only [go_sem, wrap_id, sV_0, sV_44, sV_45, sV_58, sV_59, sV_cells, bin_sadd, bin_sne, bin_seq, cv_i64, wrap_u8]
  refine hK _ _ ?_
  clear hK K
  refine den_ret ?_
  simp (disch := decide) only [resP_1, puts_same, puts_ne]
  exact ⟨by first | rfl | trivial, (Ext.refl _)⟩

end Go.Proofs.YtacajcjibhifmaaDoor
