/-
  Walks: sums of families.
  Conditions: each theorem's own.
-/
import Derived.Test.YtffggocjkhcgeaaB4
set_option linter.unusedVariables false
set_option linter.unusedSimpArgs false
namespace Go.Proofs.Ytffggocjkhcgeaa
open Go
set_option maxRecDepth 100000 in
theorem clone1_ok (vu : Value) (u : List Int) (h : Heap) (ru : R1 h vu u) (hl : (u.length : Int) ≤ 1048576) : CallA Try.prog 146 #[vu] h fun v' h' => ∃ w0 f0, v' = w0 ∧ O1 h' w0 (u) f0 ∧ Fresh h.size f0 ∧ Ext h h' := by
  have hleu := RdS.le ru
  have ru' := ru
  obtain ⟨A, cc, rfl, hA, _⟩ := ru'
  refine callA_intro TTok (args := [_]) Try.func146 (by kernel_rfl) rfl 8 rfl (by simp) [.tmp 2] rfl ?_
  simp only [idxs, Nat.reduceAdd]
  refine den_seq ?_
  refine den_region TTok ?_
  intro K hK
  simp -implicitDefEqProofs (disch := first | decide | assumption | omega) only [go_sem, RdS.len ru sl22, RdS.idx ru sl22, R1.intB ru (HPres.refl _), RdS.cells ru, wrap_id]
  refine hK _ _ ?_
  clear hK K
  refine den_seq ?_
  refine den_seq ?_
  refine den_region TTok ?_
  intro K hK
  simp -implicitDefEqProofs (disch := first | decide | assumption | omega) only [go_sem, RdS.len ru sl22, RdS.idx ru sl22, R1.intB ru (HPres.refl _), RdS.cells ru, wrap_id]
  refine hK _ _ ?_
  clear hK K
  refine den_cond rfl (fun c0 => ?_) (fun c0 => ?_)
  · try simp only [decide_eq_true_eq, decide_eq_false_iff_not, beq_iff_eq, beq_eq_false_iff_ne, bne_iff_ne, ne_eq, Bool.not_eq_true', Bool.not_eq_false', Bool.and_eq_true, Bool.or_eq_true, bne_eq_false_iff_eq] at c0
    refine den_seq ?_
    refine den_region TTok ?_
    intro K hK
    simp -implicitDefEqProofs (disch := first | decide | assumption | omega) only [go_sem, RdS.len ru sl22, RdS.idx ru sl22, R1.intB ru (HPres.refl _), RdS.cells ru, wrap_id]
    refine hK _ _ ?_
    clear hK K
    refine den_ret ?_
    simp (disch := decide) only [resP_1, puts_same, puts_ne]
    have e : u = [] := List.length_eq_zero_iff.1 (hA.resolve_left (by rw [Option.isNone_iff_eq_none.1 c0]; decide))
    subst e
    exact ⟨_, [], rfl, OS.nil, Fresh.nil _, (Ext.refl _)⟩
  · try simp only [decide_eq_true_eq, decide_eq_false_iff_not, beq_iff_eq, beq_eq_false_iff_ne, bne_iff_ne, ne_eq, Bool.not_eq_true', Bool.not_eq_false', Bool.and_eq_true, Bool.or_eq_true, bne_eq_false_iff_eq] at c0
    refine den_skip ?_
    refine den_seq ?_
    refine den_region TTok ?_
    intro K hK
    simp -implicitDefEqProofs (disch := first | decide | assumption | omega) only [go_sem, RdS.len ru sl22, RdS.idx ru sl22, R1.intB ru (HPres.refl _), RdS.cells ru, wrap_id]
    refine op_bs0 sz22 OI ?_
    intro v3_0 h3_0 ho3_0 e3_0
    have := Ext.size e3_0
    have eB := e3_0
    have hfho3_0 : Fresh h.size [h.size] := Fresh.one _
    have hlho3_0 := OS.lt ho3_0
    try simp -implicitDefEqProofs (disch := first | decide | assumption | omega) only [go_sem, RdS.len ru sl22, RdS.idx ru sl22, R1.intB ru (Ext.pres eB), RdS.cells ru, RdS.len (OS.rd ho3_0) sl22, RdS.idx (OS.rd ho3_0) sl22, R1.intN (OS.rd ho3_0), RdS.cells (OS.rd ho3_0), wrap_id]
    refine op_appendR ho3_0 (RdS.pres ru (Ext.pres eB)) (by first | omega | (simp; omega)) rfl ?_
    intro v3_2 h3_2 fp3_2 ho3_2 hn3_2 hs3_2 c3_2
    have hsz3_2 := c3_2.size
    have hfho3_2 : Fresh h.size fp3_2 := Fresh.appd hfho3_0 (Fresh.nil h3_0.size) (by omega) (by omega) hn3_2 hs3_2
    have := c3_2.size
    replace eB := Ext.then eB c3_2 (ge_of hfho3_0 (by omega))
    have hlho3_2 := OS.lt ho3_2
    try simp -implicitDefEqProofs (disch := first | decide | assumption | omega) only [go_sem, RdS.len ru sl22, RdS.idx ru sl22, R1.intB ru (Ext.pres eB), RdS.cells ru, RdS.len (OS.rd ho3_2) sl22, RdS.idx (OS.rd ho3_2) sl22, R1.intN (OS.rd ho3_2), RdS.cells (OS.rd ho3_2), wrap_id]
    refine hK _ _ ?_
    clear hK K
    refine den_ret ?_
    simp (disch := decide) only [resP_1, puts_same, puts_ne]
    exact ⟨_, _, rfl, ho3_2, hfho3_2.mono (by omega), eB⟩

def addRow (p k : Int) (a b : List Int) : List Int := (List.range a.length).map fun q : Nat => (a.getD q 0 + k * b.getD q 0) % p
def addRows (p k : Int) (A B : List (List Int)) : List (List Int) := (List.range A.length).map fun i : Nat => addRow p k (A.getD i default) (B.getD i default)
def addFam (p k : Int) (f g : List (List (List Int))) : List (List (List Int)) := (List.range f.length).map fun n : Nat => addRows p k (f.getD n default) (g.getD n default)
theorem addRow_len (p k : Int) (a b : List Int) : (addRow p k a b).length = a.length := by simp [addRow]
theorem addRow_get (p k : Int) (a b : List Int) {i : Nat} (h : i < a.length) : (addRow p k a b).getD i 0 = (a.getD i 0 + k * b.getD i 0) % p := by
  rw [addRow, List.getD_eq_getElem?_getD, List.getElem?_eq_getElem (by simpa using h)]; simp
theorem addRow_bnd {p k : Int} (hp : 0 < p) (a b : List Int) : Bnd p (addRow p k a b) := fun x hx => by
  obtain ⟨q, _, rfl⟩ := List.mem_map.1 hx
  exact ⟨Int.emod_nonneg _ (by omega), Int.emod_lt_of_pos _ hp⟩
theorem addRow_step {p k : Int} {a b : List Int} {i : Nat} (h : i < a.length) (h0 : 0 ≤ a.getD i 0 + k * b.getD i 0) : (mix (addRow p k a b) a i).set i (Int.tmod ((mix (addRow p k a b) a i).getD i 0 + k * b.getD i 0) p) = mix (addRow p k a b) a (i + 1) := by
  rw [mix_get _ _ _ _ (addRow_len p k a b) h, Int.tmod_eq_emod_of_nonneg h0, ← addRow_get p k a b h, mix_set _ _ _ _ (addRow_len p k a b) h]
theorem mod_twice {p x : Int} (hp : 0 < p) : (x.tmod p + p).tmod p = x % p := by
  have h1 : -p < x.tmod p := by
    have := Int.lt_tmod_of_pos x hp; omega
  rw [Int.tmod_eq_emod_of_nonneg (by omega), Int.add_emod_right, Int.tmod_def, Int.sub_mul_emod_self_left]
theorem tmod_in {p x : Int} (hp : 0 < p) : -p < x.tmod p ∧ x.tmod p < p := ⟨by have := Int.lt_tmod_of_pos x hp; omega, Int.tmod_lt_of_pos x hp⟩
structure SumOk (p : Int) (f g : List (List (List Int))) : Prop where
  len : f.length = g.length ∧ f.length ≤ 6
  rows : ∀ n, n < f.length → (f.getD n default).length = (g.getD n default).length ∧ (f.getD n default).length ≤ 8
  row : ∀ n i, n < f.length → i < (f.getD n default).length → ((f.getD n default).getD i default).length = ((g.getD n default).getD i default).length ∧ ((f.getD n default).getD i default).length ≤ 8 ∧ Bnd p ((f.getD n default).getD i default) ∧ Bnd p ((g.getD n default).getD i default)
theorem sumOk {X Y : Cx} {f g : List (List (List Int))} (hX : IsC X) (hY : IsC Y) (hf : IsFam X Y f 0) (hg : IsFam X Y g 0) : SumOk X.p f g := by
  have l1 := hf.len; have l2 := hg.len; have l3 := hX.len
  refine ⟨by omega, fun n hn => ?_, fun n i hn hi => ?_⟩
  · have h1 := hf.at hn
    have h2 := hg.at (n := n) (by omega)
    have := dm_at hX.dm (k := n) (by omega)
    omega
  · have h1 := hf.at hn
    have h2 := hg.at (n := n) (by omega)
    have r1 := h1.2.at hi
    have r2 := h2.2.at (k := i) (by omega)
    have := dimP_bnd hY ((n : Int) + 0)
    exact ⟨by omega, by omega, r1.2, r2.2⟩
theorem mul42 {k y p : Int} (hk : -6 ≤ k ∧ k ≤ 6) (hy : 0 ≤ y ∧ y < p) (hp : p ≤ 7) : -36 ≤ k * y ∧ k * y ≤ 36 := by
  have h1 : k * y ≤ 6 * y := Int.mul_le_mul_of_nonneg_right hk.2 hy.1
  have h2 : (-6) * y ≤ k * y := Int.mul_le_mul_of_nonneg_right hk.1 hy.1
  omega

set_option maxRecDepth 100000 in
theorem sMod_ok (p : Int) (x : Int) (h : Heap)  (hp : 0 < p ∧ p ≤ 7) (hx : -1000000 ≤ x ∧ x ≤ 1000000) : CallA Try.prog 101 #[.int .i64 p, .int .i64 x] h fun v' h' => v' = .int .i64 (x % p) ∧ Ext h h' := by
  have htm := tmod_in (x := x) hp.1
  refine callA_intro TTok (args := [_, _]) Try.func101 (by kernel_rfl) rfl 12 rfl (by simp) [.tmp 4] rfl ?_
  simp only [idxs, Nat.reduceAdd]
  refine den_seq ?_
  refine den_region TTok ?_
  intro K hK
  simp -implicitDefEqProofs (disch := first | decide | assumption | omega) only [go_sem, wrap_id]
  refine hK _ _ ?_
  clear hK K
  refine den_seq ?_
  refine den_region TTok ?_
  intro K hK
  simp -implicitDefEqProofs (disch := first | decide | assumption | omega) only [go_sem, wrap_id]
  refine hK _ _ ?_
  clear hK K
  refine den_ret ?_
  simp (disch := decide) only [resP_1, puts_same, puts_ne]
  exact ⟨vint (mod_twice hp.1), (Ext.refl _)⟩

set_option maxRecDepth 100000 in
theorem iTog_ok (vv vw : Value) (p : Int) (v : List Int) (w : List Int) (k : Int) (h : Heap) (rv : R1 h vv v) (rw : R1 h vw w) (hp : 0 < p ∧ p ≤ 7) (hl : v.length = w.length ∧ v.length ≤ 8) (hv : Bnd p v) (hw : Bnd p w) (hk : 0 ≤ k ∧ k ≤ 6) : CallA Try.prog 97 #[.int .i64 p, vv, vw, .int .i64 k] h fun v' h' => ∃ w0 f0, v' = w0 ∧ O1 h' w0 (addRow p k v w) f0 ∧ Fresh h.size f0 ∧ Ext h h' := by
  have hlev := RdS.le rv
  have hlew := RdS.le rw
  refine callA_intro TTok (args := [_, _, _, _]) Try.func97 (by kernel_rfl) rfl 36 rfl (by simp) [.tmp 8] rfl ?_
  simp only [idxs, Nat.reduceAdd]
  refine den_seq ?_
  refine den_region TTok ?_
  intro K hK
  simp -implicitDefEqProofs (disch := first | decide | assumption | omega) only [go_sem, RdS.len rv sl22, RdS.idx rv sl22, R1.intB rv (HPres.refl _), RdS.cells rv, RdS.len rw sl22, RdS.idx rw sl22, R1.intB rw (HPres.refl _), RdS.cells rw, wrap_id]
  refine hK _ _ ?_
  clear hK K
  refine den_seq ?_
  refine den_region TTok ?_
  intro K hK
  simp -implicitDefEqProofs (disch := first | decide | assumption | omega) only [go_sem, RdS.len rv sl22, RdS.idx rv sl22, R1.intB rv (HPres.refl _), RdS.cells rv, RdS.len rw sl22, RdS.idx rw sl22, R1.intB rw (HPres.refl _), RdS.cells rw, wrap_id]
  try simp -implicitDefEqProofs (disch := first | decide | assumption | omega) only [go_sem, RdS.len rv sl22, RdS.idx rv sl22, R1.intB rv (HPres.refl _), RdS.cells rv, RdS.len rw sl22, RdS.idx rw sl22, R1.intB rw (HPres.refl _), RdS.cells rw, wrap_id]
  refine CallA.mono (clone1_ok _ v _ rv (by omega)) ?_
  intro vw1_1_0 h1_1
  rintro ⟨zvw1_1_0, fw1_1_0, rfl, how1_1_0, hfw1_1_0, e1_1⟩
  have := Ext.size e1_1
  have eB := e1_1
  have hlhow1_1_0 := OS.lt how1_1_0
  try simp -implicitDefEqProofs (disch := first | decide | assumption | omega) only [go_sem, RdS.len rv sl22, RdS.idx rv sl22, R1.intB rv (Ext.pres eB), RdS.cells rv, RdS.len rw sl22, RdS.idx rw sl22, R1.intB rw (Ext.pres eB), RdS.cells rw, RdS.len (OS.rd how1_1_0) sl22, RdS.idx (OS.rd how1_1_0) sl22, R1.intN (OS.rd how1_1_0), RdS.cells (OS.rd how1_1_0), wrap_id]
  refine hK _ _ ?_
  clear hK K
  refine den_seq ?_
  refine den_seq ?_
  refine den_region TTok ?_
  intro K hK
  simp -implicitDefEqProofs (disch := first | decide | assumption | omega) only [go_sem, RdS.len rv sl22, RdS.idx rv sl22, R1.intB rv (Ext.pres eB), RdS.cells rv, RdS.len rw sl22, RdS.idx rw sl22, R1.intB rw (Ext.pres eB), RdS.cells rw, RdS.len (OS.rd how1_1_0) sl22, RdS.idx (OS.rd how1_1_0) sl22, R1.intN (OS.rd how1_1_0), RdS.cells (OS.rd how1_1_0), wrap_id]
  refine hK _ _ ?_
  clear hK K
  refine den_block ?_
  refine den_sel [16, 0, 3, 9, 14, 15] ?_
  intro env_1
  simp only [go_sem]
  refine den_loopS (σ := Nat) (fun st_ => [(16, .int .i64 (st_ : Int))]) (fun st_ H => (st_ ≤ w.length) ∧ (O1 H vw1_1_0 (mix (addRow p k v w) v st_) fw1_1_0) ∧ (Chg fw1_1_0 h1_1 H)) (fun st_ => w.length - st_) 0 ?_ ?_
  · exact ⟨by first | (simp; done) | (dsimp only; omega) | (simp; omega), by rw [mix_zero]; exact how1_1_0, Chg.refl _ _⟩
  · rintro i h4 ee3 ⟨hi0, hO, cL2⟩
    have := cL2.size
    replace eB := Ext.then eB cL2 (ge_of hfw1_1_0 (by omega))
    have sbhO : Sub fw1_1_0 h1_1.size fw1_1_0 := Sub.refl
    have hfhO := hfw1_1_0
    have hlhO := OS.lt hO
    simp only [List.cons_append, List.nil_append]
    refine den_seq ?_
    refine den_region TTok ?_
    intro K hK
    simp -implicitDefEqProofs (disch := first | decide | assumption | omega) only [go_sem, RdS.len rv sl22, RdS.idx rv sl22, R1.intB rv (Ext.pres eB), RdS.cells rv, RdS.len rw sl22, RdS.idx rw sl22, R1.intB rw (Ext.pres eB), RdS.cells rw, RdS.len (OS.rd hO) sl22, RdS.idx (OS.rd hO) sl22, R1.intN (OS.rd hO), RdS.cells (OS.rd hO), wrap_id]
    refine hK _ _ ?_
    clear hK K
    refine den_seq ?_
    refine den_cond rfl (fun c0 => ?_) (fun c0 => ?_)
    · try simp only [decide_eq_true_eq, decide_eq_false_iff_not, beq_iff_eq, beq_eq_false_iff_ne, bne_iff_ne, ne_eq, Bool.not_eq_true', Bool.not_eq_false', Bool.and_eq_true, Bool.or_eq_true, bne_eq_false_iff_eq] at c0
      refine den_skip ?_
      refine den_seq ?_
      refine den_block ?_
      refine den_seq ?_
      refine den_region TTok ?_
      intro K hK
      simp -implicitDefEqProofs (disch := first | decide | assumption | omega) only [go_sem, ld2, RdS.len rv sl22, RdS.idx rv sl22, R1.intB rv (Ext.pres eB), RdS.cells rv, RdS.len rw sl22, RdS.idx rw sl22, R1.intB rw (Ext.pres eB), RdS.cells rw, RdS.len (OS.rd hO) sl22, RdS.idx (OS.rd hO) sl22, R1.intN (OS.rd hO), RdS.cells (OS.rd hO), wrap_id]
      refine hK _ _ ?_
      clear hK K
      have hml := mix_len (addRow p k v w) v i (addRow_len p k v w)
      have hxu := hv.at (k := i) (by omega)
      have hxw := hw.at (k := i) (by omega)
      have hmg := mix_get (addRow p k v w) v i 0 (addRow_len p k v w) (by omega)
      have hky := mul42 (k := k) (by omega) hxw hp.2
      have hk0 : 0 ≤ k * w.getD i 0 := Int.mul_nonneg hk.1 hxw.1
      refine den_region TTok ?_
      intro K hK
      simp -implicitDefEqProofs (disch := first | decide | assumption | omega) only [go_sem, ld2, RdS.len rv sl22, RdS.idx rv sl22, R1.intB rv (Ext.pres eB), RdS.cells rv, RdS.len rw sl22, RdS.idx rw sl22, R1.intB rw (Ext.pres eB), RdS.cells rw, RdS.len (OS.rd hO) sl22, RdS.idx (OS.rd hO) sl22, R1.intN (OS.rd hO), RdS.cells (OS.rd hO), wrap_id]
      refine op_store1 (j := i) st2 hO hfhO.nodup (by first | omega | (simp; omega)) rfl rfl ?_
      intro h5_13 ho5_13 c5_13
      have hsz5_13 := c5_13.size
      have := c5_13.size
      replace eB := Ext.then eB c5_13 (ge_of hfhO (by omega))
      replace cL2 := Chg.step cL2 c5_13 sbhO
      have hlho5_13 := OS.lt ho5_13
      have hlenho5_13 : ((mix (addRow p k v w) v i).set i (Int.tmod (((mix (addRow p k v w) v i).getD i 0) + (k * ((w).getD i 0))) p) : List Int).length = (mix (addRow p k v w) v i : List Int).length := List.length_set
      try simp -implicitDefEqProofs (disch := first | decide | assumption | omega) only [go_sem, RdS.len rv sl22, RdS.idx rv sl22, R1.intB rv (Ext.pres eB), RdS.cells rv, RdS.len rw sl22, RdS.idx rw sl22, R1.intB rw (Ext.pres eB), RdS.cells rw, RdS.len (OS.rd ho5_13) sl22, RdS.idx (OS.rd ho5_13) sl22, R1.intN (OS.rd ho5_13), RdS.cells (OS.rd ho5_13), wrap_id]
      refine hK _ _ ?_
      clear hK K
      refine den_blk ?_
      refine den_region TTok ?_
      intro K hK
      simp -implicitDefEqProofs (disch := first | decide | assumption | omega) only [go_sem, RdS.len rv sl22, RdS.idx rv sl22, R1.intB rv (Ext.pres eB), RdS.cells rv, RdS.len rw sl22, RdS.idx rw sl22, R1.intB rw (Ext.pres eB), RdS.cells rw, RdS.len (OS.rd ho5_13) sl22, RdS.idx (OS.rd ho5_13) sl22, R1.intN (OS.rd ho5_13), RdS.cells (OS.rd ho5_13), wrap_id]
      refine hK _ _ ?_
      clear hK K
      refine den_stop ?_
      rw [addRow_step (by omega) (by omega)] at ho5_13
      exact ⟨i + 1, by simp [HasL, puts_at], ⟨by first | omega | (dsimp only; omega), ho5_13, cL2⟩, by first | omega | (dsimp only; omega)⟩
    · try simp only [decide_eq_true_eq, decide_eq_false_iff_not, beq_iff_eq, beq_eq_false_iff_ne, bne_iff_ne, ne_eq, Bool.not_eq_true', Bool.not_eq_false', Bool.and_eq_true, Bool.or_eq_true, bne_eq_false_iff_eq] at c0
      refine den_exit ?_
      refine denX_code ?_
      refine denX_stop ?_
      refine denX_hit ?_
      refine den_seq ?_
      refine den_region TTok ?_
      intro K hK
      simp -implicitDefEqProofs (disch := first | decide | assumption | omega) only [go_sem, RdS.len rv sl22, RdS.idx rv sl22, R1.intB rv (Ext.pres eB), RdS.cells rv, RdS.len rw sl22, RdS.idx rw sl22, R1.intB rw (Ext.pres eB), RdS.cells rw, RdS.len (OS.rd hO) sl22, RdS.idx (OS.rd hO) sl22, R1.intN (OS.rd hO), RdS.cells (OS.rd hO), wrap_id]
      refine hK _ _ ?_
      clear hK K
      refine den_ret ?_
      simp (disch := decide) only [resP_1, puts_same, puts_ne]
      rw [mix_end _ _ _ (addRow_len p k v w) (by omega)] at hO
      exact ⟨_, _, rfl, hO, hfhO.mono (by omega), eB⟩

set_option maxRecDepth 100000 in
theorem sSum_ok (vf vg : Value) (p : Int) (f : List (List (List Int))) (g : List (List (List Int))) (k : Int) (h : Heap) (rf : R3 h vf f) (rg : R3 h vg g) (hS : SumOk p f g) (hp : 0 < p ∧ p ≤ 7) (hk : -6 ≤ k ∧ k ≤ 6) : CallA Try.prog 96 #[.int .i64 p, vf, vg, .int .i64 k] h fun v' h' => ∃ w0 f0, v' = w0 ∧ O3 h' w0 (addFam p k f g) f0 ∧ Fresh h.size f0 ∧ Ext h h' := by
  have hlef := RdS.le rf
  have hleg := RdS.le rg
  have hlen := hS.len
  refine callA_intro TTok (args := [_, _, _, _]) Try.func96 (by kernel_rfl) rfl 82 rfl (by simp) [.tmp 8] rfl ?_
  simp only [idxs, Nat.reduceAdd]
  refine den_seq ?_
  refine den_region TTok ?_
  intro K hK
  simp -implicitDefEqProofs (disch := first | decide | assumption | omega) only [go_sem, RdS.len rf sl23, RdS.idx rf sl23, RdS.cellB rf (HPres.refl _), RdS.cells rf, RdS.len rg sl23, RdS.idx rg sl23, RdS.cellB rg (HPres.refl _), RdS.cells rg, wrap_id]
  refine hK _ _ ?_
  clear hK K
  refine den_seq ?_
  refine den_region TTok ?_
  intro K hK
  simp -implicitDefEqProofs (disch := first | decide | assumption | omega) only [go_sem, RdS.len rf sl23, RdS.idx rf sl23, RdS.cellB rf (HPres.refl _), RdS.cells rf, RdS.len rg sl23, RdS.idx rg sl23, RdS.cellB rg (HPres.refl _), RdS.cells rg, wrap_id]
  refine op_bs0 sz23 O2 ?_
  intro v1_0 h1_0 ho1_0 e1_0
  have := Ext.size e1_0
  have eB := e1_0
  have hfho1_0 : Fresh h.size [h.size] := Fresh.one _
  have hlho1_0 := OS.lt ho1_0
  try simp -implicitDefEqProofs (disch := first | decide | assumption | omega) only [go_sem, RdS.len rf sl23, RdS.idx rf sl23, RdS.cellB rf (Ext.pres eB), RdS.cells rf, RdS.len rg sl23, RdS.idx rg sl23, RdS.cellB rg (Ext.pres eB), RdS.cells rg, RdS.len (OS.rd ho1_0) sl23, RdS.idx (OS.rd ho1_0) sl23, RdS.cellN (OS.rd ho1_0), RdS.cells (OS.rd ho1_0), wrap_id]
  refine hK _ _ ?_
  clear hK K
  refine den_seq ?_
  refine den_seq ?_
  refine den_region TTok ?_
  intro K hK
  simp -implicitDefEqProofs (disch := first | decide | assumption | omega) only [go_sem, RdS.len rf sl23, RdS.idx rf sl23, RdS.cellB rf (Ext.pres eB), RdS.cells rf, RdS.len rg sl23, RdS.idx rg sl23, RdS.cellB rg (Ext.pres eB), RdS.cells rg, RdS.len (OS.rd ho1_0) sl23, RdS.idx (OS.rd ho1_0) sl23, RdS.cellN (OS.rd ho1_0), RdS.cells (OS.rd ho1_0), wrap_id]
  refine hK _ _ ?_
  clear hK K
  refine den_block ?_
  refine den_sel [9, 10, 0, 1, 2, 3] ?_
  intro env_1
  simp only [go_sem]
  refine den_loopS (σ := Nat × Value × List Nat) (fun st_ => [(9, st_.2.1), (10, .int .i64 (st_.1 : Int))]) (fun st_ H => (st_.1 ≤ f.length) ∧ (O3 H st_.2.1 ((List.range st_.1).map fun q : Nat => addRows p k (f.getD q default) (g.getD q default)) st_.2.2) ∧ (Fresh (h.size) st_.2.2) ∧ (Sub [h.size] h1_0.size st_.2.2) ∧ (Chg [h.size] h1_0 H)) (fun st_ => f.length - st_.1) (0, v1_0, [h.size]) ?_ ?_
  · exact ⟨by first | (simp; done) | (dsimp only; omega) | (simp; omega), by simpa using ho1_0, hfho1_0, Sub.refl, Chg.refl _ _⟩
  · rintro ⟨n, vhO, fphO⟩ h4 ee3 ⟨hi0, hO, hfhO, sbhO, cL2⟩
    dsimp only at hi0 hO hfhO sbhO cL2
    have := cL2.size
    replace eB := Ext.then eB cL2 (ge_of hfho1_0 (by omega))
    have hlhO := OS.lt hO
    simp only [List.cons_append, List.nil_append]
    have hlo : ((List.range n).map fun n : Nat => addRows p k (f.getD n default) (g.getD n default)).length = n := by simp
    refine den_seq ?_
    refine den_seq ?_
    refine den_region TTok ?_
    intro K hK
    simp -implicitDefEqProofs (disch := first | decide | assumption | omega) only [go_sem, RdS.len rf sl23, RdS.idx rf sl23, RdS.cellB rf (Ext.pres eB), RdS.cells rf, RdS.len rg sl23, RdS.idx rg sl23, RdS.cellB rg (Ext.pres eB), RdS.cells rg, RdS.len (OS.rd hO) sl23, RdS.idx (OS.rd hO) sl23, RdS.cellN (OS.rd hO), RdS.cells (OS.rd hO), wrap_id]
    refine hK _ _ ?_
    clear hK K
    refine den_cond rfl (fun c0 => ?_) (fun c0 => ?_)
    · try simp only [decide_eq_true_eq, decide_eq_false_iff_not, beq_iff_eq, beq_eq_false_iff_ne, bne_iff_ne, ne_eq, Bool.not_eq_true', Bool.not_eq_false', Bool.and_eq_true, Bool.or_eq_true, bne_eq_false_iff_eq] at c0
      refine den_skip ?_
      refine den_seq ?_
      refine den_block ?_
      refine den_seq ?_
      have hro := hS.rows n (by omega)
      refine den_region TTok ?_
      intro K hK
      simp -implicitDefEqProofs (disch := first | decide | assumption | omega) only [go_sem, RdS.len rf sl23, RdS.idx rf sl23, RdS.cellB rf (Ext.pres eB), RdS.cells rf, RdS.len rg sl23, RdS.idx rg sl23, RdS.cellB rg (Ext.pres eB), RdS.cells rg, RdS.len (OS.rd hO) sl23, RdS.idx (OS.rd hO) sl23, RdS.cellN (OS.rd hO), RdS.cells (OS.rd hO), wrap_id]
      refine op_bs0 sz56 O1 ?_
      intro v5_0 h5_0 ho5_0 e5_0
      replace hO := OS.ext hO e5_0
      have := Ext.size e5_0
      replace eB := Ext.trans eB e5_0
      replace cL2 := Chg.stepE cL2 e5_0
      have hfho5_0 : Fresh h4.size [h4.size] := Fresh.one _
      have hlho5_0 := OS.lt ho5_0
      try simp -implicitDefEqProofs (disch := first | decide | assumption | omega) only [go_sem, RdS.len rf sl23, RdS.idx rf sl23, RdS.cellB rf (Ext.pres eB), RdS.cells rf, RdS.len rg sl23, RdS.idx rg sl23, RdS.cellB rg (Ext.pres eB), RdS.cells rg, RdS.len (OS.rd hO) sl23, RdS.idx (OS.rd hO) sl23, RdS.cellN (OS.rd hO), RdS.cells (OS.rd hO), RdS.len (OS.rd ho5_0) sl56, RdS.idx (OS.rd ho5_0) sl56, RdS.cellN (OS.rd ho5_0), RdS.cells (OS.rd ho5_0), wrap_id]
      refine hK _ _ ?_
      clear hK K
      refine den_seq ?_
      refine den_seq ?_
      refine den_region TTok ?_
      intro K hK
      simp -implicitDefEqProofs (disch := first | decide | assumption | omega) only [go_sem, RdS.len rf sl23, RdS.idx rf sl23, RdS.cellB rf (Ext.pres eB), RdS.cells rf, RdS.len rg sl23, RdS.idx rg sl23, RdS.cellB rg (Ext.pres eB), RdS.cells rg, RdS.len (OS.rd hO) sl23, RdS.idx (OS.rd hO) sl23, RdS.cellN (OS.rd hO), RdS.cells (OS.rd hO), RdS.len (OS.rd ho5_0) sl56, RdS.idx (OS.rd ho5_0) sl56, RdS.cellN (OS.rd ho5_0), RdS.cells (OS.rd ho5_0), wrap_id]
      refine hK _ _ ?_
      clear hK K
      refine den_block ?_
      refine den_sel [11, 12, 0, 1, 2, 3, 9, 10] ?_
      intro env_5
      simp only [go_sem]
      refine den_loopS (σ := Nat × Value × List Nat) (fun st_ => [(11, st_.2.1), (12, .int .i64 (st_.1 : Int))]) (fun st_ H => (st_.1 ≤ (f.getD n default).length) ∧ (O2 H st_.2.1 ((List.range st_.1).map fun q : Nat => addRow p k ((f.getD n default).getD q default) ((g.getD n default).getD q default)) st_.2.2) ∧ (Fresh (h4.size) st_.2.2) ∧ (Sub [h4.size] h5_0.size st_.2.2) ∧ (Chg [h4.size] h5_0 H)) (fun st_ => (f.getD n default).length - st_.1) (0, v5_0, [h4.size]) ?_ ?_
      · exact ⟨by first | (simp; done) | (dsimp only; omega) | (simp; omega), by simpa using ho5_0, hfho5_0, Sub.refl, Chg.refl _ _⟩
      · rintro ⟨i, vhR, fphR⟩ h8 ee7 ⟨hi0, hR, hfhR, sbhR, cL6⟩
        dsimp only at hi0 hR hfhR sbhR cL6
        replace hO := OS.chg hO cL6 (apart_lt hlhO hfho5_0 (by omega))
        have := cL6.size
        replace eB := Ext.then eB cL6 (ge_of hfho5_0 (by omega))
        replace cL2 := Chg.step cL2 cL6 (Sub.fresh hfho5_0 (by omega))
        have hlhR := OS.lt hR
        simp only [List.cons_append, List.nil_append]
        have hlr : ((List.range i).map fun i : Nat => addRow p k ((f.getD n default).getD i default) ((g.getD n default).getD i default)).length = i := by simp
        refine den_seq ?_
        refine den_seq ?_
        refine den_region TTok ?_
        intro K hK
        have hr9 := RdS.rowN rf n (by omega)
        have hlhr9 := RdS.le hr9
        simp -implicitDefEqProofs (disch := first | decide | assumption | omega) only [go_sem, ld56, RdS.len rf sl23, RdS.idx rf sl23, RdS.cellB rf (Ext.pres eB), RdS.cells rf, RdS.len rg sl23, RdS.idx rg sl23, RdS.cellB rg (Ext.pres eB), RdS.cells rg, RdS.len hr9 sl56, RdS.idx hr9 sl56, RdS.cellB hr9 (Ext.pres eB), RdS.cells hr9, RdS.len (OS.rd hO) sl23, RdS.idx (OS.rd hO) sl23, RdS.cellN (OS.rd hO), RdS.cells (OS.rd hO), RdS.len (OS.rd hR) sl56, RdS.idx (OS.rd hR) sl56, RdS.cellN (OS.rd hR), RdS.cells (OS.rd hR), wrap_id]
        refine hK _ _ ?_
        clear hK K
        refine den_cond rfl (fun c1 => ?_) (fun c1 => ?_)
        · try simp only [decide_eq_true_eq, decide_eq_false_iff_not, beq_iff_eq, beq_eq_false_iff_ne, bne_iff_ne, ne_eq, Bool.not_eq_true', Bool.not_eq_false', Bool.and_eq_true, Bool.or_eq_true, bne_eq_false_iff_eq] at c1
          refine den_skip ?_
          refine den_seq ?_
          refine den_block ?_
          refine den_seq ?_
          have hri := hS.row n i (by omega) (by omega)
          refine den_region TTok ?_
          intro K hK
          simp -implicitDefEqProofs (disch := first | decide | assumption | omega) only [go_sem, RdS.len rf sl23, RdS.idx rf sl23, RdS.cellB rf (Ext.pres eB), RdS.cells rf, RdS.len rg sl23, RdS.idx rg sl23, RdS.cellB rg (Ext.pres eB), RdS.cells rg, RdS.len hr9 sl56, RdS.idx hr9 sl56, RdS.cellB hr9 (Ext.pres eB), RdS.cells hr9, RdS.len (OS.rd hO) sl23, RdS.idx (OS.rd hO) sl23, RdS.cellN (OS.rd hO), RdS.cells (OS.rd hO), RdS.len (OS.rd hR) sl56, RdS.idx (OS.rd hR) sl56, RdS.cellN (OS.rd hR), RdS.cells (OS.rd hR), wrap_id]
          refine op_bs0 sz22 OI ?_
          intro v9_0 h9_0 ho9_0 e9_0
          replace hO := OS.ext hO e9_0
          replace hR := OS.ext hR e9_0
          have := Ext.size e9_0
          replace eB := Ext.trans eB e9_0
          replace cL2 := Chg.stepE cL2 e9_0
          replace cL6 := Chg.stepE cL6 e9_0
          have hfho9_0 : Fresh h8.size [h8.size] := Fresh.one _
          have hlho9_0 := OS.lt ho9_0
          try simp -implicitDefEqProofs (disch := first | decide | assumption | omega) only [go_sem, RdS.len rf sl23, RdS.idx rf sl23, RdS.cellB rf (Ext.pres eB), RdS.cells rf, RdS.len rg sl23, RdS.idx rg sl23, RdS.cellB rg (Ext.pres eB), RdS.cells rg, RdS.len hr9 sl56, RdS.idx hr9 sl56, RdS.cellB hr9 (Ext.pres eB), RdS.cells hr9, RdS.len (OS.rd hO) sl23, RdS.idx (OS.rd hO) sl23, RdS.cellN (OS.rd hO), RdS.cells (OS.rd hO), RdS.len (OS.rd hR) sl56, RdS.idx (OS.rd hR) sl56, RdS.cellN (OS.rd hR), RdS.cells (OS.rd hR), RdS.len (OS.rd ho9_0) sl22, RdS.idx (OS.rd ho9_0) sl22, R1.intN (OS.rd ho9_0), RdS.cells (OS.rd ho9_0), wrap_id]
          refine hK _ _ ?_
          clear hK K
          refine den_seq ?_
          refine den_seq ?_
          refine den_region TTok ?_
          intro K hK
          simp -implicitDefEqProofs (disch := first | decide | assumption | omega) only [go_sem, RdS.len rf sl23, RdS.idx rf sl23, RdS.cellB rf (Ext.pres eB), RdS.cells rf, RdS.len rg sl23, RdS.idx rg sl23, RdS.cellB rg (Ext.pres eB), RdS.cells rg, RdS.len hr9 sl56, RdS.idx hr9 sl56, RdS.cellB hr9 (Ext.pres eB), RdS.cells hr9, RdS.len (OS.rd hO) sl23, RdS.idx (OS.rd hO) sl23, RdS.cellN (OS.rd hO), RdS.cells (OS.rd hO), RdS.len (OS.rd hR) sl56, RdS.idx (OS.rd hR) sl56, RdS.cellN (OS.rd hR), RdS.cells (OS.rd hR), RdS.len (OS.rd ho9_0) sl22, RdS.idx (OS.rd ho9_0) sl22, R1.intN (OS.rd ho9_0), RdS.cells (OS.rd ho9_0), wrap_id]
          refine hK _ _ ?_
          clear hK K
          refine den_block ?_
          refine den_sel [13, 14, 0, 1, 2, 3, 9, 10, 11, 12] ?_
          intro env_10
          simp only [go_sem]
          refine den_loopS (σ := Nat × Value × List Nat) (fun st_ => [(13, st_.2.1), (14, .int .i64 (st_.1 : Int))]) (fun st_ H => (st_.1 ≤ ((f.getD n default).getD i default).length) ∧ (O1 H st_.2.1 ((List.range st_.1).map fun q : Nat => (((f.getD n default).getD i default).getD q 0 + k * ((g.getD n default).getD i default).getD q 0) % p) st_.2.2) ∧ (Fresh (h8.size) st_.2.2) ∧ (Sub [h8.size] h9_0.size st_.2.2) ∧ (Chg [h8.size] h9_0 H)) (fun st_ => ((f.getD n default).getD i default).length - st_.1) (0, v9_0, [h8.size]) ?_ ?_
          · exact ⟨by first | (simp; done) | (dsimp only; omega) | (simp; omega), by simpa using ho9_0, hfho9_0, Sub.refl, Chg.refl _ _⟩
          · rintro ⟨m, vhE, fphE⟩ h13 ee12 ⟨hi0, hE, hfhE, sbhE, cL11⟩
            dsimp only at hi0 hE hfhE sbhE cL11
            replace hO := OS.chg hO cL11 (apart_lt hlhO hfho9_0 (by omega))
            replace hR := OS.chg hR cL11 (apart_lt hlhR hfho9_0 (by omega))
            have := cL11.size
            replace eB := Ext.then eB cL11 (ge_of hfho9_0 (by omega))
            replace cL2 := Chg.step cL2 cL11 (Sub.fresh hfho9_0 (by omega))
            replace cL6 := Chg.step cL6 cL11 (Sub.fresh hfho9_0 (by omega))
            have hlhE := OS.lt hE
            simp only [List.cons_append, List.nil_append]
            have hle_ : ((List.range m).map fun q : Nat => (((f.getD n default).getD i default).getD q 0 + k * ((g.getD n default).getD i default).getD q 0) % p).length = m := by simp
            refine den_seq ?_
            refine den_seq ?_
            refine den_region TTok ?_
            intro K hK
            have hr14 := RdS.rowN rf n (by omega)
            have hlhr14 := RdS.le hr14
            have hr15 := RdS.rowN hr14 i (by omega)
            have hlhr15 := RdS.le hr15
            simp -implicitDefEqProofs (disch := first | decide | assumption | omega) only [go_sem, ld56, ld22, RdS.len rf sl23, RdS.idx rf sl23, RdS.cellB rf (Ext.pres eB), RdS.cells rf, RdS.len rg sl23, RdS.idx rg sl23, RdS.cellB rg (Ext.pres eB), RdS.cells rg, RdS.len hr9 sl56, RdS.idx hr9 sl56, RdS.cellB hr9 (Ext.pres eB), RdS.cells hr9, RdS.len hr14 sl56, RdS.idx hr14 sl56, RdS.cellB hr14 (Ext.pres eB), RdS.cells hr14, RdS.len hr15 sl22, RdS.idx hr15 sl22, R1.intB hr15 (Ext.pres eB), RdS.cells hr15, RdS.len (OS.rd hO) sl23, RdS.idx (OS.rd hO) sl23, RdS.cellN (OS.rd hO), RdS.cells (OS.rd hO), RdS.len (OS.rd hR) sl56, RdS.idx (OS.rd hR) sl56, RdS.cellN (OS.rd hR), RdS.cells (OS.rd hR), RdS.len (OS.rd hE) sl22, RdS.idx (OS.rd hE) sl22, R1.intN (OS.rd hE), RdS.cells (OS.rd hE), wrap_id]
            refine hK _ _ ?_
            clear hK K
            refine den_cond rfl (fun c2 => ?_) (fun c2 => ?_)
            · try simp only [decide_eq_true_eq, decide_eq_false_iff_not, beq_iff_eq, beq_eq_false_iff_ne, bne_iff_ne, ne_eq, Bool.not_eq_true', Bool.not_eq_false', Bool.and_eq_true, Bool.or_eq_true, bne_eq_false_iff_eq] at c2
              refine den_skip ?_
              refine den_seq ?_
              refine den_block ?_
              have hxf := hri.2.2.1.at (k := m) (by omega)
              have hxg := hri.2.2.2.at (k := m) (by omega)
              have hky := mul42 hk hxg hp.2
              refine den_draw TTok mixed [27] [(0, true), (1, true), (2, true), (3, true), (4, true), (5, true), (6, true), (7, true), (8, true), (9, true), (10, true), (11, true), (12, true), (13, true), (14, true), (15, true), (16, true), (17, true), (18, true), (19, true), (20, true), (21, true), (22, true), (23, true), (24, true), (25, false), (26, false), (27, false), (28, true)] (by kernel_rfl) ?_
              intro K hK
              have hr16 := RdS.rowN rf n (by omega)
              have hlhr16 := RdS.le hr16
              have hr17 := RdS.rowN hr16 i (by omega)
              have hlhr17 := RdS.le hr17
              have hr18 := RdS.rowN rg n (by omega)
              have hlhr18 := RdS.le hr18
              have hr19 := RdS.rowN hr18 i (by omega)
              have hlhr19 := RdS.le hr19
              simp -implicitDefEqProofs (disch := first | decide | assumption | omega) only [go_sem, ld56, ld22, ld2, RdS.len rf sl23, RdS.idx rf sl23, RdS.cellB rf (Ext.pres eB), RdS.cells rf, RdS.len rg sl23, RdS.idx rg sl23, RdS.cellB rg (Ext.pres eB), RdS.cells rg, RdS.len hr9 sl56, RdS.idx hr9 sl56, RdS.cellB hr9 (Ext.pres eB), RdS.cells hr9, RdS.len hr14 sl56, RdS.idx hr14 sl56, RdS.cellB hr14 (Ext.pres eB), RdS.cells hr14, RdS.len hr15 sl22, RdS.idx hr15 sl22, R1.intB hr15 (Ext.pres eB), RdS.cells hr15, RdS.len hr16 sl56, RdS.idx hr16 sl56, RdS.cellB hr16 (Ext.pres eB), RdS.cells hr16, RdS.len hr17 sl22, RdS.idx hr17 sl22, R1.intB hr17 (Ext.pres eB), RdS.cells hr17, RdS.len hr18 sl56, RdS.idx hr18 sl56, RdS.cellB hr18 (Ext.pres eB), RdS.cells hr18, RdS.len hr19 sl22, RdS.idx hr19 sl22, R1.intB hr19 (Ext.pres eB), RdS.cells hr19, RdS.len (OS.rd hO) sl23, RdS.idx (OS.rd hO) sl23, RdS.cellN (OS.rd hO), RdS.cells (OS.rd hO), RdS.len (OS.rd hR) sl56, RdS.idx (OS.rd hR) sl56, RdS.cellN (OS.rd hR), RdS.cells (OS.rd hR), RdS.len (OS.rd hE) sl22, RdS.idx (OS.rd hE) sl22, R1.intN (OS.rd hE), RdS.cells (OS.rd hE), wrap_id]
              try simp -implicitDefEqProofs (disch := first | decide | assumption | omega) only [go_sem, RdS.len rf sl23, RdS.idx rf sl23, RdS.cellB rf (Ext.pres eB), RdS.cells rf, RdS.len rg sl23, RdS.idx rg sl23, RdS.cellB rg (Ext.pres eB), RdS.cells rg, RdS.len hr9 sl56, RdS.idx hr9 sl56, RdS.cellB hr9 (Ext.pres eB), RdS.cells hr9, RdS.len hr14 sl56, RdS.idx hr14 sl56, RdS.cellB hr14 (Ext.pres eB), RdS.cells hr14, RdS.len hr15 sl22, RdS.idx hr15 sl22, R1.intB hr15 (Ext.pres eB), RdS.cells hr15, RdS.len hr16 sl56, RdS.idx hr16 sl56, RdS.cellB hr16 (Ext.pres eB), RdS.cells hr16, RdS.len hr17 sl22, RdS.idx hr17 sl22, R1.intB hr17 (Ext.pres eB), RdS.cells hr17, RdS.len hr18 sl56, RdS.idx hr18 sl56, RdS.cellB hr18 (Ext.pres eB), RdS.cells hr18, RdS.len hr19 sl22, RdS.idx hr19 sl22, R1.intB hr19 (Ext.pres eB), RdS.cells hr19, RdS.len (OS.rd hO) sl23, RdS.idx (OS.rd hO) sl23, RdS.cellN (OS.rd hO), RdS.cells (OS.rd hO), RdS.len (OS.rd hR) sl56, RdS.idx (OS.rd hR) sl56, RdS.cellN (OS.rd hR), RdS.cells (OS.rd hR), RdS.len (OS.rd hE) sl22, RdS.idx (OS.rd hE) sl22, R1.intN (OS.rd hE), RdS.cells (OS.rd hE), wrap_id]
              refine CallA.mono (sMod_ok  p (((((f).getD n default).getD i default).getD m 0) + (k * ((((g).getD n default).getD i default).getD m 0))) _  (by omega) (by omega)) ?_
              intro v_ h13_25
              rintro ⟨rfl, e13_25⟩
              replace hO := OS.ext hO e13_25
              replace hR := OS.ext hR e13_25
              replace hE := OS.ext hE e13_25
              have := Ext.size e13_25
              replace eB := Ext.trans eB e13_25
              replace cL2 := Chg.stepE cL2 e13_25
              replace cL6 := Chg.stepE cL6 e13_25
              replace cL11 := Chg.stepE cL11 e13_25
              try simp (disch := decide) only [outv_some, outv_none, put_puts]
              refine plK_pres (Ext.pres e13_25) ?_
              try simp -implicitDefEqProofs (disch := first | decide | assumption | omega) only [go_sem, RdS.len rf sl23, RdS.idx rf sl23, RdS.cellB rf (Ext.pres eB), RdS.cells rf, RdS.len rg sl23, RdS.idx rg sl23, RdS.cellB rg (Ext.pres eB), RdS.cells rg, RdS.len hr9 sl56, RdS.idx hr9 sl56, RdS.cellB hr9 (Ext.pres eB), RdS.cells hr9, RdS.len hr14 sl56, RdS.idx hr14 sl56, RdS.cellB hr14 (Ext.pres eB), RdS.cells hr14, RdS.len hr15 sl22, RdS.idx hr15 sl22, R1.intB hr15 (Ext.pres eB), RdS.cells hr15, RdS.len hr16 sl56, RdS.idx hr16 sl56, RdS.cellB hr16 (Ext.pres eB), RdS.cells hr16, RdS.len hr17 sl22, RdS.idx hr17 sl22, R1.intB hr17 (Ext.pres eB), RdS.cells hr17, RdS.len hr18 sl56, RdS.idx hr18 sl56, RdS.cellB hr18 (Ext.pres eB), RdS.cells hr18, RdS.len hr19 sl22, RdS.idx hr19 sl22, R1.intB hr19 (Ext.pres eB), RdS.cells hr19, RdS.len (OS.rd hO) sl23, RdS.idx (OS.rd hO) sl23, RdS.cellN (OS.rd hO), RdS.cells (OS.rd hO), RdS.len (OS.rd hR) sl56, RdS.idx (OS.rd hR) sl56, RdS.cellN (OS.rd hR), RdS.cells (OS.rd hR), RdS.len (OS.rd hE) sl22, RdS.idx (OS.rd hE) sl22, R1.intN (OS.rd hE), RdS.cells (OS.rd hE), wrap_id]
              refine op_bs1 sz22 rfl rfl ?_
              try simp (disch := decide) only [outv_some, outv_none, put_puts]
              refine plK_pres (Ext.pres (Ext.push _ _)) ?_
              try simp -implicitDefEqProofs (disch := first | decide | assumption | omega) only [go_sem, RdS.len rf sl23, RdS.idx rf sl23, RdS.cellB rf (Ext.pres eB), RdS.cells rf, RdS.len rg sl23, RdS.idx rg sl23, RdS.cellB rg (Ext.pres eB), RdS.cells rg, RdS.len hr9 sl56, RdS.idx hr9 sl56, RdS.cellB hr9 (Ext.pres eB), RdS.cells hr9, RdS.len hr14 sl56, RdS.idx hr14 sl56, RdS.cellB hr14 (Ext.pres eB), RdS.cells hr14, RdS.len hr15 sl22, RdS.idx hr15 sl22, R1.intB hr15 (Ext.pres eB), RdS.cells hr15, RdS.len hr16 sl56, RdS.idx hr16 sl56, RdS.cellB hr16 (Ext.pres eB), RdS.cells hr16, RdS.len hr17 sl22, RdS.idx hr17 sl22, R1.intB hr17 (Ext.pres eB), RdS.cells hr17, RdS.len hr18 sl56, RdS.idx hr18 sl56, RdS.cellB hr18 (Ext.pres eB), RdS.cells hr18, RdS.len hr19 sl22, RdS.idx hr19 sl22, R1.intB hr19 (Ext.pres eB), RdS.cells hr19, RdS.len (OS.rd hO) sl23, RdS.idx (OS.rd hO) sl23, RdS.cellN (OS.rd hO), RdS.cells (OS.rd hO), RdS.len (OS.rd hR) sl56, RdS.idx (OS.rd hR) sl56, RdS.cellN (OS.rd hR), RdS.cells (OS.rd hR), RdS.len (OS.rd hE) sl22, RdS.idx (OS.rd hE) sl22, R1.intN (OS.rd hE), RdS.cells (OS.rd hE), wrap_id]
              refine op_append1 sz22 hE hfhE.nodup ⟨rfl, rfl⟩ List.nodup_nil (Apart.nil _) (by first | omega | (simp; omega)) rfl rfl ?_
              intro v13_27 h13_27 fp13_27 ho13_27 hn13_27 hs13_27 c13_27
              have hsz13_27 := c13_27.size
              have hfho13_27 : Fresh h8.size fp13_27 := Fresh.appd hfhE (Fresh.nil h13_25.size) (by omega) (by omega) hn13_27 hs13_27
              have sb20 : Sub [h8.size] h9_0.size fp13_27 := Sub.grow sbhE Sub.nil (by omega) hs13_27
              replace hO := OS.chg hO c13_27 (apart_lt hlhO hfhE (by omega))
              replace hR := OS.chg hR c13_27 (apart_lt hlhR hfhE (by omega))
              have := c13_27.size
              replace eB := Ext.then eB c13_27 (ge_of hfhE (by omega))
              replace cL2 := Chg.step cL2 c13_27 (Sub.fresh hfhE (by omega))
              replace cL6 := Chg.step cL6 c13_27 (Sub.fresh hfhE (by omega))
              replace cL11 := Chg.step cL11 c13_27 sbhE
              have hlho13_27 := OS.lt ho13_27
              try simp (disch := decide) only [outv_some, outv_none, put_puts]
              refine plK_last (by decide) ?_
              try simp -implicitDefEqProofs (disch := first | decide | assumption | omega) only [go_sem, RdS.len rf sl23, RdS.idx rf sl23, RdS.cellB rf (Ext.pres eB), RdS.cells rf, RdS.len rg sl23, RdS.idx rg sl23, RdS.cellB rg (Ext.pres eB), RdS.cells rg, RdS.len hr9 sl56, RdS.idx hr9 sl56, RdS.cellB hr9 (Ext.pres eB), RdS.cells hr9, RdS.len hr14 sl56, RdS.idx hr14 sl56, RdS.cellB hr14 (Ext.pres eB), RdS.cells hr14, RdS.len hr15 sl22, RdS.idx hr15 sl22, R1.intB hr15 (Ext.pres eB), RdS.cells hr15, RdS.len hr16 sl56, RdS.idx hr16 sl56, RdS.cellB hr16 (Ext.pres eB), RdS.cells hr16, RdS.len hr17 sl22, RdS.idx hr17 sl22, R1.intB hr17 (Ext.pres eB), RdS.cells hr17, RdS.len hr18 sl56, RdS.idx hr18 sl56, RdS.cellB hr18 (Ext.pres eB), RdS.cells hr18, RdS.len hr19 sl22, RdS.idx hr19 sl22, R1.intB hr19 (Ext.pres eB), RdS.cells hr19, RdS.len (OS.rd hO) sl23, RdS.idx (OS.rd hO) sl23, RdS.cellN (OS.rd hO), RdS.cells (OS.rd hO), RdS.len (OS.rd hR) sl56, RdS.idx (OS.rd hR) sl56, RdS.cellN (OS.rd hR), RdS.cells (OS.rd hR), RdS.len (OS.rd ho13_27) sl22, RdS.idx (OS.rd ho13_27) sl22, R1.intN (OS.rd ho13_27), RdS.cells (OS.rd ho13_27), wrap_id]
              refine hK _ _ ?_
              clear hK K
              refine den_blk ?_
              refine den_region TTok ?_
              intro K hK
              simp -implicitDefEqProofs (disch := first | decide | assumption | omega) only [go_sem, RdS.len rf sl23, RdS.idx rf sl23, RdS.cellB rf (Ext.pres eB), RdS.cells rf, RdS.len rg sl23, RdS.idx rg sl23, RdS.cellB rg (Ext.pres eB), RdS.cells rg, RdS.len hr9 sl56, RdS.idx hr9 sl56, RdS.cellB hr9 (Ext.pres eB), RdS.cells hr9, RdS.len hr14 sl56, RdS.idx hr14 sl56, RdS.cellB hr14 (Ext.pres eB), RdS.cells hr14, RdS.len hr15 sl22, RdS.idx hr15 sl22, R1.intB hr15 (Ext.pres eB), RdS.cells hr15, RdS.len hr16 sl56, RdS.idx hr16 sl56, RdS.cellB hr16 (Ext.pres eB), RdS.cells hr16, RdS.len hr17 sl22, RdS.idx hr17 sl22, R1.intB hr17 (Ext.pres eB), RdS.cells hr17, RdS.len hr18 sl56, RdS.idx hr18 sl56, RdS.cellB hr18 (Ext.pres eB), RdS.cells hr18, RdS.len hr19 sl22, RdS.idx hr19 sl22, R1.intB hr19 (Ext.pres eB), RdS.cells hr19, RdS.len (OS.rd hO) sl23, RdS.idx (OS.rd hO) sl23, RdS.cellN (OS.rd hO), RdS.cells (OS.rd hO), RdS.len (OS.rd hR) sl56, RdS.idx (OS.rd hR) sl56, RdS.cellN (OS.rd hR), RdS.cells (OS.rd hR), RdS.len (OS.rd ho13_27) sl22, RdS.idx (OS.rd ho13_27) sl22, R1.intN (OS.rd ho13_27), RdS.cells (OS.rd ho13_27), wrap_id]
              refine hK _ _ ?_
              clear hK K
              refine den_stop ?_
              rw [range_step (fun q : Nat => (((f.getD n default).getD i default).getD q 0 + k * ((g.getD n default).getD i default).getD q 0) % p)] at ho13_27
              exact ⟨(m + 1, v13_27, fp13_27), by simp [HasL, puts_at], ⟨by first | omega | (dsimp only; omega), ho13_27, hfho13_27, sb20, cL11⟩, by first | omega | (dsimp only; omega)⟩
            · try simp only [decide_eq_true_eq, decide_eq_false_iff_not, beq_iff_eq, beq_eq_false_iff_ne, bne_iff_ne, ne_eq, Bool.not_eq_true', Bool.not_eq_false', Bool.and_eq_true, Bool.or_eq_true, bne_eq_false_iff_eq] at c2
              refine den_exit ?_
              refine denX_code ?_
              refine denX_stop ?_
              refine denX_hit ?_
              refine den_region TTok ?_
              intro K hK
              simp -implicitDefEqProofs (disch := first | decide | assumption | omega) only [go_sem, RdS.len rf sl23, RdS.idx rf sl23, RdS.cellB rf (Ext.pres eB), RdS.cells rf, RdS.len rg sl23, RdS.idx rg sl23, RdS.cellB rg (Ext.pres eB), RdS.cells rg, RdS.len hr9 sl56, RdS.idx hr9 sl56, RdS.cellB hr9 (Ext.pres eB), RdS.cells hr9, RdS.len hr14 sl56, RdS.idx hr14 sl56, RdS.cellB hr14 (Ext.pres eB), RdS.cells hr14, RdS.len hr15 sl22, RdS.idx hr15 sl22, R1.intB hr15 (Ext.pres eB), RdS.cells hr15, RdS.len (OS.rd hO) sl23, RdS.idx (OS.rd hO) sl23, RdS.cellN (OS.rd hO), RdS.cells (OS.rd hO), RdS.len (OS.rd hR) sl56, RdS.idx (OS.rd hR) sl56, RdS.cellN (OS.rd hR), RdS.cells (OS.rd hR), RdS.len (OS.rd hE) sl22, RdS.idx (OS.rd hE) sl22, R1.intN (OS.rd hE), RdS.cells (OS.rd hE), wrap_id]
              refine op_bs1 sz56 rfl (OS.one hE).2 ?_
              try simp -implicitDefEqProofs (disch := first | decide | assumption | omega) only [go_sem, RdS.len rf sl23, RdS.idx rf sl23, RdS.cellB rf (Ext.pres eB), RdS.cells rf, RdS.len rg sl23, RdS.idx rg sl23, RdS.cellB rg (Ext.pres eB), RdS.cells rg, RdS.len hr9 sl56, RdS.idx hr9 sl56, RdS.cellB hr9 (Ext.pres eB), RdS.cells hr9, RdS.len hr14 sl56, RdS.idx hr14 sl56, RdS.cellB hr14 (Ext.pres eB), RdS.cells hr14, RdS.len hr15 sl22, RdS.idx hr15 sl22, R1.intB hr15 (Ext.pres eB), RdS.cells hr15, RdS.len (OS.rd hO) sl23, RdS.idx (OS.rd hO) sl23, RdS.cellN (OS.rd hO), RdS.cells (OS.rd hO), RdS.len (OS.rd hR) sl56, RdS.idx (OS.rd hR) sl56, RdS.cellN (OS.rd hR), RdS.cells (OS.rd hR), RdS.len (OS.rd hE) sl22, RdS.idx (OS.rd hE) sl22, R1.intN (OS.rd hE), RdS.cells (OS.rd hE), wrap_id]
              refine op_append1 sz56 hR hfhR.nodup hE hfhE.nodup (apart_lt hlhR hfhE (by omega)) (by first | omega | (simp; omega)) rfl rfl ?_
              intro v14_3 h14_3 fp14_3 ho14_3 hn14_3 hs14_3 c14_3
              have hsz14_3 := c14_3.size
              have hfho14_3 : Fresh h4.size fp14_3 := Fresh.appd hfhR hfhE (by omega) (by omega) hn14_3 hs14_3
              have sb21 : Sub [h4.size] h5_0.size fp14_3 := Sub.grow sbhR (Sub.fresh hfhE (by omega)) (by omega) hs14_3
              replace hO := OS.chg hO c14_3 (apart_lt hlhO hfhR (by omega))
              have := c14_3.size
              replace eB := Ext.then eB c14_3 (ge_of hfhR (by omega))
              replace cL2 := Chg.step cL2 c14_3 (Sub.fresh hfhR (by omega))
              replace cL6 := Chg.step cL6 c14_3 sbhR
              have hlho14_3 := OS.lt ho14_3
              try simp -implicitDefEqProofs (disch := first | decide | assumption | omega) only [go_sem, RdS.len rf sl23, RdS.idx rf sl23, RdS.cellB rf (Ext.pres eB), RdS.cells rf, RdS.len rg sl23, RdS.idx rg sl23, RdS.cellB rg (Ext.pres eB), RdS.cells rg, RdS.len hr9 sl56, RdS.idx hr9 sl56, RdS.cellB hr9 (Ext.pres eB), RdS.cells hr9, RdS.len hr14 sl56, RdS.idx hr14 sl56, RdS.cellB hr14 (Ext.pres eB), RdS.cells hr14, RdS.len hr15 sl22, RdS.idx hr15 sl22, R1.intB hr15 (Ext.pres eB), RdS.cells hr15, RdS.len (OS.rd hO) sl23, RdS.idx (OS.rd hO) sl23, RdS.cellN (OS.rd hO), RdS.cells (OS.rd hO), RdS.len (OS.rd ho14_3) sl56, RdS.idx (OS.rd ho14_3) sl56, RdS.cellN (OS.rd ho14_3), RdS.cells (OS.rd ho14_3), wrap_id]
              refine hK _ _ ?_
              clear hK K
              refine den_blk ?_
              refine den_region TTok ?_
              intro K hK
              simp -implicitDefEqProofs (disch := first | decide | assumption | omega) only [go_sem, RdS.len rf sl23, RdS.idx rf sl23, RdS.cellB rf (Ext.pres eB), RdS.cells rf, RdS.len rg sl23, RdS.idx rg sl23, RdS.cellB rg (Ext.pres eB), RdS.cells rg, RdS.len hr9 sl56, RdS.idx hr9 sl56, RdS.cellB hr9 (Ext.pres eB), RdS.cells hr9, RdS.len hr14 sl56, RdS.idx hr14 sl56, RdS.cellB hr14 (Ext.pres eB), RdS.cells hr14, RdS.len hr15 sl22, RdS.idx hr15 sl22, R1.intB hr15 (Ext.pres eB), RdS.cells hr15, RdS.len (OS.rd hO) sl23, RdS.idx (OS.rd hO) sl23, RdS.cellN (OS.rd hO), RdS.cells (OS.rd hO), RdS.len (OS.rd ho14_3) sl56, RdS.idx (OS.rd ho14_3) sl56, RdS.cellN (OS.rd ho14_3), RdS.cells (OS.rd ho14_3), wrap_id]
              refine hK _ _ ?_
              clear hK K
              refine den_stop ?_
              rw [show ((List.range m).map fun q : Nat => (((f.getD n default).getD i default).getD q 0 + k * ((g.getD n default).getD i default).getD q 0) % p) = addRow p k ((f.getD n default).getD i default) ((g.getD n default).getD i default) by rw [addRow, show ((f.getD n default).getD i default).length = m by omega], range_step (fun i : Nat => addRow p k ((f.getD n default).getD i default) ((g.getD n default).getD i default))] at ho14_3
              exact ⟨(i + 1, v14_3, fp14_3), by simp [HasL, puts_at], ⟨by first | omega | (dsimp only; omega), ho14_3, hfho14_3, sb21, cL6⟩, by first | omega | (dsimp only; omega)⟩
        · try simp only [decide_eq_true_eq, decide_eq_false_iff_not, beq_iff_eq, beq_eq_false_iff_ne, bne_iff_ne, ne_eq, Bool.not_eq_true', Bool.not_eq_false', Bool.and_eq_true, Bool.or_eq_true, bne_eq_false_iff_eq] at c1
          refine den_exit ?_
          refine denX_code ?_
          refine denX_stop ?_
          refine denX_hit ?_
          refine den_region TTok ?_
          intro K hK
          simp -implicitDefEqProofs (disch := first | decide | assumption | omega) only [go_sem, RdS.len rf sl23, RdS.idx rf sl23, RdS.cellB rf (Ext.pres eB), RdS.cells rf, RdS.len rg sl23, RdS.idx rg sl23, RdS.cellB rg (Ext.pres eB), RdS.cells rg, RdS.len hr9 sl56, RdS.idx hr9 sl56, RdS.cellB hr9 (Ext.pres eB), RdS.cells hr9, RdS.len (OS.rd hO) sl23, RdS.idx (OS.rd hO) sl23, RdS.cellN (OS.rd hO), RdS.cells (OS.rd hO), RdS.len (OS.rd hR) sl56, RdS.idx (OS.rd hR) sl56, RdS.cellN (OS.rd hR), RdS.cells (OS.rd hR), wrap_id]
          refine op_bs1 sz23 rfl (OS.one hR).2 ?_
          try simp -implicitDefEqProofs (disch := first | decide | assumption | omega) only [go_sem, RdS.len rf sl23, RdS.idx rf sl23, RdS.cellB rf (Ext.pres eB), RdS.cells rf, RdS.len rg sl23, RdS.idx rg sl23, RdS.cellB rg (Ext.pres eB), RdS.cells rg, RdS.len hr9 sl56, RdS.idx hr9 sl56, RdS.cellB hr9 (Ext.pres eB), RdS.cells hr9, RdS.len (OS.rd hO) sl23, RdS.idx (OS.rd hO) sl23, RdS.cellN (OS.rd hO), RdS.cells (OS.rd hO), RdS.len (OS.rd hR) sl56, RdS.idx (OS.rd hR) sl56, RdS.cellN (OS.rd hR), RdS.cells (OS.rd hR), wrap_id]
          refine op_append1 sz23 hO hfhO.nodup hR hfhR.nodup (apart_lt hlhO hfhR (by omega)) (by first | omega | (simp; omega)) rfl rfl ?_
          intro v15_3 h15_3 fp15_3 ho15_3 hn15_3 hs15_3 c15_3
          have hsz15_3 := c15_3.size
          have hfho15_3 : Fresh h.size fp15_3 := Fresh.appd hfhO hfhR (by omega) (by omega) hn15_3 hs15_3
          have sb22 : Sub [h.size] h1_0.size fp15_3 := Sub.grow sbhO (Sub.fresh hfhR (by omega)) (by omega) hs15_3
          have := c15_3.size
          replace eB := Ext.then eB c15_3 (ge_of hfhO (by omega))
          replace cL2 := Chg.step cL2 c15_3 sbhO
          have hlho15_3 := OS.lt ho15_3
          try simp -implicitDefEqProofs (disch := first | decide | assumption | omega) only [go_sem, RdS.len rf sl23, RdS.idx rf sl23, RdS.cellB rf (Ext.pres eB), RdS.cells rf, RdS.len rg sl23, RdS.idx rg sl23, RdS.cellB rg (Ext.pres eB), RdS.cells rg, RdS.len hr9 sl56, RdS.idx hr9 sl56, RdS.cellB hr9 (Ext.pres eB), RdS.cells hr9, RdS.len (OS.rd ho15_3) sl23, RdS.idx (OS.rd ho15_3) sl23, RdS.cellN (OS.rd ho15_3), RdS.cells (OS.rd ho15_3), wrap_id]
          refine hK _ _ ?_
          clear hK K
          refine den_blk ?_
          refine den_region TTok ?_
          intro K hK
          simp -implicitDefEqProofs (disch := first | decide | assumption | omega) only [go_sem, RdS.len rf sl23, RdS.idx rf sl23, RdS.cellB rf (Ext.pres eB), RdS.cells rf, RdS.len rg sl23, RdS.idx rg sl23, RdS.cellB rg (Ext.pres eB), RdS.cells rg, RdS.len hr9 sl56, RdS.idx hr9 sl56, RdS.cellB hr9 (Ext.pres eB), RdS.cells hr9, RdS.len (OS.rd ho15_3) sl23, RdS.idx (OS.rd ho15_3) sl23, RdS.cellN (OS.rd ho15_3), RdS.cells (OS.rd ho15_3), wrap_id]
          refine hK _ _ ?_
          clear hK K
          refine den_stop ?_
          rw [show ((List.range i).map fun i : Nat => addRow p k ((f.getD n default).getD i default) ((g.getD n default).getD i default)) = addRows p k (f.getD n default) (g.getD n default) by rw [addRows, show (f.getD n default).length = i by omega], range_step (fun n : Nat => addRows p k (f.getD n default) (g.getD n default))] at ho15_3
          exact ⟨(n + 1, v15_3, fp15_3), by simp [HasL, puts_at], ⟨by first | omega | (dsimp only; omega), ho15_3, hfho15_3, sb22, cL2⟩, by first | omega | (dsimp only; omega)⟩
    · try simp only [decide_eq_true_eq, decide_eq_false_iff_not, beq_iff_eq, beq_eq_false_iff_ne, bne_iff_ne, ne_eq, Bool.not_eq_true', Bool.not_eq_false', Bool.and_eq_true, Bool.or_eq_true, bne_eq_false_iff_eq] at c0
      refine den_exit ?_
      refine denX_code ?_
      refine denX_stop ?_
      refine denX_hit ?_
      refine den_seq ?_
      refine den_region TTok ?_
      intro K hK
      simp -implicitDefEqProofs (disch := first | decide | assumption | omega) only [go_sem, RdS.len rf sl23, RdS.idx rf sl23, RdS.cellB rf (Ext.pres eB), RdS.cells rf, RdS.len rg sl23, RdS.idx rg sl23, RdS.cellB rg (Ext.pres eB), RdS.cells rg, RdS.len (OS.rd hO) sl23, RdS.idx (OS.rd hO) sl23, RdS.cellN (OS.rd hO), RdS.cells (OS.rd hO), wrap_id]
      refine hK _ _ ?_
      clear hK K
      refine den_ret ?_
      simp (disch := decide) only [resP_1, puts_same, puts_ne]
      rw [show n = f.length by omega] at hO
      exact ⟨_, _, rfl, hO, hfhO.mono (by omega), eB⟩

end Go.Proofs.Ytffggocjkhcgeaa
