/-
  Walks: families mapped.
  Conditions: each theorem's own.
-/
import Derived.Test.YtffggocjkhcgeaaB4
set_option linter.unusedVariables false
set_option linter.unusedSimpArgs false
namespace Go.Proofs.Ytffggocjkhcgeaa
open Go
theorem bs3C (h : Heap) (a b c d e f i j k : Value) : buildSliceV TT h 127 3 [(0, .agg #[a, b, c]), (1, .agg #[d, e, f]), (2, .agg #[i, j, k])] = some (.slice (some ⟨h.size, 0, none⟩) 3 3, h.push (.cells #[a, b, c, d, e, f, i, j, k] 30)) := by kernel_rfl
section
variable {P : Program} {n : Nat} {K : Env → Heap → Prop} {env : Env} {h : Heap} {d : Option Tmp} {ty : TypeId} {p : String} {a : Array Edge} {g : Option (Nat × Bool)}
set_option maxRecDepth 100000 in
theorem op_bs3C {x y z : Operand} {X Y Z : Cx} (hx : RC h (ev env x) X) (hy : RC h (ev env y) Y) (hz : RC h (ev env z) Z)
    (hk : ∀ v' h', RdA 3 RC h' v' [X, Y, Z] → Ext h h' → outv n ⟨d, .buildSlice 127 3 #[(0, x), (1, y), (2, z)], ty, p, a, g⟩ K env h' v') : opP P TT n ⟨d, .buildSlice 127 3 #[(0, x), (1, y), (2, z)], ty, p, a, g⟩ K env h := by
  obtain ⟨d1, m1, e1, h1, h2⟩ := hx
  obtain ⟨d2, m2, e2, h3, h4⟩ := hy
  obtain ⟨d3, m3, e3, h5, h6⟩ := hz
  rw [opP_buildSlice]
  have : (#[(0, x), (1, y), (2, z)].map (fun (i, x) => (i, ev env x)) : Array (Nat × Value)).toList = [(0, .agg #[.int .i64 X.p, d1, m1]), (1, .agg #[.int .i64 Y.p, d2, m2]), (2, .agg #[.int .i64 Z.p, d3, m3])] := by simp [e1, e2, e3]
  rw [this, bs3C, Bd_some]
  have ex := Ext.push h (.cells #[.int .i64 X.p, d1, m1, .int .i64 Y.p, d2, m2, .int .i64 Z.p, d3, m3] 30)
  have hb := BoxAt.new h #[.int .i64 X.p, d1, m1, .int .i64 Y.p, d2, m2, .int .i64 Z.p, d3, m3] 30
  refine hk _ _ ⟨some ⟨h.size, 0, none⟩, 3, rfl, .inl rfl, by simp, by omega, fun j hj => ?_⟩ ex
  have hj' : j = 0 ∨ j = 1 ∨ j = 2 := by simp at hj; omega
  rcases hj' with rfl | rfl | rfl
  · refine ⟨[.int .i64 X.p, d1, m1], rfl, fun i hi => ?_, d1, m1, rfl, h1.pres ex.pres, h2.pres ex.pres⟩
    have hi' : i = 0 ∨ i = 1 ∨ i = 2 := by simp at hi; omega
    rcases hi' with rfl | rfl | rfl <;> simp only [sA, addr_add, hb.cell] <;> rfl
  · refine ⟨[.int .i64 Y.p, d2, m2], rfl, fun i hi => ?_, d2, m2, rfl, h3.pres ex.pres, h4.pres ex.pres⟩
    have hi' : i = 0 ∨ i = 1 ∨ i = 2 := by simp at hi; omega
    rcases hi' with rfl | rfl | rfl <;> simp only [sA, addr_add, hb.cell] <;> rfl
  · refine ⟨[.int .i64 Z.p, d3, m3], rfl, fun i hi => ?_, d3, m3, rfl, h5.pres ex.pres, h6.pres ex.pres⟩
    have hi' : i = 0 ∨ i = 1 ∨ i = 2 := by simp at hi; omega
    rcases hi' with rfl | rfl | rfl <;> simp only [sA, addr_add, hb.cell] <;> rfl
end
def mapRows (F : Nat → List Int → List Int) (f : List (List (List Int))) (n : Nat) : List (List Int) := (List.range (f.getD n default).length).map fun q : Nat => F n ((f.getD n default).getD q default)
def mapFam (F : Nat → List Int → List Int) (f : List (List (List Int))) : List (List (List Int)) := (List.range f.length).map fun q : Nat => mapRows F f q
theorem mapRows_len (F : Nat → List Int → List Int) (f : List (List (List Int))) (n : Nat) : (mapRows F f n).length = (f.getD n default).length := by simp [mapRows]
theorem mapFam_len (F : Nat → List Int → List Int) (f : List (List (List Int))) : (mapFam F f).length = f.length := by simp [mapFam]
theorem cnt_mapFam {F : Nat → List Int → List Int} {f : List (List (List Int))} {m r c : Nat} (hm : f.length ≤ m) (hr : ∀ n, n < f.length → (f.getD n default).length ≤ r) (hc : ∀ n i, n < f.length → i < (f.getD n default).length → (F n ((f.getD n default).getD i default)).length ≤ c) : 0 ≤ cntL cnt2 (mapFam F f) ∧ cntL cnt2 (mapFam F f) ≤ m * ((r : Int) * c) := by
  refine cntL_bnd (Int.mul_nonneg (by omega) (by omega)) (fun x hx => ?_) (by rw [mapFam_len]; exact hm)
  obtain ⟨n, hn, rfl⟩ := List.mem_map.1 hx
  rw [List.mem_range] at hn
  exact cntL_bnd (ct := cnt1) (by omega) (fun y hy => by
    obtain ⟨i, hi, rfl⟩ := List.mem_map.1 hy
    rw [List.mem_range] at hi
    have := hc n i hn hi
    simp only [cnt1]; omega) (by rw [mapRows_len]; exact hr n hn)

set_option maxRecDepth 100000 in
theorem mapped_ok (vf : Value) (f : List (List (List Int))) (g : FuncId) (cs : Array Value) (F : Nat → List Int → List Int) (h : Heap) (rf : R3 h vf f) (hl : f.length ≤ 6) (hl2 : ∀ n, n < f.length → (f.getD n default).length ≤ 8) (hf : ∀ n i, n < f.length → i < (f.getD n default).length → ∀ h', Ext h h' → CallA Try.prog g (#[.int .i64 (n : Int), rowV h (rowV h vf n) i] ++ cs) h' fun u h'' => ∃ fp, O1 h'' u (F n ((f.getD n default).getD i default)) fp ∧ Fresh h'.size fp ∧ Ext h' h'') : CallA Try.prog 88 #[vf, .func (.func g) #[] cs] h fun v' h' => ∃ f0, O3 h' v' (mapFam F f) f0 ∧ Fresh h.size f0 ∧ Ext h h' := by
  have hlef := RdS.le rf
  refine callA_intro TTok (args := [_, _]) Try.func88 (by kernel_rfl) rfl 40 rfl (by simp) [.tmp 4] rfl ?_
  simp only [idxs, Nat.reduceAdd]
  refine den_seq ?_
  refine den_region TTok ?_
  intro K hK
  simp -implicitDefEqProofs (disch := first | decide | assumption | omega) only [go_sem, RdS.len rf sl23, RdS.idx rf sl23, RdS.cellB rf (HPres.refl _), RdS.cells rf, wrap_id]
  refine hK _ _ ?_
  clear hK K
  refine den_seq ?_
  refine den_region TTok ?_
  intro K hK
  simp -implicitDefEqProofs (disch := first | decide | assumption | omega) only [go_sem, RdS.len rf sl23, RdS.idx rf sl23, RdS.cellB rf (HPres.refl _), RdS.cells rf, wrap_id]
  refine op_bs0 sz23 O2 ?_
  intro v1_0 h1_0 ho1_0 e1_0
  have := Ext.size e1_0
  have eB := e1_0
  have hfho1_0 : Fresh h.size [h.size] := Fresh.one _
  have hlho1_0 := OS.lt ho1_0
  try simp -implicitDefEqProofs (disch := first | decide | assumption | omega) only [go_sem, RdS.len rf sl23, RdS.idx rf sl23, RdS.cellB rf (Ext.pres eB), RdS.cells rf, RdS.len (OS.rd ho1_0) sl23, RdS.idx (OS.rd ho1_0) sl23, RdS.cellN (OS.rd ho1_0), RdS.cells (OS.rd ho1_0), wrap_id]
  refine hK _ _ ?_
  clear hK K
  refine den_seq ?_
  refine den_seq ?_
  refine den_region TTok ?_
  intro K hK
  simp -implicitDefEqProofs (disch := first | decide | assumption | omega) only [go_sem, RdS.len rf sl23, RdS.idx rf sl23, RdS.cellB rf (Ext.pres eB), RdS.cells rf, RdS.len (OS.rd ho1_0) sl23, RdS.idx (OS.rd ho1_0) sl23, RdS.cellN (OS.rd ho1_0), RdS.cells (OS.rd ho1_0), wrap_id]
  refine hK _ _ ?_
  clear hK K
  refine den_block ?_
  refine den_sel [5, 14, 1, 12, 13] ?_
  intro env_1
  simp only [go_sem]
  refine den_loopS (σ := Nat × Value × List Nat) (fun st_ => [(5, st_.2.1), (14, .int .i64 (st_.1 : Int))]) (fun st_ H => (st_.1 ≤ f.length) ∧ (O3 H st_.2.1 ((List.range st_.1).map fun q : Nat => mapRows F f q) st_.2.2) ∧ (Fresh (h.size) st_.2.2) ∧ (Sub [h.size] h1_0.size st_.2.2) ∧ (Chg [h.size] h1_0 H)) (fun st_ => f.length - st_.1) (0, v1_0, [h.size]) ?_ ?_
  · exact ⟨by first | (simp; done) | (dsimp only; omega) | (simp; omega), by simpa using ho1_0, hfho1_0, Sub.refl, Chg.refl _ _⟩
  · rintro ⟨n, vhO, fphO⟩ h4 ee3 ⟨hi0, hO, hfhO, sbhO, cL2⟩
    dsimp only at hi0 hO hfhO sbhO cL2
    have := cL2.size
    replace eB := Ext.then eB cL2 (ge_of hfho1_0 (by omega))
    have hlhO := OS.lt hO
    simp only [List.cons_append, List.nil_append]
    have hlo : ((List.range n).map fun q : Nat => mapRows F f q).length = n := by simp
    refine den_seq ?_
    refine den_region TTok ?_
    intro K hK
    simp -implicitDefEqProofs (disch := first | decide | assumption | omega) only [go_sem, RdS.len rf sl23, RdS.idx rf sl23, RdS.cellB rf (Ext.pres eB), RdS.cells rf, RdS.len (OS.rd hO) sl23, RdS.idx (OS.rd hO) sl23, RdS.cellN (OS.rd hO), RdS.cells (OS.rd hO), wrap_id]
    refine hK _ _ ?_
    clear hK K
    refine den_seq ?_
    refine den_cond rfl (fun c0 => ?_) (fun c0 => ?_)
    · try simp only [decide_eq_true_eq, decide_eq_false_iff_not, beq_iff_eq, beq_eq_false_iff_ne, bne_iff_ne, ne_eq, Bool.not_eq_true', Bool.not_eq_false', Bool.and_eq_true, Bool.or_eq_true, bne_eq_false_iff_eq] at c0
      refine den_skip ?_
      refine den_seq ?_
      refine den_block ?_
      refine den_seq ?_
      have hl2n := hl2 n (by omega)
      refine den_region TTok ?_
      intro K hK
      have hr5 := RdS.rowN rf n (by omega)
      have hlhr5 := RdS.le hr5
      simp -implicitDefEqProofs (disch := first | decide | assumption | omega) only [go_sem, ld56, RdS.len rf sl23, RdS.idx rf sl23, RdS.cellB rf (Ext.pres eB), RdS.cells rf, RdS.len hr5 sl56, RdS.idx hr5 sl56, RdS.cellB hr5 (Ext.pres eB), RdS.cells hr5, RdS.len (OS.rd hO) sl23, RdS.idx (OS.rd hO) sl23, RdS.cellN (OS.rd hO), RdS.cells (OS.rd hO), wrap_id]
      refine hK _ _ ?_
      clear hK K
      refine den_seq ?_
      refine den_region TTok ?_
      intro K hK
      simp -implicitDefEqProofs (disch := first | decide | assumption | omega) only [go_sem, RdS.len rf sl23, RdS.idx rf sl23, RdS.cellB rf (Ext.pres eB), RdS.cells rf, RdS.len hr5 sl56, RdS.idx hr5 sl56, RdS.cellB hr5 (Ext.pres eB), RdS.cells hr5, RdS.len (OS.rd hO) sl23, RdS.idx (OS.rd hO) sl23, RdS.cellN (OS.rd hO), RdS.cells (OS.rd hO), wrap_id]
      refine op_bs0 sz56 O1 ?_
      intro v5_0 h5_0 ho5_0 e5_0
      replace hO := OS.ext hO e5_0
      have := Ext.size e5_0
      replace eB := Ext.trans eB e5_0
      replace cL2 := Chg.stepE cL2 e5_0
      have hfho5_0 : Fresh h4.size [h4.size] := Fresh.one _
      have hlho5_0 := OS.lt ho5_0
      try simp -implicitDefEqProofs (disch := first | decide | assumption | omega) only [go_sem, RdS.len rf sl23, RdS.idx rf sl23, RdS.cellB rf (Ext.pres eB), RdS.cells rf, RdS.len hr5 sl56, RdS.idx hr5 sl56, RdS.cellB hr5 (Ext.pres eB), RdS.cells hr5, RdS.len (OS.rd hO) sl23, RdS.idx (OS.rd hO) sl23, RdS.cellN (OS.rd hO), RdS.cells (OS.rd hO), RdS.len (OS.rd ho5_0) sl56, RdS.idx (OS.rd ho5_0) sl56, RdS.cellN (OS.rd ho5_0), RdS.cells (OS.rd ho5_0), wrap_id]
      refine hK _ _ ?_
      clear hK K
      refine den_seq ?_
      refine den_seq ?_
      refine den_region TTok ?_
      intro K hK
      simp -implicitDefEqProofs (disch := first | decide | assumption | omega) only [go_sem, RdS.len rf sl23, RdS.idx rf sl23, RdS.cellB rf (Ext.pres eB), RdS.cells rf, RdS.len hr5 sl56, RdS.idx hr5 sl56, RdS.cellB hr5 (Ext.pres eB), RdS.cells hr5, RdS.len (OS.rd hO) sl23, RdS.idx (OS.rd hO) sl23, RdS.cellN (OS.rd hO), RdS.cells (OS.rd hO), RdS.len (OS.rd ho5_0) sl56, RdS.idx (OS.rd ho5_0) sl56, RdS.cellN (OS.rd ho5_0), RdS.cells (OS.rd ho5_0), wrap_id]
      refine hK _ _ ?_
      clear hK K
      refine den_block ?_
      refine den_sel [8, 22, 1, 5, 6, 12, 13, 14, 20, 21] ?_
      intro env_6
      simp only [go_sem]
      refine den_loopS (σ := Nat × Value × List Nat) (fun st_ => [(8, st_.2.1), (22, .int .i64 (st_.1 : Int))]) (fun st_ H => (st_.1 ≤ (f.getD n default).length) ∧ (O2 H st_.2.1 ((List.range st_.1).map fun q : Nat => F n ((f.getD n default).getD q default)) st_.2.2) ∧ (Fresh (h4.size) st_.2.2) ∧ (Sub [h4.size] h5_0.size st_.2.2) ∧ (Chg [h4.size] h5_0 H)) (fun st_ => (f.getD n default).length - st_.1) (0, v5_0, [h4.size]) ?_ ?_
      · exact ⟨by first | (simp; done) | (dsimp only; omega) | (simp; omega), by simpa using ho5_0, hfho5_0, Sub.refl, Chg.refl _ _⟩
      · rintro ⟨i, vhR, fphR⟩ h9 ee8 ⟨hi0, hR, hfhR, sbhR, cL7⟩
        dsimp only at hi0 hR hfhR sbhR cL7
        replace hO := OS.chg hO cL7 (apart_lt hlhO hfho5_0 (by omega))
        have := cL7.size
        replace eB := Ext.then eB cL7 (ge_of hfho5_0 (by omega))
        replace cL2 := Chg.step cL2 cL7 (Sub.fresh hfho5_0 (by omega))
        have hlhR := OS.lt hR
        simp only [List.cons_append, List.nil_append]
        have hlr : ((List.range i).map fun q : Nat => F n ((f.getD n default).getD q default)).length = i := by simp
        refine den_seq ?_
        refine den_region TTok ?_
        intro K hK
        simp -implicitDefEqProofs (disch := first | decide | assumption | omega) only [go_sem, RdS.len rf sl23, RdS.idx rf sl23, RdS.cellB rf (Ext.pres eB), RdS.cells rf, RdS.len hr5 sl56, RdS.idx hr5 sl56, RdS.cellB hr5 (Ext.pres eB), RdS.cells hr5, RdS.len (OS.rd hO) sl23, RdS.idx (OS.rd hO) sl23, RdS.cellN (OS.rd hO), RdS.cells (OS.rd hO), RdS.len (OS.rd hR) sl56, RdS.idx (OS.rd hR) sl56, RdS.cellN (OS.rd hR), RdS.cells (OS.rd hR), wrap_id]
        refine hK _ _ ?_
        clear hK K
        refine den_seq ?_
        refine den_cond rfl (fun c1 => ?_) (fun c1 => ?_)
        · try simp only [decide_eq_true_eq, decide_eq_false_iff_not, beq_iff_eq, beq_eq_false_iff_ne, bne_iff_ne, ne_eq, Bool.not_eq_true', Bool.not_eq_false', Bool.and_eq_true, Bool.or_eq_true, bne_eq_false_iff_eq] at c1
          refine den_skip ?_
          refine den_seq ?_
          refine den_block ?_
          refine den_seq ?_
          refine den_region TTok ?_
          intro K hK
          have hr10 := RdS.rowN hr5 i (by omega)
          have hlhr10 := RdS.le hr10
          simp -implicitDefEqProofs (disch := first | decide | assumption | omega) only [go_sem, ld22, RdS.len rf sl23, RdS.idx rf sl23, RdS.cellB rf (Ext.pres eB), RdS.cells rf, RdS.len hr5 sl56, RdS.idx hr5 sl56, RdS.cellB hr5 (Ext.pres eB), RdS.cells hr5, RdS.len hr10 sl22, RdS.idx hr10 sl22, R1.intB hr10 (Ext.pres eB), RdS.cells hr10, RdS.len (OS.rd hO) sl23, RdS.idx (OS.rd hO) sl23, RdS.cellN (OS.rd hO), RdS.cells (OS.rd hO), RdS.len (OS.rd hR) sl56, RdS.idx (OS.rd hR) sl56, RdS.cellN (OS.rd hR), RdS.cells (OS.rd hR), wrap_id]
          refine hK _ _ ?_
          clear hK K
          refine den_region TTok ?_
          intro K hK
          simp -implicitDefEqProofs (disch := first | decide | assumption | omega) only [go_sem, RdS.len rf sl23, RdS.idx rf sl23, RdS.cellB rf (Ext.pres eB), RdS.cells rf, RdS.len hr5 sl56, RdS.idx hr5 sl56, RdS.cellB hr5 (Ext.pres eB), RdS.cells hr5, RdS.len hr10 sl22, RdS.idx hr10 sl22, R1.intB hr10 (Ext.pres eB), RdS.cells hr10, RdS.len (OS.rd hO) sl23, RdS.idx (OS.rd hO) sl23, RdS.cellN (OS.rd hO), RdS.cells (OS.rd hO), RdS.len (OS.rd hR) sl56, RdS.idx (OS.rd hR) sl56, RdS.cellN (OS.rd hR), RdS.cells (OS.rd hR), wrap_id]
          try simp -implicitDefEqProofs (disch := first | decide | assumption | omega) only [go_sem, RdS.len rf sl23, RdS.idx rf sl23, RdS.cellB rf (Ext.pres eB), RdS.cells rf, RdS.len hr5 sl56, RdS.idx hr5 sl56, RdS.cellB hr5 (Ext.pres eB), RdS.cells hr5, RdS.len hr10 sl22, RdS.idx hr10 sl22, R1.intB hr10 (Ext.pres eB), RdS.cells hr10, RdS.len (OS.rd hO) sl23, RdS.idx (OS.rd hO) sl23, RdS.cellN (OS.rd hO), RdS.cells (OS.rd hO), RdS.len (OS.rd hR) sl56, RdS.idx (OS.rd hR) sl56, RdS.cellN (OS.rd hR), RdS.cells (OS.rd hR), wrap_id]
          refine CallA.mono (hf n i (by omega) (by omega) _ eB) ?_
          intro vw9_4 h9_4
          rintro ⟨fw9_4, how9_4, hfw9_4, e9_4⟩
          replace hO := OS.ext hO e9_4
          replace hR := OS.ext hR e9_4
          have := Ext.size e9_4
          replace eB := Ext.trans eB e9_4
          replace cL2 := Chg.stepE cL2 e9_4
          replace cL7 := Chg.stepE cL7 e9_4
          have hlhow9_4 := OS.lt how9_4
          try simp -implicitDefEqProofs (disch := first | decide | assumption | omega) only [go_sem, RdS.len rf sl23, RdS.idx rf sl23, RdS.cellB rf (Ext.pres eB), RdS.cells rf, RdS.len hr5 sl56, RdS.idx hr5 sl56, RdS.cellB hr5 (Ext.pres eB), RdS.cells hr5, RdS.len hr10 sl22, RdS.idx hr10 sl22, R1.intB hr10 (Ext.pres eB), RdS.cells hr10, RdS.len (OS.rd hO) sl23, RdS.idx (OS.rd hO) sl23, RdS.cellN (OS.rd hO), RdS.cells (OS.rd hO), RdS.len (OS.rd hR) sl56, RdS.idx (OS.rd hR) sl56, RdS.cellN (OS.rd hR), RdS.cells (OS.rd hR), RdS.len (OS.rd how9_4) sl22, RdS.idx (OS.rd how9_4) sl22, R1.intN (OS.rd how9_4), RdS.cells (OS.rd how9_4), wrap_id]
          refine op_bs1 sz56 rfl (OS.one how9_4).2 ?_
          try simp -implicitDefEqProofs (disch := first | decide | assumption | omega) only [go_sem, RdS.len rf sl23, RdS.idx rf sl23, RdS.cellB rf (Ext.pres eB), RdS.cells rf, RdS.len hr5 sl56, RdS.idx hr5 sl56, RdS.cellB hr5 (Ext.pres eB), RdS.cells hr5, RdS.len hr10 sl22, RdS.idx hr10 sl22, R1.intB hr10 (Ext.pres eB), RdS.cells hr10, RdS.len (OS.rd hO) sl23, RdS.idx (OS.rd hO) sl23, RdS.cellN (OS.rd hO), RdS.cells (OS.rd hO), RdS.len (OS.rd hR) sl56, RdS.idx (OS.rd hR) sl56, RdS.cellN (OS.rd hR), RdS.cells (OS.rd hR), RdS.len (OS.rd how9_4) sl22, RdS.idx (OS.rd how9_4) sl22, R1.intN (OS.rd how9_4), RdS.cells (OS.rd how9_4), wrap_id]
          refine op_append1 sz56 hR hfhR.nodup how9_4 hfw9_4.nodup (apart_lt hlhR hfw9_4 (by omega)) (by first | omega | (simp; omega)) rfl rfl ?_
          intro v9_6 h9_6 fp9_6 ho9_6 hn9_6 hs9_6 c9_6
          have hsz9_6 := c9_6.size
          have hfho9_6 : Fresh h4.size fp9_6 := Fresh.appd hfhR hfw9_4 (by omega) (by omega) hn9_6 hs9_6
          have sb11 : Sub [h4.size] h5_0.size fp9_6 := Sub.grow sbhR (Sub.fresh hfw9_4 (by omega)) (by omega) hs9_6
          replace hO := OS.chg hO c9_6 (apart_lt hlhO hfhR (by omega))
          have := c9_6.size
          replace eB := Ext.then eB c9_6 (ge_of hfhR (by omega))
          replace cL2 := Chg.step cL2 c9_6 (Sub.fresh hfhR (by omega))
          replace cL7 := Chg.step cL7 c9_6 sbhR
          have hlho9_6 := OS.lt ho9_6
          try simp -implicitDefEqProofs (disch := first | decide | assumption | omega) only [go_sem, RdS.len rf sl23, RdS.idx rf sl23, RdS.cellB rf (Ext.pres eB), RdS.cells rf, RdS.len hr5 sl56, RdS.idx hr5 sl56, RdS.cellB hr5 (Ext.pres eB), RdS.cells hr5, RdS.len hr10 sl22, RdS.idx hr10 sl22, R1.intB hr10 (Ext.pres eB), RdS.cells hr10, RdS.len (OS.rd hO) sl23, RdS.idx (OS.rd hO) sl23, RdS.cellN (OS.rd hO), RdS.cells (OS.rd hO), RdS.len (OS.rd ho9_6) sl56, RdS.idx (OS.rd ho9_6) sl56, RdS.cellN (OS.rd ho9_6), RdS.cells (OS.rd ho9_6), wrap_id]
          refine hK _ _ ?_
          clear hK K
          refine den_blk ?_
          refine den_region TTok ?_
          intro K hK
          simp -implicitDefEqProofs (disch := first | decide | assumption | omega) only [go_sem, RdS.len rf sl23, RdS.idx rf sl23, RdS.cellB rf (Ext.pres eB), RdS.cells rf, RdS.len hr5 sl56, RdS.idx hr5 sl56, RdS.cellB hr5 (Ext.pres eB), RdS.cells hr5, RdS.len hr10 sl22, RdS.idx hr10 sl22, R1.intB hr10 (Ext.pres eB), RdS.cells hr10, RdS.len (OS.rd hO) sl23, RdS.idx (OS.rd hO) sl23, RdS.cellN (OS.rd hO), RdS.cells (OS.rd hO), RdS.len (OS.rd ho9_6) sl56, RdS.idx (OS.rd ho9_6) sl56, RdS.cellN (OS.rd ho9_6), RdS.cells (OS.rd ho9_6), wrap_id]
          refine hK _ _ ?_
          clear hK K
          refine den_stop ?_
          rw [range_step (fun q : Nat => F n ((f.getD n default).getD q default))] at ho9_6
          exact ⟨(i + 1, v9_6, fp9_6), by simp [HasL, puts_at], ⟨by first | omega | (dsimp only; omega), ho9_6, hfho9_6, sb11, cL7⟩, by first | omega | (dsimp only; omega)⟩
        · try simp only [decide_eq_true_eq, decide_eq_false_iff_not, beq_iff_eq, beq_eq_false_iff_ne, bne_iff_ne, ne_eq, Bool.not_eq_true', Bool.not_eq_false', Bool.and_eq_true, Bool.or_eq_true, bne_eq_false_iff_eq] at c1
          refine den_exit ?_
          refine denX_code ?_
          refine denX_stop ?_
          refine denX_hit ?_
          refine den_region TTok ?_
          intro K hK
          simp -implicitDefEqProofs (disch := first | decide | assumption | omega) only [go_sem, RdS.len rf sl23, RdS.idx rf sl23, RdS.cellB rf (Ext.pres eB), RdS.cells rf, RdS.len hr5 sl56, RdS.idx hr5 sl56, RdS.cellB hr5 (Ext.pres eB), RdS.cells hr5, RdS.len (OS.rd hO) sl23, RdS.idx (OS.rd hO) sl23, RdS.cellN (OS.rd hO), RdS.cells (OS.rd hO), RdS.len (OS.rd hR) sl56, RdS.idx (OS.rd hR) sl56, RdS.cellN (OS.rd hR), RdS.cells (OS.rd hR), wrap_id]
          refine op_bs1 sz23 rfl (OS.one hR).2 ?_
          try simp -implicitDefEqProofs (disch := first | decide | assumption | omega) only [go_sem, RdS.len rf sl23, RdS.idx rf sl23, RdS.cellB rf (Ext.pres eB), RdS.cells rf, RdS.len hr5 sl56, RdS.idx hr5 sl56, RdS.cellB hr5 (Ext.pres eB), RdS.cells hr5, RdS.len (OS.rd hO) sl23, RdS.idx (OS.rd hO) sl23, RdS.cellN (OS.rd hO), RdS.cells (OS.rd hO), RdS.len (OS.rd hR) sl56, RdS.idx (OS.rd hR) sl56, RdS.cellN (OS.rd hR), RdS.cells (OS.rd hR), wrap_id]
          refine op_append1 sz23 hO hfhO.nodup hR hfhR.nodup (apart_lt hlhO hfhR (by omega)) (by first | omega | (simp; omega)) rfl rfl ?_
          intro v11_3 h11_3 fp11_3 ho11_3 hn11_3 hs11_3 c11_3
          have hsz11_3 := c11_3.size
          have hfho11_3 : Fresh h.size fp11_3 := Fresh.appd hfhO hfhR (by omega) (by omega) hn11_3 hs11_3
          have sb12 : Sub [h.size] h1_0.size fp11_3 := Sub.grow sbhO (Sub.fresh hfhR (by omega)) (by omega) hs11_3
          have := c11_3.size
          replace eB := Ext.then eB c11_3 (ge_of hfhO (by omega))
          replace cL2 := Chg.step cL2 c11_3 sbhO
          have hlho11_3 := OS.lt ho11_3
          try simp -implicitDefEqProofs (disch := first | decide | assumption | omega) only [go_sem, RdS.len rf sl23, RdS.idx rf sl23, RdS.cellB rf (Ext.pres eB), RdS.cells rf, RdS.len hr5 sl56, RdS.idx hr5 sl56, RdS.cellB hr5 (Ext.pres eB), RdS.cells hr5, RdS.len (OS.rd ho11_3) sl23, RdS.idx (OS.rd ho11_3) sl23, RdS.cellN (OS.rd ho11_3), RdS.cells (OS.rd ho11_3), wrap_id]
          refine hK _ _ ?_
          clear hK K
          refine den_blk ?_
          refine den_region TTok ?_
          intro K hK
          simp -implicitDefEqProofs (disch := first | decide | assumption | omega) only [go_sem, RdS.len rf sl23, RdS.idx rf sl23, RdS.cellB rf (Ext.pres eB), RdS.cells rf, RdS.len hr5 sl56, RdS.idx hr5 sl56, RdS.cellB hr5 (Ext.pres eB), RdS.cells hr5, RdS.len (OS.rd ho11_3) sl23, RdS.idx (OS.rd ho11_3) sl23, RdS.cellN (OS.rd ho11_3), RdS.cells (OS.rd ho11_3), wrap_id]
          refine hK _ _ ?_
          clear hK K
          refine den_stop ?_
          rw [show ((List.range i).map fun q : Nat => F n ((f.getD n default).getD q default)) = mapRows F f n by rw [mapRows, show (f.getD n default).length = i by omega], range_step (fun q : Nat => mapRows F f q)] at ho11_3
          exact ⟨(n + 1, v11_3, fp11_3), by simp [HasL, puts_at], ⟨by first | omega | (dsimp only; omega), ho11_3, hfho11_3, sb12, cL2⟩, by first | omega | (dsimp only; omega)⟩
    · try simp only [decide_eq_true_eq, decide_eq_false_iff_not, beq_iff_eq, beq_eq_false_iff_ne, bne_iff_ne, ne_eq, Bool.not_eq_true', Bool.not_eq_false', Bool.and_eq_true, Bool.or_eq_true, bne_eq_false_iff_eq] at c0
      refine den_exit ?_
      refine denX_code ?_
      refine denX_stop ?_
      refine denX_hit ?_
      refine den_seq ?_
      refine den_region TTok ?_
      intro K hK
      simp -implicitDefEqProofs (disch := first | decide | assumption | omega) only [go_sem, RdS.len rf sl23, RdS.idx rf sl23, RdS.cellB rf (Ext.pres eB), RdS.cells rf, RdS.len (OS.rd hO) sl23, RdS.idx (OS.rd hO) sl23, RdS.cellN (OS.rd hO), RdS.cells (OS.rd hO), wrap_id]
      refine hK _ _ ?_
      clear hK K
      refine den_ret ?_
      simp (disch := decide) only [resP_1, puts_same, puts_ne]
      rw [show n = f.length by omega] at hO
      exact ⟨_, hO, hfhO.mono (by omega), eB⟩

end Go.Proofs.Ytffggocjkhcgeaa
