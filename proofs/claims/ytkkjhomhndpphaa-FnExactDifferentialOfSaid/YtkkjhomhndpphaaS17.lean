/-
  Walks: maps of zeros.
  Conditions: each theorem's own.
-/
import Derived.Test.YtkkjhomhndpphaaS16
set_option linter.unusedVariables false
set_option linter.unusedSimpArgs false
namespace Go.Proofs.Ytkkjhomhndpphaa
open Go
def zrow (r : List Int) : List Int := List.replicate r.length 0
def zrows (R : List (List Int)) : List (List Int) := R.map zrow
theorem map_take {α β : Type} {f : α → β} {xs : List α} {d : α} {k : Nat} (hk : k < xs.length) : (xs.take k).map f ++ [f (xs.getD k d)] = (xs.take (k + 1)).map f := by
  rw [List.take_succ_eq_append_getElem hk, List.map_append, List.getD_eq_getElem?_getD, List.getElem?_eq_getElem hk]; rfl
theorem map_end {α β : Type} {f : α → β} {xs : List α} {k : Nat} (hk : ¬ k < xs.length) : (xs.take k).map f = xs.map f := by rw [List.take_of_length_le (by omega)]
/-- A new block set, made of old ones, given ones and new ones, is apart from what lay elsewhere. -/
theorem apart_app {fo fp fx fp' : List Nat} {m : Nat} (hl : ∀ b ∈ fo, b < m) (h1 : ∀ b ∈ fo, b ∉ fp) (h2 : ∀ b ∈ fo, b ∉ fx) (hs : ∀ b ∈ fp', b ∈ fp ∨ b ∈ fx ∨ m ≤ b) : ∀ b ∈ fo, b ∉ fp' := fun b hb hp => by
  rcases hs b hp with h | h | h
  · exact h1 b hb h
  · exact h2 b hb h
  · have := hl b hb; omega
theorem Fresh.app {lo m : Nat} {fp fx fp' : List Nat} (f : Fresh lo fp) (fx_ : Fresh lo fx) (hm : lo ≤ m) (hn : fp'.Nodup) (hs : ∀ b ∈ fp', b ∈ fp ∨ b ∈ fx ∨ m ≤ b) : Fresh lo fp' :=
  ⟨hn, fun b hb => by
    rcases hs b hb with h | h | h
    · exact f.ge b h
    · exact fx_.ge b h
    · omega⟩
theorem apart_new {fo : List Nat} {m : Nat} (hl : ∀ b ∈ fo, b < m) : ∀ b ∈ fo, b ∉ [m] := fun b hb hm => by
  have := hl b hb
  simp at hm; omega
theorem IsC.rows {X : Cx} (h : IsC X) {k : Nat} (hk : k < X.maps.length) : (X.maps.getD k default).length ≤ 8 ∧ ∀ i, i < (X.maps.getD k default).length → ((X.maps.getD k default).getD i default).length ≤ 8 := by
  have t := tableP_iff.1 (h.tb k hk)
  have hm := h.ml
  have d1 := dm_at h.dm (k := ((k : Int) + 1).toNat) (by omega)
  have d2 := dm_at h.dm (k := k) (by omega)
  exact ⟨by omega, fun i hi => by have := (t.2.at hi).1; omega⟩
theorem IsC.top {X : Cx} (h : IsC X) : X.maps.length ≤ 5 := by have := h.ml; have := h.len; omega
noncomputable def zmP (X : Cx) : List (List (List Int)) × Int := if isC X = true then (X.maps.map zrows, 0) else ([], 1)

set_option maxRecDepth 100000 in
theorem sZero_ok (v : Value) (X : Cx) (h : Heap) (hv : RC h v X) : CallA Try.prog 23 #[v] h fun v' h' => ∃ w fp, v' = .tuple #[w, .int .i64 (zmP X).2] ∧ O3 h' w (zmP X).1 fp ∧ Fresh h.size fp ∧ Ext h h' := by
  obtain ⟨vd, vm, rfl, hd, hm⟩ := hv
  have hle := RdS.le hd
  have hlm := RdS.le hm
  refine callA_intro TTok (args := [_]) Try.func23 (by kernel_rfl) rfl 48 rfl (by simp) [.tmp 2, .tmp 3] rfl ?_
  simp only [idxs, Nat.reduceAdd]
  refine den_seq ?_
  refine den_region TTok ?_
  intro K hK
  simp -implicitDefEqProofs (disch := first | decide | assumption | omega) only [go_sem, RdS.len hd sl37, RdS.idx hd sl37, R1.intB hd (HPres.refl _), RdS.cells hd, RdS.len hm sl38, RdS.idx hm sl38, RdS.cellB hm (HPres.refl _), RdS.cells hm, wrap_id]
  refine op_box (cs := #[.int .i64 (X.p), vd, vm]) rfl ?_
  intro h0_0 e0_0 hb0_0 z0_0
  replace hd := RdS.pres hd (Ext.pres e0_0)
  replace hm := RdS.pres hm (Ext.pres e0_0)
  try simp -implicitDefEqProofs (disch := first | decide | assumption | omega) only [go_sem, RdS.len hd sl37, RdS.idx hd sl37, R1.intB hd (HPres.refl _), RdS.cells hd, RdS.len hm sl38, RdS.idx hm sl38, RdS.cellB hm (HPres.refl _), RdS.cells hm, BoxAt.cell hb0_0, wrap_id]
  refine hK _ _ ?_
  clear hK K
  refine den_seq ?_
  refine den_seq ?_
  refine den_region TTok ?_
  intro K hK
  simp -implicitDefEqProofs (disch := first | decide | assumption | omega) only [go_sem, ld44, RdS.len hd sl37, RdS.idx hd sl37, R1.intB hd (HPres.refl _), RdS.cells hd, RdS.len hm sl38, RdS.idx hm sl38, RdS.cellB hm (HPres.refl _), RdS.cells hm, BoxAt.cell hb0_0, wrap_id]
  try simp -implicitDefEqProofs (disch := first | decide | assumption | omega) only [go_sem, RdS.len hd sl37, RdS.idx hd sl37, R1.intB hd (HPres.refl _), RdS.cells hd, RdS.len hm sl38, RdS.idx hm sl38, RdS.cellB hm (HPres.refl _), RdS.cells hm, BoxAt.cell hb0_0, wrap_id]
  refine CallA.mono (sIs_ok _ X _ ⟨_, _, rfl, hd, hm⟩) ?_
  intro v_ h1_1
  rintro ⟨rfl, e1_1⟩
  have := Ext.size e1_1
  have eB := e1_1
  try simp -implicitDefEqProofs (disch := first | decide | assumption | omega) only [go_sem, RdS.len hd sl37, RdS.idx hd sl37, R1.intB hd (Ext.pres eB), RdS.cells hd, RdS.len hm sl38, RdS.idx hm sl38, RdS.cellB hm (Ext.pres eB), RdS.cells hm, BoxAt.cellB hb0_0 eB, wrap_id]
  refine hK _ _ ?_
  clear hK K
  refine den_cond rfl (fun c0 => ?_) (fun c0 => ?_)
  · try simp only [decide_eq_true_eq, decide_eq_false_iff_not, beq_iff_eq, beq_eq_false_iff_ne, bne_iff_ne, ne_eq, Bool.not_eq_true', Bool.not_eq_false', Bool.and_eq_true, Bool.or_eq_true, bne_eq_false_iff_eq, Bool.not_eq_true] at c0
    refine den_seq ?_
    refine den_region TTok ?_
    intro K hK
    simp -implicitDefEqProofs (disch := first | decide | assumption | omega) only [go_sem, RdS.len hd sl37, RdS.idx hd sl37, R1.intB hd (Ext.pres eB), RdS.cells hd, RdS.len hm sl38, RdS.idx hm sl38, RdS.cellB hm (Ext.pres eB), RdS.cells hm, BoxAt.cellB hb0_0 eB, wrap_id]
    refine hK _ _ ?_
    clear hK K
    refine den_ret ?_
    simp (disch := decide) only [resP_2, puts_same, puts_ne]
    have hz : zmP X = ([], 1) := by rw [zmP, if_neg (by rw [c0]; decide)]
    rw [hz]
    exact ⟨.slice none 0 0, [], rfl, OS.nil, Fresh.nil _, (Ext.trans e0_0 eB)⟩
  · try simp only [decide_eq_true_eq, decide_eq_false_iff_not, beq_iff_eq, beq_eq_false_iff_ne, bne_iff_ne, ne_eq, Bool.not_eq_true', Bool.not_eq_false', Bool.and_eq_true, Bool.or_eq_true, bne_eq_false_iff_eq, Bool.not_eq_true] at c0
    refine den_skip ?_
    refine den_seq ?_
    have hC := isC_t.1 c0
    refine den_region TTok ?_
    intro K hK
    simp -implicitDefEqProofs (disch := first | decide | assumption | omega) only [go_sem, RdS.len hd sl37, RdS.idx hd sl37, R1.intB hd (Ext.pres eB), RdS.cells hd, RdS.len hm sl38, RdS.idx hm sl38, RdS.cellB hm (Ext.pres eB), RdS.cells hm, BoxAt.cellB hb0_0 eB, wrap_id]
    refine op_bs0 sz38 O2 ?_
    intro v3_0 h3_0 ho3_0 e3_0
    have := Ext.size e3_0
    replace eB := Ext.trans eB e3_0
    try simp -implicitDefEqProofs (disch := first | decide | assumption | omega) only [go_sem, RdS.len hd sl37, RdS.idx hd sl37, R1.intB hd (Ext.pres eB), RdS.cells hd, RdS.len hm sl38, RdS.idx hm sl38, RdS.cellB hm (Ext.pres eB), RdS.cells hm, RdS.len (OS.rd ho3_0) sl38, RdS.idx (OS.rd ho3_0) sl38, RdS.cellN (OS.rd ho3_0), RdS.cells (OS.rd ho3_0), BoxAt.cellB hb0_0 eB, wrap_id]
    refine hK _ _ ?_
    clear hK K
    refine den_seq ?_
    refine den_seq ?_
    refine den_region TTok ?_
    intro K hK
    simp -implicitDefEqProofs (disch := first | decide | assumption | omega) only [go_sem, RdS.len hd sl37, RdS.idx hd sl37, R1.intB hd (Ext.pres eB), RdS.cells hd, RdS.len hm sl38, RdS.idx hm sl38, RdS.cellB hm (Ext.pres eB), RdS.cells hm, RdS.len (OS.rd ho3_0) sl38, RdS.idx (OS.rd ho3_0) sl38, RdS.cellN (OS.rd ho3_0), RdS.cells (OS.rd ho3_0), BoxAt.cellB hb0_0 eB, wrap_id]
    refine hK _ _ ?_
    clear hK K
    refine den_block ?_
    refine den_sel [4, 5, 1] ?_
    intro env_1
    simp only [go_sem]
    refine den_loopS (σ := Nat × Value × List Nat) (fun s => [(4, s.2.1), (5, .int .i64 (s.1 : Int))]) (fun s H => Ext h0_0 H ∧ s.1 ≤ X.maps.length ∧ O3 H s.2.1 ((X.maps.take s.1).map zrows) s.2.2 ∧ Fresh h0_0.size s.2.2) (fun s => X.maps.length - s.1) (0, v3_0, [h1_1.size]) ?_ ?_
    · exact ⟨eB, by simp, by simpa using ho3_0, (Fresh.one _).mono (by omega)⟩
    · rintro ⟨k, vO, fpO⟩ h4 ee3 ⟨eB, hk, hO, hfO⟩
      simp only [List.cons_append, List.nil_append]
      have := Ext.size eB
      dsimp only at hk hO hfO
      refine den_seq ?_
      refine den_seq ?_
      refine den_region TTok ?_
      intro K hK
      simp -implicitDefEqProofs (disch := first | decide | assumption | omega) only [go_sem, fa44_2, ld38, RdS.len hd sl37, RdS.idx hd sl37, R1.intB hd (Ext.pres eB), RdS.cells hd, RdS.len hm sl38, RdS.idx hm sl38, RdS.cellB hm (Ext.pres eB), RdS.cells hm, RdS.len (OS.rd hO) sl38, RdS.idx (OS.rd hO) sl38, RdS.cellN (OS.rd hO), RdS.cells (OS.rd hO), BoxAt.cellB hb0_0 eB, wrap_id]
      refine hK _ _ ?_
      clear hK K
      refine den_cond rfl (fun c1 => ?_) (fun c1 => ?_)
      · try simp only [decide_eq_true_eq, decide_eq_false_iff_not, beq_iff_eq, beq_eq_false_iff_ne, bne_iff_ne, ne_eq, Bool.not_eq_true', Bool.not_eq_false', Bool.and_eq_true, Bool.or_eq_true, bne_eq_false_iff_eq, Bool.not_eq_true] at c1
        refine den_skip ?_
        refine den_seq ?_
        refine den_block ?_
        refine den_seq ?_
        have hl7 := OS.lt hO
        refine den_region TTok ?_
        intro K hK
        simp -implicitDefEqProofs (disch := first | decide | assumption | omega) only [go_sem, RdS.len hd sl37, RdS.idx hd sl37, R1.intB hd (Ext.pres eB), RdS.cells hd, RdS.len hm sl38, RdS.idx hm sl38, RdS.cellB hm (Ext.pres eB), RdS.cells hm, RdS.len (OS.rd hO) sl38, RdS.idx (OS.rd hO) sl38, RdS.cellN (OS.rd hO), RdS.cells (OS.rd hO), BoxAt.cellB hb0_0 eB, wrap_id]
        refine op_bs0 sz65 O1 ?_
        intro v7_0 h7_0 ho7_0 e7_0
        replace hO := OS.ext hO e7_0
        have := Ext.size e7_0
        replace eB := Ext.trans eB e7_0
        try simp -implicitDefEqProofs (disch := first | decide | assumption | omega) only [go_sem, RdS.len hd sl37, RdS.idx hd sl37, R1.intB hd (Ext.pres eB), RdS.cells hd, RdS.len hm sl38, RdS.idx hm sl38, RdS.cellB hm (Ext.pres eB), RdS.cells hm, RdS.len (OS.rd hO) sl38, RdS.idx (OS.rd hO) sl38, RdS.cellN (OS.rd hO), RdS.cells (OS.rd hO), RdS.len (OS.rd ho7_0) sl65, RdS.idx (OS.rd ho7_0) sl65, RdS.cellN (OS.rd ho7_0), RdS.cells (OS.rd ho7_0), BoxAt.cellB hb0_0 eB, wrap_id]
        refine hK _ _ ?_
        clear hK K
        refine den_seq ?_
        refine den_seq ?_
        refine den_region TTok ?_
        intro K hK
        simp -implicitDefEqProofs (disch := first | decide | assumption | omega) only [go_sem, RdS.len hd sl37, RdS.idx hd sl37, R1.intB hd (Ext.pres eB), RdS.cells hd, RdS.len hm sl38, RdS.idx hm sl38, RdS.cellB hm (Ext.pres eB), RdS.cells hm, RdS.len (OS.rd hO) sl38, RdS.idx (OS.rd hO) sl38, RdS.cellN (OS.rd hO), RdS.cells (OS.rd hO), RdS.len (OS.rd ho7_0) sl65, RdS.idx (OS.rd ho7_0) sl65, RdS.cellN (OS.rd ho7_0), RdS.cells (OS.rd ho7_0), BoxAt.cellB hb0_0 eB, wrap_id]
        refine hK _ _ ?_
        clear hK K
        refine den_block ?_
        refine den_sel [6, 7, 1, 4, 5] ?_
        intro env_5
        simp only [go_sem]
        refine den_loopS (σ := Nat × Value × List Nat) (fun s => [(6, s.2.1), (7, .int .i64 (s.1 : Int))]) (fun s H => Ext h0_0 H ∧ s.1 ≤ (X.maps.getD k default).length ∧ O2 H s.2.1 (((X.maps.getD k default).take s.1).map zrow) s.2.2 ∧ Fresh h0_0.size s.2.2 ∧ (∀ b ∈ fpO, b ∉ s.2.2) ∧ O3 H vO ((X.maps.take k).map zrows) fpO) (fun s => (X.maps.getD k default).length - s.1) (0, v7_0, [h4.size]) ?_ ?_
        · exact ⟨eB, by simp, by simpa using ho7_0, (Fresh.one _).mono (by omega), apart_new hl7, hO⟩
        · rintro ⟨m, vI, fpI⟩ h8 ee7 ⟨eB, hm2, hI, hfI, haI, hO⟩
          simp only [List.cons_append, List.nil_append]
          have := Ext.size eB
          dsimp only at hm2 hI hfI haI
          refine den_seq ?_
          refine den_seq ?_
          refine den_region TTok ?_
          intro K hK
          have hr9 := RdS.rowN hm k (by omega)
          have hlhr9 := RdS.le hr9
          simp -implicitDefEqProofs (disch := first | decide | assumption | omega) only [go_sem, fa44_2, ld38, ld65, RdS.len hd sl37, RdS.idx hd sl37, R1.intB hd (Ext.pres eB), RdS.cells hd, RdS.len hm sl38, RdS.idx hm sl38, RdS.cellB hm (Ext.pres eB), RdS.cells hm, RdS.len hr9 sl65, RdS.idx hr9 sl65, RdS.cellB hr9 (Ext.pres eB), RdS.cells hr9, RdS.len (OS.rd hI) sl65, RdS.idx (OS.rd hI) sl65, RdS.cellN (OS.rd hI), RdS.cells (OS.rd hI), RdS.len (OS.rd hO) sl38, RdS.idx (OS.rd hO) sl38, RdS.cellN (OS.rd hO), RdS.cells (OS.rd hO), BoxAt.cellB hb0_0 eB, wrap_id]
          refine hK _ _ ?_
          clear hK K
          refine den_cond rfl (fun c2 => ?_) (fun c2 => ?_)
          · try simp only [decide_eq_true_eq, decide_eq_false_iff_not, beq_iff_eq, beq_eq_false_iff_ne, bne_iff_ne, ne_eq, Bool.not_eq_true', Bool.not_eq_false', Bool.and_eq_true, Bool.or_eq_true, bne_eq_false_iff_eq, Bool.not_eq_true] at c2
            refine den_skip ?_
            refine den_seq ?_
            refine den_block ?_
            have hlO0 := OS.lt hO
            have hrs := hC.rows (k := k) (by omega)
            have hr1 := hrs.2 m (by omega)
            have hlI0 := OS.lt hI
            refine den_region TTok ?_
            intro K hK
            have hr10 := RdS.rowN hm k (by omega)
            have hlhr10 := RdS.le hr10
            have hr11 := RdS.rowN hr10 m (by omega)
            have hlhr11 := RdS.le hr11
            simp -implicitDefEqProofs (disch := first | decide | assumption | omega) only [go_sem, fa44_2, ld38, ld65, ld37, RdS.len hd sl37, RdS.idx hd sl37, R1.intB hd (Ext.pres eB), RdS.cells hd, RdS.len hm sl38, RdS.idx hm sl38, RdS.cellB hm (Ext.pres eB), RdS.cells hm, RdS.len hr9 sl65, RdS.idx hr9 sl65, RdS.cellB hr9 (Ext.pres eB), RdS.cells hr9, RdS.len hr10 sl65, RdS.idx hr10 sl65, RdS.cellB hr10 (Ext.pres eB), RdS.cells hr10, RdS.len hr11 sl37, RdS.idx hr11 sl37, R1.intB hr11 (Ext.pres eB), RdS.cells hr11, RdS.len (OS.rd hI) sl65, RdS.idx (OS.rd hI) sl65, RdS.cellN (OS.rd hI), RdS.cells (OS.rd hI), RdS.len (OS.rd hO) sl38, RdS.idx (OS.rd hO) sl38, RdS.cellN (OS.rd hO), RdS.cells (OS.rd hO), BoxAt.cellB hb0_0 eB, wrap_id]
            refine op_make sz37 rfl rfl (by omega) (by omega) OI 0 (fun _ => ⟨rfl, rfl⟩) ?_
            intro v11_10 h11_10 ho11_10 e11_10
            replace hI := OS.ext hI e11_10
            replace hO := OS.ext hO e11_10
            have := Ext.size e11_10
            replace eB := Ext.trans eB e11_10
            try simp -implicitDefEqProofs (disch := first | decide | assumption | omega) only [go_sem, RdS.len hd sl37, RdS.idx hd sl37, R1.intB hd (Ext.pres eB), RdS.cells hd, RdS.len hm sl38, RdS.idx hm sl38, RdS.cellB hm (Ext.pres eB), RdS.cells hm, RdS.len hr9 sl65, RdS.idx hr9 sl65, RdS.cellB hr9 (Ext.pres eB), RdS.cells hr9, RdS.len hr10 sl65, RdS.idx hr10 sl65, RdS.cellB hr10 (Ext.pres eB), RdS.cells hr10, RdS.len hr11 sl37, RdS.idx hr11 sl37, R1.intB hr11 (Ext.pres eB), RdS.cells hr11, RdS.len (OS.rd hI) sl65, RdS.idx (OS.rd hI) sl65, RdS.cellN (OS.rd hI), RdS.cells (OS.rd hI), RdS.len (OS.rd hO) sl38, RdS.idx (OS.rd hO) sl38, RdS.cellN (OS.rd hO), RdS.cells (OS.rd hO), RdS.len (OS.rd ho11_10) sl37, RdS.idx (OS.rd ho11_10) sl37, R1.intN (OS.rd ho11_10), RdS.cells (OS.rd ho11_10), BoxAt.cellB hb0_0 eB, wrap_id]
            refine op_bs1 sz65 rfl (OS.one ho11_10).2 ?_
            try simp -implicitDefEqProofs (disch := first | decide | assumption | omega) only [go_sem, RdS.len hd sl37, RdS.idx hd sl37, R1.intB hd (Ext.pres eB), RdS.cells hd, RdS.len hm sl38, RdS.idx hm sl38, RdS.cellB hm (Ext.pres eB), RdS.cells hm, RdS.len hr9 sl65, RdS.idx hr9 sl65, RdS.cellB hr9 (Ext.pres eB), RdS.cells hr9, RdS.len hr10 sl65, RdS.idx hr10 sl65, RdS.cellB hr10 (Ext.pres eB), RdS.cells hr10, RdS.len hr11 sl37, RdS.idx hr11 sl37, R1.intB hr11 (Ext.pres eB), RdS.cells hr11, RdS.len (OS.rd hI) sl65, RdS.idx (OS.rd hI) sl65, RdS.cellN (OS.rd hI), RdS.cells (OS.rd hI), RdS.len (OS.rd hO) sl38, RdS.idx (OS.rd hO) sl38, RdS.cellN (OS.rd hO), RdS.cells (OS.rd hO), RdS.len (OS.rd ho11_10) sl37, RdS.idx (OS.rd ho11_10) sl37, R1.intN (OS.rd ho11_10), RdS.cells (OS.rd ho11_10), BoxAt.cellB hb0_0 eB, wrap_id]
            have hlI := OS.lt hI
            have hlO := OS.lt hO
            refine op_append1 sz65 hI hfI.nodup ho11_10 (by simp) (apart_new (by simpa using hlI0)) (by simp; omega) rfl rfl ?_
            intro v11 h11 fp11 ho11 hn11 hs11 c11
            replace eB := Ext.then eB c11 (fun b hb => Nat.le_trans (by omega) (hfI.ge b hb))
            replace hO := OS.chg hO c11 haI
            rw [show List.replicate ((((X.maps.getD k default).getD m default).length : Int)).toNat (0 : Int) = zrow ((X.maps.getD k default).getD m default) from rfl, map_take (by omega)] at ho11
            try simp -implicitDefEqProofs (disch := first | decide | assumption | omega) only [go_sem, RdS.len hd sl37, RdS.idx hd sl37, R1.intB hd (Ext.pres eB), RdS.cells hd, RdS.len hm sl38, RdS.idx hm sl38, RdS.cellB hm (Ext.pres eB), RdS.cells hm, RdS.len hr9 sl65, RdS.idx hr9 sl65, RdS.cellB hr9 (Ext.pres eB), RdS.cells hr9, RdS.len hr10 sl65, RdS.idx hr10 sl65, RdS.cellB hr10 (Ext.pres eB), RdS.cells hr10, RdS.len hr11 sl37, RdS.idx hr11 sl37, R1.intB hr11 (Ext.pres eB), RdS.cells hr11, RdS.len (OS.rd hI) sl65, RdS.idx (OS.rd hI) sl65, RdS.cellN (OS.rd hI), RdS.cells (OS.rd hI), RdS.len (OS.rd hO) sl38, RdS.idx (OS.rd hO) sl38, RdS.cellN (OS.rd hO), RdS.cells (OS.rd hO), RdS.len (OS.rd ho11_10) sl37, RdS.idx (OS.rd ho11_10) sl37, R1.intN (OS.rd ho11_10), RdS.cells (OS.rd ho11_10), BoxAt.cellB hb0_0 eB, wrap_id]
            refine hK _ _ ?_
            clear hK K
            refine den_blk ?_
            refine den_region TTok ?_
            intro K hK
            simp -implicitDefEqProofs (disch := first | decide | assumption | omega) only [go_sem, RdS.len hd sl37, RdS.idx hd sl37, R1.intB hd (Ext.pres eB), RdS.cells hd, RdS.len hm sl38, RdS.idx hm sl38, RdS.cellB hm (Ext.pres eB), RdS.cells hm, RdS.len hr9 sl65, RdS.idx hr9 sl65, RdS.cellB hr9 (Ext.pres eB), RdS.cells hr9, RdS.len hr10 sl65, RdS.idx hr10 sl65, RdS.cellB hr10 (Ext.pres eB), RdS.cells hr10, RdS.len hr11 sl37, RdS.idx hr11 sl37, R1.intB hr11 (Ext.pres eB), RdS.cells hr11, RdS.len (OS.rd hO) sl38, RdS.idx (OS.rd hO) sl38, RdS.cellN (OS.rd hO), RdS.cells (OS.rd hO), BoxAt.cellB hb0_0 eB, wrap_id]
            refine hK _ _ ?_
            clear hK K
            refine den_stop ?_
            exact ⟨(m + 1, v11, fp11), by simp [HasL, puts_at], ⟨eB, by dsimp only; omega, ho11, hfI.app ((Fresh.one _).mono (by omega)) (by omega) hn11 hs11, apart_app hlO haI (apart_new hlO0) hs11, hO⟩, by dsimp only; omega⟩
          · try simp only [decide_eq_true_eq, decide_eq_false_iff_not, beq_iff_eq, beq_eq_false_iff_ne, bne_iff_ne, ne_eq, Bool.not_eq_true', Bool.not_eq_false', Bool.and_eq_true, Bool.or_eq_true, bne_eq_false_iff_eq, Bool.not_eq_true] at c2
            refine den_exit ?_
            refine denX_code ?_
            refine denX_stop ?_
            refine denX_hit ?_
            have hrs := hC.rows (k := k) (by omega)
            have htp := hC.top
            refine den_region TTok ?_
            intro K hK
            simp -implicitDefEqProofs (disch := first | decide | assumption | omega) only [go_sem, RdS.len hd sl37, RdS.idx hd sl37, R1.intB hd (Ext.pres eB), RdS.cells hd, RdS.len hm sl38, RdS.idx hm sl38, RdS.cellB hm (Ext.pres eB), RdS.cells hm, RdS.len hr9 sl65, RdS.idx hr9 sl65, RdS.cellB hr9 (Ext.pres eB), RdS.cells hr9, RdS.len (OS.rd hI) sl65, RdS.idx (OS.rd hI) sl65, RdS.cellN (OS.rd hI), RdS.cells (OS.rd hI), RdS.len (OS.rd hO) sl38, RdS.idx (OS.rd hO) sl38, RdS.cellN (OS.rd hO), RdS.cells (OS.rd hO), BoxAt.cellB hb0_0 eB, wrap_id]
            refine op_bs1 sz38 rfl (OS.one hI).2 ?_
            try simp -implicitDefEqProofs (disch := first | decide | assumption | omega) only [go_sem, RdS.len hd sl37, RdS.idx hd sl37, R1.intB hd (Ext.pres eB), RdS.cells hd, RdS.len hm sl38, RdS.idx hm sl38, RdS.cellB hm (Ext.pres eB), RdS.cells hm, RdS.len hr9 sl65, RdS.idx hr9 sl65, RdS.cellB hr9 (Ext.pres eB), RdS.cells hr9, RdS.len (OS.rd hI) sl65, RdS.idx (OS.rd hI) sl65, RdS.cellN (OS.rd hI), RdS.cells (OS.rd hI), RdS.len (OS.rd hO) sl38, RdS.idx (OS.rd hO) sl38, RdS.cellN (OS.rd hO), RdS.cells (OS.rd hO), BoxAt.cellB hb0_0 eB, wrap_id]
            rw [map_end (by omega)] at hI
            refine op_append1 sz38 hO hfO.nodup hI hfI.nodup haI (by simp; omega) rfl rfl ?_
            intro v12 h12 fp12 ho12 hn12 hs12 c12
            replace eB := Ext.then eB c12 (fun b hb => Nat.le_trans (by omega) (hfO.ge b hb))
            rw [show (X.maps.getD k default).map zrow = zrows (X.maps.getD k default) from rfl, map_take (by omega)] at ho12
            try simp -implicitDefEqProofs (disch := first | decide | assumption | omega) only [go_sem, RdS.len hd sl37, RdS.idx hd sl37, R1.intB hd (Ext.pres eB), RdS.cells hd, RdS.len hm sl38, RdS.idx hm sl38, RdS.cellB hm (Ext.pres eB), RdS.cells hm, RdS.len hr9 sl65, RdS.idx hr9 sl65, RdS.cellB hr9 (Ext.pres eB), RdS.cells hr9, RdS.len (OS.rd hI) sl65, RdS.idx (OS.rd hI) sl65, RdS.cellN (OS.rd hI), RdS.cells (OS.rd hI), RdS.len (OS.rd hO) sl38, RdS.idx (OS.rd hO) sl38, RdS.cellN (OS.rd hO), RdS.cells (OS.rd hO), BoxAt.cellB hb0_0 eB, wrap_id]
            refine hK _ _ ?_
            clear hK K
            refine den_blk ?_
            refine den_region TTok ?_
            intro K hK
            simp -implicitDefEqProofs (disch := first | decide | assumption | omega) only [go_sem, RdS.len hd sl37, RdS.idx hd sl37, R1.intB hd (Ext.pres eB), RdS.cells hd, RdS.len hm sl38, RdS.idx hm sl38, RdS.cellB hm (Ext.pres eB), RdS.cells hm, RdS.len hr9 sl65, RdS.idx hr9 sl65, RdS.cellB hr9 (Ext.pres eB), RdS.cells hr9, BoxAt.cellB hb0_0 eB, wrap_id]
            refine hK _ _ ?_
            clear hK K
            refine den_stop ?_
            exact ⟨(k + 1, v12, fp12), by simp [HasL, puts_at], ⟨eB, by dsimp only; omega, ho12, hfO.app hfI (by omega) hn12 hs12⟩, by dsimp only; omega⟩
      · try simp only [decide_eq_true_eq, decide_eq_false_iff_not, beq_iff_eq, beq_eq_false_iff_ne, bne_iff_ne, ne_eq, Bool.not_eq_true', Bool.not_eq_false', Bool.and_eq_true, Bool.or_eq_true, bne_eq_false_iff_eq, Bool.not_eq_true] at c1
        refine den_exit ?_
        refine denX_code ?_
        refine denX_stop ?_
        refine denX_hit ?_
        refine den_seq ?_
        refine den_region TTok ?_
        intro K hK
        simp -implicitDefEqProofs (disch := first | decide | assumption | omega) only [go_sem, RdS.len hd sl37, RdS.idx hd sl37, R1.intB hd (Ext.pres eB), RdS.cells hd, RdS.len hm sl38, RdS.idx hm sl38, RdS.cellB hm (Ext.pres eB), RdS.cells hm, RdS.len (OS.rd hO) sl38, RdS.idx (OS.rd hO) sl38, RdS.cellN (OS.rd hO), RdS.cells (OS.rd hO), BoxAt.cellB hb0_0 eB, wrap_id]
        refine hK _ _ ?_
        clear hK K
        refine den_ret ?_
        simp (disch := decide) only [resP_2, puts_same, puts_ne]
        rw [map_end (by omega)] at hO
        exact ⟨_, fpO, by rw [zmP, if_pos c0], by rw [zmP, if_pos c0]; exact hO, hfO.mono (by omega), (Ext.trans e0_0 eB)⟩

end Go.Proofs.Ytkkjhomhndpphaa
