/-
  Walks: the reference's shift.
  Conditions: each theorem's own.
-/
import Derived.Test.YtffggocjkhcgeaaC5
set_option linter.unusedVariables false
set_option linter.unusedSimpArgs false
namespace Go.Proofs.Ytffggocjkhcgeaa
open Go
def shS (k : Int) : Int := 1 - k.tmod 2 * 2
theorem shS_in {k : Int} (h : 0 ≤ k) : shS k = 1 ∨ shS k = -1 := by
  have h1 := Int.tmod_nonneg 2 h
  have h2 := Int.tmod_lt_of_pos k (show (0 : Int) < 2 by decide)
  unfold shS
  omega
def shD (X : Cx) (k : Int) : List Int := List.replicate k.toNat 0 ++ X.dims
def shAt (X : Cx) (k : Int) (m : Nat) : List (List Int) := if m + 1 < k.toNat then [] else sclRows X.p (shS k) (mapP X ((m : Int) + 1 - k))
def shM (X : Cx) (k : Int) : M3 := (List.range (X.dims.length + k.toNat - 1)).map fun q : Nat => shAt X k q
noncomputable def shP (X : Cx) (k : Int) : Cx × Int := if isC X = true then (if in3 k 0 5 = true then (if (X.dims.length : Int) + k ≤ 6 then (⟨X.p, shD X k, shM X k⟩, 0) else (⟨0, [], []⟩, 3)) else (⟨0, [], []⟩, 2)) else (⟨0, [], []⟩, 1)
theorem repl_step {α : Type} {x : α} {n : Nat} (h : 0 < n) : List.replicate (n - 1) x ++ [x] = List.replicate (n + 1 - 1) x := by
  rw [← List.replicate_succ', show n - 1 + 1 = n + 1 - 1 by omega]
theorem sh_init (X : Cx) (k : Int) : List.replicate (k.toNat - 1) ([] : List (List Int)) = (List.range (k.toNat + 0 - 1)).map fun q : Nat => shAt X k q := by
  apply List.ext_getElem (by simp)
  intro i h1 h2
  have : i < k.toNat - 1 := by simpa using h1
  simp only [List.getElem_replicate, List.getElem_map, List.getElem_range, shAt]
  rw [if_pos (by omega)]
theorem shD_get {X : Cx} {k : Int} {q : Nat} : (shD X k).getD q 0 = if q < k.toNat then 0 else X.dims.getD (q - k.toNat) 0 := by
  rw [shD, List.getD_eq_getElem?_getD]
  split
  · rename_i h
    rw [List.getElem?_append_left (by simpa using h), List.getElem?_eq_getElem (by simpa using h)]; simp
  · rename_i h
    rw [List.getElem?_append_right (by simp; omega), List.length_replicate, List.getD_eq_getElem?_getD]
theorem sclRows_len (p k : Int) (R : List (List Int)) : (sclRows p k R).length = R.length := by simp [sclRows]
theorem sclRows_get (p k : Int) {R : List (List Int)} {r : Nat} (h : r < R.length) : (sclRows p k R).getD r default = sclRow p k (R.getD r default) := by rw [sclRows, getD_map_range _ h]
theorem sclRow_len (p k : Int) (r : List Int) : (sclRow p k r).length = r.length := by simp [sclRow]
theorem sclRow_get (p k : Int) {r : List Int} {c : Nat} (h : c < r.length) : (sclRow p k r).getD c 0 = (k * r.getD c 0) % p := getD_map_range (α := Int) (fun q : Nat => (k * r.getD q 0) % p) h
abbrev shA (X : Cx) (k : Int) : Nat → Nat := fun q => ((shD X k).getD (q + 1) 0).toNat
abbrev shB (X : Cx) (k : Int) : Nat → Nat := fun q => ((shD X k).getD q 0).toNat
def shU (k : Int) : UF := fun a i j v => [((a + k.toNat, i, j), shS k * v)]
theorem sh_in {X : Cx} (hC : IsC X) {K : Int} (hK : 0 ≤ K) {k i j : Nat} (hk : k < X.maps.length) (hi : i < (X.maps.getD k default).length) (hj : j < ((X.maps.getD k default).getD i default).length) : k + K.toNat < X.dims.length + K.toNat - 1 ∧ i < shA X K (k + K.toNat) ∧ j < shB X K (k + K.toNat) := by
  have hm := hC.ml
  have l := hC.lens hk
  have lj := l.2 i hi
  refine ⟨by omega, ?_, ?_⟩
  · show i < ((shD X K).getD (k + K.toNat + 1) 0).toNat
    rw [shD_get, if_neg (by omega), show k + K.toNat + 1 - K.toNat = k + 1 by omega]; omega
  · show j < ((shD X K).getD (k + K.toNat) 0).toNat
    rw [shD_get, if_neg (by omega), show k + K.toNat - K.toNat = k by omega]; omega
theorem shM_sh {X : Cx} (hC : IsC X) {K : Int} (hK : 0 ≤ K) : Sh (X.dims.length + K.toNat - 1) (shA X K) (shB X K) (shM X K) := by
  have hm := hC.ml
  have hat : ∀ q, q < X.dims.length + K.toNat - 1 → ¬ q + 1 < K.toNat → ((mapP X ((q : Int) + 1 - K)).length : Int) = X.dims.getD (q + 1 - K.toNat) 0 ∧ Tbl X.p (dimP X ((q : Int) + 1 - K - 1)) (mapP X ((q : Int) + 1 - K)) := fun q hq h => by
    have := mapP_ok hC (n := (q : Int) + 1 - K) (by omega) (by omega)
    rw [show ((q : Int) + 1 - K).toNat = q + 1 - K.toNat by omega] at this
    exact this
  refine ⟨by simp [shM], fun q hq => ?_, fun q r hq hr => ?_⟩
  · show _ = ((shD X K).getD (q + 1) 0).toNat
    rw [shM, getD_map_range _ hq, shAt, shD_get]
    split
    · rfl
    · rename_i h
      have := (hat q hq h).1
      rw [sclRows_len]; omega
  · have hr2 : r < ((shD X K).getD (q + 1) 0).toNat := hr
    rw [shD_get] at hr2
    split at hr2
    · simp at hr2
    · rename_i h
      obtain ⟨h1, h2⟩ := hat q hq h
      have hrl : r < (mapP X ((q : Int) + 1 - K)).length := by omega
      show _ = ((shD X K).getD q 0).toNat
      rw [shM, getD_map_range _ hq, shAt, if_neg h, sclRows_get _ _ hrl, sclRow_len, shD_get]
      have hw := (h2.at hrl).1
      split
      · rw [dimP_out (by omega)] at hw; simpa using hw
      · rw [dimP, if_pos (in3_iff.2 ⟨by omega, by omega⟩), show ((q : Int) + 1 - K - 1).toNat = q - K.toNat by omega] at hw
        omega
theorem sh_eq {X : Cx} (hC : IsC X) {K : Int} (hK : 0 ≤ K) : applyU X.p (zblk (shD X K) ((shD X K).length - 1)) (uK (shU K) X.maps X.maps.length) = shM X K := by
  have hm := hC.ml
  have hp := isP_bnd hC.p
  have hl : (shD X K).length - 1 = X.dims.length + K.toNat - 1 := by simp [shD]; omega
  rw [hl]
  have hz : Sh (X.dims.length + K.toNat - 1) (shA X K) (shB X K) (zblk (shD X K) (X.dims.length + K.toNat - 1)) := zblk_sh _ _
  have hi : In3 X.p (X.dims.length + K.toNat - 1) (shA X K) (shB X K) (zblk (shD X K) (X.dims.length + K.toNat - 1)) := fun k r c h1 h2 h3 => by rw [zblk_get _ _ h1 h2 h3]; omega
  have hu : ∀ u ∈ uK (shU K) X.maps X.maps.length, InU (X.dims.length + K.toNat - 1) (shA X K) (shB X K) u := uK_all (fun k i j hk hi hj u hu => by
    rw [shU, List.mem_singleton] at hu
    subst hu
    exact sh_in hC hK hk hi hj)
  refine Sh.ext (applyU_sh hz hu) (shM_sh hC hK) (fun q r c h1 h2 h3 => ?_)
  rw [applyU_get hp.1 h1 h2 h3 hz hi hu, zblk_get _ _ h1 h2 h3, Int.zero_add]
  have h2' : r < ((shD X K).getD (q + 1) 0).toNat := h2
  have h3' : c < ((shD X K).getD q 0).toNat := h3
  rw [shD_get] at h2' h3'
  split at h3'
  · simp at h3'
  · rename_i hqk
    rw [if_neg (by omega), show q + 1 - K.toNat = q - K.toNat + 1 by omega] at h2'
    have hk : q - K.toNat < X.maps.length := by omega
    have l := hC.lens hk
    have hr : r < (X.maps.getD (q - K.toNat) default).length := by omega
    have hc : c < ((X.maps.getD (q - K.toNat) default).getD r default).length := by have := l.2 r hr; omega
    rw [sumT_uK (U := shU K) (τ := fun k i j => (k + K.toNat, i, j)) (ω := fun _ _ _ v => shS K * v) (fun _ _ _ _ => rfl) (k0 := q - K.toNat) (i0 := r) (j0 := c) (by show (_, _, _) = _; congr 1; omega) X.maps.length (fun k hk' i _ j _ e => by
      injection e with e1 e2
      injection e2 with e2 e3
      exact ⟨by omega, e2, e3⟩) hr hc, if_pos hk]
    have em : mapP X ((q : Int) + 1 - K) = X.maps.getD (q - K.toNat) default := by
      rw [mapP, if_pos (in3_iff.2 ⟨by omega, by omega⟩), show ((q : Int) + 1 - K - 1).toNat = q - K.toNat by omega]
    rw [get3, shM, getD_map_range _ h1, shAt, if_neg (show ¬ q + 1 < K.toNat by omega), em, sclRows_get _ _ hr, sclRow_get _ _ hc]
theorem cnt_shift (X : Cx) (k : Int) : 0 ≤ cnt1 (shP X k).1.dims ∧ cnt1 (shP X k).1.dims ≤ 6 ∧ 0 ≤ cntL cnt2 (shP X k).1.maps ∧ cntL cnt2 (shP X k).1.maps ≤ 320 := by
  have hz : ∀ n : Int, 0 ≤ cnt1 ((⟨0, [], []⟩, n) : Cx × Int).1.dims ∧ cnt1 ((⟨0, [], []⟩, n) : Cx × Int).1.dims ≤ 6 ∧ 0 ≤ cntL cnt2 ((⟨0, [], []⟩, n) : Cx × Int).1.maps ∧ cntL cnt2 ((⟨0, [], []⟩, n) : Cx × Int).1.maps ≤ 320 := fun n => ⟨cnt1_nn _, by show cnt1 [] ≤ 6; decide, Int.le_refl _, by show (0 : Int) ≤ _; decide⟩
  unfold shP
  split
  · rename_i hc
    split
    · rename_i hk
      split
      · rename_i hl
        have hC := isC_t.1 hc
        have hk' := in3_iff.1 hk
        have hm := hC.len
        have hb : ∀ q, q < X.dims.length + k.toNat → ((shD X k).getD q 0).toNat ≤ 8 := fun q hq => by
          rw [shD_get]
          split
          · omega
          · have := dm_at hC.dm (k := q - k.toNat) (by omega)
            omega
        have := cnt_sh (m := 5) (a := 8) (b := 8) (shM_sh hC hk'.1) (by omega) (fun q hq => hb _ (by omega)) (fun q hq => hb _ (by omega))
        refine ⟨cnt1_nn _, ?_, this.1, this.2⟩
        show cnt1 (shD X k) ≤ 6
        rw [cnt1, shD, List.length_append, List.length_replicate]; omega
      · exact hz 3
    · exact hz 2
  · exact hz 1

theorem take_stepA {xs : List Int} {n : Nat} (h : n < xs.length) : xs.take n ++ [xs.getD n 0] = xs.take (n + 1) := by
  rw [List.take_succ_eq_append_getElem h, List.getD_eq_getElem?_getD, List.getElem?_eq_getElem h]; rfl
theorem sh_stepA {X : Cx} {k : Int} {n : Nat} {R : List (List Int)} (hk : 0 ≤ k) (h : 0 < k.toNat + n) (e : R = sclRows X.p (shS k) (mapP X (n : Int))) : ((List.range (k.toNat + n - 1)).map fun q : Nat => shAt X k q) ++ [R] = (List.range (k.toNat + (n + 1) - 1)).map fun q : Nat => shAt X k q := by
  rw [show k.toNat + (n + 1) - 1 = k.toNat + n - 1 + 1 by omega, ← range_step, e, shAt, if_neg (by omega), show ((k.toNat + n - 1 : Nat) : Int) + 1 - k = n by omega]

set_option maxRecDepth 100000 in
theorem sShift_ok (vX : Value) (X : Cx) (k : Int) (h : Heap) (rX : RC h vX X) (hC : IsC X) (hk : 0 ≤ k ∧ k ≤ 5) : CallA Try.prog 91 #[vX, .int .i64 k] h fun v' h' => ∃ wd0 wm0 fd0 fm0, v' = .agg #[.int .i64 ((⟨X.p, shD X k, shM X k⟩ : Cx)).p, wd0, wm0] ∧ O1 h' wd0 ((⟨X.p, shD X k, shM X k⟩ : Cx)).dims fd0 ∧ O3 h' wm0 ((⟨X.p, shD X k, shM X k⟩ : Cx)).maps fm0 ∧ Fresh h.size (fd0 ++ fm0) ∧ Ext h h' := by
  obtain ⟨vdX, vmX, rfl, hdX, hmX⟩ := rX
  have hledX := RdS.le hdX
  have hlemX := RdS.le hmX
  have hml := hC.ml
  have hlX := hC.len
  have hpb := isP_bnd hC.p
  have hsg := shS_in hk.1
  have htm := tmod_in (p := 2) (x := k) (by decide)
  unfold shS at hsg
  refine callA_intro TTok (args := [_, _]) Try.func91 (by kernel_rfl) rfl 91 rfl (by simp) [.cell 4 30] rfl ?_
  simp only [idxs, Nat.reduceAdd]
  refine den_seq ?_
  refine den_region TTok ?_
  intro K hK
  simp -implicitDefEqProofs (disch := first | decide | assumption | omega) only [go_sem, RdS.len hdX sl22, RdS.idx hdX sl22, R1.intB hdX (HPres.refl _), RdS.cells hdX, RdS.len hmX sl23, RdS.idx hmX sl23, RdS.cellB hmX (HPres.refl _), RdS.cells hmX, wrap_id]
  refine op_box (cs := #[.int .i64 (X.p), vdX, vmX]) rfl ?_
  intro h0_0 e0_0 hb0_0 z0_0
  have := Ext.size e0_0
  have eB := e0_0
  have hfhb0_0 : Fresh h.size [h.size] := Fresh.one _
  have hlhb0_0 := one_lt (show h.size < h0_0.size by omega)
  try simp -implicitDefEqProofs (disch := first | decide | assumption | omega) only [go_sem, RdS.len hdX sl22, RdS.idx hdX sl22, R1.intB hdX (Ext.pres eB), RdS.cells hdX, RdS.len hmX sl23, RdS.idx hmX sl23, RdS.cellB hmX (Ext.pres eB), RdS.cells hmX, BoxAt.cell hb0_0, wrap_id]
  refine op_alloc (cs := #[.int .i64 0, .slice none 0 0, .slice none 0 0]) (by kernel_rfl) ?_
  intro h0_1 e0_1 hb0_1 z0_1
  replace hb0_0 := BoxAt.ext hb0_0 e0_1
  have := Ext.size e0_1
  replace eB := Ext.trans eB e0_1
  have hfhb0_1 : Fresh h0_0.size [h0_0.size] := Fresh.one _
  have hlhb0_1 := one_lt (show h0_0.size < h0_1.size by omega)
  try simp -implicitDefEqProofs (disch := first | decide | assumption | omega) only [go_sem, RdS.len hdX sl22, RdS.idx hdX sl22, R1.intB hdX (Ext.pres eB), RdS.cells hdX, RdS.len hmX sl23, RdS.idx hmX sl23, RdS.cellB hmX (Ext.pres eB), RdS.cells hmX, BoxAt.cell hb0_0, BoxAt.cell hb0_1, wrap_id]
  refine hK _ _ ?_
  clear hK K
  refine den_seq ?_
  refine den_region TTok ?_
  intro K hK
  simp -implicitDefEqProofs (disch := first | decide | assumption | omega) only [go_sem, fa30_0, ld2, RdS.len hdX sl22, RdS.idx hdX sl22, R1.intB hdX (Ext.pres eB), RdS.cells hdX, RdS.len hmX sl23, RdS.idx hmX sl23, RdS.cellB hmX (Ext.pres eB), RdS.cells hmX, BoxAt.cell hb0_0, BoxAt.cell hb0_1, wrap_id]
  refine op_bs0 sz22 OI ?_
  intro v1_2 h1_2 ho1_2 e1_2
  replace hb0_0 := BoxAt.ext hb0_0 e1_2
  replace hb0_1 := BoxAt.ext hb0_1 e1_2
  have := Ext.size e1_2
  replace eB := Ext.trans eB e1_2
  have hfho1_2 : Fresh h0_1.size [h0_1.size] := Fresh.one _
  have hlho1_2 := OS.lt ho1_2
  try simp -implicitDefEqProofs (disch := first | decide | assumption | omega) only [go_sem, RdS.len hdX sl22, RdS.idx hdX sl22, R1.intB hdX (Ext.pres eB), RdS.cells hdX, RdS.len hmX sl23, RdS.idx hmX sl23, RdS.cellB hmX (Ext.pres eB), RdS.cells hmX, RdS.len (OS.rd ho1_2) sl22, RdS.idx (OS.rd ho1_2) sl22, R1.intN (OS.rd ho1_2), RdS.cells (OS.rd ho1_2), BoxAt.cell hb0_0, BoxAt.cell hb0_1, wrap_id]
  refine op_bs0 sz23 O2 ?_
  intro v1_3 h1_3 ho1_3 e1_3
  replace ho1_2 := OS.ext ho1_2 e1_3
  replace hb0_0 := BoxAt.ext hb0_0 e1_3
  replace hb0_1 := BoxAt.ext hb0_1 e1_3
  have := Ext.size e1_3
  replace eB := Ext.trans eB e1_3
  have hfho1_3 : Fresh h1_2.size [h1_2.size] := Fresh.one _
  have hlho1_3 := OS.lt ho1_3
  try simp -implicitDefEqProofs (disch := first | decide | assumption | omega) only [go_sem, RdS.len hdX sl22, RdS.idx hdX sl22, R1.intB hdX (Ext.pres eB), RdS.cells hdX, RdS.len hmX sl23, RdS.idx hmX sl23, RdS.cellB hmX (Ext.pres eB), RdS.cells hmX, RdS.len (OS.rd ho1_2) sl22, RdS.idx (OS.rd ho1_2) sl22, R1.intN (OS.rd ho1_2), RdS.cells (OS.rd ho1_2), RdS.len (OS.rd ho1_3) sl23, RdS.idx (OS.rd ho1_3) sl23, RdS.cellN (OS.rd ho1_3), RdS.cells (OS.rd ho1_3), BoxAt.cell hb0_0, BoxAt.cell hb0_1, wrap_id, bC3 (OS.isSl ho1_2) (OS.isSl ho1_3)]
  refine op_alloc (cs := #[.int .i64 0, .slice none 0 0, .slice none 0 0]) (by kernel_rfl) ?_
  intro h1_5 e1_5 hb1_5 z1_5
  replace ho1_2 := OS.ext ho1_2 e1_5
  replace ho1_3 := OS.ext ho1_3 e1_5
  replace hb0_0 := BoxAt.ext hb0_0 e1_5
  replace hb0_1 := BoxAt.ext hb0_1 e1_5
  have := Ext.size e1_5
  replace eB := Ext.trans eB e1_5
  have hfhb1_5 : Fresh h1_3.size [h1_3.size] := Fresh.one _
  have hlhb1_5 := one_lt (show h1_3.size < h1_5.size by omega)
  try simp -implicitDefEqProofs (disch := first | decide | assumption | omega) only [go_sem, RdS.len hdX sl22, RdS.idx hdX sl22, R1.intB hdX (Ext.pres eB), RdS.cells hdX, RdS.len hmX sl23, RdS.idx hmX sl23, RdS.cellB hmX (Ext.pres eB), RdS.cells hmX, RdS.len (OS.rd ho1_2) sl22, RdS.idx (OS.rd ho1_2) sl22, R1.intN (OS.rd ho1_2), RdS.cells (OS.rd ho1_2), RdS.len (OS.rd ho1_3) sl23, RdS.idx (OS.rd ho1_3) sl23, RdS.cellN (OS.rd ho1_3), RdS.cells (OS.rd ho1_3), BoxAt.cell hb0_0, BoxAt.cell hb0_1, BoxAt.cell hb1_5, wrap_id, bC3 (OS.isSl ho1_2) (OS.isSl ho1_3)]
  refine op_storeB (cs' := #[.int .i64 (X.p), v1_2, v1_3]) st30 hb1_5 rfl rfl rfl (by simp) (allOne_mem (l := [.int .i64 (X.p), v1_2, v1_3]) ⟨rfl, (OS.one ho1_2).1, (OS.one ho1_3).1, trivial⟩) rfl ?_
  intro h1_6 hb1_5 c1_6
  replace ho1_2 := OS.chg ho1_2 c1_6 (apart_lt hlho1_2 hfhb1_5 (by omega))
  replace ho1_3 := OS.chg ho1_3 c1_6 (apart_lt hlho1_3 hfhb1_5 (by omega))
  replace hb0_0 := BoxAt.chgA hb0_0 c1_6 (apart_lt hlhb0_0 hfhb1_5 (by omega))
  replace hb0_1 := BoxAt.chgA hb0_1 c1_6 (apart_lt hlhb0_1 hfhb1_5 (by omega))
  have := c1_6.size
  replace eB := Ext.then eB c1_6 (ge_of hfhb1_5 (by omega))
  try simp -implicitDefEqProofs (disch := first | decide | assumption | omega) only [go_sem, RdS.len hdX sl22, RdS.idx hdX sl22, R1.intB hdX (Ext.pres eB), RdS.cells hdX, RdS.len hmX sl23, RdS.idx hmX sl23, RdS.cellB hmX (Ext.pres eB), RdS.cells hmX, RdS.len (OS.rd ho1_2) sl22, RdS.idx (OS.rd ho1_2) sl22, R1.intN (OS.rd ho1_2), RdS.cells (OS.rd ho1_2), RdS.len (OS.rd ho1_3) sl23, RdS.idx (OS.rd ho1_3) sl23, RdS.cellN (OS.rd ho1_3), RdS.cells (OS.rd ho1_3), BoxAt.cell hb0_0, BoxAt.cell hb0_1, BoxAt.cell hb1_5, wrap_id, bC3 (OS.isSl ho1_2) (OS.isSl ho1_3)]
  refine hK _ _ ?_
  clear hK K
  refine den_seq ?_
  refine den_seq ?_
  refine den_region TTok ?_
  intro K hK
  simp -implicitDefEqProofs (disch := first | decide | assumption | omega) only [go_sem, RdS.len hdX sl22, RdS.idx hdX sl22, R1.intB hdX (Ext.pres eB), RdS.cells hdX, RdS.len hmX sl23, RdS.idx hmX sl23, RdS.cellB hmX (Ext.pres eB), RdS.cells hmX, RdS.len (OS.rd ho1_2) sl22, RdS.idx (OS.rd ho1_2) sl22, R1.intN (OS.rd ho1_2), RdS.cells (OS.rd ho1_2), RdS.len (OS.rd ho1_3) sl23, RdS.idx (OS.rd ho1_3) sl23, RdS.cellN (OS.rd ho1_3), RdS.cells (OS.rd ho1_3), BoxAt.cell hb0_0, BoxAt.cell hb0_1, BoxAt.cell hb1_5, wrap_id]
  refine hK _ _ ?_
  clear hK K
  refine den_block ?_
  refine den_sel [6, 1, 2, 4, 5] ?_
  intro env_1
  simp only [go_sem]
  refine den_loopS (σ := Nat × Value × List Nat × Value × List Nat) (fun st_ => [(6, .int .i64 (st_.1 : Int))]) (fun st_ H => ((st_.1 : Int) ≤ k) ∧ (O1 H st_.2.1 (List.replicate st_.1 0) st_.2.2.1) ∧ (Fresh (h0_1.size) st_.2.2.1) ∧ (Sub ([h0_1.size] ++ ([h1_2.size] ++ ([h1_3.size]))) h1_6.size st_.2.2.1) ∧ (O3 H st_.2.2.2.1 (List.replicate (st_.1 - 1) []) st_.2.2.2.2) ∧ (Fresh (h1_2.size) st_.2.2.2.2) ∧ (Sub ([h0_1.size] ++ ([h1_2.size] ++ ([h1_3.size]))) h1_6.size st_.2.2.2.2) ∧ (BoxAt H (h1_3.size) #[.int .i64 (X.p), st_.2.1, st_.2.2.2.1] 30) ∧ (Apart st_.2.2.1 st_.2.2.2.2) ∧ (Apart st_.2.2.1 [h1_3.size]) ∧ (Apart st_.2.2.2.2 [h1_3.size]) ∧ (Chg ([h0_1.size] ++ ([h1_2.size] ++ ([h1_3.size]))) h1_6 H)) (fun st_ => k.toNat - st_.1) (0, v1_2, [h0_1.size], v1_3, [h1_2.size]) ?_ ?_
  · exact ⟨by first | (simp; done) | (dsimp only; omega) | (simp; omega), by simpa using ho1_2, hfho1_2, (Sub.left Sub.refl), by simpa using ho1_3, hfho1_3, (Sub.right (Sub.left Sub.refl)), by simpa using hb1_5, (apart_lt hlho1_2 hfho1_3 (by omega)), (apart_lt hlho1_2 hfhb1_5 (by omega)), (apart_lt hlho1_3 hfhb1_5 (by omega)), Chg.refl _ _⟩
  · rintro ⟨n, vhD, fphD, vhM, fphM⟩ h4 ee3 ⟨hi0, hD, hfhD, sbhD, hM, hfhM, sbhM, hbx5, ap_hD_hM, ap_hD_hbx5, ap_hM_hbx5, cL2⟩
    dsimp only at hi0 hD hfhD sbhD hM hfhM sbhM hbx5 ap_hD_hM ap_hD_hbx5 ap_hM_hbx5 cL2
    replace hb0_0 := BoxAt.chgA hb0_0 cL2 (Apart.app (apart_lt hlhb0_0 hfho1_2 (by omega)) (Apart.app (apart_lt hlhb0_0 hfho1_3 (by omega)) (apart_lt hlhb0_0 hfhb1_5 (by omega))))
    replace hb0_1 := BoxAt.chgA hb0_1 cL2 (Apart.app (apart_lt hlhb0_1 hfho1_2 (by omega)) (Apart.app (apart_lt hlhb0_1 hfho1_3 (by omega)) (apart_lt hlhb0_1 hfhb1_5 (by omega))))
    have := cL2.size
    replace eB := Ext.then eB cL2 (ge_app (ge_of hfho1_2 (by omega)) (ge_app (ge_of hfho1_3 (by omega)) (ge_of hfhb1_5 (by omega))))
    have hlhD := OS.lt hD
    have hlhM := OS.lt hM
    have hfhbx5 := hfhb1_5
    have hlhbx5 := hlhb1_5
    simp only [List.cons_append, List.nil_append]
    refine den_seq ?_
    refine den_seq ?_
    refine den_region TTok ?_
    intro K hK
    simp -implicitDefEqProofs (disch := first | decide | assumption | omega) only [go_sem, RdS.len hdX sl22, RdS.idx hdX sl22, R1.intB hdX (Ext.pres eB), RdS.cells hdX, RdS.len hmX sl23, RdS.idx hmX sl23, RdS.cellB hmX (Ext.pres eB), RdS.cells hmX, RdS.len (OS.rd hD) sl22, RdS.idx (OS.rd hD) sl22, R1.intN (OS.rd hD), RdS.cells (OS.rd hD), RdS.len (OS.rd hM) sl23, RdS.idx (OS.rd hM) sl23, RdS.cellN (OS.rd hM), RdS.cells (OS.rd hM), BoxAt.cell hb0_0, BoxAt.cell hb0_1, BoxAt.cell hbx5, wrap_id]
    refine hK _ _ ?_
    clear hK K
    refine den_cond rfl (fun c0 => ?_) (fun c0 => ?_)
    · try simp only [decide_eq_true_eq, decide_eq_false_iff_not, beq_iff_eq, beq_eq_false_iff_ne, bne_iff_ne, ne_eq, Bool.not_eq_true', Bool.not_eq_false', Bool.and_eq_true, Bool.or_eq_true, bne_eq_false_iff_eq] at c0
      refine den_skip ?_
      refine den_seq ?_
      refine den_block ?_
      refine den_seq ?_
      have hl0 : (List.replicate n (0 : Int)).length = n := List.length_replicate
      refine den_region TTok ?_
      intro K hK
      simp -implicitDefEqProofs (disch := first | decide | assumption | omega) only [go_sem, fa30_1, ld22, RdS.len hdX sl22, RdS.idx hdX sl22, R1.intB hdX (Ext.pres eB), RdS.cells hdX, RdS.len hmX sl23, RdS.idx hmX sl23, RdS.cellB hmX (Ext.pres eB), RdS.cells hmX, RdS.len (OS.rd hD) sl22, RdS.idx (OS.rd hD) sl22, R1.intN (OS.rd hD), RdS.cells (OS.rd hD), RdS.len (OS.rd hM) sl23, RdS.idx (OS.rd hM) sl23, RdS.cellN (OS.rd hM), RdS.cells (OS.rd hM), BoxAt.cell hb0_0, BoxAt.cell hb0_1, BoxAt.cell hbx5, wrap_id]
      refine op_bs1 sz22 rfl rfl ?_
      try simp -implicitDefEqProofs (disch := first | decide | assumption | omega) only [go_sem, RdS.len hdX sl22, RdS.idx hdX sl22, R1.intB hdX (Ext.pres eB), RdS.cells hdX, RdS.len hmX sl23, RdS.idx hmX sl23, RdS.cellB hmX (Ext.pres eB), RdS.cells hmX, RdS.len (OS.rd hD) sl22, RdS.idx (OS.rd hD) sl22, R1.intN (OS.rd hD), RdS.cells (OS.rd hD), RdS.len (OS.rd hM) sl23, RdS.idx (OS.rd hM) sl23, RdS.cellN (OS.rd hM), RdS.cells (OS.rd hM), BoxAt.cell hb0_0, BoxAt.cell hb0_1, BoxAt.cell hbx5, wrap_id]
      refine op_append1 sz22 hD hfhD.nodup ⟨rfl, rfl⟩ List.nodup_nil (Apart.nil _) (by first | omega | (simp; omega)) rfl rfl ?_
      intro v5_3 h5_3 fp5_3 ho5_3 hn5_3 hs5_3 c5_3
      have hsz5_3 := c5_3.size
      have hfho5_3 : Fresh h0_1.size fp5_3 := Fresh.appd hfhD (Fresh.nil h4.size) (by omega) (by omega) hn5_3 hs5_3
      have sb5 : Sub ([h0_1.size] ++ ([h1_2.size] ++ ([h1_3.size]))) h1_6.size fp5_3 := Sub.grow sbhD Sub.nil (by omega) hs5_3
      replace hM := OS.chg hM c5_3 (Apart.symm ap_hD_hM)
      replace hb0_0 := BoxAt.chgA hb0_0 c5_3 (apart_lt hlhb0_0 hfhD (by omega))
      replace hb0_1 := BoxAt.chgA hb0_1 c5_3 (apart_lt hlhb0_1 hfhD (by omega))
      replace hbx5 := BoxAt.chgA hbx5 c5_3 (Apart.symm ap_hD_hbx5)
      have := c5_3.size
      replace eB := Ext.then eB c5_3 (ge_of hfhD (by omega))
      replace cL2 := Chg.step cL2 c5_3 sbhD
      have ap6 : Apart fphM fp5_3 := Apart.grow hlhM (by omega) (Apart.symm ap_hD_hM) (Apart.nil _) hs5_3
      have ap7 : Apart [h1_3.size] fp5_3 := Apart.grow hlhbx5 (by omega) (Apart.symm ap_hD_hbx5) (Apart.nil _) hs5_3
      have hlho5_3 := OS.lt ho5_3
      try simp -implicitDefEqProofs (disch := first | decide | assumption | omega) only [go_sem, fa30_1, RdS.len hdX sl22, RdS.idx hdX sl22, R1.intB hdX (Ext.pres eB), RdS.cells hdX, RdS.len hmX sl23, RdS.idx hmX sl23, RdS.cellB hmX (Ext.pres eB), RdS.cells hmX, RdS.len (OS.rd hM) sl23, RdS.idx (OS.rd hM) sl23, RdS.cellN (OS.rd hM), RdS.cells (OS.rd hM), RdS.len (OS.rd ho5_3) sl22, RdS.idx (OS.rd ho5_3) sl22, R1.intN (OS.rd ho5_3), RdS.cells (OS.rd ho5_3), BoxAt.cell hb0_0, BoxAt.cell hb0_1, BoxAt.cell hbx5, wrap_id]
      refine op_storeB (cs' := #[.int .i64 (X.p), v5_3, vhM]) st22 hbx5 rfl (OS.one ho5_3).2 rfl (by simp) (allOne_mem (l := [v5_3]) ⟨(OS.one ho5_3).1, trivial⟩) rfl ?_
      intro h5_5 hbx5 c5_5
      replace hM := OS.chg hM c5_5 ap_hM_hbx5
      replace ho5_3 := OS.chg ho5_3 c5_5 (Apart.symm ap7)
      replace hb0_0 := BoxAt.chgA hb0_0 c5_5 (apart_lt hlhb0_0 hfhbx5 (by omega))
      replace hb0_1 := BoxAt.chgA hb0_1 c5_5 (apart_lt hlhb0_1 hfhbx5 (by omega))
      have := c5_5.size
      replace eB := Ext.then eB c5_5 (ge_of hfhbx5 (by omega))
      replace cL2 := Chg.step cL2 c5_5 (Sub.right (Sub.right Sub.refl))
      try simp -implicitDefEqProofs (disch := first | decide | assumption | omega) only [go_sem, RdS.len hdX sl22, RdS.idx hdX sl22, R1.intB hdX (Ext.pres eB), RdS.cells hdX, RdS.len hmX sl23, RdS.idx hmX sl23, RdS.cellB hmX (Ext.pres eB), RdS.cells hmX, RdS.len (OS.rd hM) sl23, RdS.idx (OS.rd hM) sl23, RdS.cellN (OS.rd hM), RdS.cells (OS.rd hM), RdS.len (OS.rd ho5_3) sl22, RdS.idx (OS.rd ho5_3) sl22, R1.intN (OS.rd ho5_3), RdS.cells (OS.rd ho5_3), BoxAt.cell hb0_0, BoxAt.cell hb0_1, BoxAt.cell hbx5, wrap_id]
      refine hK _ _ ?_
      clear hK K
      refine den_seq ?_
      refine den_region TTok ?_
      intro K hK
      simp -implicitDefEqProofs (disch := first | decide | assumption | omega) only [go_sem, RdS.len hdX sl22, RdS.idx hdX sl22, R1.intB hdX (Ext.pres eB), RdS.cells hdX, RdS.len hmX sl23, RdS.idx hmX sl23, RdS.cellB hmX (Ext.pres eB), RdS.cells hmX, RdS.len (OS.rd hM) sl23, RdS.idx (OS.rd hM) sl23, RdS.cellN (OS.rd hM), RdS.cells (OS.rd hM), RdS.len (OS.rd ho5_3) sl22, RdS.idx (OS.rd ho5_3) sl22, R1.intN (OS.rd ho5_3), RdS.cells (OS.rd ho5_3), BoxAt.cell hb0_0, BoxAt.cell hb0_1, BoxAt.cell hbx5, wrap_id]
      refine hK _ _ ?_
      clear hK K
      refine den_cond rfl (fun c1 => ?_) (fun c1 => ?_)
      · try simp only [decide_eq_true_eq, decide_eq_false_iff_not, beq_iff_eq, beq_eq_false_iff_ne, bne_iff_ne, ne_eq, Bool.not_eq_true', Bool.not_eq_false', Bool.and_eq_true, Bool.or_eq_true, bne_eq_false_iff_eq] at c1
        have hl1 : (List.replicate (n - 1) ([] : List (List Int))).length = n - 1 := List.length_replicate
        refine den_region TTok ?_
        intro K hK
        simp -implicitDefEqProofs (disch := first | decide | assumption | omega) only [go_sem, fa30_2, ld23, RdS.len hdX sl22, RdS.idx hdX sl22, R1.intB hdX (Ext.pres eB), RdS.cells hdX, RdS.len hmX sl23, RdS.idx hmX sl23, RdS.cellB hmX (Ext.pres eB), RdS.cells hmX, RdS.len (OS.rd hM) sl23, RdS.idx (OS.rd hM) sl23, RdS.cellN (OS.rd hM), RdS.cells (OS.rd hM), RdS.len (OS.rd ho5_3) sl22, RdS.idx (OS.rd ho5_3) sl22, R1.intN (OS.rd ho5_3), RdS.cells (OS.rd ho5_3), BoxAt.cell hb0_0, BoxAt.cell hb0_1, BoxAt.cell hbx5, wrap_id]
        refine op_bs0 sz56 O1 ?_
        intro v7_2 h7_2 ho7_2 e7_2
        replace hM := OS.ext hM e7_2
        replace ho5_3 := OS.ext ho5_3 e7_2
        replace hb0_0 := BoxAt.ext hb0_0 e7_2
        replace hb0_1 := BoxAt.ext hb0_1 e7_2
        replace hbx5 := BoxAt.ext hbx5 e7_2
        have := Ext.size e7_2
        replace eB := Ext.trans eB e7_2
        replace cL2 := Chg.stepE cL2 e7_2
        have hfho7_2 : Fresh h5_5.size [h5_5.size] := Fresh.one _
        have hlho7_2 := OS.lt ho7_2
        try simp -implicitDefEqProofs (disch := first | decide | assumption | omega) only [go_sem, RdS.len hdX sl22, RdS.idx hdX sl22, R1.intB hdX (Ext.pres eB), RdS.cells hdX, RdS.len hmX sl23, RdS.idx hmX sl23, RdS.cellB hmX (Ext.pres eB), RdS.cells hmX, RdS.len (OS.rd hM) sl23, RdS.idx (OS.rd hM) sl23, RdS.cellN (OS.rd hM), RdS.cells (OS.rd hM), RdS.len (OS.rd ho5_3) sl22, RdS.idx (OS.rd ho5_3) sl22, R1.intN (OS.rd ho5_3), RdS.cells (OS.rd ho5_3), RdS.len (OS.rd ho7_2) sl56, RdS.idx (OS.rd ho7_2) sl56, RdS.cellN (OS.rd ho7_2), RdS.cells (OS.rd ho7_2), BoxAt.cell hb0_0, BoxAt.cell hb0_1, BoxAt.cell hbx5, wrap_id]
        refine op_bs1 sz23 rfl (OS.one ho7_2).2 ?_
        try simp -implicitDefEqProofs (disch := first | decide | assumption | omega) only [go_sem, RdS.len hdX sl22, RdS.idx hdX sl22, R1.intB hdX (Ext.pres eB), RdS.cells hdX, RdS.len hmX sl23, RdS.idx hmX sl23, RdS.cellB hmX (Ext.pres eB), RdS.cells hmX, RdS.len (OS.rd hM) sl23, RdS.idx (OS.rd hM) sl23, RdS.cellN (OS.rd hM), RdS.cells (OS.rd hM), RdS.len (OS.rd ho5_3) sl22, RdS.idx (OS.rd ho5_3) sl22, R1.intN (OS.rd ho5_3), RdS.cells (OS.rd ho5_3), RdS.len (OS.rd ho7_2) sl56, RdS.idx (OS.rd ho7_2) sl56, RdS.cellN (OS.rd ho7_2), RdS.cells (OS.rd ho7_2), BoxAt.cell hb0_0, BoxAt.cell hb0_1, BoxAt.cell hbx5, wrap_id]
        refine op_append1 sz23 hM hfhM.nodup ho7_2 hfho7_2.nodup (apart_lt hlhM hfho7_2 (by omega)) (by first | omega | (simp; omega)) rfl rfl ?_
        intro v7_4 h7_4 fp7_4 ho7_4 hn7_4 hs7_4 c7_4
        have hsz7_4 := c7_4.size
        have hfho7_4 : Fresh h1_2.size fp7_4 := Fresh.appd hfhM hfho7_2 (by omega) (by omega) hn7_4 hs7_4
        have sb8 : Sub ([h0_1.size] ++ ([h1_2.size] ++ ([h1_3.size]))) h1_6.size fp7_4 := Sub.grow sbhM (Sub.fresh hfho7_2 (by omega)) (by omega) hs7_4
        replace ho5_3 := OS.chg ho5_3 c7_4 (Apart.symm ap6)
        replace hb0_0 := BoxAt.chgA hb0_0 c7_4 (apart_lt hlhb0_0 hfhM (by omega))
        replace hb0_1 := BoxAt.chgA hb0_1 c7_4 (apart_lt hlhb0_1 hfhM (by omega))
        replace hbx5 := BoxAt.chgA hbx5 c7_4 (Apart.symm ap_hM_hbx5)
        have := c7_4.size
        replace eB := Ext.then eB c7_4 (ge_of hfhM (by omega))
        replace cL2 := Chg.step cL2 c7_4 sbhM
        have ap9 : Apart fp5_3 fp7_4 := Apart.grow hlho5_3 (by omega) (Apart.symm ap6) (apart_lt hlho5_3 hfho7_2 (by omega)) hs7_4
        have ap10 : Apart [h1_3.size] fp7_4 := Apart.grow hlhbx5 (by omega) (Apart.symm ap_hM_hbx5) (apart_lt hlhbx5 hfho7_2 (by omega)) hs7_4
        have hlho7_4 := OS.lt ho7_4
        try simp -implicitDefEqProofs (disch := first | decide | assumption | omega) only [go_sem, fa30_2, RdS.len hdX sl22, RdS.idx hdX sl22, R1.intB hdX (Ext.pres eB), RdS.cells hdX, RdS.len hmX sl23, RdS.idx hmX sl23, RdS.cellB hmX (Ext.pres eB), RdS.cells hmX, RdS.len (OS.rd ho5_3) sl22, RdS.idx (OS.rd ho5_3) sl22, R1.intN (OS.rd ho5_3), RdS.cells (OS.rd ho5_3), RdS.len (OS.rd ho7_4) sl23, RdS.idx (OS.rd ho7_4) sl23, RdS.cellN (OS.rd ho7_4), RdS.cells (OS.rd ho7_4), BoxAt.cell hb0_0, BoxAt.cell hb0_1, BoxAt.cell hbx5, wrap_id]
        refine op_storeB (cs' := #[.int .i64 (X.p), v5_3, v7_4]) st23 hbx5 rfl (OS.one ho7_4).2 rfl (by simp) (allOne_mem (l := [v7_4]) ⟨(OS.one ho7_4).1, trivial⟩) rfl ?_
        intro h7_6 hbx5 c7_6
        replace ho5_3 := OS.chg ho5_3 c7_6 (Apart.symm ap7)
        replace ho7_4 := OS.chg ho7_4 c7_6 (Apart.symm ap10)
        replace hb0_0 := BoxAt.chgA hb0_0 c7_6 (apart_lt hlhb0_0 hfhbx5 (by omega))
        replace hb0_1 := BoxAt.chgA hb0_1 c7_6 (apart_lt hlhb0_1 hfhbx5 (by omega))
        have := c7_6.size
        replace eB := Ext.then eB c7_6 (ge_of hfhbx5 (by omega))
        replace cL2 := Chg.step cL2 c7_6 (Sub.right (Sub.right Sub.refl))
        try simp -implicitDefEqProofs (disch := first | decide | assumption | omega) only [go_sem, RdS.len hdX sl22, RdS.idx hdX sl22, R1.intB hdX (Ext.pres eB), RdS.cells hdX, RdS.len hmX sl23, RdS.idx hmX sl23, RdS.cellB hmX (Ext.pres eB), RdS.cells hmX, RdS.len (OS.rd ho5_3) sl22, RdS.idx (OS.rd ho5_3) sl22, R1.intN (OS.rd ho5_3), RdS.cells (OS.rd ho5_3), RdS.len (OS.rd ho7_4) sl23, RdS.idx (OS.rd ho7_4) sl23, RdS.cellN (OS.rd ho7_4), RdS.cells (OS.rd ho7_4), BoxAt.cell hb0_0, BoxAt.cell hb0_1, BoxAt.cell hbx5, wrap_id]
        refine hK _ _ ?_
        clear hK K
        refine den_blk ?_
        refine den_region TTok ?_
        intro K hK
        simp -implicitDefEqProofs (disch := first | decide | assumption | omega) only [go_sem, RdS.len hdX sl22, RdS.idx hdX sl22, R1.intB hdX (Ext.pres eB), RdS.cells hdX, RdS.len hmX sl23, RdS.idx hmX sl23, RdS.cellB hmX (Ext.pres eB), RdS.cells hmX, RdS.len (OS.rd ho5_3) sl22, RdS.idx (OS.rd ho5_3) sl22, R1.intN (OS.rd ho5_3), RdS.cells (OS.rd ho5_3), RdS.len (OS.rd ho7_4) sl23, RdS.idx (OS.rd ho7_4) sl23, RdS.cellN (OS.rd ho7_4), RdS.cells (OS.rd ho7_4), BoxAt.cell hb0_0, BoxAt.cell hb0_1, BoxAt.cell hbx5, wrap_id]
        refine hK _ _ ?_
        clear hK K
        refine den_stop ?_
        rw [← List.replicate_succ'] at ho5_3
        first | rw [repl_step (by omega)] at ho7_4 | rw [show n - 1 = n + 1 - 1 by omega] at ho7_4
        exact ⟨(n + 1, v5_3, fp5_3, v7_4, fp7_4), by simp [HasL, puts_at], ⟨by first | omega | (dsimp only; omega), ho5_3, hfho5_3, sb5, ho7_4, hfho7_4, sb8, hbx5, ap9, (Apart.symm ap7), (Apart.symm ap10), cL2⟩, by first | omega | (dsimp only; omega)⟩
      · try simp only [decide_eq_true_eq, decide_eq_false_iff_not, beq_iff_eq, beq_eq_false_iff_ne, bne_iff_ne, ne_eq, Bool.not_eq_true', Bool.not_eq_false', Bool.and_eq_true, Bool.or_eq_true, bne_eq_false_iff_eq] at c1
        refine den_skip ?_
        refine den_blk ?_
        refine den_region TTok ?_
        intro K hK
        simp -implicitDefEqProofs (disch := first | decide | assumption | omega) only [go_sem, RdS.len hdX sl22, RdS.idx hdX sl22, R1.intB hdX (Ext.pres eB), RdS.cells hdX, RdS.len hmX sl23, RdS.idx hmX sl23, RdS.cellB hmX (Ext.pres eB), RdS.cells hmX, RdS.len (OS.rd hM) sl23, RdS.idx (OS.rd hM) sl23, RdS.cellN (OS.rd hM), RdS.cells (OS.rd hM), RdS.len (OS.rd ho5_3) sl22, RdS.idx (OS.rd ho5_3) sl22, R1.intN (OS.rd ho5_3), RdS.cells (OS.rd ho5_3), BoxAt.cell hb0_0, BoxAt.cell hb0_1, BoxAt.cell hbx5, wrap_id]
        refine hK _ _ ?_
        clear hK K
        refine den_stop ?_
        rw [← List.replicate_succ'] at ho5_3
        first | rw [repl_step (by omega)] at hM | rw [show n - 1 = n + 1 - 1 by omega] at hM
        exact ⟨(n + 1, v5_3, fp5_3, vhM, fphM), by simp [HasL, puts_at], ⟨by first | omega | (dsimp only; omega), ho5_3, hfho5_3, sb5, hM, hfhM, sbhM, hbx5, (Apart.symm ap6), (Apart.symm ap7), ap_hM_hbx5, cL2⟩, by first | omega | (dsimp only; omega)⟩
    · try simp only [decide_eq_true_eq, decide_eq_false_iff_not, beq_iff_eq, beq_eq_false_iff_ne, bne_iff_ne, ne_eq, Bool.not_eq_true', Bool.not_eq_false', Bool.and_eq_true, Bool.or_eq_true, bne_eq_false_iff_eq] at c0
      refine den_exit ?_
      refine denX_code ?_
      refine denX_stop ?_
      refine denX_hit ?_
      refine den_seq ?_
      refine den_seq ?_
      refine den_region TTok ?_
      intro K hK
      simp -implicitDefEqProofs (disch := first | decide | assumption | omega) only [go_sem, RdS.len hdX sl22, RdS.idx hdX sl22, R1.intB hdX (Ext.pres eB), RdS.cells hdX, RdS.len hmX sl23, RdS.idx hmX sl23, RdS.cellB hmX (Ext.pres eB), RdS.cells hmX, RdS.len (OS.rd hD) sl22, RdS.idx (OS.rd hD) sl22, R1.intN (OS.rd hD), RdS.cells (OS.rd hD), RdS.len (OS.rd hM) sl23, RdS.idx (OS.rd hM) sl23, RdS.cellN (OS.rd hM), RdS.cells (OS.rd hM), BoxAt.cell hb0_0, BoxAt.cell hb0_1, BoxAt.cell hbx5, wrap_id]
      refine hK _ _ ?_
      clear hK K
      refine den_block ?_
      refine den_sel [7, 1, 2, 4, 5] ?_
      intro env_11
      simp only [go_sem]
      refine den_loopS (σ := Nat × Value × List Nat × Value × List Nat) (fun st_ => [(7, .int .i64 (st_.1 : Int))]) (fun st_ H => (st_.1 ≤ X.dims.length) ∧ (O1 H st_.2.1 (List.replicate k.toNat 0 ++ X.dims.take st_.1) st_.2.2.1) ∧ (Fresh (h0_1.size) st_.2.2.1) ∧ (Sub (fphD ++ (fphM ++ ([h1_3.size]))) h4.size st_.2.2.1) ∧ (O3 H st_.2.2.2.1 ((List.range (k.toNat + st_.1 - 1)).map fun q : Nat => shAt X k q) st_.2.2.2.2) ∧ (Fresh (h1_2.size) st_.2.2.2.2) ∧ (Sub (fphD ++ (fphM ++ ([h1_3.size]))) h4.size st_.2.2.2.2) ∧ (BoxAt H (h1_3.size) #[.int .i64 (X.p), st_.2.1, st_.2.2.2.1] 30) ∧ (Apart st_.2.2.1 st_.2.2.2.2) ∧ (Apart st_.2.2.1 [h1_3.size]) ∧ (Apart st_.2.2.2.2 [h1_3.size]) ∧ (Chg (fphD ++ (fphM ++ ([h1_3.size]))) h4 H)) (fun st_ => X.dims.length - st_.1) (0, vhD, fphD, vhM, fphM) ?_ ?_
      · exact ⟨by first | (simp; done) | (dsimp only; omega) | (simp; omega), by rw [List.take_zero, List.append_nil, show k.toNat = n by omega]; exact hD, hfhD, (Sub.left Sub.refl), by rw [← sh_init, show k.toNat = n by omega]; exact hM, hfhM, (Sub.right (Sub.left Sub.refl)), by simpa using hbx5, ap_hD_hM, ap_hD_hbx5, ap_hM_hbx5, Chg.refl _ _⟩
      · rintro ⟨n, vhD2, fphD2, vhM2, fphM2⟩ h14 ee13 ⟨hi0, hD2, hfhD2, sbhD2, hM2, hfhM2, sbhM2, hbx5, ap_hD2_hM2, ap_hD2_hbx5, ap_hM2_hbx5, cL12⟩
        dsimp only at hi0 hD2 hfhD2 sbhD2 hM2 hfhM2 sbhM2 hbx5 ap_hD2_hM2 ap_hD2_hbx5 ap_hM2_hbx5 cL12
        replace hb0_0 := BoxAt.chgA hb0_0 cL12 (Apart.app (apart_lt hlhb0_0 hfhD (by omega)) (Apart.app (apart_lt hlhb0_0 hfhM (by omega)) (apart_lt hlhb0_0 hfhbx5 (by omega))))
        replace hb0_1 := BoxAt.chgA hb0_1 cL12 (Apart.app (apart_lt hlhb0_1 hfhD (by omega)) (Apart.app (apart_lt hlhb0_1 hfhM (by omega)) (apart_lt hlhb0_1 hfhbx5 (by omega))))
        have := cL12.size
        replace eB := Ext.then eB cL12 (ge_app (ge_of hfhD (by omega)) (ge_app (ge_of hfhM (by omega)) (ge_of hfhbx5 (by omega))))
        have hlhD2 := OS.lt hD2
        have hlhM2 := OS.lt hM2
        have hfhbx5 := hfhbx5
        have hlhbx5 := hlhbx5
        simp only [List.cons_append, List.nil_append]
        refine den_seq ?_
        refine den_seq ?_
        refine den_region TTok ?_
        intro K hK
        simp -implicitDefEqProofs (disch := first | decide | assumption | omega) only [go_sem, fa30_1, ld22, RdS.len hdX sl22, RdS.idx hdX sl22, R1.intB hdX (Ext.pres eB), RdS.cells hdX, RdS.len hmX sl23, RdS.idx hmX sl23, RdS.cellB hmX (Ext.pres eB), RdS.cells hmX, RdS.len (OS.rd hD2) sl22, RdS.idx (OS.rd hD2) sl22, R1.intN (OS.rd hD2), RdS.cells (OS.rd hD2), RdS.len (OS.rd hM2) sl23, RdS.idx (OS.rd hM2) sl23, RdS.cellN (OS.rd hM2), RdS.cells (OS.rd hM2), BoxAt.cell hb0_0, BoxAt.cell hb0_1, BoxAt.cell hbx5, wrap_id]
        refine hK _ _ ?_
        clear hK K
        refine den_cond rfl (fun c2 => ?_) (fun c2 => ?_)
        · try simp only [decide_eq_true_eq, decide_eq_false_iff_not, beq_iff_eq, beq_eq_false_iff_ne, bne_iff_ne, ne_eq, Bool.not_eq_true', Bool.not_eq_false', Bool.and_eq_true, Bool.or_eq_true, bne_eq_false_iff_eq] at c2
          refine den_skip ?_
          refine den_seq ?_
          refine den_block ?_
          refine den_seq ?_
          have hl2 : (List.replicate k.toNat 0 ++ X.dims.take n).length = k.toNat + n := by simp; omega
          refine den_draw TTok mixed [8, 10] [(0, true), (1, true), (2, true), (3, true), (4, true), (5, true), (6, true), (7, false), (8, false), (9, true), (10, false)] (by kernel_rfl) ?_
          intro K hK
          simp -implicitDefEqProofs (disch := first | decide | assumption | omega) only [go_sem, fa30_1, ld22, ld2, RdS.len hdX sl22, RdS.idx hdX sl22, R1.intB hdX (Ext.pres eB), RdS.cells hdX, RdS.len hmX sl23, RdS.idx hmX sl23, RdS.cellB hmX (Ext.pres eB), RdS.cells hmX, RdS.len (OS.rd hD2) sl22, RdS.idx (OS.rd hD2) sl22, R1.intN (OS.rd hD2), RdS.cells (OS.rd hD2), RdS.len (OS.rd hM2) sl23, RdS.idx (OS.rd hM2) sl23, RdS.cellN (OS.rd hM2), RdS.cells (OS.rd hM2), BoxAt.cell hb0_0, BoxAt.cell hb0_1, BoxAt.cell hbx5, wrap_id]
          refine op_bs1 sz22 rfl rfl ?_
          try simp (disch := decide) only [outv_some, outv_none, put_puts]
          refine plK_pres (Ext.pres (Ext.push _ _)) ?_
          try simp -implicitDefEqProofs (disch := first | decide | assumption | omega) only [go_sem, RdS.len hdX sl22, RdS.idx hdX sl22, R1.intB hdX (Ext.pres eB), RdS.cells hdX, RdS.len hmX sl23, RdS.idx hmX sl23, RdS.cellB hmX (Ext.pres eB), RdS.cells hmX, RdS.len (OS.rd hD2) sl22, RdS.idx (OS.rd hD2) sl22, R1.intN (OS.rd hD2), RdS.cells (OS.rd hD2), RdS.len (OS.rd hM2) sl23, RdS.idx (OS.rd hM2) sl23, RdS.cellN (OS.rd hM2), RdS.cells (OS.rd hM2), BoxAt.cell hb0_0, BoxAt.cell hb0_1, BoxAt.cell hbx5, wrap_id]
          refine op_append1 sz22 hD2 hfhD2.nodup ⟨rfl, rfl⟩ List.nodup_nil (Apart.nil _) (by first | omega | (simp; omega)) rfl rfl ?_
          intro v11_8 h11_8 fp11_8 ho11_8 hn11_8 hs11_8 c11_8
          have hsz11_8 := c11_8.size
          have hfho11_8 : Fresh h0_1.size fp11_8 := Fresh.appd hfhD2 (Fresh.nil h14.size) (by omega) (by omega) hn11_8 hs11_8
          have sb15 : Sub (fphD ++ (fphM ++ ([h1_3.size]))) h4.size fp11_8 := Sub.grow sbhD2 Sub.nil (by omega) hs11_8
          replace hM2 := OS.chg hM2 c11_8 (Apart.symm ap_hD2_hM2)
          replace hb0_0 := BoxAt.chgA hb0_0 c11_8 (apart_lt hlhb0_0 hfhD2 (by omega))
          replace hb0_1 := BoxAt.chgA hb0_1 c11_8 (apart_lt hlhb0_1 hfhD2 (by omega))
          replace hbx5 := BoxAt.chgA hbx5 c11_8 (Apart.symm ap_hD2_hbx5)
          have := c11_8.size
          replace eB := Ext.then eB c11_8 (ge_of hfhD2 (by omega))
          replace cL12 := Chg.step cL12 c11_8 sbhD2
          have ap16 : Apart fphM2 fp11_8 := Apart.grow hlhM2 (by omega) (Apart.symm ap_hD2_hM2) (Apart.nil _) hs11_8
          have ap17 : Apart [h1_3.size] fp11_8 := Apart.grow hlhbx5 (by omega) (Apart.symm ap_hD2_hbx5) (Apart.nil _) hs11_8
          have hlho11_8 := OS.lt ho11_8
          try simp (disch := decide) only [outv_some, outv_none, put_puts]
          refine plK_last (by decide) ?_
          try simp -implicitDefEqProofs (disch := first | decide | assumption | omega) only [go_sem, fa30_1, RdS.len hdX sl22, RdS.idx hdX sl22, R1.intB hdX (Ext.pres eB), RdS.cells hdX, RdS.len hmX sl23, RdS.idx hmX sl23, RdS.cellB hmX (Ext.pres eB), RdS.cells hmX, RdS.len (OS.rd hM2) sl23, RdS.idx (OS.rd hM2) sl23, RdS.cellN (OS.rd hM2), RdS.cells (OS.rd hM2), RdS.len (OS.rd ho11_8) sl22, RdS.idx (OS.rd ho11_8) sl22, R1.intN (OS.rd ho11_8), RdS.cells (OS.rd ho11_8), BoxAt.cell hb0_0, BoxAt.cell hb0_1, BoxAt.cell hbx5, wrap_id]
          refine op_storeB (cs' := #[.int .i64 (X.p), v11_8, vhM2]) st22 hbx5 rfl (OS.one ho11_8).2 rfl (by simp) (allOne_mem (l := [v11_8]) ⟨(OS.one ho11_8).1, trivial⟩) rfl ?_
          intro h11_10 hbx5 c11_10
          replace hM2 := OS.chg hM2 c11_10 ap_hM2_hbx5
          replace ho11_8 := OS.chg ho11_8 c11_10 (Apart.symm ap17)
          replace hb0_0 := BoxAt.chgA hb0_0 c11_10 (apart_lt hlhb0_0 hfhbx5 (by omega))
          replace hb0_1 := BoxAt.chgA hb0_1 c11_10 (apart_lt hlhb0_1 hfhbx5 (by omega))
          have := c11_10.size
          replace eB := Ext.then eB c11_10 (ge_of hfhbx5 (by omega))
          replace cL12 := Chg.step cL12 c11_10 (Sub.right (Sub.right Sub.refl))
          try simp (disch := decide) only [outv_some, outv_none, put_puts]
          refine plK_last (by decide) ?_
          try simp -implicitDefEqProofs (disch := first | decide | assumption | omega) only [go_sem, RdS.len hdX sl22, RdS.idx hdX sl22, R1.intB hdX (Ext.pres eB), RdS.cells hdX, RdS.len hmX sl23, RdS.idx hmX sl23, RdS.cellB hmX (Ext.pres eB), RdS.cells hmX, RdS.len (OS.rd hM2) sl23, RdS.idx (OS.rd hM2) sl23, RdS.cellN (OS.rd hM2), RdS.cells (OS.rd hM2), RdS.len (OS.rd ho11_8) sl22, RdS.idx (OS.rd ho11_8) sl22, R1.intN (OS.rd ho11_8), RdS.cells (OS.rd ho11_8), BoxAt.cell hb0_0, BoxAt.cell hb0_1, BoxAt.cell hbx5, wrap_id]
          refine hK _ _ ?_
          clear hK K
          refine den_seq ?_
          have hmo := mapP_ok hC (n := (n : Int)) (by omega) (by omega)
          have hdn := dm_at hC.dm (k := n) (by omega)
          rw [Int.toNat_natCast] at hmo
          have hdw := dimP_bnd hC ((n : Int) - 1)
          have hrl : ∀ i, i < (mapP X (n : Int)).length → ((mapP X (n : Int)).getD i default).length ≤ 1000 := fun i hi => by have := (hmo.2.at hi).1; omega
          refine den_region TTok ?_
          intro K hK
          simp -implicitDefEqProofs (disch := first | decide | assumption | omega) only [go_sem, ld30, RdS.len hdX sl22, RdS.idx hdX sl22, R1.intB hdX (Ext.pres eB), RdS.cells hdX, RdS.len hmX sl23, RdS.idx hmX sl23, RdS.cellB hmX (Ext.pres eB), RdS.cells hmX, RdS.len (OS.rd hM2) sl23, RdS.idx (OS.rd hM2) sl23, RdS.cellN (OS.rd hM2), RdS.cells (OS.rd hM2), RdS.len (OS.rd ho11_8) sl22, RdS.idx (OS.rd ho11_8) sl22, R1.intN (OS.rd ho11_8), RdS.cells (OS.rd ho11_8), BoxAt.cell hb0_0, BoxAt.cell hb0_1, BoxAt.cell hbx5, wrap_id]
          try simp -implicitDefEqProofs (disch := first | decide | assumption | omega) only [go_sem, RdS.len hdX sl22, RdS.idx hdX sl22, R1.intB hdX (Ext.pres eB), RdS.cells hdX, RdS.len hmX sl23, RdS.idx hmX sl23, RdS.cellB hmX (Ext.pres eB), RdS.cells hmX, RdS.len (OS.rd hM2) sl23, RdS.idx (OS.rd hM2) sl23, RdS.cellN (OS.rd hM2), RdS.cells (OS.rd hM2), RdS.len (OS.rd ho11_8) sl22, RdS.idx (OS.rd ho11_8) sl22, R1.intN (OS.rd ho11_8), RdS.cells (OS.rd ho11_8), BoxAt.cell hb0_0, BoxAt.cell hb0_1, BoxAt.cell hbx5, wrap_id]
          refine CallA.mono (sMap_ok _ X (n : Int) _ ⟨_, _, rfl, (RdS.pres hdX (Ext.pres eB)), (RdS.pres hmX (Ext.pres eB))⟩ hC) ?_
          intro vw12_2_0 h12_2
          rintro ⟨zvw12_2_0, rfl, hrw12_2_0, e12_2⟩
          replace hM2 := OS.ext hM2 e12_2
          replace ho11_8 := OS.ext ho11_8 e12_2
          replace hb0_0 := BoxAt.ext hb0_0 e12_2
          replace hb0_1 := BoxAt.ext hb0_1 e12_2
          replace hbx5 := BoxAt.ext hbx5 e12_2
          have := Ext.size e12_2
          replace eB := Ext.trans eB e12_2
          replace cL12 := Chg.stepE cL12 e12_2
          have xrw12_2_0 := Ext.refl h12_2
          have hlrw12_2_0 := RdS.le hrw12_2_0
          try simp -implicitDefEqProofs (disch := first | decide | assumption | omega) only [go_sem, RdS.len hdX sl22, RdS.idx hdX sl22, R1.intB hdX (Ext.pres eB), RdS.cells hdX, RdS.len hmX sl23, RdS.idx hmX sl23, RdS.cellB hmX (Ext.pres eB), RdS.cells hmX, RdS.len (OS.rd hM2) sl23, RdS.idx (OS.rd hM2) sl23, RdS.cellN (OS.rd hM2), RdS.cells (OS.rd hM2), RdS.len (OS.rd ho11_8) sl22, RdS.idx (OS.rd ho11_8) sl22, R1.intN (OS.rd ho11_8), RdS.cells (OS.rd ho11_8), BoxAt.cell hb0_0, BoxAt.cell hb0_1, BoxAt.cell hbx5, RdS.len hrw12_2_0 sl56, RdS.idx hrw12_2_0 sl56, RdS.cellB hrw12_2_0 (Ext.pres xrw12_2_0), RdS.cells hrw12_2_0, wrap_id]
          try simp -implicitDefEqProofs (disch := first | decide | assumption | omega) only [go_sem, RdS.len hdX sl22, RdS.idx hdX sl22, R1.intB hdX (Ext.pres eB), RdS.cells hdX, RdS.len hmX sl23, RdS.idx hmX sl23, RdS.cellB hmX (Ext.pres eB), RdS.cells hmX, RdS.len (OS.rd hM2) sl23, RdS.idx (OS.rd hM2) sl23, RdS.cellN (OS.rd hM2), RdS.cells (OS.rd hM2), RdS.len (OS.rd ho11_8) sl22, RdS.idx (OS.rd ho11_8) sl22, R1.intN (OS.rd ho11_8), RdS.cells (OS.rd ho11_8), BoxAt.cell hb0_0, BoxAt.cell hb0_1, BoxAt.cell hbx5, RdS.len hrw12_2_0 sl56, RdS.idx hrw12_2_0 sl56, RdS.cellB hrw12_2_0 (Ext.pres xrw12_2_0), RdS.cells hrw12_2_0, wrap_id]
          refine CallA.mono (sRows_ok _ (mapP X (n : Int)) _ (RdS.pres hrw12_2_0 (Ext.pres xrw12_2_0)) (by omega) hrl) ?_
          intro vw12_3_0 h12_3
          rintro ⟨zvw12_3_0, fw12_3_0, rfl, how12_3_0, hfw12_3_0, e12_3⟩
          replace hM2 := OS.ext hM2 e12_3
          replace ho11_8 := OS.ext ho11_8 e12_3
          replace hb0_0 := BoxAt.ext hb0_0 e12_3
          replace hb0_1 := BoxAt.ext hb0_1 e12_3
          replace hbx5 := BoxAt.ext hbx5 e12_3
          have := Ext.size e12_3
          replace eB := Ext.trans eB e12_3
          replace xrw12_2_0 := Ext.trans xrw12_2_0 e12_3
          replace cL12 := Chg.stepE cL12 e12_3
          have hlhow12_3_0 := OS.lt how12_3_0
          try simp -implicitDefEqProofs (disch := first | decide | assumption | omega) only [go_sem, RdS.len hdX sl22, RdS.idx hdX sl22, R1.intB hdX (Ext.pres eB), RdS.cells hdX, RdS.len hmX sl23, RdS.idx hmX sl23, RdS.cellB hmX (Ext.pres eB), RdS.cells hmX, RdS.len (OS.rd hM2) sl23, RdS.idx (OS.rd hM2) sl23, RdS.cellN (OS.rd hM2), RdS.cells (OS.rd hM2), RdS.len (OS.rd ho11_8) sl22, RdS.idx (OS.rd ho11_8) sl22, R1.intN (OS.rd ho11_8), RdS.cells (OS.rd ho11_8), RdS.len (OS.rd how12_3_0) sl56, RdS.idx (OS.rd how12_3_0) sl56, RdS.cellN (OS.rd how12_3_0), RdS.cells (OS.rd how12_3_0), BoxAt.cell hb0_0, BoxAt.cell hb0_1, BoxAt.cell hbx5, RdS.len hrw12_2_0 sl56, RdS.idx hrw12_2_0 sl56, RdS.cellB hrw12_2_0 (Ext.pres xrw12_2_0), RdS.cells hrw12_2_0, wrap_id]
          refine hK _ _ ?_
          clear hK K
          refine den_seq ?_
          refine den_seq ?_
          refine den_region TTok ?_
          intro K hK
          simp -implicitDefEqProofs (disch := first | decide | assumption | omega) only [go_sem, RdS.len hdX sl22, RdS.idx hdX sl22, R1.intB hdX (Ext.pres eB), RdS.cells hdX, RdS.len hmX sl23, RdS.idx hmX sl23, RdS.cellB hmX (Ext.pres eB), RdS.cells hmX, RdS.len (OS.rd hM2) sl23, RdS.idx (OS.rd hM2) sl23, RdS.cellN (OS.rd hM2), RdS.cells (OS.rd hM2), RdS.len (OS.rd ho11_8) sl22, RdS.idx (OS.rd ho11_8) sl22, R1.intN (OS.rd ho11_8), RdS.cells (OS.rd ho11_8), RdS.len (OS.rd how12_3_0) sl56, RdS.idx (OS.rd how12_3_0) sl56, RdS.cellN (OS.rd how12_3_0), RdS.cells (OS.rd how12_3_0), BoxAt.cell hb0_0, BoxAt.cell hb0_1, BoxAt.cell hbx5, RdS.len hrw12_2_0 sl56, RdS.idx hrw12_2_0 sl56, RdS.cellB hrw12_2_0 (Ext.pres xrw12_2_0), RdS.cells hrw12_2_0, wrap_id]
          refine hK _ _ ?_
          clear hK K
          refine den_block ?_
          refine den_sel [9, 1, 2, 4, 5, 7, 8] ?_
          intro env_18
          simp only [go_sem]
          refine den_loopS (σ := Nat × List Nat) (fun st_ => [(9, .int .i64 (st_.1 : Int))]) (fun st_ H => (st_.1 ≤ (mapP X (n : Int)).length) ∧ (O2 H vw12_3_0 (mix (sclRows X.p (shS k) (mapP X (n : Int))) (mapP X (n : Int)) st_.1) st_.2) ∧ (Fresh (h12_2.size) st_.2) ∧ (Sub fw12_3_0 h12_3.size st_.2) ∧ (Chg fw12_3_0 h12_3 H)) (fun st_ => (mapP X (n : Int)).length - st_.1) (0, fw12_3_0) ?_ ?_
          · exact ⟨by first | (simp; done) | (dsimp only; omega) | (simp; omega), by rw [mix_zero]; exact how12_3_0, hfw12_3_0, Sub.refl, Chg.refl _ _⟩
          · rintro ⟨i, fphR⟩ h21 ee20 ⟨hi0, hR, hfhR, sbhR, cL19⟩
            dsimp only at hi0 hR hfhR sbhR cL19
            replace hM2 := OS.chg hM2 cL19 (apart_lt hlhM2 hfw12_3_0 (by omega))
            replace ho11_8 := OS.chg ho11_8 cL19 (apart_lt hlho11_8 hfw12_3_0 (by omega))
            replace hb0_0 := BoxAt.chgA hb0_0 cL19 (apart_lt hlhb0_0 hfw12_3_0 (by omega))
            replace hb0_1 := BoxAt.chgA hb0_1 cL19 (apart_lt hlhb0_1 hfw12_3_0 (by omega))
            replace hbx5 := BoxAt.chgA hbx5 cL19 (apart_lt hlhbx5 hfw12_3_0 (by omega))
            have := cL19.size
            replace eB := Ext.then eB cL19 (ge_of hfw12_3_0 (by omega))
            replace xrw12_2_0 := Ext.then xrw12_2_0 cL19 (ge_of hfw12_3_0 (by omega))
            replace cL12 := Chg.step cL12 cL19 (Sub.fresh hfw12_3_0 (by omega))
            have hlhR := OS.lt hR
            simp only [List.cons_append, List.nil_append]
            have hmx0 := mix_len (sclRows X.p (shS k) (mapP X (n : Int))) (mapP X (n : Int)) i (sclRows_len _ _ _)
            refine den_seq ?_
            refine den_seq ?_
            refine den_region TTok ?_
            intro K hK
            simp -implicitDefEqProofs (disch := first | decide | assumption | omega) only [go_sem, RdS.len hdX sl22, RdS.idx hdX sl22, R1.intB hdX (Ext.pres eB), RdS.cells hdX, RdS.len hmX sl23, RdS.idx hmX sl23, RdS.cellB hmX (Ext.pres eB), RdS.cells hmX, RdS.len (OS.rd hM2) sl23, RdS.idx (OS.rd hM2) sl23, RdS.cellN (OS.rd hM2), RdS.cells (OS.rd hM2), RdS.len (OS.rd ho11_8) sl22, RdS.idx (OS.rd ho11_8) sl22, R1.intN (OS.rd ho11_8), RdS.cells (OS.rd ho11_8), RdS.len (OS.rd hR) sl56, RdS.idx (OS.rd hR) sl56, RdS.cellN (OS.rd hR), RdS.cells (OS.rd hR), BoxAt.cell hb0_0, BoxAt.cell hb0_1, BoxAt.cell hbx5, RdS.len hrw12_2_0 sl56, RdS.idx hrw12_2_0 sl56, RdS.cellB hrw12_2_0 (Ext.pres xrw12_2_0), RdS.cells hrw12_2_0, wrap_id]
            refine hK _ _ ?_
            clear hK K
            refine den_cond rfl (fun c3 => ?_) (fun c3 => ?_)
            · try simp only [decide_eq_true_eq, decide_eq_false_iff_not, beq_iff_eq, beq_eq_false_iff_ne, bne_iff_ne, ne_eq, Bool.not_eq_true', Bool.not_eq_false', Bool.and_eq_true, Bool.or_eq_true, bne_eq_false_iff_eq] at c3
              refine den_skip ?_
              refine den_seq ?_
              refine den_block ?_
              have hmx := mix_len (sclRows X.p (shS k) (mapP X (n : Int))) (mapP X (n : Int)) i (sclRows_len _ _ _)
              have hmg := mix_get (sclRows X.p (shS k) (mapP X (n : Int))) (mapP X (n : Int)) i default (sclRows_len _ _ _) (by omega)
              have hrw := hmo.2.at (k := i) (by omega)
              have hgl : ((mix (sclRows X.p (shS k) (mapP X (n : Int))) (mapP X (n : Int)) i).getD i default).length = ((mapP X (n : Int)).getD i default).length := by rw [hmg]
              have hls : (List.replicate ((((mix (sclRows X.p (shS k) (mapP X (n : Int))) (mapP X (n : Int)) i).getD i default).length : Int)).toNat (0 : Int)).length ≤ ((mix (sclRows X.p (shS k) (mapP X (n : Int))) (mapP X (n : Int)) i).getD i default).length ∧ (List.replicate ((((mix (sclRows X.p (shS k) (mapP X (n : Int))) (mapP X (n : Int)) i).getD i default).length : Int)).toNat (0 : Int)).length ≤ 1000 := by rw [List.length_replicate]; omega
              have hls := And.intro hls (And.intro (show Bnd X.p (List.replicate ((((mix (sclRows X.p (shS k) (mapP X (n : Int))) (mapP X (n : Int)) i).getD i default).length : Int)).toNat (0 : Int)) from Bnd.zeros hpb.1 _) (show Bnd X.p ((mix (sclRows X.p (shS k) (mapP X (n : Int))) (mapP X (n : Int)) i).getD i default) by rw [hmg]; exact hrw.2))
              refine den_draw TTok mixed [20] [(0, true), (1, true), (2, true), (3, true), (4, true), (5, true), (6, true), (7, true), (8, true), (10, true), (11, true), (12, true), (13, true), (14, true), (15, true), (16, true), (17, true), (9, false), (18, false), (19, true), (20, false)] (by kernel_rfl) ?_
              intro K hK
              have hr22 := RdS.rowN (OS.rd hR) i (by omega)
              have hlhr22 := RdS.le hr22
              have xr23 := Ext.refl h21
              have hr24 := RdS.rowN (OS.rd hR) i (by omega)
              have hlhr24 := RdS.le hr24
              have xr25 := Ext.refl h21
              simp -implicitDefEqProofs (disch := first | decide | assumption | omega) only [go_sem, fa30_0, ld22, ld2, RdS.len hdX sl22, RdS.idx hdX sl22, R1.intB hdX (Ext.pres eB), RdS.cells hdX, RdS.len hmX sl23, RdS.idx hmX sl23, RdS.cellB hmX (Ext.pres eB), RdS.cells hmX, RdS.len (OS.rd hM2) sl23, RdS.idx (OS.rd hM2) sl23, RdS.cellN (OS.rd hM2), RdS.cells (OS.rd hM2), RdS.len (OS.rd ho11_8) sl22, RdS.idx (OS.rd ho11_8) sl22, R1.intN (OS.rd ho11_8), RdS.cells (OS.rd ho11_8), RdS.len (OS.rd hR) sl56, RdS.idx (OS.rd hR) sl56, RdS.cellN (OS.rd hR), RdS.cells (OS.rd hR), BoxAt.cell hb0_0, BoxAt.cell hb0_1, BoxAt.cell hbx5, RdS.len hrw12_2_0 sl56, RdS.idx hrw12_2_0 sl56, RdS.cellB hrw12_2_0 (Ext.pres xrw12_2_0), RdS.cells hrw12_2_0, RdS.len hr22 sl22, RdS.idx hr22 sl22, R1.intB hr22 (Ext.pres xr23), RdS.cells hr22, RdS.len hr24 sl22, RdS.idx hr24 sl22, R1.intB hr24 (Ext.pres xr25), RdS.cells hr24, wrap_id]
              refine op_make sz22 rfl rfl (by omega) (by omega) OI 0 (fun _ => ⟨rfl, rfl⟩) ?_
              intro v16_9 h16_9 ho16_9 e16_9
              replace hM2 := OS.ext hM2 e16_9
              replace ho11_8 := OS.ext ho11_8 e16_9
              replace hR := OS.ext hR e16_9
              replace hb0_0 := BoxAt.ext hb0_0 e16_9
              replace hb0_1 := BoxAt.ext hb0_1 e16_9
              replace hbx5 := BoxAt.ext hbx5 e16_9
              have := Ext.size e16_9
              replace eB := Ext.trans eB e16_9
              replace xrw12_2_0 := Ext.trans xrw12_2_0 e16_9
              replace xr23 := Ext.trans xr23 e16_9
              replace xr25 := Ext.trans xr25 e16_9
              replace cL12 := Chg.stepE cL12 e16_9
              replace cL19 := Chg.stepE cL19 e16_9
              have hfho16_9 : Fresh h21.size [h21.size] := Fresh.one _
              have hlenho16_9 : (List.replicate ((((mix (sclRows X.p (shS k) (mapP X (n : Int))) (mapP X (n : Int)) i).getD i default).length : Int)).toNat (0 : Int)).length = ((((mix (sclRows X.p (shS k) (mapP X (n : Int))) (mapP X (n : Int)) i).getD i default).length : Int)).toNat := List.length_replicate
              have hlho16_9 := OS.lt ho16_9
              try simp (disch := decide) only [outv_some, outv_none, put_puts]
              refine plK_pres (Ext.pres e16_9) ?_
              try simp -implicitDefEqProofs (disch := first | decide | assumption | omega) only [go_sem, RdS.len hdX sl22, RdS.idx hdX sl22, R1.intB hdX (Ext.pres eB), RdS.cells hdX, RdS.len hmX sl23, RdS.idx hmX sl23, RdS.cellB hmX (Ext.pres eB), RdS.cells hmX, RdS.len (OS.rd hM2) sl23, RdS.idx (OS.rd hM2) sl23, RdS.cellN (OS.rd hM2), RdS.cells (OS.rd hM2), RdS.len (OS.rd ho11_8) sl22, RdS.idx (OS.rd ho11_8) sl22, R1.intN (OS.rd ho11_8), RdS.cells (OS.rd ho11_8), RdS.len (OS.rd hR) sl56, RdS.idx (OS.rd hR) sl56, RdS.cellN (OS.rd hR), RdS.cells (OS.rd hR), RdS.len (OS.rd ho16_9) sl22, RdS.idx (OS.rd ho16_9) sl22, R1.intN (OS.rd ho16_9), RdS.cells (OS.rd ho16_9), BoxAt.cell hb0_0, BoxAt.cell hb0_1, BoxAt.cell hbx5, RdS.len hrw12_2_0 sl56, RdS.idx hrw12_2_0 sl56, RdS.cellB hrw12_2_0 (Ext.pres xrw12_2_0), RdS.cells hrw12_2_0, RdS.len hr22 sl22, RdS.idx hr22 sl22, R1.intB hr22 (Ext.pres xr23), RdS.cells hr22, RdS.len hr24 sl22, RdS.idx hr24 sl22, R1.intB hr24 (Ext.pres xr25), RdS.cells hr24, wrap_id]
              try simp -implicitDefEqProofs (disch := first | decide | assumption | omega) only [go_sem, RdS.len hdX sl22, RdS.idx hdX sl22, R1.intB hdX (Ext.pres eB), RdS.cells hdX, RdS.len hmX sl23, RdS.idx hmX sl23, RdS.cellB hmX (Ext.pres eB), RdS.cells hmX, RdS.len (OS.rd hM2) sl23, RdS.idx (OS.rd hM2) sl23, RdS.cellN (OS.rd hM2), RdS.cells (OS.rd hM2), RdS.len (OS.rd ho11_8) sl22, RdS.idx (OS.rd ho11_8) sl22, R1.intN (OS.rd ho11_8), RdS.cells (OS.rd ho11_8), RdS.len (OS.rd hR) sl56, RdS.idx (OS.rd hR) sl56, RdS.cellN (OS.rd hR), RdS.cells (OS.rd hR), RdS.len (OS.rd ho16_9) sl22, RdS.idx (OS.rd ho16_9) sl22, R1.intN (OS.rd ho16_9), RdS.cells (OS.rd ho16_9), BoxAt.cell hb0_0, BoxAt.cell hb0_1, BoxAt.cell hbx5, RdS.len hrw12_2_0 sl56, RdS.idx hrw12_2_0 sl56, RdS.cellB hrw12_2_0 (Ext.pres xrw12_2_0), RdS.cells hrw12_2_0, RdS.len hr22 sl22, RdS.idx hr22 sl22, R1.intB hr22 (Ext.pres xr23), RdS.cells hr22, RdS.len hr24 sl22, RdS.idx hr24 sl22, R1.intB hr24 (Ext.pres xr25), RdS.cells hr24, wrap_id]
              refine CallA.mono (sLess_ok _ _ X.p (List.replicate ((((mix (sclRows X.p (shS k) (mapP X (n : Int))) (mapP X (n : Int)) i).getD i default).length : Int)).toNat 0) ((mix (sclRows X.p (shS k) (mapP X (n : Int))) (mapP X (n : Int)) i).getD i default) (((2 : Int) * (Int.tmod k (2 : Int))) - (1 : Int)) _ (OS.rd ho16_9) (RdS.pres hr24 (Ext.pres xr25)) (by omega) hls.1 hls.2.1 hls.2.2 (by omega)) ?_
              intro vw16_18_0 h16_18
              rintro ⟨zvw16_18_0, fw16_18_0, rfl, how16_18_0, hfw16_18_0, e16_18⟩
              replace hM2 := OS.ext hM2 e16_18
              replace ho11_8 := OS.ext ho11_8 e16_18
              replace hR := OS.ext hR e16_18
              replace ho16_9 := OS.ext ho16_9 e16_18
              replace hb0_0 := BoxAt.ext hb0_0 e16_18
              replace hb0_1 := BoxAt.ext hb0_1 e16_18
              replace hbx5 := BoxAt.ext hbx5 e16_18
              have := Ext.size e16_18
              replace eB := Ext.trans eB e16_18
              replace xrw12_2_0 := Ext.trans xrw12_2_0 e16_18
              replace xr23 := Ext.trans xr23 e16_18
              replace xr25 := Ext.trans xr25 e16_18
              replace cL12 := Chg.stepE cL12 e16_18
              replace cL19 := Chg.stepE cL19 e16_18
              have hlhow16_18_0 := OS.lt how16_18_0
              try simp (disch := decide) only [outv_some, outv_none, put_puts]
              refine plK_pres (Ext.pres e16_18) ?_
              try simp -implicitDefEqProofs (disch := first | decide | assumption | omega) only [go_sem, RdS.len hdX sl22, RdS.idx hdX sl22, R1.intB hdX (Ext.pres eB), RdS.cells hdX, RdS.len hmX sl23, RdS.idx hmX sl23, RdS.cellB hmX (Ext.pres eB), RdS.cells hmX, RdS.len (OS.rd hM2) sl23, RdS.idx (OS.rd hM2) sl23, RdS.cellN (OS.rd hM2), RdS.cells (OS.rd hM2), RdS.len (OS.rd ho11_8) sl22, RdS.idx (OS.rd ho11_8) sl22, R1.intN (OS.rd ho11_8), RdS.cells (OS.rd ho11_8), RdS.len (OS.rd hR) sl56, RdS.idx (OS.rd hR) sl56, RdS.cellN (OS.rd hR), RdS.cells (OS.rd hR), RdS.len (OS.rd ho16_9) sl22, RdS.idx (OS.rd ho16_9) sl22, R1.intN (OS.rd ho16_9), RdS.cells (OS.rd ho16_9), RdS.len (OS.rd how16_18_0) sl22, RdS.idx (OS.rd how16_18_0) sl22, R1.intN (OS.rd how16_18_0), RdS.cells (OS.rd how16_18_0), BoxAt.cell hb0_0, BoxAt.cell hb0_1, BoxAt.cell hbx5, RdS.len hrw12_2_0 sl56, RdS.idx hrw12_2_0 sl56, RdS.cellB hrw12_2_0 (Ext.pres xrw12_2_0), RdS.cells hrw12_2_0, RdS.len hr22 sl22, RdS.idx hr22 sl22, R1.intB hr22 (Ext.pres xr23), RdS.cells hr22, RdS.len hr24 sl22, RdS.idx hr24 sl22, R1.intB hr24 (Ext.pres xr25), RdS.cells hr24, wrap_id]
              refine op_put (j := i) st22 hR hfhR.nodup (by first | omega | (simp; omega)) how16_18_0 hfw16_18_0.nodup (apart_lt hlhR hfw16_18_0 (by omega)) rfl rfl ?_
              intro h16_20 fp16_20 ho16_20 hn16_20 hs16_20 c16_20
              have hsz16_20 := c16_20.size
              replace hs16_20 : ∀ b ∈ fp16_20, b ∈ fphR ∨ b ∈ fw16_18_0 ∨ h16_18.size ≤ b := fun b hb => (hs16_20 b hb).elim .inl (fun h => .inr (.inl h))
              have hfho16_20 : Fresh h12_2.size fp16_20 := Fresh.appd hfhR hfw16_18_0 (by omega) (by omega) hn16_20 hs16_20
              have sb26 : Sub fw12_3_0 h12_3.size fp16_20 := Sub.grow sbhR (Sub.fresh hfw16_18_0 (by omega)) (by omega) hs16_20
              replace hM2 := OS.chg hM2 c16_20 (apart_lt hlhM2 hfhR (by omega))
              replace ho11_8 := OS.chg ho11_8 c16_20 (apart_lt hlho11_8 hfhR (by omega))
              replace ho16_9 := OS.chg ho16_9 c16_20 (apart_gt hfho16_9 hlhR (by omega))
              replace hb0_0 := BoxAt.chgA hb0_0 c16_20 (apart_lt hlhb0_0 hfhR (by omega))
              replace hb0_1 := BoxAt.chgA hb0_1 c16_20 (apart_lt hlhb0_1 hfhR (by omega))
              replace hbx5 := BoxAt.chgA hbx5 c16_20 (apart_lt hlhbx5 hfhR (by omega))
              have := c16_20.size
              replace eB := Ext.then eB c16_20 (ge_of hfhR (by omega))
              replace xrw12_2_0 := Ext.then xrw12_2_0 c16_20 (ge_of hfhR (by omega))
              replace cL12 := Chg.step cL12 c16_20 (Sub.fresh hfhR (by omega))
              replace cL19 := Chg.step cL19 c16_20 sbhR
              have ap27 : Apart [h21.size] fp16_20 := Apart.grow hlho16_9 (by omega) (apart_gt hfho16_9 hlhR (by omega)) (apart_lt hlho16_9 hfw16_18_0 (by omega)) hs16_20
              have hlho16_20 := OS.lt ho16_20
              have hlenho16_20 : ((mix (sclRows X.p (shS k) (mapP X (n : Int))) (mapP X (n : Int)) i).set i (lessRow X.p (((2 : Int) * (Int.tmod k (2 : Int))) - (1 : Int)) (List.replicate ((((mix (sclRows X.p (shS k) (mapP X (n : Int))) (mapP X (n : Int)) i).getD i default).length : Int)).toNat 0) ((mix (sclRows X.p (shS k) (mapP X (n : Int))) (mapP X (n : Int)) i).getD i default)) : List (List Int)).length = (mix (sclRows X.p (shS k) (mapP X (n : Int))) (mapP X (n : Int)) i : List (List Int)).length := List.length_set
              try simp (disch := decide) only [outv_some, outv_none, put_puts]
              refine plK_last (by decide) ?_
              try simp -implicitDefEqProofs (disch := first | decide | assumption | omega) only [go_sem, RdS.len hdX sl22, RdS.idx hdX sl22, R1.intB hdX (Ext.pres eB), RdS.cells hdX, RdS.len hmX sl23, RdS.idx hmX sl23, RdS.cellB hmX (Ext.pres eB), RdS.cells hmX, RdS.len (OS.rd hM2) sl23, RdS.idx (OS.rd hM2) sl23, RdS.cellN (OS.rd hM2), RdS.cells (OS.rd hM2), RdS.len (OS.rd ho11_8) sl22, RdS.idx (OS.rd ho11_8) sl22, R1.intN (OS.rd ho11_8), RdS.cells (OS.rd ho11_8), RdS.len (OS.rd ho16_9) sl22, RdS.idx (OS.rd ho16_9) sl22, R1.intN (OS.rd ho16_9), RdS.cells (OS.rd ho16_9), RdS.len (OS.rd ho16_20) sl56, RdS.idx (OS.rd ho16_20) sl56, RdS.cellN (OS.rd ho16_20), RdS.cells (OS.rd ho16_20), BoxAt.cell hb0_0, BoxAt.cell hb0_1, BoxAt.cell hbx5, RdS.len hrw12_2_0 sl56, RdS.idx hrw12_2_0 sl56, RdS.cellB hrw12_2_0 (Ext.pres xrw12_2_0), RdS.cells hrw12_2_0, wrap_id]
              refine hK _ _ ?_
              clear hK K
              refine den_blk ?_
              refine den_region TTok ?_
              intro K hK
              simp -implicitDefEqProofs (disch := first | decide | assumption | omega) only [go_sem, RdS.len hdX sl22, RdS.idx hdX sl22, R1.intB hdX (Ext.pres eB), RdS.cells hdX, RdS.len hmX sl23, RdS.idx hmX sl23, RdS.cellB hmX (Ext.pres eB), RdS.cells hmX, RdS.len (OS.rd hM2) sl23, RdS.idx (OS.rd hM2) sl23, RdS.cellN (OS.rd hM2), RdS.cells (OS.rd hM2), RdS.len (OS.rd ho11_8) sl22, RdS.idx (OS.rd ho11_8) sl22, R1.intN (OS.rd ho11_8), RdS.cells (OS.rd ho11_8), RdS.len (OS.rd ho16_20) sl56, RdS.idx (OS.rd ho16_20) sl56, RdS.cellN (OS.rd ho16_20), RdS.cells (OS.rd ho16_20), BoxAt.cell hb0_0, BoxAt.cell hb0_1, BoxAt.cell hbx5, RdS.len hrw12_2_0 sl56, RdS.idx hrw12_2_0 sl56, RdS.cellB hrw12_2_0 (Ext.pres xrw12_2_0), RdS.cells hrw12_2_0, wrap_id]
              refine hK _ _ ?_
              clear hK K
              refine den_stop ?_
              rw [lessRow_zero (by omega), hmg, show -(2 * k.tmod 2 - 1) = shS k by unfold shS; omega, ← sclRows_get _ _ (by omega), mix_set _ _ _ _ (sclRows_len _ _ _) (by omega)] at ho16_20
              exact ⟨(i + 1, fp16_20), by simp [HasL, puts_at], ⟨by first | omega | (dsimp only; omega), ho16_20, hfho16_20, sb26, cL19⟩, by first | omega | (dsimp only; omega)⟩
            · try simp only [decide_eq_true_eq, decide_eq_false_iff_not, beq_iff_eq, beq_eq_false_iff_ne, bne_iff_ne, ne_eq, Bool.not_eq_true', Bool.not_eq_false', Bool.and_eq_true, Bool.or_eq_true, bne_eq_false_iff_eq] at c3
              refine den_exit ?_
              refine denX_code ?_
              refine denX_stop ?_
              refine denX_hit ?_
              refine den_seq ?_
              refine den_region TTok ?_
              intro K hK
              simp -implicitDefEqProofs (disch := first | decide | assumption | omega) only [go_sem, RdS.len hdX sl22, RdS.idx hdX sl22, R1.intB hdX (Ext.pres eB), RdS.cells hdX, RdS.len hmX sl23, RdS.idx hmX sl23, RdS.cellB hmX (Ext.pres eB), RdS.cells hmX, RdS.len (OS.rd hM2) sl23, RdS.idx (OS.rd hM2) sl23, RdS.cellN (OS.rd hM2), RdS.cells (OS.rd hM2), RdS.len (OS.rd ho11_8) sl22, RdS.idx (OS.rd ho11_8) sl22, R1.intN (OS.rd ho11_8), RdS.cells (OS.rd ho11_8), RdS.len (OS.rd hR) sl56, RdS.idx (OS.rd hR) sl56, RdS.cellN (OS.rd hR), RdS.cells (OS.rd hR), BoxAt.cell hb0_0, BoxAt.cell hb0_1, BoxAt.cell hbx5, RdS.len hrw12_2_0 sl56, RdS.idx hrw12_2_0 sl56, RdS.cellB hrw12_2_0 (Ext.pres xrw12_2_0), RdS.cells hrw12_2_0, wrap_id]
              refine hK _ _ ?_
              clear hK K
              refine den_cond rfl (fun c4 => ?_) (fun c4 => ?_)
              · try simp only [decide_eq_true_eq, decide_eq_false_iff_not, beq_iff_eq, beq_eq_false_iff_ne, bne_iff_ne, ne_eq, Bool.not_eq_true', Bool.not_eq_false', Bool.and_eq_true, Bool.or_eq_true, bne_eq_false_iff_eq] at c4
                have hl3 : ((List.range (k.toNat + n - 1)).map fun q : Nat => shAt X k q).length = k.toNat + n - 1 := by simp
                refine den_region TTok ?_
                intro K hK
                simp -implicitDefEqProofs (disch := first | decide | assumption | omega) only [go_sem, fa30_2, ld23, RdS.len hdX sl22, RdS.idx hdX sl22, R1.intB hdX (Ext.pres eB), RdS.cells hdX, RdS.len hmX sl23, RdS.idx hmX sl23, RdS.cellB hmX (Ext.pres eB), RdS.cells hmX, RdS.len (OS.rd hM2) sl23, RdS.idx (OS.rd hM2) sl23, RdS.cellN (OS.rd hM2), RdS.cells (OS.rd hM2), RdS.len (OS.rd ho11_8) sl22, RdS.idx (OS.rd ho11_8) sl22, R1.intN (OS.rd ho11_8), RdS.cells (OS.rd ho11_8), RdS.len (OS.rd hR) sl56, RdS.idx (OS.rd hR) sl56, RdS.cellN (OS.rd hR), RdS.cells (OS.rd hR), BoxAt.cell hb0_0, BoxAt.cell hb0_1, BoxAt.cell hbx5, RdS.len hrw12_2_0 sl56, RdS.idx hrw12_2_0 sl56, RdS.cellB hrw12_2_0 (Ext.pres xrw12_2_0), RdS.cells hrw12_2_0, wrap_id]
                refine op_bs1 sz23 rfl (OS.one hR).2 ?_
                try simp -implicitDefEqProofs (disch := first | decide | assumption | omega) only [go_sem, RdS.len hdX sl22, RdS.idx hdX sl22, R1.intB hdX (Ext.pres eB), RdS.cells hdX, RdS.len hmX sl23, RdS.idx hmX sl23, RdS.cellB hmX (Ext.pres eB), RdS.cells hmX, RdS.len (OS.rd hM2) sl23, RdS.idx (OS.rd hM2) sl23, RdS.cellN (OS.rd hM2), RdS.cells (OS.rd hM2), RdS.len (OS.rd ho11_8) sl22, RdS.idx (OS.rd ho11_8) sl22, R1.intN (OS.rd ho11_8), RdS.cells (OS.rd ho11_8), RdS.len (OS.rd hR) sl56, RdS.idx (OS.rd hR) sl56, RdS.cellN (OS.rd hR), RdS.cells (OS.rd hR), BoxAt.cell hb0_0, BoxAt.cell hb0_1, BoxAt.cell hbx5, RdS.len hrw12_2_0 sl56, RdS.idx hrw12_2_0 sl56, RdS.cellB hrw12_2_0 (Ext.pres xrw12_2_0), RdS.cells hrw12_2_0, wrap_id]
                refine op_append1 sz23 hM2 hfhM2.nodup hR hfhR.nodup (apart_lt hlhM2 hfhR (by omega)) (by first | omega | (simp; omega)) rfl rfl ?_
                intro v18_4 h18_4 fp18_4 ho18_4 hn18_4 hs18_4 c18_4
                have hsz18_4 := c18_4.size
                have hfho18_4 : Fresh h1_2.size fp18_4 := Fresh.appd hfhM2 hfhR (by omega) (by omega) hn18_4 hs18_4
                have sb28 : Sub (fphD ++ (fphM ++ ([h1_3.size]))) h4.size fp18_4 := Sub.grow sbhM2 (Sub.fresh hfhR (by omega)) (by omega) hs18_4
                replace ho11_8 := OS.chg ho11_8 c18_4 (Apart.symm ap16)
                replace hb0_0 := BoxAt.chgA hb0_0 c18_4 (apart_lt hlhb0_0 hfhM2 (by omega))
                replace hb0_1 := BoxAt.chgA hb0_1 c18_4 (apart_lt hlhb0_1 hfhM2 (by omega))
                replace hbx5 := BoxAt.chgA hbx5 c18_4 (Apart.symm ap_hM2_hbx5)
                have := c18_4.size
                replace eB := Ext.then eB c18_4 (ge_of hfhM2 (by omega))
                replace cL12 := Chg.step cL12 c18_4 sbhM2
                have ap29 : Apart fp11_8 fp18_4 := Apart.grow hlho11_8 (by omega) (Apart.symm ap16) (apart_lt hlho11_8 hfhR (by omega)) hs18_4
                have ap30 : Apart [h1_3.size] fp18_4 := Apart.grow hlhbx5 (by omega) (Apart.symm ap_hM2_hbx5) (apart_lt hlhbx5 hfhR (by omega)) hs18_4
                have hlho18_4 := OS.lt ho18_4
                try simp -implicitDefEqProofs (disch := first | decide | assumption | omega) only [go_sem, fa30_2, RdS.len hdX sl22, RdS.idx hdX sl22, R1.intB hdX (Ext.pres eB), RdS.cells hdX, RdS.len hmX sl23, RdS.idx hmX sl23, RdS.cellB hmX (Ext.pres eB), RdS.cells hmX, RdS.len (OS.rd ho11_8) sl22, RdS.idx (OS.rd ho11_8) sl22, R1.intN (OS.rd ho11_8), RdS.cells (OS.rd ho11_8), RdS.len (OS.rd ho18_4) sl23, RdS.idx (OS.rd ho18_4) sl23, RdS.cellN (OS.rd ho18_4), RdS.cells (OS.rd ho18_4), BoxAt.cell hb0_0, BoxAt.cell hb0_1, BoxAt.cell hbx5, wrap_id]
                refine op_storeB (cs' := #[.int .i64 (X.p), v11_8, v18_4]) st23 hbx5 rfl (OS.one ho18_4).2 rfl (by simp) (allOne_mem (l := [v18_4]) ⟨(OS.one ho18_4).1, trivial⟩) rfl ?_
                intro h18_6 hbx5 c18_6
                replace ho11_8 := OS.chg ho11_8 c18_6 (Apart.symm ap17)
                replace ho18_4 := OS.chg ho18_4 c18_6 (Apart.symm ap30)
                replace hb0_0 := BoxAt.chgA hb0_0 c18_6 (apart_lt hlhb0_0 hfhbx5 (by omega))
                replace hb0_1 := BoxAt.chgA hb0_1 c18_6 (apart_lt hlhb0_1 hfhbx5 (by omega))
                have := c18_6.size
                replace eB := Ext.then eB c18_6 (ge_of hfhbx5 (by omega))
                replace cL12 := Chg.step cL12 c18_6 (Sub.right (Sub.right Sub.refl))
                try simp -implicitDefEqProofs (disch := first | decide | assumption | omega) only [go_sem, RdS.len hdX sl22, RdS.idx hdX sl22, R1.intB hdX (Ext.pres eB), RdS.cells hdX, RdS.len hmX sl23, RdS.idx hmX sl23, RdS.cellB hmX (Ext.pres eB), RdS.cells hmX, RdS.len (OS.rd ho11_8) sl22, RdS.idx (OS.rd ho11_8) sl22, R1.intN (OS.rd ho11_8), RdS.cells (OS.rd ho11_8), RdS.len (OS.rd ho18_4) sl23, RdS.idx (OS.rd ho18_4) sl23, RdS.cellN (OS.rd ho18_4), RdS.cells (OS.rd ho18_4), BoxAt.cell hb0_0, BoxAt.cell hb0_1, BoxAt.cell hbx5, wrap_id]
                refine hK _ _ ?_
                clear hK K
                refine den_blk ?_
                refine den_region TTok ?_
                intro K hK
                simp -implicitDefEqProofs (disch := first | decide | assumption | omega) only [go_sem, RdS.len hdX sl22, RdS.idx hdX sl22, R1.intB hdX (Ext.pres eB), RdS.cells hdX, RdS.len hmX sl23, RdS.idx hmX sl23, RdS.cellB hmX (Ext.pres eB), RdS.cells hmX, RdS.len (OS.rd ho11_8) sl22, RdS.idx (OS.rd ho11_8) sl22, R1.intN (OS.rd ho11_8), RdS.cells (OS.rd ho11_8), RdS.len (OS.rd ho18_4) sl23, RdS.idx (OS.rd ho18_4) sl23, RdS.cellN (OS.rd ho18_4), RdS.cells (OS.rd ho18_4), BoxAt.cell hb0_0, BoxAt.cell hb0_1, BoxAt.cell hbx5, wrap_id]
                refine hK _ _ ?_
                clear hK K
                refine den_stop ?_
                rw [List.append_assoc, take_stepA (by omega)] at ho11_8
                first | rw [sh_stepA (by omega) (by omega) (show mix (sclRows X.p (shS k) (mapP X (n : Int))) (mapP X (n : Int)) i = sclRows X.p (shS k) (mapP X (n : Int)) from mix_end _ _ _ (sclRows_len _ _ _) (by omega))] at ho18_4 | rw [show k.toNat + n - 1 = k.toNat + (n + 1) - 1 by omega] at ho18_4
                exact ⟨(n + 1, v11_8, fp11_8, v18_4, fp18_4), by simp [HasL, puts_at], ⟨by first | omega | (dsimp only; omega), ho11_8, hfho11_8, sb15, ho18_4, hfho18_4, sb28, hbx5, ap29, (Apart.symm ap17), (Apart.symm ap30), cL12⟩, by first | omega | (dsimp only; omega)⟩
              · try simp only [decide_eq_true_eq, decide_eq_false_iff_not, beq_iff_eq, beq_eq_false_iff_ne, bne_iff_ne, ne_eq, Bool.not_eq_true', Bool.not_eq_false', Bool.and_eq_true, Bool.or_eq_true, bne_eq_false_iff_eq] at c4
                refine den_skip ?_
                refine den_blk ?_
                refine den_region TTok ?_
                intro K hK
                simp -implicitDefEqProofs (disch := first | decide | assumption | omega) only [go_sem, RdS.len hdX sl22, RdS.idx hdX sl22, R1.intB hdX (Ext.pres eB), RdS.cells hdX, RdS.len hmX sl23, RdS.idx hmX sl23, RdS.cellB hmX (Ext.pres eB), RdS.cells hmX, RdS.len (OS.rd hM2) sl23, RdS.idx (OS.rd hM2) sl23, RdS.cellN (OS.rd hM2), RdS.cells (OS.rd hM2), RdS.len (OS.rd ho11_8) sl22, RdS.idx (OS.rd ho11_8) sl22, R1.intN (OS.rd ho11_8), RdS.cells (OS.rd ho11_8), BoxAt.cell hb0_0, BoxAt.cell hb0_1, BoxAt.cell hbx5, RdS.len hrw12_2_0 sl56, RdS.idx hrw12_2_0 sl56, RdS.cellB hrw12_2_0 (Ext.pres xrw12_2_0), RdS.cells hrw12_2_0, wrap_id]
                refine hK _ _ ?_
                clear hK K
                refine den_stop ?_
                rw [List.append_assoc, take_stepA (by omega)] at ho11_8
                first | rw [sh_stepA (by omega) (by omega) (show mix (sclRows X.p (shS k) (mapP X (n : Int))) (mapP X (n : Int)) i = sclRows X.p (shS k) (mapP X (n : Int)) from mix_end _ _ _ (sclRows_len _ _ _) (by omega))] at hM2 | rw [show k.toNat + n - 1 = k.toNat + (n + 1) - 1 by omega] at hM2
                exact ⟨(n + 1, v11_8, fp11_8, vhM2, fphM2), by simp [HasL, puts_at], ⟨by first | omega | (dsimp only; omega), ho11_8, hfho11_8, sb15, hM2, hfhM2, sbhM2, hbx5, (Apart.symm ap16), (Apart.symm ap17), ap_hM2_hbx5, cL12⟩, by first | omega | (dsimp only; omega)⟩
        · try simp only [decide_eq_true_eq, decide_eq_false_iff_not, beq_iff_eq, beq_eq_false_iff_ne, bne_iff_ne, ne_eq, Bool.not_eq_true', Bool.not_eq_false', Bool.and_eq_true, Bool.or_eq_true, bne_eq_false_iff_eq] at c2
          refine den_exit ?_
          refine denX_code ?_
          refine denX_stop ?_
          refine denX_hit ?_
          refine den_seq ?_
          refine den_region TTok ?_
          intro K hK
          simp -implicitDefEqProofs (disch := first | decide | assumption | omega) only [go_sem, ld30, RdS.len hdX sl22, RdS.idx hdX sl22, R1.intB hdX (Ext.pres eB), RdS.cells hdX, RdS.len hmX sl23, RdS.idx hmX sl23, RdS.cellB hmX (Ext.pres eB), RdS.cells hmX, RdS.len (OS.rd hD2) sl22, RdS.idx (OS.rd hD2) sl22, R1.intN (OS.rd hD2), RdS.cells (OS.rd hD2), RdS.len (OS.rd hM2) sl23, RdS.idx (OS.rd hM2) sl23, RdS.cellN (OS.rd hM2), RdS.cells (OS.rd hM2), BoxAt.cell hb0_1, BoxAt.cell hbx5, wrap_id]
          refine op_storeB (cs' := #[.int .i64 (X.p), vhD2, vhM2]) st30 hb0_1 rfl rfl rfl (by simp) (allOne_mem (l := [.int .i64 (X.p), vhD2, vhM2]) ⟨rfl, (OS.one hD2).1, (OS.one hM2).1, trivial⟩) rfl ?_
          intro h19_1 hb0_1 c19_1
          replace hD2 := OS.chg hD2 c19_1 (apart_gt hfhD2 hlhb0_1 (by omega))
          replace hM2 := OS.chg hM2 c19_1 (apart_gt hfhM2 hlhb0_1 (by omega))
          replace hbx5 := BoxAt.chgA hbx5 c19_1 (apart_gt hfhbx5 hlhb0_1 (by omega))
          have := c19_1.size
          replace eB := Ext.then eB c19_1 (ge_of hfhb0_1 (by omega))
          try simp -implicitDefEqProofs (disch := first | decide | assumption | omega) only [go_sem, RdS.len hdX sl22, RdS.idx hdX sl22, R1.intB hdX (Ext.pres eB), RdS.cells hdX, RdS.len hmX sl23, RdS.idx hmX sl23, RdS.cellB hmX (Ext.pres eB), RdS.cells hmX, RdS.len (OS.rd hD2) sl22, RdS.idx (OS.rd hD2) sl22, R1.intN (OS.rd hD2), RdS.cells (OS.rd hD2), RdS.len (OS.rd hM2) sl23, RdS.idx (OS.rd hM2) sl23, RdS.cellN (OS.rd hM2), RdS.cells (OS.rd hM2), BoxAt.cell hb0_1, BoxAt.cell hbx5, wrap_id]
          refine hK _ _ ?_
          clear hK K
          refine den_ret ?_
          simp -implicitDefEqProofs (disch := first | decide | assumption | omega) only [go_sem, RdS.len hdX sl22, RdS.idx hdX sl22, R1.intB hdX (Ext.pres eB), RdS.cells hdX, RdS.len hmX sl23, RdS.idx hmX sl23, RdS.cellB hmX (Ext.pres eB), RdS.cells hmX, RdS.len (OS.rd hD2) sl22, RdS.idx (OS.rd hD2) sl22, R1.intN (OS.rd hD2), RdS.cells (OS.rd hD2), RdS.len (OS.rd hM2) sl23, RdS.idx (OS.rd hM2) sl23, RdS.cellN (OS.rd hM2), RdS.cells (OS.rd hM2), BoxAt.cell hb0_1, BoxAt.cell hbx5, wrap_id, resP_c1, ld30]
          have hD2 := hD2
          have hM2 := hM2
          rw [List.take_of_length_le (by omega)] at hD2
          rw [show k.toNat + n - 1 = X.dims.length + k.toNat - 1 by omega] at hM2
          exact ⟨_, _, _, _, rfl, hD2, hM2, Fresh.two hfhD2 hfhM2 ap_hD2_hM2 (by omega) (by omega), eB⟩

end Go.Proofs.Ytffggocjkhcgeaa
