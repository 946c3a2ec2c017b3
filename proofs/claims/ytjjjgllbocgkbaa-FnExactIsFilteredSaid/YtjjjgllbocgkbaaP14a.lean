/-
  Walks: two complexes side by side, plain.
  Conditions: each theorem's own.
-/
import Derived.Test.YtjjjgllbocgkbaaC5
set_option linter.unusedVariables false
set_option linter.unusedSimpArgs false
namespace Go.Proofs.Ytjjjgllbocgkbaa
open Go
theorem gA {α : Type} {l m : List α} {d : α} {n : Nat} (h : n < l.length) : (l ++ m).getD n d = l.getD n d := by rw [List.getD_eq_getElem?_getD, List.getElem?_append_left h, ← List.getD_eq_getElem?_getD]
theorem gB {α : Type} {l m : List α} {d : α} {n : Nat} (h : l.length ≤ n) : (l ++ m).getD n d = m.getD (n - l.length) d := by rw [List.getD_eq_getElem?_getD, List.getElem?_append_right h, ← List.getD_eq_getElem?_getD]
theorem gR {n j : Nat} : (List.replicate n (0 : Int)).getD j 0 = 0 := by
  rw [List.getD_eq_getElem?_getD, List.getElem?_replicate]; split <;> rfl
theorem gO {α : Type} {l : List α} {d : α} {n : Nat} (h : l.length ≤ n) : l.getD n d = d := by rw [List.getD_eq_getElem?_getD, List.getElem?_eq_none h]; rfl
theorem dimP_nat (X : Cx) (q : Nat) : dimP X (q : Int) = X.dims.getD q 0 := by
  by_cases h : q < X.dims.length
  · exact dimP_at h
  · rw [gO (by omega), dimP, if_neg (by rw [in3_iff]; omega)]
theorem dims_nat {X : Cx} (hC : IsC X) (q : Nat) : 0 ≤ X.dims.getD q 0 ∧ X.dims.getD q 0 ≤ 8 := by
  by_cases h : q < X.dims.length
  · exact dm_at hC.dm h
  · rw [gO (by omega)]; omega
theorem lens_nat {X : Cx} (hC : IsC X) (q : Nat) : (X.maps.getD q default).length = (X.dims.getD (q + 1) 0).toNat ∧ ∀ r, r < (X.maps.getD q default).length → ((X.maps.getD q default).getD r default).length = (X.dims.getD q 0).toNat := by
  have hm := hC.ml
  by_cases h : q < X.maps.length
  · have l := hC.lens h
    exact ⟨by omega, fun r hr => by have := l.2 r hr; omega⟩
  · rw [gO (show X.maps.length ≤ q by omega), gO (show X.dims.length ≤ q + 1 by omega)]
    exact ⟨rfl, fun r hr => by cases hr⟩
theorem mapP_nat {X : Cx} (q : Nat) (hm : (X.maps.length : Int) = X.dims.length - 1) : mapP X (((q + 1 : Nat)) : Int) = X.maps.getD q default := by
  unfold mapP
  by_cases h : q < X.maps.length
  · rw [if_pos (in3_iff.2 ⟨by omega, by omega⟩), show (((q + 1 : Nat) : Int) - 1).toNat = q by omega]
  · rw [if_neg (by rw [in3_iff]; omega), gO (by omega), dimP_nat, gO (by omega)]; rfl
def addN (X Y : Cx) : Nat := max X.dims.length Y.dims.length
def addD (X Y : Cx) : List Int := (List.range (addN X Y)).map fun q : Nat => dimP X (q : Int) + dimP Y (q : Int)
def addTop (X Y : Cx) (n r : Nat) : List Int := (mapP X (n : Int)).getD r default ++ List.replicate (dimP Y ((n : Int) - 1)).toNat 0
def addBot (X Y : Cx) (n r : Nat) : List Int := List.replicate (dimP X ((n : Int) - 1)).toNat 0 ++ (mapP Y (n : Int)).getD r default
def addRows (X Y : Cx) (n : Nat) : List (List Int) := (List.range (dimP X (n : Int)).toNat).map (fun q : Nat => addTop X Y n q) ++ (List.range (dimP Y (n : Int)).toNat).map (fun q : Nat => addBot X Y n q)
def addM (X Y : Cx) : M3 := (List.range (addN X Y - 1)).map fun q : Nat => addRows X Y (q + 1)
noncomputable def addP (X Y : Cx) : Cx × Int := if isC X = true ∧ isC Y = true then (if X.p = Y.p then (if (addD X Y).all (fun x => in3 x 0 8) = true then (⟨X.p, addD X Y, addM X Y⟩, 0) else (⟨0, [], []⟩, 3)) else (⟨0, [], []⟩, 2)) else (⟨0, [], []⟩, 1)
theorem addD_get (X Y : Cx) (q : Nat) : (addD X Y).getD q 0 = X.dims.getD q 0 + Y.dims.getD q 0 := by
  by_cases h : q < addN X Y
  · have e : (addD X Y).getD q 0 = dimP X (q : Int) + dimP Y (q : Int) := getD_map_range (α := Int) (fun q : Nat => dimP X (q : Int) + dimP Y (q : Int)) h
    rw [e, dimP_nat, dimP_nat]
  · unfold addN at h
    rw [gO (by simp [addD, addN]; omega), gO (by omega), gO (by omega)]; rfl
def addU1 : UF := fun k i j v => [((k, i, j), v)]
def addU2 (X : Cx) : UF := fun k i j v => [((k, i + (X.dims.getD (k + 1) 0).toNat, j + (X.dims.getD k 0).toNat), v)]
abbrev aA (X Y : Cx) : Nat → Nat := fun q => ((addD X Y).getD (q + 1) 0).toNat
abbrev aB (X Y : Cx) : Nat → Nat := fun q => ((addD X Y).getD q 0).toNat
theorem aA_eq {X Y : Cx} (hX : IsC X) (hY : IsC Y) (q : Nat) : aA X Y q = (X.dims.getD (q + 1) 0).toNat + (Y.dims.getD (q + 1) 0).toNat ∧ aB X Y q = (X.dims.getD q 0).toNat + (Y.dims.getD q 0).toNat := by
  have h1 := dims_nat hX q; have h2 := dims_nat hY q; have h3 := dims_nat hX (q + 1); have h4 := dims_nat hY (q + 1)
  show ((addD X Y).getD (q + 1) 0).toNat = _ ∧ ((addD X Y).getD q 0).toNat = _
  rw [addD_get, addD_get]; omega
theorem add_in1 {X Y : Cx} (hX : IsC X) (hY : IsC Y) {k i j : Nat} (hk : k < X.maps.length) (hi : i < (X.maps.getD k default).length) (hj : j < ((X.maps.getD k default).getD i default).length) : k < addN X Y - 1 ∧ i < aA X Y k ∧ j < aB X Y k := by
  have hm := hX.ml
  have l := lens_nat hX k; have l2 := l.2 i hi; have e := aA_eq hX hY k
  exact ⟨by unfold addN; omega, by omega, by omega⟩
theorem add_in2 {X Y : Cx} (hX : IsC X) (hY : IsC Y) {k i j : Nat} (hk : k < Y.maps.length) (hi : i < (Y.maps.getD k default).length) (hj : j < ((Y.maps.getD k default).getD i default).length) : k < addN X Y - 1 ∧ i + (X.dims.getD (k + 1) 0).toNat < aA X Y k ∧ j + (X.dims.getD k 0).toNat < aB X Y k := by
  have hm := hY.ml
  have l := lens_nat hY k; have l2 := l.2 i hi; have e := aA_eq hX hY k
  exact ⟨by unfold addN; omega, by omega, by omega⟩
theorem addRows_len {X Y : Cx} (q : Nat) : (addRows X Y (q + 1)).length = (X.dims.getD (q + 1) 0).toNat + (Y.dims.getD (q + 1) 0).toNat := by rw [addRows, List.length_append, List.length_map, List.length_range, List.length_map, List.length_range, dimP_nat, dimP_nat]
theorem addRows_top {X Y : Cx} (hX : IsC X) {q r : Nat} (h : r < (X.dims.getD (q + 1) 0).toNat) : (addRows X Y (q + 1)).getD r default = (X.maps.getD q default).getD r default ++ List.replicate (Y.dims.getD q 0).toNat 0 := by
  rw [addRows, gA (by rw [List.length_map, List.length_range, dimP_nat]; exact h), getD_map_range _ (by rw [dimP_nat]; exact h), addTop, mapP_nat q (by have := hX.ml; omega), show ((q + 1 : Nat) : Int) - 1 = (q : Nat) by omega, dimP_nat]
theorem addRows_bot {X Y : Cx} (hY : IsC Y) {q r : Nat} (h : (X.dims.getD (q + 1) 0).toNat ≤ r) (h2 : r < (X.dims.getD (q + 1) 0).toNat + (Y.dims.getD (q + 1) 0).toNat) : (addRows X Y (q + 1)).getD r default = List.replicate (X.dims.getD q 0).toNat 0 ++ (Y.maps.getD q default).getD (r - (X.dims.getD (q + 1) 0).toNat) default := by
  rw [addRows, gB (by rw [List.length_map, List.length_range, dimP_nat]; exact h), List.length_map, List.length_range, dimP_nat X (q + 1), getD_map_range _ (by rw [dimP_nat]; omega), addBot, mapP_nat q (by have := hY.ml; omega), show ((q + 1 : Nat) : Int) - 1 = (q : Nat) by omega, dimP_nat]
theorem addM_sh {X Y : Cx} (hX : IsC X) (hY : IsC Y) : Sh (addN X Y - 1) (aA X Y) (aB X Y) (addM X Y) := by
  refine ⟨by simp [addM], fun q hq => ?_, fun q r hq hr => ?_⟩
  · rw [addM, getD_map_range _ hq, addRows_len, (aA_eq hX hY q).1]
  · have e := aA_eq hX hY q
    have l := lens_nat hX q; have m := lens_nat hY q
    rw [addM, getD_map_range _ hq]
    by_cases h : r < (X.dims.getD (q + 1) 0).toNat
    · rw [addRows_top hX h, List.length_append, List.length_replicate, l.2 r (by omega)]; omega
    · rw [addRows_bot hY (by omega) (by omega), List.length_append, List.length_replicate, m.2 _ (by omega)]; omega
theorem add_u1 {X Y : Cx} (hX : IsC X) (hY : IsC Y) : ∀ k i j, k < X.maps.length → i < (X.maps.getD k default).length → j < ((X.maps.getD k default).getD i default).length → ∀ u ∈ addU1 k i j (((X.maps.getD k default).getD i default).getD j 0), InU (addN X Y - 1) (aA X Y) (aB X Y) u := fun k i j hk hi hj u hu => by
  rw [addU1, List.mem_singleton] at hu
  subst hu
  exact add_in1 hX hY hk hi hj
theorem add_u2 {X Y : Cx} (hX : IsC X) (hY : IsC Y) : ∀ k i j, k < Y.maps.length → i < (Y.maps.getD k default).length → j < ((Y.maps.getD k default).getD i default).length → ∀ u ∈ addU2 X k i j (((Y.maps.getD k default).getD i default).getD j 0), InU (addN X Y - 1) (aA X Y) (aB X Y) u := fun k i j hk hi hj u hu => by
  rw [addU2, List.mem_singleton] at hu
  subst hu
  exact add_in2 hX hY hk hi hj
theorem addD_len (X Y : Cx) : (addD X Y).length = addN X Y := by simp [addD]
theorem add_zb (X Y : Cx) {p : Int} (hp : 0 < p) : Sh (addN X Y - 1) (aA X Y) (aB X Y) (zblk (addD X Y) ((addD X Y).length - 1)) ∧ In3 p (addN X Y - 1) (aA X Y) (aB X Y) (zblk (addD X Y) ((addD X Y).length - 1)) := by
  rw [addD_len]
  exact ⟨zblk_sh _ _, fun k r c h1 h2 h3 => by rw [zblk_get _ _ h1 h2 h3]; omega⟩
def add1 (X Y : Cx) : M3 := applyU X.p (zblk (addD X Y) ((addD X Y).length - 1)) (uK addU1 X.maps X.maps.length)
theorem add1_sh {X Y : Cx} (hX : IsC X) (hY : IsC Y) : Sh (addN X Y - 1) (aA X Y) (aB X Y) (add1 X Y) ∧ In3 X.p (addN X Y - 1) (aA X Y) (aB X Y) (add1 X Y) := by
  have hp := isP_bnd hX.p
  have hz := add_zb X Y hp.1
  exact ⟨applyU_sh hz.1 (uK_all (add_u1 hX hY)), applyU_in hp.1 hz.1 hz.2 (uK_all (add_u1 hX hY))⟩
theorem add_eq {X Y : Cx} (hX : IsC X) (hY : IsC Y) (hpp : X.p = Y.p) : applyU X.p (add1 X Y) (uK (addU2 X) Y.maps Y.maps.length) = addM X Y := by
  have hp := isP_bnd hX.p
  have hz := add_zb X Y hp.1
  have h1s := add1_sh hX hY
  refine Sh.ext (applyU_sh h1s.1 (uK_all (add_u2 hX hY))) (addM_sh hX hY) (fun q r c h1 h2 h3 => ?_)
  rw [applyU_get hp.1 h1 h2 h3 h1s.1 h1s.2 (uK_all (add_u2 hX hY)), add1, applyU_get hp.1 h1 h2 h3 hz.1 hz.2 (uK_all (add_u1 hX hY))]
  rw [show get3 (zblk (addD X Y) ((addD X Y).length - 1)) q r c = 0 by rw [addD_len]; exact zblk_get _ _ h1 h2 h3, Int.zero_add]
  have e := aA_eq hX hY q
  have l := lens_nat hX q; have m := lens_nat hY q
  have hXm := hX.ml; have hYm := hY.ml
  have n1 : ∀ (h : ¬ (r < (X.dims.getD (q + 1) 0).toNat ∧ c < (X.dims.getD q 0).toNat)), sumT (q, r, c) (uK addU1 X.maps X.maps.length) = 0 := fun h => sumT_none (τ := fun k i j => (k, i, j)) (ω := fun _ _ _ v => v) (fun _ _ _ _ => rfl) (fun k hk i hi j hj e => by
    injection e with e1 e2
    injection e2 with e2 e3
    subst e1; subst e2; subst e3
    have := l.2 _ hi
    exact h ⟨by omega, by omega⟩)
  have n2 : ∀ (h : ¬ ((X.dims.getD (q + 1) 0).toNat ≤ r ∧ (X.dims.getD q 0).toNat ≤ c)), sumT (q, r, c) (uK (addU2 X) Y.maps Y.maps.length) = 0 := fun h => sumT_none (τ := fun k i j => (k, i + (X.dims.getD (k + 1) 0).toNat, j + (X.dims.getD k 0).toNat)) (ω := fun _ _ _ v => v) (fun _ _ _ _ => rfl) (fun k hk i hi j hj e => by
    injection e with e1 e2
    injection e2 with e2 e3
    subst e1
    exact h ⟨by omega, by omega⟩)
  rw [get3, addM, getD_map_range _ h1]
  by_cases hr : r < (X.dims.getD (q + 1) 0).toNat
  · rw [n2 (by omega), addRows_top hX hr, Int.add_zero]
    have hrl : r < (X.maps.getD q default).length := by omega
    by_cases hc : c < (X.dims.getD q 0).toNat
    · have hcl : c < ((X.maps.getD q default).getD r default).length := by have := l.2 r hrl; omega
      have hk : q < X.maps.length := by
        by_cases hk : q < X.maps.length
        · exact hk
        · rw [gO (show X.dims.length ≤ q + 1 by omega)] at hr; simp at hr
      have hb := hX.num hk hrl hcl
      rw [sumT_uK (U := addU1) (τ := fun k i j => (k, i, j)) (ω := fun _ _ _ v => v) (fun _ _ _ _ => rfl) (k0 := q) (i0 := r) (j0 := c) rfl X.maps.length (fun k _ i _ j _ e => by
        injection e with e1 e2
        injection e2 with e2 e3
        exact ⟨e1, e2, e3⟩) hrl hcl, if_pos hk, gA hcl, Int.emod_eq_of_lt hb.1 hb.2, Int.emod_eq_of_lt hb.1 hb.2]
    · rw [n1 (by omega), gB (by have := l.2 r hrl; omega), gR]; simp
  · rw [n1 (by omega), addRows_bot hY (by omega) (by omega)]
    have hrl : r - (X.dims.getD (q + 1) 0).toNat < (Y.maps.getD q default).length := by omega
    by_cases hc : (X.dims.getD q 0).toNat ≤ c
    · have hcl : c - (X.dims.getD q 0).toNat < ((Y.maps.getD q default).getD (r - (X.dims.getD (q + 1) 0).toNat) default).length := by have := m.2 _ hrl; omega
      have hk : q < Y.maps.length := by
        by_cases hk : q < Y.maps.length
        · exact hk
        · rw [gO (show Y.maps.length ≤ q by omega)] at hrl; cases hrl
      have hb := hY.num hk hrl hcl
      rw [sumT_uK (U := addU2 X) (τ := fun k i j => (k, i + (X.dims.getD (k + 1) 0).toNat, j + (X.dims.getD k 0).toNat)) (ω := fun _ _ _ v => v) (fun _ _ _ _ => rfl) (k0 := q) (i0 := r - (X.dims.getD (q + 1) 0).toNat) (j0 := c - (X.dims.getD q 0).toNat) (by show (_, _, _) = _; congr 2 <;> omega) Y.maps.length (fun k _ i _ j _ e => by
        injection e with e1 e2
        injection e2 with e2 e3
        subst e1
        exact ⟨rfl, by omega, by omega⟩) hrl hcl, if_pos hk, gB (by simpa using hc), List.length_replicate]
      rw [show (0 : Int) % X.p = 0 by simp, Int.zero_add, Int.emod_eq_of_lt hb.1 (by rw [hpp]; exact hb.2)]
    · rw [n2 (by omega), gA (by rw [List.length_replicate]; omega), gR]; simp
theorem cnt_add (X Y : Cx) : 0 ≤ cnt1 (addP X Y).1.dims ∧ cnt1 (addP X Y).1.dims ≤ 6 ∧ 0 ≤ cntL cnt2 (addP X Y).1.maps ∧ cntL cnt2 (addP X Y).1.maps ≤ 320 := by
  have hz : ∀ n : Int, 0 ≤ cnt1 ((⟨0, [], []⟩, n) : Cx × Int).1.dims ∧ cnt1 ((⟨0, [], []⟩, n) : Cx × Int).1.dims ≤ 6 ∧ 0 ≤ cntL cnt2 ((⟨0, [], []⟩, n) : Cx × Int).1.maps ∧ cntL cnt2 ((⟨0, [], []⟩, n) : Cx × Int).1.maps ≤ 320 := fun n => ⟨cnt1_nn _, by show cnt1 [] ≤ 6; decide, Int.le_refl _, by show (0 : Int) ≤ _; decide⟩
  unfold addP
  split
  · rename_i hc
    split
    · split
      · rename_i ha
        have hX := isC_t.1 hc.1; have hY := isC_t.1 hc.2
        have l1 := hX.len; have l2 := hY.len
        have hn : addN X Y ≤ 6 := by unfold addN; omega
        have hb : ∀ q, q < addN X Y → ((addD X Y).getD q 0).toNat ≤ 8 := fun q hq => by
          have := in3_iff.1 (all_at (f := fun x => in3 x 0 8) (d := 0) ha (k := q) (by rw [addD_len]; exact hq))
          omega
        have := cnt_sh (m := 5) (a := 8) (b := 8) (addM_sh hX hY) (by omega) (fun q hq => hb _ (by omega)) (fun q hq => hb _ (by omega))
        refine ⟨cnt1_nn _, ?_, this.1, this.2⟩
        show cnt1 (addD X Y) ≤ 6
        rw [cnt1, addD_len]; omega
      · exact hz 3
    · exact hz 2
  · exact hz 1

end Go.Proofs.Ytjjjgllbocgkbaa
