/-
  What the statement FnExactTensorDga uses of the walks, part 3.
  Conditions: each theorem's own.
-/
import Derived.Test.YtacajcjibhifmaaG16
import Derived.Test.YtacajcjibhifmaaG17
import Derived.Test.YtacajcjibhifmaaG14
import Derived.Test.YtacajcjibhifmaaG13
import Derived.Test.YtacajcjibhifmaaG15
import Derived.Test.YtacajcjibhifmaaG18
import Derived.Test.YtacajcjibhifmaaG22
import Derived.Test.YtacajcjibhifmaaZTensorDga1
import Derived.Test.YtacajcjibhifmaaZTensorDga2
set_option linter.unusedVariables false
set_option linter.unusedSimpArgs false
namespace Go.Proofs.Ytacajcjibhifmaa
open Go
theorem e8_lt {p : Int} (h : 2 ≤ p) (i : Nat) : ∀ k, k < 8 → e8 i k < p := fun k _ => by unfold e8 upd z8; split <;> omega
theorem e8_el {p s : Int} {i : Nat} (h : 2 ≤ p) (hi : (i : Int) < s) : isEl p s (e8 i) := fun k hk => ⟨e8_lt h i k hk, fun hs => by unfold e8 upd z8; rw [if_neg (by omega)]⟩
section
variable {p : Int} {tab : Nat → Nat → Nat → Int} {u v : Nat → Int}
theorem tmJ_cut {i : Nat} {o : Nat → Int} {m : Nat} : ∀ n, (∀ j, m ≤ j → j < m + n → v j = 0) → tmJ p tab u v i o (m + n) = tmJ p tab u v i o m
 | 0, _ => rfl
 | n + 1, h => by
  rw [← Nat.add_assoc, tmJ, if_neg (fun k => k.2 (h (m + n) (by omega) (by omega))), tmJ_cut n (fun j h1 h2 => h j h1 (by omega))]
theorem tmJ_zero {i : Nat} {o : Nat → Int} (h : u i = 0) : ∀ n, tmJ p tab u v i o n = o
 | 0 => rfl
 | n + 1 => by rw [tmJ, if_neg (fun k => k.1 h), tmJ_zero h n]
theorem tmI_cutJ {m n : Nat} (h : ∀ j, m ≤ j → j < m + n → v j = 0) : ∀ i, tmI p tab u v (m + n) i = tmI p tab u v m i
 | 0 => rfl
 | i + 1 => by rw [tmI, tmI, tmJ_cut n h, tmI_cutJ h i]
theorem tmI_cutI {q m : Nat} : ∀ n, (∀ j, m ≤ j → j < m + n → u j = 0) → tmI p tab u v q (m + n) = tmI p tab u v q m
 | 0, _ => rfl
 | n + 1, h => by rw [← Nat.add_assoc, tmI, tmJ_zero (h (m + n) (by omega) (by omega)), tmI_cutI n (fun j h1 h2 => h j h1 (by omega))]
theorem times_s {s : Int} (hs : 0 ≤ s ∧ s ≤ 8) (hu : isEl p s u) (hv : isEl p s v) : timesP p tab u v 8 = timesP p tab u v s.toNat := by
 unfold timesP
 obtain ⟨n, hn⟩ : ∃ n, 8 = s.toNat + n := ⟨8 - s.toNat, by omega⟩
 have h1 := tmI_cutJ (p := p) (tab := tab) (u := u) (v := v) (m := s.toNat) (n := n) (fun j h1 h2 => (hv j (by omega)).2 (by omega)) 8
 have h2 := tmI_cutI (p := p) (tab := tab) (u := u) (v := v) (q := s.toNat) (m := s.toNat) n (fun j h1 h2 => (hu j (by omega)).2 (by omega))
 rw [← hn] at h1 h2
 rw [h1, h2]
theorem plusN_nil {o w : Nat → Int} (h : ∀ k, k < 8 → 0 ≤ o k ∧ o k < p) : plusN p o w 0 8 = o := by
 funext k
 unfold plusN
 split
 ·rename_i hk
  rw [Int.zero_mul, Int.add_zero, Int.emod_eq_of_lt (h k hk).1 (h k hk).2]
 ·rfl
theorem plusN_red {o w : Nat → Int} {c : Int} (hp : 0 < p) : ∀ k, k < 8 → 0 ≤ plusN p o w c 8 k ∧ plusN p o w c 8 k < p := fun k hk => by
 unfold plusN
 rw [if_pos hk]
 exact ⟨Int.emod_nonneg _ (by omega), Int.emod_lt_of_pos _ hp⟩
theorem dfI_red {dif : Nat → Nat → Int} (hp : 0 < p) : ∀ i, ∀ k, k < 8 → 0 ≤ dfI p dif u i k ∧ dfI p dif u i k < p
 | 0, k, _ => ⟨Int.le_refl _, hp⟩
 | i + 1, k, hk => plusN_red hp k hk
theorem dfI_cut {dif : Nat → Nat → Int} {m : Nat} (hp : 0 < p) : ∀ n, (∀ j, m ≤ j → j < m + n → u j = 0) → dfI p dif u (m + n) = dfI p dif u m
 | 0, _ => rfl
 | n + 1, h => by rw [← Nat.add_assoc, dfI, h (m + n) (by omega) (by omega), plusN_nil (dfI_red hp _), dfI_cut hp n (fun j h1 h2 => h j h1 (by omega))]
theorem df_s {dif : Nat → Nat → Int} {s : Int} (hp : 0 < p) (hs : 0 ≤ s ∧ s ≤ 8) (hu : isEl p s u) : dfI p dif u 8 = dfI p dif u s.toNat := by
 obtain ⟨n, hn⟩ : ∃ n, 8 = s.toNat + n := ⟨8 - s.toNat, by omega⟩
 have h2 := dfI_cut (p := p) (dif := dif) (u := u) (m := s.toNat) hp n (fun j h1 h2 => (hu j (by omega)).2 (by omega))
 rw [← hn] at h2
 exact h2
theorem tmJ_e8 {a b i : Nat} {o : Nat → Int} : ∀ n, tmJ p tab (e8 a) (e8 b) i o n = if i = a ∧ b < n then plusN p o (tab a b) (1 * 1) 8 else o
 | 0 => by rw [if_neg (by omega)]; rfl
 | n + 1 => by
  rw [tmJ, tmJ_e8 n]
  by_cases hi : i = a
  ·subst hi
   by_cases hb : n = b
   ·subst hb
    rw [if_pos ⟨by simp [e8, upd], by simp [e8, upd]⟩, if_neg (by omega), if_pos (by omega)]
    simp [e8, upd]
   ·rw [if_neg (fun k => k.2 (by simp [e8, upd, z8, hb]))]
    by_cases h2 : b < n
    ·rw [if_pos ⟨rfl, h2⟩, if_pos ⟨rfl, by omega⟩]
    ·rw [if_neg (by omega), if_neg (by omega)]
  ·rw [if_neg (fun k => k.1 (by simp [e8, upd, z8, hi])), if_neg (fun k => hi k.1), if_neg (fun k => hi k.1)]
theorem tmI_e8 {a b m : Nat} (hb : b < m) : ∀ n, tmI p tab (e8 a) (e8 b) m n = if a < n then plusN p z8 (tab a b) (1 * 1) 8 else z8
 | 0 => rfl
 | n + 1 => by
  rw [tmI, tmJ_e8, tmI_e8 hb n]
  by_cases h : n = a
  ·subst h
   rw [if_pos ⟨rfl, hb⟩, if_neg (by omega), if_pos (by omega)]
  ·rw [if_neg (fun k => h k.1)]
   by_cases h2 : a < n
   ·rw [if_pos h2, if_pos (by omega)]
   ·rw [if_neg h2, if_neg (by omega)]
theorem times_e8 {a b : Nat} (ha : a < 8) (hb : b < 8) (hw : ∀ k, k < 8 → 0 ≤ tab a b k ∧ tab a b k < p) {w : Nat → Int} : eqE (timesP p tab (e8 a) (e8 b) 8) w = eqE (tab a b) w := by
 rw [timesP, tmI_e8 hb, if_pos ha, Bool.eq_iff_iff, eqE_iff, eqE_iff]
 have e : ∀ k, k < 8 → plusN p z8 (tab a b) (1 * 1) 8 k = tab a b k := fun k hk => by
  unfold plusN
  rw [if_pos hk]
  show (0 + 1 * 1 * tab a b k) % p = _
  rw [Int.zero_add, Int.one_mul, Int.one_mul, Int.emod_eq_of_lt (hw k hk).1 (hw k hk).2]
 exact ⟨fun h k hk => by rw [← e k hk]; exact h k hk, fun h k hk => by rw [e k hk]; exact h k hk⟩
end
section
variable {X : Dg} (hB : DgB X) (hf : IsFm X)
include hB hf
theorem un_sp {i : Nat} (hi : (i : Int) < X.s) : UnF X i ↔ (eqE (X.tab 0 i) (e8 i) = true ∧ eqE (X.tab i 0) (e8 i) = true) ∧ eqE (dfI X.p X.dif (X.dif i) X.s.toNat) z8 = true := by
 have hs := hf.s
 have hp := isP_bnd hf.p
 unfold UnF
 rw [times_e8 (a := 0) (b := i) (by omega) (by omega) (fun k hk => ⟨(hB.tab 0 i k).1, ((hf.cell 0 (by omega) i (by omega)).el k hk).1⟩), times_e8 (a := i) (b := 0) (by omega) (by omega) (fun k hk => ⟨(hB.tab i 0 k).1, ((hf.cell i (by omega) 0 (by omega)).el k hk).1⟩), df_s hp.1 (by omega) (hf.row i (by omega)).el, and_assoc]
theorem lb_sp {i j : Nat} (hi : (i : Int) < X.s) (hj : (j : Int) < X.s) : LbF X i j ↔ eqE (dfI X.p X.dif (X.tab i j) X.s.toNat) (plusN X.p (timesP X.p X.tab (X.dif i) (e8 j) X.s.toNat) (timesP X.p X.tab (e8 i) (X.dif j) X.s.toNat) (1 - 2 * (X.deg i).tmod 2) 8) = true := by
 have _ := hB
 have hs := hf.s
 have hp := isP_two hf.p
 unfold LbF
 rw [df_s (by omega) (by omega) (hf.cell i (by omega) j (by omega)).el, times_s (by omega) (hf.row i (by omega)).el (e8_el hp.1 hj), times_s (by omega) (e8_el hp.1 hi) (hf.row j (by omega)).el, Int.mul_comm 2]
theorem ac_sp {i j k : Nat} (hi : (i : Int) < X.s) (hj : (j : Int) < X.s) (hk : (k : Int) < X.s) : AsF X i j k ↔ eqE (timesP X.p X.tab (X.tab i j) (e8 k) X.s.toNat) (timesP X.p X.tab (e8 i) (X.tab j k) X.s.toNat) = true := by
 have _ := hB
 have hs := hf.s
 have hp := isP_two hf.p
 unfold AsF
 rw [times_s (by omega) (hf.cell i (by omega) j (by omega)).el (e8_el hp.1 hk), times_s (by omega) (e8_el hp.1 hi) (hf.cell j (by omega) k (by omega)).el]
theorem un_nos {i : Nat} (hi : (i : Int) < X.s) (h : UnF X i) (c : (eqE (X.tab 0 i) (e8 i) = false ∨ eqE (X.tab i 0) (e8 i) = false) ∨ eqE (dfI X.p X.dif (X.dif i) X.s.toNat) z8 = false) : False := by
 obtain ⟨⟨h1, h2⟩, h3⟩ := (un_sp hB hf hi).1 h
 rcases c with (c | c) | c
 ·rw [h1] at c; cases c
 ·rw [h2] at c; cases c
 ·rw [h3] at c; cases c
theorem lb_nos {i j : Nat} (hi : (i : Int) < X.s) (hj : (j : Int) < X.s) (h : LbF X i j) (c : eqE (dfI X.p X.dif (X.tab i j) X.s.toNat) (plusN X.p (timesP X.p X.tab (X.dif i) (e8 j) X.s.toNat) (timesP X.p X.tab (e8 i) (X.dif j) X.s.toNat) (1 - 2 * (X.deg i).tmod 2) 8) = false) : False := by
 rw [(lb_sp hB hf hi hj).1 h] at c; cases c
theorem ac_nos {i j k : Nat} (hi : (i : Int) < X.s) (hj : (j : Int) < X.s) (hk : (k : Int) < X.s) (h : AsF X i j k) (c : eqE (timesP X.p X.tab (X.tab i j) (e8 k) X.s.toNat) (timesP X.p X.tab (e8 i) (X.tab j k) X.s.toNat) = false) : False := by
 rw [(ac_sp hB hf hi hj hk).1 h] at c; cases c
end

set_option maxRecDepth 100000 in
set_option maxHeartbeats 4000000 in
theorem sDg_ok (X : Dg) (h : Heap)  (hB : DgB X) : CallA Try.prog 54 #[.agg (dgA X)] h fun v' h' => v' = .bool (dgB X) ∧ Ext h h' := by
 have hBd := hB.dif
 have hBt := hB.tab
 refine callA_intro TTok (args := [_]) Try.func54 (by kernel_rfl) rfl 114 rfl (by simp) [.tmp 2] rfl ?_
 simp only [idxs, Nat.reduceAdd]
 refine den_seq ?_
 refine den_region TTok ?_
 intro K hK
 simp -implicitDefEqProofs (disch := first | decide | assumption | omega) only [go_sem, wrap_id, cv_u8, cv_i64, Nat.zero_add, wrap_u8, eq_el, ne_el, build_el, Int.toNat_zero]
 refine op_box (cs := dgA X) rfl ?_
 intro h0_0 e0_0 hb0_0 z0_0
 have := Ext.size e0_0
 have eB := e0_0
 have hfhb0_0 : Fresh h.size [h.size] := Fresh.one _
 have hlhb0_0 := one_lt (show h.size < h0_0.size by omega)
 try simp -implicitDefEqProofs (disch := first | decide | assumption | omega) only [go_sem, wrap_id, cv_u8, cv_i64, Nat.zero_add, wrap_u8, eq_el, ne_el, build_el, Int.toNat_zero]
 refine hK _ _ ?_
 clear hK K
 refine den_seq ?_
 refine den_seq ?_
 refine den_region TTok ?_
 intro K hK
 simp -implicitDefEqProofs (disch := first | decide | assumption | omega) only [go_sem, BoxAt.dgL hb0_0, BoxAt.dgP hb0_0, BoxAt.dgS hb0_0, BoxAt.dgDeg hb0_0, BoxAt.dgLev hb0_0, BoxAt.dgDeg0 hb0_0, BoxAt.dgLev0 hb0_0, BoxAt.dgDifL hb0_0, BoxAt.dgTabL hb0_0, BoxAt.dgTabL0 hb0_0, BoxAt.dgTabL1 hb0_0, BoxAt.dgTabL1' hb0_0, BoxAt.dgDifB hb0_0, BoxAt.dgTabB hb0_0, wrap_id, cv_u8, cv_i64, Nat.zero_add, wrap_u8, eq_el, ne_el, build_el, Int.toNat_zero]
 try simp -implicitDefEqProofs (disch := first | decide | assumption | omega) only [go_sem, wrap_id, cv_u8, cv_i64, Nat.zero_add, wrap_u8, eq_el, ne_el, build_el, Int.toNat_zero]
 refine CallA.mono (sFm_ok  X _  hB) ?_
 intro v_ h1_1
 rintro ⟨rfl, e1_1⟩
 replace hb0_0 := BoxAt.ext hb0_0 e1_1
 have := Ext.size e1_1
 replace eB := Ext.trans eB e1_1
 try simp -implicitDefEqProofs (disch := first | decide | assumption | omega) only [go_sem, wrap_id, cv_u8, cv_i64, Nat.zero_add, wrap_u8, eq_el, ne_el, build_el, Int.toNat_zero]
 refine hK _ _ ?_
 clear hK K
 refine den_cond rfl (fun c0 => ?_) (fun c0 => ?_)
 ·try simp only [decide_eq_true_eq, decide_eq_false_iff_not, beq_iff_eq, beq_eq_false_iff_ne, bne_iff_ne, ne_eq, Bool.not_eq_true', Bool.not_eq_false', Bool.and_eq_true, Bool.or_eq_true, bne_eq_false_iff_eq, Bool.or_eq_false_iff, Bool.and_eq_false_iff, in3_iff, in3_f] at c0
  refine den_seq ?_
  refine den_region TTok ?_
  intro K hK
  simp -implicitDefEqProofs (disch := first | decide | assumption | omega) only [go_sem, wrap_id, cv_u8, cv_i64, Nat.zero_add, wrap_u8, eq_el, ne_el, build_el, Int.toNat_zero]
  refine hK _ _ ?_
  clear hK K
  refine den_ret ?_
  simp (disch := decide) only [resP_1, puts_same, puts_ne]
  exact ⟨vbool (dgB_n (fun hh => by rw [fmB_t.2 hh.fm] at c0; cases c0)), eB⟩
 ·try simp only [decide_eq_true_eq, decide_eq_false_iff_not, beq_iff_eq, beq_eq_false_iff_ne, bne_iff_ne, ne_eq, Bool.not_eq_true', Bool.not_eq_false', Bool.and_eq_true, Bool.or_eq_true, bne_eq_false_iff_eq, Bool.or_eq_false_iff, Bool.and_eq_false_iff, in3_iff, in3_f] at c0
  have hfm := fmB_t.1 c0
  have hs8 := hfm.s
  have hpb := isP_bnd hfm.p
  have hpG : 0 < X.p ∧ X.p ≤ 7 := ⟨by omega, by omega⟩
  have hp2 := (isP_two hfm.p).1
  have hB7 : ∀ i, i < 8 → ∀ k, k < 8 → X.dif i k < X.p := fun i hi k hk => ((hfm.row i hi).el k hk).1
  have hB8 : ∀ i j, i < 8 → j < 8 → ∀ k, k < 8 → X.tab i j k < X.p := fun i j hi hj k hk => ((hfm.cell i hi j hj).el k hk).1
  refine den_skip ?_
  refine den_seq ?_
  refine den_seq ?_
  refine den_region TTok ?_
  intro K hK
  simp -implicitDefEqProofs (disch := first | decide | assumption | omega) only [go_sem, wrap_id, cv_u8, cv_i64, Nat.zero_add, wrap_u8, eq_el, ne_el, build_el, Int.toNat_zero]
  refine hK _ _ ?_
  clear hK K
  refine den_block ?_
  refine den_sel [3, 1] ?_
  intro env_1
  simp only [go_sem]
  refine den_loopS (σ := Nat) (fun st_ => [(3, .int .i64 (st_ : Int))]) (fun st_ H => ((st_ : Int) ≤ X.s) ∧ (∀ a : Nat, a < st_ → UnF X a ∧ ∀ b : Nat, (b : Int) < X.s → LbF X a b ∧ ∀ k : Nat, (k : Int) < X.s → AsF X a b k) ∧ (Ext h1_1 H)) (fun st_ => X.s.toNat - st_) 0 ?_ ?_
  ·exact ⟨by omega, fun a h => by omega, Ext.refl _⟩
  ·rintro i h4 ee3 ⟨hi, hz, cL2⟩
   replace hb0_0 := BoxAt.ext hb0_0 cL2
   have := Ext.size cL2
   replace eB := Ext.trans eB cL2
   simp only [List.cons_append, List.nil_append]
   refine den_seq ?_
   refine den_seq ?_
   refine den_region TTok ?_
   intro K hK
   simp -implicitDefEqProofs (disch := first | decide | assumption | omega) only [go_sem, fa34_1, ld2, BoxAt.dgL hb0_0, BoxAt.dgP hb0_0, BoxAt.dgS hb0_0, BoxAt.dgDeg hb0_0, BoxAt.dgLev hb0_0, BoxAt.dgDeg0 hb0_0, BoxAt.dgLev0 hb0_0, BoxAt.dgDifL hb0_0, BoxAt.dgTabL hb0_0, BoxAt.dgTabL0 hb0_0, BoxAt.dgTabL1 hb0_0, BoxAt.dgTabL1' hb0_0, BoxAt.dgDifB hb0_0, BoxAt.dgTabB hb0_0, wrap_id, cv_u8, cv_i64, Nat.zero_add, wrap_u8, eq_el, ne_el, build_el, Int.toNat_zero]
   refine hK _ _ ?_
   clear hK K
   refine den_cond rfl (fun c1 => ?_) (fun c1 => ?_)
   ·try simp only [decide_eq_true_eq, decide_eq_false_iff_not, beq_iff_eq, beq_eq_false_iff_ne, bne_iff_ne, ne_eq, Bool.not_eq_true', Bool.not_eq_false', Bool.and_eq_true, Bool.or_eq_true, bne_eq_false_iff_eq, Bool.or_eq_false_iff, Bool.and_eq_false_iff, in3_iff, in3_f] at c1
    refine den_skip ?_
    refine den_seq ?_
    refine den_block ?_
    refine den_seq ?_
    have hdr := (hfm.row i (by omega)).deg
    have hsg := tmod_in (p := 2) (x := X.deg i) (by decide)
    refine den_sel [1, 3] ?_
    intro env_5
    simp only [go_sem]
    refine den_drawTJ (σ := Nat) TTok (fun st_ => [(4, .pointer (some ⟨st_, 0, none⟩)), (5, .int .i64 (((1 : Int) - ((2 : Int) * (Int.tmod (X.deg i) (2 : Int))))))]) (fun st_ H => (BoxAt H st_ (elA (e8 i)) 30) ∧ (Fresh h4.size [st_]) ∧ (Ext h4 H)) mixed [10] [(0, true), (2, true), (3, true), (4, true)] (.fork3 1 [] (.fork 5 [(6, true), (7, true), (8, true), (9, false), (10, false), (11, true)] .fin 9 [] (.fork 5 [(6, true), (7, true), (8, true), (10, false), (11, true)] .fin 10 [(5, true), (6, true), (7, true), (8, true), (11, true)] .fin)) 5 [(6, true), (7, true), (8, true)] (.fork 1 [(9, false), (10, false), (11, true)] .fin 9 [(1, false), (10, false), (11, true)] .fin) 9 [] (.fork 1 [] (.fork 5 [(6, true), (7, true), (8, true), (10, false), (11, true)] .fin 10 [(5, true), (6, true), (7, true), (8, true), (11, true)] .fin) 5 [(6, true), (7, true), (8, true), (1, false), (10, false), (11, true)] .fin)) (by kernel_rfl) ?_ ?_
    ·intro K hK
     have cJ6 := Ext.refl h4
     simp -implicitDefEqProofs (disch := first | decide | assumption | omega) only [go_sem, Int.toNat_zero, fa34_2, ia22, BoxAt.dgL hb0_0, BoxAt.dgP hb0_0, BoxAt.dgS hb0_0, BoxAt.dgDeg hb0_0, BoxAt.dgLev hb0_0, BoxAt.dgDeg0 hb0_0, BoxAt.dgLev0 hb0_0, BoxAt.dgDifL hb0_0, BoxAt.dgTabL hb0_0, BoxAt.dgTabL0 hb0_0, BoxAt.dgTabL1 hb0_0, BoxAt.dgTabL1' hb0_0, BoxAt.dgDifB hb0_0, BoxAt.dgTabB hb0_0, wrap_id, cv_u8, cv_i64, Nat.zero_add, wrap_u8, eq_el, ne_el, build_el, Int.toNat_zero]
     refine And.intro ?_ (And.intro ?_ ?_)
     ·simp -implicitDefEqProofs (disch := first | decide | assumption | omega) only [go_sem, wrap_id, cv_u8, cv_i64, Nat.zero_add, wrap_u8, eq_el, ne_el, build_el, Int.toNat_zero]
      try simp -implicitDefEqProofs (disch := first | decide | assumption | omega) only [go_sem, wrap_id, cv_u8, cv_i64, Nat.zero_add, wrap_u8, eq_el, ne_el, build_el, Int.toNat_zero]
      refine CallA.mono (sUni_ok  (i : Int) _  (by omega)) ?_
      intro v_ h6_1
      rintro ⟨rfl, e6_1⟩
      replace hb0_0 := BoxAt.ext hb0_0 e6_1
      have := Ext.size e6_1
      replace eB := Ext.trans eB e6_1
      replace cL2 := Ext.trans cL2 e6_1
      replace cJ6 := Ext.trans cJ6 e6_1
      try simp (disch := decide) only [outv_some, outv_none, put_puts]
      refine plK_pres (Ext.pres e6_1) ?_
      try simp -implicitDefEqProofs (disch := first | decide | assumption | omega) only [go_sem, wrap_id, cv_u8, cv_i64, Nat.zero_add, wrap_u8, eq_el, ne_el, build_el, Int.toNat_zero]
      refine And.intro ?_ ?_
      ·simp -implicitDefEqProofs (disch := first | decide | assumption | omega) only [go_sem, ld2, BoxAt.dgL hb0_0, BoxAt.dgP hb0_0, BoxAt.dgS hb0_0, BoxAt.dgDeg hb0_0, BoxAt.dgLev hb0_0, BoxAt.dgDeg0 hb0_0, BoxAt.dgLev0 hb0_0, BoxAt.dgDifL hb0_0, BoxAt.dgTabL hb0_0, BoxAt.dgTabL0 hb0_0, BoxAt.dgTabL1 hb0_0, BoxAt.dgTabL1' hb0_0, BoxAt.dgDifB hb0_0, BoxAt.dgTabB hb0_0, wrap_id, cv_u8, cv_i64, Nat.zero_add, wrap_u8, eq_el, ne_el, build_el, Int.toNat_zero]
       refine op_alloc (cs := elA z8) (by kernel_rfl) ?_
       intro h6_9 e6_9 hb6_9 z6_9
       replace hb0_0 := BoxAt.ext hb0_0 e6_9
       have := Ext.size e6_9
       replace eB := Ext.trans eB e6_9
       replace cL2 := Ext.trans cL2 e6_9
       replace cJ6 := Ext.trans cJ6 e6_9
       have hfhb6_9 : Fresh h6_1.size [h6_1.size] := Fresh.one _
       have hlhb6_9 := one_lt (show h6_1.size < h6_9.size by omega)
       try simp (disch := decide) only [outv_some, outv_none, put_puts]
       refine plK_pres (Ext.pres e6_9) ?_
       try simp -implicitDefEqProofs (disch := first | decide | assumption | omega) only [go_sem, wrap_id, cv_u8, cv_i64, Nat.zero_add, wrap_u8, eq_el, ne_el, build_el, Int.toNat_zero]
       refine op_storeB (o := 0) (cs' := elA (e8 i)) st30 hb6_9 rfl rfl (elA_sz _) (by rw [elA_sz]; decide) elA_one elA_all ?_
       intro h6_10 hb6_9 c6_10
       replace hb0_0 := BoxAt.chgA hb0_0 c6_10 (apart_lt hlhb0_0 hfhb6_9 (by omega))
       have := c6_10.size
       replace eB := Ext.then eB c6_10 (ge_of hfhb6_9 (by omega))
       replace cL2 := Ext.then cL2 c6_10 (ge_of hfhb6_9 (by omega))
       replace cJ6 := Ext.then cJ6 c6_10 (ge_of hfhb6_9 (by omega))
       try simp (disch := decide) only [outv_some, outv_none, put_puts]
       refine plK_last (by decide) ?_
       try simp -implicitDefEqProofs (disch := first | decide | assumption | omega) only [go_sem, wrap_id, cv_u8, cv_i64, Nat.zero_add, wrap_u8, eq_el, ne_el, build_el, Int.toNat_zero]
       exact hK h6_1.size _ _ (by simp [HasL, puts_at]) ⟨hb6_9, (hfhb6_9.mono (by omega)), cJ6⟩
      ·simp -implicitDefEqProofs (disch := first | decide | assumption | omega) only [go_sem, wrap_id, cv_u8, cv_i64, Nat.zero_add, wrap_u8, eq_el, ne_el, build_el, Int.toNat_zero]
       refine op_alloc (cs := elA z8) (by kernel_rfl) ?_
       intro h6_9 e6_9 hb6_9 z6_9
       replace hb0_0 := BoxAt.ext hb0_0 e6_9
       have := Ext.size e6_9
       replace eB := Ext.trans eB e6_9
       replace cL2 := Ext.trans cL2 e6_9
       replace cJ6 := Ext.trans cJ6 e6_9
       have hfhb6_9 : Fresh h6_1.size [h6_1.size] := Fresh.one _
       have hlhb6_9 := one_lt (show h6_1.size < h6_9.size by omega)
       try simp (disch := decide) only [outv_some, outv_none, put_puts]
       refine plK_pres (Ext.pres e6_9) ?_
       try simp -implicitDefEqProofs (disch := first | decide | assumption | omega) only [go_sem, wrap_id, cv_u8, cv_i64, Nat.zero_add, wrap_u8, eq_el, ne_el, build_el, Int.toNat_zero]
       refine And.intro ?_ ?_
       ·simp -implicitDefEqProofs (disch := first | decide | assumption | omega) only [go_sem, ld2, BoxAt.dgL hb0_0, BoxAt.dgP hb0_0, BoxAt.dgS hb0_0, BoxAt.dgDeg hb0_0, BoxAt.dgLev hb0_0, BoxAt.dgDeg0 hb0_0, BoxAt.dgLev0 hb0_0, BoxAt.dgDifL hb0_0, BoxAt.dgTabL hb0_0, BoxAt.dgTabL0 hb0_0, BoxAt.dgTabL1 hb0_0, BoxAt.dgTabL1' hb0_0, BoxAt.dgDifB hb0_0, BoxAt.dgTabB hb0_0, wrap_id, cv_u8, cv_i64, Nat.zero_add, wrap_u8, eq_el, ne_el, build_el, Int.toNat_zero]
        refine op_storeB (o := 0) (cs' := elA (e8 i)) st30 hb6_9 rfl rfl (elA_sz _) (by rw [elA_sz]; decide) elA_one elA_all ?_
        intro h6_10 hb6_9 c6_10
        replace hb0_0 := BoxAt.chgA hb0_0 c6_10 (apart_lt hlhb0_0 hfhb6_9 (by omega))
        have := c6_10.size
        replace eB := Ext.then eB c6_10 (ge_of hfhb6_9 (by omega))
        replace cL2 := Ext.then cL2 c6_10 (ge_of hfhb6_9 (by omega))
        replace cJ6 := Ext.then cJ6 c6_10 (ge_of hfhb6_9 (by omega))
        try simp (disch := decide) only [outv_some, outv_none, put_puts]
        refine plK_last (by decide) ?_
        try simp -implicitDefEqProofs (disch := first | decide | assumption | omega) only [go_sem, wrap_id, cv_u8, cv_i64, Nat.zero_add, wrap_u8, eq_el, ne_el, build_el, Int.toNat_zero]
        exact hK h6_1.size _ _ (by simp [HasL, puts_at]) ⟨hb6_9, (hfhb6_9.mono (by omega)), cJ6⟩
       ·simp -implicitDefEqProofs (disch := first | decide | assumption | omega) only [go_sem, wrap_id, cv_u8, cv_i64, Nat.zero_add, wrap_u8, eq_el, ne_el, build_el, Int.toNat_zero]
        refine op_storeB (o := 0) (cs' := elA (e8 i)) st30 hb6_9 rfl rfl (elA_sz _) (by rw [elA_sz]; decide) elA_one elA_all ?_
        intro h6_10 hb6_9 c6_10
        replace hb0_0 := BoxAt.chgA hb0_0 c6_10 (apart_lt hlhb0_0 hfhb6_9 (by omega))
        have := c6_10.size
        replace eB := Ext.then eB c6_10 (ge_of hfhb6_9 (by omega))
        replace cL2 := Ext.then cL2 c6_10 (ge_of hfhb6_9 (by omega))
        replace cJ6 := Ext.then cJ6 c6_10 (ge_of hfhb6_9 (by omega))
        try simp (disch := decide) only [outv_some, outv_none, put_puts]
        refine plK_last (by decide) ?_
        try simp -implicitDefEqProofs (disch := first | decide | assumption | omega) only [go_sem, ld2, BoxAt.dgL hb0_0, BoxAt.dgP hb0_0, BoxAt.dgS hb0_0, BoxAt.dgDeg hb0_0, BoxAt.dgLev hb0_0, BoxAt.dgDeg0 hb0_0, BoxAt.dgLev0 hb0_0, BoxAt.dgDifL hb0_0, BoxAt.dgTabL hb0_0, BoxAt.dgTabL0 hb0_0, BoxAt.dgTabL1 hb0_0, BoxAt.dgTabL1' hb0_0, BoxAt.dgDifB hb0_0, BoxAt.dgTabB hb0_0, wrap_id, cv_u8, cv_i64, Nat.zero_add, wrap_u8, eq_el, ne_el, build_el, Int.toNat_zero]
        exact hK h6_1.size _ _ (by simp [HasL, puts_at]) ⟨hb6_9, (hfhb6_9.mono (by omega)), cJ6⟩
     ·simp -implicitDefEqProofs (disch := first | decide | assumption | omega) only [go_sem, ld2, BoxAt.dgL hb0_0, BoxAt.dgP hb0_0, BoxAt.dgS hb0_0, BoxAt.dgDeg hb0_0, BoxAt.dgLev hb0_0, BoxAt.dgDeg0 hb0_0, BoxAt.dgLev0 hb0_0, BoxAt.dgDifL hb0_0, BoxAt.dgTabL hb0_0, BoxAt.dgTabL0 hb0_0, BoxAt.dgTabL1 hb0_0, BoxAt.dgTabL1' hb0_0, BoxAt.dgDifB hb0_0, BoxAt.dgTabB hb0_0, wrap_id, cv_u8, cv_i64, Nat.zero_add, wrap_u8, eq_el, ne_el, build_el, Int.toNat_zero]
      refine And.intro ?_ ?_
      ·simp -implicitDefEqProofs (disch := first | decide | assumption | omega) only [go_sem, wrap_id, cv_u8, cv_i64, Nat.zero_add, wrap_u8, eq_el, ne_el, build_el, Int.toNat_zero]
       try simp -implicitDefEqProofs (disch := first | decide | assumption | omega) only [go_sem, wrap_id, cv_u8, cv_i64, Nat.zero_add, wrap_u8, eq_el, ne_el, build_el, Int.toNat_zero]
       refine CallA.mono (sUni_ok  (i : Int) _  (by omega)) ?_
       intro v_ h6_1
       rintro ⟨rfl, e6_1⟩
       replace hb0_0 := BoxAt.ext hb0_0 e6_1
       have := Ext.size e6_1
       replace eB := Ext.trans eB e6_1
       replace cL2 := Ext.trans cL2 e6_1
       replace cJ6 := Ext.trans cJ6 e6_1
       try simp (disch := decide) only [outv_some, outv_none, put_puts]
       refine plK_pres (Ext.pres e6_1) ?_
       try simp -implicitDefEqProofs (disch := first | decide | assumption | omega) only [go_sem, wrap_id, cv_u8, cv_i64, Nat.zero_add, wrap_u8, eq_el, ne_el, build_el, Int.toNat_zero]
       refine op_alloc (cs := elA z8) (by kernel_rfl) ?_
       intro h6_9 e6_9 hb6_9 z6_9
       replace hb0_0 := BoxAt.ext hb0_0 e6_9
       have := Ext.size e6_9
       replace eB := Ext.trans eB e6_9
       replace cL2 := Ext.trans cL2 e6_9
       replace cJ6 := Ext.trans cJ6 e6_9
       have hfhb6_9 : Fresh h6_1.size [h6_1.size] := Fresh.one _
       have hlhb6_9 := one_lt (show h6_1.size < h6_9.size by omega)
       try simp (disch := decide) only [outv_some, outv_none, put_puts]
       refine plK_pres (Ext.pres e6_9) ?_
       try simp -implicitDefEqProofs (disch := first | decide | assumption | omega) only [go_sem, wrap_id, cv_u8, cv_i64, Nat.zero_add, wrap_u8, eq_el, ne_el, build_el, Int.toNat_zero]
       refine op_storeB (o := 0) (cs' := elA (e8 i)) st30 hb6_9 rfl rfl (elA_sz _) (by rw [elA_sz]; decide) elA_one elA_all ?_
       intro h6_10 hb6_9 c6_10
       replace hb0_0 := BoxAt.chgA hb0_0 c6_10 (apart_lt hlhb0_0 hfhb6_9 (by omega))
       have := c6_10.size
       replace eB := Ext.then eB c6_10 (ge_of hfhb6_9 (by omega))
       replace cL2 := Ext.then cL2 c6_10 (ge_of hfhb6_9 (by omega))
       replace cJ6 := Ext.then cJ6 c6_10 (ge_of hfhb6_9 (by omega))
       try simp (disch := decide) only [outv_some, outv_none, put_puts]
       refine plK_last (by decide) ?_
       try simp -implicitDefEqProofs (disch := first | decide | assumption | omega) only [go_sem, wrap_id, cv_u8, cv_i64, Nat.zero_add, wrap_u8, eq_el, ne_el, build_el, Int.toNat_zero]
       exact hK h6_1.size _ _ (by simp [HasL, puts_at]) ⟨hb6_9, (hfhb6_9.mono (by omega)), cJ6⟩
      ·simp -implicitDefEqProofs (disch := first | decide | assumption | omega) only [go_sem, wrap_id, cv_u8, cv_i64, Nat.zero_add, wrap_u8, eq_el, ne_el, build_el, Int.toNat_zero]
       refine op_alloc (cs := elA z8) (by kernel_rfl) ?_
       intro h6_9 e6_9 hb6_9 z6_9
       replace hb0_0 := BoxAt.ext hb0_0 e6_9
       have := Ext.size e6_9
       replace eB := Ext.trans eB e6_9
       replace cL2 := Ext.trans cL2 e6_9
       replace cJ6 := Ext.trans cJ6 e6_9
       have hfhb6_9 : Fresh h4.size [h4.size] := Fresh.one _
       have hlhb6_9 := one_lt (show h4.size < h6_9.size by omega)
       try simp (disch := decide) only [outv_some, outv_none, put_puts]
       refine plK_pres (Ext.pres e6_9) ?_
       try simp -implicitDefEqProofs (disch := first | decide | assumption | omega) only [go_sem, wrap_id, cv_u8, cv_i64, Nat.zero_add, wrap_u8, eq_el, ne_el, build_el, Int.toNat_zero]
       try simp -implicitDefEqProofs (disch := first | decide | assumption | omega) only [go_sem, wrap_id, cv_u8, cv_i64, Nat.zero_add, wrap_u8, eq_el, ne_el, build_el, Int.toNat_zero]
       refine CallA.mono (sUni_ok  (i : Int) _  (by omega)) ?_
       intro v_ h6_1
       rintro ⟨rfl, e6_1⟩
       replace hb0_0 := BoxAt.ext hb0_0 e6_1
       replace hb6_9 := BoxAt.ext hb6_9 e6_1
       have := Ext.size e6_1
       replace eB := Ext.trans eB e6_1
       replace cL2 := Ext.trans cL2 e6_1
       replace cJ6 := Ext.trans cJ6 e6_1
       try simp (disch := decide) only [outv_some, outv_none, put_puts]
       refine plK_pres (Ext.pres e6_1) ?_
       try simp -implicitDefEqProofs (disch := first | decide | assumption | omega) only [go_sem, wrap_id, cv_u8, cv_i64, Nat.zero_add, wrap_u8, eq_el, ne_el, build_el, Int.toNat_zero]
       refine op_storeB (o := 0) (cs' := elA (e8 i)) st30 hb6_9 rfl rfl (elA_sz _) (by rw [elA_sz]; decide) elA_one elA_all ?_
       intro h6_10 hb6_9 c6_10
       replace hb0_0 := BoxAt.chgA hb0_0 c6_10 (apart_lt hlhb0_0 hfhb6_9 (by omega))
       have := c6_10.size
       replace eB := Ext.then eB c6_10 (ge_of hfhb6_9 (by omega))
       replace cL2 := Ext.then cL2 c6_10 (ge_of hfhb6_9 (by omega))
       replace cJ6 := Ext.then cJ6 c6_10 (ge_of hfhb6_9 (by omega))
       try simp (disch := decide) only [outv_some, outv_none, put_puts]
       refine plK_last (by decide) ?_
       try simp -implicitDefEqProofs (disch := first | decide | assumption | omega) only [go_sem, wrap_id, cv_u8, cv_i64, Nat.zero_add, wrap_u8, eq_el, ne_el, build_el, Int.toNat_zero]
       exact hK h4.size _ _ (by simp [HasL, puts_at]) ⟨hb6_9, (hfhb6_9.mono (by omega)), cJ6⟩
     ·simp -implicitDefEqProofs (disch := first | decide | assumption | omega) only [go_sem, wrap_id, cv_u8, cv_i64, Nat.zero_add, wrap_u8, eq_el, ne_el, build_el, Int.toNat_zero]
      refine op_alloc (cs := elA z8) (by kernel_rfl) ?_
      intro h6_9 e6_9 hb6_9 z6_9
      replace hb0_0 := BoxAt.ext hb0_0 e6_9
      have := Ext.size e6_9
      replace eB := Ext.trans eB e6_9
      replace cL2 := Ext.trans cL2 e6_9
      replace cJ6 := Ext.trans cJ6 e6_9
      have hfhb6_9 : Fresh h4.size [h4.size] := Fresh.one _
      have hlhb6_9 := one_lt (show h4.size < h6_9.size by omega)
      try simp (disch := decide) only [outv_some, outv_none, put_puts]
      refine plK_pres (Ext.pres e6_9) ?_
      try simp -implicitDefEqProofs (disch := first | decide | assumption | omega) only [go_sem, wrap_id, cv_u8, cv_i64, Nat.zero_add, wrap_u8, eq_el, ne_el, build_el, Int.toNat_zero]
      refine And.intro ?_ ?_
      ·simp -implicitDefEqProofs (disch := first | decide | assumption | omega) only [go_sem, wrap_id, cv_u8, cv_i64, Nat.zero_add, wrap_u8, eq_el, ne_el, build_el, Int.toNat_zero]
       try simp -implicitDefEqProofs (disch := first | decide | assumption | omega) only [go_sem, wrap_id, cv_u8, cv_i64, Nat.zero_add, wrap_u8, eq_el, ne_el, build_el, Int.toNat_zero]
       refine CallA.mono (sUni_ok  (i : Int) _  (by omega)) ?_
       intro v_ h6_1
       rintro ⟨rfl, e6_1⟩
       replace hb0_0 := BoxAt.ext hb0_0 e6_1
       replace hb6_9 := BoxAt.ext hb6_9 e6_1
       have := Ext.size e6_1
       replace eB := Ext.trans eB e6_1
       replace cL2 := Ext.trans cL2 e6_1
       replace cJ6 := Ext.trans cJ6 e6_1
       try simp (disch := decide) only [outv_some, outv_none, put_puts]
       refine plK_pres (Ext.pres e6_1) ?_
       try simp -implicitDefEqProofs (disch := first | decide | assumption | omega) only [go_sem, wrap_id, cv_u8, cv_i64, Nat.zero_add, wrap_u8, eq_el, ne_el, build_el, Int.toNat_zero]
       refine And.intro ?_ ?_
       ·simp -implicitDefEqProofs (disch := first | decide | assumption | omega) only [go_sem, ld2, BoxAt.dgL hb0_0, BoxAt.dgP hb0_0, BoxAt.dgS hb0_0, BoxAt.dgDeg hb0_0, BoxAt.dgLev hb0_0, BoxAt.dgDeg0 hb0_0, BoxAt.dgLev0 hb0_0, BoxAt.dgDifL hb0_0, BoxAt.dgTabL hb0_0, BoxAt.dgTabL0 hb0_0, BoxAt.dgTabL1 hb0_0, BoxAt.dgTabL1' hb0_0, BoxAt.dgDifB hb0_0, BoxAt.dgTabB hb0_0, wrap_id, cv_u8, cv_i64, Nat.zero_add, wrap_u8, eq_el, ne_el, build_el, Int.toNat_zero]
        refine op_storeB (o := 0) (cs' := elA (e8 i)) st30 hb6_9 rfl rfl (elA_sz _) (by rw [elA_sz]; decide) elA_one elA_all ?_
        intro h6_10 hb6_9 c6_10
        replace hb0_0 := BoxAt.chgA hb0_0 c6_10 (apart_lt hlhb0_0 hfhb6_9 (by omega))
        have := c6_10.size
        replace eB := Ext.then eB c6_10 (ge_of hfhb6_9 (by omega))
        replace cL2 := Ext.then cL2 c6_10 (ge_of hfhb6_9 (by omega))
        replace cJ6 := Ext.then cJ6 c6_10 (ge_of hfhb6_9 (by omega))
        try simp (disch := decide) only [outv_some, outv_none, put_puts]
        refine plK_last (by decide) ?_
        try simp -implicitDefEqProofs (disch := first | decide | assumption | omega) only [go_sem, wrap_id, cv_u8, cv_i64, Nat.zero_add, wrap_u8, eq_el, ne_el, build_el, Int.toNat_zero]
        exact hK h4.size _ _ (by simp [HasL, puts_at]) ⟨hb6_9, (hfhb6_9.mono (by omega)), cJ6⟩
       ·simp -implicitDefEqProofs (disch := first | decide | assumption | omega) only [go_sem, wrap_id, cv_u8, cv_i64, Nat.zero_add, wrap_u8, eq_el, ne_el, build_el, Int.toNat_zero]
        refine op_storeB (o := 0) (cs' := elA (e8 i)) st30 hb6_9 rfl rfl (elA_sz _) (by rw [elA_sz]; decide) elA_one elA_all ?_
        intro h6_10 hb6_9 c6_10
        replace hb0_0 := BoxAt.chgA hb0_0 c6_10 (apart_lt hlhb0_0 hfhb6_9 (by omega))
        have := c6_10.size
        replace eB := Ext.then eB c6_10 (ge_of hfhb6_9 (by omega))
        replace cL2 := Ext.then cL2 c6_10 (ge_of hfhb6_9 (by omega))
        replace cJ6 := Ext.then cJ6 c6_10 (ge_of hfhb6_9 (by omega))
        try simp (disch := decide) only [outv_some, outv_none, put_puts]
        refine plK_last (by decide) ?_
        try simp -implicitDefEqProofs (disch := first | decide | assumption | omega) only [go_sem, ld2, BoxAt.dgL hb0_0, BoxAt.dgP hb0_0, BoxAt.dgS hb0_0, BoxAt.dgDeg hb0_0, BoxAt.dgLev hb0_0, BoxAt.dgDeg0 hb0_0, BoxAt.dgLev0 hb0_0, BoxAt.dgDifL hb0_0, BoxAt.dgTabL hb0_0, BoxAt.dgTabL0 hb0_0, BoxAt.dgTabL1 hb0_0, BoxAt.dgTabL1' hb0_0, BoxAt.dgDifB hb0_0, BoxAt.dgTabB hb0_0, wrap_id, cv_u8, cv_i64, Nat.zero_add, wrap_u8, eq_el, ne_el, build_el, Int.toNat_zero]
        exact hK h4.size _ _ (by simp [HasL, puts_at]) ⟨hb6_9, (hfhb6_9.mono (by omega)), cJ6⟩
      ·simp -implicitDefEqProofs (disch := first | decide | assumption | omega) only [go_sem, ld2, BoxAt.dgL hb0_0, BoxAt.dgP hb0_0, BoxAt.dgS hb0_0, BoxAt.dgDeg hb0_0, BoxAt.dgLev hb0_0, BoxAt.dgDeg0 hb0_0, BoxAt.dgLev0 hb0_0, BoxAt.dgDifL hb0_0, BoxAt.dgTabL hb0_0, BoxAt.dgTabL0 hb0_0, BoxAt.dgTabL1 hb0_0, BoxAt.dgTabL1' hb0_0, BoxAt.dgDifB hb0_0, BoxAt.dgTabB hb0_0, wrap_id, cv_u8, cv_i64, Nat.zero_add, wrap_u8, eq_el, ne_el, build_el, Int.toNat_zero]
       try simp -implicitDefEqProofs (disch := first | decide | assumption | omega) only [go_sem, wrap_id, cv_u8, cv_i64, Nat.zero_add, wrap_u8, eq_el, ne_el, build_el, Int.toNat_zero]
       refine CallA.mono (sUni_ok  (i : Int) _  (by omega)) ?_
       intro v_ h6_1
       rintro ⟨rfl, e6_1⟩
       replace hb0_0 := BoxAt.ext hb0_0 e6_1
       replace hb6_9 := BoxAt.ext hb6_9 e6_1
       have := Ext.size e6_1
       replace eB := Ext.trans eB e6_1
       replace cL2 := Ext.trans cL2 e6_1
       replace cJ6 := Ext.trans cJ6 e6_1
       try simp (disch := decide) only [outv_some, outv_none, put_puts]
       refine plK_pres (Ext.pres e6_1) ?_
       try simp -implicitDefEqProofs (disch := first | decide | assumption | omega) only [go_sem, wrap_id, cv_u8, cv_i64, Nat.zero_add, wrap_u8, eq_el, ne_el, build_el, Int.toNat_zero]
       refine op_storeB (o := 0) (cs' := elA (e8 i)) st30 hb6_9 rfl rfl (elA_sz _) (by rw [elA_sz]; decide) elA_one elA_all ?_
       intro h6_10 hb6_9 c6_10
       replace hb0_0 := BoxAt.chgA hb0_0 c6_10 (apart_lt hlhb0_0 hfhb6_9 (by omega))
       have := c6_10.size
       replace eB := Ext.then eB c6_10 (ge_of hfhb6_9 (by omega))
       replace cL2 := Ext.then cL2 c6_10 (ge_of hfhb6_9 (by omega))
       replace cJ6 := Ext.then cJ6 c6_10 (ge_of hfhb6_9 (by omega))
       try simp (disch := decide) only [outv_some, outv_none, put_puts]
       refine plK_last (by decide) ?_
       try simp -implicitDefEqProofs (disch := first | decide | assumption | omega) only [go_sem, wrap_id, cv_u8, cv_i64, Nat.zero_add, wrap_u8, eq_el, ne_el, build_el, Int.toNat_zero]
       exact hK h4.size _ _ (by simp [HasL, puts_at]) ⟨hb6_9, (hfhb6_9.mono (by omega)), cJ6⟩
    ·rintro bJhb6_9 hj7 ee9 ⟨hb6_9, hfhb6_9, eJ8⟩
     replace hb0_0 := BoxAt.ext hb0_0 eJ8
     have := Ext.size eJ8
     replace eB := Ext.trans eB eJ8
     replace cL2 := Ext.trans cL2 eJ8
     have hlhb6_9 := one_lt hb6_9.lt
     simp only [List.cons_append, List.nil_append]
     refine den_seq ?_
     refine den_seq ?_
     refine den_merge [(52, .bool ((((!(eqE ((X.tab 0) i) (e8 i))) || (!(eqE ((X.tab i) 0) (e8 i)))) || (!(eqE (dfI X.p X.dif (X.dif i) X.s.toNat) z8)))))] [1, 3, 4, 5] (fun H => Ext hj7 H) ?_ ?_
      -- a way
     ·refine den_draw TTok mixed [] [(0, true), (1, true), (2, true), (3, true), (4, true), (5, true), (6, true), (7, true), (8, true), (9, true), (10, true), (11, true), (12, true), (13, true), (14, true), (15, true), (16, true), (17, true), (18, true), (19, true), (20, true), (21, true), (23, true), (22, false), (24, true), (25, true)] (by kernel_rfl) ?_
      intro K hK
      simp -implicitDefEqProofs (disch := first | decide | assumption | (simp (disch := decide) only [slotOf_zero, slotOf_succ, Option.map_some, puts_same, puts_ne, gv_bool, gv_undef, tt, tf, ft, ff, eq_self, if_true, if_false, Bool.false_eq_true, Bool.not_true, Bool.not_false]; done) | omega) only [go_sem, Int.toNat_zero, fa34_5, ia32, ia31, BoxAt.dgL hb0_0, BoxAt.dgP hb0_0, BoxAt.dgS hb0_0, BoxAt.dgDeg hb0_0, BoxAt.dgLev hb0_0, BoxAt.dgDeg0 hb0_0, BoxAt.dgLev0 hb0_0, BoxAt.dgDifL hb0_0, BoxAt.dgTabL hb0_0, BoxAt.dgTabL0 hb0_0, BoxAt.dgTabL1 hb0_0, BoxAt.dgTabL1' hb0_0, BoxAt.dgDifB hb0_0, BoxAt.dgTabB hb0_0, BoxAt.elC hb6_9, BoxAt.elL hb6_9, wrap_id, cv_u8, cv_i64, Nat.zero_add, wrap_u8, eq_el, ne_el, build_el, Int.toNat_zero]
      refine plG_F (by simp (disch := decide) only [slotOf_zero, slotOf_succ, Option.map_some, puts_same, puts_ne, gv_bool, gv_undef, tt, tf, ft, ff, eq_self, if_true, if_false, Bool.false_eq_true, Bool.not_true, Bool.not_false]; rfl) (fun g10 => ?_) (fun g10 => ?_)
      ·try simp -implicitDefEqProofs (disch := first | decide | assumption | (simp (disch := decide) only [slotOf_zero, slotOf_succ, Option.map_some, puts_same, puts_ne, gv_bool, gv_undef, tt, tf, ft, ff, eq_self, if_true, if_false, Bool.false_eq_true, Bool.not_true, Bool.not_false, g10]; done) | omega) only [go_sem, Int.toNat_zero, fa34_5, ia32, ia31, BoxAt.dgL hb0_0, BoxAt.dgP hb0_0, BoxAt.dgS hb0_0, BoxAt.dgDeg hb0_0, BoxAt.dgLev hb0_0, BoxAt.dgDeg0 hb0_0, BoxAt.dgLev0 hb0_0, BoxAt.dgDifL hb0_0, BoxAt.dgTabL hb0_0, BoxAt.dgTabL0 hb0_0, BoxAt.dgTabL1 hb0_0, BoxAt.dgTabL1' hb0_0, BoxAt.dgDifB hb0_0, BoxAt.dgTabB hb0_0, BoxAt.elC hb6_9, BoxAt.elL hb6_9, wrap_id, cv_u8, cv_i64, Nat.zero_add, wrap_u8, eq_el, ne_el, build_el, Int.toNat_zero, g10, eq_self, if_true, if_false, Bool.false_eq_true]
       refine plG_F (by simp (disch := decide) only [slotOf_zero, slotOf_succ, Option.map_some, puts_same, puts_ne, gv_bool, gv_undef, tt, tf, ft, ff, eq_self, if_true, if_false, Bool.false_eq_true, Bool.not_true, Bool.not_false, g10]; rfl) (fun g11 => ?_) (fun g11 => ?_)
       ·try simp -implicitDefEqProofs (disch := first | decide | assumption | (simp (disch := decide) only [slotOf_zero, slotOf_succ, Option.map_some, puts_same, puts_ne, gv_bool, gv_undef, tt, tf, ft, ff, eq_self, if_true, if_false, Bool.false_eq_true, Bool.not_true, Bool.not_false, g10, g11]; done) | omega) only [go_sem, Int.toNat_zero, fa34_4, ia31, BoxAt.dgL hb0_0, BoxAt.dgP hb0_0, BoxAt.dgS hb0_0, BoxAt.dgDeg hb0_0, BoxAt.dgLev hb0_0, BoxAt.dgDeg0 hb0_0, BoxAt.dgLev0 hb0_0, BoxAt.dgDifL hb0_0, BoxAt.dgTabL hb0_0, BoxAt.dgTabL0 hb0_0, BoxAt.dgTabL1 hb0_0, BoxAt.dgTabL1' hb0_0, BoxAt.dgDifB hb0_0, BoxAt.dgTabB hb0_0, wrap_id, cv_u8, cv_i64, Nat.zero_add, wrap_u8, eq_el, ne_el, build_el, Int.toNat_zero, g10, g11, eq_self, if_true, if_false, Bool.false_eq_true]
        try simp -implicitDefEqProofs (disch := first | decide | assumption | omega) only [go_sem, wrap_id, cv_u8, cv_i64, Nat.zero_add, wrap_u8, eq_el, ne_el, build_el, Int.toNat_zero]
        refine CallA.mono (sDif_ok  X (X.dif i) _  hpG (by omega) (by first | assumption | exact e8_by _ | exact By.z8 | exact hBd _ | exact hBt _ _ | exact tmJ_by (by omega) (tmI_by (by omega) _) _ | exact timesP_by (by omega) | exact dfI_by (by omega) _ | exact plusN_by (by omega) (timesP_by (by omega)) | exact dfI_by (by omega) 8) hBd) ?_
        intro v_ h7_22
        rintro ⟨rfl, e7_22⟩
        replace hb0_0 := BoxAt.ext hb0_0 e7_22
        replace hb6_9 := BoxAt.ext hb6_9 e7_22
        have := Ext.size e7_22
        replace eB := Ext.trans eB e7_22
        replace cL2 := Ext.trans cL2 e7_22
        try simp (disch := decide) only [outv_some, outv_none, put_puts]
        refine plK_pres (Ext.pres e7_22) ?_
        try simp -implicitDefEqProofs (disch := first | decide | assumption | (simp (disch := decide) only [slotOf_zero, slotOf_succ, Option.map_some, puts_same, puts_ne, gv_bool, gv_undef, tt, tf, ft, ff, eq_self, if_true, if_false, Bool.false_eq_true, Bool.not_true, Bool.not_false, g10, g11]; done) | omega) only [go_sem, wrap_id, cv_u8, cv_i64, Nat.zero_add, wrap_u8, eq_el, ne_el, build_el, Int.toNat_zero, g10, g11, eq_self, if_true, if_false, Bool.false_eq_true]
        refine hK _ _ ?_
        clear hK K
        refine den_stop ?_
        refine ⟨?_, e7_22⟩
        first | (simp (disch := decide) only [go_sem, g10, g11, eq_self, Bool.true_and, Bool.and_true, Bool.false_and, Bool.and_false, Bool.true_or, Bool.or_true, Bool.false_or, Bool.or_false, if_true, if_false, Bool.false_eq_true]; done) | simp [HasL, sel, puts_at, g10, g11]
       ·try simp -implicitDefEqProofs (disch := first | decide | assumption | (simp (disch := decide) only [slotOf_zero, slotOf_succ, Option.map_some, puts_same, puts_ne, gv_bool, gv_undef, tt, tf, ft, ff, eq_self, if_true, if_false, Bool.false_eq_true, Bool.not_true, Bool.not_false, g10, g11]; done) | omega) only [go_sem, wrap_id, cv_u8, cv_i64, Nat.zero_add, wrap_u8, eq_el, ne_el, build_el, Int.toNat_zero, g10, g11, eq_self, if_true, if_false, Bool.false_eq_true]
        refine hK _ _ ?_
        clear hK K
        refine den_stop ?_
        refine ⟨?_, Ext.refl _⟩
        first | (simp (disch := decide) only [go_sem, g10, g11, eq_self, Bool.true_and, Bool.and_true, Bool.false_and, Bool.and_false, Bool.true_or, Bool.or_true, Bool.false_or, Bool.or_false, if_true, if_false, Bool.false_eq_true]; done) | simp [HasL, sel, puts_at, g10, g11]
      ·try simp -implicitDefEqProofs (disch := first | decide | assumption | (simp (disch := decide) only [slotOf_zero, slotOf_succ, Option.map_some, puts_same, puts_ne, gv_bool, gv_undef, tt, tf, ft, ff, eq_self, if_true, if_false, Bool.false_eq_true, Bool.not_true, Bool.not_false, g10]; done) | omega) only [go_sem, wrap_id, cv_u8, cv_i64, Nat.zero_add, wrap_u8, eq_el, ne_el, build_el, Int.toNat_zero, g10, eq_self, if_true, if_false, Bool.false_eq_true]
       try simp -implicitDefEqProofs (disch := first | decide | assumption | (simp (disch := decide) only [slotOf_zero, slotOf_succ, Option.map_some, puts_same, puts_ne, gv_bool, gv_undef, tt, tf, ft, ff, eq_self, if_true, if_false, Bool.false_eq_true, Bool.not_true, Bool.not_false, g10]; done) | omega) only [go_sem, wrap_id, cv_u8, cv_i64, Nat.zero_add, wrap_u8, eq_el, ne_el, build_el, Int.toNat_zero, g10, eq_self, if_true, if_false, Bool.false_eq_true]
       refine hK _ _ ?_
       clear hK K
       refine den_stop ?_
       refine ⟨?_, Ext.refl _⟩
       first | (simp (disch := decide) only [go_sem, g10, eq_self, Bool.true_and, Bool.and_true, Bool.false_and, Bool.and_false, Bool.true_or, Bool.or_true, Bool.false_or, Bool.or_false, if_true, if_false, Bool.false_eq_true]; done) | simp [HasL, sel, puts_at, g10]
     intro en12 h13 e14
     replace hb0_0 := BoxAt.ext hb0_0 e14
     replace hb6_9 := BoxAt.ext hb6_9 e14
     have := Ext.size e14
     replace eB := Ext.trans eB e14
     replace cL2 := Ext.trans cL2 e14
     simp (disch := decide) only [go_sem]
     refine den_cond rfl (fun c2 => ?_) (fun c2 => ?_)
     ·try simp only [decide_eq_true_eq, decide_eq_false_iff_not, beq_iff_eq, beq_eq_false_iff_ne, bne_iff_ne, ne_eq, Bool.not_eq_true', Bool.not_eq_false', Bool.and_eq_true, Bool.or_eq_true, bne_eq_false_iff_eq, Bool.or_eq_false_iff, Bool.and_eq_false_iff, in3_iff, in3_f] at c2
      refine den_seq ?_
      refine den_region TTok ?_
      intro K hK
      simp -implicitDefEqProofs (disch := first | decide | assumption | omega) only [go_sem, wrap_id, cv_u8, cv_i64, Nat.zero_add, wrap_u8, eq_el, ne_el, build_el, Int.toNat_zero]
      refine hK _ _ ?_
      clear hK K
      refine den_ret ?_
      simp (disch := decide) only [resP_1, puts_same, puts_ne]
      exact ⟨vbool (dgB_n (fun hh => un_nos hB hfm (by omega) (hh.un i (by omega)) c2)), eB⟩
     ·try simp only [decide_eq_true_eq, decide_eq_false_iff_not, beq_iff_eq, beq_eq_false_iff_ne, bne_iff_ne, ne_eq, Bool.not_eq_true', Bool.not_eq_false', Bool.and_eq_true, Bool.or_eq_true, bne_eq_false_iff_eq, Bool.or_eq_false_iff, Bool.and_eq_false_iff, in3_iff, in3_f] at c2
      refine den_skip ?_
      refine den_seq ?_
      refine den_region TTok ?_
      intro K hK
      simp -implicitDefEqProofs (disch := first | decide | assumption | omega) only [go_sem, wrap_id, cv_u8, cv_i64, Nat.zero_add, wrap_u8, eq_el, ne_el, build_el, Int.toNat_zero]
      refine hK _ _ ?_
      clear hK K
      refine den_block ?_
      refine den_sel [6, 1, 3, 4, 5] ?_
      intro env_15
      simp only [go_sem]
      refine den_loopS (σ := Nat) (fun st_ => [(6, .int .i64 (st_ : Int))]) (fun st_ H => ((st_ : Int) ≤ X.s) ∧ (∀ b : Nat, b < st_ → LbF X i b ∧ ∀ k : Nat, (k : Int) < X.s → AsF X i b k) ∧ (Ext h13 H)) (fun st_ => X.s.toNat - st_) 0 ?_ ?_
      ·exact ⟨by omega, fun b h => by omega, Ext.refl _⟩
      ·rintro j h18 ee17 ⟨hj, hzj, cL16⟩
       replace hb0_0 := BoxAt.ext hb0_0 cL16
       replace hb6_9 := BoxAt.ext hb6_9 cL16
       have := Ext.size cL16
       replace eB := Ext.trans eB cL16
       replace cL2 := Ext.trans cL2 cL16
       simp only [List.cons_append, List.nil_append]
       refine den_seq ?_
       refine den_seq ?_
       refine den_region TTok ?_
       intro K hK
       simp -implicitDefEqProofs (disch := first | decide | assumption | omega) only [go_sem, fa34_1, ld2, BoxAt.dgL hb0_0, BoxAt.dgP hb0_0, BoxAt.dgS hb0_0, BoxAt.dgDeg hb0_0, BoxAt.dgLev hb0_0, BoxAt.dgDeg0 hb0_0, BoxAt.dgLev0 hb0_0, BoxAt.dgDifL hb0_0, BoxAt.dgTabL hb0_0, BoxAt.dgTabL0 hb0_0, BoxAt.dgTabL1 hb0_0, BoxAt.dgTabL1' hb0_0, BoxAt.dgDifB hb0_0, BoxAt.dgTabB hb0_0, wrap_id, cv_u8, cv_i64, Nat.zero_add, wrap_u8, eq_el, ne_el, build_el, Int.toNat_zero]
       refine hK _ _ ?_
       clear hK K
       refine den_cond rfl (fun c3 => ?_) (fun c3 => ?_)
       ·try simp only [decide_eq_true_eq, decide_eq_false_iff_not, beq_iff_eq, beq_eq_false_iff_ne, bne_iff_ne, ne_eq, Bool.not_eq_true', Bool.not_eq_false', Bool.and_eq_true, Bool.or_eq_true, bne_eq_false_iff_eq, Bool.or_eq_false_iff, Bool.and_eq_false_iff, in3_iff, in3_f] at c3
        refine den_skip ?_
        refine den_seq ?_
        refine den_block ?_
        refine den_seq ?_
        refine den_sel [1, 3, 4, 5, 6] ?_
        intro env_19
        simp only [go_sem]
        refine den_drawTJ (σ := Nat) TTok (fun st_ => [(7, .pointer (some ⟨st_, 0, none⟩))]) (fun st_ H => (BoxAt H st_ (elA (timesP X.p X.tab (X.dif i) (e8 j) X.s.toNat)) 30) ∧ (Fresh h18.size [st_]) ∧ (Ext h18 H)) mixed [9] [(0, true), (1, true), (2, true), (3, true), (4, true), (5, true)] (.fork 6 [] (.fork 7 [(8, false), (9, false)] .fin 8 [(7, false), (9, false)] .fin) 8 [(6, false), (7, false), (9, false)] .fin) (by kernel_rfl) ?_ ?_
        ·intro K hK
         have cJ20 := Ext.refl h18
         simp -implicitDefEqProofs (disch := first | decide | assumption | omega) only [go_sem, Int.toNat_zero, fa34_4, ia31, BoxAt.dgL hb0_0, BoxAt.dgP hb0_0, BoxAt.dgS hb0_0, BoxAt.dgDeg hb0_0, BoxAt.dgLev hb0_0, BoxAt.dgDeg0 hb0_0, BoxAt.dgLev0 hb0_0, BoxAt.dgDifL hb0_0, BoxAt.dgTabL hb0_0, BoxAt.dgTabL0 hb0_0, BoxAt.dgTabL1 hb0_0, BoxAt.dgTabL1' hb0_0, BoxAt.dgDifB hb0_0, BoxAt.dgTabB hb0_0, wrap_id, cv_u8, cv_i64, Nat.zero_add, wrap_u8, eq_el, ne_el, build_el, Int.toNat_zero]
         refine And.intro ?_ ?_
         ·simp -implicitDefEqProofs (disch := first | decide | assumption | omega) only [go_sem, wrap_id, cv_u8, cv_i64, Nat.zero_add, wrap_u8, eq_el, ne_el, build_el, Int.toNat_zero]
          try simp -implicitDefEqProofs (disch := first | decide | assumption | omega) only [go_sem, wrap_id, cv_u8, cv_i64, Nat.zero_add, wrap_u8, eq_el, ne_el, build_el, Int.toNat_zero]
          refine CallA.mono (sUni_ok  (j : Int) _  (by omega)) ?_
          intro v_ h12_6
          rintro ⟨rfl, e12_6⟩
          replace hb0_0 := BoxAt.ext hb0_0 e12_6
          replace hb6_9 := BoxAt.ext hb6_9 e12_6
          have := Ext.size e12_6
          replace eB := Ext.trans eB e12_6
          replace cL2 := Ext.trans cL2 e12_6
          replace cL16 := Ext.trans cL16 e12_6
          replace cJ20 := Ext.trans cJ20 e12_6
          try simp (disch := decide) only [outv_some, outv_none, put_puts]
          refine plK_pres (Ext.pres e12_6) ?_
          try simp -implicitDefEqProofs (disch := first | decide | assumption | omega) only [go_sem, wrap_id, cv_u8, cv_i64, Nat.zero_add, wrap_u8, eq_el, ne_el, build_el, Int.toNat_zero]
          refine And.intro ?_ ?_
          ·simp -implicitDefEqProofs (disch := first | decide | assumption | omega) only [go_sem, wrap_id, cv_u8, cv_i64, Nat.zero_add, wrap_u8, eq_el, ne_el, build_el, Int.toNat_zero]
           try simp -implicitDefEqProofs (disch := first | decide | assumption | omega) only [go_sem, wrap_id, cv_u8, cv_i64, Nat.zero_add, wrap_u8, eq_el, ne_el, build_el, Int.toNat_zero]
           refine CallA.mono (sTms_ok  X (X.dif i) (e8 j) _  hpG (by omega) (by first | assumption | exact e8_by _ | exact By.z8 | exact hBd _ | exact hBt _ _ | exact tmJ_by (by omega) (tmI_by (by omega) _) _ | exact timesP_by (by omega) | exact dfI_by (by omega) _ | exact plusN_by (by omega) (timesP_by (by omega)) | exact dfI_by (by omega) 8) (by first | assumption | exact e8_by _ | exact By.z8 | exact hBd _ | exact hBt _ _ | exact tmJ_by (by omega) (tmI_by (by omega) _) _ | exact timesP_by (by omega) | exact dfI_by (by omega) _ | exact plusN_by (by omega) (timesP_by (by omega)) | exact dfI_by (by omega) 8) hBt (by first | assumption | exact e8_lt (by omega) _ | exact z8_lt (by omega) | exact hB7 _ (by omega) | exact hB8 _ _ (by omega) (by omega) | exact tms_lt (by omega) | exact dfs_lt (by omega)) (by first | assumption | exact e8_lt (by omega) _ | exact z8_lt (by omega) | exact hB7 _ (by omega) | exact hB8 _ _ (by omega) (by omega) | exact tms_lt (by omega) | exact dfs_lt (by omega))) ?_
           intro v_ h12_7
           rintro ⟨rfl, e12_7⟩
           replace hb0_0 := BoxAt.ext hb0_0 e12_7
           replace hb6_9 := BoxAt.ext hb6_9 e12_7
           have := Ext.size e12_7
           replace eB := Ext.trans eB e12_7
           replace cL2 := Ext.trans cL2 e12_7
           replace cL16 := Ext.trans cL16 e12_7
           replace cJ20 := Ext.trans cJ20 e12_7
           try simp (disch := decide) only [outv_some, outv_none, put_puts]
           refine plK_pres (Ext.pres e12_7) ?_
           try simp -implicitDefEqProofs (disch := first | decide | assumption | omega) only [go_sem, wrap_id, cv_u8, cv_i64, Nat.zero_add, wrap_u8, eq_el, ne_el, build_el, Int.toNat_zero]
           refine op_alloc (cs := elA z8) (by kernel_rfl) ?_
           intro h12_8 e12_8 hb12_8 z12_8
           replace hb0_0 := BoxAt.ext hb0_0 e12_8
           replace hb6_9 := BoxAt.ext hb6_9 e12_8
           have := Ext.size e12_8
           replace eB := Ext.trans eB e12_8
           replace cL2 := Ext.trans cL2 e12_8
           replace cL16 := Ext.trans cL16 e12_8
           replace cJ20 := Ext.trans cJ20 e12_8
           have hfhb12_8 : Fresh h12_7.size [h12_7.size] := Fresh.one _
           have hlhb12_8 := one_lt (show h12_7.size < h12_8.size by omega)
           try simp (disch := decide) only [outv_some, outv_none, put_puts]
           refine plK_pres (Ext.pres e12_8) ?_
           try simp -implicitDefEqProofs (disch := first | decide | assumption | omega) only [go_sem, wrap_id, cv_u8, cv_i64, Nat.zero_add, wrap_u8, eq_el, ne_el, build_el, Int.toNat_zero]
           refine op_storeB (o := 0) (cs' := elA (timesP X.p X.tab (X.dif i) (e8 j) X.s.toNat)) st30 hb12_8 rfl rfl (elA_sz _) (by rw [elA_sz]; decide) elA_one elA_all ?_
           intro h12_9 hb12_8 c12_9
           replace hb0_0 := BoxAt.chgA hb0_0 c12_9 (apart_lt hlhb0_0 hfhb12_8 (by omega))
           replace hb6_9 := BoxAt.chgA hb6_9 c12_9 (apart_lt hlhb6_9 hfhb12_8 (by omega))
           have := c12_9.size
           replace eB := Ext.then eB c12_9 (ge_of hfhb12_8 (by omega))
           replace cL2 := Ext.then cL2 c12_9 (ge_of hfhb12_8 (by omega))
           replace cL16 := Ext.then cL16 c12_9 (ge_of hfhb12_8 (by omega))
           replace cJ20 := Ext.then cJ20 c12_9 (ge_of hfhb12_8 (by omega))
           try simp (disch := decide) only [outv_some, outv_none, put_puts]
           refine plK_last (by decide) ?_
           try simp -implicitDefEqProofs (disch := first | decide | assumption | omega) only [go_sem, wrap_id, cv_u8, cv_i64, Nat.zero_add, wrap_u8, eq_el, ne_el, build_el, Int.toNat_zero]
           exact hK h12_7.size _ _ (by simp [HasL, puts_at]) ⟨hb12_8, (hfhb12_8.mono (by omega)), cJ20⟩
          ·simp -implicitDefEqProofs (disch := first | decide | assumption | omega) only [go_sem, wrap_id, cv_u8, cv_i64, Nat.zero_add, wrap_u8, eq_el, ne_el, build_el, Int.toNat_zero]
           refine op_alloc (cs := elA z8) (by kernel_rfl) ?_
           intro h12_8 e12_8 hb12_8 z12_8
           replace hb0_0 := BoxAt.ext hb0_0 e12_8
           replace hb6_9 := BoxAt.ext hb6_9 e12_8
           have := Ext.size e12_8
           replace eB := Ext.trans eB e12_8
           replace cL2 := Ext.trans cL2 e12_8
           replace cL16 := Ext.trans cL16 e12_8
           replace cJ20 := Ext.trans cJ20 e12_8
           have hfhb12_8 : Fresh h12_6.size [h12_6.size] := Fresh.one _
           have hlhb12_8 := one_lt (show h12_6.size < h12_8.size by omega)
           try simp (disch := decide) only [outv_some, outv_none, put_puts]
           refine plK_pres (Ext.pres e12_8) ?_
           try simp -implicitDefEqProofs (disch := first | decide | assumption | omega) only [go_sem, wrap_id, cv_u8, cv_i64, Nat.zero_add, wrap_u8, eq_el, ne_el, build_el, Int.toNat_zero]
           try simp -implicitDefEqProofs (disch := first | decide | assumption | omega) only [go_sem, wrap_id, cv_u8, cv_i64, Nat.zero_add, wrap_u8, eq_el, ne_el, build_el, Int.toNat_zero]
           refine CallA.mono (sTms_ok  X (X.dif i) (e8 j) _  hpG (by omega) (by first | assumption | exact e8_by _ | exact By.z8 | exact hBd _ | exact hBt _ _ | exact tmJ_by (by omega) (tmI_by (by omega) _) _ | exact timesP_by (by omega) | exact dfI_by (by omega) _ | exact plusN_by (by omega) (timesP_by (by omega)) | exact dfI_by (by omega) 8) (by first | assumption | exact e8_by _ | exact By.z8 | exact hBd _ | exact hBt _ _ | exact tmJ_by (by omega) (tmI_by (by omega) _) _ | exact timesP_by (by omega) | exact dfI_by (by omega) _ | exact plusN_by (by omega) (timesP_by (by omega)) | exact dfI_by (by omega) 8) hBt (by first | assumption | exact e8_lt (by omega) _ | exact z8_lt (by omega) | exact hB7 _ (by omega) | exact hB8 _ _ (by omega) (by omega) | exact tms_lt (by omega) | exact dfs_lt (by omega)) (by first | assumption | exact e8_lt (by omega) _ | exact z8_lt (by omega) | exact hB7 _ (by omega) | exact hB8 _ _ (by omega) (by omega) | exact tms_lt (by omega) | exact dfs_lt (by omega))) ?_
           intro v_ h12_7
           rintro ⟨rfl, e12_7⟩
           replace hb0_0 := BoxAt.ext hb0_0 e12_7
           replace hb6_9 := BoxAt.ext hb6_9 e12_7
           replace hb12_8 := BoxAt.ext hb12_8 e12_7
           have := Ext.size e12_7
           replace eB := Ext.trans eB e12_7
           replace cL2 := Ext.trans cL2 e12_7
           replace cL16 := Ext.trans cL16 e12_7
           replace cJ20 := Ext.trans cJ20 e12_7
           try simp (disch := decide) only [outv_some, outv_none, put_puts]
           refine plK_pres (Ext.pres e12_7) ?_
           try simp -implicitDefEqProofs (disch := first | decide | assumption | omega) only [go_sem, wrap_id, cv_u8, cv_i64, Nat.zero_add, wrap_u8, eq_el, ne_el, build_el, Int.toNat_zero]
           refine op_storeB (o := 0) (cs' := elA (timesP X.p X.tab (X.dif i) (e8 j) X.s.toNat)) st30 hb12_8 rfl rfl (elA_sz _) (by rw [elA_sz]; decide) elA_one elA_all ?_
           intro h12_9 hb12_8 c12_9
           replace hb0_0 := BoxAt.chgA hb0_0 c12_9 (apart_lt hlhb0_0 hfhb12_8 (by omega))
           replace hb6_9 := BoxAt.chgA hb6_9 c12_9 (apart_lt hlhb6_9 hfhb12_8 (by omega))
           have := c12_9.size
           replace eB := Ext.then eB c12_9 (ge_of hfhb12_8 (by omega))
           replace cL2 := Ext.then cL2 c12_9 (ge_of hfhb12_8 (by omega))
           replace cL16 := Ext.then cL16 c12_9 (ge_of hfhb12_8 (by omega))
           replace cJ20 := Ext.then cJ20 c12_9 (ge_of hfhb12_8 (by omega))
           try simp (disch := decide) only [outv_some, outv_none, put_puts]
           refine plK_last (by decide) ?_
           try simp -implicitDefEqProofs (disch := first | decide | assumption | omega) only [go_sem, wrap_id, cv_u8, cv_i64, Nat.zero_add, wrap_u8, eq_el, ne_el, build_el, Int.toNat_zero]
           exact hK h12_6.size _ _ (by simp [HasL, puts_at]) ⟨hb12_8, (hfhb12_8.mono (by omega)), cJ20⟩
         ·simp -implicitDefEqProofs (disch := first | decide | assumption | omega) only [go_sem, wrap_id, cv_u8, cv_i64, Nat.zero_add, wrap_u8, eq_el, ne_el, build_el, Int.toNat_zero]
          refine op_alloc (cs := elA z8) (by kernel_rfl) ?_
          intro h12_8 e12_8 hb12_8 z12_8
          replace hb0_0 := BoxAt.ext hb0_0 e12_8
          replace hb6_9 := BoxAt.ext hb6_9 e12_8
          have := Ext.size e12_8
          replace eB := Ext.trans eB e12_8
          replace cL2 := Ext.trans cL2 e12_8
          replace cL16 := Ext.trans cL16 e12_8
          replace cJ20 := Ext.trans cJ20 e12_8
          have hfhb12_8 : Fresh h18.size [h18.size] := Fresh.one _
          have hlhb12_8 := one_lt (show h18.size < h12_8.size by omega)
          try simp (disch := decide) only [outv_some, outv_none, put_puts]
          refine plK_pres (Ext.pres e12_8) ?_
          try simp -implicitDefEqProofs (disch := first | decide | assumption | omega) only [go_sem, wrap_id, cv_u8, cv_i64, Nat.zero_add, wrap_u8, eq_el, ne_el, build_el, Int.toNat_zero]
          try simp -implicitDefEqProofs (disch := first | decide | assumption | omega) only [go_sem, wrap_id, cv_u8, cv_i64, Nat.zero_add, wrap_u8, eq_el, ne_el, build_el, Int.toNat_zero]
          refine CallA.mono (sUni_ok  (j : Int) _  (by omega)) ?_
          intro v_ h12_6
          rintro ⟨rfl, e12_6⟩
          replace hb0_0 := BoxAt.ext hb0_0 e12_6
          replace hb6_9 := BoxAt.ext hb6_9 e12_6
          replace hb12_8 := BoxAt.ext hb12_8 e12_6
          have := Ext.size e12_6
          replace eB := Ext.trans eB e12_6
          replace cL2 := Ext.trans cL2 e12_6
          replace cL16 := Ext.trans cL16 e12_6
          replace cJ20 := Ext.trans cJ20 e12_6
          try simp (disch := decide) only [outv_some, outv_none, put_puts]
          refine plK_pres (Ext.pres e12_6) ?_
          try simp -implicitDefEqProofs (disch := first | decide | assumption | omega) only [go_sem, wrap_id, cv_u8, cv_i64, Nat.zero_add, wrap_u8, eq_el, ne_el, build_el, Int.toNat_zero]
          try simp -implicitDefEqProofs (disch := first | decide | assumption | omega) only [go_sem, wrap_id, cv_u8, cv_i64, Nat.zero_add, wrap_u8, eq_el, ne_el, build_el, Int.toNat_zero]
          refine CallA.mono (sTms_ok  X (X.dif i) (e8 j) _  hpG (by omega) (by first | assumption | exact e8_by _ | exact By.z8 | exact hBd _ | exact hBt _ _ | exact tmJ_by (by omega) (tmI_by (by omega) _) _ | exact timesP_by (by omega) | exact dfI_by (by omega) _ | exact plusN_by (by omega) (timesP_by (by omega)) | exact dfI_by (by omega) 8) (by first | assumption | exact e8_by _ | exact By.z8 | exact hBd _ | exact hBt _ _ | exact tmJ_by (by omega) (tmI_by (by omega) _) _ | exact timesP_by (by omega) | exact dfI_by (by omega) _ | exact plusN_by (by omega) (timesP_by (by omega)) | exact dfI_by (by omega) 8) hBt (by first | assumption | exact e8_lt (by omega) _ | exact z8_lt (by omega) | exact hB7 _ (by omega) | exact hB8 _ _ (by omega) (by omega) | exact tms_lt (by omega) | exact dfs_lt (by omega)) (by first | assumption | exact e8_lt (by omega) _ | exact z8_lt (by omega) | exact hB7 _ (by omega) | exact hB8 _ _ (by omega) (by omega) | exact tms_lt (by omega) | exact dfs_lt (by omega))) ?_
          intro v_ h12_7
          rintro ⟨rfl, e12_7⟩
          replace hb0_0 := BoxAt.ext hb0_0 e12_7
          replace hb6_9 := BoxAt.ext hb6_9 e12_7
          replace hb12_8 := BoxAt.ext hb12_8 e12_7
          have := Ext.size e12_7
          replace eB := Ext.trans eB e12_7
          replace cL2 := Ext.trans cL2 e12_7
          replace cL16 := Ext.trans cL16 e12_7
          replace cJ20 := Ext.trans cJ20 e12_7
          try simp (disch := decide) only [outv_some, outv_none, put_puts]
          refine plK_pres (Ext.pres e12_7) ?_
          try simp -implicitDefEqProofs (disch := first | decide | assumption | omega) only [go_sem, wrap_id, cv_u8, cv_i64, Nat.zero_add, wrap_u8, eq_el, ne_el, build_el, Int.toNat_zero]
          refine op_storeB (o := 0) (cs' := elA (timesP X.p X.tab (X.dif i) (e8 j) X.s.toNat)) st30 hb12_8 rfl rfl (elA_sz _) (by rw [elA_sz]; decide) elA_one elA_all ?_
          intro h12_9 hb12_8 c12_9
          replace hb0_0 := BoxAt.chgA hb0_0 c12_9 (apart_lt hlhb0_0 hfhb12_8 (by omega))
          replace hb6_9 := BoxAt.chgA hb6_9 c12_9 (apart_lt hlhb6_9 hfhb12_8 (by omega))
          have := c12_9.size
          replace eB := Ext.then eB c12_9 (ge_of hfhb12_8 (by omega))
          replace cL2 := Ext.then cL2 c12_9 (ge_of hfhb12_8 (by omega))
          replace cL16 := Ext.then cL16 c12_9 (ge_of hfhb12_8 (by omega))
          replace cJ20 := Ext.then cJ20 c12_9 (ge_of hfhb12_8 (by omega))
          try simp (disch := decide) only [outv_some, outv_none, put_puts]
          refine plK_last (by decide) ?_
          try simp -implicitDefEqProofs (disch := first | decide | assumption | omega) only [go_sem, wrap_id, cv_u8, cv_i64, Nat.zero_add, wrap_u8, eq_el, ne_el, build_el, Int.toNat_zero]
          exact hK h18.size _ _ (by simp [HasL, puts_at]) ⟨hb12_8, (hfhb12_8.mono (by omega)), cJ20⟩
        ·rintro bJhb12_8 hj21 ee23 ⟨hb12_8, hfhb12_8, eJ22⟩
         replace hb0_0 := BoxAt.ext hb0_0 eJ22
         replace hb6_9 := BoxAt.ext hb6_9 eJ22
         have := Ext.size eJ22
         replace eB := Ext.trans eB eJ22
         replace cL2 := Ext.trans cL2 eJ22
         replace cL16 := Ext.trans cL16 eJ22
         have hlhb12_8 := one_lt hb12_8.lt
         simp only [List.cons_append, List.nil_append]
         refine den_seq ?_
         refine den_seq ?_
         have hsg := tmod_in (p := 2) (x := X.deg i) (by decide)
         refine den_draw TTok mixed [] [(0, true), (1, true), (2, true), (3, true), (4, true), (5, true), (6, true), (8, true), (9, true), (10, true), (11, true), (12, true), (13, true), (14, true), (15, true), (16, true), (18, true), (7, false), (17, false), (19, false), (20, true)] (by kernel_rfl) ?_
         intro K hK
         simp -implicitDefEqProofs (disch := first | decide | assumption | omega) only [go_sem, Int.toNat_zero, fa34_0, fa34_4, fa34_5, ia32, ia31, ld2, BoxAt.dgL hb0_0, BoxAt.dgP hb0_0, BoxAt.dgS hb0_0, BoxAt.dgDeg hb0_0, BoxAt.dgLev hb0_0, BoxAt.dgDeg0 hb0_0, BoxAt.dgLev0 hb0_0, BoxAt.dgDifL hb0_0, BoxAt.dgTabL hb0_0, BoxAt.dgTabL0 hb0_0, BoxAt.dgTabL1 hb0_0, BoxAt.dgTabL1' hb0_0, BoxAt.dgDifB hb0_0, BoxAt.dgTabB hb0_0, BoxAt.elC hb6_9, BoxAt.elL hb6_9, BoxAt.elC hb12_8, BoxAt.elL hb12_8, wrap_id, cv_u8, cv_i64, Nat.zero_add, wrap_u8, eq_el, ne_el, build_el, Int.toNat_zero]
         try simp -implicitDefEqProofs (disch := first | decide | assumption | omega) only [go_sem, wrap_id, cv_u8, cv_i64, Nat.zero_add, wrap_u8, eq_el, ne_el, build_el, Int.toNat_zero]
         refine CallA.mono (sDif_ok  X ((X.tab i) j) _  hpG (by omega) (by first | assumption | exact e8_by _ | exact By.z8 | exact hBd _ | exact hBt _ _ | exact tmJ_by (by omega) (tmI_by (by omega) _) _ | exact timesP_by (by omega) | exact dfI_by (by omega) _ | exact plusN_by (by omega) (timesP_by (by omega)) | exact dfI_by (by omega) 8) hBd) ?_
         intro v_ h13_7
         rintro ⟨rfl, e13_7⟩
         replace hb0_0 := BoxAt.ext hb0_0 e13_7
         replace hb6_9 := BoxAt.ext hb6_9 e13_7
         replace hb12_8 := BoxAt.ext hb12_8 e13_7
         have := Ext.size e13_7
         replace eB := Ext.trans eB e13_7
         replace cL2 := Ext.trans cL2 e13_7
         replace cL16 := Ext.trans cL16 e13_7
         try simp (disch := decide) only [outv_some, outv_none, put_puts]
         refine plK_pres (Ext.pres e13_7) ?_
         try simp -implicitDefEqProofs (disch := first | decide | assumption | omega) only [go_sem, wrap_id, cv_u8, cv_i64, Nat.zero_add, wrap_u8, eq_el, ne_el, build_el, Int.toNat_zero]
         try simp -implicitDefEqProofs (disch := first | decide | assumption | omega) only [go_sem, wrap_id, cv_u8, cv_i64, Nat.zero_add, wrap_u8, eq_el, ne_el, build_el, Int.toNat_zero]
         refine CallA.mono (sTms_ok  X (e8 i) (X.dif j) _  hpG (by omega) (by first | assumption | exact e8_by _ | exact By.z8 | exact hBd _ | exact hBt _ _ | exact tmJ_by (by omega) (tmI_by (by omega) _) _ | exact timesP_by (by omega) | exact dfI_by (by omega) _ | exact plusN_by (by omega) (timesP_by (by omega)) | exact dfI_by (by omega) 8) (by first | assumption | exact e8_by _ | exact By.z8 | exact hBd _ | exact hBt _ _ | exact tmJ_by (by omega) (tmI_by (by omega) _) _ | exact timesP_by (by omega) | exact dfI_by (by omega) _ | exact plusN_by (by omega) (timesP_by (by omega)) | exact dfI_by (by omega) 8) hBt (by first | assumption | exact e8_lt (by omega) _ | exact z8_lt (by omega) | exact hB7 _ (by omega) | exact hB8 _ _ (by omega) (by omega) | exact tms_lt (by omega) | exact dfs_lt (by omega)) (by first | assumption | exact e8_lt (by omega) _ | exact z8_lt (by omega) | exact hB7 _ (by omega) | exact hB8 _ _ (by omega) (by omega) | exact tms_lt (by omega) | exact dfs_lt (by omega))) ?_
         intro v_ h13_17
         rintro ⟨rfl, e13_17⟩
         replace hb0_0 := BoxAt.ext hb0_0 e13_17
         replace hb6_9 := BoxAt.ext hb6_9 e13_17
         replace hb12_8 := BoxAt.ext hb12_8 e13_17
         have := Ext.size e13_17
         replace eB := Ext.trans eB e13_17
         replace cL2 := Ext.trans cL2 e13_17
         replace cL16 := Ext.trans cL16 e13_17
         try simp (disch := decide) only [outv_some, outv_none, put_puts]
         refine plK_pres (Ext.pres e13_17) ?_
         try simp -implicitDefEqProofs (disch := first | decide | assumption | omega) only [go_sem, wrap_id, cv_u8, cv_i64, Nat.zero_add, wrap_u8, eq_el, ne_el, build_el, Int.toNat_zero]
         try simp -implicitDefEqProofs (disch := first | decide | assumption | omega) only [go_sem, wrap_id, cv_u8, cv_i64, Nat.zero_add, wrap_u8, eq_el, ne_el, build_el, Int.toNat_zero]
         refine CallA.mono (sAdd8_ok  X.p (timesP X.p X.tab (X.dif i) (e8 j) X.s.toNat) (timesP X.p X.tab (e8 i) (X.dif j) X.s.toNat) ((1 : Int) - ((2 : Int) * (Int.tmod (X.deg i) (2 : Int)))) _  hpG (by first | assumption | exact e8_by _ | exact By.z8 | exact hBd _ | exact hBt _ _ | exact tmJ_by (by omega) (tmI_by (by omega) _) _ | exact timesP_by (by omega) | exact dfI_by (by omega) _ | exact plusN_by (by omega) (timesP_by (by omega)) | exact dfI_by (by omega) 8) (by first | assumption | exact e8_by _ | exact By.z8 | exact hBd _ | exact hBt _ _ | exact tmJ_by (by omega) (tmI_by (by omega) _) _ | exact timesP_by (by omega) | exact dfI_by (by omega) _ | exact plusN_by (by omega) (timesP_by (by omega)) | exact dfI_by (by omega) 8) (by omega)) ?_
         intro v_ h13_19
         rintro ⟨rfl, e13_19⟩
         replace hb0_0 := BoxAt.ext hb0_0 e13_19
         replace hb6_9 := BoxAt.ext hb6_9 e13_19
         replace hb12_8 := BoxAt.ext hb12_8 e13_19
         have := Ext.size e13_19
         replace eB := Ext.trans eB e13_19
         replace cL2 := Ext.trans cL2 e13_19
         replace cL16 := Ext.trans cL16 e13_19
         try simp (disch := decide) only [outv_some, outv_none, put_puts]
         refine plK_pres (Ext.pres e13_19) ?_
         try simp -implicitDefEqProofs (disch := first | decide | assumption | omega) only [go_sem, wrap_id, cv_u8, cv_i64, Nat.zero_add, wrap_u8, eq_el, ne_el, build_el, Int.toNat_zero]
         refine hK _ _ ?_
         clear hK K
         refine den_cond rfl (fun c4 => ?_) (fun c4 => ?_)
         ·try simp only [decide_eq_true_eq, decide_eq_false_iff_not, beq_iff_eq, beq_eq_false_iff_ne, bne_iff_ne, ne_eq, Bool.not_eq_true', Bool.not_eq_false', Bool.and_eq_true, Bool.or_eq_true, bne_eq_false_iff_eq, Bool.or_eq_false_iff, Bool.and_eq_false_iff, in3_iff, in3_f] at c4
          refine den_seq ?_
          refine den_region TTok ?_
          intro K hK
          simp -implicitDefEqProofs (disch := first | decide | assumption | omega) only [go_sem, wrap_id, cv_u8, cv_i64, Nat.zero_add, wrap_u8, eq_el, ne_el, build_el, Int.toNat_zero]
          refine hK _ _ ?_
          clear hK K
          refine den_ret ?_
          simp (disch := decide) only [resP_1, puts_same, puts_ne]
          exact ⟨vbool (dgB_n (fun hh => lb_nos hB hfm (by omega) (by omega) (hh.lb i (by omega) j (by omega)) c4)), eB⟩
         ·try simp only [decide_eq_true_eq, decide_eq_false_iff_not, beq_iff_eq, beq_eq_false_iff_ne, bne_iff_ne, ne_eq, Bool.not_eq_true', Bool.not_eq_false', Bool.and_eq_true, Bool.or_eq_true, bne_eq_false_iff_eq, Bool.or_eq_false_iff, Bool.and_eq_false_iff, in3_iff, in3_f] at c4
          refine den_skip ?_
          refine den_seq ?_
          refine den_region TTok ?_
          intro K hK
          simp -implicitDefEqProofs (disch := first | decide | assumption | omega) only [go_sem, wrap_id, cv_u8, cv_i64, Nat.zero_add, wrap_u8, eq_el, ne_el, build_el, Int.toNat_zero]
          refine hK _ _ ?_
          clear hK K
          refine den_block ?_
          refine den_sel [8, 1, 3, 4, 5, 6] ?_
          intro env_24
          simp only [go_sem]
          refine den_loopS (σ := Nat) (fun st_ => [(8, .int .i64 (st_ : Int))]) (fun st_ H => ((st_ : Int) ≤ X.s) ∧ (∀ m : Nat, m < st_ → AsF X i j m) ∧ (Ext h13_19 H)) (fun st_ => X.s.toNat - st_) 0 ?_ ?_
          ·exact ⟨by omega, fun b h => by omega, Ext.refl _⟩
          ·rintro k h27 ee26 ⟨hk, hzk, cL25⟩
           replace hb0_0 := BoxAt.ext hb0_0 cL25
           replace hb6_9 := BoxAt.ext hb6_9 cL25
           have := Ext.size cL25
           replace eB := Ext.trans eB cL25
           replace cL2 := Ext.trans cL2 cL25
           replace cL16 := Ext.trans cL16 cL25
           simp only [List.cons_append, List.nil_append]
           refine den_seq ?_
           refine den_seq ?_
           refine den_region TTok ?_
           intro K hK
           simp -implicitDefEqProofs (disch := first | decide | assumption | omega) only [go_sem, fa34_1, ld2, BoxAt.dgL hb0_0, BoxAt.dgP hb0_0, BoxAt.dgS hb0_0, BoxAt.dgDeg hb0_0, BoxAt.dgLev hb0_0, BoxAt.dgDeg0 hb0_0, BoxAt.dgLev0 hb0_0, BoxAt.dgDifL hb0_0, BoxAt.dgTabL hb0_0, BoxAt.dgTabL0 hb0_0, BoxAt.dgTabL1 hb0_0, BoxAt.dgTabL1' hb0_0, BoxAt.dgDifB hb0_0, BoxAt.dgTabB hb0_0, wrap_id, cv_u8, cv_i64, Nat.zero_add, wrap_u8, eq_el, ne_el, build_el, Int.toNat_zero]
           refine hK _ _ ?_
           clear hK K
           refine den_cond rfl (fun c5 => ?_) (fun c5 => ?_)
           ·try simp only [decide_eq_true_eq, decide_eq_false_iff_not, beq_iff_eq, beq_eq_false_iff_ne, bne_iff_ne, ne_eq, Bool.not_eq_true', Bool.not_eq_false', Bool.and_eq_true, Bool.or_eq_true, bne_eq_false_iff_eq, Bool.or_eq_false_iff, Bool.and_eq_false_iff, in3_iff, in3_f] at c5
            refine den_skip ?_
            refine den_seq ?_
            refine den_block ?_
            refine den_seq ?_
            refine den_draw TTok mixed [] [(0, true), (1, true), (2, true), (3, true), (4, true), (5, true), (6, true), (7, true), (10, true), (11, true), (12, true), (13, true), (14, true), (15, true), (16, true), (17, true), (8, false), (9, false), (18, false), (19, true)] (by kernel_rfl) ?_
            intro K hK
            simp -implicitDefEqProofs (disch := first | decide | assumption | omega) only [go_sem, Int.toNat_zero, fa34_5, ia32, ia31, BoxAt.dgL hb0_0, BoxAt.dgP hb0_0, BoxAt.dgS hb0_0, BoxAt.dgDeg hb0_0, BoxAt.dgLev hb0_0, BoxAt.dgDeg0 hb0_0, BoxAt.dgLev0 hb0_0, BoxAt.dgDifL hb0_0, BoxAt.dgTabL hb0_0, BoxAt.dgTabL0 hb0_0, BoxAt.dgTabL1 hb0_0, BoxAt.dgTabL1' hb0_0, BoxAt.dgDifB hb0_0, BoxAt.dgTabB hb0_0, BoxAt.elC hb6_9, BoxAt.elL hb6_9, wrap_id, cv_u8, cv_i64, Nat.zero_add, wrap_u8, eq_el, ne_el, build_el, Int.toNat_zero]
            try simp -implicitDefEqProofs (disch := first | decide | assumption | omega) only [go_sem, wrap_id, cv_u8, cv_i64, Nat.zero_add, wrap_u8, eq_el, ne_el, build_el, Int.toNat_zero]
            refine CallA.mono (sUni_ok  (k : Int) _  (by omega)) ?_
            intro v_ h18_8
            rintro ⟨rfl, e18_8⟩
            replace hb0_0 := BoxAt.ext hb0_0 e18_8
            replace hb6_9 := BoxAt.ext hb6_9 e18_8
            have := Ext.size e18_8
            replace eB := Ext.trans eB e18_8
            replace cL2 := Ext.trans cL2 e18_8
            replace cL16 := Ext.trans cL16 e18_8
            replace cL25 := Ext.trans cL25 e18_8
            try simp (disch := decide) only [outv_some, outv_none, put_puts]
            refine plK_pres (Ext.pres e18_8) ?_
            try simp -implicitDefEqProofs (disch := first | decide | assumption | omega) only [go_sem, wrap_id, cv_u8, cv_i64, Nat.zero_add, wrap_u8, eq_el, ne_el, build_el, Int.toNat_zero]
            try simp -implicitDefEqProofs (disch := first | decide | assumption | omega) only [go_sem, wrap_id, cv_u8, cv_i64, Nat.zero_add, wrap_u8, eq_el, ne_el, build_el, Int.toNat_zero]
            refine CallA.mono (sTms_ok  X ((X.tab i) j) (e8 k) _  hpG (by omega) (by first | assumption | exact e8_by _ | exact By.z8 | exact hBd _ | exact hBt _ _ | exact tmJ_by (by omega) (tmI_by (by omega) _) _ | exact timesP_by (by omega) | exact dfI_by (by omega) _ | exact plusN_by (by omega) (timesP_by (by omega)) | exact dfI_by (by omega) 8) (by first | assumption | exact e8_by _ | exact By.z8 | exact hBd _ | exact hBt _ _ | exact tmJ_by (by omega) (tmI_by (by omega) _) _ | exact timesP_by (by omega) | exact dfI_by (by omega) _ | exact plusN_by (by omega) (timesP_by (by omega)) | exact dfI_by (by omega) 8) hBt (by first | assumption | exact e8_lt (by omega) _ | exact z8_lt (by omega) | exact hB7 _ (by omega) | exact hB8 _ _ (by omega) (by omega) | exact tms_lt (by omega) | exact dfs_lt (by omega)) (by first | assumption | exact e8_lt (by omega) _ | exact z8_lt (by omega) | exact hB7 _ (by omega) | exact hB8 _ _ (by omega) (by omega) | exact tms_lt (by omega) | exact dfs_lt (by omega))) ?_
            intro v_ h18_9
            rintro ⟨rfl, e18_9⟩
            replace hb0_0 := BoxAt.ext hb0_0 e18_9
            replace hb6_9 := BoxAt.ext hb6_9 e18_9
            have := Ext.size e18_9
            replace eB := Ext.trans eB e18_9
            replace cL2 := Ext.trans cL2 e18_9
            replace cL16 := Ext.trans cL16 e18_9
            replace cL25 := Ext.trans cL25 e18_9
            try simp (disch := decide) only [outv_some, outv_none, put_puts]
            refine plK_pres (Ext.pres e18_9) ?_
            try simp -implicitDefEqProofs (disch := first | decide | assumption | omega) only [go_sem, wrap_id, cv_u8, cv_i64, Nat.zero_add, wrap_u8, eq_el, ne_el, build_el, Int.toNat_zero]
            try simp -implicitDefEqProofs (disch := first | decide | assumption | omega) only [go_sem, wrap_id, cv_u8, cv_i64, Nat.zero_add, wrap_u8, eq_el, ne_el, build_el, Int.toNat_zero]
            refine CallA.mono (sTms_ok  X (e8 i) ((X.tab j) k) _  hpG (by omega) (by first | assumption | exact e8_by _ | exact By.z8 | exact hBd _ | exact hBt _ _ | exact tmJ_by (by omega) (tmI_by (by omega) _) _ | exact timesP_by (by omega) | exact dfI_by (by omega) _ | exact plusN_by (by omega) (timesP_by (by omega)) | exact dfI_by (by omega) 8) (by first | assumption | exact e8_by _ | exact By.z8 | exact hBd _ | exact hBt _ _ | exact tmJ_by (by omega) (tmI_by (by omega) _) _ | exact timesP_by (by omega) | exact dfI_by (by omega) _ | exact plusN_by (by omega) (timesP_by (by omega)) | exact dfI_by (by omega) 8) hBt (by first | assumption | exact e8_lt (by omega) _ | exact z8_lt (by omega) | exact hB7 _ (by omega) | exact hB8 _ _ (by omega) (by omega) | exact tms_lt (by omega) | exact dfs_lt (by omega)) (by first | assumption | exact e8_lt (by omega) _ | exact z8_lt (by omega) | exact hB7 _ (by omega) | exact hB8 _ _ (by omega) (by omega) | exact tms_lt (by omega) | exact dfs_lt (by omega))) ?_
            intro v_ h18_18
            rintro ⟨rfl, e18_18⟩
            replace hb0_0 := BoxAt.ext hb0_0 e18_18
            replace hb6_9 := BoxAt.ext hb6_9 e18_18
            have := Ext.size e18_18
            replace eB := Ext.trans eB e18_18
            replace cL2 := Ext.trans cL2 e18_18
            replace cL16 := Ext.trans cL16 e18_18
            replace cL25 := Ext.trans cL25 e18_18
            try simp (disch := decide) only [outv_some, outv_none, put_puts]
            refine plK_pres (Ext.pres e18_18) ?_
            try simp -implicitDefEqProofs (disch := first | decide | assumption | omega) only [go_sem, wrap_id, cv_u8, cv_i64, Nat.zero_add, wrap_u8, eq_el, ne_el, build_el, Int.toNat_zero]
            refine hK _ _ ?_
            clear hK K
            refine den_cond rfl (fun c6 => ?_) (fun c6 => ?_)
            ·try simp only [decide_eq_true_eq, decide_eq_false_iff_not, beq_iff_eq, beq_eq_false_iff_ne, bne_iff_ne, ne_eq, Bool.not_eq_true', Bool.not_eq_false', Bool.and_eq_true, Bool.or_eq_true, bne_eq_false_iff_eq, Bool.or_eq_false_iff, Bool.and_eq_false_iff, in3_iff, in3_f] at c6
             refine den_seq ?_
             refine den_region TTok ?_
             intro K hK
             simp -implicitDefEqProofs (disch := first | decide | assumption | omega) only [go_sem, wrap_id, cv_u8, cv_i64, Nat.zero_add, wrap_u8, eq_el, ne_el, build_el, Int.toNat_zero]
             refine hK _ _ ?_
             clear hK K
             refine den_ret ?_
             simp (disch := decide) only [resP_1, puts_same, puts_ne]
             exact ⟨vbool (dgB_n (fun hh => ac_nos hB hfm (by omega) (by omega) (by omega) (hh.ac i (by omega) j (by omega) k (by omega)) c6)), eB⟩
            ·try simp only [decide_eq_true_eq, decide_eq_false_iff_not, beq_iff_eq, beq_eq_false_iff_ne, bne_iff_ne, ne_eq, Bool.not_eq_true', Bool.not_eq_false', Bool.and_eq_true, Bool.or_eq_true, bne_eq_false_iff_eq, Bool.or_eq_false_iff, Bool.and_eq_false_iff, in3_iff, in3_f] at c6
             refine den_skip ?_
             refine den_blk ?_
             refine den_region TTok ?_
             intro K hK
             simp -implicitDefEqProofs (disch := first | decide | assumption | omega) only [go_sem, wrap_id, cv_u8, cv_i64, Nat.zero_add, wrap_u8, eq_el, ne_el, build_el, Int.toNat_zero]
             refine hK _ _ ?_
             clear hK K
             refine den_stop ?_
             exact ⟨k + 1, by simp [HasL, puts_at], ⟨by first | omega | (dsimp only; omega), fun m hm => by
 by_cases hab : m < k
 ·exact hzk m hab
 ·have e : m = k := by omega
  subst e
  exact (ac_sp hB hfm (by omega) (by omega) (by omega)).2 c6, cL25⟩, by first | omega | (dsimp only; omega)⟩
           ·try simp only [decide_eq_true_eq, decide_eq_false_iff_not, beq_iff_eq, beq_eq_false_iff_ne, bne_iff_ne, ne_eq, Bool.not_eq_true', Bool.not_eq_false', Bool.and_eq_true, Bool.or_eq_true, bne_eq_false_iff_eq, Bool.or_eq_false_iff, Bool.and_eq_false_iff, in3_iff, in3_f] at c5
            refine den_exit ?_
            refine denX_code ?_
            refine denX_stop ?_
            refine denX_hit ?_
            refine den_blk ?_
            refine den_region TTok ?_
            intro K hK
            simp -implicitDefEqProofs (disch := first | decide | assumption | omega) only [go_sem, wrap_id, cv_u8, cv_i64, Nat.zero_add, wrap_u8, eq_el, ne_el, build_el, Int.toNat_zero]
            refine hK _ _ ?_
            clear hK K
            refine den_stop ?_
            exact ⟨j + 1, by simp [HasL, puts_at], ⟨by first | omega | (dsimp only; omega), fun b hb => by
 by_cases hab : b < j
 ·exact hzj b hab
 ·have e : b = j := by omega
  subst e
  exact ⟨(lb_sp hB hfm (by omega) (by omega)).2 c4, fun k hk => hzk k (by omega)⟩, cL16⟩, by first | omega | (dsimp only; omega)⟩
       ·try simp only [decide_eq_true_eq, decide_eq_false_iff_not, beq_iff_eq, beq_eq_false_iff_ne, bne_iff_ne, ne_eq, Bool.not_eq_true', Bool.not_eq_false', Bool.and_eq_true, Bool.or_eq_true, bne_eq_false_iff_eq, Bool.or_eq_false_iff, Bool.and_eq_false_iff, in3_iff, in3_f] at c3
        refine den_exit ?_
        refine denX_code ?_
        refine denX_stop ?_
        refine denX_hit ?_
        refine den_blk ?_
        refine den_region TTok ?_
        intro K hK
        simp -implicitDefEqProofs (disch := first | decide | assumption | omega) only [go_sem, wrap_id, cv_u8, cv_i64, Nat.zero_add, wrap_u8, eq_el, ne_el, build_el, Int.toNat_zero]
        refine hK _ _ ?_
        clear hK K
        refine den_stop ?_
        exact ⟨i + 1, by simp [HasL, puts_at], ⟨by first | omega | (dsimp only; omega), fun a ha => by
 by_cases hai : a < i
 ·exact hz a hai
 ·have e : a = i := by omega
  subst e
  exact ⟨(un_sp hB hfm (by omega)).2 c2, fun b hb => hzj b (by omega)⟩, cL2⟩, by first | omega | (dsimp only; omega)⟩
   ·try simp only [decide_eq_true_eq, decide_eq_false_iff_not, beq_iff_eq, beq_eq_false_iff_ne, bne_iff_ne, ne_eq, Bool.not_eq_true', Bool.not_eq_false', Bool.and_eq_true, Bool.or_eq_true, bne_eq_false_iff_eq, Bool.or_eq_false_iff, Bool.and_eq_false_iff, in3_iff, in3_f] at c1
    refine den_exit ?_
    refine denX_code ?_
    refine denX_stop ?_
    refine denX_hit ?_
    refine den_seq ?_
    refine den_region TTok ?_
    intro K hK
    simp -implicitDefEqProofs (disch := first | decide | assumption | omega) only [go_sem, wrap_id, cv_u8, cv_i64, Nat.zero_add, wrap_u8, eq_el, ne_el, build_el, Int.toNat_zero]
    refine hK _ _ ?_
    clear hK K
    refine den_ret ?_
    simp (disch := decide) only [resP_1, puts_same, puts_ne]
    exact ⟨vbool (dgB_y ⟨fmB_t.1 c0, fun i hi => (hz i (by omega)).1, fun i hi j hj => ((hz i (by omega)).2 j hj).1, fun i hi j hj k hk => ((hz i (by omega)).2 j hj).2 k hk⟩), eB⟩
end Go.Proofs.Ytacajcjibhifmaa

namespace Go.Proofs.Ytacajcjibhifmaa
open Go
theorem mul25 {x y : Int} (hx : 0 ≤ x ∧ x ≤ 5) (hy : 0 ≤ y ∧ y ≤ 5) : 0 ≤ x * y ∧ x * y ≤ 25 := by
 have h1 := Int.mul_nonneg hx.1 hy.1
 have h2 := Int.mul_le_mul hx.2 hy.2 hy.1 (show (0 : Int) ≤ 5 by omega)
 omega
end Go.Proofs.Ytacajcjibhifmaa

namespace Go.Proofs.Ytacajcjibhifmaa
open Go
def prR (i : Nat) (j : Nat) : List (Int × Int) := (List.range j).map fun q : Nat => ((i : Int), (q : Int))
/-- The pairs of i < m, j < n, row by row. -/
def prI (n : Nat) : Nat → List (Int × Int)
 | 0 => []
 | i + 1 => prI n i ++ prR i n
def prL (X Y : Dg) : List (Int × Int) := prI Y.s.toNat X.s.toNat
theorem prR_step (i j : Nat) : prR i j ++ [((i : Int), (j : Int))] = prR i (j + 1) := by
 rw [prR, prR, List.range_succ, List.map_append]; rfl
theorem prR_zero (i : Nat) : prR i 0 = [] := rfl
theorem prI_step (n i : Nat) : prI n i ++ prR i n = prI n (i + 1) := rfl
theorem prR_len (i j : Nat) : (prR i j).length = j := by simp [prR]
theorem prI_len (n : Nat) : ∀ i, (prI n i).length = i * n
 | 0 => by simp [prI]
 | i + 1 => by rw [prI, List.length_append, prI_len n i, prR_len, Nat.add_mul, Nat.one_mul]
theorem prI_mem {n m : Nat} {q : Int × Int} : q ∈ prI n m ↔ 0 ≤ q.1 ∧ q.1 < m ∧ 0 ≤ q.2 ∧ q.2 < n := by
 induction m with
 | zero => simp [prI]; omega
 | succ m ih =>
  rw [prI, List.mem_append, ih, prR, List.mem_map]
  constructor
  ·rintro (h | ⟨j, hj, rfl⟩)
   ·omega
   ·rw [List.mem_range] at hj; exact ⟨by dsimp only; omega, by dsimp only; omega, by dsimp only; omega, by dsimp only; omega⟩
  ·intro h
   by_cases h1 : q.1 < m
   ·exact .inl ⟨h.1, h1, h.2.2⟩
   ·refine .inr ⟨q.2.toNat, by rw [List.mem_range]; omega, ?_⟩
    apply Prod.ext <;> dsimp only <;> omega
/-- The parts of a list at f = a, a + 1, .., one behind the other. -/
def bkf (f : Int × Int → Int) (L : List (Int × Int)) (a : Int) : Nat → List (Int × Int)
 | 0 => []
 | m + 1 => bkf f L a m ++ L.filter fun q => decide (f q = a + (m : Int))
theorem bkf_step (f : Int × Int → Int) (L : List (Int × Int)) (m : Nat) : bkf f L 0 m ++ (L.filter fun q => decide (f q = (m : Int))) = bkf f L 0 (m + 1) := by
 rw [bkf, Int.zero_add]
theorem bkf_add (f : Int × Int → Int) (L : List (Int × Int)) (a : Int) (m : Nat) : ∀ k, bkf f L a (m + k) = bkf f L a m ++ bkf f L (a + m) k
 | 0 => by simp [bkf]
 | k + 1 => by rw [← Nat.add_assoc, bkf, bkf_add f L a m k, bkf, List.append_assoc, show a + ((m + k : Nat) : Int) = a + m + (k : Int) by omega]
theorem bkf_out {f : Int × Int → Int} {L : List (Int × Int)} {x : Int × Int} {a : Int} : ∀ {m : Nat}, (f x < a ∨ a + m ≤ f x) → bkf f (L ++ [x]) a m = bkf f L a m
 | 0, _ => rfl
 | m + 1, h => by
  rw [bkf, bkf, bkf_out (m := m) (by omega), List.filter_append]
  have : ([x].filter fun q => decide (f q = a + (m : Int))) = [] := by simp; omega
  rw [this, List.append_nil]
theorem bkf_in {f : Int × Int → Int} {L : List (Int × Int)} {x : Int × Int} {a : Int} {m : Nat} (h : f x = a + m) : bkf f (L ++ [x]) a (m + 1) = bkf f L a (m + 1) ++ [x] := by
 rw [bkf, bkf, bkf_out (.inr (by omega)), List.filter_append, List.append_assoc]
 have : ([x].filter fun q => decide (f q = a + (m : Int))) = [x] := by simp [h]
 rw [this]
theorem bkf_mem {f : Int × Int → Int} {L : List (Int × Int)} {a : Int} {q : Int × Int} : ∀ {m : Nat}, q ∈ bkf f L a m ↔ q ∈ L ∧ a ≤ f q ∧ f q < a + m
 | 0 => ⟨fun h => (by cases h), fun ⟨_, h1, h2⟩ => by omega⟩
 | m + 1 => by
  rw [bkf, List.mem_append, bkf_mem (m := m), List.mem_filter, decide_eq_true_eq]
  constructor
  ·rintro (⟨h1, h2, h3⟩ | ⟨h1, h2⟩)
   ·exact ⟨h1, h2, by omega⟩
   ·exact ⟨h1, by omega, by omega⟩
  ·rintro ⟨h1, h2, h3⟩
   by_cases h4 : f q < a + m
   ·exact .inl ⟨h1, h2, h4⟩
   ·exact .inr ⟨h1, by omega⟩
theorem bkf_nil (f : Int × Int → Int) (a : Int) : ∀ m, bkf f [] a m = []
 | 0 => rfl
 | m + 1 => by rw [bkf, bkf_nil f a m]; rfl
theorem rev_ind {α : Type} {P : List α → Prop} (h0 : P []) (h1 : ∀ M x, P M → P (M ++ [x])) (L : List α) : P L := by
 have h : ∀ R : List α, P R.reverse := fun R => by
  induction R with
  | nil => exact h0
  | cons x r ih => rw [List.reverse_cons]; exact h1 _ _ ih
 have := h L.reverse
 rwa [List.reverse_reverse] at this
theorem bkf_len {f : Int × Int → Int} {L : List (Int × Int)} (h : ∀ q ∈ L, 0 ≤ f q ∧ f q < 11) : (bkf f L 0 11).length = L.length := by
 induction L using rev_ind with
 | h0 => rw [bkf_nil]
 | h1 M x ih =>
  have hx := h x (by simp)
  have e : 11 = ((f x).toNat + 1) + (10 - (f x).toNat) := by omega
  rw [e, bkf_add, bkf_in (by omega), bkf_out (.inl (by omega)), List.length_append, List.length_append, List.length_append]
  have := ih (fun q hq => h q (by simp [hq]))
  rw [e, bkf_add, List.length_append] at this
  omega
/-- An element on its way to its place. -/
def stI (M : List (Int × Int)) (x : Int × Int) (R : List (Int × Int)) (j : Nat) : List (Int × Int) := M.take j ++ x :: (M.drop j ++ R)
theorem stI_len (M : List (Int × Int)) (x : Int × Int) (R : List (Int × Int)) (j : Nat) : (stI M x R j).length = M.length + 1 + R.length := by
 rw [stI]; simp; omega
theorem stI_full (M : List (Int × Int)) (x : Int × Int) (R : List (Int × Int)) : stI M x R M.length = M ++ x :: R := by simp [stI]
theorem stI_x {M : List (Int × Int)} {x : Int × Int} {R : List (Int × Int)} {j : Nat} (h : j ≤ M.length) : (stI M x R j).getD j (0, 0) = x := by
 have hl : (M.take j).length = j := by rw [List.length_take]; omega
 rw [stI, List.getD_eq_getElem?_getD, List.getElem?_append_right (by omega), hl, Nat.sub_self]; rfl
theorem stI_p {M : List (Int × Int)} {x : Int × Int} {R : List (Int × Int)} {j : Nat} (h : j ≤ M.length) (h0 : 0 < j) : (stI M x R j).getD (j - 1) (0, 0) = M.getD (j - 1) (0, 0) := by
 have hl : (M.take j).length = j := by rw [List.length_take]; omega
 rw [stI, List.getD_eq_getElem?_getD, List.getElem?_append_left (by omega), List.getElem?_take_of_lt (by omega), List.getD_eq_getElem?_getD]
theorem stI_swap {M : List (Int × Int)} {x : Int × Int} {R : List (Int × Int)} {j : Nat} (h : j ≤ M.length) (h0 : 0 < j) : ((stI M x R j).set j (M.getD (j - 1) (0, 0))).set (j - 1) x = stI M x R (j - 1) := by
 have hl : (M.take j).length = j := by rw [List.length_take]; omega
 have hl1 : (M.take (j - 1)).length = j - 1 := by rw [List.length_take]; omega
 have e : M.take j = M.take (j - 1) ++ [M.getD (j - 1) (0, 0)] := by
  obtain ⟨k, rfl⟩ : ∃ k, j = k + 1 := ⟨j - 1, by omega⟩
  rw [Nat.add_sub_cancel, List.take_succ_eq_append_getElem (by omega), List.getD_eq_getElem?_getD, List.getElem?_eq_getElem (by omega)]; rfl
 have e2 : M.drop (j - 1) = M.getD (j - 1) (0, 0) :: M.drop j := by
  obtain ⟨k, rfl⟩ : ∃ k, j = k + 1 := ⟨j - 1, by omega⟩
  rw [Nat.add_sub_cancel, List.drop_eq_getElem_cons (by omega), List.getD_eq_getElem?_getD, List.getElem?_eq_getElem (by omega)]; rfl
 rw [stI, List.set_append_right _ _ (by omega), hl, Nat.sub_self, List.set_cons_zero, e, List.append_assoc, List.set_append_right _ _ (by omega), hl1, Nat.sub_self, stI, e2]
 rfl
/-- Where it comes to rest. -/
theorem stI_end {f : Int × Int → Int} {P R : List (Int × Int)} {x : Int × Int} (hx : 0 ≤ f x ∧ f x < 11) : stI (bkf f P 0 11) x R (bkf f P 0 ((f x).toNat + 1)).length = bkf f (P ++ [x]) 0 11 ++ R := by
 have e : 11 = ((f x).toNat + 1) + (10 - (f x).toNat) := by omega
 have e1 : bkf f P 0 11 = bkf f P 0 ((f x).toNat + 1) ++ bkf f P (0 + ((f x).toNat + 1 : Nat)) (10 - (f x).toNat) := by rw [← bkf_add, ← e]
 have e2 : bkf f (P ++ [x]) 0 11 = bkf f P 0 ((f x).toNat + 1) ++ [x] ++ bkf f P (0 + ((f x).toNat + 1 : Nat)) (10 - (f x).toNat) := by
  rw [e, bkf_add, bkf_in (by omega), bkf_out (.inl (by omega))]
 rw [stI, e1, e2]
 simp
theorem stI_u {f : Int × Int → Int} {P : List (Int × Int)} {x : Int × Int} (hx : 0 ≤ f x ∧ f x < 11) : (bkf f P 0 ((f x).toNat + 1)).length ≤ (bkf f P 0 11).length := by
 have e : 11 = ((f x).toNat + 1) + (10 - (f x).toNat) := by omega
 have e1 : bkf f P 0 11 = bkf f P 0 ((f x).toNat + 1) ++ bkf f P (0 + ((f x).toNat + 1 : Nat)) (10 - (f x).toNat) := by rw [← bkf_add, ← e]
 rw [e1, List.length_append]; omega
theorem stI_gt {f : Int × Int → Int} {P : List (Int × Int)} {x : Int × Int} (hx : 0 ≤ f x ∧ f x < 11) {j : Nat} (hj : j < (bkf f P 0 11).length) : f x < f ((bkf f P 0 11).getD j (0, 0)) ↔ (bkf f P 0 ((f x).toNat + 1)).length ≤ j := by
 have e : 11 = ((f x).toNat + 1) + (10 - (f x).toNat) := by omega
 have e1 : bkf f P 0 11 = bkf f P 0 ((f x).toNat + 1) ++ bkf f P (0 + ((f x).toNat + 1 : Nat)) (10 - (f x).toNat) := by rw [← bkf_add, ← e]
 rw [e1] at hj ⊢
 rw [List.length_append] at hj
 by_cases h : j < (bkf f P 0 ((f x).toNat + 1)).length
 ·have hm : (bkf f P 0 ((f x).toNat + 1))[j] ∈ bkf f P 0 ((f x).toNat + 1) := List.getElem_mem h
  rw [List.getD_eq_getElem?_getD, List.getElem?_append_left h, List.getElem?_eq_getElem h, Option.getD_some]
  have := (bkf_mem.1 hm).2.2
  omega
 ·have h2 : j - (bkf f P 0 ((f x).toNat + 1)).length < (bkf f P (0 + ((f x).toNat + 1 : Nat)) (10 - (f x).toNat)).length := by omega
  have hm : (bkf f P (0 + ((f x).toNat + 1 : Nat)) (10 - (f x).toNat))[j - (bkf f P 0 ((f x).toNat + 1)).length] ∈ bkf f P (0 + ((f x).toNat + 1 : Nat)) (10 - (f x).toNat) := List.getElem_mem h2
  rw [List.getD_eq_getElem?_getD, List.getElem?_append_right (by omega), List.getElem?_eq_getElem h2, Option.getD_some]
  have := (bkf_mem.1 hm).2.1
  omega
/-- The list of pairs, by their degrees. -/
def dgQ (X Y : Dg) (q : Int × Int) : Int := X.deg q.1.toNat + Y.deg q.2.toNat
def srQ (X Y : Dg) : List (Int × Int) := bkf (dgQ X Y) (prL X Y) 0 11
def atQ (X Y : Dg) (k : Nat) : Int × Int := (srQ X Y).getD k (0, 0)
section
variable {X Y : Dg} (hX : IsFm X) (hY : IsFm Y)
include hX hY
theorem prL_at {q : Int × Int} (h : q ∈ prL X Y) : 0 ≤ q.1 ∧ q.1 < X.s ∧ 0 ≤ q.2 ∧ q.2 < Y.s := by
 have hs := hX.s
 have ht := hY.s
 have := prI_mem.1 h
 omega
theorem dgQ_b {q : Int × Int} (h : q ∈ prL X Y) : 0 ≤ dgQ X Y q ∧ dgQ X Y q < 11 := by
 have hs := hX.s
 have ht := hY.s
 have h1 := prL_at hX hY h
 have h2 := (hX.row q.1.toNat (by omega)).deg
 have h3 := (hY.row q.2.toNat (by omega)).deg
 unfold dgQ; omega
theorem srQ_len : ((srQ X Y).length : Int) = X.s * Y.s := by
 have hs := hX.s
 have ht := hY.s
 rw [srQ, bkf_len (fun q hq => dgQ_b hX hY hq), prL, prI_len]
 obtain ⟨a, ha⟩ := Int.eq_ofNat_of_zero_le (show 0 ≤ X.s by omega)
 obtain ⟨b, hb⟩ := Int.eq_ofNat_of_zero_le (show 0 ≤ Y.s by omega)
 rw [ha, hb]
 simp
omit hX hY in
theorem atQ_mem {k : Nat} (h : k < (srQ X Y).length) : atQ X Y k ∈ prL X Y := by
 have hm : (srQ X Y)[k] ∈ srQ X Y := List.getElem_mem h
 rw [atQ, List.getD_eq_getElem?_getD, List.getElem?_eq_getElem h, Option.getD_some]
 exact (bkf_mem.1 hm).1
theorem atQ_b {k : Nat} (h : k < (srQ X Y).length) : 0 ≤ (atQ X Y k).1 ∧ (atQ X Y k).1 < X.s ∧ 0 ≤ (atQ X Y k).2 ∧ (atQ X Y k).2 < Y.s := prL_at hX hY (atQ_mem h)
end
end Go.Proofs.Ytacajcjibhifmaa

namespace Go.Proofs.Ytacajcjibhifmaa
open Go
def encQ (q : Int × Int) : Int := 8 * q.1 + q.2
theorem bkf_le (f : Int × Int → Int) (L : List (Int × Int)) (a : Int) : ∀ m, (bkf f L a m).length ≤ m * L.length
 | 0 => by simp [bkf]
 | m + 1 => by
  have := bkf_le f L a m
  have h := List.length_filter_le (fun q => decide (f q = a + (m : Int))) L
  rw [bkf, List.length_append, Nat.add_mul, Nat.one_mul]; omega
/-- The numbers of the pairs that stand already. -/
def pqP (X Y : Dg) (d i j : Nat) : List Int := (bkf (dgQ X Y) (prL X Y) 0 d ++ (prI Y.s.toNat i ++ prR i j).filter fun q => decide (dgQ X Y q = (d : Int))).map encQ
theorem pqP_len {X Y : Dg} {d i j : Nat} (hX : X.s ≤ 8) (hY : Y.s ≤ 8) (hd : d ≤ 11) (hi : i ≤ 8) (hj : j ≤ 8) : (pqP X Y d i j).length ≤ 900 := by
 have h1 := bkf_le (dgQ X Y) (prL X Y) 0 d
 have h2 := List.length_filter_le (fun q => decide (dgQ X Y q = (d : Int))) (prI Y.s.toNat i ++ prR i j)
 have h3 : (prL X Y).length ≤ 64 := by
  rw [prL, prI_len]
  have := Nat.mul_le_mul (show X.s.toNat ≤ 8 by omega) (show Y.s.toNat ≤ 8 by omega)
  omega
 have h4 := Nat.mul_le_mul hd h3
 have h5 := Nat.mul_le_mul hi (show Y.s.toNat ≤ 8 by omega)
 rw [List.length_append, prI_len, prR_len] at h2
 rw [pqP, List.length_map, List.length_append]
 omega
theorem dgQ_at (X Y : Dg) (i j : Nat) : dgQ X Y ((i : Int), (j : Int)) = X.deg i + Y.deg j := by simp [dgQ]
theorem pqP_yes {X Y : Dg} {d i j : Nat} (h : X.deg i + Y.deg j = (d : Int)) : pqP X Y d i j ++ [8 * (i : Int) + (j : Int)] = pqP X Y d i (j + 1) := by
 rw [pqP, pqP, ← prR_step, ← List.append_assoc (prI Y.s.toNat i), List.filter_append (prI Y.s.toNat i ++ prR i j), ← List.append_assoc, List.map_append (l₂ := List.filter _ [_])]
 have : ([((i : Int), (j : Int))].filter fun q => decide (dgQ X Y q = (d : Int))) = [((i : Int), (j : Int))] := by
  rw [List.filter_cons_of_pos (by rw [decide_eq_true_eq, dgQ_at]; exact h)]; rfl
 rw [this]; rfl
theorem pqP_no {X Y : Dg} {d i j : Nat} (h : ¬ X.deg i + Y.deg j = (d : Int)) : pqP X Y d i j = pqP X Y d i (j + 1) := by
 rw [pqP, pqP, ← prR_step, ← List.append_assoc (prI Y.s.toNat i), List.filter_append (prI Y.s.toNat i ++ prR i j)]
 have : ([((i : Int), (j : Int))].filter fun q => decide (dgQ X Y q = (d : Int))) = [] := by
  rw [List.filter_cons_of_neg (by rw [decide_eq_true_eq, dgQ_at]; exact h)]; rfl
 rw [this, List.append_nil]
theorem pqP_row {X Y : Dg} {d i : Nat} : pqP X Y d i Y.s.toNat = pqP X Y d (i + 1) 0 := by
 rw [pqP, pqP, prI_step, prR_zero, List.append_nil]
theorem pqP_deg {X Y : Dg} {d : Nat} : pqP X Y d X.s.toNat 0 = pqP X Y (d + 1) 0 0 := by
 rw [pqP, pqP, prR_zero, List.append_nil, ← prL, bkf_step]
 show _ = (bkf (dgQ X Y) (prL X Y) 0 (d + 1) ++ []).map encQ
 rw [List.append_nil]
theorem pqP_0 (X Y : Dg) : pqP X Y 0 0 0 = [] := rfl
def EQ (X Y : Dg) : List Int := (srQ X Y).map encQ
theorem pqP_end (X Y : Dg) : pqP X Y 11 0 0 = EQ X Y := by
 show (bkf (dgQ X Y) (prL X Y) 0 11 ++ []).map encQ = _
 rw [List.append_nil]; rfl
theorem kuv_bnd {k x y : Int} (hk : -3 ≤ k ∧ k ≤ 3) (hx : 0 ≤ x ∧ x ≤ 255) (hy : 0 ≤ y ∧ y ≤ 255) : (-765 ≤ k * x ∧ k * x ≤ 765) ∧ -195075 ≤ k * x * y ∧ k * x * y ≤ 195075 := by
 have h1 := Int.mul_le_mul hk.2 hx.2 hx.1 (show (0 : Int) ≤ 3 by omega)
 have h2 := Int.mul_le_mul (show -k ≤ 3 by omega) hx.2 hx.1 (show (0 : Int) ≤ 3 by omega)
 rw [Int.neg_mul] at h2
 have h3 := Int.mul_le_mul (show k * x ≤ 765 by omega) hy.2 hy.1 (show (0 : Int) ≤ 765 by omega)
 have h4 := Int.mul_le_mul (show -(k * x) ≤ 765 by omega) hy.2 hy.1 (show (0 : Int) ≤ 765 by omega)
 rw [Int.neg_mul] at h4
 omega
theorem td8 {x : Int} (h : 0 ≤ x ∧ x ≤ 63) : (0 ≤ x.tdiv 8 ∧ x.tdiv 8 ≤ 7) ∧ 0 ≤ x.tmod 8 ∧ x.tmod 8 ≤ 7 := by
 rw [Int.tdiv_eq_ediv_of_nonneg h.1, Int.tmod_eq_emod_of_nonneg h.1]; omega
/-- The pairs of two elements, with a sign. -/
def pjN (p : Int) (E : List Int) (k : Int) (u v : Nat → Int) (n : Nat) : Nat → Int := fun q => if q < n then (k * u ((E.getD q 0).tdiv 8).toNat * v ((E.getD q 0).tmod 8).toNat) % p else 0
theorem pjN_0 (p : Int) (E : List Int) (k : Int) (u v : Nat → Int) : pjN p E k u v 0 = z8 := by funext q; simp [pjN, z8]
theorem pjN_step (p : Int) (E : List Int) (k : Int) (u v : Nat → Int) (n : Nat) : upd (pjN p E k u v n) n ((k * u ((E.getD n 0).tdiv 8).toNat * v ((E.getD n 0).tmod 8).toNat) % p) = pjN p E k u v (n + 1) := by
 funext q
 unfold upd pjN
 by_cases h : q = n
 ·subst h; rw [if_pos rfl, if_pos (by omega)]
 ·rw [if_neg h]
  by_cases h2 : q < n
  ·rw [if_pos h2, if_pos (by omega)]
  ·rw [if_neg h2, if_neg (by omega)]
theorem pjN_by {p : Int} (hp : 0 < p ∧ p ≤ 7) {E : List Int} {k : Int} {u v : Nat → Int} {n : Nat} : By (pjN p E k u v n) := fun q => by
 unfold pjN
 split
 ·have h1 := Int.emod_nonneg (k * u ((E.getD q 0).tdiv 8).toNat * v ((E.getD q 0).tmod 8).toNat) (show p ≠ 0 by omega)
  have h2 := Int.emod_lt_of_pos (k * u ((E.getD q 0).tdiv 8).toNat * v ((E.getD q 0).tmod 8).toNat) hp.1
  omega
 ·omega

set_option maxRecDepth 100000 in
set_option maxHeartbeats 4000000 in
theorem sPq_ok (X : Dg) (Y : Dg) (h : Heap)  (hfX : IsFm X) (hfY : IsFm Y) : CallA Try.prog 67 #[.agg (dgA X), .agg (dgA Y)] h fun v' h' => ∃ w0 f0, v' = w0 ∧ O1 h' w0 (EQ X Y) f0 ∧ Fresh h.size f0 ∧ Ext h h' := by
 have hsX := hfX.s
 have hsY := hfY.s
 refine callA_intro TTok (args := [_, _]) Try.func67 (by kernel_rfl) rfl 45 rfl (by simp) [.tmp 4] rfl ?_
 simp only [idxs, Nat.reduceAdd]
 refine den_seq ?_
 refine den_region TTok ?_
 intro K hK
 simp -implicitDefEqProofs (disch := first | decide | assumption | omega) only [go_sem, wrap_id, cv_u8, cv_i64, Nat.zero_add, wrap_u8, eq_el, ne_el, build_el, Int.toNat_zero]
 refine op_box (cs := dgA X) rfl ?_
 intro h0_0 e0_0 hb0_0 z0_0
 have := Ext.size e0_0
 have eB := e0_0
 have hfhb0_0 : Fresh h.size [h.size] := Fresh.one _
 have hlhb0_0 := one_lt (show h.size < h0_0.size by omega)
 try simp -implicitDefEqProofs (disch := first | decide | assumption | omega) only [go_sem, wrap_id, cv_u8, cv_i64, Nat.zero_add, wrap_u8, eq_el, ne_el, build_el, Int.toNat_zero]
 refine op_box (cs := dgA Y) rfl ?_
 intro h0_1 e0_1 hb0_1 z0_1
 replace hb0_0 := BoxAt.ext hb0_0 e0_1
 have := Ext.size e0_1
 replace eB := Ext.trans eB e0_1
 have hfhb0_1 : Fresh h0_0.size [h0_0.size] := Fresh.one _
 have hlhb0_1 := one_lt (show h0_0.size < h0_1.size by omega)
 try simp -implicitDefEqProofs (disch := first | decide | assumption | omega) only [go_sem, wrap_id, cv_u8, cv_i64, Nat.zero_add, wrap_u8, eq_el, ne_el, build_el, Int.toNat_zero]
 refine hK _ _ ?_
 clear hK K
 refine den_seq ?_
 refine den_region TTok ?_
 intro K hK
 simp -implicitDefEqProofs (disch := first | decide | assumption | omega) only [go_sem, wrap_id, cv_u8, cv_i64, Nat.zero_add, wrap_u8, eq_el, ne_el, build_el, Int.toNat_zero]
 refine op_bs0 sz55 OI ?_
 intro v1_0 h1_0 ho1_0 e1_0
 replace hb0_0 := BoxAt.ext hb0_0 e1_0
 replace hb0_1 := BoxAt.ext hb0_1 e1_0
 have := Ext.size e1_0
 replace eB := Ext.trans eB e1_0
 have hfho1_0 : Fresh h0_1.size [h0_1.size] := Fresh.one _
 have hlho1_0 := OS.lt ho1_0
 try simp -implicitDefEqProofs (disch := first | decide | assumption | omega) only [go_sem, RdS.len (OS.rd ho1_0) sl55, RdS.idx (OS.rd ho1_0) sl55, R1.intN (OS.rd ho1_0), RdS.cells (OS.rd ho1_0), wrap_id, cv_u8, cv_i64, Nat.zero_add, wrap_u8, eq_el, ne_el, build_el, Int.toNat_zero]
 refine hK _ _ ?_
 clear hK K
 refine den_seq ?_
 refine den_seq ?_
 refine den_region TTok ?_
 intro K hK
 simp -implicitDefEqProofs (disch := first | decide | assumption | omega) only [go_sem, wrap_id, cv_u8, cv_i64, Nat.zero_add, wrap_u8, eq_el, ne_el, build_el, Int.toNat_zero]
 refine hK _ _ ?_
 clear hK K
 refine den_block ?_
 refine den_sel [5, 6, 2, 3] ?_
 intro env_1
 simp only [go_sem]
 refine den_loopS (σ := Nat × Value × List Nat) (fun st_ => [(5, st_.2.1), (6, .int .i64 (st_.1 : Int))]) (fun st_ H => (st_.1 ≤ 11) ∧ (O1 H st_.2.1 (pqP X Y st_.1 0 0) st_.2.2) ∧ (Fresh (h0_1.size) st_.2.2) ∧ (Sub [h0_1.size] h1_0.size st_.2.2) ∧ (Chg [h0_1.size] h1_0 H)) (fun st_ => 11 - st_.1) (0, v1_0, [h0_1.size]) ?_ ?_
 ·exact ⟨by first | (simp; done) | (dsimp only; omega) | (simp; omega), by rw [pqP_0]; exact ho1_0, hfho1_0, Sub.refl, Chg.refl _ _⟩
 ·rintro ⟨d, vhO, fphO⟩ h4 ee3 ⟨hi0, hO, hfhO, sbhO, cL2⟩
  dsimp only at hi0 hO hfhO sbhO cL2
  replace hb0_0 := BoxAt.chgA hb0_0 cL2 (apart_lt hlhb0_0 hfho1_0 (by omega))
  replace hb0_1 := BoxAt.chgA hb0_1 cL2 (apart_lt hlhb0_1 hfho1_0 (by omega))
  have := cL2.size
  replace eB := Ext.then eB cL2 (ge_of hfho1_0 (by omega))
  have hlhO := OS.lt hO
  simp only [List.cons_append, List.nil_append]
  refine den_seq ?_
  refine den_seq ?_
  refine den_region TTok ?_
  intro K hK
  simp -implicitDefEqProofs (disch := first | decide | assumption | omega) only [go_sem, wrap_id, cv_u8, cv_i64, Nat.zero_add, wrap_u8, eq_el, ne_el, build_el, Int.toNat_zero]
  refine hK _ _ ?_
  clear hK K
  refine den_cond rfl (fun c0 => ?_) (fun c0 => ?_)
  ·try simp only [decide_eq_true_eq, decide_eq_false_iff_not, beq_iff_eq, beq_eq_false_iff_ne, bne_iff_ne, ne_eq, Bool.not_eq_true', Bool.not_eq_false', Bool.and_eq_true, Bool.or_eq_true, bne_eq_false_iff_eq] at c0
   refine den_skip ?_
   refine den_seq ?_
   refine den_block ?_
   refine den_seq ?_
   refine den_region TTok ?_
   intro K hK
   simp -implicitDefEqProofs (disch := first | decide | assumption | omega) only [go_sem, wrap_id, cv_u8, cv_i64, Nat.zero_add, wrap_u8, eq_el, ne_el, build_el, Int.toNat_zero]
   refine hK _ _ ?_
   clear hK K
   refine den_block ?_
   refine den_sel [5, 7, 2, 3, 6] ?_
   intro env_5
   simp only [go_sem]
   refine den_loopS (σ := Nat × Value × List Nat) (fun st_ => [(5, st_.2.1), (7, .int .i64 (st_.1 : Int))]) (fun st_ H => ((st_.1 : Int) ≤ X.s) ∧ (O1 H st_.2.1 (pqP X Y d st_.1 0) st_.2.2) ∧ (Fresh (h0_1.size) st_.2.2) ∧ (Sub fphO h4.size st_.2.2) ∧ (Chg fphO h4 H)) (fun st_ => X.s.toNat - st_.1) (0, vhO, fphO) ?_ ?_
   ·exact ⟨by omega, hO, hfhO, Sub.refl, Chg.refl _ _⟩
   ·rintro ⟨i, vhP, fphP⟩ h8 ee7 ⟨hi0, hP, hfhP, sbhP, cL6⟩
    dsimp only at hi0 hP hfhP sbhP cL6
    replace hb0_0 := BoxAt.chgA hb0_0 cL6 (apart_lt hlhb0_0 hfhO (by omega))
    replace hb0_1 := BoxAt.chgA hb0_1 cL6 (apart_lt hlhb0_1 hfhO (by omega))
    have := cL6.size
    replace eB := Ext.then eB cL6 (ge_of hfhO (by omega))
    replace cL2 := Chg.step cL2 cL6 sbhO
    have sb9 : Sub [h0_1.size] h1_0.size fphP := Sub.trans sbhP sbhO (by omega)
    have hlhP := OS.lt hP
    simp only [List.cons_append, List.nil_append]
    refine den_seq ?_
    refine den_seq ?_
    refine den_region TTok ?_
    intro K hK
    simp -implicitDefEqProofs (disch := first | decide | assumption | omega) only [go_sem, fa34_1, ld2, BoxAt.dgL hb0_0, BoxAt.dgP hb0_0, BoxAt.dgS hb0_0, BoxAt.dgDeg hb0_0, BoxAt.dgLev hb0_0, BoxAt.dgDeg0 hb0_0, BoxAt.dgLev0 hb0_0, BoxAt.dgDifL hb0_0, BoxAt.dgTabL hb0_0, BoxAt.dgTabL0 hb0_0, BoxAt.dgTabL1 hb0_0, BoxAt.dgTabL1' hb0_0, BoxAt.dgDifB hb0_0, BoxAt.dgTabB hb0_0, wrap_id, cv_u8, cv_i64, Nat.zero_add, wrap_u8, eq_el, ne_el, build_el, Int.toNat_zero]
    refine hK _ _ ?_
    clear hK K
    refine den_cond rfl (fun c1 => ?_) (fun c1 => ?_)
    ·try simp only [decide_eq_true_eq, decide_eq_false_iff_not, beq_iff_eq, beq_eq_false_iff_ne, bne_iff_ne, ne_eq, Bool.not_eq_true', Bool.not_eq_false', Bool.and_eq_true, Bool.or_eq_true, bne_eq_false_iff_eq] at c1
     refine den_skip ?_
     refine den_seq ?_
     refine den_block ?_
     refine den_seq ?_
     refine den_region TTok ?_
     intro K hK
     simp -implicitDefEqProofs (disch := first | decide | assumption | omega) only [go_sem, wrap_id, cv_u8, cv_i64, Nat.zero_add, wrap_u8, eq_el, ne_el, build_el, Int.toNat_zero]
     refine hK _ _ ?_
     clear hK K
     refine den_block ?_
     refine den_sel [5, 8, 2, 3, 6, 7] ?_
     intro env_10
     simp only [go_sem]
     refine den_loopS (σ := Nat × Value × List Nat) (fun st_ => [(5, st_.2.1), (8, .int .i64 (st_.1 : Int))]) (fun st_ H => ((st_.1 : Int) ≤ Y.s) ∧ (O1 H st_.2.1 (pqP X Y d i st_.1) st_.2.2) ∧ (Fresh (h0_1.size) st_.2.2) ∧ (Sub fphP h8.size st_.2.2) ∧ (Chg fphP h8 H)) (fun st_ => Y.s.toNat - st_.1) (0, vhP, fphP) ?_ ?_
     ·exact ⟨by omega, hP, hfhP, Sub.refl, Chg.refl _ _⟩
     ·rintro ⟨j, vhQ, fphQ⟩ h13 ee12 ⟨hi0, hQ, hfhQ, sbhQ, cL11⟩
      dsimp only at hi0 hQ hfhQ sbhQ cL11
      replace hb0_0 := BoxAt.chgA hb0_0 cL11 (apart_lt hlhb0_0 hfhP (by omega))
      replace hb0_1 := BoxAt.chgA hb0_1 cL11 (apart_lt hlhb0_1 hfhP (by omega))
      have := cL11.size
      replace eB := Ext.then eB cL11 (ge_of hfhP (by omega))
      replace cL2 := Chg.step cL2 cL11 sb9
      replace cL6 := Chg.step cL6 cL11 sbhP
      have sb14 : Sub [h0_1.size] h1_0.size fphQ := Sub.trans sbhQ sb9 (by omega)
      have sb15 : Sub fphO h4.size fphQ := Sub.trans sbhQ sbhP (by omega)
      have hlhQ := OS.lt hQ
      simp only [List.cons_append, List.nil_append]
      have hpl := pqP_len (X := X) (Y := Y) (d := d) (i := i) (j := j) (by omega) (by omega) (by omega) (by omega) (by omega)
      refine den_seq ?_
      refine den_seq ?_
      refine den_region TTok ?_
      intro K hK
      simp -implicitDefEqProofs (disch := first | decide | assumption | omega) only [go_sem, fa34_1, ld2, BoxAt.dgL hb0_1, BoxAt.dgP hb0_1, BoxAt.dgS hb0_1, BoxAt.dgDeg hb0_1, BoxAt.dgLev hb0_1, BoxAt.dgDeg0 hb0_1, BoxAt.dgLev0 hb0_1, BoxAt.dgDifL hb0_1, BoxAt.dgTabL hb0_1, BoxAt.dgTabL0 hb0_1, BoxAt.dgTabL1 hb0_1, BoxAt.dgTabL1' hb0_1, BoxAt.dgDifB hb0_1, BoxAt.dgTabB hb0_1, wrap_id, cv_u8, cv_i64, Nat.zero_add, wrap_u8, eq_el, ne_el, build_el, Int.toNat_zero]
      refine hK _ _ ?_
      clear hK K
      refine den_cond rfl (fun c2 => ?_) (fun c2 => ?_)
      ·try simp only [decide_eq_true_eq, decide_eq_false_iff_not, beq_iff_eq, beq_eq_false_iff_ne, bne_iff_ne, ne_eq, Bool.not_eq_true', Bool.not_eq_false', Bool.and_eq_true, Bool.or_eq_true, bne_eq_false_iff_eq] at c2
       refine den_skip ?_
       refine den_seq ?_
       refine den_block ?_
       refine den_seq ?_
       have hdX := (hfX.row i (by omega)).deg
       have hdY := (hfY.row j (by omega)).deg
       refine den_draw TTok mixed [] [(0, true), (1, true), (2, true), (3, true), (4, true), (5, true), (6, true), (7, true), (8, true), (9, true), (10, true)] (by kernel_rfl) ?_
       intro K hK
       simp -implicitDefEqProofs (disch := first | decide | assumption | omega) only [go_sem, Int.toNat_zero, fa34_2, ia22, ld2, BoxAt.dgL hb0_0, BoxAt.dgP hb0_0, BoxAt.dgS hb0_0, BoxAt.dgDeg hb0_0, BoxAt.dgLev hb0_0, BoxAt.dgDeg0 hb0_0, BoxAt.dgLev0 hb0_0, BoxAt.dgDifL hb0_0, BoxAt.dgTabL hb0_0, BoxAt.dgTabL0 hb0_0, BoxAt.dgTabL1 hb0_0, BoxAt.dgTabL1' hb0_0, BoxAt.dgDifB hb0_0, BoxAt.dgTabB hb0_0, BoxAt.dgL hb0_1, BoxAt.dgP hb0_1, BoxAt.dgS hb0_1, BoxAt.dgDeg hb0_1, BoxAt.dgLev hb0_1, BoxAt.dgDeg0 hb0_1, BoxAt.dgLev0 hb0_1, BoxAt.dgDifL hb0_1, BoxAt.dgTabL hb0_1, BoxAt.dgTabL0 hb0_1, BoxAt.dgTabL1 hb0_1, BoxAt.dgTabL1' hb0_1, BoxAt.dgDifB hb0_1, BoxAt.dgTabB hb0_1, wrap_id, cv_u8, cv_i64, Nat.zero_add, wrap_u8, eq_el, ne_el, build_el, Int.toNat_zero]
       refine hK _ _ ?_
       clear hK K
       refine den_cond rfl (fun c3 => ?_) (fun c3 => ?_)
       ·try simp only [decide_eq_true_eq, decide_eq_false_iff_not, beq_iff_eq, beq_eq_false_iff_ne, bne_iff_ne, ne_eq, Bool.not_eq_true', Bool.not_eq_false', Bool.and_eq_true, Bool.or_eq_true, bne_eq_false_iff_eq] at c3
        refine den_region TTok ?_
        intro K hK
        simp -implicitDefEqProofs (disch := first | decide | assumption | omega) only [go_sem, RdS.len (OS.rd hQ) sl55, RdS.idx (OS.rd hQ) sl55, R1.intN (OS.rd hQ), RdS.cells (OS.rd hQ), wrap_id, cv_u8, cv_i64, Nat.zero_add, wrap_u8, eq_el, ne_el, build_el, Int.toNat_zero]
        refine op_bs1 sz55 rfl rfl ?_
        try simp -implicitDefEqProofs (disch := first | decide | assumption | omega) only [go_sem, wrap_id, cv_u8, cv_i64, Nat.zero_add, wrap_u8, eq_el, ne_el, build_el, Int.toNat_zero]
        refine op_append1 sz55 hQ hfhQ.nodup ⟨rfl, rfl⟩ List.nodup_nil (Apart.nil _) (by first | omega | (simp; omega)) rfl rfl ?_
        intro v12_6 h12_6 fp12_6 ho12_6 hn12_6 hs12_6 c12_6
        have hsz12_6 := c12_6.size
        have hfho12_6 : Fresh h0_1.size fp12_6 := Fresh.appd hfhQ (Fresh.nil h13.size) (by omega) (by omega) hn12_6 hs12_6
        have sb16 : Sub [h0_1.size] h1_0.size fp12_6 := Sub.grow sb14 Sub.nil (by omega) hs12_6
        have sb17 : Sub fphO h4.size fp12_6 := Sub.grow sb15 Sub.nil (by omega) hs12_6
        have sb18 : Sub fphP h8.size fp12_6 := Sub.grow sbhQ Sub.nil (by omega) hs12_6
        replace hb0_0 := BoxAt.chgA hb0_0 c12_6 (apart_lt hlhb0_0 hfhQ (by omega))
        replace hb0_1 := BoxAt.chgA hb0_1 c12_6 (apart_lt hlhb0_1 hfhQ (by omega))
        have := c12_6.size
        replace eB := Ext.then eB c12_6 (ge_of hfhQ (by omega))
        replace cL2 := Chg.step cL2 c12_6 sb14
        replace cL6 := Chg.step cL6 c12_6 sb15
        replace cL11 := Chg.step cL11 c12_6 sbhQ
        have hlho12_6 := OS.lt ho12_6
        try simp -implicitDefEqProofs (disch := first | decide | assumption | omega) only [go_sem, RdS.len (OS.rd ho12_6) sl55, RdS.idx (OS.rd ho12_6) sl55, R1.intN (OS.rd ho12_6), RdS.cells (OS.rd ho12_6), wrap_id, cv_u8, cv_i64, Nat.zero_add, wrap_u8, eq_el, ne_el, build_el, Int.toNat_zero]
        refine hK _ _ ?_
        clear hK K
        refine den_blk ?_
        refine den_region TTok ?_
        intro K hK
        simp -implicitDefEqProofs (disch := first | decide | assumption | omega) only [go_sem, wrap_id, cv_u8, cv_i64, Nat.zero_add, wrap_u8, eq_el, ne_el, build_el, Int.toNat_zero]
        refine hK _ _ ?_
        clear hK K
        refine den_stop ?_
        first | rw [pqP_yes c3] at ho12_6 | rw [pqP_no c3] at ho12_6
        exact ⟨(j + 1, v12_6, fp12_6), by simp [HasL, puts_at], ⟨by first | omega | (dsimp only; omega), ho12_6, hfho12_6, sb18, cL11⟩, by first | omega | (dsimp only; omega)⟩
       ·try simp only [decide_eq_true_eq, decide_eq_false_iff_not, beq_iff_eq, beq_eq_false_iff_ne, bne_iff_ne, ne_eq, Bool.not_eq_true', Bool.not_eq_false', Bool.and_eq_true, Bool.or_eq_true, bne_eq_false_iff_eq] at c3
        refine den_skip ?_
        refine den_blk ?_
        refine den_region TTok ?_
        intro K hK
        simp -implicitDefEqProofs (disch := first | decide | assumption | omega) only [go_sem, wrap_id, cv_u8, cv_i64, Nat.zero_add, wrap_u8, eq_el, ne_el, build_el, Int.toNat_zero]
        refine hK _ _ ?_
        clear hK K
        refine den_stop ?_
        first | rw [pqP_yes c3] at hQ | rw [pqP_no c3] at hQ
        exact ⟨(j + 1, vhQ, fphQ), by simp [HasL, puts_at], ⟨by first | omega | (dsimp only; omega), hQ, hfhQ, sbhQ, cL11⟩, by first | omega | (dsimp only; omega)⟩
      ·try simp only [decide_eq_true_eq, decide_eq_false_iff_not, beq_iff_eq, beq_eq_false_iff_ne, bne_iff_ne, ne_eq, Bool.not_eq_true', Bool.not_eq_false', Bool.and_eq_true, Bool.or_eq_true, bne_eq_false_iff_eq] at c2
       refine den_exit ?_
       refine denX_code ?_
       refine denX_stop ?_
       refine denX_hit ?_
       refine den_blk ?_
       refine den_region TTok ?_
       intro K hK
       simp -implicitDefEqProofs (disch := first | decide | assumption | omega) only [go_sem, wrap_id, cv_u8, cv_i64, Nat.zero_add, wrap_u8, eq_el, ne_el, build_el, Int.toNat_zero]
       refine hK _ _ ?_
       clear hK K
       refine den_stop ?_
       rw [show j = Y.s.toNat by omega, pqP_row] at hQ
       exact ⟨(i + 1, vhQ, fphQ), by simp [HasL, puts_at], ⟨by first | omega | (dsimp only; omega), hQ, hfhQ, sb15, cL6⟩, by first | omega | (dsimp only; omega)⟩
    ·try simp only [decide_eq_true_eq, decide_eq_false_iff_not, beq_iff_eq, beq_eq_false_iff_ne, bne_iff_ne, ne_eq, Bool.not_eq_true', Bool.not_eq_false', Bool.and_eq_true, Bool.or_eq_true, bne_eq_false_iff_eq] at c1
     refine den_exit ?_
     refine denX_code ?_
     refine denX_stop ?_
     refine denX_hit ?_
     refine den_blk ?_
     refine den_region TTok ?_
     intro K hK
     simp -implicitDefEqProofs (disch := first | decide | assumption | omega) only [go_sem, wrap_id, cv_u8, cv_i64, Nat.zero_add, wrap_u8, eq_el, ne_el, build_el, Int.toNat_zero]
     refine hK _ _ ?_
     clear hK K
     refine den_stop ?_
     rw [show i = X.s.toNat by omega, pqP_deg] at hP
     exact ⟨(d + 1, vhP, fphP), by simp [HasL, puts_at], ⟨by first | omega | (dsimp only; omega), hP, hfhP, sb9, cL2⟩, by first | omega | (dsimp only; omega)⟩
  ·try simp only [decide_eq_true_eq, decide_eq_false_iff_not, beq_iff_eq, beq_eq_false_iff_ne, bne_iff_ne, ne_eq, Bool.not_eq_true', Bool.not_eq_false', Bool.and_eq_true, Bool.or_eq_true, bne_eq_false_iff_eq] at c0
   refine den_exit ?_
   refine denX_code ?_
   refine denX_stop ?_
   refine denX_hit ?_
   refine den_seq ?_
   refine den_region TTok ?_
   intro K hK
   simp -implicitDefEqProofs (disch := first | decide | assumption | omega) only [go_sem, RdS.len (OS.rd hO) sl55, RdS.idx (OS.rd hO) sl55, R1.intN (OS.rd hO), RdS.cells (OS.rd hO), wrap_id, cv_u8, cv_i64, Nat.zero_add, wrap_u8, eq_el, ne_el, build_el, Int.toNat_zero]
   refine hK _ _ ?_
   clear hK K
   refine den_ret ?_
   simp (disch := decide) only [resP_1, puts_same, puts_ne]
   rw [show d = 11 by omega, pqP_end] at hO
   exact ⟨_, _, rfl, hO, hfhO.mono (by omega), eB⟩

set_option maxRecDepth 100000 in
set_option maxHeartbeats 4000000 in
theorem sPj_ok (vE : Value) (p : Int) (E : List Int) (u : Nat → Int) (v : Nat → Int) (s : Int) (h : Heap) (rE : R1 h vE E) (hp : 0 < p ∧ p ≤ 7) (hu : By u) (hv : By v) (hk : -3 ≤ s ∧ s ≤ 3) (hE : E.length ≤ 8) (hEb : ∀ j, j < E.length → 0 ≤ E.getD j 0 ∧ E.getD j 0 ≤ 63) : CallA Try.prog 69 #[.int .i64 p, vE, .agg (elA u), .agg (elA v), .int .i64 s] h fun v' h' => v' = .agg (elA (pjN p E s u v E.length)) ∧ Ext h h' := by
 have hleE := RdS.le rE
 refine callA_intro TTok (args := [_, _, _, _, _]) Try.func69 (by kernel_rfl) rfl 45 rfl (by simp) [.cell 10 30] rfl ?_
 simp only [idxs, Nat.reduceAdd]
 refine den_seq ?_
 refine den_region TTok ?_
 intro K hK
 simp -implicitDefEqProofs (disch := first | decide | assumption | omega) only [go_sem, wrap_id, cv_u8, cv_i64, Nat.zero_add, wrap_u8, eq_el, ne_el, build_el, Int.toNat_zero]
 refine op_box (cs := elA u) rfl ?_
 intro h0_0 e0_0 hb0_0 z0_0
 have := Ext.size e0_0
 have eB := e0_0
 have hfhb0_0 : Fresh h.size [h.size] := Fresh.one _
 have hlhb0_0 := one_lt (show h.size < h0_0.size by omega)
 try simp -implicitDefEqProofs (disch := first | decide | assumption | omega) only [go_sem, wrap_id, cv_u8, cv_i64, Nat.zero_add, wrap_u8, eq_el, ne_el, build_el, Int.toNat_zero]
 refine op_box (cs := elA v) rfl ?_
 intro h0_1 e0_1 hb0_1 z0_1
 replace hb0_0 := BoxAt.ext hb0_0 e0_1
 have := Ext.size e0_1
 replace eB := Ext.trans eB e0_1
 have hfhb0_1 : Fresh h0_0.size [h0_0.size] := Fresh.one _
 have hlhb0_1 := one_lt (show h0_0.size < h0_1.size by omega)
 try simp -implicitDefEqProofs (disch := first | decide | assumption | omega) only [go_sem, wrap_id, cv_u8, cv_i64, Nat.zero_add, wrap_u8, eq_el, ne_el, build_el, Int.toNat_zero]
 refine op_alloc (cs := elA z8) (by kernel_rfl) ?_
 intro h0_2 e0_2 hb0_2 z0_2
 replace hb0_0 := BoxAt.ext hb0_0 e0_2
 replace hb0_1 := BoxAt.ext hb0_1 e0_2
 have := Ext.size e0_2
 replace eB := Ext.trans eB e0_2
 have hfhb0_2 : Fresh h0_1.size [h0_1.size] := Fresh.one _
 have hlhb0_2 := one_lt (show h0_1.size < h0_2.size by omega)
 try simp -implicitDefEqProofs (disch := first | decide | assumption | omega) only [go_sem, BoxAt.elC hb0_2, BoxAt.elL hb0_2, wrap_id, cv_u8, cv_i64, Nat.zero_add, wrap_u8, eq_el, ne_el, build_el, Int.toNat_zero]
 refine hK _ _ ?_
 clear hK K
 refine den_seq ?_
 refine den_region TTok ?_
 intro K hK
 simp -implicitDefEqProofs (disch := first | decide | assumption | omega) only [go_sem, wrap_id, cv_u8, cv_i64, Nat.zero_add, wrap_u8, eq_el, ne_el, build_el, Int.toNat_zero]
 refine op_alloc (cs := elA z8) (by kernel_rfl) ?_
 intro h1_1 e1_1 hb1_1 z1_1
 replace hb0_0 := BoxAt.ext hb0_0 e1_1
 replace hb0_1 := BoxAt.ext hb0_1 e1_1
 replace hb0_2 := BoxAt.ext hb0_2 e1_1
 have := Ext.size e1_1
 replace eB := Ext.trans eB e1_1
 have hfhb1_1 : Fresh h0_2.size [h0_2.size] := Fresh.one _
 have hlhb1_1 := one_lt (show h0_2.size < h1_1.size by omega)
 try simp -implicitDefEqProofs (disch := first | decide | assumption | omega) only [go_sem, BoxAt.elC hb0_2, BoxAt.elL hb0_2, wrap_id, cv_u8, cv_i64, Nat.zero_add, wrap_u8, eq_el, ne_el, build_el, Int.toNat_zero]
 refine op_storeB (o := 0) (vs := elA z8) (cs' := elA z8) st30 hb1_1 rfl rfl (elA_sz _) (by rw [elA_sz]; decide) elA_one elA_all ?_
 intro h1_2 hb1_1 c1_2
 replace hb0_0 := BoxAt.chgA hb0_0 c1_2 (apart_lt hlhb0_0 hfhb1_1 (by omega))
 replace hb0_1 := BoxAt.chgA hb0_1 c1_2 (apart_lt hlhb0_1 hfhb1_1 (by omega))
 replace hb0_2 := BoxAt.chgA hb0_2 c1_2 (apart_lt hlhb0_2 hfhb1_1 (by omega))
 have := c1_2.size
 replace eB := Ext.then eB c1_2 (ge_of hfhb1_1 (by omega))
 try simp -implicitDefEqProofs (disch := first | decide | assumption | omega) only [go_sem, BoxAt.elC hb0_2, BoxAt.elL hb0_2, wrap_id, cv_u8, cv_i64, Nat.zero_add, wrap_u8, eq_el, ne_el, build_el, Int.toNat_zero]
 refine hK _ _ ?_
 clear hK K
 refine den_seq ?_
 refine den_seq ?_
 refine den_region TTok ?_
 intro K hK
 simp -implicitDefEqProofs (disch := first | decide | assumption | omega) only [go_sem, wrap_id, cv_u8, cv_i64, Nat.zero_add, wrap_u8, eq_el, ne_el, build_el, Int.toNat_zero]
 refine hK _ _ ?_
 clear hK K
 refine den_block ?_
 refine den_sel [12, 0, 1, 4, 7, 8, 10, 11] ?_
 intro env_1
 simp only [go_sem]
 refine den_loopS (σ := Nat) (fun st_ => [(12, .int .i64 (st_ : Int))]) (fun st_ H => (st_ ≤ E.length) ∧ (BoxAt H (h0_2.size) (elA (pjN p E s u v st_)) 30) ∧ (Chg [h0_2.size] h1_2 H)) (fun st_ => E.length - st_) 0 ?_ ?_
 ·exact ⟨by first | (simp; done) | (dsimp only; omega) | (simp; omega), by rw [pjN_0]; exact hb1_1, Chg.refl _ _⟩
 ·rintro k h4 ee3 ⟨hi0, hbx11, cL2⟩
  replace hb0_0 := BoxAt.chgA hb0_0 cL2 (apart_lt hlhb0_0 hfhb1_1 (by omega))
  replace hb0_1 := BoxAt.chgA hb0_1 cL2 (apart_lt hlhb0_1 hfhb1_1 (by omega))
  replace hb0_2 := BoxAt.chgA hb0_2 cL2 (apart_lt hlhb0_2 hfhb1_1 (by omega))
  have := cL2.size
  replace eB := Ext.then eB cL2 (ge_of hfhb1_1 (by omega))
  have hfhbx11 := hfhb1_1
  have hlhbx11 := hlhb1_1
  simp only [List.cons_append, List.nil_append]
  refine den_seq ?_
  refine den_seq ?_
  refine den_region TTok ?_
  intro K hK
  simp -implicitDefEqProofs (disch := first | decide | assumption | omega) only [go_sem, RdS.len rE sl55, RdS.idx rE sl55, R1.intB rE (Ext.pres eB), RdS.cells rE, wrap_id, cv_u8, cv_i64, Nat.zero_add, wrap_u8, eq_el, ne_el, build_el, Int.toNat_zero]
  refine hK _ _ ?_
  clear hK K
  refine den_cond rfl (fun c0 => ?_) (fun c0 => ?_)
  ·try simp only [decide_eq_true_eq, decide_eq_false_iff_not, beq_iff_eq, beq_eq_false_iff_ne, bne_iff_ne, ne_eq, Bool.not_eq_true', Bool.not_eq_false', Bool.and_eq_true, Bool.or_eq_true, bne_eq_false_iff_eq] at c0
   refine den_skip ?_
   refine den_seq ?_
   refine den_block ?_
   have hEk := hEb k (by omega)
   have ht8 := td8 hEk
   have huk := hu (Int.tdiv (E.getD k 0) 8).toNat
   have hvk := hv (Int.tmod (E.getD k 0) 8).toNat
   have hkb := kuv_bnd hk huk hvk
   have hm0 := Int.emod_nonneg (s * u (Int.tdiv (E.getD k 0) 8).toNat * v (Int.tmod (E.getD k 0) 8).toNat) (show p ≠ 0 by omega)
   have hm1 := Int.emod_lt_of_pos (s * u (Int.tdiv (E.getD k 0) 8).toNat * v (Int.tmod (E.getD k 0) 8).toNat) hp.1
   refine den_draw TTok mixed [24] [(0, true), (1, true), (2, true), (3, true), (4, true), (5, true), (6, true), (7, true), (8, true), (9, true), (10, true), (11, true), (12, true), (13, true), (14, true), (15, true), (16, true), (17, true), (18, true), (19, true), (20, true), (21, false), (22, true), (23, true), (24, false)] (by kernel_rfl) ?_
   intro K hK
   simp -implicitDefEqProofs (disch := first | decide | assumption | omega) only [go_sem, Int.toNat_zero, T2, T5, ia30, ld2, ld5, RdS.len rE sl55, RdS.idx rE sl55, R1.intB rE (Ext.pres eB), RdS.cells rE, BoxAt.elC hb0_0, BoxAt.elL hb0_0, BoxAt.elC hb0_1, BoxAt.elL hb0_1, wrap_id, cv_u8, cv_i64, Nat.zero_add, wrap_u8, eq_el, ne_el, build_el, Int.toNat_zero]
   try simp -implicitDefEqProofs (disch := first | decide | assumption | omega) only [go_sem, BoxAt.elC hb0_2, BoxAt.elL hb0_2, wrap_id, cv_u8, cv_i64, Nat.zero_add, wrap_u8, eq_el, ne_el, build_el, Int.toNat_zero]
   refine CallA.mono (sMod_ok  p ((s * (u ((Int.tdiv ((E).getD k 0) (8 : Int))).toNat)) * (v ((Int.tmod ((E).getD k 0) (8 : Int))).toNat)) _  (by omega) (by omega)) ?_
   intro v_ h5_21
   rintro ⟨rfl, e5_21⟩
   replace hb0_0 := BoxAt.ext hb0_0 e5_21
   replace hb0_1 := BoxAt.ext hb0_1 e5_21
   replace hb0_2 := BoxAt.ext hb0_2 e5_21
   replace hbx11 := BoxAt.ext hbx11 e5_21
   have := Ext.size e5_21
   replace eB := Ext.trans eB e5_21
   replace cL2 := Chg.stepE cL2 e5_21
   try simp (disch := decide) only [outv_some, outv_none, put_puts]
   refine plK_pres (Ext.pres e5_21) ?_
   try simp -implicitDefEqProofs (disch := first | decide | assumption | omega) only [go_sem, Int.toNat_zero, T2, T5, ia30, BoxAt.elC hbx11, BoxAt.elL hbx11, wrap_id, cv_u8, cv_i64, Nat.zero_add, wrap_u8, eq_el, ne_el, build_el, Int.toNat_zero]
   refine op_storeB (o := k) (vs := #[.int .u8 (((s * (u ((Int.tdiv ((E).getD k 0) (8 : Int))).toNat)) * (v ((Int.tmod ((E).getD k 0) (8 : Int))).toNat)) % p)]) (cs' := elA (upd (pjN p E s u v k) k (((s * (u ((Int.tdiv ((E).getD k 0) (8 : Int))).toNat)) * (v ((Int.tmod ((E).getD k 0) (8 : Int))).toNat)) % p))) st5 hbx11 rfl rfl rfl (by show _ + 1 ≤ 8; omega) u8_one (elA_upd (by omega)) ?_
   intro h5_24 hbx11 c5_24
   replace hb0_0 := BoxAt.chgA hb0_0 c5_24 (apart_lt hlhb0_0 hfhbx11 (by omega))
   replace hb0_1 := BoxAt.chgA hb0_1 c5_24 (apart_lt hlhb0_1 hfhbx11 (by omega))
   replace hb0_2 := BoxAt.chgA hb0_2 c5_24 (apart_lt hlhb0_2 hfhbx11 (by omega))
   have := c5_24.size
   replace eB := Ext.then eB c5_24 (ge_of hfhbx11 (by omega))
   replace cL2 := Chg.step cL2 c5_24 Sub.refl
   try simp (disch := decide) only [outv_some, outv_none, put_puts]
   refine plK_last (by decide) ?_
   try simp -implicitDefEqProofs (disch := first | decide | assumption | omega) only [go_sem, BoxAt.elC hb0_2, BoxAt.elL hb0_2, wrap_id, cv_u8, cv_i64, Nat.zero_add, wrap_u8, eq_el, ne_el, build_el, Int.toNat_zero]
   refine hK _ _ ?_
   clear hK K
   refine den_blk ?_
   refine den_region TTok ?_
   intro K hK
   simp -implicitDefEqProofs (disch := first | decide | assumption | omega) only [go_sem, wrap_id, cv_u8, cv_i64, Nat.zero_add, wrap_u8, eq_el, ne_el, build_el, Int.toNat_zero]
   refine hK _ _ ?_
   clear hK K
   refine den_stop ?_
   rw [pjN_step] at hbx11
   exact ⟨k + 1, by simp [HasL, puts_at], ⟨by first | omega | (dsimp only; omega), hbx11, cL2⟩, by first | omega | (dsimp only; omega)⟩
  ·try simp only [decide_eq_true_eq, decide_eq_false_iff_not, beq_iff_eq, beq_eq_false_iff_ne, bne_iff_ne, ne_eq, Bool.not_eq_true', Bool.not_eq_false', Bool.and_eq_true, Bool.or_eq_true, bne_eq_false_iff_eq] at c0
   refine den_exit ?_
   refine denX_code ?_
   refine denX_stop ?_
   refine denX_hit ?_
   refine den_seq ?_
   refine den_region TTok ?_
   intro K hK
   simp -implicitDefEqProofs (disch := first | decide | assumption | omega) only [go_sem, BoxAt.elC hbx11, BoxAt.elL hbx11, wrap_id, cv_u8, cv_i64, Nat.zero_add, wrap_u8, eq_el, ne_el, build_el, Int.toNat_zero]
   refine op_storeB (o := 0) (vs := elA (pjN p E s u v k)) (cs' := elA (pjN p E s u v k)) st30 hb0_2 rfl rfl (elA_sz _) (by rw [elA_sz]; decide) elA_one elA_all ?_
   intro h6_1 hb0_2 c6_1
   replace hbx11 := BoxAt.chgA hbx11 c6_1 (apart_gt hfhbx11 hlhb0_2 (by omega))
   have := c6_1.size
   replace eB := Ext.then eB c6_1 (ge_of hfhb0_2 (by omega))
   try simp -implicitDefEqProofs (disch := first | decide | assumption | omega) only [go_sem, BoxAt.elC hb0_2, BoxAt.elL hb0_2, wrap_id, cv_u8, cv_i64, Nat.zero_add, wrap_u8, eq_el, ne_el, build_el, Int.toNat_zero]
   refine hK _ _ ?_
   clear hK K
   refine den_ret ?_
   simp -implicitDefEqProofs (disch := first | decide | assumption | omega) only [go_sem, BoxAt.elC hb0_2, BoxAt.elL hb0_2, wrap_id, cv_u8, cv_i64, Nat.zero_add, wrap_u8, eq_el, ne_el, build_el, Int.toNat_zero, resP_c1, ld30]
   rw [show k = E.length by omega]
   exact ⟨by first | rfl | trivial, eB⟩
end Go.Proofs.Ytacajcjibhifmaa

namespace Go.Proofs.Ytacajcjibhifmaa
open Go
def in8A (u : Nat → Int) : Array Value := Array.ofFn (n := 8) fun i => .int .i64 (u i)
def el8A (f : Nat → Nat → Int) : Array Value := Array.ofFn (n := 64) fun i => .int .u8 (f (i / 8) (i % 8))
def el88A (f : Nat → Nat → Nat → Int) : Array Value := Array.ofFn (n := 512) fun i => .int .u8 (f (i / 64) (i / 8 % 8) (i % 8))
def z64 : Nat → Nat → Int := fun _ => z8
def z512 : Nat → Nat → Nat → Int := fun _ => z64
def dgZ : Dg := ⟨0, 0, z8, z8, z64, z512⟩
def updF {α : Type} (f : Nat → α) (i : Nat) (x : α) : Nat → α := fun k => if k = i then x else f k
theorem in8_at {u : Nat → Int} {i : Nat} (h : i < 8) : (in8A u)[i]? = some (.int .i64 (u i)) := by rw [in8A, Array.getElem?_ofFn, dif_pos h]
theorem el8_at {f : Nat → Nat → Int} {o : Nat} (h : o < 64) : (el8A f)[o]? = some (.int .u8 (f (o / 8) (o % 8))) := by rw [el8A, Array.getElem?_ofFn, dif_pos h]
theorem el88_at {f : Nat → Nat → Nat → Int} {o : Nat} (h : o < 512) : (el88A f)[o]? = some (.int .u8 (f (o / 64) (o / 8 % 8) (o % 8))) := by rw [el88A, Array.getElem?_ofFn, dif_pos h]
theorem ofFn_one {n : Nat} {f : Fin n → Value} (h : ∀ i, (f i).oneCell' = true) : ∀ v ∈ (Array.ofFn f).toList, v.oneCell' = true := by
 intro v hv
 rw [Array.mem_toList_iff, Array.mem_ofFn] at hv
 obtain ⟨i, rfl⟩ := hv
 exact h i
theorem splice_at {l vs : List Value} {o m : Nat} (hm : vs.length = m) (hl : o + m ≤ l.length) (q : Nat) : (l.take o ++ vs ++ l.drop (o + m))[q]? = if q < o then l[q]? else if q < o + m then vs[q - o]? else l[q]? := by
 have h1 : (l.take o).length = o := by rw [List.length_take]; omega
 by_cases h : q < o
 ·rw [if_pos h, List.append_assoc, List.getElem?_append_left (by omega), List.getElem?_take, if_pos h]
 ·rw [if_neg h]
  by_cases h2 : q < o + m
  ·rw [if_pos h2, List.append_assoc, List.getElem?_append_right (by omega), h1, List.getElem?_append_left (by omega)]
  ·rw [if_neg h2, List.getElem?_append_right (by rw [List.length_append]; omega), List.getElem?_drop, List.length_append, h1, hm]
   congr 1; omega
/-- What a store leaves, cell by cell. -/
theorem splice_eq {cs vs cs' : Array Value} {o m : Nat} (hm : vs.size = m) (hl : o + m ≤ cs.size) (h : ∀ q : Nat, (if q < o then cs[q]? else if q < o + m then vs[q - o]? else cs[q]?) = cs'[q]?) : (cs.toList.take o ++ vs.toList ++ cs.toList.drop (o + m)).toArray = cs' := by
 refine Array.ext_getElem? fun q => ?_
 rw [List.getElem?_toArray, splice_at (by simpa using hm) (by simpa using hl), ← h q]
 simp only [Array.getElem?_toList]
section
variable {h : Heap} {b : Nat} {cs : Array Value} {t tb : TypeId}
theorem ldArr {n : Nat} (hl : ∀ (h : Heap) (a : Addr), loadV TT h t a = (hcells h a 0 n).map fun cs => .agg cs.toArray) (hb : BoxAt h b cs tb) (f : Nat → Value) (o : Nat) (hf : ∀ q, q < n → cs[o + q]? = some (f q)) : loadV TT h t ⟨b, o, none⟩ = some (.agg (Array.ofFn (n := n) fun q => f q)) := by
 rw [hl, hcells_arr hb f o n 0 (fun q _ h2 => hf q (by omega)), Option.map_some]
 refine congrArg (fun z => some (Value.agg z)) (Array.ext_getElem? fun q => ?_)
 rw [Array.getElem?_ofFn, List.getElem?_toArray, List.getElem?_map]
 by_cases hq : q < n
 ·rw [dif_pos hq, List.getElem?_range' hq, Option.map_some]
  simp
 ·rw [dif_neg hq, List.getElem?_eq_none (by rw [List.length_range']; omega)]; rfl
end
/-! An algebra as an argument. -/
theorem get_1 {l : List Value} {i : Nat} {v : Value} (h : (l.drop i).take 1 = [v]) : l[i]? = some v := by
 have : ((l.drop i).take 1)[0]? = some v := by rw [h]; rfl
 rw [List.getElem?_take, if_pos (by omega), List.getElem?_drop] at this
 exact this
theorem get_sub {l : List Value} {a m i : Nat} {v : Value} (h : ((l.drop a).take m)[i]? = some v) : l[a + i]? = some v := by
 rw [List.getElem?_take] at h
 split at h
 ·rwa [List.getElem?_drop] at h
 ·cases h
theorem pick8 {α : Type} (d : α) {Q : Nat → α → Prop} (h : ∀ i, i < 8 → ∃ a, Q i a) : ∃ f : Nat → α, (∀ i, i < 8 → Q i (f i)) ∧ ∀ i, ¬ i < 8 → f i = d :=
 ⟨fun i => if hi : i < 8 then Classical.choose (h i hi) else d, fun i hi => by dsimp only; rw [dif_pos hi]; exact Classical.choose_spec (h i hi), fun i hi => by dsimp only; rw [dif_neg hi]⟩
theorem wf_u8 {n : Int} (h : (Lit.int .u8 n).wf = true) : 0 ≤ n ∧ n ≤ 255 := by
 simp [Lit.wf, IntKind.min, IntKind.max, IntKind.signed, IntKind.bits] at h
 omega
theorem wf_i64 {n : Int} (h : (Lit.int .i64 n).wf = true) : -9223372036854775808 ≤ n ∧ n ≤ 9223372036854775807 := by
 simp [Lit.wf, IntKind.min, IntKind.max, IntKind.signed, IntKind.bits] at h
 omega
section
variable {H : Type} {enc : TypeId × Value → H} {w : World} {base : Nat} {spare : Nat → Bool} {held : Bool} {fuel : Nat} {cs : List Value} {x : DataW H × List MemPlace}
theorem op_in8 (h : DataW.trod enc Try.prog w base spare held fuel 22 cs = some x) : ∃ u : Nat → Int, (∀ i, i < 8 → cs[i]? = some (.int .i64 (u i))) ∧ ∀ i, -9223372036854775808 ≤ u i ∧ u i ≤ 9223372036854775807 := by
 obtain ⟨xs, m, _, _, _, hl, hel⟩ := DataW.trod_array Try.underlying22 h
 have hc : Try.prog.cellsOf 2 = 1 := by kernel_rfl
 obtain ⟨u, hu, hu2⟩ := pick8 (0 : Int) (Q := fun i a => cs[i]? = some (.int .i64 a) ∧ -9223372036854775808 ≤ a ∧ a ≤ 9223372036854775807) (fun i hi => by
  have h1 := hel i hi
  rw [hc, Nat.mul_one, List.getElem?_eq_getElem (by omega)] at h1
  obtain ⟨n, e, _, hw⟩ := DataW.trod_int Try.underlying2 h1
  exact ⟨n, get_1 e, wf_i64 hw⟩)
 refine ⟨u, fun i hi => (hu i hi).1, fun i => ?_⟩
 by_cases hi : i < 8
 ·exact (hu i hi).2
 ·rw [hu2 i hi]; omega
theorem op_el (h : DataW.trod enc Try.prog w base spare held fuel 23 cs = some x) : ∃ u : Nat → Int, (∀ i, i < 8 → cs[i]? = some (.int .u8 (u i))) ∧ By u := by
 obtain ⟨xs, m, _, _, _, hl, hel⟩ := DataW.trod_array Try.underlying23 h
 have hc : Try.prog.cellsOf 5 = 1 := by kernel_rfl
 obtain ⟨u, hu, hu2⟩ := pick8 (0 : Int) (Q := fun i a => cs[i]? = some (.int .u8 a) ∧ 0 ≤ a ∧ a ≤ 255) (fun i hi => by
  have h1 := hel i hi
  rw [hc, Nat.mul_one, List.getElem?_eq_getElem (by omega)] at h1
  obtain ⟨n, e, _, hw⟩ := DataW.trod_int Try.underlying5 h1
  exact ⟨n, get_1 e, wf_u8 hw⟩)
 refine ⟨u, fun i hi => (hu i hi).1, fun i => ?_⟩
 by_cases hi : i < 8
 ·exact (hu i hi).2
 ·rw [hu2 i hi]; omega
theorem op_el8 (h : DataW.trod enc Try.prog w base spare held fuel 24 cs = some x) : ∃ f : Nat → Nat → Int, (∀ i, i < 8 → ∀ k, k < 8 → cs[i * 8 + k]? = some (.int .u8 (f i k))) ∧ ∀ i, By (f i) := by
 obtain ⟨xs, m, _, _, _, hl, hel⟩ := DataW.trod_array Try.underlying24 h
 have hc : Try.prog.cellsOf 23 = 8 := by kernel_rfl
 obtain ⟨f, hu, hu2⟩ := pick8 z8 (Q := fun i a => (∀ k, k < 8 → cs[i * 8 + k]? = some (.int .u8 (a k))) ∧ By a) (fun i hi => by
  have h1 := hel i hi
  rw [hc, List.getElem?_eq_getElem (by omega)] at h1
  obtain ⟨u, e, hb⟩ := op_el h1
  exact ⟨u, fun k hk => get_sub (e k hk), hb⟩)
 refine ⟨f, fun i hi => (hu i hi).1, fun i => ?_⟩
 by_cases hi : i < 8
 ·exact (hu i hi).2
 ·rw [hu2 i hi]; exact By.z8
theorem op_el88 (h : DataW.trod enc Try.prog w base spare held fuel 25 cs = some x) : ∃ f : Nat → Nat → Nat → Int, (∀ i, i < 8 → ∀ j, j < 8 → ∀ k, k < 8 → cs[i * 64 + (j * 8 + k)]? = some (.int .u8 (f i j k))) ∧ ∀ i j, By (f i j) := by
 obtain ⟨xs, m, _, _, _, hl, hel⟩ := DataW.trod_array Try.underlying25 h
 have hc : Try.prog.cellsOf 24 = 64 := by kernel_rfl
 obtain ⟨f, hu, hu2⟩ := pick8 z64 (Q := fun i a => (∀ j, j < 8 → ∀ k, k < 8 → cs[i * 64 + (j * 8 + k)]? = some (.int .u8 (a j k))) ∧ ∀ j, By (a j)) (fun i hi => by
  have h1 := hel i hi
  rw [hc, List.getElem?_eq_getElem (by omega)] at h1
  obtain ⟨u, e, hb⟩ := op_el8 h1
  exact ⟨u, fun j hj k hk => get_sub (e j hj k hk), hb⟩)
 refine ⟨f, fun i hi => (hu i hi).1, fun i => ?_⟩
 by_cases hi : i < 8
 ·exact (hu i hi).2
 ·rw [hu2 i hi]; exact fun _ => By.z8
end
set_option maxRecDepth 100000 in
theorem open_dga {H : Type} {enc : TypeId × Value → H} {w : World} {base : Nat} {spare : Nat → Bool} {held : Bool} {r : Reach} {b0 : Nat} {v : Value} {d : DataW H} {p : List MemPlace}
  (hv : Value.okWide Try.prog w r b0 27 v) (h : DataW.Trod enc Try.prog w base spare held 27 v d p) : ∃ X, v = .agg (dgA X) ∧ DgB X := by
 obtain ⟨cs, rfl, hsz⟩ := Go.WideShapes.okWide_struct Try.underlying27 hv
 have hc : Try.prog.cellsOf 27 = 594 := by kernel_rfl
 rw [hc] at hsz
 obtain ⟨fuel, hf⟩ := h
 obtain ⟨xs, n, _, _, _, hl, hg⟩ := DataW.trod_struct Try.underlying27 hf
 have k1 : Try.prog.cellsOf 2 = 1 := by kernel_rfl
 have k2 : Try.prog.cellsOf 22 = 8 := by kernel_rfl
 have k3 : Try.prog.cellsOf 24 = 64 := by kernel_rfl
 have k4 : Try.prog.cellsOf 25 = 512 := by kernel_rfl
 have hn : ∀ q, q < 6 → ∃ y, xs[q]? = some y := fun q hq => ⟨_, List.getElem?_eq_getElem (by rw [hl]; exact hq)⟩
 obtain ⟨y0, e0⟩ := hn 0 (by decide)
 obtain ⟨y1, e1⟩ := hn 1 (by decide)
 obtain ⟨y2, e2⟩ := hn 2 (by decide)
 obtain ⟨y3, e3⟩ := hn 3 (by decide)
 obtain ⟨y4, e4⟩ := hn 4 (by decide)
 obtain ⟨y5, e5⟩ := hn 5 (by decide)
 have g0 := hg 0 _ rfl
 have g1 := hg 1 _ rfl
 have g2_ := hg 2 _ rfl
 have g3 := hg 3 _ rfl
 have g4 := hg 4 _ rfl
 have g5 := hg 5 _ rfl
 simp only [k1, k2, k3, k4, Value.cells, e0, e1, e2, e3, e4, e5] at g0 g1 g2_ g3 g4 g5
 obtain ⟨a0, q0, _, _⟩ := DataW.trod_int Try.underlying2 g0
 obtain ⟨a1, q1, _, _⟩ := DataW.trod_int Try.underlying2 g1
 obtain ⟨a2, q2, b2⟩ := op_in8 g2_
 obtain ⟨a3, q3, b3⟩ := op_in8 g3
 obtain ⟨a4, q4, b4⟩ := op_el8 g4
 obtain ⟨a5, q5, b5⟩ := op_el88 g5
 refine ⟨⟨a0, a1, a2, a3, a4, a5⟩, congrArg Value.agg (Array.ext_getElem? fun o => ?_), ⟨b4, b5, b2, b3⟩⟩
 by_cases ho : o < 594
 ·rw [dgA_at ho, ← Array.getElem?_toList]
  unfold dgF
  split
  ·rename_i h; subst h; exact get_1 q0
  ·split
   ·rename_i h; subst h; exact get_1 q1
   ·split
    ·have this : cs.toList[2 + (o - 2)]? = some (.int .i64 (a2 (o - 2))) := get_sub (q2 (o - 2) (by omega)); rwa [show 2 + (o - 2) = o by omega] at this
    ·split
     ·have this : cs.toList[10 + (o - 10)]? = some (.int .i64 (a3 (o - 10))) := get_sub (q3 (o - 10) (by omega)); rwa [show 10 + (o - 10) = o by omega] at this
     ·split
      ·have this : cs.toList[18 + ((o - 18) / 8 * 8 + (o - 18) % 8)]? = some (.int .u8 (a4 ((o - 18) / 8) ((o - 18) % 8))) := get_sub (q4 ((o - 18) / 8) (by omega) ((o - 18) % 8) (by omega)); rwa [show 18 + ((o - 18) / 8 * 8 + (o - 18) % 8) = o by omega] at this
      ·have this : cs.toList[82 + ((o - 82) / 64 * 64 + ((o - 82) / 8 % 8 * 8 + (o - 82) % 8))]? = some (.int .u8 (a5 ((o - 82) / 64) ((o - 82) / 8 % 8) ((o - 82) % 8))) := get_sub (q5 ((o - 82) / 64) (by omega) ((o - 82) / 8 % 8) (by omega) ((o - 82) % 8) (by omega)); rwa [show 82 + ((o - 82) / 64 * 64 + ((o - 82) / 8 % 8 * 8 + (o - 82) % 8)) = o by omega] at this
 ·rw [Array.getElem?_eq_none (by omega), Array.getElem?_eq_none (by rw [dgA_size]; omega)]
end Go.Proofs.Ytacajcjibhifmaa

namespace Go.Proofs.Ytacajcjibhifmaa
open Go
theorem in8A_sz (u : Nat → Int) : (in8A u).size = 8 := Array.size_ofFn
theorem el8A_sz (f : Nat → Nat → Int) : (el8A f).size = 64 := Array.size_ofFn
theorem el88A_sz (f : Nat → Nat → Nat → Int) : (el88A f).size = 512 := Array.size_ofFn
theorem dgA_sz (X : Dg) : (dgA X).size = 594 := Array.size_ofFn
theorem in8A_one {u : Nat → Int} : ∀ v ∈ (in8A u).toList, v.oneCell' = true := ofFn_one fun _ => rfl
theorem el8A_one {f : Nat → Nat → Int} : ∀ v ∈ (el8A f).toList, v.oneCell' = true := ofFn_one fun _ => rfl
theorem el88A_one {f : Nat → Nat → Nat → Int} : ∀ v ∈ (el88A f).toList, v.oneCell' = true := ofFn_one fun _ => rfl
theorem dgF_one (X : Dg) (o : Nat) : (dgF X o).oneCell' = true := by
 unfold dgF
 split
 ·rfl
 ·split
  ·rfl
  ·split
   ·rfl
   ·split
    ·rfl
    ·split <;> rfl
theorem dgA_one {X : Dg} : ∀ v ∈ (dgA X).toList, v.oneCell' = true := ofFn_one fun i => dgF_one X i
theorem i64_one {x : Int} : ∀ v ∈ (#[Value.int .i64 x] : Array Value).toList, v.oneCell' = true := by
 intro v hv
 simp only [List.mem_cons, List.not_mem_nil, or_false] at hv
 subst hv; rfl
theorem all_eq {cs vs : Array Value} {n : Nat} (h1 : cs.size = n) (h2 : vs.size = n) : (cs.toList.take 0 ++ vs.toList ++ cs.toList.drop (0 + n)).toArray = vs := by
 rw [List.take_zero, List.nil_append, List.drop_of_length_le (by rw [Array.length_toList]; omega), List.append_nil]
theorem in8A_all {u v : Nat → Int} : ((in8A u).toList.take 0 ++ (in8A v).toList ++ (in8A u).toList.drop (0 + 8)).toArray = in8A v := all_eq (in8A_sz u) (in8A_sz v)
theorem el8A_all {u v : Nat → Nat → Int} : ((el8A u).toList.take 0 ++ (el8A v).toList ++ (el8A u).toList.drop (0 + 64)).toArray = el8A v := all_eq (el8A_sz u) (el8A_sz v)
theorem el88A_all {u v : Nat → Nat → Nat → Int} : ((el88A u).toList.take 0 ++ (el88A v).toList ++ (el88A u).toList.drop (0 + 512)).toArray = el88A v := all_eq (el88A_sz u) (el88A_sz v)
theorem dgA_all {X Y : Dg} : ((dgA X).toList.take 0 ++ (dgA Y).toList ++ (dgA X).toList.drop (0 + 594)).toArray = dgA Y := all_eq (dgA_sz X) (dgA_sz Y)
theorem none_of {cs : Array Value} {n q : Nat} (h : cs.size = n) (hq : ¬ q < n) : cs[q]? = none := Array.getElem?_eq_none (by omega)
/-- Stores by cells: F before, G after. -/
theorem store_eq {cs vs cs' : Array Value} {o m n : Nat} {F G W : Nat → Value} (h1 : cs.size = n) (h2 : cs'.size = n) (hm : vs.size = m) (hl : o + m ≤ n) (f : ∀ q, q < n → cs[q]? = some (F q)) (g : ∀ q, q < n → cs'[q]? = some (G q)) (w : ∀ q, q < m → vs[q]? = some (W q)) (ha : ∀ q, q < n → (q < o ∨ o + m ≤ q) → G q = F q) (hb : ∀ q, q < m → G (o + q) = W q) : (cs.toList.take o ++ vs.toList ++ cs.toList.drop (o + m)).toArray = cs' := by
 refine splice_eq hm (by omega) fun q => ?_
 by_cases hq : q < n
 ·rw [g q hq]
  by_cases c1 : q < o
  ·rw [if_pos c1, f q hq, ha q hq (.inl c1)]
  ·rw [if_neg c1]
   by_cases c2 : q < o + m
   ·rw [if_pos c2, w (q - o) (by omega), ← hb (q - o) (by omega), show o + (q - o) = q by omega]
   ·rw [if_neg c2, f q hq, ha q hq (.inr (by omega))]
 ·rw [if_neg (by omega), if_neg (by omega), none_of h1 hq, none_of h2 hq]
theorem one_at {x : Value} : ∀ q, q < 1 → (#[x] : Array Value)[q]? = some ((fun _ => x) q) := fun q hq => by
 obtain rfl : q = 0 := by omega
 rfl
theorem in8_upd {u : Nat → Int} {i : Nat} {x : Int} (h : i < 8) : ((in8A u).toList.take i ++ (#[Value.int .i64 x] : Array Value).toList ++ (in8A u).toList.drop (i + 1)).toArray = in8A (upd u i x) :=
 store_eq (in8A_sz _) (in8A_sz _) rfl (by omega) (fun q hq => in8_at hq) (fun q hq => in8_at hq) one_at (fun q hq hc => by show Value.int .i64 (upd u i x q) = _; rw [upd, if_neg (by omega)]) (fun q hq => by
  obtain rfl : q = 0 := by omega
  show Value.int .i64 (upd u i x (i + 0)) = _; rw [upd, if_pos (by omega)])
theorem el8_upd {f : Nat → Nat → Int} {i : Nat} {v : Nat → Int} (h : i < 8) : ((el8A f).toList.take (i * 8) ++ (elA v).toList ++ (el8A f).toList.drop (i * 8 + 8)).toArray = el8A (updF f i v) :=
 store_eq (el8A_sz _) (el8A_sz _) (elA_sz v) (by omega) (fun q hq => el8_at hq) (fun q hq => el8_at hq) (fun q hq => elA_at hq) (fun q hq hc => by show Value.int .u8 (updF f i v (q / 8) (q % 8)) = _; rw [updF, if_neg (by omega)]) (fun q hq => by
  show Value.int .u8 (updF f i v ((i * 8 + q) / 8) ((i * 8 + q) % 8)) = _; rw [updF, if_pos (by omega), show (i * 8 + q) % 8 = q by omega])
theorem el88_upd {f : Nat → Nat → Nat → Int} {i : Nat} {v : Nat → Nat → Int} (h : i < 8) : ((el88A f).toList.take (i * 64) ++ (el8A v).toList ++ (el88A f).toList.drop (i * 64 + 64)).toArray = el88A (updF f i v) :=
 store_eq (el88A_sz _) (el88A_sz _) (el8A_sz v) (by omega) (fun q hq => el88_at hq) (fun q hq => el88_at hq) (fun q hq => el8_at hq) (fun q hq hc => by show Value.int .u8 (updF f i v (q / 64) (q / 8 % 8) (q % 8)) = _; rw [updF, if_neg (by omega)]) (fun q hq => by
  show Value.int .u8 (updF f i v ((i * 64 + q) / 64) ((i * 64 + q) / 8 % 8) ((i * 64 + q) % 8)) = _; rw [updF, if_pos (by omega), show (i * 64 + q) % 8 = q % 8 by omega, show (i * 64 + q) / 8 % 8 = q / 8 by omega])
section
variable {X : Dg}
theorem dg_p {x : Int} : ((dgA X).toList.take 0 ++ (#[Value.int .i64 x] : Array Value).toList ++ (dgA X).toList.drop (0 + 1)).toArray = dgA { X with p := x } :=
 store_eq (dgA_sz _) (dgA_sz _) rfl (by omega) (fun q hq => dgA_at hq) (fun q hq => dgA_at hq) one_at (fun q hq hc => by
  unfold dgF
  by_cases h0 : q = 0 <;> by_cases h1 : q = 1 <;> by_cases h2 : q < 10 <;> by_cases h3 : q < 18 <;> first | (exfalso; omega) | simp [h0, h1, h2, h3]) (fun q hq => by
  obtain rfl : q = 0 := by omega
  rfl)
theorem dg_s {x : Int} : ((dgA X).toList.take 1 ++ (#[Value.int .i64 x] : Array Value).toList ++ (dgA X).toList.drop (1 + 1)).toArray = dgA { X with s := x } :=
 store_eq (dgA_sz _) (dgA_sz _) rfl (by omega) (fun q hq => dgA_at hq) (fun q hq => dgA_at hq) one_at (fun q hq hc => by
  unfold dgF
  by_cases h0 : q = 0 <;> by_cases h1 : q = 1 <;> by_cases h2 : q < 10 <;> by_cases h3 : q < 18 <;> first | (exfalso; omega) | simp [h0, h1, h2, h3]) (fun q hq => by
  obtain rfl : q = 0 := by omega
  rfl)
theorem dg_deg {u : Nat → Int} : ((dgA X).toList.take 2 ++ (in8A u).toList ++ (dgA X).toList.drop (2 + 8)).toArray = dgA { X with deg := u } :=
 store_eq (dgA_sz _) (dgA_sz _) (in8A_sz u) (by omega) (fun q hq => dgA_at hq) (fun q hq => dgA_at hq) (fun q hq => in8_at hq) (fun q hq hc => by
  unfold dgF
  by_cases h0 : q = 0 <;> by_cases h1 : q = 1 <;> by_cases h2 : q < 10 <;> by_cases h3 : q < 18 <;> first | (exfalso; omega) | simp [h0, h1, h2, h3]) (fun q hq => dgF_deg (X := { X with deg := u }) hq)
theorem dg_lev {u : Nat → Int} : ((dgA X).toList.take 10 ++ (in8A u).toList ++ (dgA X).toList.drop (10 + 8)).toArray = dgA { X with lev := u } :=
 store_eq (dgA_sz _) (dgA_sz _) (in8A_sz u) (by omega) (fun q hq => dgA_at hq) (fun q hq => dgA_at hq) (fun q hq => in8_at hq) (fun q hq hc => by
  unfold dgF
  by_cases h0 : q = 0 <;> by_cases h1 : q = 1 <;> by_cases h2 : q < 10 <;> by_cases h3 : q < 18 <;> first | (exfalso; omega) | simp [h0, h1, h2, h3]) (fun q hq => dgF_lev (X := { X with lev := u }) hq)
theorem dgF_diff {o : Nat} (h : 18 ≤ o ∧ o < 82) : dgF X o = .int .u8 (X.dif ((o - 18) / 8) ((o - 18) % 8)) := by
 unfold dgF
 rw [if_neg (by omega), if_neg (by omega), if_neg (by omega), if_neg (by omega), if_pos (by omega)]
theorem dgF_table {o : Nat} (h : 82 ≤ o) : dgF X o = .int .u8 (X.tab ((o - 82) / 64) ((o - 82) / 8 % 8) ((o - 82) % 8)) := by
 unfold dgF
 rw [if_neg (by omega), if_neg (by omega), if_neg (by omega), if_neg (by omega), if_neg (by omega)]
theorem dgF_low {Y : Dg} (hp : Y.p = X.p) (hs : Y.s = X.s) (hd : Y.deg = X.deg) (hl : Y.lev = X.lev) {o : Nat} (h : o < 18) : dgF Y o = dgF X o := by
 unfold dgF
 rw [hp, hs, hd, hl]
 by_cases h0 : o = 0 <;> by_cases h1 : o = 1 <;> by_cases h2 : o < 10 <;> simp [h0, h1, h2, h]
theorem dg_dif {f : Nat → Nat → Int} : ((dgA X).toList.take 18 ++ (el8A f).toList ++ (dgA X).toList.drop (18 + 64)).toArray = dgA { X with dif := f } :=
 store_eq (dgA_sz _) (dgA_sz _) (el8A_sz f) (by omega) (fun q hq => dgA_at hq) (fun q hq => dgA_at hq) (fun q hq => el8_at hq) (fun q hq hc => by
  by_cases h2 : q < 18
  ·exact dgF_low (X := X) (Y := { X with dif := f }) rfl rfl rfl rfl h2
  ·rw [dgF_table (by omega), dgF_table (by omega)]) (fun q hq => by
  rw [dgF_diff (by omega), show 18 + q - 18 = q by omega])
theorem dg_tab {f : Nat → Nat → Nat → Int} : ((dgA X).toList.take 82 ++ (el88A f).toList ++ (dgA X).toList.drop (82 + 512)).toArray = dgA { X with tab := f } :=
 store_eq (dgA_sz _) (dgA_sz _) (el88A_sz f) (by omega) (fun q hq => dgA_at hq) (fun q hq => dgA_at hq) (fun q hq => el88_at hq) (fun q hq hc => by
  by_cases h2 : q < 18
  ·exact dgF_low (X := X) (Y := { X with tab := f }) rfl rfl rfl rfl h2
  ·rw [dgF_diff (by omega), dgF_diff (by omega)]) (fun q hq => by
  rw [dgF_table (by omega), show 82 + q - 82 = q by omega])
variable {h : Heap} {b : Nat} {t : TypeId} {u : Nat → Int} {f : Nat → Nat → Int} {g : Nat → Nat → Nat → Int}
theorem BoxAt.in8C (hb : BoxAt h b (in8A u) t) {i : Nat} (hi : i < 8) : hcell h ⟨b, i, none⟩ = some (.int .i64 (u i)) := by rw [hb.cell, in8_at hi]
theorem BoxAt.in8L (hb : BoxAt h b (in8A u) t) : loadV TT h 22 ⟨b, 0, none⟩ = some (.agg (in8A u)) := ldArr ld22 hb (fun q => .int .i64 (u q)) 0 (fun q hq => by rw [Nat.zero_add]; exact in8_at hq)
theorem BoxAt.elL2 (hb : BoxAt h b (elA u) t) : loadV TT h 23 ⟨b, 0, none⟩ = some (.agg (elA u)) := ldArr ld23 hb (fun q => .int .u8 (u q)) 0 (fun q hq => by rw [Nat.zero_add]; exact elA_at hq)
theorem BoxAt.el8E (hb : BoxAt h b (el8A f) t) {i : Nat} (hi : i < 8) : loadV TT h 23 ⟨b, i * 8, none⟩ = some (.agg (elA (f i))) := ldArr ld23 hb (fun q => .int .u8 (f i q)) (i * 8) (fun q hq => by rw [el8_at (by omega), show (i * 8 + q) / 8 = i by omega, show (i * 8 + q) % 8 = q by omega])
theorem BoxAt.el8L (hb : BoxAt h b (el8A f) t) : loadV TT h 24 ⟨b, 0, none⟩ = some (.agg (el8A f)) := ldArr ld24 hb (fun q => .int .u8 (f (q / 8) (q % 8))) 0 (fun q hq => by rw [Nat.zero_add]; exact el8_at hq)
theorem BoxAt.el8L2 (hb : BoxAt h b (el8A f) t) : loadV TT h 31 ⟨b, 0, none⟩ = some (.agg (el8A f)) := ldArr ld31 hb (fun q => .int .u8 (f (q / 8) (q % 8))) 0 (fun q hq => by rw [Nat.zero_add]; exact el8_at hq)
theorem BoxAt.el88R (hb : BoxAt h b (el88A g) t) {i : Nat} (hi : i < 8) : loadV TT h 24 ⟨b, i * 64, none⟩ = some (.agg (el8A (g i))) := ldArr ld24 hb (fun q => .int .u8 (g i (q / 8) (q % 8))) (i * 64) (fun q hq => by rw [el88_at (by omega), show (i * 64 + q) / 64 = i by omega, show (i * 64 + q) / 8 % 8 = q / 8 by omega, show (i * 64 + q) % 8 = q % 8 by omega])
theorem BoxAt.el88L (hb : BoxAt h b (el88A g) t) : loadV TT h 32 ⟨b, 0, none⟩ = some (.agg (el88A g)) := ldArr ld32 hb (fun q => .int .u8 (g (q / 64) (q / 8 % 8) (q % 8))) 0 (fun q hq => by rw [Nat.zero_add]; exact el88_at hq)
theorem BoxAt.dgLL (hb : BoxAt h b (dgA X) t) : loadV TT h 27 ⟨b, 0, none⟩ = some (.agg (dgA X)) := ldArr ld27 hb (fun q => dgF X q) 0 (fun q hq => by rw [Nat.zero_add]; exact dgA_at hq)
theorem BoxAt.dgDegL (hb : BoxAt h b (dgA X) t) : loadV TT h 22 ⟨b, 2, none⟩ = some (.agg (in8A X.deg)) := ldArr ld22 hb (fun q => .int .i64 (X.deg q)) 2 (fun q hq => by rw [dgA_at (by omega), dgF_deg hq])
theorem BoxAt.dgLevL (hb : BoxAt h b (dgA X) t) : loadV TT h 22 ⟨b, 10, none⟩ = some (.agg (in8A X.lev)) := ldArr ld22 hb (fun q => .int .i64 (X.lev q)) 10 (fun q hq => by rw [dgA_at (by omega), dgF_lev hq])
theorem BoxAt.dgDifA (hb : BoxAt h b (dgA X) t) : loadV TT h 24 ⟨b, 18, none⟩ = some (.agg (el8A X.dif)) := ldArr ld24 hb (fun q => .int .u8 (X.dif (q / 8) (q % 8))) 18 (fun q hq => by rw [dgA_at (by omega), dgF_diff (by omega), show 18 + q - 18 = q by omega])
theorem BoxAt.dgTabA (hb : BoxAt h b (dgA X) t) : loadV TT h 25 ⟨b, 82, none⟩ = some (.agg (el88A X.tab)) := ldArr ld25 hb (fun q => .int .u8 (X.tab (q / 64) (q / 8 % 8) (q % 8))) 82 (fun q hq => by rw [dgA_at (by omega), dgF_table (by omega), show 82 + q - 82 = q by omega])
end
end Go.Proofs.Ytacajcjibhifmaa

namespace Go.Proofs.Ytacajcjibhifmaa
open Go
def cpF {α : Type} (d : α) (u : Nat → α) (n : Nat) : Nat → α := fun k => if k < n then u k else d
theorem cpF_z8 (u : Nat → Int) : cpF 0 u 0 = z8 := by funext k; simp [cpF, z8]
theorem cpF_z64 (u : Nat → Nat → Int) : cpF z8 u 0 = z64 := by funext k; simp [cpF, z64]
theorem cpF_z512 (u : Nat → Nat → Nat → Int) : cpF z64 u 0 = z512 := by funext k; simp [cpF, z512]
theorem cpF_step {α : Type} (d : α) (u : Nat → α) (n : Nat) : (fun k => if k = n then u n else cpF d u n k) = cpF d u (n + 1) := by
 funext k
 unfold cpF
 by_cases h : k = n
 ·subst h; rw [if_pos rfl, if_pos (by omega)]
 ·rw [if_neg h]
  by_cases h2 : k < n
  ·rw [if_pos h2, if_pos (by omega)]
  ·rw [if_neg h2, if_neg (by omega)]
theorem cp_upd (u : Nat → Int) (n : Nat) : upd (cpF 0 u n) n (u n) = cpF 0 u (n + 1) := cpF_step 0 u n
theorem cp_updF {α : Type} (d : α) (u : Nat → α) (n : Nat) : updF (cpF d u n) n (u n) = cpF d u (n + 1) := cpF_step d u n
theorem el_cp (u : Nat → Int) : elA (cpF 0 u 8) = elA u := rfl
theorem in8_cp (u : Nat → Int) : in8A (cpF 0 u 8) = in8A u := by
 refine Array.ext_getElem? fun q => ?_
 by_cases h : q < 8
 ·rw [in8_at h, in8_at h, cpF, if_pos h]
 ·rw [none_of (in8A_sz _) h, none_of (in8A_sz _) h]
theorem el8_cp (u : Nat → Nat → Int) : el8A (cpF z8 u 8) = el8A u := by
 refine Array.ext_getElem? fun q => ?_
 by_cases h : q < 64
 ·rw [el8_at h, el8_at h, cpF, if_pos (by omega)]
 ·rw [none_of (el8A_sz _) h, none_of (el8A_sz _) h]
theorem el88_cp (u : Nat → Nat → Nat → Int) : el88A (cpF z64 u 8) = el88A u := by
 refine Array.ext_getElem? fun q => ?_
 by_cases h : q < 512
 ·rw [el88_at h, el88_at h, cpF, if_pos (by omega)]
 ·rw [none_of (el88A_sz _) h, none_of (el88A_sz _) h]

attribute [local irreducible] el8A el88A in8A dgA
set_option maxRecDepth 100000 in
set_option maxHeartbeats 4000000 in
theorem toEl_ok (u : Nat → Int) (h : Heap)   : CallA Try.prog 85 #[.agg (elA u)] h fun v' h' => v' = .agg (elA (u)) ∧ Ext h h' := by
 refine callA_intro TTok (args := [_]) Try.func85 (by kernel_rfl) rfl 15 rfl (by simp) [.cell 2 30] rfl ?_
 simp only [idxs, Nat.reduceAdd]
 refine den_seq ?_
 refine den_region TTok ?_
 intro K hK
 simp -implicitDefEqProofs (disch := first | decide | assumption | omega) only [go_sem, wrap_id, cv_u8, cv_i64, Nat.zero_add, wrap_u8, eq_el, ne_el, build_el, Int.toNat_zero]
 refine op_box (cs := elA u) rfl ?_
 intro h0_0 e0_0 hb0_0 z0_0
 have := Ext.size e0_0
 have eB := e0_0
 have hfhb0_0 : Fresh h.size [h.size] := Fresh.one _
 have hlhb0_0 := one_lt (show h.size < h0_0.size by omega)
 try simp -implicitDefEqProofs (disch := first | decide | assumption | omega) only [go_sem, wrap_id, cv_u8, cv_i64, Nat.zero_add, wrap_u8, eq_el, ne_el, build_el, Int.toNat_zero]
 refine op_alloc (cs := elA z8) (by kernel_rfl) ?_
 intro h0_1 e0_1 hb0_1 z0_1
 replace hb0_0 := BoxAt.ext hb0_0 e0_1
 have := Ext.size e0_1
 replace eB := Ext.trans eB e0_1
 have hfhb0_1 : Fresh h0_0.size [h0_0.size] := Fresh.one _
 have hlhb0_1 := one_lt (show h0_0.size < h0_1.size by omega)
 try simp -implicitDefEqProofs (disch := first | decide | assumption | omega) only [go_sem, BoxAt.elC hb0_1, BoxAt.elL hb0_1, BoxAt.elL2 hb0_1, wrap_id, cv_u8, cv_i64, Nat.zero_add, wrap_u8, eq_el, ne_el, build_el, Int.toNat_zero]
 refine hK _ _ ?_
 clear hK K
 refine den_seq ?_
 refine den_region TTok ?_
 intro K hK
 simp -implicitDefEqProofs (disch := first | decide | assumption | omega) only [go_sem, BoxAt.elC hb0_1, BoxAt.elL hb0_1, BoxAt.elL2 hb0_1, wrap_id, cv_u8, cv_i64, Nat.zero_add, wrap_u8, eq_el, ne_el, build_el, Int.toNat_zero]
 refine op_alloc (cs := elA z8) (by kernel_rfl) ?_
 intro h1_0 e1_0 hb1_0 z1_0
 replace hb0_0 := BoxAt.ext hb0_0 e1_0
 replace hb0_1 := BoxAt.ext hb0_1 e1_0
 have := Ext.size e1_0
 replace eB := Ext.trans eB e1_0
 have hfhb1_0 : Fresh h0_1.size [h0_1.size] := Fresh.one _
 have hlhb1_0 := one_lt (show h0_1.size < h1_0.size by omega)
 try simp -implicitDefEqProofs (disch := first | decide | assumption | omega) only [go_sem, BoxAt.elC hb0_1, BoxAt.elL hb0_1, BoxAt.elL2 hb0_1, wrap_id, cv_u8, cv_i64, Nat.zero_add, wrap_u8, eq_el, ne_el, build_el, Int.toNat_zero]
 refine hK _ _ ?_
 clear hK K
 refine den_seq ?_
 refine den_seq ?_
 refine den_region TTok ?_
 intro K hK
 simp -implicitDefEqProofs (disch := first | decide | assumption | omega) only [go_sem, wrap_id, cv_u8, cv_i64, Nat.zero_add, wrap_u8, eq_el, ne_el, build_el, Int.toNat_zero]
 refine hK _ _ ?_
 clear hK K
 refine den_block ?_
 refine den_sel [4, 1, 2, 3] ?_
 intro env_1
 simp only [go_sem]
 refine den_loopS (σ := Nat) (fun st_ => [(4, .int .i64 (st_ : Int))]) (fun st_ H => (st_ ≤ 8) ∧ (BoxAt H (h0_1.size) (elA (cpF 0 u st_)) 30) ∧ (Chg [h0_1.size] h1_0 H)) (fun st_ => 8 - st_) 0 ?_ ?_
 ·exact ⟨by first | (simp; done) | (dsimp only; omega) | (simp; omega), by rw [cpF_z8]; exact hb1_0, Chg.refl _ _⟩
 ·rintro i h4 ee3 ⟨hi0, hbx3, cL2⟩
  replace hb0_0 := BoxAt.chgA hb0_0 cL2 (apart_lt hlhb0_0 hfhb1_0 (by omega))
  replace hb0_1 := BoxAt.chgA hb0_1 cL2 (apart_lt hlhb0_1 hfhb1_0 (by omega))
  have := cL2.size
  replace eB := Ext.then eB cL2 (ge_of hfhb1_0 (by omega))
  have hfhbx3 := hfhb1_0
  have hlhbx3 := hlhb1_0
  simp only [List.cons_append, List.nil_append]
  refine den_seq ?_
  refine den_seq ?_
  refine den_region TTok ?_
  intro K hK
  simp -implicitDefEqProofs (disch := first | decide | assumption | omega) only [go_sem, wrap_id, cv_u8, cv_i64, Nat.zero_add, wrap_u8, eq_el, ne_el, build_el, Int.toNat_zero]
  refine hK _ _ ?_
  clear hK K
  refine den_cond rfl (fun c0 => ?_) (fun c0 => ?_)
  ·try simp only [decide_eq_true_eq, decide_eq_false_iff_not, beq_iff_eq, beq_eq_false_iff_ne, bne_iff_ne, ne_eq, Bool.not_eq_true', Bool.not_eq_false', Bool.and_eq_true, Bool.or_eq_true, bne_eq_false_iff_eq] at c0
   refine den_skip ?_
   refine den_seq ?_
   refine den_block ?_
   refine den_region TTok ?_
   intro K hK
   simp -implicitDefEqProofs (disch := first | decide | assumption | omega) only [go_sem, Int.toNat_zero, ia23, ia30, ld5, BoxAt.elC hb0_0, BoxAt.elL hb0_0, BoxAt.elL2 hb0_0, BoxAt.elC hbx3, BoxAt.elL hbx3, BoxAt.elL2 hbx3, wrap_id, cv_u8, cv_i64, Nat.zero_add, wrap_u8, eq_el, ne_el, build_el, Int.toNat_zero]
   refine op_storeB (o := i) (vs := #[.int .u8 (u i)]) (cs' := elA (upd (cpF 0 u i) i (u i))) st5 hbx3 rfl rfl rfl (by show _ + 1 ≤ 8; omega) u8_one (elA_upd (by omega)) ?_
   intro h5_5 hbx3 c5_5
   replace hb0_0 := BoxAt.chgA hb0_0 c5_5 (apart_lt hlhb0_0 hfhbx3 (by omega))
   replace hb0_1 := BoxAt.chgA hb0_1 c5_5 (apart_lt hlhb0_1 hfhbx3 (by omega))
   have := c5_5.size
   replace eB := Ext.then eB c5_5 (ge_of hfhbx3 (by omega))
   replace cL2 := Chg.step cL2 c5_5 Sub.refl
   try simp -implicitDefEqProofs (disch := first | decide | assumption | omega) only [go_sem, BoxAt.elC hb0_1, BoxAt.elL hb0_1, BoxAt.elL2 hb0_1, wrap_id, cv_u8, cv_i64, Nat.zero_add, wrap_u8, eq_el, ne_el, build_el, Int.toNat_zero]
   refine hK _ _ ?_
   clear hK K
   refine den_blk ?_
   refine den_region TTok ?_
   intro K hK
   simp -implicitDefEqProofs (disch := first | decide | assumption | omega) only [go_sem, wrap_id, cv_u8, cv_i64, Nat.zero_add, wrap_u8, eq_el, ne_el, build_el, Int.toNat_zero]
   refine hK _ _ ?_
   clear hK K
   refine den_stop ?_
   rw [cp_upd] at hbx3
   exact ⟨i + 1, by simp [HasL, puts_at], ⟨by first | omega | (dsimp only; omega), hbx3, cL2⟩, by first | omega | (dsimp only; omega)⟩
  ·try simp only [decide_eq_true_eq, decide_eq_false_iff_not, beq_iff_eq, beq_eq_false_iff_ne, bne_iff_ne, ne_eq, Bool.not_eq_true', Bool.not_eq_false', Bool.and_eq_true, Bool.or_eq_true, bne_eq_false_iff_eq] at c0
   refine den_exit ?_
   refine denX_code ?_
   refine denX_stop ?_
   refine denX_hit ?_
   refine den_seq ?_
   refine den_region TTok ?_
   intro K hK
   simp -implicitDefEqProofs (disch := first | decide | assumption | omega) only [go_sem, BoxAt.elC hbx3, BoxAt.elL hbx3, BoxAt.elL2 hbx3, wrap_id, cv_u8, cv_i64, Nat.zero_add, wrap_u8, eq_el, ne_el, build_el, Int.toNat_zero]
   refine op_storeB (o := 0) (vs := elA (cpF 0 u i)) (cs' := elA (cpF 0 u i)) st30 hb0_1 rfl rfl (elA_sz _) (by rw [elA_sz]; decide) elA_one elA_all ?_
   intro h6_1 hb0_1 c6_1
   replace hbx3 := BoxAt.chgA hbx3 c6_1 (apart_gt hfhbx3 hlhb0_1 (by omega))
   have := c6_1.size
   replace eB := Ext.then eB c6_1 (ge_of hfhb0_1 (by omega))
   try simp -implicitDefEqProofs (disch := first | decide | assumption | omega) only [go_sem, BoxAt.elC hb0_1, BoxAt.elL hb0_1, BoxAt.elL2 hb0_1, wrap_id, cv_u8, cv_i64, Nat.zero_add, wrap_u8, eq_el, ne_el, build_el, Int.toNat_zero]
   refine hK _ _ ?_
   clear hK K
   refine den_ret ?_
   simp -implicitDefEqProofs (disch := first | decide | assumption | omega) only [go_sem, BoxAt.elC hb0_1, BoxAt.elL hb0_1, BoxAt.elL2 hb0_1, wrap_id, cv_u8, cv_i64, Nat.zero_add, wrap_u8, eq_el, ne_el, build_el, Int.toNat_zero, resP_c1, ld30]
   rw [show i = 8 by omega]
   exact ⟨by rw [el_cp], eB⟩

set_option maxRecDepth 100000 in
set_option maxHeartbeats 4000000 in
theorem toI8_ok (u : Nat → Int) (h : Heap)   : CallA Try.prog 40 #[.agg (in8A u)] h fun v' h' => v' = .agg (in8A (u)) ∧ Ext h h' := by
 refine callA_intro TTok (args := [_]) Try.func40 (by kernel_rfl) rfl 15 rfl (by simp) [.cell 2 22] rfl ?_
 simp only [idxs, Nat.reduceAdd]
 refine den_seq ?_
 refine den_region TTok ?_
 intro K hK
 simp -implicitDefEqProofs (disch := first | decide | assumption | omega) only [go_sem, wrap_id, cv_u8, cv_i64, Nat.zero_add, wrap_u8, eq_el, ne_el, build_el, Int.toNat_zero]
 refine op_box (cs := in8A u) rfl ?_
 intro h0_0 e0_0 hb0_0 z0_0
 have := Ext.size e0_0
 have eB := e0_0
 have hfhb0_0 : Fresh h.size [h.size] := Fresh.one _
 have hlhb0_0 := one_lt (show h.size < h0_0.size by omega)
 try simp -implicitDefEqProofs (disch := first | decide | assumption | omega) only [go_sem, wrap_id, cv_u8, cv_i64, Nat.zero_add, wrap_u8, eq_el, ne_el, build_el, Int.toNat_zero]
 refine op_alloc (cs := in8A z8) (by kernel_rfl) ?_
 intro h0_1 e0_1 hb0_1 z0_1
 replace hb0_0 := BoxAt.ext hb0_0 e0_1
 have := Ext.size e0_1
 replace eB := Ext.trans eB e0_1
 have hfhb0_1 : Fresh h0_0.size [h0_0.size] := Fresh.one _
 have hlhb0_1 := one_lt (show h0_0.size < h0_1.size by omega)
 try simp -implicitDefEqProofs (disch := first | decide | assumption | omega) only [go_sem, BoxAt.in8C hb0_1, BoxAt.in8L hb0_1, wrap_id, cv_u8, cv_i64, Nat.zero_add, wrap_u8, eq_el, ne_el, build_el, Int.toNat_zero]
 refine hK _ _ ?_
 clear hK K
 refine den_seq ?_
 refine den_region TTok ?_
 intro K hK
 simp -implicitDefEqProofs (disch := first | decide | assumption | omega) only [go_sem, BoxAt.in8C hb0_1, BoxAt.in8L hb0_1, wrap_id, cv_u8, cv_i64, Nat.zero_add, wrap_u8, eq_el, ne_el, build_el, Int.toNat_zero]
 refine op_alloc (cs := in8A z8) (by kernel_rfl) ?_
 intro h1_0 e1_0 hb1_0 z1_0
 replace hb0_0 := BoxAt.ext hb0_0 e1_0
 replace hb0_1 := BoxAt.ext hb0_1 e1_0
 have := Ext.size e1_0
 replace eB := Ext.trans eB e1_0
 have hfhb1_0 : Fresh h0_1.size [h0_1.size] := Fresh.one _
 have hlhb1_0 := one_lt (show h0_1.size < h1_0.size by omega)
 try simp -implicitDefEqProofs (disch := first | decide | assumption | omega) only [go_sem, BoxAt.in8C hb0_1, BoxAt.in8L hb0_1, wrap_id, cv_u8, cv_i64, Nat.zero_add, wrap_u8, eq_el, ne_el, build_el, Int.toNat_zero]
 refine hK _ _ ?_
 clear hK K
 refine den_seq ?_
 refine den_seq ?_
 refine den_region TTok ?_
 intro K hK
 simp -implicitDefEqProofs (disch := first | decide | assumption | omega) only [go_sem, wrap_id, cv_u8, cv_i64, Nat.zero_add, wrap_u8, eq_el, ne_el, build_el, Int.toNat_zero]
 refine hK _ _ ?_
 clear hK K
 refine den_block ?_
 refine den_sel [4, 1, 2, 3] ?_
 intro env_1
 simp only [go_sem]
 refine den_loopS (σ := Nat) (fun st_ => [(4, .int .i64 (st_ : Int))]) (fun st_ H => (st_ ≤ 8) ∧ (BoxAt H (h0_1.size) (in8A (cpF 0 u st_)) 22) ∧ (Chg [h0_1.size] h1_0 H)) (fun st_ => 8 - st_) 0 ?_ ?_
 ·exact ⟨by first | (simp; done) | (dsimp only; omega) | (simp; omega), by rw [cpF_z8]; exact hb1_0, Chg.refl _ _⟩
 ·rintro i h4 ee3 ⟨hi0, hbx3, cL2⟩
  replace hb0_0 := BoxAt.chgA hb0_0 cL2 (apart_lt hlhb0_0 hfhb1_0 (by omega))
  replace hb0_1 := BoxAt.chgA hb0_1 cL2 (apart_lt hlhb0_1 hfhb1_0 (by omega))
  have := cL2.size
  replace eB := Ext.then eB cL2 (ge_of hfhb1_0 (by omega))
  have hfhbx3 := hfhb1_0
  have hlhbx3 := hlhb1_0
  simp only [List.cons_append, List.nil_append]
  refine den_seq ?_
  refine den_seq ?_
  refine den_region TTok ?_
  intro K hK
  simp -implicitDefEqProofs (disch := first | decide | assumption | omega) only [go_sem, wrap_id, cv_u8, cv_i64, Nat.zero_add, wrap_u8, eq_el, ne_el, build_el, Int.toNat_zero]
  refine hK _ _ ?_
  clear hK K
  refine den_cond rfl (fun c0 => ?_) (fun c0 => ?_)
  ·try simp only [decide_eq_true_eq, decide_eq_false_iff_not, beq_iff_eq, beq_eq_false_iff_ne, bne_iff_ne, ne_eq, Bool.not_eq_true', Bool.not_eq_false', Bool.and_eq_true, Bool.or_eq_true, bne_eq_false_iff_eq] at c0
   refine den_skip ?_
   refine den_seq ?_
   refine den_block ?_
   refine den_region TTok ?_
   intro K hK
   simp -implicitDefEqProofs (disch := first | decide | assumption | omega) only [go_sem, Int.toNat_zero, ia22, ld2, BoxAt.in8C hb0_0, BoxAt.in8L hb0_0, BoxAt.in8C hbx3, BoxAt.in8L hbx3, wrap_id, cv_u8, cv_i64, Nat.zero_add, wrap_u8, eq_el, ne_el, build_el, Int.toNat_zero]
   refine op_storeB (o := i) (vs := #[.int .i64 (u i)]) (cs' := in8A (upd (cpF 0 u i) i (u i))) st2 hbx3 rfl rfl rfl (by rw [in8A_sz]; omega) i64_one (in8_upd (by omega)) ?_
   intro h5_5 hbx3 c5_5
   replace hb0_0 := BoxAt.chgA hb0_0 c5_5 (apart_lt hlhb0_0 hfhbx3 (by omega))
   replace hb0_1 := BoxAt.chgA hb0_1 c5_5 (apart_lt hlhb0_1 hfhbx3 (by omega))
   have := c5_5.size
   replace eB := Ext.then eB c5_5 (ge_of hfhbx3 (by omega))
   replace cL2 := Chg.step cL2 c5_5 Sub.refl
   try simp -implicitDefEqProofs (disch := first | decide | assumption | omega) only [go_sem, BoxAt.in8C hb0_1, BoxAt.in8L hb0_1, wrap_id, cv_u8, cv_i64, Nat.zero_add, wrap_u8, eq_el, ne_el, build_el, Int.toNat_zero]
   refine hK _ _ ?_
   clear hK K
   refine den_blk ?_
   refine den_region TTok ?_
   intro K hK
   simp -implicitDefEqProofs (disch := first | decide | assumption | omega) only [go_sem, wrap_id, cv_u8, cv_i64, Nat.zero_add, wrap_u8, eq_el, ne_el, build_el, Int.toNat_zero]
   refine hK _ _ ?_
   clear hK K
   refine den_stop ?_
   rw [cp_upd] at hbx3
   exact ⟨i + 1, by simp [HasL, puts_at], ⟨by first | omega | (dsimp only; omega), hbx3, cL2⟩, by first | omega | (dsimp only; omega)⟩
  ·try simp only [decide_eq_true_eq, decide_eq_false_iff_not, beq_iff_eq, beq_eq_false_iff_ne, bne_iff_ne, ne_eq, Bool.not_eq_true', Bool.not_eq_false', Bool.and_eq_true, Bool.or_eq_true, bne_eq_false_iff_eq] at c0
   refine den_exit ?_
   refine denX_code ?_
   refine denX_stop ?_
   refine denX_hit ?_
   refine den_seq ?_
   refine den_region TTok ?_
   intro K hK
   simp -implicitDefEqProofs (disch := first | decide | assumption | omega) only [go_sem, BoxAt.in8C hbx3, BoxAt.in8L hbx3, wrap_id, cv_u8, cv_i64, Nat.zero_add, wrap_u8, eq_el, ne_el, build_el, Int.toNat_zero]
   refine op_storeB (o := 0) (vs := in8A (cpF 0 u i)) (cs' := in8A (cpF 0 u i)) st22 hb0_1 rfl rfl (in8A_sz _) (by rw [in8A_sz]; decide) in8A_one in8A_all ?_
   intro h6_1 hb0_1 c6_1
   replace hbx3 := BoxAt.chgA hbx3 c6_1 (apart_gt hfhbx3 hlhb0_1 (by omega))
   have := c6_1.size
   replace eB := Ext.then eB c6_1 (ge_of hfhb0_1 (by omega))
   try simp -implicitDefEqProofs (disch := first | decide | assumption | omega) only [go_sem, BoxAt.in8C hb0_1, BoxAt.in8L hb0_1, wrap_id, cv_u8, cv_i64, Nat.zero_add, wrap_u8, eq_el, ne_el, build_el, Int.toNat_zero]
   refine hK _ _ ?_
   clear hK K
   refine den_ret ?_
   simp -implicitDefEqProofs (disch := first | decide | assumption | omega) only [go_sem, BoxAt.in8C hb0_1, BoxAt.in8L hb0_1, wrap_id, cv_u8, cv_i64, Nat.zero_add, wrap_u8, eq_el, ne_el, build_el, Int.toNat_zero, resP_c1, ld22]
   rw [show i = 8 by omega]
   exact ⟨by rw [in8_cp], eB⟩

set_option maxRecDepth 100000 in
set_option maxHeartbeats 4000000 in
theorem toE8_ok (f : Nat → Nat → Int) (h : Heap)   : CallA Try.prog 41 #[.agg (el8A f)] h fun v' h' => v' = .agg (el8A (f)) ∧ Ext h h' := by
 refine callA_intro TTok (args := [_]) Try.func41 (by kernel_rfl) rfl 16 rfl (by simp) [.cell 2 31] rfl ?_
 simp only [idxs, Nat.reduceAdd]
 refine den_seq ?_
 refine den_region TTok ?_
 intro K hK
 simp -implicitDefEqProofs (disch := first | decide | assumption | omega) only [go_sem, wrap_id, cv_u8, cv_i64, Nat.zero_add, wrap_u8, eq_el, ne_el, build_el, Int.toNat_zero]
 refine op_box (cs := el8A f) rfl ?_
 intro h0_0 e0_0 hb0_0 z0_0
 have := Ext.size e0_0
 have eB := e0_0
 have hfhb0_0 : Fresh h.size [h.size] := Fresh.one _
 have hlhb0_0 := one_lt (show h.size < h0_0.size by omega)
 try simp -implicitDefEqProofs (disch := first | decide | assumption | omega) only [go_sem, wrap_id, cv_u8, cv_i64, Nat.zero_add, wrap_u8, eq_el, ne_el, build_el, Int.toNat_zero]
 refine op_alloc (cs := el8A z64) (by kernel_rfl) ?_
 intro h0_1 e0_1 hb0_1 z0_1
 replace hb0_0 := BoxAt.ext hb0_0 e0_1
 have := Ext.size e0_1
 replace eB := Ext.trans eB e0_1
 have hfhb0_1 : Fresh h0_0.size [h0_0.size] := Fresh.one _
 have hlhb0_1 := one_lt (show h0_0.size < h0_1.size by omega)
 try simp -implicitDefEqProofs (disch := first | decide | assumption | omega) only [go_sem, BoxAt.el8E hb0_1, BoxAt.el8L hb0_1, BoxAt.el8L2 hb0_1, wrap_id, cv_u8, cv_i64, Nat.zero_add, wrap_u8, eq_el, ne_el, build_el, Int.toNat_zero]
 refine hK _ _ ?_
 clear hK K
 refine den_seq ?_
 refine den_region TTok ?_
 intro K hK
 simp -implicitDefEqProofs (disch := first | decide | assumption | omega) only [go_sem, BoxAt.el8E hb0_1, BoxAt.el8L hb0_1, BoxAt.el8L2 hb0_1, wrap_id, cv_u8, cv_i64, Nat.zero_add, wrap_u8, eq_el, ne_el, build_el, Int.toNat_zero]
 refine op_alloc (cs := el8A z64) (by kernel_rfl) ?_
 intro h1_0 e1_0 hb1_0 z1_0
 replace hb0_0 := BoxAt.ext hb0_0 e1_0
 replace hb0_1 := BoxAt.ext hb0_1 e1_0
 have := Ext.size e1_0
 replace eB := Ext.trans eB e1_0
 have hfhb1_0 : Fresh h0_1.size [h0_1.size] := Fresh.one _
 have hlhb1_0 := one_lt (show h0_1.size < h1_0.size by omega)
 try simp -implicitDefEqProofs (disch := first | decide | assumption | omega) only [go_sem, BoxAt.el8E hb0_1, BoxAt.el8L hb0_1, BoxAt.el8L2 hb0_1, wrap_id, cv_u8, cv_i64, Nat.zero_add, wrap_u8, eq_el, ne_el, build_el, Int.toNat_zero]
 refine hK _ _ ?_
 clear hK K
 refine den_seq ?_
 refine den_seq ?_
 refine den_region TTok ?_
 intro K hK
 simp -implicitDefEqProofs (disch := first | decide | assumption | omega) only [go_sem, wrap_id, cv_u8, cv_i64, Nat.zero_add, wrap_u8, eq_el, ne_el, build_el, Int.toNat_zero]
 refine hK _ _ ?_
 clear hK K
 refine den_block ?_
 refine den_sel [4, 1, 2, 3] ?_
 intro env_1
 simp only [go_sem]
 refine den_loopS (σ := Nat) (fun st_ => [(4, .int .i64 (st_ : Int))]) (fun st_ H => (st_ ≤ 8) ∧ (BoxAt H (h0_1.size) (el8A (cpF z8 f st_)) 31) ∧ (Chg [h0_1.size] h1_0 H)) (fun st_ => 8 - st_) 0 ?_ ?_
 ·exact ⟨by first | (simp; done) | (dsimp only; omega) | (simp; omega), by rw [cpF_z64]; exact hb1_0, Chg.refl _ _⟩
 ·rintro i h4 ee3 ⟨hi0, hbx3, cL2⟩
  replace hb0_0 := BoxAt.chgA hb0_0 cL2 (apart_lt hlhb0_0 hfhb1_0 (by omega))
  replace hb0_1 := BoxAt.chgA hb0_1 cL2 (apart_lt hlhb0_1 hfhb1_0 (by omega))
  have := cL2.size
  replace eB := Ext.then eB cL2 (ge_of hfhb1_0 (by omega))
  have hfhbx3 := hfhb1_0
  have hlhbx3 := hlhb1_0
  simp only [List.cons_append, List.nil_append]
  refine den_seq ?_
  refine den_seq ?_
  refine den_region TTok ?_
  intro K hK
  simp -implicitDefEqProofs (disch := first | decide | assumption | omega) only [go_sem, wrap_id, cv_u8, cv_i64, Nat.zero_add, wrap_u8, eq_el, ne_el, build_el, Int.toNat_zero]
  refine hK _ _ ?_
  clear hK K
  refine den_cond rfl (fun c0 => ?_) (fun c0 => ?_)
  ·try simp only [decide_eq_true_eq, decide_eq_false_iff_not, beq_iff_eq, beq_eq_false_iff_ne, bne_iff_ne, ne_eq, Bool.not_eq_true', Bool.not_eq_false', Bool.and_eq_true, Bool.or_eq_true, bne_eq_false_iff_eq] at c0
   refine den_skip ?_
   refine den_seq ?_
   refine den_block ?_
   refine den_region TTok ?_
   intro K hK
   simp -implicitDefEqProofs (disch := first | decide | assumption | omega) only [go_sem, Int.toNat_zero, ia24, BoxAt.el8E hb0_0, BoxAt.el8L hb0_0, BoxAt.el8L2 hb0_0, wrap_id, cv_u8, cv_i64, Nat.zero_add, wrap_u8, eq_el, ne_el, build_el, Int.toNat_zero]
   try simp -implicitDefEqProofs (disch := first | decide | assumption | omega) only [go_sem, BoxAt.el8E hb0_1, BoxAt.el8L hb0_1, BoxAt.el8L2 hb0_1, wrap_id, cv_u8, cv_i64, Nat.zero_add, wrap_u8, eq_el, ne_el, build_el, Int.toNat_zero]
   refine CallA.mono (toEl_ok  (f i) _  ) ?_
   intro v_ h5_4
   rintro ⟨rfl, e5_4⟩
   replace hb0_0 := BoxAt.ext hb0_0 e5_4
   replace hb0_1 := BoxAt.ext hb0_1 e5_4
   replace hbx3 := BoxAt.ext hbx3 e5_4
   have := Ext.size e5_4
   replace eB := Ext.trans eB e5_4
   replace cL2 := Chg.stepE cL2 e5_4
   try simp -implicitDefEqProofs (disch := first | decide | assumption | omega) only [go_sem, Int.toNat_zero, ia31, BoxAt.el8E hbx3, BoxAt.el8L hbx3, BoxAt.el8L2 hbx3, wrap_id, cv_u8, cv_i64, Nat.zero_add, wrap_u8, eq_el, ne_el, build_el, Int.toNat_zero]
   refine op_storeB (o := i * 8) (vs := elA (f i)) (cs' := el8A (updF (cpF z8 f i) i (f i))) st30 hbx3 rfl rfl (elA_sz _) (by rw [el8A_sz]; omega) elA_one (el8_upd (by omega)) ?_
   intro h5_6 hbx3 c5_6
   replace hb0_0 := BoxAt.chgA hb0_0 c5_6 (apart_lt hlhb0_0 hfhbx3 (by omega))
   replace hb0_1 := BoxAt.chgA hb0_1 c5_6 (apart_lt hlhb0_1 hfhbx3 (by omega))
   have := c5_6.size
   replace eB := Ext.then eB c5_6 (ge_of hfhbx3 (by omega))
   replace cL2 := Chg.step cL2 c5_6 Sub.refl
   try simp -implicitDefEqProofs (disch := first | decide | assumption | omega) only [go_sem, BoxAt.el8E hb0_1, BoxAt.el8L hb0_1, BoxAt.el8L2 hb0_1, wrap_id, cv_u8, cv_i64, Nat.zero_add, wrap_u8, eq_el, ne_el, build_el, Int.toNat_zero]
   refine hK _ _ ?_
   clear hK K
   refine den_blk ?_
   refine den_region TTok ?_
   intro K hK
   simp -implicitDefEqProofs (disch := first | decide | assumption | omega) only [go_sem, wrap_id, cv_u8, cv_i64, Nat.zero_add, wrap_u8, eq_el, ne_el, build_el, Int.toNat_zero]
   refine hK _ _ ?_
   clear hK K
   refine den_stop ?_
   rw [cp_updF] at hbx3
   exact ⟨i + 1, by simp [HasL, puts_at], ⟨by first | omega | (dsimp only; omega), hbx3, cL2⟩, by first | omega | (dsimp only; omega)⟩
  ·try simp only [decide_eq_true_eq, decide_eq_false_iff_not, beq_iff_eq, beq_eq_false_iff_ne, bne_iff_ne, ne_eq, Bool.not_eq_true', Bool.not_eq_false', Bool.and_eq_true, Bool.or_eq_true, bne_eq_false_iff_eq] at c0
   refine den_exit ?_
   refine denX_code ?_
   refine denX_stop ?_
   refine denX_hit ?_
   refine den_seq ?_
   refine den_region TTok ?_
   intro K hK
   simp -implicitDefEqProofs (disch := first | decide | assumption | omega) only [go_sem, BoxAt.el8E hbx3, BoxAt.el8L hbx3, BoxAt.el8L2 hbx3, wrap_id, cv_u8, cv_i64, Nat.zero_add, wrap_u8, eq_el, ne_el, build_el, Int.toNat_zero]
   refine op_storeB (o := 0) (vs := el8A (cpF z8 f i)) (cs' := el8A (cpF z8 f i)) st31 hb0_1 rfl rfl (el8A_sz _) (by rw [el8A_sz]; decide) el8A_one el8A_all ?_
   intro h6_1 hb0_1 c6_1
   replace hbx3 := BoxAt.chgA hbx3 c6_1 (apart_gt hfhbx3 hlhb0_1 (by omega))
   have := c6_1.size
   replace eB := Ext.then eB c6_1 (ge_of hfhb0_1 (by omega))
   try simp -implicitDefEqProofs (disch := first | decide | assumption | omega) only [go_sem, BoxAt.el8E hb0_1, BoxAt.el8L hb0_1, BoxAt.el8L2 hb0_1, wrap_id, cv_u8, cv_i64, Nat.zero_add, wrap_u8, eq_el, ne_el, build_el, Int.toNat_zero]
   refine hK _ _ ?_
   clear hK K
   refine den_ret ?_
   simp -implicitDefEqProofs (disch := first | decide | assumption | omega) only [go_sem, BoxAt.el8E hb0_1, BoxAt.el8L hb0_1, BoxAt.el8L2 hb0_1, wrap_id, cv_u8, cv_i64, Nat.zero_add, wrap_u8, eq_el, ne_el, build_el, Int.toNat_zero, resP_c1, ld31]
   rw [show i = 8 by omega]
   exact ⟨by rw [el8_cp], eB⟩

set_option maxRecDepth 100000 in
set_option maxHeartbeats 4000000 in
theorem toE88_ok (f : Nat → Nat → Nat → Int) (h : Heap)   : CallA Try.prog 42 #[.agg (el88A f)] h fun v' h' => v' = .agg (el88A (f)) ∧ Ext h h' := by
 refine callA_intro TTok (args := [_]) Try.func42 (by kernel_rfl) rfl 16 rfl (by simp) [.cell 2 32] rfl ?_
 simp only [idxs, Nat.reduceAdd]
 refine den_seq ?_
 refine den_region TTok ?_
 intro K hK
 simp -implicitDefEqProofs (disch := first | decide | assumption | omega) only [go_sem, wrap_id, cv_u8, cv_i64, Nat.zero_add, wrap_u8, eq_el, ne_el, build_el, Int.toNat_zero]
 refine op_box (cs := el88A f) rfl ?_
 intro h0_0 e0_0 hb0_0 z0_0
 have := Ext.size e0_0
 have eB := e0_0
 have hfhb0_0 : Fresh h.size [h.size] := Fresh.one _
 have hlhb0_0 := one_lt (show h.size < h0_0.size by omega)
 try simp -implicitDefEqProofs (disch := first | decide | assumption | omega) only [go_sem, wrap_id, cv_u8, cv_i64, Nat.zero_add, wrap_u8, eq_el, ne_el, build_el, Int.toNat_zero]
 refine op_alloc (cs := el88A z512) (by kernel_rfl) ?_
 intro h0_1 e0_1 hb0_1 z0_1
 replace hb0_0 := BoxAt.ext hb0_0 e0_1
 have := Ext.size e0_1
 replace eB := Ext.trans eB e0_1
 have hfhb0_1 : Fresh h0_0.size [h0_0.size] := Fresh.one _
 have hlhb0_1 := one_lt (show h0_0.size < h0_1.size by omega)
 try simp -implicitDefEqProofs (disch := first | decide | assumption | omega) only [go_sem, BoxAt.el88R hb0_1, BoxAt.el88L hb0_1, wrap_id, cv_u8, cv_i64, Nat.zero_add, wrap_u8, eq_el, ne_el, build_el, Int.toNat_zero]
 refine hK _ _ ?_
 clear hK K
 refine den_seq ?_
 refine den_region TTok ?_
 intro K hK
 simp -implicitDefEqProofs (disch := first | decide | assumption | omega) only [go_sem, BoxAt.el88R hb0_1, BoxAt.el88L hb0_1, wrap_id, cv_u8, cv_i64, Nat.zero_add, wrap_u8, eq_el, ne_el, build_el, Int.toNat_zero]
 refine op_alloc (cs := el88A z512) (by kernel_rfl) ?_
 intro h1_0 e1_0 hb1_0 z1_0
 replace hb0_0 := BoxAt.ext hb0_0 e1_0
 replace hb0_1 := BoxAt.ext hb0_1 e1_0
 have := Ext.size e1_0
 replace eB := Ext.trans eB e1_0
 have hfhb1_0 : Fresh h0_1.size [h0_1.size] := Fresh.one _
 have hlhb1_0 := one_lt (show h0_1.size < h1_0.size by omega)
 try simp -implicitDefEqProofs (disch := first | decide | assumption | omega) only [go_sem, BoxAt.el88R hb0_1, BoxAt.el88L hb0_1, wrap_id, cv_u8, cv_i64, Nat.zero_add, wrap_u8, eq_el, ne_el, build_el, Int.toNat_zero]
 refine hK _ _ ?_
 clear hK K
 refine den_seq ?_
 refine den_seq ?_
 refine den_region TTok ?_
 intro K hK
 simp -implicitDefEqProofs (disch := first | decide | assumption | omega) only [go_sem, wrap_id, cv_u8, cv_i64, Nat.zero_add, wrap_u8, eq_el, ne_el, build_el, Int.toNat_zero]
 refine hK _ _ ?_
 clear hK K
 refine den_block ?_
 refine den_sel [4, 1, 2, 3] ?_
 intro env_1
 simp only [go_sem]
 refine den_loopS (σ := Nat) (fun st_ => [(4, .int .i64 (st_ : Int))]) (fun st_ H => (st_ ≤ 8) ∧ (BoxAt H (h0_1.size) (el88A (cpF z64 f st_)) 32) ∧ (Chg [h0_1.size] h1_0 H)) (fun st_ => 8 - st_) 0 ?_ ?_
 ·exact ⟨by first | (simp; done) | (dsimp only; omega) | (simp; omega), by rw [cpF_z512]; exact hb1_0, Chg.refl _ _⟩
 ·rintro i h4 ee3 ⟨hi0, hbx3, cL2⟩
  replace hb0_0 := BoxAt.chgA hb0_0 cL2 (apart_lt hlhb0_0 hfhb1_0 (by omega))
  replace hb0_1 := BoxAt.chgA hb0_1 cL2 (apart_lt hlhb0_1 hfhb1_0 (by omega))
  have := cL2.size
  replace eB := Ext.then eB cL2 (ge_of hfhb1_0 (by omega))
  have hfhbx3 := hfhb1_0
  have hlhbx3 := hlhb1_0
  simp only [List.cons_append, List.nil_append]
  refine den_seq ?_
  refine den_seq ?_
  refine den_region TTok ?_
  intro K hK
  simp -implicitDefEqProofs (disch := first | decide | assumption | omega) only [go_sem, wrap_id, cv_u8, cv_i64, Nat.zero_add, wrap_u8, eq_el, ne_el, build_el, Int.toNat_zero]
  refine hK _ _ ?_
  clear hK K
  refine den_cond rfl (fun c0 => ?_) (fun c0 => ?_)
  ·try simp only [decide_eq_true_eq, decide_eq_false_iff_not, beq_iff_eq, beq_eq_false_iff_ne, bne_iff_ne, ne_eq, Bool.not_eq_true', Bool.not_eq_false', Bool.and_eq_true, Bool.or_eq_true, bne_eq_false_iff_eq] at c0
   refine den_skip ?_
   refine den_seq ?_
   refine den_block ?_
   refine den_region TTok ?_
   intro K hK
   simp -implicitDefEqProofs (disch := first | decide | assumption | omega) only [go_sem, Int.toNat_zero, ia25, BoxAt.el88R hb0_0, BoxAt.el88L hb0_0, wrap_id, cv_u8, cv_i64, Nat.zero_add, wrap_u8, eq_el, ne_el, build_el, Int.toNat_zero]
   try simp -implicitDefEqProofs (disch := first | decide | assumption | omega) only [go_sem, BoxAt.el88R hb0_1, BoxAt.el88L hb0_1, wrap_id, cv_u8, cv_i64, Nat.zero_add, wrap_u8, eq_el, ne_el, build_el, Int.toNat_zero]
   refine CallA.mono (toE8_ok  (f i) _  ) ?_
   intro v_ h5_4
   rintro ⟨rfl, e5_4⟩
   replace hb0_0 := BoxAt.ext hb0_0 e5_4
   replace hb0_1 := BoxAt.ext hb0_1 e5_4
   replace hbx3 := BoxAt.ext hbx3 e5_4
   have := Ext.size e5_4
   replace eB := Ext.trans eB e5_4
   replace cL2 := Chg.stepE cL2 e5_4
   try simp -implicitDefEqProofs (disch := first | decide | assumption | omega) only [go_sem, Int.toNat_zero, ia32, BoxAt.el88R hbx3, BoxAt.el88L hbx3, wrap_id, cv_u8, cv_i64, Nat.zero_add, wrap_u8, eq_el, ne_el, build_el, Int.toNat_zero]
   refine op_storeB (o := i * 64) (vs := el8A (f i)) (cs' := el88A (updF (cpF z64 f i) i (f i))) st31 hbx3 rfl rfl (el8A_sz _) (by rw [el88A_sz]; omega) el8A_one (el88_upd (by omega)) ?_
   intro h5_6 hbx3 c5_6
   replace hb0_0 := BoxAt.chgA hb0_0 c5_6 (apart_lt hlhb0_0 hfhbx3 (by omega))
   replace hb0_1 := BoxAt.chgA hb0_1 c5_6 (apart_lt hlhb0_1 hfhbx3 (by omega))
   have := c5_6.size
   replace eB := Ext.then eB c5_6 (ge_of hfhbx3 (by omega))
   replace cL2 := Chg.step cL2 c5_6 Sub.refl
   try simp -implicitDefEqProofs (disch := first | decide | assumption | omega) only [go_sem, BoxAt.el88R hb0_1, BoxAt.el88L hb0_1, wrap_id, cv_u8, cv_i64, Nat.zero_add, wrap_u8, eq_el, ne_el, build_el, Int.toNat_zero]
   refine hK _ _ ?_
   clear hK K
   refine den_blk ?_
   refine den_region TTok ?_
   intro K hK
   simp -implicitDefEqProofs (disch := first | decide | assumption | omega) only [go_sem, wrap_id, cv_u8, cv_i64, Nat.zero_add, wrap_u8, eq_el, ne_el, build_el, Int.toNat_zero]
   refine hK _ _ ?_
   clear hK K
   refine den_stop ?_
   rw [cp_updF] at hbx3
   exact ⟨i + 1, by simp [HasL, puts_at], ⟨by first | omega | (dsimp only; omega), hbx3, cL2⟩, by first | omega | (dsimp only; omega)⟩
  ·try simp only [decide_eq_true_eq, decide_eq_false_iff_not, beq_iff_eq, beq_eq_false_iff_ne, bne_iff_ne, ne_eq, Bool.not_eq_true', Bool.not_eq_false', Bool.and_eq_true, Bool.or_eq_true, bne_eq_false_iff_eq] at c0
   refine den_exit ?_
   refine denX_code ?_
   refine denX_stop ?_
   refine denX_hit ?_
   refine den_seq ?_
   refine den_region TTok ?_
   intro K hK
   simp -implicitDefEqProofs (disch := first | decide | assumption | omega) only [go_sem, BoxAt.el88R hbx3, BoxAt.el88L hbx3, wrap_id, cv_u8, cv_i64, Nat.zero_add, wrap_u8, eq_el, ne_el, build_el, Int.toNat_zero]
   refine op_storeB (o := 0) (vs := el88A (cpF z64 f i)) (cs' := el88A (cpF z64 f i)) st32 hb0_1 rfl rfl (el88A_sz _) (by rw [el88A_sz]; decide) el88A_one el88A_all ?_
   intro h6_1 hb0_1 c6_1
   replace hbx3 := BoxAt.chgA hbx3 c6_1 (apart_gt hfhbx3 hlhb0_1 (by omega))
   have := c6_1.size
   replace eB := Ext.then eB c6_1 (ge_of hfhb0_1 (by omega))
   try simp -implicitDefEqProofs (disch := first | decide | assumption | omega) only [go_sem, BoxAt.el88R hb0_1, BoxAt.el88L hb0_1, wrap_id, cv_u8, cv_i64, Nat.zero_add, wrap_u8, eq_el, ne_el, build_el, Int.toNat_zero]
   refine hK _ _ ?_
   clear hK K
   refine den_ret ?_
   simp -implicitDefEqProofs (disch := first | decide | assumption | omega) only [go_sem, BoxAt.el88R hb0_1, BoxAt.el88L hb0_1, wrap_id, cv_u8, cv_i64, Nat.zero_add, wrap_u8, eq_el, ne_el, build_el, Int.toNat_zero, resP_c1, ld32]
   rw [show i = 8 by omega]
   exact ⟨by rw [el88_cp], eB⟩

set_option maxRecDepth 100000 in
set_option maxHeartbeats 4000000 in
theorem toDg_ok (X : Dg) (h : Heap)   : CallA Try.prog 9 #[.agg (dgA X)] h fun v' h' => v' = .agg (dgA (X)) ∧ Ext h h' := by
 refine callA_intro TTok (args := [_]) Try.func9 (by kernel_rfl) rfl 27 rfl (by simp) [.cell 2 34] rfl ?_
 simp only [idxs, Nat.reduceAdd]
 refine den_seq ?_
 refine den_region TTok ?_
 intro K hK
 simp -implicitDefEqProofs (disch := first | decide | assumption | omega) only [go_sem, wrap_id, cv_u8, cv_i64, Nat.zero_add, wrap_u8, eq_el, ne_el, build_el, Int.toNat_zero]
 refine op_box (cs := dgA X) rfl ?_
 intro h0_0 e0_0 hb0_0 z0_0
 have := Ext.size e0_0
 have eB := e0_0
 have hfhb0_0 : Fresh h.size [h.size] := Fresh.one _
 have hlhb0_0 := one_lt (show h.size < h0_0.size by omega)
 try simp -implicitDefEqProofs (disch := first | decide | assumption | omega) only [go_sem, wrap_id, cv_u8, cv_i64, Nat.zero_add, wrap_u8, eq_el, ne_el, build_el, Int.toNat_zero]
 refine op_alloc (cs := dgA dgZ) (by kernel_rfl) ?_
 intro h0_1 e0_1 hb0_1 z0_1
 replace hb0_0 := BoxAt.ext hb0_0 e0_1
 have := Ext.size e0_1
 replace eB := Ext.trans eB e0_1
 have hfhb0_1 : Fresh h0_0.size [h0_0.size] := Fresh.one _
 have hlhb0_1 := one_lt (show h0_0.size < h0_1.size by omega)
 try simp -implicitDefEqProofs (disch := first | decide | assumption | omega) only [go_sem, BoxAt.dgL hb0_1, BoxAt.dgP hb0_1, BoxAt.dgS hb0_1, BoxAt.dgDeg hb0_1, BoxAt.dgLev hb0_1, BoxAt.dgDeg0 hb0_1, BoxAt.dgLev0 hb0_1, BoxAt.dgDifL hb0_1, BoxAt.dgTabL hb0_1, BoxAt.dgTabL0 hb0_1, BoxAt.dgTabL1 hb0_1, BoxAt.dgTabL1' hb0_1, BoxAt.dgDifB hb0_1, BoxAt.dgTabB hb0_1, BoxAt.dgLL hb0_1, BoxAt.dgDegL hb0_1, BoxAt.dgLevL hb0_1, BoxAt.dgDifA hb0_1, BoxAt.dgTabA hb0_1, wrap_id, cv_u8, cv_i64, Nat.zero_add, wrap_u8, eq_el, ne_el, build_el, Int.toNat_zero]
 refine hK _ _ ?_
 clear hK K
 refine den_seq ?_
 refine den_region TTok ?_
 intro K hK
 simp -implicitDefEqProofs (disch := first | decide | assumption | omega) only [go_sem, BoxAt.dgL hb0_1, BoxAt.dgP hb0_1, BoxAt.dgS hb0_1, BoxAt.dgDeg hb0_1, BoxAt.dgLev hb0_1, BoxAt.dgDeg0 hb0_1, BoxAt.dgLev0 hb0_1, BoxAt.dgDifL hb0_1, BoxAt.dgTabL hb0_1, BoxAt.dgTabL0 hb0_1, BoxAt.dgTabL1 hb0_1, BoxAt.dgTabL1' hb0_1, BoxAt.dgDifB hb0_1, BoxAt.dgTabB hb0_1, BoxAt.dgLL hb0_1, BoxAt.dgDegL hb0_1, BoxAt.dgLevL hb0_1, BoxAt.dgDifA hb0_1, BoxAt.dgTabA hb0_1, wrap_id, cv_u8, cv_i64, Nat.zero_add, wrap_u8, eq_el, ne_el, build_el, Int.toNat_zero]
 refine op_alloc (cs := dgA dgZ) (by kernel_rfl) ?_
 intro h1_0 e1_0 hb1_0 z1_0
 replace hb0_0 := BoxAt.ext hb0_0 e1_0
 replace hb0_1 := BoxAt.ext hb0_1 e1_0
 have := Ext.size e1_0
 replace eB := Ext.trans eB e1_0
 have hfhb1_0 : Fresh h0_1.size [h0_1.size] := Fresh.one _
 have hlhb1_0 := one_lt (show h0_1.size < h1_0.size by omega)
 try simp -implicitDefEqProofs (disch := first | decide | assumption | omega) only [go_sem, BoxAt.dgL hb0_1, BoxAt.dgP hb0_1, BoxAt.dgS hb0_1, BoxAt.dgDeg hb0_1, BoxAt.dgLev hb0_1, BoxAt.dgDeg0 hb0_1, BoxAt.dgLev0 hb0_1, BoxAt.dgDifL hb0_1, BoxAt.dgTabL hb0_1, BoxAt.dgTabL0 hb0_1, BoxAt.dgTabL1 hb0_1, BoxAt.dgTabL1' hb0_1, BoxAt.dgDifB hb0_1, BoxAt.dgTabB hb0_1, BoxAt.dgLL hb0_1, BoxAt.dgDegL hb0_1, BoxAt.dgLevL hb0_1, BoxAt.dgDifA hb0_1, BoxAt.dgTabA hb0_1, wrap_id, cv_u8, cv_i64, Nat.zero_add, wrap_u8, eq_el, ne_el, build_el, Int.toNat_zero]
 refine hK _ _ ?_
 clear hK K
 refine den_seq ?_
 refine den_region TTok ?_
 intro K hK
 simp -implicitDefEqProofs (disch := first | decide | assumption | omega) only [go_sem, fa34_0, fa27_0, ld2, BoxAt.dgL hb0_0, BoxAt.dgP hb0_0, BoxAt.dgS hb0_0, BoxAt.dgDeg hb0_0, BoxAt.dgLev hb0_0, BoxAt.dgDeg0 hb0_0, BoxAt.dgLev0 hb0_0, BoxAt.dgDifL hb0_0, BoxAt.dgTabL hb0_0, BoxAt.dgTabL0 hb0_0, BoxAt.dgTabL1 hb0_0, BoxAt.dgTabL1' hb0_0, BoxAt.dgDifB hb0_0, BoxAt.dgTabB hb0_0, BoxAt.dgLL hb0_0, BoxAt.dgDegL hb0_0, BoxAt.dgLevL hb0_0, BoxAt.dgDifA hb0_0, BoxAt.dgTabA hb0_0, BoxAt.dgL hb1_0, BoxAt.dgP hb1_0, BoxAt.dgS hb1_0, BoxAt.dgDeg hb1_0, BoxAt.dgLev hb1_0, BoxAt.dgDeg0 hb1_0, BoxAt.dgLev0 hb1_0, BoxAt.dgDifL hb1_0, BoxAt.dgTabL hb1_0, BoxAt.dgTabL0 hb1_0, BoxAt.dgTabL1 hb1_0, BoxAt.dgTabL1' hb1_0, BoxAt.dgDifB hb1_0, BoxAt.dgTabB hb1_0, BoxAt.dgLL hb1_0, BoxAt.dgDegL hb1_0, BoxAt.dgLevL hb1_0, BoxAt.dgDifA hb1_0, BoxAt.dgTabA hb1_0, wrap_id, cv_u8, cv_i64, Nat.zero_add, wrap_u8, eq_el, ne_el, build_el, Int.toNat_zero]
 refine op_storeB (o := 0) (vs := #[.int .i64 X.p]) (cs' := dgA ({ dgZ with p := X.p })) st2 hb1_0 rfl rfl rfl (by rw [dgA_sz]; decide) i64_one dg_p ?_
 intro h2_3 hb1_0 c2_3
 replace hb0_0 := BoxAt.chgA hb0_0 c2_3 (apart_lt hlhb0_0 hfhb1_0 (by omega))
 replace hb0_1 := BoxAt.chgA hb0_1 c2_3 (apart_lt hlhb0_1 hfhb1_0 (by omega))
 have := c2_3.size
 replace eB := Ext.then eB c2_3 (ge_of hfhb1_0 (by omega))
 try simp -implicitDefEqProofs (disch := first | decide | assumption | omega) only [go_sem, BoxAt.dgL hb0_1, BoxAt.dgP hb0_1, BoxAt.dgS hb0_1, BoxAt.dgDeg hb0_1, BoxAt.dgLev hb0_1, BoxAt.dgDeg0 hb0_1, BoxAt.dgLev0 hb0_1, BoxAt.dgDifL hb0_1, BoxAt.dgTabL hb0_1, BoxAt.dgTabL0 hb0_1, BoxAt.dgTabL1 hb0_1, BoxAt.dgTabL1' hb0_1, BoxAt.dgDifB hb0_1, BoxAt.dgTabB hb0_1, BoxAt.dgLL hb0_1, BoxAt.dgDegL hb0_1, BoxAt.dgLevL hb0_1, BoxAt.dgDifA hb0_1, BoxAt.dgTabA hb0_1, wrap_id, cv_u8, cv_i64, Nat.zero_add, wrap_u8, eq_el, ne_el, build_el, Int.toNat_zero]
 refine hK _ _ ?_
 clear hK K
 refine den_seq ?_
 refine den_region TTok ?_
 intro K hK
 simp -implicitDefEqProofs (disch := first | decide | assumption | omega) only [go_sem, fa34_1, fa27_1, ld2, BoxAt.dgL hb0_0, BoxAt.dgP hb0_0, BoxAt.dgS hb0_0, BoxAt.dgDeg hb0_0, BoxAt.dgLev hb0_0, BoxAt.dgDeg0 hb0_0, BoxAt.dgLev0 hb0_0, BoxAt.dgDifL hb0_0, BoxAt.dgTabL hb0_0, BoxAt.dgTabL0 hb0_0, BoxAt.dgTabL1 hb0_0, BoxAt.dgTabL1' hb0_0, BoxAt.dgDifB hb0_0, BoxAt.dgTabB hb0_0, BoxAt.dgLL hb0_0, BoxAt.dgDegL hb0_0, BoxAt.dgLevL hb0_0, BoxAt.dgDifA hb0_0, BoxAt.dgTabA hb0_0, BoxAt.dgL hb1_0, BoxAt.dgP hb1_0, BoxAt.dgS hb1_0, BoxAt.dgDeg hb1_0, BoxAt.dgLev hb1_0, BoxAt.dgDeg0 hb1_0, BoxAt.dgLev0 hb1_0, BoxAt.dgDifL hb1_0, BoxAt.dgTabL hb1_0, BoxAt.dgTabL0 hb1_0, BoxAt.dgTabL1 hb1_0, BoxAt.dgTabL1' hb1_0, BoxAt.dgDifB hb1_0, BoxAt.dgTabB hb1_0, BoxAt.dgLL hb1_0, BoxAt.dgDegL hb1_0, BoxAt.dgLevL hb1_0, BoxAt.dgDifA hb1_0, BoxAt.dgTabA hb1_0, wrap_id, cv_u8, cv_i64, Nat.zero_add, wrap_u8, eq_el, ne_el, build_el, Int.toNat_zero]
 refine op_storeB (o := 1) (vs := #[.int .i64 X.s]) (cs' := dgA ({ { dgZ with p := X.p } with s := X.s })) st2 hb1_0 rfl rfl rfl (by rw [dgA_sz]; decide) i64_one dg_s ?_
 intro h3_3 hb1_0 c3_3
 replace hb0_0 := BoxAt.chgA hb0_0 c3_3 (apart_lt hlhb0_0 hfhb1_0 (by omega))
 replace hb0_1 := BoxAt.chgA hb0_1 c3_3 (apart_lt hlhb0_1 hfhb1_0 (by omega))
 have := c3_3.size
 replace eB := Ext.then eB c3_3 (ge_of hfhb1_0 (by omega))
 try simp -implicitDefEqProofs (disch := first | decide | assumption | omega) only [go_sem, BoxAt.dgL hb0_1, BoxAt.dgP hb0_1, BoxAt.dgS hb0_1, BoxAt.dgDeg hb0_1, BoxAt.dgLev hb0_1, BoxAt.dgDeg0 hb0_1, BoxAt.dgLev0 hb0_1, BoxAt.dgDifL hb0_1, BoxAt.dgTabL hb0_1, BoxAt.dgTabL0 hb0_1, BoxAt.dgTabL1 hb0_1, BoxAt.dgTabL1' hb0_1, BoxAt.dgDifB hb0_1, BoxAt.dgTabB hb0_1, BoxAt.dgLL hb0_1, BoxAt.dgDegL hb0_1, BoxAt.dgLevL hb0_1, BoxAt.dgDifA hb0_1, BoxAt.dgTabA hb0_1, wrap_id, cv_u8, cv_i64, Nat.zero_add, wrap_u8, eq_el, ne_el, build_el, Int.toNat_zero]
 refine hK _ _ ?_
 clear hK K
 refine den_seq ?_
 refine den_region TTok ?_
 intro K hK
 simp -implicitDefEqProofs (disch := first | decide | assumption | omega) only [go_sem, fa27_2, BoxAt.dgL hb0_0, BoxAt.dgP hb0_0, BoxAt.dgS hb0_0, BoxAt.dgDeg hb0_0, BoxAt.dgLev hb0_0, BoxAt.dgDeg0 hb0_0, BoxAt.dgLev0 hb0_0, BoxAt.dgDifL hb0_0, BoxAt.dgTabL hb0_0, BoxAt.dgTabL0 hb0_0, BoxAt.dgTabL1 hb0_0, BoxAt.dgTabL1' hb0_0, BoxAt.dgDifB hb0_0, BoxAt.dgTabB hb0_0, BoxAt.dgLL hb0_0, BoxAt.dgDegL hb0_0, BoxAt.dgLevL hb0_0, BoxAt.dgDifA hb0_0, BoxAt.dgTabA hb0_0, wrap_id, cv_u8, cv_i64, Nat.zero_add, wrap_u8, eq_el, ne_el, build_el, Int.toNat_zero]
 try simp -implicitDefEqProofs (disch := first | decide | assumption | omega) only [go_sem, BoxAt.dgL hb0_1, BoxAt.dgP hb0_1, BoxAt.dgS hb0_1, BoxAt.dgDeg hb0_1, BoxAt.dgLev hb0_1, BoxAt.dgDeg0 hb0_1, BoxAt.dgLev0 hb0_1, BoxAt.dgDifL hb0_1, BoxAt.dgTabL hb0_1, BoxAt.dgTabL0 hb0_1, BoxAt.dgTabL1 hb0_1, BoxAt.dgTabL1' hb0_1, BoxAt.dgDifB hb0_1, BoxAt.dgTabB hb0_1, BoxAt.dgLL hb0_1, BoxAt.dgDegL hb0_1, BoxAt.dgLevL hb0_1, BoxAt.dgDifA hb0_1, BoxAt.dgTabA hb0_1, wrap_id, cv_u8, cv_i64, Nat.zero_add, wrap_u8, eq_el, ne_el, build_el, Int.toNat_zero]
 refine CallA.mono (toI8_ok  X.deg _  ) ?_
 intro v_ h4_2
 rintro ⟨rfl, e4_2⟩
 replace hb0_0 := BoxAt.ext hb0_0 e4_2
 replace hb0_1 := BoxAt.ext hb0_1 e4_2
 replace hb1_0 := BoxAt.ext hb1_0 e4_2
 have := Ext.size e4_2
 replace eB := Ext.trans eB e4_2
 try simp -implicitDefEqProofs (disch := first | decide | assumption | omega) only [go_sem, fa34_2, BoxAt.dgL hb1_0, BoxAt.dgP hb1_0, BoxAt.dgS hb1_0, BoxAt.dgDeg hb1_0, BoxAt.dgLev hb1_0, BoxAt.dgDeg0 hb1_0, BoxAt.dgLev0 hb1_0, BoxAt.dgDifL hb1_0, BoxAt.dgTabL hb1_0, BoxAt.dgTabL0 hb1_0, BoxAt.dgTabL1 hb1_0, BoxAt.dgTabL1' hb1_0, BoxAt.dgDifB hb1_0, BoxAt.dgTabB hb1_0, BoxAt.dgLL hb1_0, BoxAt.dgDegL hb1_0, BoxAt.dgLevL hb1_0, BoxAt.dgDifA hb1_0, BoxAt.dgTabA hb1_0, wrap_id, cv_u8, cv_i64, Nat.zero_add, wrap_u8, eq_el, ne_el, build_el, Int.toNat_zero]
 refine op_storeB (o := 2) (vs := in8A X.deg) (cs' := dgA ({ { { dgZ with p := X.p } with s := X.s } with deg := X.deg })) st22 hb1_0 rfl rfl (in8A_sz _) (by rw [dgA_sz]; decide) in8A_one dg_deg ?_
 intro h4_4 hb1_0 c4_4
 replace hb0_0 := BoxAt.chgA hb0_0 c4_4 (apart_lt hlhb0_0 hfhb1_0 (by omega))
 replace hb0_1 := BoxAt.chgA hb0_1 c4_4 (apart_lt hlhb0_1 hfhb1_0 (by omega))
 have := c4_4.size
 replace eB := Ext.then eB c4_4 (ge_of hfhb1_0 (by omega))
 try simp -implicitDefEqProofs (disch := first | decide | assumption | omega) only [go_sem, BoxAt.dgL hb0_1, BoxAt.dgP hb0_1, BoxAt.dgS hb0_1, BoxAt.dgDeg hb0_1, BoxAt.dgLev hb0_1, BoxAt.dgDeg0 hb0_1, BoxAt.dgLev0 hb0_1, BoxAt.dgDifL hb0_1, BoxAt.dgTabL hb0_1, BoxAt.dgTabL0 hb0_1, BoxAt.dgTabL1 hb0_1, BoxAt.dgTabL1' hb0_1, BoxAt.dgDifB hb0_1, BoxAt.dgTabB hb0_1, BoxAt.dgLL hb0_1, BoxAt.dgDegL hb0_1, BoxAt.dgLevL hb0_1, BoxAt.dgDifA hb0_1, BoxAt.dgTabA hb0_1, wrap_id, cv_u8, cv_i64, Nat.zero_add, wrap_u8, eq_el, ne_el, build_el, Int.toNat_zero]
 refine hK _ _ ?_
 clear hK K
 refine den_seq ?_
 refine den_region TTok ?_
 intro K hK
 simp -implicitDefEqProofs (disch := first | decide | assumption | omega) only [go_sem, fa27_3, BoxAt.dgL hb0_0, BoxAt.dgP hb0_0, BoxAt.dgS hb0_0, BoxAt.dgDeg hb0_0, BoxAt.dgLev hb0_0, BoxAt.dgDeg0 hb0_0, BoxAt.dgLev0 hb0_0, BoxAt.dgDifL hb0_0, BoxAt.dgTabL hb0_0, BoxAt.dgTabL0 hb0_0, BoxAt.dgTabL1 hb0_0, BoxAt.dgTabL1' hb0_0, BoxAt.dgDifB hb0_0, BoxAt.dgTabB hb0_0, BoxAt.dgLL hb0_0, BoxAt.dgDegL hb0_0, BoxAt.dgLevL hb0_0, BoxAt.dgDifA hb0_0, BoxAt.dgTabA hb0_0, wrap_id, cv_u8, cv_i64, Nat.zero_add, wrap_u8, eq_el, ne_el, build_el, Int.toNat_zero]
 try simp -implicitDefEqProofs (disch := first | decide | assumption | omega) only [go_sem, BoxAt.dgL hb0_1, BoxAt.dgP hb0_1, BoxAt.dgS hb0_1, BoxAt.dgDeg hb0_1, BoxAt.dgLev hb0_1, BoxAt.dgDeg0 hb0_1, BoxAt.dgLev0 hb0_1, BoxAt.dgDifL hb0_1, BoxAt.dgTabL hb0_1, BoxAt.dgTabL0 hb0_1, BoxAt.dgTabL1 hb0_1, BoxAt.dgTabL1' hb0_1, BoxAt.dgDifB hb0_1, BoxAt.dgTabB hb0_1, BoxAt.dgLL hb0_1, BoxAt.dgDegL hb0_1, BoxAt.dgLevL hb0_1, BoxAt.dgDifA hb0_1, BoxAt.dgTabA hb0_1, wrap_id, cv_u8, cv_i64, Nat.zero_add, wrap_u8, eq_el, ne_el, build_el, Int.toNat_zero]
 refine CallA.mono (toI8_ok  X.lev _  ) ?_
 intro v_ h5_2
 rintro ⟨rfl, e5_2⟩
 replace hb0_0 := BoxAt.ext hb0_0 e5_2
 replace hb0_1 := BoxAt.ext hb0_1 e5_2
 replace hb1_0 := BoxAt.ext hb1_0 e5_2
 have := Ext.size e5_2
 replace eB := Ext.trans eB e5_2
 try simp -implicitDefEqProofs (disch := first | decide | assumption | omega) only [go_sem, fa34_3, BoxAt.dgL hb1_0, BoxAt.dgP hb1_0, BoxAt.dgS hb1_0, BoxAt.dgDeg hb1_0, BoxAt.dgLev hb1_0, BoxAt.dgDeg0 hb1_0, BoxAt.dgLev0 hb1_0, BoxAt.dgDifL hb1_0, BoxAt.dgTabL hb1_0, BoxAt.dgTabL0 hb1_0, BoxAt.dgTabL1 hb1_0, BoxAt.dgTabL1' hb1_0, BoxAt.dgDifB hb1_0, BoxAt.dgTabB hb1_0, BoxAt.dgLL hb1_0, BoxAt.dgDegL hb1_0, BoxAt.dgLevL hb1_0, BoxAt.dgDifA hb1_0, BoxAt.dgTabA hb1_0, wrap_id, cv_u8, cv_i64, Nat.zero_add, wrap_u8, eq_el, ne_el, build_el, Int.toNat_zero]
 refine op_storeB (o := 10) (vs := in8A X.lev) (cs' := dgA ({ { { { dgZ with p := X.p } with s := X.s } with deg := X.deg } with lev := X.lev })) st22 hb1_0 rfl rfl (in8A_sz _) (by rw [dgA_sz]; decide) in8A_one dg_lev ?_
 intro h5_4 hb1_0 c5_4
 replace hb0_0 := BoxAt.chgA hb0_0 c5_4 (apart_lt hlhb0_0 hfhb1_0 (by omega))
 replace hb0_1 := BoxAt.chgA hb0_1 c5_4 (apart_lt hlhb0_1 hfhb1_0 (by omega))
 have := c5_4.size
 replace eB := Ext.then eB c5_4 (ge_of hfhb1_0 (by omega))
 try simp -implicitDefEqProofs (disch := first | decide | assumption | omega) only [go_sem, BoxAt.dgL hb0_1, BoxAt.dgP hb0_1, BoxAt.dgS hb0_1, BoxAt.dgDeg hb0_1, BoxAt.dgLev hb0_1, BoxAt.dgDeg0 hb0_1, BoxAt.dgLev0 hb0_1, BoxAt.dgDifL hb0_1, BoxAt.dgTabL hb0_1, BoxAt.dgTabL0 hb0_1, BoxAt.dgTabL1 hb0_1, BoxAt.dgTabL1' hb0_1, BoxAt.dgDifB hb0_1, BoxAt.dgTabB hb0_1, BoxAt.dgLL hb0_1, BoxAt.dgDegL hb0_1, BoxAt.dgLevL hb0_1, BoxAt.dgDifA hb0_1, BoxAt.dgTabA hb0_1, wrap_id, cv_u8, cv_i64, Nat.zero_add, wrap_u8, eq_el, ne_el, build_el, Int.toNat_zero]
 refine hK _ _ ?_
 clear hK K
 refine den_seq ?_
 refine den_region TTok ?_
 intro K hK
 simp -implicitDefEqProofs (disch := first | decide | assumption | omega) only [go_sem, fa27_4, BoxAt.dgL hb0_0, BoxAt.dgP hb0_0, BoxAt.dgS hb0_0, BoxAt.dgDeg hb0_0, BoxAt.dgLev hb0_0, BoxAt.dgDeg0 hb0_0, BoxAt.dgLev0 hb0_0, BoxAt.dgDifL hb0_0, BoxAt.dgTabL hb0_0, BoxAt.dgTabL0 hb0_0, BoxAt.dgTabL1 hb0_0, BoxAt.dgTabL1' hb0_0, BoxAt.dgDifB hb0_0, BoxAt.dgTabB hb0_0, BoxAt.dgLL hb0_0, BoxAt.dgDegL hb0_0, BoxAt.dgLevL hb0_0, BoxAt.dgDifA hb0_0, BoxAt.dgTabA hb0_0, wrap_id, cv_u8, cv_i64, Nat.zero_add, wrap_u8, eq_el, ne_el, build_el, Int.toNat_zero]
 try simp -implicitDefEqProofs (disch := first | decide | assumption | omega) only [go_sem, BoxAt.dgL hb0_1, BoxAt.dgP hb0_1, BoxAt.dgS hb0_1, BoxAt.dgDeg hb0_1, BoxAt.dgLev hb0_1, BoxAt.dgDeg0 hb0_1, BoxAt.dgLev0 hb0_1, BoxAt.dgDifL hb0_1, BoxAt.dgTabL hb0_1, BoxAt.dgTabL0 hb0_1, BoxAt.dgTabL1 hb0_1, BoxAt.dgTabL1' hb0_1, BoxAt.dgDifB hb0_1, BoxAt.dgTabB hb0_1, BoxAt.dgLL hb0_1, BoxAt.dgDegL hb0_1, BoxAt.dgLevL hb0_1, BoxAt.dgDifA hb0_1, BoxAt.dgTabA hb0_1, wrap_id, cv_u8, cv_i64, Nat.zero_add, wrap_u8, eq_el, ne_el, build_el, Int.toNat_zero]
 refine CallA.mono (toE8_ok  X.dif _  ) ?_
 intro v_ h6_2
 rintro ⟨rfl, e6_2⟩
 replace hb0_0 := BoxAt.ext hb0_0 e6_2
 replace hb0_1 := BoxAt.ext hb0_1 e6_2
 replace hb1_0 := BoxAt.ext hb1_0 e6_2
 have := Ext.size e6_2
 replace eB := Ext.trans eB e6_2
 try simp -implicitDefEqProofs (disch := first | decide | assumption | omega) only [go_sem, fa34_4, BoxAt.dgL hb1_0, BoxAt.dgP hb1_0, BoxAt.dgS hb1_0, BoxAt.dgDeg hb1_0, BoxAt.dgLev hb1_0, BoxAt.dgDeg0 hb1_0, BoxAt.dgLev0 hb1_0, BoxAt.dgDifL hb1_0, BoxAt.dgTabL hb1_0, BoxAt.dgTabL0 hb1_0, BoxAt.dgTabL1 hb1_0, BoxAt.dgTabL1' hb1_0, BoxAt.dgDifB hb1_0, BoxAt.dgTabB hb1_0, BoxAt.dgLL hb1_0, BoxAt.dgDegL hb1_0, BoxAt.dgLevL hb1_0, BoxAt.dgDifA hb1_0, BoxAt.dgTabA hb1_0, wrap_id, cv_u8, cv_i64, Nat.zero_add, wrap_u8, eq_el, ne_el, build_el, Int.toNat_zero]
 refine op_storeB (o := 18) (vs := el8A X.dif) (cs' := dgA ({ { { { { dgZ with p := X.p } with s := X.s } with deg := X.deg } with lev := X.lev } with dif := X.dif })) st31 hb1_0 rfl rfl (el8A_sz _) (by rw [dgA_sz]; decide) el8A_one dg_dif ?_
 intro h6_4 hb1_0 c6_4
 replace hb0_0 := BoxAt.chgA hb0_0 c6_4 (apart_lt hlhb0_0 hfhb1_0 (by omega))
 replace hb0_1 := BoxAt.chgA hb0_1 c6_4 (apart_lt hlhb0_1 hfhb1_0 (by omega))
 have := c6_4.size
 replace eB := Ext.then eB c6_4 (ge_of hfhb1_0 (by omega))
 try simp -implicitDefEqProofs (disch := first | decide | assumption | omega) only [go_sem, BoxAt.dgL hb0_1, BoxAt.dgP hb0_1, BoxAt.dgS hb0_1, BoxAt.dgDeg hb0_1, BoxAt.dgLev hb0_1, BoxAt.dgDeg0 hb0_1, BoxAt.dgLev0 hb0_1, BoxAt.dgDifL hb0_1, BoxAt.dgTabL hb0_1, BoxAt.dgTabL0 hb0_1, BoxAt.dgTabL1 hb0_1, BoxAt.dgTabL1' hb0_1, BoxAt.dgDifB hb0_1, BoxAt.dgTabB hb0_1, BoxAt.dgLL hb0_1, BoxAt.dgDegL hb0_1, BoxAt.dgLevL hb0_1, BoxAt.dgDifA hb0_1, BoxAt.dgTabA hb0_1, wrap_id, cv_u8, cv_i64, Nat.zero_add, wrap_u8, eq_el, ne_el, build_el, Int.toNat_zero]
 refine hK _ _ ?_
 clear hK K
 refine den_seq ?_
 refine den_region TTok ?_
 intro K hK
 simp -implicitDefEqProofs (disch := first | decide | assumption | omega) only [go_sem, fa27_5, BoxAt.dgL hb0_0, BoxAt.dgP hb0_0, BoxAt.dgS hb0_0, BoxAt.dgDeg hb0_0, BoxAt.dgLev hb0_0, BoxAt.dgDeg0 hb0_0, BoxAt.dgLev0 hb0_0, BoxAt.dgDifL hb0_0, BoxAt.dgTabL hb0_0, BoxAt.dgTabL0 hb0_0, BoxAt.dgTabL1 hb0_0, BoxAt.dgTabL1' hb0_0, BoxAt.dgDifB hb0_0, BoxAt.dgTabB hb0_0, BoxAt.dgLL hb0_0, BoxAt.dgDegL hb0_0, BoxAt.dgLevL hb0_0, BoxAt.dgDifA hb0_0, BoxAt.dgTabA hb0_0, wrap_id, cv_u8, cv_i64, Nat.zero_add, wrap_u8, eq_el, ne_el, build_el, Int.toNat_zero]
 try simp -implicitDefEqProofs (disch := first | decide | assumption | omega) only [go_sem, BoxAt.dgL hb0_1, BoxAt.dgP hb0_1, BoxAt.dgS hb0_1, BoxAt.dgDeg hb0_1, BoxAt.dgLev hb0_1, BoxAt.dgDeg0 hb0_1, BoxAt.dgLev0 hb0_1, BoxAt.dgDifL hb0_1, BoxAt.dgTabL hb0_1, BoxAt.dgTabL0 hb0_1, BoxAt.dgTabL1 hb0_1, BoxAt.dgTabL1' hb0_1, BoxAt.dgDifB hb0_1, BoxAt.dgTabB hb0_1, BoxAt.dgLL hb0_1, BoxAt.dgDegL hb0_1, BoxAt.dgLevL hb0_1, BoxAt.dgDifA hb0_1, BoxAt.dgTabA hb0_1, wrap_id, cv_u8, cv_i64, Nat.zero_add, wrap_u8, eq_el, ne_el, build_el, Int.toNat_zero]
 refine CallA.mono (toE88_ok  X.tab _  ) ?_
 intro v_ h7_2
 rintro ⟨rfl, e7_2⟩
 replace hb0_0 := BoxAt.ext hb0_0 e7_2
 replace hb0_1 := BoxAt.ext hb0_1 e7_2
 replace hb1_0 := BoxAt.ext hb1_0 e7_2
 have := Ext.size e7_2
 replace eB := Ext.trans eB e7_2
 try simp -implicitDefEqProofs (disch := first | decide | assumption | omega) only [go_sem, fa34_5, BoxAt.dgL hb1_0, BoxAt.dgP hb1_0, BoxAt.dgS hb1_0, BoxAt.dgDeg hb1_0, BoxAt.dgLev hb1_0, BoxAt.dgDeg0 hb1_0, BoxAt.dgLev0 hb1_0, BoxAt.dgDifL hb1_0, BoxAt.dgTabL hb1_0, BoxAt.dgTabL0 hb1_0, BoxAt.dgTabL1 hb1_0, BoxAt.dgTabL1' hb1_0, BoxAt.dgDifB hb1_0, BoxAt.dgTabB hb1_0, BoxAt.dgLL hb1_0, BoxAt.dgDegL hb1_0, BoxAt.dgLevL hb1_0, BoxAt.dgDifA hb1_0, BoxAt.dgTabA hb1_0, wrap_id, cv_u8, cv_i64, Nat.zero_add, wrap_u8, eq_el, ne_el, build_el, Int.toNat_zero]
 refine op_storeB (o := 82) (vs := el88A X.tab) (cs' := dgA ({ { { { { { dgZ with p := X.p } with s := X.s } with deg := X.deg } with lev := X.lev } with dif := X.dif } with tab := X.tab })) st32 hb1_0 rfl rfl (el88A_sz _) (by rw [dgA_sz]; decide) el88A_one dg_tab ?_
 intro h7_4 hb1_0 c7_4
 replace hb0_0 := BoxAt.chgA hb0_0 c7_4 (apart_lt hlhb0_0 hfhb1_0 (by omega))
 replace hb0_1 := BoxAt.chgA hb0_1 c7_4 (apart_lt hlhb0_1 hfhb1_0 (by omega))
 have := c7_4.size
 replace eB := Ext.then eB c7_4 (ge_of hfhb1_0 (by omega))
 try simp -implicitDefEqProofs (disch := first | decide | assumption | omega) only [go_sem, BoxAt.dgL hb0_1, BoxAt.dgP hb0_1, BoxAt.dgS hb0_1, BoxAt.dgDeg hb0_1, BoxAt.dgLev hb0_1, BoxAt.dgDeg0 hb0_1, BoxAt.dgLev0 hb0_1, BoxAt.dgDifL hb0_1, BoxAt.dgTabL hb0_1, BoxAt.dgTabL0 hb0_1, BoxAt.dgTabL1 hb0_1, BoxAt.dgTabL1' hb0_1, BoxAt.dgDifB hb0_1, BoxAt.dgTabB hb0_1, BoxAt.dgLL hb0_1, BoxAt.dgDegL hb0_1, BoxAt.dgLevL hb0_1, BoxAt.dgDifA hb0_1, BoxAt.dgTabA hb0_1, wrap_id, cv_u8, cv_i64, Nat.zero_add, wrap_u8, eq_el, ne_el, build_el, Int.toNat_zero]
 refine hK _ _ ?_
 clear hK K
 refine den_seq ?_
 refine den_region TTok ?_
 intro K hK
 simp -implicitDefEqProofs (disch := first | decide | assumption | omega) only [go_sem, BoxAt.dgL hb1_0, BoxAt.dgP hb1_0, BoxAt.dgS hb1_0, BoxAt.dgDeg hb1_0, BoxAt.dgLev hb1_0, BoxAt.dgDeg0 hb1_0, BoxAt.dgLev0 hb1_0, BoxAt.dgDifL hb1_0, BoxAt.dgTabL hb1_0, BoxAt.dgTabL0 hb1_0, BoxAt.dgTabL1 hb1_0, BoxAt.dgTabL1' hb1_0, BoxAt.dgDifB hb1_0, BoxAt.dgTabB hb1_0, BoxAt.dgLL hb1_0, BoxAt.dgDegL hb1_0, BoxAt.dgLevL hb1_0, BoxAt.dgDifA hb1_0, BoxAt.dgTabA hb1_0, wrap_id, cv_u8, cv_i64, Nat.zero_add, wrap_u8, eq_el, ne_el, build_el, Int.toNat_zero]
 refine op_storeB (o := 0) (vs := dgA ({ { { { { { dgZ with p := X.p } with s := X.s } with deg := X.deg } with lev := X.lev } with dif := X.dif } with tab := X.tab })) (cs' := dgA ({ { { { { { dgZ with p := X.p } with s := X.s } with deg := X.deg } with lev := X.lev } with dif := X.dif } with tab := X.tab })) st34 hb0_1 rfl rfl (dgA_sz _) (by rw [dgA_sz]; decide) dgA_one dgA_all ?_
 intro h8_1 hb0_1 c8_1
 replace hb1_0 := BoxAt.chgA hb1_0 c8_1 (apart_gt hfhb1_0 hlhb0_1 (by omega))
 have := c8_1.size
 replace eB := Ext.then eB c8_1 (ge_of hfhb0_1 (by omega))
 try simp -implicitDefEqProofs (disch := first | decide | assumption | omega) only [go_sem, BoxAt.dgL hb0_1, BoxAt.dgP hb0_1, BoxAt.dgS hb0_1, BoxAt.dgDeg hb0_1, BoxAt.dgLev hb0_1, BoxAt.dgDeg0 hb0_1, BoxAt.dgLev0 hb0_1, BoxAt.dgDifL hb0_1, BoxAt.dgTabL hb0_1, BoxAt.dgTabL0 hb0_1, BoxAt.dgTabL1 hb0_1, BoxAt.dgTabL1' hb0_1, BoxAt.dgDifB hb0_1, BoxAt.dgTabB hb0_1, BoxAt.dgLL hb0_1, BoxAt.dgDegL hb0_1, BoxAt.dgLevL hb0_1, BoxAt.dgDifA hb0_1, BoxAt.dgTabA hb0_1, wrap_id, cv_u8, cv_i64, Nat.zero_add, wrap_u8, eq_el, ne_el, build_el, Int.toNat_zero]
 refine hK _ _ ?_
 clear hK K
 refine den_ret ?_
 simp -implicitDefEqProofs (disch := first | decide | assumption | omega) only [go_sem, BoxAt.dgL hb0_1, BoxAt.dgP hb0_1, BoxAt.dgS hb0_1, BoxAt.dgDeg hb0_1, BoxAt.dgLev hb0_1, BoxAt.dgDeg0 hb0_1, BoxAt.dgLev0 hb0_1, BoxAt.dgDifL hb0_1, BoxAt.dgTabL hb0_1, BoxAt.dgTabL0 hb0_1, BoxAt.dgTabL1 hb0_1, BoxAt.dgTabL1' hb0_1, BoxAt.dgDifB hb0_1, BoxAt.dgTabB hb0_1, BoxAt.dgLL hb0_1, BoxAt.dgDegL hb0_1, BoxAt.dgLevL hb0_1, BoxAt.dgDifA hb0_1, BoxAt.dgTabA hb0_1, wrap_id, cv_u8, cv_i64, Nat.zero_add, wrap_u8, eq_el, ne_el, build_el, Int.toNat_zero, resP_c1, ld34]
 first | exact eB | exact ⟨by first | rfl | trivial, eB⟩
end Go.Proofs.Ytacajcjibhifmaa

namespace Go.Proofs.Ytacajcjibhifmaa
open Go
section
variable {X : Dg}
theorem dg_degI {i : Nat} {x : Int} (h : i < 8) : ((dgA X).toList.take (2 + i) ++ (#[Value.int .i64 x] : Array Value).toList ++ (dgA X).toList.drop (2 + i + 1)).toArray = dgA { X with deg := upd X.deg i x } :=
 store_eq (dgA_sz _) (dgA_sz _) rfl (by omega) (fun q hq => dgA_at hq) (fun q hq => dgA_at hq) one_at (fun q hq hc => by
  by_cases hr : 2 ≤ q ∧ q < 10
  ·obtain ⟨j, rfl⟩ : ∃ j, q = 2 + j := ⟨q - 2, by omega⟩
   rw [dgF_deg (by omega), dgF_deg (by omega)]
   show Value.int .i64 (upd X.deg i x j) = _
   rw [upd, if_neg (by omega)]
  ·unfold dgF
   by_cases h0 : q = 0 <;> by_cases h1 : q = 1 <;> by_cases h2 : q < 10 <;> by_cases h3 : q < 18 <;> first | (exfalso; omega) | simp [h0, h1, h2, h3]) (fun q hq => by
  obtain rfl : q = 0 := by omega
  rw [show 2 + i + 0 = 2 + i from rfl, dgF_deg h]
  show Value.int .i64 (upd X.deg i x i) = _
  rw [upd, if_pos rfl])
theorem dg_levI {i : Nat} {x : Int} (h : i < 8) : ((dgA X).toList.take (10 + i) ++ (#[Value.int .i64 x] : Array Value).toList ++ (dgA X).toList.drop (10 + i + 1)).toArray = dgA { X with lev := upd X.lev i x } :=
 store_eq (dgA_sz _) (dgA_sz _) rfl (by omega) (fun q hq => dgA_at hq) (fun q hq => dgA_at hq) one_at (fun q hq hc => by
  by_cases hr : 10 ≤ q ∧ q < 18
  ·obtain ⟨j, rfl⟩ : ∃ j, q = 10 + j := ⟨q - 10, by omega⟩
   rw [dgF_lev (by omega), dgF_lev (by omega)]
   show Value.int .i64 (upd X.lev i x j) = _
   rw [upd, if_neg (by omega)]
  ·unfold dgF
   by_cases h0 : q = 0 <;> by_cases h1 : q = 1 <;> by_cases h2 : q < 10 <;> by_cases h3 : q < 18 <;> first | (exfalso; omega) | simp [h0, h1, h2, h3]) (fun q hq => by
  obtain rfl : q = 0 := by omega
  rw [show 10 + i + 0 = 10 + i from rfl, dgF_lev h]
  show Value.int .i64 (upd X.lev i x i) = _
  rw [upd, if_pos rfl])
theorem dg_difI {i : Nat} {v : Nat → Int} (h : i < 8) : ((dgA X).toList.take (18 + i * 8) ++ (elA v).toList ++ (dgA X).toList.drop (18 + i * 8 + 8)).toArray = dgA { X with dif := updF X.dif i v } :=
 store_eq (dgA_sz _) (dgA_sz _) (elA_sz v) (by omega) (fun q hq => dgA_at hq) (fun q hq => dgA_at hq) (fun q hq => elA_at hq) (fun q hq hc => by
  by_cases h2 : q < 18
  ·exact dgF_low (X := X) (Y := { X with dif := updF X.dif i v }) rfl rfl rfl rfl h2
  ·by_cases h3 : q < 82
   ·rw [dgF_diff (by omega), dgF_diff (by omega)]
    show Value.int .u8 (updF X.dif i v ((q - 18) / 8) ((q - 18) % 8)) = _
    rw [updF, if_neg (by omega)]
   ·rw [dgF_table (by omega), dgF_table (by omega)]) (fun q hq => by
  rw [dgF_diff (by omega), show 18 + i * 8 + q - 18 = i * 8 + q by omega, show (i * 8 + q) / 8 = i by omega, show (i * 8 + q) % 8 = q by omega]
  show Value.int .u8 (updF X.dif i v i q) = _
  rw [updF, if_pos rfl])
theorem dg_tabI {i j : Nat} {v : Nat → Int} (h : i < 8) (hj : j < 8) : ((dgA X).toList.take (82 + i * 64 + j * 8) ++ (elA v).toList ++ (dgA X).toList.drop (82 + i * 64 + j * 8 + 8)).toArray = dgA { X with tab := updF X.tab i (updF (X.tab i) j v) } :=
 store_eq (dgA_sz _) (dgA_sz _) (elA_sz v) (by omega) (fun q hq => dgA_at hq) (fun q hq => dgA_at hq) (fun q hq => elA_at hq) (fun q hq hc => by
  by_cases h2 : q < 18
  ·exact dgF_low (X := X) (Y := { X with tab := updF X.tab i (updF (X.tab i) j v) }) rfl rfl rfl rfl h2
  ·by_cases h3 : q < 82
   ·rw [dgF_diff (by omega), dgF_diff (by omega)]
   ·rw [dgF_table (by omega), dgF_table (by omega)]
    show Value.int .u8 (updF X.tab i (updF (X.tab i) j v) ((q - 82) / 64) ((q - 82) / 8 % 8) ((q - 82) % 8)) = _
    by_cases h4 : (q - 82) / 64 = i
    ·rw [updF, if_pos h4, updF, if_neg (by omega), h4]
    ·rw [updF, if_neg h4]) (fun q hq => by
  rw [dgF_table (by omega), show 82 + i * 64 + j * 8 + q - 82 = i * 64 + j * 8 + q by omega, show (i * 64 + j * 8 + q) / 64 = i by omega, show (i * 64 + j * 8 + q) / 8 % 8 = j by omega, show (i * 64 + j * 8 + q) % 8 = q by omega]
  show Value.int .u8 (updF X.tab i (updF (X.tab i) j v) i j q) = _
  rw [updF, if_pos rfl, updF, if_pos rfl])
end
def dgN (a b : Int) : Dg := ⟨a, b, z8, z8, z64, z512⟩
theorem build_dgN (a b : Int) : buildV TT 34 [(0, .int .i64 a), (1, .int .i64 b)] = some (.agg (dgA (dgN a b))) := by kernel_rfl
theorem build_dg0 : buildV TT 34 [] = some (.agg (dgA dgZ)) := by kernel_rfl
/-- A pair's place: its two numbers. -/
def iQ (X Y : Dg) (k : Nat) : Nat := (atQ X Y k).1.toNat
def jQ (X Y : Dg) (k : Nat) : Nat := (atQ X Y k).2.toNat
theorem EQ_len (X Y : Dg) : (EQ X Y).length = (srQ X Y).length := by rw [EQ, List.length_map]
theorem EQ_get {X Y : Dg} {k : Nat} (h : k < (EQ X Y).length) : (EQ X Y).getD k 0 = 8 * (atQ X Y k).1 + (atQ X Y k).2 := by
 rw [EQ_len] at h
 rw [EQ, List.getD_eq_getElem?_getD, List.getElem?_map, List.getElem?_eq_getElem h, atQ, List.getD_eq_getElem?_getD, List.getElem?_eq_getElem h]; rfl
section
variable {X Y : Dg} (hX : IsFm X) (hY : IsFm Y)
include hX hY
theorem EQ_n : ((EQ X Y).length : Int) = X.s * Y.s := by rw [EQ_len]; exact srQ_len hX hY
theorem ij_b {k : Nat} (h : k < (EQ X Y).length) : (iQ X Y k : Int) < X.s ∧ (jQ X Y k : Int) < Y.s ∧ iQ X Y k < 8 ∧ jQ X Y k < 8 := by
 have hs := hX.s
 have ht := hY.s
 have := atQ_b hX hY (k := k) (by rw [← EQ_len]; exact h)
 unfold iQ jQ; omega
theorem EQ_b {k : Nat} (h : k < (EQ X Y).length) : 0 ≤ (EQ X Y).getD k 0 ∧ (EQ X Y).getD k 0 ≤ 63 := by
 have hs := hX.s
 have ht := hY.s
 have := atQ_b hX hY (k := k) (by rw [← EQ_len]; exact h)
 rw [EQ_get h]; omega
theorem EQ_i {k : Nat} (h : k < (EQ X Y).length) : Int.tdiv ((EQ X Y).getD k 0) 8 = (iQ X Y k : Int) := by
 have hs := hX.s
 have ht := hY.s
 have := atQ_b hX hY (k := k) (by rw [← EQ_len]; exact h)
 have hb := EQ_b hX hY h
 rw [Int.tdiv_eq_ediv_of_nonneg hb.1, EQ_get h, iQ]; omega
theorem EQ_j {k : Nat} (h : k < (EQ X Y).length) : Int.tmod ((EQ X Y).getD k 0) 8 = (jQ X Y k : Int) := by
 have hs := hX.s
 have ht := hY.s
 have := atQ_b hX hY (k := k) (by rw [← EQ_len]; exact h)
 have hb := EQ_b hX hY h
 rw [Int.tmod_eq_emod_of_nonneg hb.1, EQ_get h, jQ]; omega
end
def sg1Q (X Y : Dg) (k : Nat) : Int := 1 - 2 * Int.tmod (X.deg (iQ X Y k)) 2
def sg2Q (X Y : Dg) (k m : Nat) : Int := 1 - 2 * Int.tmod (Y.deg (jQ X Y k) * X.deg (iQ X Y m)) 2
def dfQ (X Y : Dg) (k : Nat) : Nat → Int := plusN X.p (pjN X.p (EQ X Y) 1 (X.dif (iQ X Y k)) (e8 (jQ X Y k)) (EQ X Y).length) (pjN X.p (EQ X Y) (sg1Q X Y k) (e8 (iQ X Y k)) (Y.dif (jQ X Y k)) (EQ X Y).length) 1 8
def tbQ (X Y : Dg) (k m : Nat) : Nat → Int := pjN X.p (EQ X Y) (sg2Q X Y k m) (X.tab (iQ X Y k) (iQ X Y m)) (Y.tab (jQ X Y k) (jQ X Y m)) (EQ X Y).length
def dgK (X Y : Dg) (k : Nat) : Int := X.deg (iQ X Y k) + Y.deg (jQ X Y k)
def lvK (X Y : Dg) (k : Nat) : Int := X.lev (iQ X Y k) + Y.lev (jQ X Y k)
/-- The product, as far as its first rows are there. -/
def tnR (X Y : Dg) (k : Nat) : Dg := ⟨X.p, X.s * Y.s, fun q => if q < k then dgK X Y q else 0, fun q => if q < k then lvK X Y q else 0, fun q => if q < k then dfQ X Y q else z8, fun q m => if q < k ∧ m < (EQ X Y).length then tbQ X Y q m else z8⟩
def tnC (X Y : Dg) (k m : Nat) : Dg := ⟨X.p, X.s * Y.s, fun q => if q < k + 1 then dgK X Y q else 0, fun q => if q < k + 1 then lvK X Y q else 0, fun q => if q < k + 1 then dfQ X Y q else z8, fun q r => if q < k ∧ r < (EQ X Y).length ∨ q = k ∧ r < m then tbQ X Y q r else z8⟩
theorem tnR_0 (X Y : Dg) : tnR X Y 0 = dgN X.p (X.s * Y.s) := by
 unfold tnR dgN z64 z512 z64 z8
 simp
theorem upd_lt {g : Nat → Int} {k : Nat} : upd (fun q => if q < k then g q else 0) k (g k) = fun q => if q < k + 1 then g q else 0 := by
 funext q
 unfold upd
 by_cases h : q = k
 ·subst h; rw [if_pos rfl, if_pos (by omega)]
 ·rw [if_neg h]
  dsimp only
  by_cases h2 : q < k
  ·rw [if_pos h2, if_pos (by omega)]
  ·rw [if_neg h2, if_neg (by omega)]
theorem updF_lt {g : Nat → Nat → Int} {k : Nat} : updF (fun q => if q < k then g q else z8) k (g k) = fun q => if q < k + 1 then g q else z8 := by
 funext q
 unfold updF
 by_cases h : q = k
 ·subst h; rw [if_pos rfl, if_pos (by omega)]
 ·rw [if_neg h]
  dsimp only
  by_cases h2 : q < k
  ·rw [if_pos h2, if_pos (by omega)]
  ·rw [if_neg h2, if_neg (by omega)]
theorem tnC_0 (X Y : Dg) (k : Nat) : (⟨X.p, X.s * Y.s, upd (tnR X Y k).deg k (dgK X Y k), upd (tnR X Y k).lev k (lvK X Y k), updF (tnR X Y k).dif k (dfQ X Y k), (tnR X Y k).tab⟩ : Dg) = tnC X Y k 0 := by
 unfold tnC
 rw [show (tnR X Y k).deg = (fun q => if q < k then dgK X Y q else 0) from rfl, show (tnR X Y k).lev = (fun q => if q < k then lvK X Y q else 0) from rfl, show (tnR X Y k).dif = (fun q => if q < k then dfQ X Y q else z8) from rfl, upd_lt, upd_lt, updF_lt]
 congr 1
 funext q r
 show (if q < k ∧ r < (EQ X Y).length then tbQ X Y q r else z8) = _
 by_cases h : q < k ∧ r < (EQ X Y).length
 ·rw [if_pos h, if_pos (.inl h)]
 ·rw [if_neg h, if_neg (by omega)]
theorem tnC_step (X Y : Dg) (k m : Nat) : (⟨X.p, X.s * Y.s, (tnC X Y k m).deg, (tnC X Y k m).lev, (tnC X Y k m).dif, updF (tnC X Y k m).tab k (updF ((tnC X Y k m).tab k) m (tbQ X Y k m))⟩ : Dg) = tnC X Y k (m + 1) := by
 unfold tnC
 congr 1
 funext q r
 unfold updF
 by_cases h : q = k
 ·subst h
  rw [if_pos rfl]
  by_cases h2 : r = m
  ·subst h2; rw [if_pos rfl, if_pos (by omega)]
  ·rw [if_neg h2]
   dsimp only
   by_cases h3 : r < m
   ·rw [if_pos (.inr ⟨rfl, h3⟩), if_pos (.inr ⟨rfl, by omega⟩)]
   ·rw [if_neg (by omega), if_neg (by omega)]
 ·rw [if_neg h]
  dsimp only
  by_cases h3 : q < k ∧ r < (EQ X Y).length
  ·rw [if_pos (.inl h3), if_pos (.inl h3)]
  ·rw [if_neg (by omega), if_neg (by omega)]
theorem tnC_end (X Y : Dg) (k : Nat) : tnC X Y k (EQ X Y).length = tnR X Y (k + 1) := by
 unfold tnC tnR
 congr 1
 funext q r
 by_cases h : q < k + 1 ∧ r < (EQ X Y).length
 ·rw [if_pos h, if_pos (by omega)]
 ·rw [if_neg h, if_neg (by omega)]
noncomputable def fitQ (X Y : Dg) : Bool := @decide (∀ k, k < (EQ X Y).length → dgK X Y k ≤ 5 ∧ lvK X Y k ≤ 5) (Classical.propDecidable _)
theorem fitQ_t {X Y : Dg} : fitQ X Y = true ↔ ∀ k, k < (EQ X Y).length → dgK X Y k ≤ 5 ∧ lvK X Y k ≤ 5 := @decide_eq_true_iff _ (Classical.propDecidable _)
/-- What the product is, and the code beside it. -/
noncomputable def tnP (X Y : Dg) : Dg × Int := if dgB X = true ∧ dgB Y = true then (if X.p = Y.p then (if X.s * Y.s ≤ 8 then (if fitQ X Y = true then (tnR X Y (EQ X Y).length, 0) else (dgZ, 3)) else (dgZ, 3)) else (dgZ, 2)) else (dgZ, 1)
theorem tnP_1 {X Y : Dg} (h : ¬ (dgB X = true ∧ dgB Y = true)) : tnP X Y = (dgZ, 1) := if_neg h
theorem tnP_2 {X Y : Dg} (h : dgB X = true ∧ dgB Y = true) (hp : ¬ X.p = Y.p) : tnP X Y = (dgZ, 2) := by rw [tnP, if_pos h, if_neg hp]
theorem tnP_3 {X Y : Dg} (h : dgB X = true ∧ dgB Y = true) (hp : X.p = Y.p) (hs : ¬ X.s * Y.s ≤ 8) : tnP X Y = (dgZ, 3) := by rw [tnP, if_pos h, if_pos hp, if_neg hs]
theorem tnP_4 {X Y : Dg} (h : dgB X = true ∧ dgB Y = true) (hp : X.p = Y.p) (hs : X.s * Y.s ≤ 8) {k : Nat} (hk : k < (EQ X Y).length) (hc : 5 < dgK X Y k ∨ 5 < lvK X Y k) : tnP X Y = (dgZ, 3) := by
 rw [tnP, if_pos h, if_pos hp, if_pos hs, if_neg]
 intro hf
 have := fitQ_t.1 hf k hk
 omega
theorem tnP_0 {X Y : Dg} (h : dgB X = true ∧ dgB Y = true) (hp : X.p = Y.p) (hs : X.s * Y.s ≤ 8) (hf : ∀ k, k < (EQ X Y).length → dgK X Y k ≤ 5 ∧ lvK X Y k ≤ 5) : tnP X Y = (tnR X Y (EQ X Y).length, 0) := by
 rw [tnP, if_pos h, if_pos hp, if_pos hs, if_pos (fitQ_t.2 hf)]
theorem tm2 (x : Int) : -1 ≤ Int.tmod x 2 ∧ Int.tmod x 2 ≤ 1 := by
 have h1 := Int.tmod_lt_of_pos x (show (0 : Int) < 2 by decide)
 have h2 := Int.lt_tmod_of_pos x (show (0 : Int) < 2 by decide)
 omega
theorem mulQ64 {x y : Int} (hx : 1 ≤ x ∧ x ≤ 8) (hy : 1 ≤ y ∧ y ≤ 8) : 0 ≤ x * y ∧ x * y ≤ 64 := by
 have h1 := Int.mul_nonneg (show 0 ≤ x by omega) (show 0 ≤ y by omega)
 have h2 := Int.mul_le_mul hx.2 hy.2 (by omega) (show (0 : Int) ≤ 8 by omega)
 omega
end Go.Proofs.Ytacajcjibhifmaa
