/-
  What the statement FnExactHomologySizes uses of the walks, part 2.
  Conditions: each theorem's own.
-/
import Derived.Test.YtacajcjibhifmaaG16
import Derived.Test.YtacajcjibhifmaaG17
import Derived.Test.YtacajcjibhifmaaG14
import Derived.Test.YtacajcjibhifmaaG13
import Derived.Test.YtacajcjibhifmaaG15
import Derived.Test.YtacajcjibhifmaaG18
import Derived.Test.YtacajcjibhifmaaG19
import Derived.Test.YtacajcjibhifmaaZHomologySizes1
set_option linter.unusedVariables false
set_option linter.unusedSimpArgs false
namespace Go.Proofs.Ytacajcjibhifmaa
open Go
/-- An algebra, as data. -/
structure Dg where
 p : Int
 s : Int
 deg : Nat → Int
 lev : Nat → Int
 dif : Nat → Nat → Int
 tab : Nat → Nat → Nat → Int
def z8 : Nat → Int := fun _ => 0
def upd (u : Nat → Int) (i : Nat) (x : Int) : Nat → Int := fun k => if k = i then x else u k
/-- Eight bytes. -/
def elA (u : Nat → Int) : Array Value := #[.int .u8 (u 0), .int .u8 (u 1), .int .u8 (u 2), .int .u8 (u 3), .int .u8 (u 4), .int .u8 (u 5), .int .u8 (u 6), .int .u8 (u 7)]
theorem nat8 {i : Nat} (h : i < 8) : i = 0 ∨ i = 1 ∨ i = 2 ∨ i = 3 ∨ i = 4 ∨ i = 5 ∨ i = 6 ∨ i = 7 := by omega
theorem elA_at {u : Nat → Int} {i : Nat} (h : i < 8) : (elA u)[i]? = some (.int .u8 (u i)) := by
 rcases nat8 h with rfl | rfl | rfl | rfl | rfl | rfl | rfl | rfl <;> rfl
theorem elA_upd {u : Nat → Int} {i : Nat} {x : Int} (h : i < 8) : ((elA u).toList.take i ++ (#[Value.int .u8 x] : Array Value).toList ++ (elA u).toList.drop (i + 1)).toArray = elA (upd u i x) := by
 rcases nat8 h with rfl | rfl | rfl | rfl | rfl | rfl | rfl | rfl <;> rfl
theorem elA_all {u v : Nat → Int} : ((elA u).toList.take 0 ++ (elA v).toList ++ (elA u).toList.drop (0 + 8)).toArray = elA v := rfl
theorem elA_one {u : Nat → Int} : ∀ v ∈ (elA u).toList, v.oneCell' = true := by
 intro v hv
 simp only [elA, List.mem_cons, List.not_mem_nil, or_false] at hv
 rcases hv with rfl | rfl | rfl | rfl | rfl | rfl | rfl | rfl <;> rfl
theorem u8_one {x : Int} : ∀ v ∈ (#[Value.int .u8 x] : Array Value).toList, v.oneCell' = true := by
 intro v hv
 simp only [List.mem_cons, List.not_mem_nil, or_false] at hv
 subst hv; rfl
theorem elA_sz (u : Nat → Int) : (elA u).size = 8 := rfl
/-- Whether the eight numbers are the same. -/
noncomputable def eqE (u v : Nat → Int) : Bool := @decide (∀ i, i < 8 → u i = v i) (Classical.propDecidable _)
theorem eqE_iff {u v : Nat → Int} : eqE u v = true ↔ ∀ i, i < 8 → u i = v i := @decide_eq_true_iff _ (Classical.propDecidable _)
theorem intsV_el (u : Nat → Int) : intsV .u8 (elA u) = some [u 0, u 1, u 2, u 3, u 4, u 5, u 6, u 7] := rfl
theorem eqE_list (u v : Nat → Int) : ([u 0, u 1, u 2, u 3, u 4, u 5, u 6, u 7] == [v 0, v 1, v 2, v 3, v 4, v 5, v 6, v 7]) = eqE u v := by
 rw [Bool.eq_iff_iff, eqE_iff, beq_iff_eq]
 constructor
 ·intro h
  simp only [List.cons.injEq, and_true] at h
  intro i hi
  rcases nat8 hi with rfl | rfl | rfl | rfl | rfl | rfl | rfl | rfl <;> simp [h]
 ·intro h
  simp only [List.cons.injEq, and_true]
  exact ⟨h 0 (by omega), h 1 (by omega), h 2 (by omega), h 3 (by omega), h 4 (by omega), h 5 (by omega), h 6 (by omega), h 7 (by omega)⟩
theorem bin_arr {T : Tab} {t e : TypeId} (ht : (T t).map (·.desc) = some (.array 8 e)) (he : (T e).map (fun y => (y.desc, y.size)) = some (.int .u8, 1)) (u v : Nat → Int) : binV T .eql t (.agg (elA u)) (.agg (elA v)) = some (.bool (eqE u v)) ∧ binV T .neq t (.agg (elA u)) (.agg (elA v)) = some (.bool (!eqE u v)) := by
 obtain ⟨x, hx, hd⟩ := Option.map_eq_some_iff.1 ht
 obtain ⟨y, hy, hs⟩ := Option.map_eq_some_iff.1 he
 simp only [Prod.mk.injEq] at hs
 constructor <;> simp [binV, hx, hd, hy, hs.1, hs.2, intsV_el, ← eqE_list]
theorem eq_el (u v : Nat → Int) : binV TT .eql 30 (.agg (elA u)) (.agg (elA v)) = some (.bool (eqE u v)) := (bin_arr (e := 5) (by kernel_rfl) (by kernel_rfl) u v).1
theorem ne_el (u v : Nat → Int) : binV TT .neq 30 (.agg (elA u)) (.agg (elA v)) = some (.bool (!eqE u v)) := (bin_arr (e := 5) (by kernel_rfl) (by kernel_rfl) u v).2
theorem build_el : buildV TT 30 [] = some (.agg (elA z8)) := by kernel_rfl
/-- The cell at a place of an algebra. -/
def dgF (X : Dg) (o : Nat) : Value := if o = 0 then .int .i64 X.p else if o = 1 then .int .i64 X.s else if o < 10 then .int .i64 (X.deg (o - 2)) else if o < 18 then .int .i64 (X.lev (o - 10)) else if o < 82 then .int .u8 (X.dif ((o - 18) / 8) ((o - 18) % 8)) else .int .u8 (X.tab ((o - 82) / 64) ((o - 82) / 8 % 8) ((o - 82) % 8))
def dgA (X : Dg) : Array Value := Array.ofFn (n := 594) fun i => dgF X i
theorem dgA_size (X : Dg) : (dgA X).size = 594 := Array.size_ofFn
theorem dgA_at {X : Dg} {o : Nat} (h : o < 594) : (dgA X)[o]? = some (dgF X o) := by
 rw [dgA, Array.getElem?_ofFn, dif_pos h]
theorem dgF_deg {X : Dg} {i : Nat} (h : i < 8) : dgF X (2 + i) = .int .i64 (X.deg i) := by
 unfold dgF
 rw [if_neg (by omega), if_neg (by omega), if_pos (by omega), show 2 + i - 2 = i by omega]
theorem dgF_lev {X : Dg} {i : Nat} (h : i < 8) : dgF X (10 + i) = .int .i64 (X.lev i) := by
 unfold dgF
 rw [if_neg (by omega), if_neg (by omega), if_neg (by omega), if_pos (by omega), show 10 + i - 10 = i by omega]
theorem dgF_dif {X : Dg} {i k : Nat} (h : i < 8) (hk : k < 8) : dgF X (18 + i * 8 + k) = .int .u8 (X.dif i k) := by
 unfold dgF
 rw [if_neg (by omega), if_neg (by omega), if_neg (by omega), if_neg (by omega), if_pos (by omega), show (18 + i * 8 + k - 18) / 8 = i by omega, show (18 + i * 8 + k - 18) % 8 = k by omega]
theorem dgF_tab {X : Dg} {i j k : Nat} (h : i < 8) (hj : j < 8) (hk : k < 8) : dgF X (82 + i * 64 + j * 8 + k) = .int .u8 (X.tab i j k) := by
 unfold dgF
 rw [if_neg (by omega), if_neg (by omega), if_neg (by omega), if_neg (by omega), if_neg (by omega), show (82 + i * 64 + j * 8 + k - 82) / 64 = i by omega, show (82 + i * 64 + j * 8 + k - 82) / 8 % 8 = j by omega, show (82 + i * 64 + j * 8 + k - 82) % 8 = k by omega]
section
variable {h : Heap} {b : Nat} {cs : Array Value} {t : TypeId} {u : Nat → Int} {X : Dg}
theorem hcells_arr (hb : BoxAt h b cs t) (f : Nat → Value) (o : Nat) : ∀ (n i : Nat), (∀ q, i ≤ q → q < i + n → cs[o + q]? = some (f q)) → hcells h ⟨b, o, none⟩ i n = some ((List.range' i n).map f)
 | 0, i, _ => rfl
 | n + 1, i, hq => by
  rw [hcells, addr_add, hb.cell, hq i (by omega) (by omega), Option.bind_some, hcells_arr hb f o n (i + 1) (fun q h1 h2 => hq q (by omega) (by omega))]
  rfl
theorem BoxAt.elC (hb : BoxAt h b (elA u) t) {i : Nat} (hi : i < 8) : hcell h ⟨b, i, none⟩ = some (.int .u8 (u i)) := by rw [hb.cell, elA_at hi]
theorem BoxAt.elL (hb : BoxAt h b (elA u) t) : loadV TT h 30 ⟨b, 0, none⟩ = some (.agg (elA u)) := by
 rw [ld30, hcells_arr hb (fun q => .int .u8 (u q)) 0 8 0 (fun q _ h2 => by rw [Nat.zero_add]; exact elA_at (by omega))]
 rfl
theorem el_at (hb : BoxAt h b (dgA X) t) {o : Nat} {v : Nat → Int} (ho : o + 8 ≤ 594) (hv : ∀ q, q < 8 → dgF X (o + q) = .int .u8 (v q)) : loadV TT h 30 ⟨b, o, none⟩ = some (.agg (elA v)) := by
 rw [ld30, hcells_arr hb (fun q => .int .u8 (v q)) o 8 0 (fun q _ h2 => by rw [dgA_at (by omega), hv q (by omega)])]
 rfl
theorem BoxAt.dgP (hb : BoxAt h b (dgA X) t) : hcell h ⟨b, 0, none⟩ = some (.int .i64 X.p) := by rw [hb.cell, dgA_at (by omega)]; rfl
theorem BoxAt.dgS (hb : BoxAt h b (dgA X) t) : hcell h ⟨b, 1, none⟩ = some (.int .i64 X.s) := by rw [hb.cell, dgA_at (by omega)]; rfl
theorem BoxAt.dgDeg (hb : BoxAt h b (dgA X) t) {i : Nat} (hi : i < 8) : hcell h ⟨b, 2 + i, none⟩ = some (.int .i64 (X.deg i)) := by rw [hb.cell, dgA_at (by omega), dgF_deg hi]
theorem BoxAt.dgLev (hb : BoxAt h b (dgA X) t) {i : Nat} (hi : i < 8) : hcell h ⟨b, 10 + i, none⟩ = some (.int .i64 (X.lev i)) := by rw [hb.cell, dgA_at (by omega), dgF_lev hi]
theorem BoxAt.dgDeg0 (hb : BoxAt h b (dgA X) t) : hcell h ⟨b, 2, none⟩ = some (.int .i64 (X.deg 0)) := hb.dgDeg (i := 0) (by omega)
theorem BoxAt.dgLev0 (hb : BoxAt h b (dgA X) t) : hcell h ⟨b, 10, none⟩ = some (.int .i64 (X.lev 0)) := hb.dgLev (i := 0) (by omega)
theorem BoxAt.dgDifL (hb : BoxAt h b (dgA X) t) {i : Nat} (hi : i < 8) : loadV TT h 30 ⟨b, 18 + i * 8, none⟩ = some (.agg (elA (X.dif i))) := el_at hb (by omega) fun q hq => dgF_dif hi hq
theorem BoxAt.dgTabL (hb : BoxAt h b (dgA X) t) {i j : Nat} (hi : i < 8) (hj : j < 8) : loadV TT h 30 ⟨b, 82 + i * 64 + j * 8, none⟩ = some (.agg (elA (X.tab i j))) := el_at hb (by omega) fun q hq => dgF_tab hi hj hq
theorem BoxAt.dgTabL0 (hb : BoxAt h b (dgA X) t) {j : Nat} (hj : j < 8) : loadV TT h 30 ⟨b, 82 + j * 8, none⟩ = some (.agg (elA (X.tab 0 j))) := hb.dgTabL (i := 0) (by omega) hj
theorem BoxAt.dgTabL1 (hb : BoxAt h b (dgA X) t) {i : Nat} (hi : i < 8) : loadV TT h 30 ⟨b, 82 + i * 64, none⟩ = some (.agg (elA (X.tab i 0))) := hb.dgTabL (j := 0) hi (by omega)
theorem BoxAt.dgTabL1' (hb : BoxAt h b (dgA X) t) {i : Nat} (hi : i < 8) : loadV TT h 30 ⟨b, 82 + i * 64 + 0, none⟩ = some (.agg (elA (X.tab i 0))) := hb.dgTabL (j := 0) hi (by omega)
theorem BoxAt.dgDifB (hb : BoxAt h b (dgA X) t) {i k : Nat} (hi : i < 8) (hk : k < 8) : hcell h ⟨b, 18 + i * 8 + k, none⟩ = some (.int .u8 (X.dif i k)) := by rw [hb.cell, dgA_at (by omega), dgF_dif hi hk]
theorem BoxAt.dgTabB (hb : BoxAt h b (dgA X) t) {i j k : Nat} (hi : i < 8) (hj : j < 8) (hk : k < 8) : hcell h ⟨b, 82 + i * 64 + j * 8 + k, none⟩ = some (.int .u8 (X.tab i j k)) := by rw [hb.cell, dgA_at (by omega), dgF_tab hi hj hk]
theorem BoxAt.dgL (hb : BoxAt h b (dgA X) t) : loadV TT h 34 ⟨b, 0, none⟩ = some (.agg (dgA X)) := by
 rw [ld34, hcells_arr hb (dgF X) 0 594 0 (fun q _ h2 => by rw [Nat.zero_add]; exact dgA_at (by omega)), Option.map_some]
 refine congrArg (fun z => some (Value.agg z)) (Array.ext_getElem? fun q => ?_)
 rw [dgA, Array.getElem?_ofFn, List.getElem?_toArray, List.getElem?_map]
 by_cases hq : q < 594
 ·rw [dif_pos hq, List.getElem?_range' hq, Option.map_some]
  simp
 ·rw [dif_neg hq, List.getElem?_eq_none (by rw [List.length_range']; omega)]; rfl
end


theorem BoxAt.dgs {h : Heap} {b : Nat} {t : TypeId} {X : Dg} (hb : BoxAt h b (dgA X) t) : (loadV TT h 34 ⟨b, 0, none⟩ = some (.agg (dgA X))) ∧ (hcell h ⟨b, 0, none⟩ = some (.int .i64 X.p)) ∧ (hcell h ⟨b, 1, none⟩ = some (.int .i64 X.s)) ∧ (∀ {i : Nat} (hi : i < 8), hcell h ⟨b, 2 + i, none⟩ = some (.int .i64 (X.deg i))) ∧ (∀ {i : Nat} (hi : i < 8), hcell h ⟨b, 10 + i, none⟩ = some (.int .i64 (X.lev i))) ∧ (hcell h ⟨b, 2, none⟩ = some (.int .i64 (X.deg 0))) ∧ (hcell h ⟨b, 10, none⟩ = some (.int .i64 (X.lev 0))) ∧ (∀ {i : Nat} (hi : i < 8), loadV TT h 30 ⟨b, 18 + i * 8, none⟩ = some (.agg (elA (X.dif i)))) ∧ (∀ {i j : Nat} (hi : i < 8) (hj : j < 8), loadV TT h 30 ⟨b, 82 + i * 64 + j * 8, none⟩ = some (.agg (elA (X.tab i j)))) ∧ (∀ {j : Nat} (hj : j < 8), loadV TT h 30 ⟨b, 82 + j * 8, none⟩ = some (.agg (elA (X.tab 0 j)))) ∧ (∀ {i : Nat} (hi : i < 8), loadV TT h 30 ⟨b, 82 + i * 64, none⟩ = some (.agg (elA (X.tab i 0)))) ∧ (∀ {i : Nat} (hi : i < 8), loadV TT h 30 ⟨b, 82 + i * 64 + 0, none⟩ = some (.agg (elA (X.tab i 0)))) ∧ (∀ {i k : Nat} (hi : i < 8) (hk : k < 8), hcell h ⟨b, 18 + i * 8 + k, none⟩ = some (.int .u8 (X.dif i k))) ∧ (∀ {i j k : Nat} (hi : i < 8) (hj : j < 8) (hk : k < 8), hcell h ⟨b, 82 + i * 64 + j * 8 + k, none⟩ = some (.int .u8 (X.tab i j k))) := ⟨BoxAt.dgL hb, BoxAt.dgP hb, BoxAt.dgS hb, BoxAt.dgDeg hb, BoxAt.dgLev hb, BoxAt.dgDeg0 hb, BoxAt.dgLev0 hb, BoxAt.dgDifL hb, BoxAt.dgTabL hb, BoxAt.dgTabL0 hb, BoxAt.dgTabL1 hb, BoxAt.dgTabL1' hb, BoxAt.dgDifB hb, BoxAt.dgTabB hb⟩
end Go.Proofs.Ytacajcjibhifmaa

namespace Go.Proofs.Ytacajcjibhifmaa
open Go
theorem wrap_u8 {x : Int} (h : 0 ≤ x ∧ x ≤ 255) : IntKind.u8.wrap x = x := by
 simp [IntKind.wrap, IntKind.signed, IntKind.bits]
 omega
theorem cv_u8 {k : IntKind} {x : Int} : convV TT 5 2 (.int k x) = some (.int .i64 (IntKind.i64.wrap x)) := by kernel_rfl
theorem cv_i64 {k : IntKind} {x : Int} : convV TT 2 5 (.int k x) = some (.int .u8 (IntKind.u8.wrap x)) := by kernel_rfl
/-- Bytes. -/
def By (u : Nat → Int) : Prop := ∀ i, 0 ≤ u i ∧ u i ≤ 255
theorem By.z8 : By z8 := fun _ => ⟨Int.le_refl _, by show (0 : Int) ≤ 255; omega⟩
def isEl (p s : Int) (u : Nat → Int) : Prop := ∀ i, i < 8 → u i < p ∧ (s ≤ (i : Int) → u i = 0)
noncomputable def isElB (p s : Int) (u : Nat → Int) : Bool := @decide (isEl p s u) (Classical.propDecidable _)
theorem isElB_t {p s : Int} {u : Nat → Int} : isElB p s u = true ↔ isEl p s u := @decide_eq_true_iff _ (Classical.propDecidable _)
theorem isElB_y {p s : Int} {u : Nat → Int} (h : isEl p s u) : true = isElB p s u := (isElB_t.2 h).symm
theorem isElB_n {p s : Int} {u : Nat → Int} (h : ¬ isEl p s u) : false = isElB p s u := by
 cases e : isElB p s u
 ·rfl
 ·exact absurd (isElB_t.1 e) h
def e8 (i : Nat) : Nat → Int := upd z8 i 1
theorem e8_by (i : Nat) : By (e8 i) := fun k => by unfold e8 upd z8; split <;> omega
def plusN (p : Int) (u v : Nat → Int) (k : Int) (n : Nat) : Nat → Int := fun i => if i < n then (u i + k * v i) % p else u i
theorem plusN_0 (p : Int) (u v : Nat → Int) (k : Int) : plusN p u v k 0 = u := by funext i; simp [plusN]
theorem plusN_at (p : Int) (u v : Nat → Int) (k : Int) (n : Nat) : plusN p u v k n n = u n := by simp [plusN]
theorem plusN_step (p : Int) (u v : Nat → Int) (k : Int) (n : Nat) : upd (plusN p u v k n) n ((u n + k * v n) % p) = plusN p u v k (n + 1) := by
 funext i
 unfold upd plusN
 by_cases h : i = n
 ·subst h; rw [if_pos rfl, if_pos (by omega)]
 ·rw [if_neg h]
  by_cases h2 : i < n
  ·rw [if_pos h2, if_pos (by omega)]
  ·rw [if_neg h2, if_neg (by omega)]
theorem plusN_by {p : Int} {u v : Nat → Int} {k : Int} {n : Nat} (hp : 0 < p ∧ p ≤ 7) (hu : By u) : By (plusN p u v k n) := fun i => by
 unfold plusN
 split
 ·have h1 := Int.emod_nonneg (u i + k * v i) (show p ≠ 0 by omega)
  have h2 := Int.emod_lt_of_pos (u i + k * v i) hp.1
  omega
 ·exact hu i
theorem km_ok {p k : Int} (hp : 0 < p) : Int.tmod (Int.tmod k p + p) p = k % p := by
 have h1 : k.tmod p = k % p - ↑(if 0 ≤ k ∨ p ∣ k then 0 else p.natAbs) := Int.tmod_eq_emod
 have h2 := Int.emod_nonneg k (show p ≠ 0 by omega)
 have h3 := Int.emod_lt_of_pos k hp
 rw [h1]
 split
 ·rw [show ((0 : Nat) : Int) = 0 from rfl, Int.sub_zero, Int.tmod_eq_emod_of_nonneg (by omega), Int.add_emod_right, Int.emod_emod_of_dvd _ (Int.dvd_refl p)]
 ·have e : (p.natAbs : Int) = p := by omega
  rw [e, Int.sub_add_cancel, Int.tmod_eq_emod_of_nonneg h2, Int.emod_emod_of_dvd _ (Int.dvd_refl p)]
theorem km_step {p k x y : Int} (hp : 0 < p) (hx : 0 ≤ x) (hy : 0 ≤ y) : Int.tmod (x + (k % p) * y) p = (x + k * y) % p := by
 have h2 := Int.emod_nonneg k (show p ≠ 0 by omega)
 have h3 := Int.mul_nonneg h2 hy
 rw [Int.tmod_eq_emod_of_nonneg (by omega), Int.add_emod, Int.mul_emod, Int.emod_emod_of_dvd _ (Int.dvd_refl p), ← Int.mul_emod, ← Int.add_emod]
theorem km_bnd {p k y : Int} (hp : 0 < p ∧ p ≤ 7) (hy : 0 ≤ y ∧ y ≤ 255) : 0 ≤ (k % p) * y ∧ (k % p) * y ≤ 1530 := by
 have h2 := Int.emod_nonneg k (show p ≠ 0 by omega)
 have h3 := Int.emod_lt_of_pos k hp.1
 have h4 := Int.mul_nonneg h2 hy.1
 have h5 := Int.mul_le_mul (show k % p ≤ 6 by omega) hy.2 hy.1 (by omega)
 omega

set_option maxRecDepth 100000 in
theorem iEl_ok (X : Dg) (u : Nat → Int) (h : Heap)  (hu : By u) : CallA Try.prog 48 #[.agg (dgA X), .agg (elA u)] h fun v' h' => v' = .bool (isElB X.p X.s u) ∧ Ext h h' := by
 refine callA_intro TTok (args := [_, _]) Try.func48 (by kernel_rfl) rfl 28 rfl (by simp) [.tmp 4] rfl ?_
 simp only [idxs, Nat.reduceAdd]
 refine den_seq ?_
 refine den_region TTok ?_
 intro K hK
 simp -implicitDefEqProofs (disch := first | decide | assumption | omega) only [go_sem, wrap_id, cv_u8, cv_i64, Nat.zero_add, wrap_u8, eq_el, ne_el, build_el]
 refine op_box (cs := dgA X) rfl ?_
 intro h0_0 e0_0 hb0_0 z0_0
 have := Ext.size e0_0
 have eB := e0_0
 have hfhb0_0 : Fresh h.size [h.size] := Fresh.one _
 have hlhb0_0 := one_lt (show h.size < h0_0.size by omega)
 try simp -implicitDefEqProofs (disch := first | decide | assumption | omega) only [go_sem, wrap_id, cv_u8, cv_i64, Nat.zero_add, wrap_u8, eq_el, ne_el, build_el]
 refine op_box (cs := elA u) rfl ?_
 intro h0_1 e0_1 hb0_1 z0_1
 replace hb0_0 := BoxAt.ext hb0_0 e0_1
 have := Ext.size e0_1
 replace eB := Ext.trans eB e0_1
 have hfhb0_1 : Fresh h0_0.size [h0_0.size] := Fresh.one _
 have hlhb0_1 := one_lt (show h0_0.size < h0_1.size by omega)
 try simp -implicitDefEqProofs (disch := first | decide | assumption | omega) only [go_sem, wrap_id, cv_u8, cv_i64, Nat.zero_add, wrap_u8, eq_el, ne_el, build_el]
 refine hK _ _ ?_
 clear hK K
 refine den_seq ?_
 refine den_seq ?_
 refine den_region TTok ?_
 intro K hK
 simp -implicitDefEqProofs (disch := first | decide | assumption | omega) only [go_sem, BoxAt.elC hb0_1, BoxAt.elL hb0_1, wrap_id, cv_u8, cv_i64, Nat.zero_add, wrap_u8, eq_el, ne_el, build_el]
 refine hK _ _ ?_
 clear hK K
 refine den_block ?_
 refine den_sel [8, 2, 7] ?_
 intro env_1
 simp only [go_sem]
 refine den_loopS (σ := Nat) (fun st_ => [(8, .int .i64 (st_ : Int))]) (fun st_ H => (st_ ≤ 8) ∧ (∀ a, a < st_ → u a < X.p ∧ (X.s ≤ (a : Int) → u a = 0)) ∧ (Ext h0_1 H)) (fun st_ => 8 - st_) 0 ?_ ?_
 ·exact ⟨by omega, fun a h => by omega, Ext.refl _⟩
 ·rintro i h4 ee3 ⟨hi, hz, cL2⟩
  replace hb0_0 := BoxAt.ext hb0_0 cL2
  replace hb0_1 := BoxAt.ext hb0_1 cL2
  have := Ext.size cL2
  replace eB := Ext.trans eB cL2
  simp only [List.cons_append, List.nil_append]
  have hui := hu i
  refine den_seq ?_
  refine den_region TTok ?_
  intro K hK
  simp -implicitDefEqProofs (disch := first | decide | assumption | omega) only [go_sem, wrap_id, cv_u8, cv_i64, Nat.zero_add, wrap_u8, eq_el, ne_el, build_el]
  refine hK _ _ ?_
  clear hK K
  refine den_seq ?_
  refine den_cond rfl (fun c0 => ?_) (fun c0 => ?_)
  ·try simp only [ddA, Bool.or_eq_false_iff, Bool.and_eq_false_iff] at c0
   refine den_skip ?_
   refine den_seq ?_
   refine den_block ?_
   refine den_seq ?_
   refine den_region TTok ?_
   intro K hK
   simp -implicitDefEqProofs (disch := first | decide | assumption | omega) only [go_sem, elA_at, ix30, wrap_id, cv_u8, cv_i64, Nat.zero_add, wrap_u8, eq_el, ne_el, build_el]
   refine hK _ _ ?_
   clear hK K
   refine den_seq ?_
   refine den_mergeH [(26, .bool (((decide (X.p ≤ (u i))) || ((decide (X.s ≤ (i : Int))) && ((u i) != (0 : Int))))))] [2, 7, 8] ?_ ?_
    -- a way
   ·refine den_region TTok ?_
    intro K hK
    simp -implicitDefEqProofs (disch := first | decide | assumption | (simp (disch := decide) only [gvA, eq_self, if_true, if_false, Bool.false_eq_true]; done) | omega) only [go_sem, T2, T5, fa34_0, ld2, BoxAt.dgs hb0_0, wrap_id, cv_u8, cv_i64, Nat.zero_add, wrap_u8, eq_el, ne_el, build_el]
    refine opsP_F (by simp (disch := decide) only [gvA, eq_self, if_true, if_false, Bool.false_eq_true]; rfl) (fun g5 => ?_) (fun g5 => ?_)
    ·try simp -implicitDefEqProofs (disch := first | decide | assumption | (simp (disch := decide) only [gvA, eq_self, if_true, if_false, Bool.false_eq_true, g5]; done) | omega) only [go_sem, fa34_1, ld2, BoxAt.dgs hb0_0, wrap_id, cv_u8, cv_i64, Nat.zero_add, wrap_u8, eq_el, ne_el, build_el, g5, eq_self, if_true, if_false, Bool.false_eq_true]
     refine opsP_T (by simp (disch := decide) only [gvA, eq_self, if_true, if_false, Bool.false_eq_true, g5]; rfl) (fun g6 => ?_) (fun g6 => ?_)
     ·try simp -implicitDefEqProofs (disch := first | decide | assumption | (simp (disch := decide) only [gvA, eq_self, if_true, if_false, Bool.false_eq_true, g5, g6]; done) | omega) only [go_sem, wrap_id, cv_u8, cv_i64, Nat.zero_add, wrap_u8, eq_el, ne_el, build_el, g5, g6, eq_self, if_true, if_false, Bool.false_eq_true]
      refine hK _ _ ?_
      clear hK K
      refine den_stop ?_
      refine ⟨?_, rfl⟩
      first | (simp (disch := decide) only [go_sem, g5, g6, eq_self, Bool.true_and, Bool.and_true, Bool.false_and, Bool.and_false, Bool.true_or, Bool.or_true, Bool.false_or, Bool.or_false, if_true, if_false, Bool.false_eq_true]; done) | simp [HasL, sel, puts_at, g5, g6]
     ·try simp -implicitDefEqProofs (disch := first | decide | assumption | (simp (disch := decide) only [gvA, eq_self, if_true, if_false, Bool.false_eq_true, g5, g6]; done) | omega) only [go_sem, wrap_id, cv_u8, cv_i64, Nat.zero_add, wrap_u8, eq_el, ne_el, build_el, g5, g6, eq_self, if_true, if_false, Bool.false_eq_true]
      refine hK _ _ ?_
      clear hK K
      refine den_stop ?_
      refine ⟨?_, rfl⟩
      first | (simp (disch := decide) only [go_sem, g5, g6, eq_self, Bool.true_and, Bool.and_true, Bool.false_and, Bool.and_false, Bool.true_or, Bool.or_true, Bool.false_or, Bool.or_false, if_true, if_false, Bool.false_eq_true]; done) | simp [HasL, sel, puts_at, g5, g6]
    ·try simp -implicitDefEqProofs (disch := first | decide | assumption | (simp (disch := decide) only [gvA, eq_self, if_true, if_false, Bool.false_eq_true, g5]; done) | omega) only [go_sem, wrap_id, cv_u8, cv_i64, Nat.zero_add, wrap_u8, eq_el, ne_el, build_el, g5, eq_self, if_true, if_false, Bool.false_eq_true]
     try simp -implicitDefEqProofs (disch := first | decide | assumption | (simp (disch := decide) only [gvA, eq_self, if_true, if_false, Bool.false_eq_true, g5]; done) | omega) only [go_sem, wrap_id, cv_u8, cv_i64, Nat.zero_add, wrap_u8, eq_el, ne_el, build_el, g5, eq_self, if_true, if_false, Bool.false_eq_true]
     refine hK _ _ ?_
     clear hK K
     refine den_stop ?_
     refine ⟨?_, rfl⟩
     first | (simp (disch := decide) only [go_sem, g5, eq_self, Bool.true_and, Bool.and_true, Bool.false_and, Bool.and_false, Bool.true_or, Bool.or_true, Bool.false_or, Bool.or_false, if_true, if_false, Bool.false_eq_true]; done) | simp [HasL, sel, puts_at, g5]
   intro en7
   simp (disch := decide) only [go_sem]
   refine den_cond rfl (fun c1 => ?_) (fun c1 => ?_)
   ·try simp only [ddA, Bool.or_eq_false_iff, Bool.and_eq_false_iff] at c1
    refine den_seq ?_
    refine den_region TTok ?_
    intro K hK
    simp -implicitDefEqProofs (disch := first | decide | assumption | omega) only [go_sem, wrap_id, cv_u8, cv_i64, Nat.zero_add, wrap_u8, eq_el, ne_el, build_el]
    refine hK _ _ ?_
    clear hK K
    refine den_ret ?_
    simp (disch := decide) only [resP_1, puts_same, puts_ne]
    exact ⟨vbool (isElB_n (fun hh => by have h1 := hh i (by omega); have h2 := c1; omega)), eB⟩
   ·try simp only [ddA, Bool.or_eq_false_iff, Bool.and_eq_false_iff] at c1
    refine den_skip ?_
    refine den_blk ?_
    refine den_region TTok ?_
    intro K hK
    simp -implicitDefEqProofs (disch := first | decide | assumption | omega) only [go_sem, wrap_id, cv_u8, cv_i64, Nat.zero_add, wrap_u8, eq_el, ne_el, build_el]
    refine hK _ _ ?_
    clear hK K
    refine den_stop ?_
    exact ⟨i + 1, by simp [HasL, puts_at], ⟨by first | omega | (dsimp only; omega), fun a ha => by
 by_cases hai : a < i
 ·exact hz a hai
 ·rw [show a = i by omega]; have h1 := c1; exact ⟨by omega, fun h2 => by omega⟩, cL2⟩, by first | omega | (dsimp only; omega)⟩
  ·try simp only [ddA, Bool.or_eq_false_iff, Bool.and_eq_false_iff] at c0
   refine den_exit ?_
   refine denX_code ?_
   refine denX_stop ?_
   refine denX_hit ?_
   refine den_seq ?_
   refine den_region TTok ?_
   intro K hK
   simp -implicitDefEqProofs (disch := first | decide | assumption | omega) only [go_sem, wrap_id, cv_u8, cv_i64, Nat.zero_add, wrap_u8, eq_el, ne_el, build_el]
   refine hK _ _ ?_
   clear hK K
   refine den_ret ?_
   simp (disch := decide) only [resP_1, puts_same, puts_ne]
   exact ⟨vbool (isElB_y (fun a ha => hz a (by omega))), eB⟩

set_option maxRecDepth 100000 in
theorem iBas_ok (X : Dg) (n : Int) (h : Heap)  (hn : 0 ≤ n ∧ n < 8) : CallA Try.prog 52 #[.agg (dgA X), .int .i64 n] h fun v' h' => v' = .agg (elA (e8 n.toNat)) ∧ Ext h h' := by
 refine callA_intro TTok (args := [_, _]) Try.func52 (by kernel_rfl) rfl 10 rfl (by simp) [.cell 4 30] rfl ?_
 simp only [idxs, Nat.reduceAdd]
 refine den_seq ?_
 refine den_region TTok ?_
 intro K hK
 simp -implicitDefEqProofs (disch := first | decide | assumption | omega) only [go_sem, wrap_id, cv_u8, cv_i64, Nat.zero_add, wrap_u8, eq_el, ne_el, build_el]
 refine op_box (cs := dgA X) rfl ?_
 intro h0_0 e0_0 hb0_0 z0_0
 have := Ext.size e0_0
 have eB := e0_0
 have hfhb0_0 : Fresh h.size [h.size] := Fresh.one _
 have hlhb0_0 := one_lt (show h.size < h0_0.size by omega)
 try simp -implicitDefEqProofs (disch := first | decide | assumption | omega) only [go_sem, wrap_id, cv_u8, cv_i64, Nat.zero_add, wrap_u8, eq_el, ne_el, build_el]
 refine op_alloc (cs := elA z8) (by kernel_rfl) ?_
 intro h0_1 e0_1 hb0_1 z0_1
 replace hb0_0 := BoxAt.ext hb0_0 e0_1
 have := Ext.size e0_1
 replace eB := Ext.trans eB e0_1
 have hfhb0_1 : Fresh h0_0.size [h0_0.size] := Fresh.one _
 have hlhb0_1 := one_lt (show h0_0.size < h0_1.size by omega)
 try simp -implicitDefEqProofs (disch := first | decide | assumption | omega) only [go_sem, BoxAt.elC hb0_1, BoxAt.elL hb0_1, wrap_id, cv_u8, cv_i64, Nat.zero_add, wrap_u8, eq_el, ne_el, build_el]
 refine hK _ _ ?_
 clear hK K
 refine den_seq ?_
 refine den_region TTok ?_
 intro K hK
 simp -implicitDefEqProofs (disch := first | decide | assumption | omega) only [go_sem, wrap_id, cv_u8, cv_i64, Nat.zero_add, wrap_u8, eq_el, ne_el, build_el]
 refine op_alloc (cs := elA z8) (by kernel_rfl) ?_
 intro h1_1 e1_1 hb1_1 z1_1
 replace hb0_1 := BoxAt.ext hb0_1 e1_1
 have := Ext.size e1_1
 replace eB := Ext.trans eB e1_1
 have hfhb1_1 : Fresh h0_1.size [h0_1.size] := Fresh.one _
 have hlhb1_1 := one_lt (show h0_1.size < h1_1.size by omega)
 try simp -implicitDefEqProofs (disch := first | decide | assumption | omega) only [go_sem, BoxAt.elC hb0_1, BoxAt.elL hb0_1, wrap_id, cv_u8, cv_i64, Nat.zero_add, wrap_u8, eq_el, ne_el, build_el]
 refine op_storeB (o := 0) (cs' := elA z8) st30 hb1_1 rfl rfl (elA_sz _) (by rw [elA_sz]; decide) elA_one elA_all ?_
 intro h1_2 hb1_1 c1_2
 replace hb0_1 := BoxAt.chgA hb0_1 c1_2 (apart_lt hlhb0_1 hfhb1_1 (by omega))
 have := c1_2.size
 replace eB := Ext.then eB c1_2 (ge_of hfhb1_1 (by omega))
 try simp -implicitDefEqProofs (disch := first | decide | assumption | omega) only [go_sem, BoxAt.elC hb0_1, BoxAt.elL hb0_1, wrap_id, cv_u8, cv_i64, Nat.zero_add, wrap_u8, eq_el, ne_el, build_el]
 refine hK _ _ ?_
 clear hK K
 refine den_seq ?_
 refine den_region TTok ?_
 intro K hK
 simp -implicitDefEqProofs (disch := first | decide | assumption | omega) only [go_sem, Int.toNat_zero, ia30, BoxAt.elC hb1_1, BoxAt.elL hb1_1, wrap_id, cv_u8, cv_i64, Nat.zero_add, wrap_u8, eq_el, ne_el, build_el]
 refine op_storeB (o := (n).toNat) (vs := #[.int .u8 (1 : Int)]) (cs' := elA (upd z8 (n).toNat (1 : Int))) st5 hb1_1 rfl rfl rfl (by show _ + 1 ≤ 8; omega) u8_one (elA_upd (by omega)) ?_
 intro h2_2 hb1_1 c2_2
 replace hb0_1 := BoxAt.chgA hb0_1 c2_2 (apart_lt hlhb0_1 hfhb1_1 (by omega))
 have := c2_2.size
 replace eB := Ext.then eB c2_2 (ge_of hfhb1_1 (by omega))
 try simp -implicitDefEqProofs (disch := first | decide | assumption | omega) only [go_sem, BoxAt.elC hb0_1, BoxAt.elL hb0_1, wrap_id, cv_u8, cv_i64, Nat.zero_add, wrap_u8, eq_el, ne_el, build_el]
 refine hK _ _ ?_
 clear hK K
 refine den_seq ?_
 refine den_region TTok ?_
 intro K hK
 simp -implicitDefEqProofs (disch := first | decide | assumption | omega) only [go_sem, BoxAt.elC hb1_1, BoxAt.elL hb1_1, wrap_id, cv_u8, cv_i64, Nat.zero_add, wrap_u8, eq_el, ne_el, build_el]
 refine op_storeB (o := 0) (cs' := elA (upd z8 (n).toNat (1 : Int))) st30 hb0_1 rfl rfl (elA_sz _) (by rw [elA_sz]; decide) elA_one elA_all ?_
 intro h3_1 hb0_1 c3_1
 replace hb1_1 := BoxAt.chgA hb1_1 c3_1 (apart_gt hfhb1_1 hlhb0_1 (by omega))
 have := c3_1.size
 replace eB := Ext.then eB c3_1 (ge_of hfhb0_1 (by omega))
 try simp -implicitDefEqProofs (disch := first | decide | assumption | omega) only [go_sem, BoxAt.elC hb0_1, BoxAt.elL hb0_1, wrap_id, cv_u8, cv_i64, Nat.zero_add, wrap_u8, eq_el, ne_el, build_el]
 refine hK _ _ ?_
 clear hK K
 refine den_ret ?_
 simp -implicitDefEqProofs (disch := first | decide | assumption | omega) only [go_sem, BoxAt.elC hb0_1, BoxAt.elL hb0_1, wrap_id, cv_u8, cv_i64, Nat.zero_add, wrap_u8, eq_el, ne_el, build_el, resP_c1, ld30]
 exact ⟨by first | rfl | trivial, eB⟩

set_option maxRecDepth 100000 in
set_option maxHeartbeats 4000000 in
theorem iPls_ok (X : Dg) (u : Nat → Int) (v : Nat → Int) (k : Int) (h : Heap)  (hp : 0 < X.p ∧ X.p ≤ 7) (hu : By u) (hv : By v) (hk : -100000 ≤ k ∧ k ≤ 100000) : CallA Try.prog 43 #[.agg (dgA X), .agg (elA u), .agg (elA v), .int .i64 k] h fun v' h' => v' = .agg (elA (plusN X.p u v k 8)) ∧ Ext h h' := by
 have hkm := km_ok (k := k) hp.1
 have htb := tmod_in (x := k) hp.1
 refine callA_intro TTok (args := [_, _, _, _]) Try.func43 (by kernel_rfl) rfl 43 rfl (by simp) [.cell 8 30] rfl ?_
 simp only [idxs, Nat.reduceAdd]
 refine den_seq ?_
 refine den_region TTok ?_
 intro K hK
 simp -implicitDefEqProofs (disch := first | decide | assumption | omega) only [go_sem, wrap_id, cv_u8, cv_i64, Nat.zero_add, wrap_u8, eq_el, ne_el, build_el]
 refine op_box (cs := dgA X) rfl ?_
 intro h0_0 e0_0 hb0_0 z0_0
 have := Ext.size e0_0
 have eB := e0_0
 have hfhb0_0 : Fresh h.size [h.size] := Fresh.one _
 have hlhb0_0 := one_lt (show h.size < h0_0.size by omega)
 try simp -implicitDefEqProofs (disch := first | decide | assumption | omega) only [go_sem, wrap_id, cv_u8, cv_i64, Nat.zero_add, wrap_u8, eq_el, ne_el, build_el]
 refine op_box (cs := elA u) rfl ?_
 intro h0_1 e0_1 hb0_1 z0_1
 replace hb0_0 := BoxAt.ext hb0_0 e0_1
 have := Ext.size e0_1
 replace eB := Ext.trans eB e0_1
 have hfhb0_1 : Fresh h0_0.size [h0_0.size] := Fresh.one _
 have hlhb0_1 := one_lt (show h0_0.size < h0_1.size by omega)
 try simp -implicitDefEqProofs (disch := first | decide | assumption | omega) only [go_sem, wrap_id, cv_u8, cv_i64, Nat.zero_add, wrap_u8, eq_el, ne_el, build_el]
 refine op_box (cs := elA v) rfl ?_
 intro h0_2 e0_2 hb0_2 z0_2
 replace hb0_0 := BoxAt.ext hb0_0 e0_2
 replace hb0_1 := BoxAt.ext hb0_1 e0_2
 have := Ext.size e0_2
 replace eB := Ext.trans eB e0_2
 have hfhb0_2 : Fresh h0_1.size [h0_1.size] := Fresh.one _
 have hlhb0_2 := one_lt (show h0_1.size < h0_2.size by omega)
 try simp -implicitDefEqProofs (disch := first | decide | assumption | omega) only [go_sem, wrap_id, cv_u8, cv_i64, Nat.zero_add, wrap_u8, eq_el, ne_el, build_el]
 refine op_alloc (cs := elA z8) (by kernel_rfl) ?_
 intro h0_3 e0_3 hb0_3 z0_3
 replace hb0_0 := BoxAt.ext hb0_0 e0_3
 replace hb0_1 := BoxAt.ext hb0_1 e0_3
 replace hb0_2 := BoxAt.ext hb0_2 e0_3
 have := Ext.size e0_3
 replace eB := Ext.trans eB e0_3
 have hfhb0_3 : Fresh h0_2.size [h0_2.size] := Fresh.one _
 have hlhb0_3 := one_lt (show h0_2.size < h0_3.size by omega)
 try simp -implicitDefEqProofs (disch := first | decide | assumption | omega) only [go_sem, BoxAt.elC hb0_3, BoxAt.elL hb0_3, wrap_id, cv_u8, cv_i64, Nat.zero_add, wrap_u8, eq_el, ne_el, build_el]
 refine hK _ _ ?_
 clear hK K
 refine den_seq ?_
 refine den_draw TTok mixed [] [(0, true), (1, true), (2, true), (3, true), (4, true), (5, true), (6, true), (7, true), (8, true), (9, true), (10, true)] (by kernel_rfl) ?_
 intro K hK
 simp -implicitDefEqProofs (disch := first | decide | assumption | omega) only [go_sem, fa34_0, ld2, BoxAt.dgs hb0_0, wrap_id, cv_u8, cv_i64, Nat.zero_add, wrap_u8, eq_el, ne_el, build_el, hkm]
 refine hK _ _ ?_
 clear hK K
 refine den_seq ?_
 refine den_seq ?_
 refine den_region TTok ?_
 intro K hK
 simp -implicitDefEqProofs (disch := first | decide | assumption | omega) only [go_sem, BoxAt.elC hb0_2, BoxAt.elL hb0_2, wrap_id, cv_u8, cv_i64, Nat.zero_add, wrap_u8, eq_el, ne_el, build_el]
 refine hK _ _ ?_
 clear hK K
 refine den_block ?_
 refine den_sel [22, 3, 4, 5, 8, 21] ?_
 intro env_1
 simp only [go_sem]
 refine den_loopS (σ := Nat) (fun st_ => [(22, .int .i64 (st_ : Int))]) (fun st_ H => (st_ ≤ 8) ∧ (BoxAt H (h0_0.size) (elA (plusN X.p u v k st_)) 30) ∧ (Chg [h0_0.size] h0_3 H)) (fun st_ => 8 - st_) 0 ?_ ?_
 ·exact ⟨by first | (simp; done) | (dsimp only; omega) | (simp; omega), by rw [plusN_0]; exact hb0_1, Chg.refl _ _⟩
 ·rintro i h4 ee3 ⟨hi0, hbx5, cL2⟩
  replace hb0_0 := BoxAt.chgA hb0_0 cL2 (apart_lt hlhb0_0 hfhb0_1 (by omega))
  replace hb0_2 := BoxAt.chgA hb0_2 cL2 (apart_gt hfhb0_2 hlhb0_1 (by omega))
  replace hb0_3 := BoxAt.chgA hb0_3 cL2 (apart_gt hfhb0_3 hlhb0_1 (by omega))
  have := cL2.size
  replace eB := Ext.then eB cL2 (ge_of hfhb0_1 (by omega))
  have hfhbx5 := hfhb0_1
  have hlhbx5 := hlhb0_1
  simp only [List.cons_append, List.nil_append]
  refine den_seq ?_
  refine den_region TTok ?_
  intro K hK
  simp -implicitDefEqProofs (disch := first | decide | assumption | omega) only [go_sem, wrap_id, cv_u8, cv_i64, Nat.zero_add, wrap_u8, eq_el, ne_el, build_el]
  refine hK _ _ ?_
  clear hK K
  refine den_seq ?_
  refine den_cond rfl (fun c0 => ?_) (fun c0 => ?_)
  ·try simp only [ddA] at c0
   refine den_skip ?_
   refine den_seq ?_
   refine den_block ?_
   refine den_seq ?_
   refine den_region TTok ?_
   intro K hK
   simp -implicitDefEqProofs (disch := first | decide | assumption | omega) only [go_sem, elA_at, ix30, wrap_id, cv_u8, cv_i64, Nat.zero_add, wrap_u8, eq_el, ne_el, build_el]
   refine hK _ _ ?_
   clear hK K
   have hui := hu i
   have hvi := hv i
   have hpi := plusN_at X.p u v k i
   have hte := km_step (k := k) hp.1 hui.1 hvi.1
   have hkb := km_bnd (k := k) hp hvi
   have hm0 := Int.emod_nonneg (u i + k * v i) (show X.p ≠ 0 by omega)
   have hm1 := Int.emod_lt_of_pos (u i + k * v i) hp.1
   have hk0 := Int.emod_nonneg k (show X.p ≠ 0 by omega)
   have hk1 := Int.emod_lt_of_pos k hp.1
   refine den_draw TTok mixed [15] [(0, true), (1, true), (2, true), (3, true), (4, true), (5, true), (6, true), (7, true), (8, true), (9, true), (10, true), (11, true), (12, true), (13, true), (14, true), (15, false)] (by kernel_rfl) ?_
   intro K hK
   simp -implicitDefEqProofs (disch := first | decide | assumption | omega) only [go_sem, Int.toNat_zero, T2, T5, fa34_0, ia30, ld2, ld5, BoxAt.dgs hb0_0, BoxAt.elC hbx5, BoxAt.elL hbx5, wrap_id, cv_u8, cv_i64, Nat.zero_add, wrap_u8, eq_el, ne_el, build_el, hpi, hte]
   refine op_storeB (o := i) (vs := #[.int .u8 ((u i + k * v i) % X.p)]) (cs' := elA (upd (plusN X.p u v k i) i ((u i + k * v i) % X.p))) st5 hbx5 rfl rfl rfl (by show _ + 1 ≤ 8; omega) u8_one (elA_upd (by omega)) ?_
   intro h5_15 hbx5 c5_15
   replace hb0_0 := BoxAt.chgA hb0_0 c5_15 (apart_lt hlhb0_0 hfhbx5 (by omega))
   replace hb0_3 := BoxAt.chgA hb0_3 c5_15 (apart_gt hfhb0_3 hlhbx5 (by omega))
   have := c5_15.size
   replace eB := Ext.then eB c5_15 (ge_of hfhbx5 (by omega))
   replace cL2 := Chg.step cL2 c5_15 Sub.refl
   try simp (disch := decide) only [outv_some, outv_none, put_puts]
   refine plK_last (by decide) ?_
   try simp -implicitDefEqProofs (disch := first | decide | assumption | omega) only [go_sem, BoxAt.elC hb0_3, BoxAt.elL hb0_3, wrap_id, cv_u8, cv_i64, Nat.zero_add, wrap_u8, eq_el, ne_el, build_el, hpi, hte]
   refine hK _ _ ?_
   clear hK K
   refine den_blk ?_
   refine den_region TTok ?_
   intro K hK
   simp -implicitDefEqProofs (disch := first | decide | assumption | omega) only [go_sem, wrap_id, cv_u8, cv_i64, Nat.zero_add, wrap_u8, eq_el, ne_el, build_el]
   refine hK _ _ ?_
   clear hK K
   refine den_stop ?_
   rw [plusN_step] at hbx5
   exact ⟨i + 1, by simp [HasL, puts_at], ⟨by first | omega | (dsimp only; omega), hbx5, cL2⟩, by first | omega | (dsimp only; omega)⟩
  ·try simp only [ddA] at c0
   refine den_exit ?_
   refine denX_code ?_
   refine denX_stop ?_
   refine denX_hit ?_
   refine den_seq ?_
   refine den_region TTok ?_
   intro K hK
   simp -implicitDefEqProofs (disch := first | decide | assumption | omega) only [go_sem, BoxAt.elC hbx5, BoxAt.elL hbx5, wrap_id, cv_u8, cv_i64, Nat.zero_add, wrap_u8, eq_el, ne_el, build_el]
   refine op_storeB (o := 0) (cs' := elA (plusN X.p u v k i)) st30 hb0_3 rfl rfl (elA_sz _) (by rw [elA_sz]; decide) elA_one elA_all ?_
   intro h7_1 hb0_3 c7_1
   replace hbx5 := BoxAt.chgA hbx5 c7_1 (apart_lt hlhbx5 hfhb0_3 (by omega))
   have := c7_1.size
   replace eB := Ext.then eB c7_1 (ge_of hfhb0_3 (by omega))
   try simp -implicitDefEqProofs (disch := first | decide | assumption | omega) only [go_sem, BoxAt.elC hb0_3, BoxAt.elL hb0_3, wrap_id, cv_u8, cv_i64, Nat.zero_add, wrap_u8, eq_el, ne_el, build_el]
   refine hK _ _ ?_
   clear hK K
   refine den_ret ?_
   simp -implicitDefEqProofs (disch := first | decide | assumption | omega) only [go_sem, BoxAt.elC hb0_3, BoxAt.elL hb0_3, wrap_id, cv_u8, cv_i64, Nat.zero_add, wrap_u8, eq_el, ne_el, build_el, resP_c1, ld30]
   rw [show i = 8 by omega]
   exact ⟨by first | rfl | trivial, eB⟩


theorem sbs : (∀ {k : IntKind} {x : Int}, convV TT 5 2 (.int k x) = some (.int .i64 (IntKind.i64.wrap x))) ∧ (∀ {k : IntKind} {x : Int}, convV TT 2 5 (.int k x) = some (.int .u8 (IntKind.u8.wrap x))) ∧ (∀ n : Nat, 0 + n = n) ∧ (∀ {x : Int} (h : 0 ≤ x ∧ x ≤ 255), IntKind.u8.wrap x = x) ∧ (∀ (u v : Nat → Int), binV TT .eql 30 (.agg (elA u)) (.agg (elA v)) = some (.bool (eqE u v))) ∧ (∀ (u v : Nat → Int), binV TT .neq 30 (.agg (elA u)) (.agg (elA v)) = some (.bool (!eqE u v))) ∧ (buildV TT 30 [] = some (.agg (elA z8))) := ⟨cv_u8, cv_i64, Nat.zero_add, fun h => wrap_u8 h, @eq_el, @ne_el, @build_el⟩
end Go.Proofs.Ytacajcjibhifmaa

namespace Go.Proofs.Ytacajcjibhifmaa
open Go
def tmJ (p : Int) (tab : Nat → Nat → Nat → Int) (u v : Nat → Int) (i : Nat) (o : Nat → Int) : Nat → Nat → Int
 | 0 => o
 | j + 1 => if u i ≠ 0 ∧ v j ≠ 0 then plusN p (tmJ p tab u v i o j) (tab i j) (u i * v j) 8 else tmJ p tab u v i o j
def tmI (p : Int) (tab : Nat → Nat → Nat → Int) (u v : Nat → Int) (m : Nat) : Nat → Nat → Int
 | 0 => z8
 | i + 1 => tmJ p tab u v i (tmI p tab u v m i) m
def timesP (p : Int) (tab : Nat → Nat → Nat → Int) (u v : Nat → Int) (m : Nat) : Nat → Int := tmI p tab u v m m
def dfI (p : Int) (dif : Nat → Nat → Int) (u : Nat → Int) : Nat → Nat → Int
 | 0 => z8
 | i + 1 => plusN p (dfI p dif u i) (dif i) (u i) 8
theorem tmJ_yes {p : Int} {tab : Nat → Nat → Nat → Int} {u v : Nat → Int} {i : Nat} {o : Nat → Int} {j : Nat} (h : ¬ u i = 0 ∧ ¬ v j = 0) : plusN p (tmJ p tab u v i o j) (tab i j) (u i * v j) 8 = tmJ p tab u v i o (j + 1) := by
 rw [tmJ, if_pos h]
theorem tmJ_no {p : Int} {tab : Nat → Nat → Nat → Int} {u v : Nat → Int} {i : Nat} {o : Nat → Int} {j : Nat} (h : (u i != 0 && v j != 0) = false) : tmJ p tab u v i o j = tmJ p tab u v i o (j + 1) := by
 rw [tmJ, if_neg]
 rintro ⟨h1, h2⟩
 simp [h1, h2] at h
theorem dfI_step (p : Int) (dif : Nat → Nat → Int) (u : Nat → Int) (i : Nat) : plusN p (dfI p dif u i) (dif i) (u i) 8 = dfI p dif u (i + 1) := rfl
section
variable {p : Int} (hp : 0 < p ∧ p ≤ 7)
include hp
theorem tmJ_by {tab : Nat → Nat → Nat → Int} {u v : Nat → Int} {i : Nat} {o : Nat → Int} (ho : By o) : ∀ j, By (tmJ p tab u v i o j)
 | 0 => ho
 | j + 1 => by
  rw [tmJ]
  split
  ·exact plusN_by hp (tmJ_by ho j)
  ·exact tmJ_by ho j
theorem tmI_by {tab : Nat → Nat → Nat → Int} {u v : Nat → Int} {m : Nat} : ∀ i, By (tmI p tab u v m i)
 | 0 => By.z8
 | i + 1 => tmJ_by hp (tmI_by i) m
theorem timesP_by {tab : Nat → Nat → Nat → Int} {u v : Nat → Int} {m : Nat} : By (timesP p tab u v m) := tmI_by hp m
theorem dfI_by {dif : Nat → Nat → Int} {u : Nat → Int} : ∀ i, By (dfI p dif u i)
 | 0 => By.z8
 | i + 1 => plusN_by hp (dfI_by i)
end
theorem by_mul {u v : Nat → Int} (hu : By u) (hv : By v) (i j : Nat) : 0 ≤ u i * v j ∧ u i * v j ≤ 65025 := by
 have h1 := hu i
 have h2 := hv j
 have h3 := Int.mul_nonneg h1.1 h2.1
 have h4 := Int.mul_le_mul h1.2 h2.2 h2.1 (show (0 : Int) ≤ 255 by omega)
 omega
def lies (X : Dg) (u : Nat → Int) (d l : Int) (n : Nat) : Prop := ∀ i, i < n → ¬ u i = 0 → X.deg i = d ∧ X.lev i ≤ l
noncomputable def liesB (X : Dg) (u : Nat → Int) (d l : Int) (n : Nat) : Bool := @decide (lies X u d l n) (Classical.propDecidable _)
theorem liesB_t {X : Dg} {u : Nat → Int} {d l : Int} {n : Nat} : liesB X u d l n = true ↔ lies X u d l n := @decide_eq_true_iff _ (Classical.propDecidable _)
theorem liesB_y {X : Dg} {u : Nat → Int} {d l : Int} {n : Nat} (h : lies X u d l n) : true = liesB X u d l n := (liesB_t.2 h).symm
theorem liesB_n {X : Dg} {u : Nat → Int} {d l : Int} {n : Nat} (h : ¬ lies X u d l n) : false = liesB X u d l n := by
 cases e : liesB X u d l n
 ·rfl
 ·exact absurd (liesB_t.1 e) h

set_option maxRecDepth 100000 in
set_option maxHeartbeats 4000000 in
theorem iTms_ok (X : Dg) (u : Nat → Int) (v : Nat → Int) (h : Heap)  (hp : 0 < X.p ∧ X.p ≤ 7) (hu : By u) (hv : By v) (hBt : ∀ i j, By (X.tab i j)) : CallA Try.prog 49 #[.agg (dgA X), .agg (elA u), .agg (elA v)] h fun v' h' => v' = .agg (elA (timesP X.p X.tab u v 8)) ∧ Ext h h' := by
 have hp6 := hp.2
 refine callA_intro TTok (args := [_, _, _]) Try.func49 (by kernel_rfl) rfl 46 rfl (by simp) [.cell 6 30] rfl ?_
 simp only [idxs, Nat.reduceAdd]
 refine den_seq ?_
 refine den_region TTok ?_
 intro K hK
 simp -implicitDefEqProofs (disch := first | decide | assumption | omega) only [go_sem, wrap_id, sbs]
 refine op_box (cs := dgA X) rfl ?_
 intro h0_0 e0_0 hb0_0 z0_0
 have := Ext.size e0_0
 have eB := e0_0
 have hfhb0_0 : Fresh h.size [h.size] := Fresh.one _
 have hlhb0_0 := one_lt (show h.size < h0_0.size by omega)
 try simp -implicitDefEqProofs (disch := first | decide | assumption | omega) only [go_sem, wrap_id, sbs]
 refine op_box (cs := elA u) rfl ?_
 intro h0_1 e0_1 hb0_1 z0_1
 replace hb0_0 := BoxAt.ext hb0_0 e0_1
 have := Ext.size e0_1
 replace eB := Ext.trans eB e0_1
 have hfhb0_1 : Fresh h0_0.size [h0_0.size] := Fresh.one _
 have hlhb0_1 := one_lt (show h0_0.size < h0_1.size by omega)
 try simp -implicitDefEqProofs (disch := first | decide | assumption | omega) only [go_sem, wrap_id, sbs]
 refine op_box (cs := elA v) rfl ?_
 intro h0_2 e0_2 hb0_2 z0_2
 replace hb0_0 := BoxAt.ext hb0_0 e0_2
 replace hb0_1 := BoxAt.ext hb0_1 e0_2
 have := Ext.size e0_2
 replace eB := Ext.trans eB e0_2
 have hfhb0_2 : Fresh h0_1.size [h0_1.size] := Fresh.one _
 have hlhb0_2 := one_lt (show h0_1.size < h0_2.size by omega)
 try simp -implicitDefEqProofs (disch := first | decide | assumption | omega) only [go_sem, wrap_id, sbs]
 refine op_alloc (cs := elA z8) (by kernel_rfl) ?_
 intro h0_3 e0_3 hb0_3 z0_3
 replace hb0_0 := BoxAt.ext hb0_0 e0_3
 replace hb0_1 := BoxAt.ext hb0_1 e0_3
 replace hb0_2 := BoxAt.ext hb0_2 e0_3
 have := Ext.size e0_3
 replace eB := Ext.trans eB e0_3
 have hfhb0_3 : Fresh h0_2.size [h0_2.size] := Fresh.one _
 have hlhb0_3 := one_lt (show h0_2.size < h0_3.size by omega)
 try simp -implicitDefEqProofs (disch := first | decide | assumption | omega) only [go_sem, BoxAt.elC hb0_3, BoxAt.elL hb0_3, wrap_id, sbs]
 refine hK _ _ ?_
 clear hK K
 refine den_seq ?_
 refine den_region TTok ?_
 intro K hK
 simp -implicitDefEqProofs (disch := first | decide | assumption | omega) only [go_sem, wrap_id, sbs]
 refine op_alloc (cs := elA z8) (by kernel_rfl) ?_
 intro h1_1 e1_1 hb1_1 z1_1
 replace hb0_0 := BoxAt.ext hb0_0 e1_1
 replace hb0_1 := BoxAt.ext hb0_1 e1_1
 replace hb0_2 := BoxAt.ext hb0_2 e1_1
 replace hb0_3 := BoxAt.ext hb0_3 e1_1
 have := Ext.size e1_1
 replace eB := Ext.trans eB e1_1
 have hfhb1_1 : Fresh h0_3.size [h0_3.size] := Fresh.one _
 have hlhb1_1 := one_lt (show h0_3.size < h1_1.size by omega)
 try simp -implicitDefEqProofs (disch := first | decide | assumption | omega) only [go_sem, BoxAt.elC hb0_3, BoxAt.elL hb0_3, wrap_id, sbs]
 refine op_storeB (o := 0) (cs' := elA z8) st30 hb1_1 rfl rfl (elA_sz _) (by rw [elA_sz]; decide) elA_one elA_all ?_
 intro h1_2 hb1_1 c1_2
 replace hb0_0 := BoxAt.chgA hb0_0 c1_2 (apart_lt hlhb0_0 hfhb1_1 (by omega))
 replace hb0_1 := BoxAt.chgA hb0_1 c1_2 (apart_lt hlhb0_1 hfhb1_1 (by omega))
 replace hb0_2 := BoxAt.chgA hb0_2 c1_2 (apart_lt hlhb0_2 hfhb1_1 (by omega))
 replace hb0_3 := BoxAt.chgA hb0_3 c1_2 (apart_lt hlhb0_3 hfhb1_1 (by omega))
 have := c1_2.size
 replace eB := Ext.then eB c1_2 (ge_of hfhb1_1 (by omega))
 try simp -implicitDefEqProofs (disch := first | decide | assumption | omega) only [go_sem, BoxAt.elC hb0_3, BoxAt.elL hb0_3, wrap_id, sbs]
 refine hK _ _ ?_
 clear hK K
 refine den_seq ?_
 refine den_seq ?_
 refine den_region TTok ?_
 intro K hK
 simp -implicitDefEqProofs (disch := first | decide | assumption | omega) only [go_sem, BoxAt.elC hb0_1, BoxAt.elL hb0_1, wrap_id, sbs]
 refine hK _ _ ?_
 clear hK K
 refine den_block ?_
 refine den_sel [14, 3, 5, 6, 7, 13] ?_
 intro env_1
 simp only [go_sem]
 refine den_loopS (σ := Nat) (fun st_ => [(14, .int .i64 (st_ : Int))]) (fun st_ H => (st_ ≤ 8) ∧ (BoxAt H (h0_3.size) (elA (tmI X.p X.tab u v 8 st_)) 30) ∧ (Chg [h0_3.size] h1_2 H)) (fun st_ => 8 - st_) 0 ?_ ?_
 ·exact ⟨by first | (simp; done) | (dsimp only; omega) | (simp; omega), hb1_1, Chg.refl _ _⟩
 ·rintro i h4 ee3 ⟨hi0, hbx7, cL2⟩
  replace hb0_0 := BoxAt.chgA hb0_0 cL2 (apart_lt hlhb0_0 hfhb1_1 (by omega))
  replace hb0_1 := BoxAt.chgA hb0_1 cL2 (apart_lt hlhb0_1 hfhb1_1 (by omega))
  replace hb0_2 := BoxAt.chgA hb0_2 cL2 (apart_lt hlhb0_2 hfhb1_1 (by omega))
  replace hb0_3 := BoxAt.chgA hb0_3 cL2 (apart_lt hlhb0_3 hfhb1_1 (by omega))
  have := cL2.size
  replace eB := Ext.then eB cL2 (ge_of hfhb1_1 (by omega))
  have hfhbx7 := hfhb1_1
  have hlhbx7 := hlhb1_1
  simp only [List.cons_append, List.nil_append]
  refine den_seq ?_
  refine den_region TTok ?_
  intro K hK
  simp -implicitDefEqProofs (disch := first | decide | assumption | omega) only [go_sem, wrap_id, sbs]
  refine hK _ _ ?_
  clear hK K
  refine den_seq ?_
  refine den_cond rfl (fun c0 => ?_) (fun c0 => ?_)
  ·try simp only [ddA] at c0
   refine den_skip ?_
   refine den_seq ?_
   refine den_block ?_
   refine den_seq ?_
   refine den_region TTok ?_
   intro K hK
   simp -implicitDefEqProofs (disch := first | decide | assumption | omega) only [go_sem, elA_at, ix30, wrap_id, sbs]
   refine hK _ _ ?_
   clear hK K
   refine den_seq ?_
   refine den_region TTok ?_
   intro K hK
   simp -implicitDefEqProofs (disch := first | decide | assumption | omega) only [go_sem, BoxAt.elC hb0_2, BoxAt.elL hb0_2, wrap_id, sbs]
   refine hK _ _ ?_
   clear hK K
   refine den_block ?_
   refine den_sel [19, 3, 5, 6, 7, 8, 9, 13, 14, 18] ?_
   intro env_5
   simp only [go_sem]
   refine den_loopS (σ := Nat) (fun st_ => [(19, .int .i64 (st_ : Int))]) (fun st_ H => (st_ ≤ 8) ∧ (BoxAt H (h0_3.size) (elA (tmJ X.p X.tab u v i (tmI X.p X.tab u v 8 i) st_)) 30) ∧ (Chg [h0_3.size] h4 H)) (fun st_ => 8 - st_) 0 ?_ ?_
   ·exact ⟨by first | (simp; done) | (dsimp only; omega) | (simp; omega), hbx7, Chg.refl _ _⟩
   ·rintro j h8 ee7 ⟨hi0, hbx7, cL6⟩
    replace hb0_0 := BoxAt.chgA hb0_0 cL6 (apart_lt hlhb0_0 hfhbx7 (by omega))
    replace hb0_2 := BoxAt.chgA hb0_2 cL6 (apart_lt hlhb0_2 hfhbx7 (by omega))
    replace hb0_3 := BoxAt.chgA hb0_3 cL6 (apart_lt hlhb0_3 hfhbx7 (by omega))
    have := cL6.size
    replace eB := Ext.then eB cL6 (ge_of hfhbx7 (by omega))
    replace cL2 := Chg.step cL2 cL6 Sub.refl
    have hfhbx7 := hfhbx7
    have hlhbx7 := hlhbx7
    simp only [List.cons_append, List.nil_append]
    refine den_seq ?_
    refine den_region TTok ?_
    intro K hK
    simp -implicitDefEqProofs (disch := first | decide | assumption | omega) only [go_sem, wrap_id, sbs]
    refine hK _ _ ?_
    clear hK K
    refine den_seq ?_
    refine den_cond rfl (fun c1 => ?_) (fun c1 => ?_)
    ·try simp only [ddA] at c1
     refine den_skip ?_
     refine den_seq ?_
     refine den_block ?_
     refine den_seq ?_
     refine den_region TTok ?_
     intro K hK
     simp -implicitDefEqProofs (disch := first | decide | assumption | omega) only [go_sem, elA_at, ix30, wrap_id, sbs]
     refine hK _ _ ?_
     clear hK K
     refine den_seq ?_
     have hui := hu i
     have hvj := hv j
     refine den_mergeH [(28, .bool ((((u i) != (0 : Int)) && ((v j) != (0 : Int)))))] [3, 5, 6, 7, 8, 9, 10, 11, 13, 14, 18, 19] ?_ ?_
      -- a way
     ·refine den_region TTok ?_
      intro K hK
      simp -implicitDefEqProofs (disch := first | decide | assumption | (simp (disch := decide) only [gvA, eq_self, if_true, if_false, Bool.false_eq_true]; done) | omega) only [go_sem, wrap_id, sbs]
      refine opsP_T (by simp (disch := decide) only [gvA, eq_self, if_true, if_false, Bool.false_eq_true]; rfl) (fun g9 => ?_) (fun g9 => ?_)
      ·try simp -implicitDefEqProofs (disch := first | decide | assumption | (simp (disch := decide) only [gvA, eq_self, if_true, if_false, Bool.false_eq_true, g9]; done) | omega) only [go_sem, wrap_id, sbs, g9, eq_self, if_true, if_false, Bool.false_eq_true]
       refine hK _ _ ?_
       clear hK K
       refine den_stop ?_
       refine ⟨?_, rfl⟩
       first | (simp (disch := decide) only [go_sem, g9, eq_self, Bool.true_and, Bool.and_true, Bool.false_and, Bool.and_false, Bool.true_or, Bool.or_true, Bool.false_or, Bool.or_false, if_true, if_false, Bool.false_eq_true]; done) | simp [HasL, sel, puts_at, g9]
      ·try simp -implicitDefEqProofs (disch := first | decide | assumption | (simp (disch := decide) only [gvA, eq_self, if_true, if_false, Bool.false_eq_true, g9]; done) | omega) only [go_sem, wrap_id, sbs, g9, eq_self, if_true, if_false, Bool.false_eq_true]
       refine hK _ _ ?_
       clear hK K
       refine den_stop ?_
       refine ⟨?_, rfl⟩
       first | (simp (disch := decide) only [go_sem, g9, eq_self, Bool.true_and, Bool.and_true, Bool.false_and, Bool.and_false, Bool.true_or, Bool.or_true, Bool.false_or, Bool.or_false, if_true, if_false, Bool.false_eq_true]; done) | simp [HasL, sel, puts_at, g9]
     intro en10
     simp (disch := decide) only [go_sem]
     refine den_cond rfl (fun c2 => ?_) (fun c2 => ?_)
     ·try simp only [ddA] at c2
      have hmul := by_mul hu hv i j
      refine den_draw TTok mixed [14] [(0, true), (1, true), (2, true), (3, true), (4, true), (5, true), (6, true), (7, true), (8, true), (9, true), (10, true), (11, true), (12, true), (13, false), (14, false)] (by kernel_rfl) ?_
      intro K hK
      simp -implicitDefEqProofs (disch := first | decide | assumption | omega) only [go_sem, Int.toNat_zero, T2, T5, fa34_5, ia32, ia31, BoxAt.dgs hb0_0, BoxAt.elC hbx7, BoxAt.elL hbx7, wrap_id, sbs]
      try simp -implicitDefEqProofs (disch := first | decide | assumption | omega) only [go_sem, BoxAt.elC hb0_3, BoxAt.elL hb0_3, wrap_id, sbs]
      refine CallA.mono (iPls_ok  X (tmJ X.p X.tab u v i (tmI X.p X.tab u v 8 i) j) ((X.tab i) j) ((u i) * (v j)) _  (by omega) (by first | assumption | exact e8_by _ | exact By.z8 | exact hBd _ | exact hBt _ _ | exact tmJ_by (by omega) (tmI_by (by omega) _) _ | exact timesP_by (by omega) | exact dfI_by (by omega) _ | exact plusN_by (by omega) (timesP_by (by omega)) | exact dfI_by (by omega) 8) (by first | assumption | exact e8_by _ | exact By.z8 | exact hBd _ | exact hBt _ _ | exact tmJ_by (by omega) (tmI_by (by omega) _) _ | exact timesP_by (by omega) | exact dfI_by (by omega) _ | exact plusN_by (by omega) (timesP_by (by omega)) | exact dfI_by (by omega) 8) (by omega)) ?_
      intro v_ h9_13
      rintro ⟨rfl, e9_13⟩
      replace hb0_0 := BoxAt.ext hb0_0 e9_13
      replace hb0_2 := BoxAt.ext hb0_2 e9_13
      replace hb0_3 := BoxAt.ext hb0_3 e9_13
      replace hbx7 := BoxAt.ext hbx7 e9_13
      have := Ext.size e9_13
      replace eB := Ext.trans eB e9_13
      replace cL2 := Chg.stepE cL2 e9_13
      replace cL6 := Chg.stepE cL6 e9_13
      try simp (disch := decide) only [outv_some, outv_none, put_puts]
      refine plK_pres (Ext.pres e9_13) ?_
      try simp -implicitDefEqProofs (disch := first | decide | assumption | omega) only [go_sem, BoxAt.elC hb0_3, BoxAt.elL hb0_3, wrap_id, sbs]
      refine op_storeB (o := 0) (cs' := elA (plusN X.p (tmJ X.p X.tab u v i (tmI X.p X.tab u v 8 i) j) ((X.tab i) j) ((u i) * (v j)) 8)) st30 hbx7 rfl rfl (elA_sz _) (by rw [elA_sz]; decide) elA_one elA_all ?_
      intro h9_14 hbx7 c9_14
      replace hb0_0 := BoxAt.chgA hb0_0 c9_14 (apart_lt hlhb0_0 hfhbx7 (by omega))
      replace hb0_2 := BoxAt.chgA hb0_2 c9_14 (apart_lt hlhb0_2 hfhbx7 (by omega))
      replace hb0_3 := BoxAt.chgA hb0_3 c9_14 (apart_lt hlhb0_3 hfhbx7 (by omega))
      have := c9_14.size
      replace eB := Ext.then eB c9_14 (ge_of hfhbx7 (by omega))
      replace cL2 := Chg.step cL2 c9_14 Sub.refl
      replace cL6 := Chg.step cL6 c9_14 Sub.refl
      try simp (disch := decide) only [outv_some, outv_none, put_puts]
      refine plK_last (by decide) ?_
      try simp -implicitDefEqProofs (disch := first | decide | assumption | omega) only [go_sem, BoxAt.elC hb0_3, BoxAt.elL hb0_3, wrap_id, sbs]
      refine hK _ _ ?_
      clear hK K
      refine den_blk ?_
      refine den_region TTok ?_
      intro K hK
      simp -implicitDefEqProofs (disch := first | decide | assumption | omega) only [go_sem, wrap_id, sbs]
      refine hK _ _ ?_
      clear hK K
      refine den_stop ?_
      first | rw [tmJ_yes c2] at hbx7 | rw [tmJ_no c2] at hbx7
      exact ⟨j + 1, by simp [HasL, puts_at], ⟨by first | omega | (dsimp only; omega), hbx7, cL6⟩, by first | omega | (dsimp only; omega)⟩
     ·try simp only [ddA] at c2
      refine den_skip ?_
      refine den_blk ?_
      refine den_region TTok ?_
      intro K hK
      simp -implicitDefEqProofs (disch := first | decide | assumption | omega) only [go_sem, wrap_id, sbs]
      refine hK _ _ ?_
      clear hK K
      refine den_stop ?_
      first | rw [tmJ_yes c2] at hbx7 | rw [tmJ_no c2] at hbx7
      exact ⟨j + 1, by simp [HasL, puts_at], ⟨by first | omega | (dsimp only; omega), hbx7, cL6⟩, by first | omega | (dsimp only; omega)⟩
    ·try simp only [ddA] at c1
     refine den_exit ?_
     refine denX_code ?_
     refine denX_stop ?_
     refine denX_hit ?_
     refine den_blk ?_
     refine den_region TTok ?_
     intro K hK
     simp -implicitDefEqProofs (disch := first | decide | assumption | omega) only [go_sem, wrap_id, sbs]
     refine hK _ _ ?_
     clear hK K
     refine den_stop ?_
     rw [show j = 8 by omega] at hbx7
     exact ⟨i + 1, by simp [HasL, puts_at], ⟨by first | omega | (dsimp only; omega), hbx7, cL2⟩, by first | omega | (dsimp only; omega)⟩
  ·try simp only [ddA] at c0
   refine den_exit ?_
   refine denX_code ?_
   refine denX_stop ?_
   refine denX_hit ?_
   refine den_seq ?_
   refine den_region TTok ?_
   intro K hK
   simp -implicitDefEqProofs (disch := first | decide | assumption | omega) only [go_sem, BoxAt.elC hbx7, BoxAt.elL hbx7, wrap_id, sbs]
   refine op_storeB (o := 0) (cs' := elA (tmI X.p X.tab u v 8 i)) st30 hb0_3 rfl rfl (elA_sz _) (by rw [elA_sz]; decide) elA_one elA_all ?_
   intro h12_1 hb0_3 c12_1
   replace hbx7 := BoxAt.chgA hbx7 c12_1 (apart_gt hfhbx7 hlhb0_3 (by omega))
   have := c12_1.size
   replace eB := Ext.then eB c12_1 (ge_of hfhb0_3 (by omega))
   try simp -implicitDefEqProofs (disch := first | decide | assumption | omega) only [go_sem, BoxAt.elC hb0_3, BoxAt.elL hb0_3, wrap_id, sbs]
   refine hK _ _ ?_
   clear hK K
   refine den_ret ?_
   simp -implicitDefEqProofs (disch := first | decide | assumption | omega) only [go_sem, BoxAt.elC hb0_3, BoxAt.elL hb0_3, wrap_id, sbs, resP_c1, ld30]
   rw [show i = 8 by omega]
   exact ⟨by first | rfl | trivial, eB⟩

set_option maxRecDepth 100000 in
set_option maxHeartbeats 4000000 in
theorem iDif_ok (X : Dg) (u : Nat → Int) (h : Heap)  (hp : 0 < X.p ∧ X.p ≤ 7) (hu : By u) (hBd : ∀ i, By (X.dif i)) : CallA Try.prog 53 #[.agg (dgA X), .agg (elA u)] h fun v' h' => v' = .agg (elA (dfI X.p X.dif u 8)) ∧ Ext h h' := by
 refine callA_intro TTok (args := [_, _]) Try.func53 (by kernel_rfl) rfl 25 rfl (by simp) [.cell 4 30] rfl ?_
 simp only [idxs, Nat.reduceAdd]
 refine den_seq ?_
 refine den_region TTok ?_
 intro K hK
 simp -implicitDefEqProofs (disch := first | decide | assumption | omega) only [go_sem, wrap_id, sbs]
 refine op_box (cs := dgA X) rfl ?_
 intro h0_0 e0_0 hb0_0 z0_0
 have := Ext.size e0_0
 have eB := e0_0
 have hfhb0_0 : Fresh h.size [h.size] := Fresh.one _
 have hlhb0_0 := one_lt (show h.size < h0_0.size by omega)
 try simp -implicitDefEqProofs (disch := first | decide | assumption | omega) only [go_sem, wrap_id, sbs]
 refine op_box (cs := elA u) rfl ?_
 intro h0_1 e0_1 hb0_1 z0_1
 replace hb0_0 := BoxAt.ext hb0_0 e0_1
 have := Ext.size e0_1
 replace eB := Ext.trans eB e0_1
 have hfhb0_1 : Fresh h0_0.size [h0_0.size] := Fresh.one _
 have hlhb0_1 := one_lt (show h0_0.size < h0_1.size by omega)
 try simp -implicitDefEqProofs (disch := first | decide | assumption | omega) only [go_sem, wrap_id, sbs]
 refine op_alloc (cs := elA z8) (by kernel_rfl) ?_
 intro h0_2 e0_2 hb0_2 z0_2
 replace hb0_0 := BoxAt.ext hb0_0 e0_2
 replace hb0_1 := BoxAt.ext hb0_1 e0_2
 have := Ext.size e0_2
 replace eB := Ext.trans eB e0_2
 have hfhb0_2 : Fresh h0_1.size [h0_1.size] := Fresh.one _
 have hlhb0_2 := one_lt (show h0_1.size < h0_2.size by omega)
 try simp -implicitDefEqProofs (disch := first | decide | assumption | omega) only [go_sem, BoxAt.elC hb0_2, BoxAt.elL hb0_2, wrap_id, sbs]
 refine hK _ _ ?_
 clear hK K
 refine den_seq ?_
 refine den_region TTok ?_
 intro K hK
 simp -implicitDefEqProofs (disch := first | decide | assumption | omega) only [go_sem, wrap_id, sbs]
 refine op_alloc (cs := elA z8) (by kernel_rfl) ?_
 intro h1_1 e1_1 hb1_1 z1_1
 replace hb0_0 := BoxAt.ext hb0_0 e1_1
 replace hb0_1 := BoxAt.ext hb0_1 e1_1
 replace hb0_2 := BoxAt.ext hb0_2 e1_1
 have := Ext.size e1_1
 replace eB := Ext.trans eB e1_1
 have hfhb1_1 : Fresh h0_2.size [h0_2.size] := Fresh.one _
 have hlhb1_1 := one_lt (show h0_2.size < h1_1.size by omega)
 try simp -implicitDefEqProofs (disch := first | decide | assumption | omega) only [go_sem, BoxAt.elC hb0_2, BoxAt.elL hb0_2, wrap_id, sbs]
 refine op_storeB (o := 0) (cs' := elA z8) st30 hb1_1 rfl rfl (elA_sz _) (by rw [elA_sz]; decide) elA_one elA_all ?_
 intro h1_2 hb1_1 c1_2
 replace hb0_0 := BoxAt.chgA hb0_0 c1_2 (apart_lt hlhb0_0 hfhb1_1 (by omega))
 replace hb0_1 := BoxAt.chgA hb0_1 c1_2 (apart_lt hlhb0_1 hfhb1_1 (by omega))
 replace hb0_2 := BoxAt.chgA hb0_2 c1_2 (apart_lt hlhb0_2 hfhb1_1 (by omega))
 have := c1_2.size
 replace eB := Ext.then eB c1_2 (ge_of hfhb1_1 (by omega))
 try simp -implicitDefEqProofs (disch := first | decide | assumption | omega) only [go_sem, BoxAt.elC hb0_2, BoxAt.elL hb0_2, wrap_id, sbs]
 refine hK _ _ ?_
 clear hK K
 refine den_seq ?_
 refine den_seq ?_
 refine den_region TTok ?_
 intro K hK
 simp -implicitDefEqProofs (disch := first | decide | assumption | omega) only [go_sem, BoxAt.elC hb0_1, BoxAt.elL hb0_1, wrap_id, sbs]
 refine hK _ _ ?_
 clear hK K
 refine den_block ?_
 refine den_sel [10, 2, 4, 5, 9] ?_
 intro env_1
 simp only [go_sem]
 refine den_loopS (σ := Nat) (fun st_ => [(10, .int .i64 (st_ : Int))]) (fun st_ H => (st_ ≤ 8) ∧ (BoxAt H (h0_2.size) (elA (dfI X.p X.dif u st_)) 30) ∧ (Chg [h0_2.size] h1_2 H)) (fun st_ => 8 - st_) 0 ?_ ?_
 ·exact ⟨by first | (simp; done) | (dsimp only; omega) | (simp; omega), hb1_1, Chg.refl _ _⟩
 ·rintro i h4 ee3 ⟨hi0, hbx5, cL2⟩
  replace hb0_0 := BoxAt.chgA hb0_0 cL2 (apart_lt hlhb0_0 hfhb1_1 (by omega))
  replace hb0_1 := BoxAt.chgA hb0_1 cL2 (apart_lt hlhb0_1 hfhb1_1 (by omega))
  replace hb0_2 := BoxAt.chgA hb0_2 cL2 (apart_lt hlhb0_2 hfhb1_1 (by omega))
  have := cL2.size
  replace eB := Ext.then eB cL2 (ge_of hfhb1_1 (by omega))
  have hfhbx5 := hfhb1_1
  have hlhbx5 := hlhb1_1
  simp only [List.cons_append, List.nil_append]
  refine den_seq ?_
  refine den_region TTok ?_
  intro K hK
  simp -implicitDefEqProofs (disch := first | decide | assumption | omega) only [go_sem, wrap_id, sbs]
  refine hK _ _ ?_
  clear hK K
  refine den_seq ?_
  refine den_cond rfl (fun c0 => ?_) (fun c0 => ?_)
  ·try simp only [ddA] at c0
   refine den_skip ?_
   refine den_seq ?_
   refine den_block ?_
   refine den_seq ?_
   refine den_region TTok ?_
   intro K hK
   simp -implicitDefEqProofs (disch := first | decide | assumption | omega) only [go_sem, elA_at, ix30, wrap_id, sbs]
   refine hK _ _ ?_
   clear hK K
   have hui := hu i
   refine den_draw TTok mixed [9] [(0, true), (1, true), (2, true), (3, true), (4, true), (5, true), (6, true), (7, true), (8, false), (9, false)] (by kernel_rfl) ?_
   intro K hK
   simp -implicitDefEqProofs (disch := first | decide | assumption | omega) only [go_sem, Int.toNat_zero, T2, T5, fa34_4, ia31, BoxAt.dgs hb0_0, BoxAt.elC hbx5, BoxAt.elL hbx5, wrap_id, sbs]
   try simp -implicitDefEqProofs (disch := first | decide | assumption | omega) only [go_sem, BoxAt.elC hb0_2, BoxAt.elL hb0_2, wrap_id, sbs]
   refine CallA.mono (iPls_ok  X (dfI X.p X.dif u i) (X.dif i) (u i) _  (by omega) (by first | assumption | exact e8_by _ | exact By.z8 | exact hBd _ | exact hBt _ _ | exact tmJ_by (by omega) (tmI_by (by omega) _) _ | exact timesP_by (by omega) | exact dfI_by (by omega) _ | exact plusN_by (by omega) (timesP_by (by omega)) | exact dfI_by (by omega) 8) (by first | assumption | exact e8_by _ | exact By.z8 | exact hBd _ | exact hBt _ _ | exact tmJ_by (by omega) (tmI_by (by omega) _) _ | exact timesP_by (by omega) | exact dfI_by (by omega) _ | exact plusN_by (by omega) (timesP_by (by omega)) | exact dfI_by (by omega) 8) (by omega)) ?_
   intro v_ h5_8
   rintro ⟨rfl, e5_8⟩
   replace hb0_0 := BoxAt.ext hb0_0 e5_8
   replace hb0_2 := BoxAt.ext hb0_2 e5_8
   replace hbx5 := BoxAt.ext hbx5 e5_8
   have := Ext.size e5_8
   replace eB := Ext.trans eB e5_8
   replace cL2 := Chg.stepE cL2 e5_8
   try simp (disch := decide) only [outv_some, outv_none, put_puts]
   refine plK_pres (Ext.pres e5_8) ?_
   try simp -implicitDefEqProofs (disch := first | decide | assumption | omega) only [go_sem, BoxAt.elC hb0_2, BoxAt.elL hb0_2, wrap_id, sbs]
   refine op_storeB (o := 0) (cs' := elA (plusN X.p (dfI X.p X.dif u i) (X.dif i) (u i) 8)) st30 hbx5 rfl rfl (elA_sz _) (by rw [elA_sz]; decide) elA_one elA_all ?_
   intro h5_9 hbx5 c5_9
   replace hb0_0 := BoxAt.chgA hb0_0 c5_9 (apart_lt hlhb0_0 hfhbx5 (by omega))
   replace hb0_2 := BoxAt.chgA hb0_2 c5_9 (apart_lt hlhb0_2 hfhbx5 (by omega))
   have := c5_9.size
   replace eB := Ext.then eB c5_9 (ge_of hfhbx5 (by omega))
   replace cL2 := Chg.step cL2 c5_9 Sub.refl
   try simp (disch := decide) only [outv_some, outv_none, put_puts]
   refine plK_last (by decide) ?_
   try simp -implicitDefEqProofs (disch := first | decide | assumption | omega) only [go_sem, BoxAt.elC hb0_2, BoxAt.elL hb0_2, wrap_id, sbs]
   refine hK _ _ ?_
   clear hK K
   refine den_blk ?_
   refine den_region TTok ?_
   intro K hK
   simp -implicitDefEqProofs (disch := first | decide | assumption | omega) only [go_sem, wrap_id, sbs]
   refine hK _ _ ?_
   clear hK K
   refine den_stop ?_
   rw [dfI_step] at hbx5
   exact ⟨i + 1, by simp [HasL, puts_at], ⟨by first | omega | (dsimp only; omega), hbx5, cL2⟩, by first | omega | (dsimp only; omega)⟩
  ·try simp only [ddA] at c0
   refine den_exit ?_
   refine denX_code ?_
   refine denX_stop ?_
   refine denX_hit ?_
   refine den_seq ?_
   refine den_region TTok ?_
   intro K hK
   simp -implicitDefEqProofs (disch := first | decide | assumption | omega) only [go_sem, BoxAt.elC hbx5, BoxAt.elL hbx5, wrap_id, sbs]
   refine op_storeB (o := 0) (cs' := elA (dfI X.p X.dif u i)) st30 hb0_2 rfl rfl (elA_sz _) (by rw [elA_sz]; decide) elA_one elA_all ?_
   intro h7_1 hb0_2 c7_1
   replace hbx5 := BoxAt.chgA hbx5 c7_1 (apart_gt hfhbx5 hlhb0_2 (by omega))
   have := c7_1.size
   replace eB := Ext.then eB c7_1 (ge_of hfhb0_2 (by omega))
   try simp -implicitDefEqProofs (disch := first | decide | assumption | omega) only [go_sem, BoxAt.elC hb0_2, BoxAt.elL hb0_2, wrap_id, sbs]
   refine hK _ _ ?_
   clear hK K
   refine den_ret ?_
   simp -implicitDefEqProofs (disch := first | decide | assumption | omega) only [go_sem, BoxAt.elC hb0_2, BoxAt.elL hb0_2, wrap_id, sbs, resP_c1, ld30]
   rw [show i = 8 by omega]
   exact ⟨by first | rfl | trivial, eB⟩

set_option maxRecDepth 100000 in
theorem iLies_ok (X : Dg) (u : Nat → Int) (d : Int) (l : Int) (h : Heap)   : CallA Try.prog 88 #[.agg (dgA X), .agg (elA u), .int .i64 d, .int .i64 l] h fun v' h' => v' = .bool (liesB X u d l 8) ∧ Ext h h' := by
 refine callA_intro TTok (args := [_, _, _, _]) Try.func88 (by kernel_rfl) rfl 35 rfl (by simp) [.tmp 8] rfl ?_
 simp only [idxs, Nat.reduceAdd]
 refine den_seq ?_
 refine den_region TTok ?_
 intro K hK
 simp -implicitDefEqProofs (disch := first | decide | assumption | omega) only [go_sem, wrap_id, sbs]
 refine op_box (cs := dgA X) rfl ?_
 intro h0_0 e0_0 hb0_0 z0_0
 have := Ext.size e0_0
 have eB := e0_0
 have hfhb0_0 : Fresh h.size [h.size] := Fresh.one _
 have hlhb0_0 := one_lt (show h.size < h0_0.size by omega)
 try simp -implicitDefEqProofs (disch := first | decide | assumption | omega) only [go_sem, wrap_id, sbs]
 refine op_box (cs := elA u) rfl ?_
 intro h0_1 e0_1 hb0_1 z0_1
 replace hb0_0 := BoxAt.ext hb0_0 e0_1
 have := Ext.size e0_1
 replace eB := Ext.trans eB e0_1
 have hfhb0_1 : Fresh h0_0.size [h0_0.size] := Fresh.one _
 have hlhb0_1 := one_lt (show h0_0.size < h0_1.size by omega)
 try simp -implicitDefEqProofs (disch := first | decide | assumption | omega) only [go_sem, wrap_id, sbs]
 refine hK _ _ ?_
 clear hK K
 refine den_seq ?_
 refine den_seq ?_
 refine den_region TTok ?_
 intro K hK
 simp -implicitDefEqProofs (disch := first | decide | assumption | omega) only [go_sem, BoxAt.elC hb0_1, BoxAt.elL hb0_1, wrap_id, sbs]
 refine hK _ _ ?_
 clear hK K
 refine den_block ?_
 refine den_sel [12, 2, 3, 4, 11] ?_
 intro env_1
 simp only [go_sem]
 refine den_loopS (σ := Nat) (fun st_ => [(12, .int .i64 (st_ : Int))]) (fun st_ H => (st_ ≤ 8) ∧ (∀ a, a < st_ → ¬ u a = 0 → X.deg a = d ∧ X.lev a ≤ l) ∧ (Ext h0_1 H)) (fun st_ => 8 - st_) 0 ?_ ?_
 ·exact ⟨by omega, fun a h => by omega, Ext.refl _⟩
 ·rintro i h4 ee3 ⟨hi, hz, cL2⟩
  replace hb0_0 := BoxAt.ext hb0_0 cL2
  replace hb0_1 := BoxAt.ext hb0_1 cL2
  have := Ext.size cL2
  replace eB := Ext.trans eB cL2
  simp only [List.cons_append, List.nil_append]
  refine den_seq ?_
  refine den_region TTok ?_
  intro K hK
  simp -implicitDefEqProofs (disch := first | decide | assumption | omega) only [go_sem, wrap_id, sbs]
  refine hK _ _ ?_
  clear hK K
  refine den_seq ?_
  refine den_cond rfl (fun c0 => ?_) (fun c0 => ?_)
  ·try simp only [ddA, Bool.or_eq_false_iff, Bool.and_eq_false_iff] at c0
   refine den_skip ?_
   refine den_seq ?_
   refine den_block ?_
   refine den_seq ?_
   refine den_region TTok ?_
   intro K hK
   simp -implicitDefEqProofs (disch := first | decide | assumption | omega) only [go_sem, elA_at, ix30, wrap_id, sbs]
   refine hK _ _ ?_
   clear hK K
   refine den_seq ?_
   refine den_mergeH [(33, .bool ((((u i) != (0 : Int)) && (((X.deg i) != d) || (decide (l < (X.lev i)))))))] [2, 3, 4, 11, 12] ?_ ?_
    -- a way
   ·refine den_region TTok ?_
    intro K hK
    simp -implicitDefEqProofs (disch := first | decide | assumption | (simp (disch := decide) only [gvA, eq_self, if_true, if_false, Bool.false_eq_true]; done) | omega) only [go_sem, wrap_id, sbs]
    refine opsP_T (by simp (disch := decide) only [gvA, eq_self, if_true, if_false, Bool.false_eq_true]; rfl) (fun g5 => ?_) (fun g5 => ?_)
    ·try simp -implicitDefEqProofs (disch := first | decide | assumption | (simp (disch := decide) only [gvA, eq_self, if_true, if_false, Bool.false_eq_true, g5]; done) | omega) only [go_sem, Int.toNat_zero, fa34_2, ia22, ld2, BoxAt.dgs hb0_0, wrap_id, sbs, g5, eq_self, if_true, if_false, Bool.false_eq_true]
     refine opsP_F (by simp (disch := decide) only [gvA, eq_self, if_true, if_false, Bool.false_eq_true, g5]; rfl) (fun g6 => ?_) (fun g6 => ?_)
     ·try simp -implicitDefEqProofs (disch := first | decide | assumption | (simp (disch := decide) only [gvA, eq_self, if_true, if_false, Bool.false_eq_true, g5, g6]; done) | omega) only [go_sem, Int.toNat_zero, fa34_3, ia22, ld2, BoxAt.dgs hb0_0, wrap_id, sbs, g5, g6, eq_self, if_true, if_false, Bool.false_eq_true]
      refine hK _ _ ?_
      clear hK K
      refine den_stop ?_
      refine ⟨?_, rfl⟩
      first | (simp (disch := decide) only [go_sem, g5, g6, eq_self, Bool.true_and, Bool.and_true, Bool.false_and, Bool.and_false, Bool.true_or, Bool.or_true, Bool.false_or, Bool.or_false, if_true, if_false, Bool.false_eq_true]; done) | simp [HasL, sel, puts_at, g5, g6]
     ·try simp -implicitDefEqProofs (disch := first | decide | assumption | (simp (disch := decide) only [gvA, eq_self, if_true, if_false, Bool.false_eq_true, g5, g6]; done) | omega) only [go_sem, wrap_id, sbs, g5, g6, eq_self, if_true, if_false, Bool.false_eq_true]
      refine hK _ _ ?_
      clear hK K
      refine den_stop ?_
      refine ⟨?_, rfl⟩
      first | (simp (disch := decide) only [go_sem, g5, g6, eq_self, Bool.true_and, Bool.and_true, Bool.false_and, Bool.and_false, Bool.true_or, Bool.or_true, Bool.false_or, Bool.or_false, if_true, if_false, Bool.false_eq_true]; done) | simp [HasL, sel, puts_at, g5, g6]
    ·try simp -implicitDefEqProofs (disch := first | decide | assumption | (simp (disch := decide) only [gvA, eq_self, if_true, if_false, Bool.false_eq_true, g5]; done) | omega) only [go_sem, wrap_id, sbs, g5, eq_self, if_true, if_false, Bool.false_eq_true]
     try simp -implicitDefEqProofs (disch := first | decide | assumption | (simp (disch := decide) only [gvA, eq_self, if_true, if_false, Bool.false_eq_true, g5]; done) | omega) only [go_sem, wrap_id, sbs, g5, eq_self, if_true, if_false, Bool.false_eq_true]
     refine hK _ _ ?_
     clear hK K
     refine den_stop ?_
     refine ⟨?_, rfl⟩
     first | (simp (disch := decide) only [go_sem, g5, eq_self, Bool.true_and, Bool.and_true, Bool.false_and, Bool.and_false, Bool.true_or, Bool.or_true, Bool.false_or, Bool.or_false, if_true, if_false, Bool.false_eq_true]; done) | simp [HasL, sel, puts_at, g5]
   intro en7
   simp (disch := decide) only [go_sem]
   refine den_cond rfl (fun c1 => ?_) (fun c1 => ?_)
   ·try simp only [ddA, Bool.or_eq_false_iff, Bool.and_eq_false_iff] at c1
    refine den_seq ?_
    refine den_region TTok ?_
    intro K hK
    simp -implicitDefEqProofs (disch := first | decide | assumption | omega) only [go_sem, wrap_id, sbs]
    refine hK _ _ ?_
    clear hK K
    refine den_ret ?_
    simp (disch := decide) only [resP_1, puts_same, puts_ne]
    exact ⟨vbool (liesB_n (fun hh => by have h1 := hh i (by omega); have h2 := c1; omega)), eB⟩
   ·try simp only [ddA, Bool.or_eq_false_iff, Bool.and_eq_false_iff] at c1
    refine den_skip ?_
    refine den_blk ?_
    refine den_region TTok ?_
    intro K hK
    simp -implicitDefEqProofs (disch := first | decide | assumption | omega) only [go_sem, wrap_id, sbs]
    refine hK _ _ ?_
    clear hK K
    refine den_stop ?_
    exact ⟨i + 1, by simp [HasL, puts_at], ⟨by first | omega | (dsimp only; omega), fun a ha h0 => by
 by_cases hai : a < i
 ·exact hz a hai h0
 ·have e : a = i := by omega
  subst e; have h1 := c1; omega, cL2⟩, by first | omega | (dsimp only; omega)⟩
  ·try simp only [ddA, Bool.or_eq_false_iff, Bool.and_eq_false_iff] at c0
   refine den_exit ?_
   refine denX_code ?_
   refine denX_stop ?_
   refine denX_hit ?_
   refine den_seq ?_
   refine den_region TTok ?_
   intro K hK
   simp -implicitDefEqProofs (disch := first | decide | assumption | omega) only [go_sem, wrap_id, sbs]
   refine hK _ _ ?_
   clear hK K
   refine den_ret ?_
   simp (disch := decide) only [resP_1, puts_same, puts_ne]
   exact ⟨vbool (liesB_y (fun a ha => hz a (by omega))), eB⟩
end Go.Proofs.Ytacajcjibhifmaa

namespace Go.Proofs.Ytacajcjibhifmaa
open Go
theorem kv_bnd {k y : Int} (hk : -3000 ≤ k ∧ k ≤ 3000) (hy : 0 ≤ y ∧ y ≤ 255) : -765000 ≤ k * y ∧ k * y ≤ 765000 := by
 have h1 := Int.mul_le_mul hk.2 hy.2 hy.1 (show (0 : Int) ≤ 3000 by omega)
 have h2 := Int.mul_le_mul (show -k ≤ 3000 by omega) hy.2 hy.1 (show (0 : Int) ≤ 3000 by omega)
 rw [Int.neg_mul] at h2
 omega
theorem by_mul7 {p : Int} {u v : Nat → Int} (hp : p ≤ 7) (hu : By u) (hv : By v) (hu7 : ∀ i, i < 8 → u i < p) (hv7 : ∀ i, i < 8 → v i < p) {i j : Nat} (hi : i < 8) (hj : j < 8) : 0 ≤ u i * v j ∧ u i * v j ≤ 36 := by
 have h1 := hu i
 have h2 := hv j
 have h5 := hu7 i hi
 have h6 := hv7 j hj
 have h3 := Int.mul_nonneg h1.1 h2.1
 have h4 := Int.mul_le_mul (show u i ≤ 6 by omega) (show v j ≤ 6 by omega) h2.1 (show (0 : Int) ≤ 6 by omega)
 omega

set_option maxRecDepth 100000 in
theorem sSm_ok (p : Int) (s : Int) (u : Nat → Int) (h : Heap)  (hu : By u) : CallA Try.prog 84 #[.int .i64 p, .int .i64 s, .agg (elA u)] h fun v' h' => v' = .bool (isElB p s u) ∧ Ext h h' := by
 refine callA_intro TTok (args := [_, _, _]) Try.func84 (by kernel_rfl) rfl 29 rfl (by simp) [.tmp 6] rfl ?_
 simp only [idxs, Nat.reduceAdd]
 refine den_seq ?_
 refine den_region TTok ?_
 intro K hK
 simp -implicitDefEqProofs (disch := first | decide | assumption | omega) only [go_sem, wrap_id, sbs]
 refine op_box (cs := elA u) rfl ?_
 intro h0_0 e0_0 hb0_0 z0_0
 have := Ext.size e0_0
 have eB := e0_0
 have hfhb0_0 : Fresh h.size [h.size] := Fresh.one _
 have hlhb0_0 := one_lt (show h.size < h0_0.size by omega)
 try simp -implicitDefEqProofs (disch := first | decide | assumption | omega) only [go_sem, wrap_id, sbs]
 refine hK _ _ ?_
 clear hK K
 refine den_seq ?_
 refine den_seq ?_
 refine den_region TTok ?_
 intro K hK
 simp -implicitDefEqProofs (disch := first | decide | assumption | omega) only [go_sem, wrap_id, sbs]
 refine hK _ _ ?_
 clear hK K
 refine den_block ?_
 refine den_sel [7, 0, 1, 5] ?_
 intro env_1
 simp only [go_sem]
 refine den_loopS (σ := Nat) (fun st_ => [(7, .int .i64 (st_ : Int))]) (fun st_ H => (st_ ≤ 8) ∧ (∀ a, a < st_ → u a < p ∧ (s ≤ (a : Int) → u a = 0)) ∧ (Ext h0_0 H)) (fun st_ => 8 - st_) 0 ?_ ?_
 ·exact ⟨by omega, fun a h => by omega, Ext.refl _⟩
 ·rintro i h4 ee3 ⟨hi, hz, cL2⟩
  replace hb0_0 := BoxAt.ext hb0_0 cL2
  have := Ext.size cL2
  replace eB := Ext.trans eB cL2
  simp only [List.cons_append, List.nil_append]
  have hui := hu i
  refine den_seq ?_
  refine den_seq ?_
  refine den_region TTok ?_
  intro K hK
  simp -implicitDefEqProofs (disch := first | decide | assumption | omega) only [go_sem, wrap_id, sbs]
  refine hK _ _ ?_
  clear hK K
  refine den_cond rfl (fun c0 => ?_) (fun c0 => ?_)
  ·try simp only [ddA, Bool.or_eq_false_iff, Bool.and_eq_false_iff] at c0
   refine den_skip ?_
   refine den_seq ?_
   refine den_block ?_
   refine den_seq ?_
   refine den_mergeH [(28, .bool (((decide (p ≤ (u i))) || ((decide (s ≤ (i : Int))) && ((u i) != (0 : Int))))))] [0, 1, 5, 7] ?_ ?_
    -- a way
   ·refine den_region TTok ?_
    intro K hK
    simp -implicitDefEqProofs (disch := first | decide | assumption | (simp (disch := decide) only [gvA, eq_self, if_true, if_false, Bool.false_eq_true]; done) | omega) only [go_sem, Int.toNat_zero, T2, T5, ia30, ld5, BoxAt.elC hb0_0, BoxAt.elL hb0_0, wrap_id, sbs]
    refine opsP_F (by simp (disch := decide) only [gvA, eq_self, if_true, if_false, Bool.false_eq_true]; rfl) (fun g5 => ?_) (fun g5 => ?_)
    ·try simp -implicitDefEqProofs (disch := first | decide | assumption | (simp (disch := decide) only [gvA, eq_self, if_true, if_false, Bool.false_eq_true, g5]; done) | omega) only [go_sem, wrap_id, sbs, g5, eq_self, if_true, if_false, Bool.false_eq_true]
     refine opsP_T (by simp (disch := decide) only [gvA, eq_self, if_true, if_false, Bool.false_eq_true, g5]; rfl) (fun g6 => ?_) (fun g6 => ?_)
     ·try simp -implicitDefEqProofs (disch := first | decide | assumption | (simp (disch := decide) only [gvA, eq_self, if_true, if_false, Bool.false_eq_true, g5, g6]; done) | omega) only [go_sem, Int.toNat_zero, ia30, ld5, BoxAt.elC hb0_0, BoxAt.elL hb0_0, wrap_id, sbs, g5, g6, eq_self, if_true, if_false, Bool.false_eq_true]
      refine hK _ _ ?_
      clear hK K
      refine den_stop ?_
      refine ⟨?_, rfl⟩
      first | (simp (disch := decide) only [go_sem, g5, g6, eq_self, Bool.true_and, Bool.and_true, Bool.false_and, Bool.and_false, Bool.true_or, Bool.or_true, Bool.false_or, Bool.or_false, if_true, if_false, Bool.false_eq_true]; done) | simp [HasL, sel, puts_at, g5, g6]
     ·try simp -implicitDefEqProofs (disch := first | decide | assumption | (simp (disch := decide) only [gvA, eq_self, if_true, if_false, Bool.false_eq_true, g5, g6]; done) | omega) only [go_sem, wrap_id, sbs, g5, g6, eq_self, if_true, if_false, Bool.false_eq_true]
      refine hK _ _ ?_
      clear hK K
      refine den_stop ?_
      refine ⟨?_, rfl⟩
      first | (simp (disch := decide) only [go_sem, g5, g6, eq_self, Bool.true_and, Bool.and_true, Bool.false_and, Bool.and_false, Bool.true_or, Bool.or_true, Bool.false_or, Bool.or_false, if_true, if_false, Bool.false_eq_true]; done) | simp [HasL, sel, puts_at, g5, g6]
    ·try simp -implicitDefEqProofs (disch := first | decide | assumption | (simp (disch := decide) only [gvA, eq_self, if_true, if_false, Bool.false_eq_true, g5]; done) | omega) only [go_sem, wrap_id, sbs, g5, eq_self, if_true, if_false, Bool.false_eq_true]
     try simp -implicitDefEqProofs (disch := first | decide | assumption | (simp (disch := decide) only [gvA, eq_self, if_true, if_false, Bool.false_eq_true, g5]; done) | omega) only [go_sem, wrap_id, sbs, g5, eq_self, if_true, if_false, Bool.false_eq_true]
     refine hK _ _ ?_
     clear hK K
     refine den_stop ?_
     refine ⟨?_, rfl⟩
     first | (simp (disch := decide) only [go_sem, g5, eq_self, Bool.true_and, Bool.and_true, Bool.false_and, Bool.and_false, Bool.true_or, Bool.or_true, Bool.false_or, Bool.or_false, if_true, if_false, Bool.false_eq_true]; done) | simp [HasL, sel, puts_at, g5]
   intro en7
   simp (disch := decide) only [go_sem]
   refine den_cond rfl (fun c1 => ?_) (fun c1 => ?_)
   ·try simp only [ddA, Bool.or_eq_false_iff, Bool.and_eq_false_iff] at c1
    refine den_seq ?_
    refine den_region TTok ?_
    intro K hK
    simp -implicitDefEqProofs (disch := first | decide | assumption | omega) only [go_sem, wrap_id, sbs]
    refine hK _ _ ?_
    clear hK K
    refine den_ret ?_
    simp (disch := decide) only [resP_1, puts_same, puts_ne]
    exact ⟨vbool (isElB_n (fun hh => by have h1 := hh i (by omega); have h2 := c1; omega)), eB⟩
   ·try simp only [ddA, Bool.or_eq_false_iff, Bool.and_eq_false_iff] at c1
    refine den_skip ?_
    refine den_blk ?_
    refine den_region TTok ?_
    intro K hK
    simp -implicitDefEqProofs (disch := first | decide | assumption | omega) only [go_sem, wrap_id, sbs]
    refine hK _ _ ?_
    clear hK K
    refine den_stop ?_
    exact ⟨i + 1, by simp [HasL, puts_at], ⟨by first | omega | (dsimp only; omega), fun a ha => by
 by_cases hai : a < i
 ·exact hz a hai
 ·rw [show a = i by omega]; have h1 := c1; exact ⟨by omega, fun h2 => by omega⟩, cL2⟩, by first | omega | (dsimp only; omega)⟩
  ·try simp only [ddA, Bool.or_eq_false_iff, Bool.and_eq_false_iff] at c0
   refine den_exit ?_
   refine denX_code ?_
   refine denX_stop ?_
   refine denX_hit ?_
   refine den_seq ?_
   refine den_region TTok ?_
   intro K hK
   simp -implicitDefEqProofs (disch := first | decide | assumption | omega) only [go_sem, wrap_id, sbs]
   refine hK _ _ ?_
   clear hK K
   refine den_ret ?_
   simp (disch := decide) only [resP_1, puts_same, puts_ne]
   exact ⟨vbool (isElB_y (fun a ha => hz a (by omega))), eB⟩

set_option maxRecDepth 100000 in
theorem sUni_ok (n : Int) (h : Heap)  (hn : 0 ≤ n ∧ n < 8) : CallA Try.prog 70 #[.int .i64 n] h fun v' h' => v' = .agg (elA (e8 n.toNat)) ∧ Ext h h' := by
 refine callA_intro TTok (args := [_]) Try.func70 (by kernel_rfl) rfl 8 rfl (by simp) [.cell 2 30] rfl ?_
 simp only [idxs, Nat.reduceAdd]
 refine den_seq ?_
 refine den_region TTok ?_
 intro K hK
 simp -implicitDefEqProofs (disch := first | decide | assumption | omega) only [go_sem, wrap_id, sbs]
 refine op_alloc (cs := elA z8) (by kernel_rfl) ?_
 intro h0_0 e0_0 hb0_0 z0_0
 have := Ext.size e0_0
 have eB := e0_0
 have hfhb0_0 : Fresh h.size [h.size] := Fresh.one _
 have hlhb0_0 := one_lt (show h.size < h0_0.size by omega)
 try simp -implicitDefEqProofs (disch := first | decide | assumption | omega) only [go_sem, BoxAt.elC hb0_0, BoxAt.elL hb0_0, wrap_id, sbs]
 refine hK _ _ ?_
 clear hK K
 refine den_seq ?_
 refine den_region TTok ?_
 intro K hK
 simp -implicitDefEqProofs (disch := first | decide | assumption | omega) only [go_sem, wrap_id, sbs]
 refine op_alloc (cs := elA z8) (by kernel_rfl) ?_
 intro h1_1 e1_1 hb1_1 z1_1
 replace hb0_0 := BoxAt.ext hb0_0 e1_1
 have := Ext.size e1_1
 replace eB := Ext.trans eB e1_1
 have hfhb1_1 : Fresh h0_0.size [h0_0.size] := Fresh.one _
 have hlhb1_1 := one_lt (show h0_0.size < h1_1.size by omega)
 try simp -implicitDefEqProofs (disch := first | decide | assumption | omega) only [go_sem, BoxAt.elC hb0_0, BoxAt.elL hb0_0, wrap_id, sbs]
 refine op_storeB (o := 0) (cs' := elA z8) st30 hb1_1 rfl rfl (elA_sz _) (by rw [elA_sz]; decide) elA_one elA_all ?_
 intro h1_2 hb1_1 c1_2
 replace hb0_0 := BoxAt.chgA hb0_0 c1_2 (apart_lt hlhb0_0 hfhb1_1 (by omega))
 have := c1_2.size
 replace eB := Ext.then eB c1_2 (ge_of hfhb1_1 (by omega))
 try simp -implicitDefEqProofs (disch := first | decide | assumption | omega) only [go_sem, BoxAt.elC hb0_0, BoxAt.elL hb0_0, wrap_id, sbs]
 refine hK _ _ ?_
 clear hK K
 refine den_seq ?_
 refine den_region TTok ?_
 intro K hK
 simp -implicitDefEqProofs (disch := first | decide | assumption | omega) only [go_sem, Int.toNat_zero, ia30, BoxAt.elC hb1_1, BoxAt.elL hb1_1, wrap_id, sbs]
 refine op_storeB (o := (n).toNat) (vs := #[.int .u8 (1 : Int)]) (cs' := elA (upd z8 (n).toNat (1 : Int))) st5 hb1_1 rfl rfl rfl (by show _ + 1 ≤ 8; omega) u8_one (elA_upd (by omega)) ?_
 intro h2_2 hb1_1 c2_2
 replace hb0_0 := BoxAt.chgA hb0_0 c2_2 (apart_lt hlhb0_0 hfhb1_1 (by omega))
 have := c2_2.size
 replace eB := Ext.then eB c2_2 (ge_of hfhb1_1 (by omega))
 try simp -implicitDefEqProofs (disch := first | decide | assumption | omega) only [go_sem, BoxAt.elC hb0_0, BoxAt.elL hb0_0, wrap_id, sbs]
 refine hK _ _ ?_
 clear hK K
 refine den_seq ?_
 refine den_region TTok ?_
 intro K hK
 simp -implicitDefEqProofs (disch := first | decide | assumption | omega) only [go_sem, BoxAt.elC hb1_1, BoxAt.elL hb1_1, wrap_id, sbs]
 refine op_storeB (o := 0) (cs' := elA (upd z8 (n).toNat (1 : Int))) st30 hb0_0 rfl rfl (elA_sz _) (by rw [elA_sz]; decide) elA_one elA_all ?_
 intro h3_1 hb0_0 c3_1
 replace hb1_1 := BoxAt.chgA hb1_1 c3_1 (apart_gt hfhb1_1 hlhb0_0 (by omega))
 have := c3_1.size
 replace eB := Ext.then eB c3_1 (ge_of hfhb0_0 (by omega))
 try simp -implicitDefEqProofs (disch := first | decide | assumption | omega) only [go_sem, BoxAt.elC hb0_0, BoxAt.elL hb0_0, wrap_id, sbs]
 refine hK _ _ ?_
 clear hK K
 refine den_ret ?_
 simp -implicitDefEqProofs (disch := first | decide | assumption | omega) only [go_sem, BoxAt.elC hb0_0, BoxAt.elL hb0_0, wrap_id, sbs, resP_c1, ld30]
 exact ⟨by first | rfl | trivial, eB⟩

set_option maxRecDepth 100000 in
set_option maxHeartbeats 4000000 in
theorem sAdd8_ok (p : Int) (u : Nat → Int) (v : Nat → Int) (k : Int) (h : Heap)  (hp : 0 < p ∧ p ≤ 7) (hu : By u) (hv : By v) (hk : -3000 ≤ k ∧ k ≤ 3000) : CallA Try.prog 68 #[.int .i64 p, .agg (elA u), .agg (elA v), .int .i64 k] h fun v' h' => v' = .agg (elA (plusN p u v k 8)) ∧ Ext h h' := by
 refine callA_intro TTok (args := [_, _, _, _]) Try.func68 (by kernel_rfl) rfl 31 rfl (by simp) [.cell 8 30] rfl ?_
 simp only [idxs, Nat.reduceAdd]
 refine den_seq ?_
 refine den_region TTok ?_
 intro K hK
 simp -implicitDefEqProofs (disch := first | decide | assumption | omega) only [go_sem, wrap_id, sbs]
 refine op_box (cs := elA u) rfl ?_
 intro h0_0 e0_0 hb0_0 z0_0
 have := Ext.size e0_0
 have eB := e0_0
 have hfhb0_0 : Fresh h.size [h.size] := Fresh.one _
 have hlhb0_0 := one_lt (show h.size < h0_0.size by omega)
 try simp -implicitDefEqProofs (disch := first | decide | assumption | omega) only [go_sem, wrap_id, sbs]
 refine op_box (cs := elA v) rfl ?_
 intro h0_1 e0_1 hb0_1 z0_1
 replace hb0_0 := BoxAt.ext hb0_0 e0_1
 have := Ext.size e0_1
 replace eB := Ext.trans eB e0_1
 have hfhb0_1 : Fresh h0_0.size [h0_0.size] := Fresh.one _
 have hlhb0_1 := one_lt (show h0_0.size < h0_1.size by omega)
 try simp -implicitDefEqProofs (disch := first | decide | assumption | omega) only [go_sem, wrap_id, sbs]
 refine op_alloc (cs := elA z8) (by kernel_rfl) ?_
 intro h0_2 e0_2 hb0_2 z0_2
 replace hb0_0 := BoxAt.ext hb0_0 e0_2
 replace hb0_1 := BoxAt.ext hb0_1 e0_2
 have := Ext.size e0_2
 replace eB := Ext.trans eB e0_2
 have hfhb0_2 : Fresh h0_1.size [h0_1.size] := Fresh.one _
 have hlhb0_2 := one_lt (show h0_1.size < h0_2.size by omega)
 try simp -implicitDefEqProofs (disch := first | decide | assumption | omega) only [go_sem, BoxAt.elC hb0_2, BoxAt.elL hb0_2, wrap_id, sbs]
 refine hK _ _ ?_
 clear hK K
 refine den_seq ?_
 refine den_seq ?_
 refine den_region TTok ?_
 intro K hK
 simp -implicitDefEqProofs (disch := first | decide | assumption | omega) only [go_sem, wrap_id, sbs]
 refine hK _ _ ?_
 clear hK K
 refine den_block ?_
 refine den_sel [9, 0, 3, 5, 6, 8] ?_
 intro env_1
 simp only [go_sem]
 refine den_loopS (σ := Nat) (fun st_ => [(9, .int .i64 (st_ : Int))]) (fun st_ H => (st_ ≤ 8) ∧ (BoxAt H (h.size) (elA (plusN p u v k st_)) 30) ∧ (Chg [h.size] h0_2 H)) (fun st_ => 8 - st_) 0 ?_ ?_
 ·exact ⟨by first | (simp; done) | (dsimp only; omega) | (simp; omega), by rw [plusN_0]; exact hb0_0, Chg.refl _ _⟩
 ·rintro i h4 ee3 ⟨hi0, hbx5, cL2⟩
  replace hb0_1 := BoxAt.chgA hb0_1 cL2 (apart_gt hfhb0_1 hlhb0_0 (by omega))
  replace hb0_2 := BoxAt.chgA hb0_2 cL2 (apart_gt hfhb0_2 hlhb0_0 (by omega))
  have := cL2.size
  replace eB := Ext.then eB cL2 (ge_of hfhb0_0 (by omega))
  have hfhbx5 := hfhb0_0
  have hlhbx5 := hlhb0_0
  simp only [List.cons_append, List.nil_append]
  refine den_seq ?_
  refine den_seq ?_
  refine den_region TTok ?_
  intro K hK
  simp -implicitDefEqProofs (disch := first | decide | assumption | omega) only [go_sem, wrap_id, sbs]
  refine hK _ _ ?_
  clear hK K
  refine den_cond rfl (fun c0 => ?_) (fun c0 => ?_)
  ·try simp only [ddA] at c0
   refine den_skip ?_
   refine den_seq ?_
   refine den_block ?_
   have hui := hu i
   have hvi := hv i
   have hpi := plusN_at p u v k i
   have hkb := kv_bnd hk hvi
   have hm0 := Int.emod_nonneg (u i + k * v i) (show p ≠ 0 by omega)
   have hm1 := Int.emod_lt_of_pos (u i + k * v i) hp.1
   refine den_draw TTok mixed [16] [(0, true), (1, true), (2, true), (3, true), (4, true), (5, true), (6, true), (7, true), (8, true), (9, true), (10, true), (11, true), (12, true), (13, false), (14, true), (15, true), (16, false)] (by kernel_rfl) ?_
   intro K hK
   simp -implicitDefEqProofs (disch := first | decide | assumption | omega) only [go_sem, Int.toNat_zero, T2, T5, ia30, ld5, BoxAt.elC hb0_1, BoxAt.elL hb0_1, BoxAt.elC hbx5, BoxAt.elL hbx5, wrap_id, sbs, hpi]
   try simp -implicitDefEqProofs (disch := first | decide | assumption | omega) only [go_sem, BoxAt.elC hb0_2, BoxAt.elL hb0_2, wrap_id, sbs, hpi]
   refine CallA.mono (sMod_ok  p ((u i) + (k * (v i))) _  (by omega) (by omega)) ?_
   intro v_ h4_13
   rintro ⟨rfl, e4_13⟩
   replace hb0_1 := BoxAt.ext hb0_1 e4_13
   replace hb0_2 := BoxAt.ext hb0_2 e4_13
   replace hbx5 := BoxAt.ext hbx5 e4_13
   have := Ext.size e4_13
   replace eB := Ext.trans eB e4_13
   replace cL2 := Chg.stepE cL2 e4_13
   try simp (disch := decide) only [outv_some, outv_none, put_puts]
   refine plK_pres (Ext.pres e4_13) ?_
   try simp -implicitDefEqProofs (disch := first | decide | assumption | omega) only [go_sem, Int.toNat_zero, T2, T5, ia30, BoxAt.elC hbx5, BoxAt.elL hbx5, wrap_id, sbs, hpi]
   refine op_storeB (o := i) (vs := #[.int .u8 (((u i) + (k * (v i))) % p)]) (cs' := elA (upd (plusN p u v k i) i (((u i) + (k * (v i))) % p))) st5 hbx5 rfl rfl rfl (by show _ + 1 ≤ 8; omega) u8_one (elA_upd (by omega)) ?_
   intro h4_16 hbx5 c4_16
   replace hb0_1 := BoxAt.chgA hb0_1 c4_16 (apart_gt hfhb0_1 hlhbx5 (by omega))
   replace hb0_2 := BoxAt.chgA hb0_2 c4_16 (apart_gt hfhb0_2 hlhbx5 (by omega))
   have := c4_16.size
   replace eB := Ext.then eB c4_16 (ge_of hfhbx5 (by omega))
   replace cL2 := Chg.step cL2 c4_16 Sub.refl
   try simp (disch := decide) only [outv_some, outv_none, put_puts]
   refine plK_last (by decide) ?_
   try simp -implicitDefEqProofs (disch := first | decide | assumption | omega) only [go_sem, BoxAt.elC hb0_2, BoxAt.elL hb0_2, wrap_id, sbs, hpi]
   refine hK _ _ ?_
   clear hK K
   refine den_blk ?_
   refine den_region TTok ?_
   intro K hK
   simp -implicitDefEqProofs (disch := first | decide | assumption | omega) only [go_sem, wrap_id, sbs]
   refine hK _ _ ?_
   clear hK K
   refine den_stop ?_
   rw [plusN_step] at hbx5
   exact ⟨i + 1, by simp [HasL, puts_at], ⟨by first | omega | (dsimp only; omega), hbx5, cL2⟩, by first | omega | (dsimp only; omega)⟩
  ·try simp only [ddA] at c0
   refine den_exit ?_
   refine denX_code ?_
   refine denX_stop ?_
   refine denX_hit ?_
   refine den_seq ?_
   refine den_region TTok ?_
   intro K hK
   simp -implicitDefEqProofs (disch := first | decide | assumption | omega) only [go_sem, BoxAt.elC hbx5, BoxAt.elL hbx5, wrap_id, sbs]
   refine op_storeB (o := 0) (cs' := elA (plusN p u v k i)) st30 hb0_2 rfl rfl (elA_sz _) (by rw [elA_sz]; decide) elA_one elA_all ?_
   intro h5_1 hb0_2 c5_1
   replace hbx5 := BoxAt.chgA hbx5 c5_1 (apart_lt hlhbx5 hfhb0_2 (by omega))
   have := c5_1.size
   replace eB := Ext.then eB c5_1 (ge_of hfhb0_2 (by omega))
   try simp -implicitDefEqProofs (disch := first | decide | assumption | omega) only [go_sem, BoxAt.elC hb0_2, BoxAt.elL hb0_2, wrap_id, sbs]
   refine hK _ _ ?_
   clear hK K
   refine den_ret ?_
   simp -implicitDefEqProofs (disch := first | decide | assumption | omega) only [go_sem, BoxAt.elC hb0_2, BoxAt.elL hb0_2, wrap_id, sbs, resP_c1, ld30]
   rw [show i = 8 by omega]
   exact ⟨by first | rfl | trivial, eB⟩

set_option maxRecDepth 100000 in
set_option maxHeartbeats 4000000 in
theorem sTms_ok (X : Dg) (u : Nat → Int) (v : Nat → Int) (h : Heap)  (hp : 0 < X.p ∧ X.p ≤ 7) (hs : 0 ≤ X.s ∧ X.s ≤ 8) (hu : By u) (hv : By v) (hBt : ∀ i j, By (X.tab i j)) (hu7 : ∀ i, i < 8 → u i < X.p) (hv7 : ∀ i, i < 8 → v i < X.p) : CallA Try.prog 50 #[.agg (dgA X), .agg (elA u), .agg (elA v)] h fun v' h' => v' = .agg (elA (timesP X.p X.tab u v X.s.toNat)) ∧ Ext h h' := by
 have hp6 := hp.2
 refine callA_intro TTok (args := [_, _, _]) Try.func50 (by kernel_rfl) rfl 53 rfl (by simp) [.cell 6 30] rfl ?_
 simp only [idxs, Nat.reduceAdd]
 refine den_seq ?_
 refine den_region TTok ?_
 intro K hK
 simp -implicitDefEqProofs (disch := first | decide | assumption | omega) only [go_sem, wrap_id, sbs]
 refine op_box (cs := dgA X) rfl ?_
 intro h0_0 e0_0 hb0_0 z0_0
 have := Ext.size e0_0
 have eB := e0_0
 have hfhb0_0 : Fresh h.size [h.size] := Fresh.one _
 have hlhb0_0 := one_lt (show h.size < h0_0.size by omega)
 try simp -implicitDefEqProofs (disch := first | decide | assumption | omega) only [go_sem, wrap_id, sbs]
 refine op_box (cs := elA u) rfl ?_
 intro h0_1 e0_1 hb0_1 z0_1
 replace hb0_0 := BoxAt.ext hb0_0 e0_1
 have := Ext.size e0_1
 replace eB := Ext.trans eB e0_1
 have hfhb0_1 : Fresh h0_0.size [h0_0.size] := Fresh.one _
 have hlhb0_1 := one_lt (show h0_0.size < h0_1.size by omega)
 try simp -implicitDefEqProofs (disch := first | decide | assumption | omega) only [go_sem, wrap_id, sbs]
 refine op_box (cs := elA v) rfl ?_
 intro h0_2 e0_2 hb0_2 z0_2
 replace hb0_0 := BoxAt.ext hb0_0 e0_2
 replace hb0_1 := BoxAt.ext hb0_1 e0_2
 have := Ext.size e0_2
 replace eB := Ext.trans eB e0_2
 have hfhb0_2 : Fresh h0_1.size [h0_1.size] := Fresh.one _
 have hlhb0_2 := one_lt (show h0_1.size < h0_2.size by omega)
 try simp -implicitDefEqProofs (disch := first | decide | assumption | omega) only [go_sem, wrap_id, sbs]
 refine op_alloc (cs := elA z8) (by kernel_rfl) ?_
 intro h0_3 e0_3 hb0_3 z0_3
 replace hb0_0 := BoxAt.ext hb0_0 e0_3
 replace hb0_1 := BoxAt.ext hb0_1 e0_3
 replace hb0_2 := BoxAt.ext hb0_2 e0_3
 have := Ext.size e0_3
 replace eB := Ext.trans eB e0_3
 have hfhb0_3 : Fresh h0_2.size [h0_2.size] := Fresh.one _
 have hlhb0_3 := one_lt (show h0_2.size < h0_3.size by omega)
 try simp -implicitDefEqProofs (disch := first | decide | assumption | omega) only [go_sem, BoxAt.elC hb0_3, BoxAt.elL hb0_3, wrap_id, sbs]
 refine hK _ _ ?_
 clear hK K
 refine den_seq ?_
 refine den_region TTok ?_
 intro K hK
 simp -implicitDefEqProofs (disch := first | decide | assumption | omega) only [go_sem, wrap_id, sbs]
 refine op_alloc (cs := elA z8) (by kernel_rfl) ?_
 intro h1_1 e1_1 hb1_1 z1_1
 replace hb0_0 := BoxAt.ext hb0_0 e1_1
 replace hb0_1 := BoxAt.ext hb0_1 e1_1
 replace hb0_2 := BoxAt.ext hb0_2 e1_1
 replace hb0_3 := BoxAt.ext hb0_3 e1_1
 have := Ext.size e1_1
 replace eB := Ext.trans eB e1_1
 have hfhb1_1 : Fresh h0_3.size [h0_3.size] := Fresh.one _
 have hlhb1_1 := one_lt (show h0_3.size < h1_1.size by omega)
 try simp -implicitDefEqProofs (disch := first | decide | assumption | omega) only [go_sem, BoxAt.elC hb0_3, BoxAt.elL hb0_3, wrap_id, sbs]
 refine op_storeB (o := 0) (cs' := elA z8) st30 hb1_1 rfl rfl (elA_sz _) (by rw [elA_sz]; decide) elA_one elA_all ?_
 intro h1_2 hb1_1 c1_2
 replace hb0_0 := BoxAt.chgA hb0_0 c1_2 (apart_lt hlhb0_0 hfhb1_1 (by omega))
 replace hb0_1 := BoxAt.chgA hb0_1 c1_2 (apart_lt hlhb0_1 hfhb1_1 (by omega))
 replace hb0_2 := BoxAt.chgA hb0_2 c1_2 (apart_lt hlhb0_2 hfhb1_1 (by omega))
 replace hb0_3 := BoxAt.chgA hb0_3 c1_2 (apart_lt hlhb0_3 hfhb1_1 (by omega))
 have := c1_2.size
 replace eB := Ext.then eB c1_2 (ge_of hfhb1_1 (by omega))
 try simp -implicitDefEqProofs (disch := first | decide | assumption | omega) only [go_sem, BoxAt.elC hb0_3, BoxAt.elL hb0_3, wrap_id, sbs]
 refine hK _ _ ?_
 clear hK K
 refine den_seq ?_
 refine den_seq ?_
 refine den_region TTok ?_
 intro K hK
 simp -implicitDefEqProofs (disch := first | decide | assumption | omega) only [go_sem, wrap_id, sbs]
 refine hK _ _ ?_
 clear hK K
 refine den_block ?_
 refine den_sel [8, 3, 4, 5, 6, 7] ?_
 intro env_1
 simp only [go_sem]
 refine den_loopS (σ := Nat) (fun st_ => [(8, .int .i64 (st_ : Int))]) (fun st_ H => ((st_ : Int) ≤ X.s) ∧ (BoxAt H (h0_3.size) (elA (tmI X.p X.tab u v X.s.toNat st_)) 30) ∧ (Chg [h0_3.size] h1_2 H)) (fun st_ => X.s.toNat - st_) 0 ?_ ?_
 ·exact ⟨by omega, hb1_1, Chg.refl _ _⟩
 ·rintro i h4 ee3 ⟨hi0, hbx7, cL2⟩
  replace hb0_0 := BoxAt.chgA hb0_0 cL2 (apart_lt hlhb0_0 hfhb1_1 (by omega))
  replace hb0_1 := BoxAt.chgA hb0_1 cL2 (apart_lt hlhb0_1 hfhb1_1 (by omega))
  replace hb0_2 := BoxAt.chgA hb0_2 cL2 (apart_lt hlhb0_2 hfhb1_1 (by omega))
  replace hb0_3 := BoxAt.chgA hb0_3 cL2 (apart_lt hlhb0_3 hfhb1_1 (by omega))
  have := cL2.size
  replace eB := Ext.then eB cL2 (ge_of hfhb1_1 (by omega))
  have hfhbx7 := hfhb1_1
  have hlhbx7 := hlhb1_1
  simp only [List.cons_append, List.nil_append]
  refine den_seq ?_
  refine den_seq ?_
  refine den_region TTok ?_
  intro K hK
  simp -implicitDefEqProofs (disch := first | decide | assumption | omega) only [go_sem, fa34_1, ld2, BoxAt.dgs hb0_0, wrap_id, sbs]
  refine hK _ _ ?_
  clear hK K
  refine den_cond rfl (fun c0 => ?_) (fun c0 => ?_)
  ·try simp only [ddA] at c0
   refine den_skip ?_
   refine den_seq ?_
   refine den_block ?_
   refine den_seq ?_
   refine den_region TTok ?_
   intro K hK
   simp -implicitDefEqProofs (disch := first | decide | assumption | omega) only [go_sem, wrap_id, sbs]
   refine hK _ _ ?_
   clear hK K
   refine den_block ?_
   refine den_sel [9, 3, 4, 5, 6, 7, 8] ?_
   intro env_5
   simp only [go_sem]
   refine den_loopS (σ := Nat) (fun st_ => [(9, .int .i64 (st_ : Int))]) (fun st_ H => ((st_ : Int) ≤ X.s) ∧ (BoxAt H (h0_3.size) (elA (tmJ X.p X.tab u v i (tmI X.p X.tab u v X.s.toNat i) st_)) 30) ∧ (Chg [h0_3.size] h4 H)) (fun st_ => X.s.toNat - st_) 0 ?_ ?_
   ·exact ⟨by omega, hbx7, Chg.refl _ _⟩
   ·rintro j h8 ee7 ⟨hi0, hbx7, cL6⟩
    replace hb0_0 := BoxAt.chgA hb0_0 cL6 (apart_lt hlhb0_0 hfhbx7 (by omega))
    replace hb0_1 := BoxAt.chgA hb0_1 cL6 (apart_lt hlhb0_1 hfhbx7 (by omega))
    replace hb0_2 := BoxAt.chgA hb0_2 cL6 (apart_lt hlhb0_2 hfhbx7 (by omega))
    replace hb0_3 := BoxAt.chgA hb0_3 cL6 (apart_lt hlhb0_3 hfhbx7 (by omega))
    have := cL6.size
    replace eB := Ext.then eB cL6 (ge_of hfhbx7 (by omega))
    replace cL2 := Chg.step cL2 cL6 Sub.refl
    have hfhbx7 := hfhbx7
    have hlhbx7 := hlhbx7
    simp only [List.cons_append, List.nil_append]
    refine den_seq ?_
    refine den_seq ?_
    refine den_region TTok ?_
    intro K hK
    simp -implicitDefEqProofs (disch := first | decide | assumption | omega) only [go_sem, fa34_1, ld2, BoxAt.dgs hb0_0, wrap_id, sbs]
    refine hK _ _ ?_
    clear hK K
    refine den_cond rfl (fun c1 => ?_) (fun c1 => ?_)
    ·try simp only [ddA] at c1
     refine den_skip ?_
     refine den_seq ?_
     refine den_block ?_
     refine den_seq ?_
     have hui := hu i
     have hvj := hv j
     refine den_mergeH [(32, .bool ((((u i) != (0 : Int)) && ((v j) != (0 : Int)))))] [3, 4, 5, 6, 7, 8, 9] ?_ ?_
      -- a way
     ·refine den_region TTok ?_
      intro K hK
      simp -implicitDefEqProofs (disch := first | decide | assumption | (simp (disch := decide) only [gvA, eq_self, if_true, if_false, Bool.false_eq_true]; done) | omega) only [go_sem, Int.toNat_zero, ia30, ld5, BoxAt.elC hb0_1, BoxAt.elL hb0_1, wrap_id, sbs]
      refine opsP_T (by simp (disch := decide) only [gvA, eq_self, if_true, if_false, Bool.false_eq_true]; rfl) (fun g9 => ?_) (fun g9 => ?_)
      ·try simp -implicitDefEqProofs (disch := first | decide | assumption | (simp (disch := decide) only [gvA, eq_self, if_true, if_false, Bool.false_eq_true, g9]; done) | omega) only [go_sem, Int.toNat_zero, ia30, ld5, BoxAt.elC hb0_2, BoxAt.elL hb0_2, wrap_id, sbs, g9, eq_self, if_true, if_false, Bool.false_eq_true]
       refine hK _ _ ?_
       clear hK K
       refine den_stop ?_
       refine ⟨?_, rfl⟩
       first | (simp (disch := decide) only [go_sem, g9, eq_self, Bool.true_and, Bool.and_true, Bool.false_and, Bool.and_false, Bool.true_or, Bool.or_true, Bool.false_or, Bool.or_false, if_true, if_false, Bool.false_eq_true]; done) | simp [HasL, sel, puts_at, g9]
      ·try simp -implicitDefEqProofs (disch := first | decide | assumption | (simp (disch := decide) only [gvA, eq_self, if_true, if_false, Bool.false_eq_true, g9]; done) | omega) only [go_sem, wrap_id, sbs, g9, eq_self, if_true, if_false, Bool.false_eq_true]
       refine hK _ _ ?_
       clear hK K
       refine den_stop ?_
       refine ⟨?_, rfl⟩
       first | (simp (disch := decide) only [go_sem, g9, eq_self, Bool.true_and, Bool.and_true, Bool.false_and, Bool.and_false, Bool.true_or, Bool.or_true, Bool.false_or, Bool.or_false, if_true, if_false, Bool.false_eq_true]; done) | simp [HasL, sel, puts_at, g9]
     intro en10
     simp (disch := decide) only [go_sem]
     refine den_cond rfl (fun c2 => ?_) (fun c2 => ?_)
     ·try simp only [ddA] at c2
      have hmul := by_mul7 hp.2 hu hv hu7 hv7 (i := i) (j := j) (by omega) (by omega)
      refine den_draw TTok mixed [19] [(0, true), (1, true), (2, true), (3, true), (4, true), (5, true), (6, true), (7, true), (8, true), (9, true), (10, true), (11, true), (12, true), (13, true), (14, true), (15, true), (16, true), (17, true), (18, false), (19, false)] (by kernel_rfl) ?_
      intro K hK
      simp -implicitDefEqProofs (disch := first | decide | assumption | omega) only [go_sem, Int.toNat_zero, T2, T5, fa34_0, fa34_5, ia32, ia31, ia30, ld2, ld5, BoxAt.dgs hb0_0, BoxAt.elC hb0_1, BoxAt.elL hb0_1, BoxAt.elC hb0_2, BoxAt.elL hb0_2, BoxAt.elC hbx7, BoxAt.elL hbx7, wrap_id, sbs]
      try simp -implicitDefEqProofs (disch := first | decide | assumption | omega) only [go_sem, BoxAt.elC hb0_3, BoxAt.elL hb0_3, wrap_id, sbs]
      refine CallA.mono (sAdd8_ok  X.p (tmJ X.p X.tab u v i (tmI X.p X.tab u v X.s.toNat i) j) ((X.tab i) j) ((u i) * (v j)) _  (by omega) (by first | assumption | exact e8_by _ | exact By.z8 | exact hBd _ | exact hBt _ _ | exact tmJ_by (by omega) (tmI_by (by omega) _) _ | exact timesP_by (by omega) | exact dfI_by (by omega) _ | exact plusN_by (by omega) (timesP_by (by omega)) | exact dfI_by (by omega) 8) (by first | assumption | exact e8_by _ | exact By.z8 | exact hBd _ | exact hBt _ _ | exact tmJ_by (by omega) (tmI_by (by omega) _) _ | exact timesP_by (by omega) | exact dfI_by (by omega) _ | exact plusN_by (by omega) (timesP_by (by omega)) | exact dfI_by (by omega) 8) (by omega)) ?_
      intro v_ h9_18
      rintro ⟨rfl, e9_18⟩
      replace hb0_0 := BoxAt.ext hb0_0 e9_18
      replace hb0_1 := BoxAt.ext hb0_1 e9_18
      replace hb0_2 := BoxAt.ext hb0_2 e9_18
      replace hb0_3 := BoxAt.ext hb0_3 e9_18
      replace hbx7 := BoxAt.ext hbx7 e9_18
      have := Ext.size e9_18
      replace eB := Ext.trans eB e9_18
      replace cL2 := Chg.stepE cL2 e9_18
      replace cL6 := Chg.stepE cL6 e9_18
      try simp (disch := decide) only [outv_some, outv_none, put_puts]
      refine plK_pres (Ext.pres e9_18) ?_
      try simp -implicitDefEqProofs (disch := first | decide | assumption | omega) only [go_sem, BoxAt.elC hb0_3, BoxAt.elL hb0_3, wrap_id, sbs]
      refine op_storeB (o := 0) (cs' := elA (plusN X.p (tmJ X.p X.tab u v i (tmI X.p X.tab u v X.s.toNat i) j) ((X.tab i) j) ((u i) * (v j)) 8)) st30 hbx7 rfl rfl (elA_sz _) (by rw [elA_sz]; decide) elA_one elA_all ?_
      intro h9_19 hbx7 c9_19
      replace hb0_0 := BoxAt.chgA hb0_0 c9_19 (apart_lt hlhb0_0 hfhbx7 (by omega))
      replace hb0_1 := BoxAt.chgA hb0_1 c9_19 (apart_lt hlhb0_1 hfhbx7 (by omega))
      replace hb0_2 := BoxAt.chgA hb0_2 c9_19 (apart_lt hlhb0_2 hfhbx7 (by omega))
      replace hb0_3 := BoxAt.chgA hb0_3 c9_19 (apart_lt hlhb0_3 hfhbx7 (by omega))
      have := c9_19.size
      replace eB := Ext.then eB c9_19 (ge_of hfhbx7 (by omega))
      replace cL2 := Chg.step cL2 c9_19 Sub.refl
      replace cL6 := Chg.step cL6 c9_19 Sub.refl
      try simp (disch := decide) only [outv_some, outv_none, put_puts]
      refine plK_last (by decide) ?_
      try simp -implicitDefEqProofs (disch := first | decide | assumption | omega) only [go_sem, BoxAt.elC hb0_3, BoxAt.elL hb0_3, wrap_id, sbs]
      refine hK _ _ ?_
      clear hK K
      refine den_blk ?_
      refine den_region TTok ?_
      intro K hK
      simp -implicitDefEqProofs (disch := first | decide | assumption | omega) only [go_sem, wrap_id, sbs]
      refine hK _ _ ?_
      clear hK K
      refine den_stop ?_
      first | rw [tmJ_yes c2] at hbx7 | rw [tmJ_no c2] at hbx7
      exact ⟨j + 1, by simp [HasL, puts_at], ⟨by first | omega | (dsimp only; omega), hbx7, cL6⟩, by first | omega | (dsimp only; omega)⟩
     ·try simp only [ddA] at c2
      refine den_skip ?_
      refine den_blk ?_
      refine den_region TTok ?_
      intro K hK
      simp -implicitDefEqProofs (disch := first | decide | assumption | omega) only [go_sem, wrap_id, sbs]
      refine hK _ _ ?_
      clear hK K
      refine den_stop ?_
      first | rw [tmJ_yes c2] at hbx7 | rw [tmJ_no c2] at hbx7
      exact ⟨j + 1, by simp [HasL, puts_at], ⟨by first | omega | (dsimp only; omega), hbx7, cL6⟩, by first | omega | (dsimp only; omega)⟩
    ·try simp only [ddA] at c1
     refine den_exit ?_
     refine denX_code ?_
     refine denX_stop ?_
     refine denX_hit ?_
     refine den_blk ?_
     refine den_region TTok ?_
     intro K hK
     simp -implicitDefEqProofs (disch := first | decide | assumption | omega) only [go_sem, wrap_id, sbs]
     refine hK _ _ ?_
     clear hK K
     refine den_stop ?_
     rw [show j = X.s.toNat by omega] at hbx7
     exact ⟨i + 1, by simp [HasL, puts_at], ⟨by first | omega | (dsimp only; omega), hbx7, cL2⟩, by first | omega | (dsimp only; omega)⟩
  ·try simp only [ddA] at c0
   refine den_exit ?_
   refine denX_code ?_
   refine denX_stop ?_
   refine denX_hit ?_
   refine den_seq ?_
   refine den_region TTok ?_
   intro K hK
   simp -implicitDefEqProofs (disch := first | decide | assumption | omega) only [go_sem, BoxAt.elC hbx7, BoxAt.elL hbx7, wrap_id, sbs]
   refine op_storeB (o := 0) (cs' := elA (tmI X.p X.tab u v X.s.toNat i)) st30 hb0_3 rfl rfl (elA_sz _) (by rw [elA_sz]; decide) elA_one elA_all ?_
   intro h10_1 hb0_3 c10_1
   replace hbx7 := BoxAt.chgA hbx7 c10_1 (apart_gt hfhbx7 hlhb0_3 (by omega))
   have := c10_1.size
   replace eB := Ext.then eB c10_1 (ge_of hfhb0_3 (by omega))
   try simp -implicitDefEqProofs (disch := first | decide | assumption | omega) only [go_sem, BoxAt.elC hb0_3, BoxAt.elL hb0_3, wrap_id, sbs]
   refine hK _ _ ?_
   clear hK K
   refine den_ret ?_
   simp -implicitDefEqProofs (disch := first | decide | assumption | omega) only [go_sem, BoxAt.elC hb0_3, BoxAt.elL hb0_3, wrap_id, sbs, resP_c1, ld30]
   rw [show i = X.s.toNat by omega]
   exact ⟨by first | rfl | trivial, eB⟩

set_option maxRecDepth 100000 in
set_option maxHeartbeats 4000000 in
theorem sDif_ok (X : Dg) (u : Nat → Int) (h : Heap)  (hp : 0 < X.p ∧ X.p ≤ 7) (hs : 0 ≤ X.s ∧ X.s ≤ 8) (hu : By u) (hBd : ∀ i, By (X.dif i)) : CallA Try.prog 55 #[.agg (dgA X), .agg (elA u)] h fun v' h' => v' = .agg (elA (dfI X.p X.dif u X.s.toNat)) ∧ Ext h h' := by
 refine callA_intro TTok (args := [_, _]) Try.func55 (by kernel_rfl) rfl 27 rfl (by simp) [.cell 4 30] rfl ?_
 simp only [idxs, Nat.reduceAdd]
 refine den_seq ?_
 refine den_region TTok ?_
 intro K hK
 simp -implicitDefEqProofs (disch := first | decide | assumption | omega) only [go_sem, wrap_id, sbs]
 refine op_box (cs := dgA X) rfl ?_
 intro h0_0 e0_0 hb0_0 z0_0
 have := Ext.size e0_0
 have eB := e0_0
 have hfhb0_0 : Fresh h.size [h.size] := Fresh.one _
 have hlhb0_0 := one_lt (show h.size < h0_0.size by omega)
 try simp -implicitDefEqProofs (disch := first | decide | assumption | omega) only [go_sem, wrap_id, sbs]
 refine op_box (cs := elA u) rfl ?_
 intro h0_1 e0_1 hb0_1 z0_1
 replace hb0_0 := BoxAt.ext hb0_0 e0_1
 have := Ext.size e0_1
 replace eB := Ext.trans eB e0_1
 have hfhb0_1 : Fresh h0_0.size [h0_0.size] := Fresh.one _
 have hlhb0_1 := one_lt (show h0_0.size < h0_1.size by omega)
 try simp -implicitDefEqProofs (disch := first | decide | assumption | omega) only [go_sem, wrap_id, sbs]
 refine op_alloc (cs := elA z8) (by kernel_rfl) ?_
 intro h0_2 e0_2 hb0_2 z0_2
 replace hb0_0 := BoxAt.ext hb0_0 e0_2
 replace hb0_1 := BoxAt.ext hb0_1 e0_2
 have := Ext.size e0_2
 replace eB := Ext.trans eB e0_2
 have hfhb0_2 : Fresh h0_1.size [h0_1.size] := Fresh.one _
 have hlhb0_2 := one_lt (show h0_1.size < h0_2.size by omega)
 try simp -implicitDefEqProofs (disch := first | decide | assumption | omega) only [go_sem, BoxAt.elC hb0_2, BoxAt.elL hb0_2, wrap_id, sbs]
 refine hK _ _ ?_
 clear hK K
 refine den_seq ?_
 refine den_region TTok ?_
 intro K hK
 simp -implicitDefEqProofs (disch := first | decide | assumption | omega) only [go_sem, wrap_id, sbs]
 refine op_alloc (cs := elA z8) (by kernel_rfl) ?_
 intro h1_1 e1_1 hb1_1 z1_1
 replace hb0_0 := BoxAt.ext hb0_0 e1_1
 replace hb0_1 := BoxAt.ext hb0_1 e1_1
 replace hb0_2 := BoxAt.ext hb0_2 e1_1
 have := Ext.size e1_1
 replace eB := Ext.trans eB e1_1
 have hfhb1_1 : Fresh h0_2.size [h0_2.size] := Fresh.one _
 have hlhb1_1 := one_lt (show h0_2.size < h1_1.size by omega)
 try simp -implicitDefEqProofs (disch := first | decide | assumption | omega) only [go_sem, BoxAt.elC hb0_2, BoxAt.elL hb0_2, wrap_id, sbs]
 refine op_storeB (o := 0) (cs' := elA z8) st30 hb1_1 rfl rfl (elA_sz _) (by rw [elA_sz]; decide) elA_one elA_all ?_
 intro h1_2 hb1_1 c1_2
 replace hb0_0 := BoxAt.chgA hb0_0 c1_2 (apart_lt hlhb0_0 hfhb1_1 (by omega))
 replace hb0_1 := BoxAt.chgA hb0_1 c1_2 (apart_lt hlhb0_1 hfhb1_1 (by omega))
 replace hb0_2 := BoxAt.chgA hb0_2 c1_2 (apart_lt hlhb0_2 hfhb1_1 (by omega))
 have := c1_2.size
 replace eB := Ext.then eB c1_2 (ge_of hfhb1_1 (by omega))
 try simp -implicitDefEqProofs (disch := first | decide | assumption | omega) only [go_sem, BoxAt.elC hb0_2, BoxAt.elL hb0_2, wrap_id, sbs]
 refine hK _ _ ?_
 clear hK K
 refine den_seq ?_
 refine den_seq ?_
 refine den_region TTok ?_
 intro K hK
 simp -implicitDefEqProofs (disch := first | decide | assumption | omega) only [go_sem, wrap_id, sbs]
 refine hK _ _ ?_
 clear hK K
 refine den_block ?_
 refine den_sel [6, 2, 3, 4, 5] ?_
 intro env_1
 simp only [go_sem]
 refine den_loopS (σ := Nat) (fun st_ => [(6, .int .i64 (st_ : Int))]) (fun st_ H => ((st_ : Int) ≤ X.s) ∧ (BoxAt H (h0_2.size) (elA (dfI X.p X.dif u st_)) 30) ∧ (Chg [h0_2.size] h1_2 H)) (fun st_ => X.s.toNat - st_) 0 ?_ ?_
 ·exact ⟨by omega, hb1_1, Chg.refl _ _⟩
 ·rintro i h4 ee3 ⟨hi0, hbx5, cL2⟩
  replace hb0_0 := BoxAt.chgA hb0_0 cL2 (apart_lt hlhb0_0 hfhb1_1 (by omega))
  replace hb0_1 := BoxAt.chgA hb0_1 cL2 (apart_lt hlhb0_1 hfhb1_1 (by omega))
  replace hb0_2 := BoxAt.chgA hb0_2 cL2 (apart_lt hlhb0_2 hfhb1_1 (by omega))
  have := cL2.size
  replace eB := Ext.then eB cL2 (ge_of hfhb1_1 (by omega))
  have hfhbx5 := hfhb1_1
  have hlhbx5 := hlhb1_1
  simp only [List.cons_append, List.nil_append]
  refine den_seq ?_
  refine den_seq ?_
  refine den_region TTok ?_
  intro K hK
  simp -implicitDefEqProofs (disch := first | decide | assumption | omega) only [go_sem, fa34_1, ld2, BoxAt.dgs hb0_0, wrap_id, sbs]
  refine hK _ _ ?_
  clear hK K
  refine den_cond rfl (fun c0 => ?_) (fun c0 => ?_)
  ·try simp only [ddA] at c0
   refine den_skip ?_
   refine den_seq ?_
   refine den_block ?_
   have hui := hu i
   refine den_draw TTok mixed [12] [(0, true), (1, true), (2, true), (3, true), (4, true), (5, true), (6, true), (7, true), (8, true), (9, true), (10, true), (11, false), (12, false)] (by kernel_rfl) ?_
   intro K hK
   simp -implicitDefEqProofs (disch := first | decide | assumption | omega) only [go_sem, Int.toNat_zero, T2, T5, fa34_0, fa34_4, ia31, ia30, ld2, ld5, BoxAt.dgs hb0_0, BoxAt.elC hb0_1, BoxAt.elL hb0_1, BoxAt.elC hbx5, BoxAt.elL hbx5, wrap_id, sbs]
   try simp -implicitDefEqProofs (disch := first | decide | assumption | omega) only [go_sem, BoxAt.elC hb0_2, BoxAt.elL hb0_2, wrap_id, sbs]
   refine CallA.mono (sAdd8_ok  X.p (dfI X.p X.dif u i) (X.dif i) (u i) _  (by omega) (by first | assumption | exact e8_by _ | exact By.z8 | exact hBd _ | exact hBt _ _ | exact tmJ_by (by omega) (tmI_by (by omega) _) _ | exact timesP_by (by omega) | exact dfI_by (by omega) _ | exact plusN_by (by omega) (timesP_by (by omega)) | exact dfI_by (by omega) 8) (by first | assumption | exact e8_by _ | exact By.z8 | exact hBd _ | exact hBt _ _ | exact tmJ_by (by omega) (tmI_by (by omega) _) _ | exact timesP_by (by omega) | exact dfI_by (by omega) _ | exact plusN_by (by omega) (timesP_by (by omega)) | exact dfI_by (by omega) 8) (by omega)) ?_
   intro v_ h5_11
   rintro ⟨rfl, e5_11⟩
   replace hb0_0 := BoxAt.ext hb0_0 e5_11
   replace hb0_1 := BoxAt.ext hb0_1 e5_11
   replace hb0_2 := BoxAt.ext hb0_2 e5_11
   replace hbx5 := BoxAt.ext hbx5 e5_11
   have := Ext.size e5_11
   replace eB := Ext.trans eB e5_11
   replace cL2 := Chg.stepE cL2 e5_11
   try simp (disch := decide) only [outv_some, outv_none, put_puts]
   refine plK_pres (Ext.pres e5_11) ?_
   try simp -implicitDefEqProofs (disch := first | decide | assumption | omega) only [go_sem, BoxAt.elC hb0_2, BoxAt.elL hb0_2, wrap_id, sbs]
   refine op_storeB (o := 0) (cs' := elA (plusN X.p (dfI X.p X.dif u i) (X.dif i) (u i) 8)) st30 hbx5 rfl rfl (elA_sz _) (by rw [elA_sz]; decide) elA_one elA_all ?_
   intro h5_12 hbx5 c5_12
   replace hb0_0 := BoxAt.chgA hb0_0 c5_12 (apart_lt hlhb0_0 hfhbx5 (by omega))
   replace hb0_1 := BoxAt.chgA hb0_1 c5_12 (apart_lt hlhb0_1 hfhbx5 (by omega))
   replace hb0_2 := BoxAt.chgA hb0_2 c5_12 (apart_lt hlhb0_2 hfhbx5 (by omega))
   have := c5_12.size
   replace eB := Ext.then eB c5_12 (ge_of hfhbx5 (by omega))
   replace cL2 := Chg.step cL2 c5_12 Sub.refl
   try simp (disch := decide) only [outv_some, outv_none, put_puts]
   refine plK_last (by decide) ?_
   try simp -implicitDefEqProofs (disch := first | decide | assumption | omega) only [go_sem, BoxAt.elC hb0_2, BoxAt.elL hb0_2, wrap_id, sbs]
   refine hK _ _ ?_
   clear hK K
   refine den_blk ?_
   refine den_region TTok ?_
   intro K hK
   simp -implicitDefEqProofs (disch := first | decide | assumption | omega) only [go_sem, wrap_id, sbs]
   refine hK _ _ ?_
   clear hK K
   refine den_stop ?_
   rw [dfI_step] at hbx5
   exact ⟨i + 1, by simp [HasL, puts_at], ⟨by first | omega | (dsimp only; omega), hbx5, cL2⟩, by first | omega | (dsimp only; omega)⟩
  ·try simp only [ddA] at c0
   refine den_exit ?_
   refine denX_code ?_
   refine denX_stop ?_
   refine denX_hit ?_
   refine den_seq ?_
   refine den_region TTok ?_
   intro K hK
   simp -implicitDefEqProofs (disch := first | decide | assumption | omega) only [go_sem, BoxAt.elC hbx5, BoxAt.elL hbx5, wrap_id, sbs]
   refine op_storeB (o := 0) (cs' := elA (dfI X.p X.dif u i)) st30 hb0_2 rfl rfl (elA_sz _) (by rw [elA_sz]; decide) elA_one elA_all ?_
   intro h6_1 hb0_2 c6_1
   replace hbx5 := BoxAt.chgA hbx5 c6_1 (apart_gt hfhbx5 hlhb0_2 (by omega))
   have := c6_1.size
   replace eB := Ext.then eB c6_1 (ge_of hfhb0_2 (by omega))
   try simp -implicitDefEqProofs (disch := first | decide | assumption | omega) only [go_sem, BoxAt.elC hb0_2, BoxAt.elL hb0_2, wrap_id, sbs]
   refine hK _ _ ?_
   clear hK K
   refine den_ret ?_
   simp -implicitDefEqProofs (disch := first | decide | assumption | omega) only [go_sem, BoxAt.elC hb0_2, BoxAt.elL hb0_2, wrap_id, sbs, resP_c1, ld30]
   rw [show i = X.s.toNat by omega]
   exact ⟨by first | rfl | trivial, eB⟩

set_option maxRecDepth 100000 in
theorem sWit_ok (X : Dg) (u : Nat → Int) (d : Int) (l : Int) (h : Heap)  (hs : 0 ≤ X.s ∧ X.s ≤ 8) : CallA Try.prog 107 #[.agg (dgA X), .agg (elA u), .int .i64 d, .int .i64 l] h fun v' h' => v' = .bool (liesB X u d l X.s.toNat) ∧ Ext h h' := by
 refine callA_intro TTok (args := [_, _, _, _]) Try.func107 (by kernel_rfl) rfl 36 rfl (by simp) [.tmp 8] rfl ?_
 simp only [idxs, Nat.reduceAdd]
 refine den_seq ?_
 refine den_region TTok ?_
 intro K hK
 simp -implicitDefEqProofs (disch := first | decide | assumption | omega) only [go_sem, wrap_id, sbs]
 refine op_box (cs := dgA X) rfl ?_
 intro h0_0 e0_0 hb0_0 z0_0
 have := Ext.size e0_0
 have eB := e0_0
 have hfhb0_0 : Fresh h.size [h.size] := Fresh.one _
 have hlhb0_0 := one_lt (show h.size < h0_0.size by omega)
 try simp -implicitDefEqProofs (disch := first | decide | assumption | omega) only [go_sem, wrap_id, sbs]
 refine op_box (cs := elA u) rfl ?_
 intro h0_1 e0_1 hb0_1 z0_1
 replace hb0_0 := BoxAt.ext hb0_0 e0_1
 have := Ext.size e0_1
 replace eB := Ext.trans eB e0_1
 have hfhb0_1 : Fresh h0_0.size [h0_0.size] := Fresh.one _
 have hlhb0_1 := one_lt (show h0_0.size < h0_1.size by omega)
 try simp -implicitDefEqProofs (disch := first | decide | assumption | omega) only [go_sem, wrap_id, sbs]
 refine hK _ _ ?_
 clear hK K
 refine den_seq ?_
 refine den_seq ?_
 refine den_region TTok ?_
 intro K hK
 simp -implicitDefEqProofs (disch := first | decide | assumption | omega) only [go_sem, wrap_id, sbs]
 refine hK _ _ ?_
 clear hK K
 refine den_block ?_
 refine den_sel [9, 2, 3, 4, 5] ?_
 intro env_1
 simp only [go_sem]
 refine den_loopS (σ := Nat) (fun st_ => [(9, .int .i64 (st_ : Int))]) (fun st_ H => ((st_ : Int) ≤ X.s) ∧ (∀ a, a < st_ → ¬ u a = 0 → X.deg a = d ∧ X.lev a ≤ l) ∧ (Ext h0_1 H)) (fun st_ => X.s.toNat - st_) 0 ?_ ?_
 ·exact ⟨by omega, fun a h => by omega, Ext.refl _⟩
 ·rintro i h4 ee3 ⟨hi, hz, cL2⟩
  replace hb0_0 := BoxAt.ext hb0_0 cL2
  replace hb0_1 := BoxAt.ext hb0_1 cL2
  have := Ext.size cL2
  replace eB := Ext.trans eB cL2
  simp only [List.cons_append, List.nil_append]
  refine den_seq ?_
  refine den_seq ?_
  refine den_region TTok ?_
  intro K hK
  simp -implicitDefEqProofs (disch := first | decide | assumption | omega) only [go_sem, fa34_1, ld2, BoxAt.dgs hb0_0, wrap_id, sbs]
  refine hK _ _ ?_
  clear hK K
  refine den_cond rfl (fun c0 => ?_) (fun c0 => ?_)
  ·try simp only [ddA, Bool.or_eq_false_iff, Bool.and_eq_false_iff] at c0
   refine den_skip ?_
   refine den_seq ?_
   refine den_block ?_
   refine den_seq ?_
   refine den_mergeH [(35, .bool ((((u i) != (0 : Int)) && (((X.deg i) != d) || (decide (l < (X.lev i)))))))] [2, 3, 4, 5, 9] ?_ ?_
    -- a way
   ·refine den_region TTok ?_
    intro K hK
    simp -implicitDefEqProofs (disch := first | decide | assumption | (simp (disch := decide) only [gvA, eq_self, if_true, if_false, Bool.false_eq_true]; done) | omega) only [go_sem, Int.toNat_zero, ia30, ld5, BoxAt.elC hb0_1, BoxAt.elL hb0_1, wrap_id, sbs]
    refine opsP_T (by simp (disch := decide) only [gvA, eq_self, if_true, if_false, Bool.false_eq_true]; rfl) (fun g5 => ?_) (fun g5 => ?_)
    ·try simp -implicitDefEqProofs (disch := first | decide | assumption | (simp (disch := decide) only [gvA, eq_self, if_true, if_false, Bool.false_eq_true, g5]; done) | omega) only [go_sem, Int.toNat_zero, fa34_2, ia22, ld2, BoxAt.dgs hb0_0, wrap_id, sbs, g5, eq_self, if_true, if_false, Bool.false_eq_true]
     refine opsP_F (by simp (disch := decide) only [gvA, eq_self, if_true, if_false, Bool.false_eq_true, g5]; rfl) (fun g6 => ?_) (fun g6 => ?_)
     ·try simp -implicitDefEqProofs (disch := first | decide | assumption | (simp (disch := decide) only [gvA, eq_self, if_true, if_false, Bool.false_eq_true, g5, g6]; done) | omega) only [go_sem, Int.toNat_zero, fa34_3, ia22, ld2, BoxAt.dgs hb0_0, wrap_id, sbs, g5, g6, eq_self, if_true, if_false, Bool.false_eq_true]
      refine hK _ _ ?_
      clear hK K
      refine den_stop ?_
      refine ⟨?_, rfl⟩
      first | (simp (disch := decide) only [go_sem, g5, g6, eq_self, Bool.true_and, Bool.and_true, Bool.false_and, Bool.and_false, Bool.true_or, Bool.or_true, Bool.false_or, Bool.or_false, if_true, if_false, Bool.false_eq_true]; done) | simp [HasL, sel, puts_at, g5, g6]
     ·try simp -implicitDefEqProofs (disch := first | decide | assumption | (simp (disch := decide) only [gvA, eq_self, if_true, if_false, Bool.false_eq_true, g5, g6]; done) | omega) only [go_sem, wrap_id, sbs, g5, g6, eq_self, if_true, if_false, Bool.false_eq_true]
      refine hK _ _ ?_
      clear hK K
      refine den_stop ?_
      refine ⟨?_, rfl⟩
      first | (simp (disch := decide) only [go_sem, g5, g6, eq_self, Bool.true_and, Bool.and_true, Bool.false_and, Bool.and_false, Bool.true_or, Bool.or_true, Bool.false_or, Bool.or_false, if_true, if_false, Bool.false_eq_true]; done) | simp [HasL, sel, puts_at, g5, g6]
    ·try simp -implicitDefEqProofs (disch := first | decide | assumption | (simp (disch := decide) only [gvA, eq_self, if_true, if_false, Bool.false_eq_true, g5]; done) | omega) only [go_sem, wrap_id, sbs, g5, eq_self, if_true, if_false, Bool.false_eq_true]
     try simp -implicitDefEqProofs (disch := first | decide | assumption | (simp (disch := decide) only [gvA, eq_self, if_true, if_false, Bool.false_eq_true, g5]; done) | omega) only [go_sem, wrap_id, sbs, g5, eq_self, if_true, if_false, Bool.false_eq_true]
     refine hK _ _ ?_
     clear hK K
     refine den_stop ?_
     refine ⟨?_, rfl⟩
     first | (simp (disch := decide) only [go_sem, g5, eq_self, Bool.true_and, Bool.and_true, Bool.false_and, Bool.and_false, Bool.true_or, Bool.or_true, Bool.false_or, Bool.or_false, if_true, if_false, Bool.false_eq_true]; done) | simp [HasL, sel, puts_at, g5]
   intro en7
   simp (disch := decide) only [go_sem]
   refine den_cond rfl (fun c1 => ?_) (fun c1 => ?_)
   ·try simp only [ddA, Bool.or_eq_false_iff, Bool.and_eq_false_iff] at c1
    refine den_seq ?_
    refine den_region TTok ?_
    intro K hK
    simp -implicitDefEqProofs (disch := first | decide | assumption | omega) only [go_sem, wrap_id, sbs]
    refine hK _ _ ?_
    clear hK K
    refine den_ret ?_
    simp (disch := decide) only [resP_1, puts_same, puts_ne]
    exact ⟨vbool (liesB_n (fun hh => by have h1 := hh i (by omega); have h2 := c1; omega)), eB⟩
   ·try simp only [ddA, Bool.or_eq_false_iff, Bool.and_eq_false_iff] at c1
    refine den_skip ?_
    refine den_blk ?_
    refine den_region TTok ?_
    intro K hK
    simp -implicitDefEqProofs (disch := first | decide | assumption | omega) only [go_sem, wrap_id, sbs]
    refine hK _ _ ?_
    clear hK K
    refine den_stop ?_
    exact ⟨i + 1, by simp [HasL, puts_at], ⟨by first | omega | (dsimp only; omega), fun a ha h0 => by
 by_cases hai : a < i
 ·exact hz a hai h0
 ·have e : a = i := by omega
  subst e; have h1 := c1; omega, cL2⟩, by first | omega | (dsimp only; omega)⟩
  ·try simp only [ddA, Bool.or_eq_false_iff, Bool.and_eq_false_iff] at c0
   refine den_exit ?_
   refine denX_code ?_
   refine denX_stop ?_
   refine denX_hit ?_
   refine den_seq ?_
   refine den_region TTok ?_
   intro K hK
   simp -implicitDefEqProofs (disch := first | decide | assumption | omega) only [go_sem, wrap_id, sbs]
   refine hK _ _ ?_
   clear hK K
   refine den_ret ?_
   simp (disch := decide) only [resP_1, puts_same, puts_ne]
   exact ⟨vbool (liesB_y (fun a ha => hz a (by omega))), eB⟩
end Go.Proofs.Ytacajcjibhifmaa

namespace Go.Proofs.Ytacajcjibhifmaa
open Go
/-- What an algebra's numbers are as values: bytes, and numbers of 64 bits. -/
structure DgB (X : Dg) : Prop where
 dif : ∀ i, By (X.dif i)
 tab : ∀ i j, By (X.tab i j)
 deg : ∀ i : Nat, -9223372036854775808 ≤ X.deg i ∧ X.deg i ≤ 9223372036854775807
 lev : ∀ i : Nat, -9223372036854775808 ≤ X.lev i ∧ X.lev i ≤ 9223372036854775807
structure RowF (X : Dg) (i : Nat) : Prop where
 out : X.s ≤ (i : Int) → X.deg i = 0 ∧ X.lev i = 0 ∧ ∀ k, k < 8 → X.dif i k = 0
 deg : 0 ≤ X.deg i ∧ X.deg i ≤ 5
 lev : 0 ≤ X.lev i ∧ X.lev i ≤ 5
 el : isEl X.p X.s (X.dif i)
 inc : (i : Int) < X.s → 0 < i → X.deg (i - 1) ≤ X.deg i
structure CellF (X : Dg) (i j : Nat) : Prop where
 el : isEl X.p X.s (X.tab i j)
 out : X.s ≤ (i : Int) ∨ X.s ≤ (j : Int) → ∀ k, k < 8 → X.tab i j k = 0
structure IsFm (X : Dg) : Prop where
 p : isP X.p = true
 s : 1 ≤ X.s ∧ X.s ≤ 8
 row : ∀ i : Nat, i < 8 → RowF X i
 cell : ∀ i : Nat, i < 8 → ∀ j : Nat, j < 8 → CellF X i j
 dl : ∀ i : Nat, i < 8 → (i : Int) < X.s → lies X (X.dif i) (X.deg i - 1) (X.lev i) 8
 tl : ∀ i : Nat, i < 8 → ∀ j : Nat, j < 8 → lies X (X.tab i j) (X.deg i + X.deg j) (X.lev i + X.lev j) 8
 d0 : X.deg 0 = 0
 l0 : X.lev 0 = 0
noncomputable def fmB (X : Dg) : Bool := @decide (IsFm X) (Classical.propDecidable _)
theorem fmB_t {X : Dg} : fmB X = true ↔ IsFm X := @decide_eq_true_iff _ (Classical.propDecidable _)
theorem fmB_n {X : Dg} (h : ¬ IsFm X) : false = fmB X := by
 cases e : fmB X
 ·rfl
 ·exact absurd (fmB_t.1 e) h
theorem eqE_z {u : Nat → Int} : eqE u z8 = true ↔ ∀ k, k < 8 → u k = 0 := eqE_iff
theorem fm_0 {X : Dg} (hh : IsFm X) (c : isP X.p = false ∨ ¬ (1 ≤ X.s ∧ X.s ≤ 8)) : False := by
 rcases c with c | c
 ·rw [hh.p] at c; cases c
 ·exact c hh.s
theorem fm_r8 {X : Dg} {i : Nat} (h : RowF X i) (c : ¬ (i : Int) < X.s ∧ ((¬ X.deg i = 0 ∨ ¬ X.lev i = 0) ∨ eqE (X.dif i) z8 = false)) : False := by
 obtain ⟨h1, h2, h3⟩ := h.out (by omega)
 rcases c.2 with (c | c) | c
 ·exact c h1
 ·exact c h2
 ·rw [eqE_z.2 h3] at c; cases c
theorem fm_r10 {X : Dg} {i : Nat} (h : RowF X i) (c : (¬ (0 ≤ X.deg i ∧ X.deg i ≤ 5) ∨ ¬ (0 ≤ X.lev i ∧ X.lev i ≤ 5)) ∨ isElB X.p X.s (X.dif i) = false) : False := by
 rcases c with (c | c) | c
 ·exact c h.deg
 ·exact c h.lev
 ·rw [isElB_t.2 h.el] at c; cases c
theorem fm_r12 {X : Dg} {i : Nat} (h : RowF X i) (hl : (i : Int) < X.s → lies X (X.dif i) (X.deg i - 1) (X.lev i) 8) (c : (i : Int) < X.s ∧ (0 < (i : Int) ∧ X.deg i < X.deg ((i : Int) - 1).toNat ∨ liesB X (X.dif i) (X.deg i - 1) (X.lev i) 8 = false)) : False := by
 rcases c.2 with c2 | c2
 ·have := h.inc c.1 (by omega)
  rw [show ((i : Int) - 1).toNat = i - 1 by omega] at c2
  omega
 ·rw [liesB_t.2 (hl c.1)] at c2; cases c2
theorem wrap_dg {X : Dg} (hh : IsFm X) {i j : Nat} (hi : i < 8) (hj : j < 8) : IntKind.i64.wrap (X.deg i + X.deg j) = X.deg i + X.deg j ∧ IntKind.i64.wrap (X.lev i + X.lev j) = X.lev i + X.lev j := by
 have h1 := (hh.row i hi).deg
 have h2 := (hh.row j hj).deg
 have h3 := (hh.row i hi).lev
 have h4 := (hh.row j hj).lev
 exact ⟨wrap_id (by omega), wrap_id (by omega)⟩
theorem fm_r18 {X : Dg} (hh : IsFm X) {i j : Nat} (hi : i < 8) (hj : j < 8) (c : (isElB X.p X.s (X.tab i j) = false ∨ (¬ (i : Int) < X.s ∨ X.s ≤ (j : Int)) ∧ eqE (X.tab i j) z8 = false) ∨ liesB X (X.tab i j) (IntKind.i64.wrap (X.deg i + X.deg j)) (IntKind.i64.wrap (X.lev i + X.lev j)) 8 = false) : False := by
 have h := hh.cell i hi j hj
 obtain ⟨w1, w2⟩ := wrap_dg hh hi hj
 rw [w1, w2] at c
 rcases c with (c | ⟨c1, c2⟩) | c
 ·rw [isElB_t.2 h.el] at c; cases c
 ·rw [eqE_z.2 (h.out (by omega))] at c2; cases c2
 ·rw [liesB_t.2 (hh.tl i hi j hj)] at c; cases c
theorem fm_cell {X : Dg} {i j : Nat} (c : (isElB X.p X.s (X.tab i j) = true ∧ ((((i : Int) < X.s) ∧ ¬ X.s ≤ (j : Int)) ∨ eqE (X.tab i j) z8 = true)) ∧ liesB X (X.tab i j) (IntKind.i64.wrap (X.deg i + X.deg j)) (IntKind.i64.wrap (X.lev i + X.lev j)) 8 = true) : CellF X i j ∧ lies X (X.tab i j) (IntKind.i64.wrap (X.deg i + X.deg j)) (IntKind.i64.wrap (X.lev i + X.lev j)) 8 := by
 obtain ⟨⟨c1, c2⟩, c3⟩ := c
 exact ⟨⟨isElB_t.1 c1, fun h => by
  rcases c2 with c2 | c2
  ·omega
  ·exact eqE_z.1 c2⟩, liesB_t.1 c3⟩
theorem fm_row {X : Dg} (hB : DgB X) {i : Nat} {Q : Prop} (c2 : (i : Int) < X.s ∨ (X.deg i = 0 ∧ X.lev i = 0) ∧ eqE (X.dif i) z8 = true) (c3 : ((0 ≤ X.deg i ∧ X.deg i ≤ 5) ∧ 0 ≤ X.lev i ∧ X.lev i ≤ 5) ∧ isElB X.p X.s (X.dif i) = true) (c4 : ¬ (i : Int) < X.s ∨ (¬ 0 < (i : Int) ∨ ¬ X.deg i < X.deg ((i : Int) - 1).toNat) ∧ liesB X (X.dif i) (X.deg i - 1) (X.lev i) 8 = true) (hq : Q) : RowF X i ∧ ((i : Int) < X.s → lies X (X.dif i) (X.deg i - 1) (X.lev i) 8) ∧ Q := by
 refine ⟨⟨fun h => ?_, c3.1.1, c3.1.2, isElB_t.1 c3.2, fun h h0 => ?_⟩, fun h => ?_, hq⟩
 ·rcases c2 with c2 | ⟨⟨a, b⟩, c⟩
  ·omega
  ·exact ⟨a, b, eqE_z.1 c⟩
 ·rcases c4 with c4 | ⟨c4, _⟩
  ·omega
  ·rw [show ((i : Int) - 1).toNat = i - 1 by omega] at c4
   omega
 ·rcases c4 with c4 | ⟨_, c4⟩
  ·omega
  ·exact liesB_t.1 c4
theorem fm_all {X : Dg} (c0 : isP X.p = true ∧ 1 ≤ X.s ∧ X.s ≤ 8) (hz : ∀ a : Nat, a < 8 → RowF X a ∧ ((a : Int) < X.s → lies X (X.dif a) (X.deg a - 1) (X.lev a) 8) ∧ ∀ b : Nat, b < 8 → CellF X a b ∧ lies X (X.tab a b) (IntKind.i64.wrap (X.deg a + X.deg b)) (IntKind.i64.wrap (X.lev a + X.lev b)) 8) : ((X.deg 0 == 0) && (X.lev 0 == 0)) = fmB X := by
 rw [Bool.eq_iff_iff, fmB_t, Bool.and_eq_true, beq_iff_eq, beq_iff_eq]
 constructor
 ·rintro ⟨d0, l0⟩
  refine ⟨c0.1, c0.2, fun i hi => (hz i hi).1, fun i hi j hj => ((hz i hi).2.2 j hj).1, fun i hi => (hz i hi).2.1, fun i hi j hj => ?_, d0, l0⟩
  have h1 := ((hz i hi).2.2 j hj).2
  have a1 := (hz i hi).1.deg
  have a2 := (hz j hj).1.deg
  have a3 := (hz i hi).1.lev
  have a4 := (hz j hj).1.lev
  rwa [wrap_id (by omega), wrap_id (by omega)] at h1
 ·intro h
  exact ⟨h.d0, h.l0⟩
set_option maxRecDepth 100000 in
set_option maxHeartbeats 4000000 in
theorem iFm_ok (X : Dg) (h : Heap)  (hB : DgB X) : CallA Try.prog 51 #[.agg (dgA X)] h fun v' h' => v' = .bool (fmB X) ∧ Ext h h' := by
 have hBd := hB.dif
 have hBt := hB.tab
 refine callA_intro TTok (args := [_]) Try.func51 (by kernel_rfl) rfl 170 rfl (by simp) [.tmp 2] rfl ?_
 simp only [idxs, Nat.reduceAdd]
 refine den_seq ?_
 refine den_region TTok ?_
 intro K hK
 simp -implicitDefEqProofs (disch := first | decide | assumption | omega) only [go_sem, wrap_id, sbs]
 refine op_box (cs := dgA X) rfl ?_
 intro h0_0 e0_0 hb0_0 z0_0
 have := Ext.size e0_0
 have eB := e0_0
 have hfhb0_0 : Fresh h.size [h.size] := Fresh.one _
 have hlhb0_0 := one_lt (show h.size < h0_0.size by omega)
 try simp -implicitDefEqProofs (disch := first | decide | assumption | omega) only [go_sem, wrap_id, sbs]
 refine hK _ _ ?_
 clear hK K
 refine den_seq ?_
 refine den_seq ?_
 refine den_mergeH [(16, .bool (((!((isP X.p))) || (!((in3 X.s (1 : Int) (8 : Int)))))))] [1] ?_ ?_
  -- a way
 ·refine den_region TTok ?_
  intro K hK
  simp -implicitDefEqProofs (disch := first | decide | assumption | (simp (disch := decide) only [gvA, eq_self, if_true, if_false, Bool.false_eq_true]; done) | omega) only [go_sem, fa34_0, ld2, BoxAt.dgs hb0_0, wrap_id, sbs]
  try simp -implicitDefEqProofs (disch := first | decide | assumption | omega) only [go_sem, wrap_id, sbs]
  refine CallA.pure (iPrime_ok _ _) ?_
  try simp -implicitDefEqProofs (disch := first | decide | assumption | (simp (disch := decide) only [gvA, eq_self, if_true, if_false, Bool.false_eq_true]; done) | omega) only [go_sem, wrap_id, sbs]
  refine opsP_F (by simp (disch := decide) only [gvA, eq_self, if_true, if_false, Bool.false_eq_true]; rfl) (fun g1 => ?_) (fun g1 => ?_)
  ·try simp -implicitDefEqProofs (disch := first | decide | assumption | (simp (disch := decide) only [gvA, eq_self, if_true, if_false, Bool.false_eq_true, g1]; done) | omega) only [go_sem, fa34_1, ld2, BoxAt.dgs hb0_0, wrap_id, sbs, g1, eq_self, if_true, if_false, Bool.false_eq_true]
   try simp -implicitDefEqProofs (disch := first | decide | assumption | omega) only [go_sem, wrap_id, sbs]
   refine CallA.pure (iIn_ok _ _ _ _) ?_
   try simp -implicitDefEqProofs (disch := first | decide | assumption | (simp (disch := decide) only [gvA, eq_self, if_true, if_false, Bool.false_eq_true, g1]; done) | omega) only [go_sem, wrap_id, sbs, g1, eq_self, if_true, if_false, Bool.false_eq_true]
   refine hK _ _ ?_
   clear hK K
   refine den_stop ?_
   refine ⟨?_, rfl⟩
   first | (simp (disch := decide) only [go_sem, g1, eq_self, Bool.true_and, Bool.and_true, Bool.false_and, Bool.and_false, Bool.true_or, Bool.or_true, Bool.false_or, Bool.or_false, if_true, if_false, Bool.false_eq_true]; done) | simp [HasL, sel, puts_at, g1]
  ·try simp -implicitDefEqProofs (disch := first | decide | assumption | (simp (disch := decide) only [gvA, eq_self, if_true, if_false, Bool.false_eq_true, g1]; done) | omega) only [go_sem, wrap_id, sbs, g1, eq_self, if_true, if_false, Bool.false_eq_true]
   refine hK _ _ ?_
   clear hK K
   refine den_stop ?_
   refine ⟨?_, rfl⟩
   first | (simp (disch := decide) only [go_sem, g1, eq_self, Bool.true_and, Bool.and_true, Bool.false_and, Bool.and_false, Bool.true_or, Bool.or_true, Bool.false_or, Bool.or_false, if_true, if_false, Bool.false_eq_true]; done) | simp [HasL, sel, puts_at, g1]
 intro en2
 simp (disch := decide) only [go_sem]
 refine den_cond rfl (fun c0 => ?_) (fun c0 => ?_)
 ·try simp only [ddA, Bool.or_eq_false_iff, Bool.and_eq_false_iff, in3_iff, in3_f] at c0
  refine den_seq ?_
  refine den_region TTok ?_
  intro K hK
  simp -implicitDefEqProofs (disch := first | decide | assumption | omega) only [go_sem, wrap_id, sbs]
  refine hK _ _ ?_
  clear hK K
  refine den_ret ?_
  simp (disch := decide) only [resP_1, puts_same, puts_ne]
  exact ⟨vbool (fmB_n (fun hh => fm_0 hh c0)), eB⟩
 ·try simp only [ddA, Bool.or_eq_false_iff, Bool.and_eq_false_iff, in3_iff, in3_f] at c0
  refine den_skip ?_
  refine den_seq ?_
  refine den_seq ?_
  refine den_region TTok ?_
  intro K hK
  simp -implicitDefEqProofs (disch := first | decide | assumption | omega) only [go_sem, wrap_id, sbs]
  refine hK _ _ ?_
  clear hK K
  refine den_block ?_
  refine den_sel [17, 1] ?_
  intro env_5
  simp only [go_sem]
  refine den_loopS (σ := Nat) (fun st_ => [(17, .int .i64 (st_ : Int))]) (fun st_ H => (st_ ≤ 8) ∧ (∀ a, a < st_ → RowF X a ∧ ((a : Int) < X.s → lies X (X.dif a) (X.deg a - 1) (X.lev a) 8) ∧ ∀ b : Nat, b < 8 → CellF X a b ∧ lies X (X.tab a b) (IntKind.i64.wrap (X.deg a + X.deg b)) (IntKind.i64.wrap (X.lev a + X.lev b)) 8) ∧ (Ext h0_0 H)) (fun st_ => 8 - st_) 0 ?_ ?_
  ·exact ⟨by omega, fun a h => by omega, Ext.refl _⟩
  ·rintro i h8 ee7 ⟨hi, hz, cL6⟩
   replace hb0_0 := BoxAt.ext hb0_0 cL6
   have := Ext.size cL6
   replace eB := Ext.trans eB cL6
   simp only [List.cons_append, List.nil_append]
   refine den_seq ?_
   refine den_region TTok ?_
   intro K hK
   simp -implicitDefEqProofs (disch := first | decide | assumption | omega) only [go_sem, wrap_id, sbs]
   refine hK _ _ ?_
   clear hK K
   refine den_seq ?_
   refine den_cond rfl (fun c1 => ?_) (fun c1 => ?_)
   ·try simp only [ddA, Bool.or_eq_false_iff, Bool.and_eq_false_iff, in3_iff, in3_f] at c1
    refine den_skip ?_
    refine den_seq ?_
    refine den_block ?_
    refine den_seq ?_
    refine den_region TTok ?_
    intro K hK
    simp -implicitDefEqProofs (disch := first | decide | assumption | omega) only [go_sem, wrap_id, sbs]
    refine hK _ _ ?_
    clear hK K
    refine den_seq ?_
    refine den_region TTok ?_
    intro K hK
    simp -implicitDefEqProofs (disch := first | decide | assumption | omega) only [go_sem, fa34_1, ld2, BoxAt.dgs hb0_0, wrap_id, sbs]
    refine hK _ _ ?_
    clear hK K
    refine den_seq ?_
    refine den_seq ?_
    refine den_mergeH [(47, .bool (((!((decide ((i : Int) < X.s)))) && ((((X.deg i) != (0 : Int)) || ((X.lev i) != (0 : Int))) || (!(eqE (X.dif i) z8))))))] [1, 3, 4, 17] ?_ ?_
     -- a way
    ·refine den_region TTok ?_
     intro K hK
     simp -implicitDefEqProofs (disch := first | decide | assumption | (simp (disch := decide) only [gvA, eq_self, if_true, if_false, Bool.false_eq_true]; done) | omega) only [go_sem, wrap_id, sbs]
     refine opsP_T (by simp (disch := decide) only [gvA, eq_self, if_true, if_false, Bool.false_eq_true]; rfl) (fun g9 => ?_) (fun g9 => ?_)
     ·try simp -implicitDefEqProofs (disch := first | decide | assumption | (simp (disch := decide) only [gvA, eq_self, if_true, if_false, Bool.false_eq_true, g9]; done) | omega) only [go_sem, Int.toNat_zero, fa34_2, ia22, ld2, BoxAt.dgs hb0_0, wrap_id, sbs, g9, eq_self, if_true, if_false, Bool.false_eq_true]
      refine opsP_F (by simp (disch := decide) only [gvA, eq_self, if_true, if_false, Bool.false_eq_true, g9]; rfl) (fun g10 => ?_) (fun g10 => ?_)
      ·try simp -implicitDefEqProofs (disch := first | decide | assumption | (simp (disch := decide) only [gvA, eq_self, if_true, if_false, Bool.false_eq_true, g9, g10]; done) | omega) only [go_sem, Int.toNat_zero, fa34_3, ia22, ld2, BoxAt.dgs hb0_0, wrap_id, sbs, g9, g10, eq_self, if_true, if_false, Bool.false_eq_true]
       refine opsP_F (by simp (disch := decide) only [gvA, eq_self, if_true, if_false, Bool.false_eq_true, g9, g10]; rfl) (fun g11 => ?_) (fun g11 => ?_)
       ·try simp -implicitDefEqProofs (disch := first | decide | assumption | (simp (disch := decide) only [gvA, eq_self, if_true, if_false, Bool.false_eq_true, g9, g10, g11]; done) | omega) only [go_sem, Int.toNat_zero, fa34_4, ia31, BoxAt.dgs hb0_0, wrap_id, sbs, g9, g10, g11, eq_self, if_true, if_false, Bool.false_eq_true]
        refine hK _ _ ?_
        clear hK K
        refine den_stop ?_
        refine ⟨?_, rfl⟩
        first | (simp (disch := decide) only [go_sem, g9, g10, g11, eq_self, Bool.true_and, Bool.and_true, Bool.false_and, Bool.and_false, Bool.true_or, Bool.or_true, Bool.false_or, Bool.or_false, if_true, if_false, Bool.false_eq_true]; done) | simp [HasL, sel, puts_at, g9, g10, g11]
       ·try simp -implicitDefEqProofs (disch := first | decide | assumption | (simp (disch := decide) only [gvA, eq_self, if_true, if_false, Bool.false_eq_true, g9, g10, g11]; done) | omega) only [go_sem, wrap_id, sbs, g9, g10, g11, eq_self, if_true, if_false, Bool.false_eq_true]
        refine hK _ _ ?_
        clear hK K
        refine den_stop ?_
        refine ⟨?_, rfl⟩
        first | (simp (disch := decide) only [go_sem, g9, g10, g11, eq_self, Bool.true_and, Bool.and_true, Bool.false_and, Bool.and_false, Bool.true_or, Bool.or_true, Bool.false_or, Bool.or_false, if_true, if_false, Bool.false_eq_true]; done) | simp [HasL, sel, puts_at, g9, g10, g11]
      ·try simp -implicitDefEqProofs (disch := first | decide | assumption | (simp (disch := decide) only [gvA, eq_self, if_true, if_false, Bool.false_eq_true, g9, g10]; done) | omega) only [go_sem, wrap_id, sbs, g9, g10, eq_self, if_true, if_false, Bool.false_eq_true]
       try simp -implicitDefEqProofs (disch := first | decide | assumption | (simp (disch := decide) only [gvA, eq_self, if_true, if_false, Bool.false_eq_true, g9, g10]; done) | omega) only [go_sem, wrap_id, sbs, g9, g10, eq_self, if_true, if_false, Bool.false_eq_true]
       refine hK _ _ ?_
       clear hK K
       refine den_stop ?_
       refine ⟨?_, rfl⟩
       first | (simp (disch := decide) only [go_sem, g9, g10, eq_self, Bool.true_and, Bool.and_true, Bool.false_and, Bool.and_false, Bool.true_or, Bool.or_true, Bool.false_or, Bool.or_false, if_true, if_false, Bool.false_eq_true]; done) | simp [HasL, sel, puts_at, g9, g10]
     ·try simp -implicitDefEqProofs (disch := first | decide | assumption | (simp (disch := decide) only [gvA, eq_self, if_true, if_false, Bool.false_eq_true, g9]; done) | omega) only [go_sem, wrap_id, sbs, g9, eq_self, if_true, if_false, Bool.false_eq_true]
      try simp -implicitDefEqProofs (disch := first | decide | assumption | (simp (disch := decide) only [gvA, eq_self, if_true, if_false, Bool.false_eq_true, g9]; done) | omega) only [go_sem, wrap_id, sbs, g9, eq_self, if_true, if_false, Bool.false_eq_true]
      try simp -implicitDefEqProofs (disch := first | decide | assumption | (simp (disch := decide) only [gvA, eq_self, if_true, if_false, Bool.false_eq_true, g9]; done) | omega) only [go_sem, wrap_id, sbs, g9, eq_self, if_true, if_false, Bool.false_eq_true]
      refine hK _ _ ?_
      clear hK K
      refine den_stop ?_
      refine ⟨?_, rfl⟩
      first | (simp (disch := decide) only [go_sem, g9, eq_self, Bool.true_and, Bool.and_true, Bool.false_and, Bool.and_false, Bool.true_or, Bool.or_true, Bool.false_or, Bool.or_false, if_true, if_false, Bool.false_eq_true]; done) | simp [HasL, sel, puts_at, g9]
    intro en12
    simp (disch := decide) only [go_sem]
    refine den_cond rfl (fun c2 => ?_) (fun c2 => ?_)
    ·try simp only [ddA, Bool.or_eq_false_iff, Bool.and_eq_false_iff, in3_iff, in3_f] at c2
     refine den_seq ?_
     refine den_region TTok ?_
     intro K hK
     simp -implicitDefEqProofs (disch := first | decide | assumption | omega) only [go_sem, wrap_id, sbs]
     refine hK _ _ ?_
     clear hK K
     refine den_ret ?_
     simp (disch := decide) only [resP_1, puts_same, puts_ne]
     exact ⟨vbool (fmB_n (fun hh => fm_r8 (hh.row i (by omega)) c2)), eB⟩
    ·try simp only [ddA, Bool.or_eq_false_iff, Bool.and_eq_false_iff, in3_iff, in3_f] at c2
     refine den_skip ?_
     refine den_seq ?_
     refine den_seq ?_
     refine den_merge [(70, .bool ((((!((in3 (X.deg i) (0 : Int) (5 : Int)))) || (!((in3 (X.lev i) (0 : Int) (5 : Int))))) || (!((isElB X.p X.s (X.dif i)))))))] [1, 3, 4, 17] (fun H => Ext h8 H) ?_ ?_
      -- a way
     ·refine den_draw TTok mixed [] [(0, true), (1, true), (2, true), (3, true), (4, false), (5, true), (6, true), (7, true), (8, true), (9, true), (10, true), (11, false), (12, true), (13, true), (14, true), (15, true), (16, true), (17, true), (18, true), (19, true), (20, false), (21, true), (22, true)] (by kernel_rfl) ?_
      intro K hK
      simp -implicitDefEqProofs (disch := first | decide | assumption | (simp (disch := decide) only [gvA, eq_self, if_true, if_false, Bool.false_eq_true]; done) | omega) only [go_sem, Int.toNat_zero, fa34_2, ia22, ld2, BoxAt.dgs hb0_0, wrap_id, sbs]
      try simp -implicitDefEqProofs (disch := first | decide | assumption | omega) only [go_sem, wrap_id, sbs]
      refine CallA.pure (iIn_ok _ _ _ _) ?_
      try simp -implicitDefEqProofs (disch := first | decide | assumption | (simp (disch := decide) only [gvA, eq_self, if_true, if_false, Bool.false_eq_true]; done) | omega) only [go_sem, wrap_id, sbs]
      refine plG_F (by simp (disch := decide) only [gvA, eq_self, if_true, if_false, Bool.false_eq_true]; rfl) (fun g15 => ?_) (fun g15 => ?_)
      ·try simp -implicitDefEqProofs (disch := first | decide | assumption | (simp (disch := decide) only [gvA, eq_self, if_true, if_false, Bool.false_eq_true, g15]; done) | omega) only [go_sem, Int.toNat_zero, fa34_3, ia22, ld2, BoxAt.dgs hb0_0, wrap_id, sbs, g15, eq_self, if_true, if_false, Bool.false_eq_true]
       try simp -implicitDefEqProofs (disch := first | decide | assumption | omega) only [go_sem, wrap_id, sbs]
       refine CallA.pure (iIn_ok _ _ _ _) ?_
       try simp -implicitDefEqProofs (disch := first | decide | assumption | (simp (disch := decide) only [gvA, eq_self, if_true, if_false, Bool.false_eq_true, g15]; done) | omega) only [go_sem, wrap_id, sbs, g15, eq_self, if_true, if_false, Bool.false_eq_true]
       refine plG_F (by simp (disch := decide) only [gvA, eq_self, if_true, if_false, Bool.false_eq_true, g15]; rfl) (fun g16 => ?_) (fun g16 => ?_)
       ·try simp -implicitDefEqProofs (disch := first | decide | assumption | (simp (disch := decide) only [gvA, eq_self, if_true, if_false, Bool.false_eq_true, g15, g16]; done) | omega) only [go_sem, Int.toNat_zero, fa34_4, ia31, BoxAt.dgs hb0_0, wrap_id, sbs, g15, g16, eq_self, if_true, if_false, Bool.false_eq_true]
        try simp -implicitDefEqProofs (disch := first | decide | assumption | omega) only [go_sem, wrap_id, sbs]
        refine CallA.mono (iEl_ok  X (X.dif i) _  (by first | assumption | exact e8_by _ | exact By.z8 | exact hBd _ | exact hBt _ _ | exact tmJ_by (by omega) (tmI_by (by omega) _) _ | exact timesP_by (by omega) | exact dfI_by (by omega) _ | exact plusN_by (by omega) (timesP_by (by omega)) | exact dfI_by (by omega) 8)) ?_
        intro v_ h9_20
        rintro ⟨rfl, e9_20⟩
        replace hb0_0 := BoxAt.ext hb0_0 e9_20
        have := Ext.size e9_20
        replace eB := Ext.trans eB e9_20
        replace cL6 := Ext.trans cL6 e9_20
        try simp (disch := decide) only [outv_some, outv_none, put_puts]
        refine plK_pres (Ext.pres e9_20) ?_
        try simp -implicitDefEqProofs (disch := first | decide | assumption | (simp (disch := decide) only [gvA, eq_self, if_true, if_false, Bool.false_eq_true, g15, g16]; done) | omega) only [go_sem, wrap_id, sbs, g15, g16, eq_self, if_true, if_false, Bool.false_eq_true]
        refine hK _ _ ?_
        clear hK K
        refine den_stop ?_
        refine ⟨?_, e9_20⟩
        first | (simp (disch := decide) only [go_sem, g15, g16, eq_self, Bool.true_and, Bool.and_true, Bool.false_and, Bool.and_false, Bool.true_or, Bool.or_true, Bool.false_or, Bool.or_false, if_true, if_false, Bool.false_eq_true]; done) | simp [HasL, sel, puts_at, g15, g16]
       ·try simp -implicitDefEqProofs (disch := first | decide | assumption | (simp (disch := decide) only [gvA, eq_self, if_true, if_false, Bool.false_eq_true, g15, g16]; done) | omega) only [go_sem, wrap_id, sbs, g15, g16, eq_self, if_true, if_false, Bool.false_eq_true]
        refine hK _ _ ?_
        clear hK K
        refine den_stop ?_
        refine ⟨?_, Ext.refl _⟩
        first | (simp (disch := decide) only [go_sem, g15, g16, eq_self, Bool.true_and, Bool.and_true, Bool.false_and, Bool.and_false, Bool.true_or, Bool.or_true, Bool.false_or, Bool.or_false, if_true, if_false, Bool.false_eq_true]; done) | simp [HasL, sel, puts_at, g15, g16]
      ·try simp -implicitDefEqProofs (disch := first | decide | assumption | (simp (disch := decide) only [gvA, eq_self, if_true, if_false, Bool.false_eq_true, g15]; done) | omega) only [go_sem, wrap_id, sbs, g15, eq_self, if_true, if_false, Bool.false_eq_true]
       try simp -implicitDefEqProofs (disch := first | decide | assumption | (simp (disch := decide) only [gvA, eq_self, if_true, if_false, Bool.false_eq_true, g15]; done) | omega) only [go_sem, wrap_id, sbs, g15, eq_self, if_true, if_false, Bool.false_eq_true]
       refine hK _ _ ?_
       clear hK K
       refine den_stop ?_
       refine ⟨?_, Ext.refl _⟩
       first | (simp (disch := decide) only [go_sem, g15, eq_self, Bool.true_and, Bool.and_true, Bool.false_and, Bool.and_false, Bool.true_or, Bool.or_true, Bool.false_or, Bool.or_false, if_true, if_false, Bool.false_eq_true]; done) | simp [HasL, sel, puts_at, g15]
     intro en17 h18 e19
     replace hb0_0 := BoxAt.ext hb0_0 e19
     have := Ext.size e19
     replace eB := Ext.trans eB e19
     replace cL6 := Ext.trans cL6 e19
     simp (disch := decide) only [go_sem]
     refine den_cond rfl (fun c3 => ?_) (fun c3 => ?_)
     ·try simp only [ddA, Bool.or_eq_false_iff, Bool.and_eq_false_iff, in3_iff, in3_f] at c3
      refine den_seq ?_
      refine den_region TTok ?_
      intro K hK
      simp -implicitDefEqProofs (disch := first | decide | assumption | omega) only [go_sem, wrap_id, sbs]
      refine hK _ _ ?_
      clear hK K
      refine den_ret ?_
      simp (disch := decide) only [resP_1, puts_same, puts_ne]
      exact ⟨vbool (fmB_n (fun hh => fm_r10 (hh.row i (by omega)) c3)), eB⟩
     ·try simp only [ddA, Bool.or_eq_false_iff, Bool.and_eq_false_iff, in3_iff, in3_f] at c3
      refine den_skip ?_
      refine den_seq ?_
      refine den_seq ?_
      refine den_merge [(105, .bool (((decide ((i : Int) < X.s)) && (((decide ((0 : Int) < (i : Int))) && (decide ((X.deg i) < (X.deg (((i : Int) - (1 : Int))).toNat)))) || (!((liesB X (X.dif i) ((X.deg i) - (1 : Int)) (X.lev i) 8)))))))] [1, 3, 4, 17] (fun H => Ext h18 H) ?_ ?_
       -- a way
      ·refine den_draw TTok mixed [] [(0, true), (1, true), (2, true), (3, true), (4, true), (5, true), (6, true), (7, true), (8, true), (9, true), (10, true), (11, true), (12, true), (13, true), (14, true), (15, true), (16, true), (17, true), (18, true), (19, true), (20, true), (21, true), (22, true), (23, true), (24, true), (25, true), (26, true), (27, true), (28, true), (29, true), (30, true), (31, false), (32, true), (33, true), (34, true)] (by kernel_rfl) ?_
       intro K hK
       simp -implicitDefEqProofs (disch := first | decide | assumption | (simp (disch := decide) only [gvA, eq_self, if_true, if_false, Bool.false_eq_true]; done) | omega) only [go_sem, wrap_id, sbs]
       refine plG_T (by simp (disch := decide) only [gvA, eq_self, if_true, if_false, Bool.false_eq_true]; rfl) (fun g20 => ?_) (fun g20 => ?_)
       ·try simp -implicitDefEqProofs (disch := first | decide | assumption | (simp (disch := decide) only [gvA, eq_self, if_true, if_false, Bool.false_eq_true, g20]; done) | omega) only [go_sem, wrap_id, sbs, g20, eq_self, if_true, if_false, Bool.false_eq_true]
        refine plG_T (by simp (disch := decide) only [gvA, eq_self, if_true, if_false, Bool.false_eq_true, g20]; rfl) (fun g21 => ?_) (fun g21 => ?_)
        ·have hgi : 0 < i := by have := of_decide_eq_true g21; omega
         try simp -implicitDefEqProofs (disch := first | decide | assumption | (simp (disch := decide) only [gvA, eq_self, if_true, if_false, Bool.false_eq_true, g20, g21]; done) | omega) only [go_sem, Int.toNat_zero, fa34_2, ia22, ld2, BoxAt.dgs hb0_0, wrap_id, sbs, g20, g21, eq_self, if_true, if_false, Bool.false_eq_true]
         refine plG_F (by simp (disch := decide) only [gvA, eq_self, if_true, if_false, Bool.false_eq_true, g20, g21]; rfl) (fun g22 => ?_) (fun g22 => ?_)
         ·try simp -implicitDefEqProofs (disch := first | decide | assumption | (simp (disch := decide) only [gvA, eq_self, if_true, if_false, Bool.false_eq_true, g20, g21, g22]; done) | omega) only [go_sem, Int.toNat_zero, fa34_2, fa34_3, fa34_4, ia31, ia22, ld2, BoxAt.dgs hb0_0, wrap_id, sbs, g20, g21, g22, eq_self, if_true, if_false, Bool.false_eq_true]
          try simp -implicitDefEqProofs (disch := first | decide | assumption | omega) only [go_sem, wrap_id, sbs]
          refine CallA.mono (iLies_ok  X (X.dif i) ((X.deg i) - (1 : Int)) (X.lev i) _  ) ?_
          intro v_ h11_31
          rintro ⟨rfl, e11_31⟩
          replace hb0_0 := BoxAt.ext hb0_0 e11_31
          have := Ext.size e11_31
          replace eB := Ext.trans eB e11_31
          replace cL6 := Ext.trans cL6 e11_31
          try simp (disch := decide) only [outv_some, outv_none, put_puts]
          refine plK_pres (Ext.pres e11_31) ?_
          try simp -implicitDefEqProofs (disch := first | decide | assumption | (simp (disch := decide) only [gvA, eq_self, if_true, if_false, Bool.false_eq_true, g20, g21, g22]; done) | omega) only [go_sem, wrap_id, sbs, g20, g21, g22, eq_self, if_true, if_false, Bool.false_eq_true]
          refine hK _ _ ?_
          clear hK K
          refine den_stop ?_
          refine ⟨?_, e11_31⟩
          first | (simp (disch := decide) only [go_sem, g20, g21, g22, eq_self, Bool.true_and, Bool.and_true, Bool.false_and, Bool.and_false, Bool.true_or, Bool.or_true, Bool.false_or, Bool.or_false, if_true, if_false, Bool.false_eq_true]; done) | simp [HasL, sel, puts_at, g20, g21, g22]
         ·try simp -implicitDefEqProofs (disch := first | decide | assumption | (simp (disch := decide) only [gvA, eq_self, if_true, if_false, Bool.false_eq_true, g20, g21, g22]; done) | omega) only [go_sem, wrap_id, sbs, g20, g21, g22, eq_self, if_true, if_false, Bool.false_eq_true]
          refine hK _ _ ?_
          clear hK K
          refine den_stop ?_
          refine ⟨?_, Ext.refl _⟩
          first | (simp (disch := decide) only [go_sem, g20, g21, g22, eq_self, Bool.true_and, Bool.and_true, Bool.false_and, Bool.and_false, Bool.true_or, Bool.or_true, Bool.false_or, Bool.or_false, if_true, if_false, Bool.false_eq_true]; done) | simp [HasL, sel, puts_at, g20, g21, g22]
        ·try simp -implicitDefEqProofs (disch := first | decide | assumption | (simp (disch := decide) only [gvA, eq_self, if_true, if_false, Bool.false_eq_true, g20, g21]; done) | omega) only [go_sem, wrap_id, sbs, g20, g21, eq_self, if_true, if_false, Bool.false_eq_true]
         try simp -implicitDefEqProofs (disch := first | decide | assumption | (simp (disch := decide) only [gvA, eq_self, if_true, if_false, Bool.false_eq_true, g20, g21]; done) | omega) only [go_sem, Int.toNat_zero, fa34_2, fa34_3, fa34_4, ia31, ia22, ld2, BoxAt.dgs hb0_0, wrap_id, sbs, g20, g21, eq_self, if_true, if_false, Bool.false_eq_true]
         try simp -implicitDefEqProofs (disch := first | decide | assumption | omega) only [go_sem, wrap_id, sbs]
         refine CallA.mono (iLies_ok  X (X.dif i) ((X.deg i) - (1 : Int)) (X.lev i) _  ) ?_
         intro v_ h11_31_1
         rintro ⟨rfl, e11_31_1⟩
         replace hb0_0 := BoxAt.ext hb0_0 e11_31_1
         have := Ext.size e11_31_1
         replace eB := Ext.trans eB e11_31_1
         replace cL6 := Ext.trans cL6 e11_31_1
         try simp (disch := decide) only [outv_some, outv_none, put_puts]
         refine plK_pres (Ext.pres e11_31_1) ?_
         try simp -implicitDefEqProofs (disch := first | decide | assumption | (simp (disch := decide) only [gvA, eq_self, if_true, if_false, Bool.false_eq_true, g20, g21]; done) | omega) only [go_sem, wrap_id, sbs, g20, g21, eq_self, if_true, if_false, Bool.false_eq_true]
         refine hK _ _ ?_
         clear hK K
         refine den_stop ?_
         refine ⟨?_, e11_31_1⟩
         first | (simp (disch := decide) only [go_sem, g20, g21, eq_self, Bool.true_and, Bool.and_true, Bool.false_and, Bool.and_false, Bool.true_or, Bool.or_true, Bool.false_or, Bool.or_false, if_true, if_false, Bool.false_eq_true]; done) | simp [HasL, sel, puts_at, g20, g21]
       ·try simp -implicitDefEqProofs (disch := first | decide | assumption | (simp (disch := decide) only [gvA, eq_self, if_true, if_false, Bool.false_eq_true, g20]; done) | omega) only [go_sem, wrap_id, sbs, g20, eq_self, if_true, if_false, Bool.false_eq_true]
        try simp -implicitDefEqProofs (disch := first | decide | assumption | (simp (disch := decide) only [gvA, eq_self, if_true, if_false, Bool.false_eq_true, g20]; done) | omega) only [go_sem, wrap_id, sbs, g20, eq_self, if_true, if_false, Bool.false_eq_true]
        try simp -implicitDefEqProofs (disch := first | decide | assumption | (simp (disch := decide) only [gvA, eq_self, if_true, if_false, Bool.false_eq_true, g20]; done) | omega) only [go_sem, wrap_id, sbs, g20, eq_self, if_true, if_false, Bool.false_eq_true]
        refine hK _ _ ?_
        clear hK K
        refine den_stop ?_
        refine ⟨?_, Ext.refl _⟩
        first | (simp (disch := decide) only [go_sem, g20, eq_self, Bool.true_and, Bool.and_true, Bool.false_and, Bool.and_false, Bool.true_or, Bool.or_true, Bool.false_or, Bool.or_false, if_true, if_false, Bool.false_eq_true]; done) | simp [HasL, sel, puts_at, g20]
      intro en23 h24 e25
      replace hb0_0 := BoxAt.ext hb0_0 e25
      have := Ext.size e25
      replace eB := Ext.trans eB e25
      replace cL6 := Ext.trans cL6 e25
      simp (disch := decide) only [go_sem]
      refine den_cond rfl (fun c4 => ?_) (fun c4 => ?_)
      ·try simp only [ddA, Bool.or_eq_false_iff, Bool.and_eq_false_iff, in3_iff, in3_f] at c4
       refine den_seq ?_
       refine den_region TTok ?_
       intro K hK
       simp -implicitDefEqProofs (disch := first | decide | assumption | omega) only [go_sem, wrap_id, sbs]
       refine hK _ _ ?_
       clear hK K
       refine den_ret ?_
       simp (disch := decide) only [resP_1, puts_same, puts_ne]
       exact ⟨vbool (fmB_n (fun hh => fm_r12 (hh.row i (by omega)) (hh.dl i (by omega)) c4)), eB⟩
      ·try simp only [ddA, Bool.or_eq_false_iff, Bool.and_eq_false_iff, in3_iff, in3_f] at c4
       refine den_skip ?_
       refine den_seq ?_
       refine den_region TTok ?_
       intro K hK
       simp -implicitDefEqProofs (disch := first | decide | assumption | omega) only [go_sem, wrap_id, sbs]
       refine hK _ _ ?_
       clear hK K
       refine den_block ?_
       refine den_sel [106, 1, 3, 4, 17] ?_
       intro env_26
       simp only [go_sem]
       refine den_loopS (σ := Nat) (fun st_ => [(106, .int .i64 (st_ : Int))]) (fun st_ H => (st_ ≤ 8) ∧ (∀ b, b < st_ → CellF X i b ∧ lies X (X.tab i b) (IntKind.i64.wrap (X.deg i + X.deg b)) (IntKind.i64.wrap (X.lev i + X.lev b)) 8) ∧ (Ext h24 H)) (fun st_ => 8 - st_) 0 ?_ ?_
       ·exact ⟨by omega, fun b h => by omega, Ext.refl _⟩
       ·rintro j h29 ee28 ⟨hj, hzc, cL27⟩
        replace hb0_0 := BoxAt.ext hb0_0 cL27
        have := Ext.size cL27
        replace eB := Ext.trans eB cL27
        replace cL6 := Ext.trans cL6 cL27
        simp only [List.cons_append, List.nil_append]
        refine den_seq ?_
        refine den_region TTok ?_
        intro K hK
        simp -implicitDefEqProofs (disch := first | decide | assumption | omega) only [go_sem, wrap_id, sbs]
        refine hK _ _ ?_
        clear hK K
        refine den_seq ?_
        refine den_cond rfl (fun c5 => ?_) (fun c5 => ?_)
        ·try simp only [ddA, Bool.or_eq_false_iff, Bool.and_eq_false_iff, in3_iff, in3_f] at c5
         refine den_skip ?_
         refine den_seq ?_
         refine den_block ?_
         refine den_seq ?_
         refine den_region TTok ?_
         intro K hK
         simp -implicitDefEqProofs (disch := first | decide | assumption | omega) only [go_sem, wrap_id, sbs]
         refine hK _ _ ?_
         clear hK K
         refine den_seq ?_
         refine den_region TTok ?_
         intro K hK
         simp -implicitDefEqProofs (disch := first | decide | assumption | omega) only [go_sem, Int.toNat_zero, fa34_5, ia32, ia31, BoxAt.dgs hb0_0, wrap_id, sbs]
         refine op_alloc (cs := elA z8) (by kernel_rfl) ?_
         intro h16_6 e16_6 hb16_6 z16_6
         replace hb0_0 := BoxAt.ext hb0_0 e16_6
         have := Ext.size e16_6
         replace eB := Ext.trans eB e16_6
         replace cL6 := Ext.trans cL6 e16_6
         replace cL27 := Ext.trans cL27 e16_6
         have hfhb16_6 : Fresh h29.size [h29.size] := Fresh.one _
         have hlhb16_6 := one_lt (show h29.size < h16_6.size by omega)
         try simp -implicitDefEqProofs (disch := first | decide | assumption | omega) only [go_sem, wrap_id, sbs]
         refine op_storeB (o := 0) (cs' := elA ((X.tab i) j)) st30 hb16_6 rfl rfl (elA_sz _) (by rw [elA_sz]; decide) elA_one elA_all ?_
         intro h16_7 hb16_6 c16_7
         replace hb0_0 := BoxAt.chgA hb0_0 c16_7 (apart_lt hlhb0_0 hfhb16_6 (by omega))
         have := c16_7.size
         replace eB := Ext.then eB c16_7 (ge_of hfhb16_6 (by omega))
         replace cL6 := Ext.then cL6 c16_7 (ge_of hfhb16_6 (by omega))
         replace cL27 := Ext.then cL27 c16_7 (ge_of hfhb16_6 (by omega))
         try simp -implicitDefEqProofs (disch := first | decide | assumption | omega) only [go_sem, wrap_id, sbs]
         refine hK _ _ ?_
         clear hK K
         refine den_seq ?_
         refine den_merge [(157, .bool ((((!((isElB X.p X.s ((X.tab i) j)))) || (((!((decide ((i : Int) < X.s)))) || (decide (X.s ≤ (j : Int)))) && (!(eqE ((X.tab i) j) z8)))) || (!((liesB X ((X.tab i) j) (IntKind.i64.wrap (X.deg i + X.deg j)) (IntKind.i64.wrap (X.lev i + X.lev j)) 8))))))] [1, 3, 4, 17, 106] (fun H => Ext h16_7 H) ?_ ?_
          -- a way
         ·refine den_draw TTok mixed [] [(0, true), (1, true), (2, false), (3, true), (4, true), (5, true), (6, true), (7, true), (8, true), (9, true), (10, true), (11, true), (12, true), (13, true), (14, true), (15, true), (16, true), (17, true), (18, true), (19, true), (20, true), (21, true), (22, true), (23, true), (24, true), (25, true), (26, true), (27, true), (28, true), (29, true), (30, true), (31, true), (32, true), (33, true), (34, true), (35, true), (36, true), (37, true), (38, true), (39, true), (40, false), (41, true), (42, true)] (by kernel_rfl) ?_
          intro K hK
          simp -implicitDefEqProofs (disch := first | decide | assumption | (simp (disch := decide) only [gvA, eq_self, if_true, if_false, Bool.false_eq_true]; done) | omega) only [go_sem, BoxAt.dgs hb0_0, BoxAt.elC hb16_6, BoxAt.elL hb16_6, wrap_id, sbs]
          try simp -implicitDefEqProofs (disch := first | decide | assumption | omega) only [go_sem, wrap_id, sbs]
          refine CallA.mono (iEl_ok  X ((X.tab i) j) _  (by first | assumption | exact e8_by _ | exact By.z8 | exact hBd _ | exact hBt _ _ | exact tmJ_by (by omega) (tmI_by (by omega) _) _ | exact timesP_by (by omega) | exact dfI_by (by omega) _ | exact plusN_by (by omega) (timesP_by (by omega)) | exact dfI_by (by omega) 8)) ?_
          intro v_ h17_2
          rintro ⟨rfl, e17_2⟩
          replace hb0_0 := BoxAt.ext hb0_0 e17_2
          replace hb16_6 := BoxAt.ext hb16_6 e17_2
          have := Ext.size e17_2
          replace eB := Ext.trans eB e17_2
          replace cL6 := Ext.trans cL6 e17_2
          replace cL27 := Ext.trans cL27 e17_2
          try simp (disch := decide) only [outv_some, outv_none, put_puts]
          refine plK_pres (Ext.pres e17_2) ?_
          try simp -implicitDefEqProofs (disch := first | decide | assumption | (simp (disch := decide) only [gvA, eq_self, if_true, if_false, Bool.false_eq_true]; done) | omega) only [go_sem, wrap_id, sbs]
          refine plG_F (by simp (disch := decide) only [gvA, eq_self, if_true, if_false, Bool.false_eq_true]; rfl) (fun g30 => ?_) (fun g30 => ?_)
          ·try simp -implicitDefEqProofs (disch := first | decide | assumption | (simp (disch := decide) only [gvA, eq_self, if_true, if_false, Bool.false_eq_true, g30]; done) | omega) only [go_sem, wrap_id, sbs, g30, eq_self, if_true, if_false, Bool.false_eq_true]
           refine plG_F (by simp (disch := decide) only [gvA, eq_self, if_true, if_false, Bool.false_eq_true, g30]; rfl) (fun g31 => ?_) (fun g31 => ?_)
           ·try simp -implicitDefEqProofs (disch := first | decide | assumption | (simp (disch := decide) only [gvA, eq_self, if_true, if_false, Bool.false_eq_true, g30, g31]; done) | omega) only [go_sem, fa34_1, ld2, BoxAt.dgs hb0_0, wrap_id, sbs, g30, g31, eq_self, if_true, if_false, Bool.false_eq_true]
            refine plG_T (by simp (disch := decide) only [gvA, eq_self, if_true, if_false, Bool.false_eq_true, g30, g31]; rfl) (fun g32 => ?_) (fun g32 => ?_)
            ·try simp -implicitDefEqProofs (disch := first | decide | assumption | (simp (disch := decide) only [gvA, eq_self, if_true, if_false, Bool.false_eq_true, g30, g31, g32]; done) | omega) only [go_sem, BoxAt.elC hb16_6, BoxAt.elL hb16_6, wrap_id, sbs, g30, g31, g32, eq_self, if_true, if_false, Bool.false_eq_true]
             refine plG_F (by simp (disch := decide) only [gvA, eq_self, if_true, if_false, Bool.false_eq_true, g30, g31, g32]; rfl) (fun g33 => ?_) (fun g33 => ?_)
             ·try simp -implicitDefEqProofs (disch := first | decide | assumption | (simp (disch := decide) only [gvA, eq_self, if_true, if_false, Bool.false_eq_true, g30, g31, g32, g33]; done) | omega) only [go_sem, Int.toNat_zero, fa34_2, fa34_3, ia22, ld2, BoxAt.dgs hb0_0, BoxAt.elC hb16_6, BoxAt.elL hb16_6, wrap_id, sbs, g30, g31, g32, g33, eq_self, if_true, if_false, Bool.false_eq_true]
              try simp -implicitDefEqProofs (disch := first | decide | assumption | omega) only [go_sem, wrap_id, sbs]
              refine CallA.mono (iLies_ok  X ((X.tab i) j) (IntKind.i64.wrap (X.deg i + X.deg j)) (IntKind.i64.wrap (X.lev i + X.lev j)) _  ) ?_
              intro v_ h17_40
              rintro ⟨rfl, e17_40⟩
              replace hb0_0 := BoxAt.ext hb0_0 e17_40
              replace hb16_6 := BoxAt.ext hb16_6 e17_40
              have := Ext.size e17_40
              replace eB := Ext.trans eB e17_40
              replace cL6 := Ext.trans cL6 e17_40
              replace cL27 := Ext.trans cL27 e17_40
              try simp (disch := decide) only [outv_some, outv_none, put_puts]
              refine plK_pres (Ext.pres e17_40) ?_
              try simp -implicitDefEqProofs (disch := first | decide | assumption | (simp (disch := decide) only [gvA, eq_self, if_true, if_false, Bool.false_eq_true, g30, g31, g32, g33]; done) | omega) only [go_sem, wrap_id, sbs, g30, g31, g32, g33, eq_self, if_true, if_false, Bool.false_eq_true]
              refine hK _ _ ?_
              clear hK K
              refine den_stop ?_
              refine ⟨?_, (Ext.trans e17_2 e17_40)⟩
              first | (simp (disch := decide) only [go_sem, g30, g31, g32, g33, eq_self, Bool.true_and, Bool.and_true, Bool.false_and, Bool.and_false, Bool.true_or, Bool.or_true, Bool.false_or, Bool.or_false, if_true, if_false, Bool.false_eq_true]; done) | simp [HasL, sel, puts_at, g30, g31, g32, g33]
             ·try simp -implicitDefEqProofs (disch := first | decide | assumption | (simp (disch := decide) only [gvA, eq_self, if_true, if_false, Bool.false_eq_true, g30, g31, g32, g33]; done) | omega) only [go_sem, wrap_id, sbs, g30, g31, g32, g33, eq_self, if_true, if_false, Bool.false_eq_true]
              refine hK _ _ ?_
              clear hK K
              refine den_stop ?_
              refine ⟨?_, e17_2⟩
              first | (simp (disch := decide) only [go_sem, g30, g31, g32, g33, eq_self, Bool.true_and, Bool.and_true, Bool.false_and, Bool.and_false, Bool.true_or, Bool.or_true, Bool.false_or, Bool.or_false, if_true, if_false, Bool.false_eq_true]; done) | simp [HasL, sel, puts_at, g30, g31, g32, g33]
            ·try simp -implicitDefEqProofs (disch := first | decide | assumption | (simp (disch := decide) only [gvA, eq_self, if_true, if_false, Bool.false_eq_true, g30, g31, g32]; done) | omega) only [go_sem, wrap_id, sbs, g30, g31, g32, eq_self, if_true, if_false, Bool.false_eq_true]
             try simp -implicitDefEqProofs (disch := first | decide | assumption | (simp (disch := decide) only [gvA, eq_self, if_true, if_false, Bool.false_eq_true, g30, g31, g32]; done) | omega) only [go_sem, Int.toNat_zero, fa34_2, fa34_3, ia22, ld2, BoxAt.dgs hb0_0, BoxAt.elC hb16_6, BoxAt.elL hb16_6, wrap_id, sbs, g30, g31, g32, eq_self, if_true, if_false, Bool.false_eq_true]
             try simp -implicitDefEqProofs (disch := first | decide | assumption | omega) only [go_sem, wrap_id, sbs]
             refine CallA.mono (iLies_ok  X ((X.tab i) j) (IntKind.i64.wrap (X.deg i + X.deg j)) (IntKind.i64.wrap (X.lev i + X.lev j)) _  ) ?_
             intro v_ h17_40_1
             rintro ⟨rfl, e17_40_1⟩
             replace hb0_0 := BoxAt.ext hb0_0 e17_40_1
             replace hb16_6 := BoxAt.ext hb16_6 e17_40_1
             have := Ext.size e17_40_1
             replace eB := Ext.trans eB e17_40_1
             replace cL6 := Ext.trans cL6 e17_40_1
             replace cL27 := Ext.trans cL27 e17_40_1
             try simp (disch := decide) only [outv_some, outv_none, put_puts]
             refine plK_pres (Ext.pres e17_40_1) ?_
             try simp -implicitDefEqProofs (disch := first | decide | assumption | (simp (disch := decide) only [gvA, eq_self, if_true, if_false, Bool.false_eq_true, g30, g31, g32]; done) | omega) only [go_sem, wrap_id, sbs, g30, g31, g32, eq_self, if_true, if_false, Bool.false_eq_true]
             refine hK _ _ ?_
             clear hK K
             refine den_stop ?_
             refine ⟨?_, (Ext.trans e17_2 e17_40_1)⟩
             first | (simp (disch := decide) only [go_sem, g30, g31, g32, eq_self, Bool.true_and, Bool.and_true, Bool.false_and, Bool.and_false, Bool.true_or, Bool.or_true, Bool.false_or, Bool.or_false, if_true, if_false, Bool.false_eq_true]; done) | simp [HasL, sel, puts_at, g30, g31, g32]
           ·try simp -implicitDefEqProofs (disch := first | decide | assumption | (simp (disch := decide) only [gvA, eq_self, if_true, if_false, Bool.false_eq_true, g30, g31]; done) | omega) only [go_sem, wrap_id, sbs, g30, g31, eq_self, if_true, if_false, Bool.false_eq_true]
            try simp -implicitDefEqProofs (disch := first | decide | assumption | (simp (disch := decide) only [gvA, eq_self, if_true, if_false, Bool.false_eq_true, g30, g31]; done) | omega) only [go_sem, BoxAt.elC hb16_6, BoxAt.elL hb16_6, wrap_id, sbs, g30, g31, eq_self, if_true, if_false, Bool.false_eq_true]
            refine plG_F (by simp (disch := decide) only [gvA, eq_self, if_true, if_false, Bool.false_eq_true, g30, g31]; rfl) (fun g34 => ?_) (fun g34 => ?_)
            ·try simp -implicitDefEqProofs (disch := first | decide | assumption | (simp (disch := decide) only [gvA, eq_self, if_true, if_false, Bool.false_eq_true, g30, g31, g34]; done) | omega) only [go_sem, Int.toNat_zero, fa34_2, fa34_3, ia22, ld2, BoxAt.dgs hb0_0, BoxAt.elC hb16_6, BoxAt.elL hb16_6, wrap_id, sbs, g30, g31, g34, eq_self, if_true, if_false, Bool.false_eq_true]
             try simp -implicitDefEqProofs (disch := first | decide | assumption | omega) only [go_sem, wrap_id, sbs]
             refine CallA.mono (iLies_ok  X ((X.tab i) j) (IntKind.i64.wrap (X.deg i + X.deg j)) (IntKind.i64.wrap (X.lev i + X.lev j)) _  ) ?_
             intro v_ h17_40_2
             rintro ⟨rfl, e17_40_2⟩
             replace hb0_0 := BoxAt.ext hb0_0 e17_40_2
             replace hb16_6 := BoxAt.ext hb16_6 e17_40_2
             have := Ext.size e17_40_2
             replace eB := Ext.trans eB e17_40_2
             replace cL6 := Ext.trans cL6 e17_40_2
             replace cL27 := Ext.trans cL27 e17_40_2
             try simp (disch := decide) only [outv_some, outv_none, put_puts]
             refine plK_pres (Ext.pres e17_40_2) ?_
             try simp -implicitDefEqProofs (disch := first | decide | assumption | (simp (disch := decide) only [gvA, eq_self, if_true, if_false, Bool.false_eq_true, g30, g31, g34]; done) | omega) only [go_sem, wrap_id, sbs, g30, g31, g34, eq_self, if_true, if_false, Bool.false_eq_true]
             refine hK _ _ ?_
             clear hK K
             refine den_stop ?_
             refine ⟨?_, (Ext.trans e17_2 e17_40_2)⟩
             first | (simp (disch := decide) only [go_sem, g30, g31, g34, eq_self, Bool.true_and, Bool.and_true, Bool.false_and, Bool.and_false, Bool.true_or, Bool.or_true, Bool.false_or, Bool.or_false, if_true, if_false, Bool.false_eq_true]; done) | simp [HasL, sel, puts_at, g30, g31, g34]
            ·try simp -implicitDefEqProofs (disch := first | decide | assumption | (simp (disch := decide) only [gvA, eq_self, if_true, if_false, Bool.false_eq_true, g30, g31, g34]; done) | omega) only [go_sem, wrap_id, sbs, g30, g31, g34, eq_self, if_true, if_false, Bool.false_eq_true]
             refine hK _ _ ?_
             clear hK K
             refine den_stop ?_
             refine ⟨?_, e17_2⟩
             first | (simp (disch := decide) only [go_sem, g30, g31, g34, eq_self, Bool.true_and, Bool.and_true, Bool.false_and, Bool.and_false, Bool.true_or, Bool.or_true, Bool.false_or, Bool.or_false, if_true, if_false, Bool.false_eq_true]; done) | simp [HasL, sel, puts_at, g30, g31, g34]
          ·try simp -implicitDefEqProofs (disch := first | decide | assumption | (simp (disch := decide) only [gvA, eq_self, if_true, if_false, Bool.false_eq_true, g30]; done) | omega) only [go_sem, wrap_id, sbs, g30, eq_self, if_true, if_false, Bool.false_eq_true]
           try simp -implicitDefEqProofs (disch := first | decide | assumption | (simp (disch := decide) only [gvA, eq_self, if_true, if_false, Bool.false_eq_true, g30]; done) | omega) only [go_sem, wrap_id, sbs, g30, eq_self, if_true, if_false, Bool.false_eq_true]
           try simp -implicitDefEqProofs (disch := first | decide | assumption | (simp (disch := decide) only [gvA, eq_self, if_true, if_false, Bool.false_eq_true, g30]; done) | omega) only [go_sem, wrap_id, sbs, g30, eq_self, if_true, if_false, Bool.false_eq_true]
           try simp -implicitDefEqProofs (disch := first | decide | assumption | (simp (disch := decide) only [gvA, eq_self, if_true, if_false, Bool.false_eq_true, g30]; done) | omega) only [go_sem, wrap_id, sbs, g30, eq_self, if_true, if_false, Bool.false_eq_true]
           refine hK _ _ ?_
           clear hK K
           refine den_stop ?_
           refine ⟨?_, e17_2⟩
           first | (simp (disch := decide) only [go_sem, g30, eq_self, Bool.true_and, Bool.and_true, Bool.false_and, Bool.and_false, Bool.true_or, Bool.or_true, Bool.false_or, Bool.or_false, if_true, if_false, Bool.false_eq_true]; done) | simp [HasL, sel, puts_at, g30]
         intro en35 h36 e37
         replace hb0_0 := BoxAt.ext hb0_0 e37
         replace hb16_6 := BoxAt.ext hb16_6 e37
         have := Ext.size e37
         replace eB := Ext.trans eB e37
         replace cL6 := Ext.trans cL6 e37
         replace cL27 := Ext.trans cL27 e37
         simp (disch := decide) only [go_sem]
         refine den_cond rfl (fun c6 => ?_) (fun c6 => ?_)
         ·try simp only [ddA, Bool.or_eq_false_iff, Bool.and_eq_false_iff, in3_iff, in3_f] at c6
          refine den_seq ?_
          refine den_region TTok ?_
          intro K hK
          simp -implicitDefEqProofs (disch := first | decide | assumption | omega) only [go_sem, wrap_id, sbs]
          refine hK _ _ ?_
          clear hK K
          refine den_ret ?_
          simp (disch := decide) only [resP_1, puts_same, puts_ne]
          exact ⟨vbool (fmB_n (fun hh => fm_r18 hh (i := i) (j := j) (by omega) (by omega) c6)), eB⟩
         ·try simp only [ddA, Bool.or_eq_false_iff, Bool.and_eq_false_iff, in3_iff, in3_f] at c6
          refine den_skip ?_
          refine den_blk ?_
          refine den_region TTok ?_
          intro K hK
          simp -implicitDefEqProofs (disch := first | decide | assumption | omega) only [go_sem, wrap_id, sbs]
          refine hK _ _ ?_
          clear hK K
          refine den_stop ?_
          exact ⟨j + 1, by simp [HasL, puts_at], ⟨by first | omega | (dsimp only; omega), fun b hb => by
 by_cases hbj : b < j
 ·exact hzc b hbj
 ·have e : b = j := by omega
  subst e
  exact fm_cell c6, cL27⟩, by first | omega | (dsimp only; omega)⟩
        ·try simp only [ddA, Bool.or_eq_false_iff, Bool.and_eq_false_iff, in3_iff, in3_f] at c5
         refine den_exit ?_
         refine denX_code ?_
         refine denX_stop ?_
         refine denX_hit ?_
         refine den_blk ?_
         refine den_region TTok ?_
         intro K hK
         simp -implicitDefEqProofs (disch := first | decide | assumption | omega) only [go_sem, wrap_id, sbs]
         refine hK _ _ ?_
         clear hK K
         refine den_stop ?_
         exact ⟨i + 1, by simp [HasL, puts_at], ⟨by first | omega | (dsimp only; omega), fun a ha => by
 by_cases hai : a < i
 ·exact hz a hai
 ·have e : a = i := by omega
  subst e
  exact fm_row hB c2 c3 c4 (fun b hb => hzc b (by omega)), cL6⟩, by first | omega | (dsimp only; omega)⟩
   ·try simp only [ddA, Bool.or_eq_false_iff, Bool.and_eq_false_iff, in3_iff, in3_f] at c1
    refine den_exit ?_
    refine denX_code ?_
    refine denX_stop ?_
    refine denX_hit ?_
    refine den_seq ?_
    refine den_mergeH [(2, .bool ((((X.deg 0) == (0 : Int)) && ((X.lev 0) == (0 : Int)))))] [] ?_ ?_
     -- a way
    ·refine den_region TTok ?_
     intro K hK
     simp -implicitDefEqProofs (disch := first | decide | assumption | (simp (disch := decide) only [gvA, eq_self, if_true, if_false, Bool.false_eq_true]; done) | omega) only [go_sem, Int.toNat_zero, fa34_2, ia22, ld2, BoxAt.dgs hb0_0, wrap_id, sbs]
     refine opsP_T (by simp (disch := decide) only [gvA, eq_self, if_true, if_false, Bool.false_eq_true]; rfl) (fun g38 => ?_) (fun g38 => ?_)
     ·try simp -implicitDefEqProofs (disch := first | decide | assumption | (simp (disch := decide) only [gvA, eq_self, if_true, if_false, Bool.false_eq_true, g38]; done) | omega) only [go_sem, Int.toNat_zero, fa34_3, ia22, ld2, BoxAt.dgs hb0_0, wrap_id, sbs, g38, eq_self, if_true, if_false, Bool.false_eq_true]
      refine hK _ _ ?_
      clear hK K
      refine den_stop ?_
      refine ⟨?_, rfl⟩
      first | (simp (disch := decide) only [go_sem, g38, eq_self, Bool.true_and, Bool.and_true, Bool.false_and, Bool.and_false, Bool.true_or, Bool.or_true, Bool.false_or, Bool.or_false, if_true, if_false, Bool.false_eq_true]; done) | simp [HasL, sel, puts_at, g38]
     ·try simp -implicitDefEqProofs (disch := first | decide | assumption | (simp (disch := decide) only [gvA, eq_self, if_true, if_false, Bool.false_eq_true, g38]; done) | omega) only [go_sem, wrap_id, sbs, g38, eq_self, if_true, if_false, Bool.false_eq_true]
      refine hK _ _ ?_
      clear hK K
      refine den_stop ?_
      refine ⟨?_, rfl⟩
      first | (simp (disch := decide) only [go_sem, g38, eq_self, Bool.true_and, Bool.and_true, Bool.false_and, Bool.and_false, Bool.true_or, Bool.or_true, Bool.false_or, Bool.or_false, if_true, if_false, Bool.false_eq_true]; done) | simp [HasL, sel, puts_at, g38]
    intro en39
    simp (disch := decide) only [go_sem]
    refine den_ret ?_
    simp (disch := decide) only [resP_1, puts_same, puts_ne]
    exact ⟨vbool (fm_all c0 (fun a ha => hz a (by omega))), eB⟩
end Go.Proofs.Ytacajcjibhifmaa

namespace Go.Proofs.Ytacajcjibhifmaa
open Go
theorem lies_s {X : Dg} {u : Nat → Int} {d l : Int} (hs : 0 ≤ X.s ∧ X.s ≤ 8) (h : isEl X.p X.s u) : lies X u d l X.s.toNat ↔ lies X u d l 8 :=
 ⟨fun k i hi hne => k i (by have := (h i hi).2; have := fun q => hne (this q); omega) hne, fun k i hi hne => k i (by omega) hne⟩
theorem sh_r6 {X : Dg} {i : Nat} (h : RowF X i) (c : (X.s ≤ (i : Int) ∧ ((¬ X.deg i = 0 ∨ ¬ X.lev i = 0) ∨ eqE (X.dif i) z8 = false)) ∨ isElB X.p X.s (X.dif i) = false) : False := by
 rcases c with c | c
 ·exact fm_r8 h ⟨by omega, c.2⟩
 ·rw [isElB_t.2 h.el] at c; cases c
theorem sh_r8 {X : Dg} {i : Nat} (h : RowF X i) (c : (¬ (0 ≤ X.deg i ∧ X.deg i ≤ 5) ∨ ¬ (0 ≤ X.lev i ∧ X.lev i ≤ 5)) ∨ ((0 < (i : Int) ∧ (i : Int) < X.s) ∧ X.deg i < X.deg ((i : Int) - 1).toNat)) : False := by
 rcases c with (c | c) | c
 ·exact c h.deg
 ·exact c h.lev
 ·have := h.inc c.1.2 (by omega)
  rw [show ((i : Int) - 1).toNat = i - 1 by omega] at c
  omega
theorem sh_r13 {X : Dg} {i j : Nat} (h : CellF X i j) (c : isElB X.p X.s (X.tab i j) = false ∨ ((X.s ≤ (i : Int) ∨ X.s ≤ (j : Int)) ∧ eqE (X.tab i j) z8 = false)) : False := by
 rcases c with c | ⟨c1, c2⟩
 ·rw [isElB_t.2 h.el] at c; cases c
 ·rw [eqE_z.2 (h.out c1)] at c2; cases c2
theorem sh_cell {X : Dg} {i j : Nat} (c : isElB X.p X.s (X.tab i j) = true ∧ ((¬ X.s ≤ (i : Int) ∧ ¬ X.s ≤ (j : Int)) ∨ eqE (X.tab i j) z8 = true)) : CellF X i j :=
 ⟨isElB_t.1 c.1, fun h => by
  rcases c.2 with c2 | c2
  ·omega
  ·exact eqE_z.1 c2⟩
theorem sh_row {X : Dg} {i : Nat} (c2 : (¬ X.s ≤ (i : Int) ∨ (X.deg i = 0 ∧ X.lev i = 0) ∧ eqE (X.dif i) z8 = true) ∧ isElB X.p X.s (X.dif i) = true) (c3 : ((0 ≤ X.deg i ∧ X.deg i ≤ 5) ∧ 0 ≤ X.lev i ∧ X.lev i ≤ 5) ∧ ((¬ 0 < (i : Int) ∨ ¬ (i : Int) < X.s) ∨ ¬ X.deg i < X.deg ((i : Int) - 1).toNat)) : RowF X i := by
 refine ⟨fun h => ?_, c3.1.1, c3.1.2, isElB_t.1 c2.2, fun h h0 => ?_⟩
 ·rcases c2.1 with c2 | ⟨⟨a, b⟩, c⟩
  ·omega
  ·exact ⟨a, b, eqE_z.1 c⟩
 ·rcases c3.2 with c4 | c4
  ·omega
  ·rw [show ((i : Int) - 1).toNat = i - 1 by omega] at c4
   omega
theorem sh_all {X : Dg} (c0 : isP X.p = true ∧ 1 ≤ X.s ∧ X.s ≤ 8) (hr : ∀ a : Nat, a < 8 → RowF X a ∧ ∀ b : Nat, b < 8 → CellF X a b) (hz : ∀ a : Nat, a < X.s.toNat → lies X (X.dif a) (X.deg a - 1) (X.lev a) X.s.toNat ∧ ∀ b : Nat, b < X.s.toNat → lies X (X.tab a b) (X.deg a + X.deg b) (X.lev a + X.lev b) X.s.toNat) : ((X.deg 0 == 0) && (X.lev 0 == 0)) = fmB X := by
 rw [Bool.eq_iff_iff, fmB_t, Bool.and_eq_true, beq_iff_eq, beq_iff_eq]
 constructor
 ·rintro ⟨d0, l0⟩
  refine ⟨c0.1, c0.2, fun i hi => (hr i hi).1, fun i hi j hj => (hr i hi).2 j hj, fun i hi hs => (lies_s (by omega) (hr i hi).1.el).1 (hz i (by omega)).1, fun i hi j hj => ?_, d0, l0⟩
  by_cases h : X.s ≤ (i : Int) ∨ X.s ≤ (j : Int)
  ·exact fun k hk hne => absurd (((hr i hi).2 j hj).out h k hk) hne
  ·exact (lies_s (by omega) ((hr i hi).2 j hj).el).1 ((hz i (by omega)).2 j (by omega))
 ·intro h
  exact ⟨h.d0, h.l0⟩
theorem sh_c7 {X : Dg} (hh : IsFm X) {i : Nat} (hi : i < 8) (hs : (i : Int) < X.s) (c : liesB X (X.dif i) (X.deg i - 1) (X.lev i) X.s.toNat = false) : False := by
 have := hh.s
 rw [liesB_t.2 ((lies_s (by omega) (hh.row i hi).el).2 (hh.dl i hi hs))] at c; cases c
theorem sh_c9 {X : Dg} (hh : IsFm X) {i j : Nat} (hi : i < 8) (hj : j < 8) (c : liesB X (X.tab i j) (X.deg i + X.deg j) (X.lev i + X.lev j) X.s.toNat = false) : False := by
 have := hh.s
 rw [liesB_t.2 ((lies_s (by omega) (hh.cell i hi j hj).el).2 (hh.tl i hi j hj))] at c; cases c

set_option maxRecDepth 100000 in
set_option maxHeartbeats 4000000 in
theorem sFm_ok (X : Dg) (h : Heap)  (hB : DgB X) : CallA Try.prog 89 #[.agg (dgA X)] h fun v' h' => v' = .bool (fmB X) ∧ Ext h h' := by
 have hBd := hB.dif
 have hBt := hB.tab
 refine callA_intro TTok (args := [_]) Try.func89 (by kernel_rfl) rfl 198 rfl (by simp) [.tmp 2] rfl ?_
 simp only [idxs, Nat.reduceAdd]
 refine den_seq ?_
 refine den_region TTok ?_
 intro K hK
 simp -implicitDefEqProofs (disch := first | decide | assumption | omega) only [go_sem, wrap_id, sbs]
 refine op_box (cs := dgA X) rfl ?_
 intro h0_0 e0_0 hb0_0 z0_0
 have := Ext.size e0_0
 have eB := e0_0
 have hfhb0_0 : Fresh h.size [h.size] := Fresh.one _
 have hlhb0_0 := one_lt (show h.size < h0_0.size by omega)
 try simp -implicitDefEqProofs (disch := first | decide | assumption | omega) only [go_sem, wrap_id, sbs]
 refine hK _ _ ?_
 clear hK K
 refine den_seq ?_
 refine den_seq ?_
 refine den_mergeH [(16, .bool (((!((isP X.p))) || (!((in3 X.s (1 : Int) (8 : Int)))))))] [1] ?_ ?_
  -- a way
 ·refine den_region TTok ?_
  intro K hK
  simp -implicitDefEqProofs (disch := first | decide | assumption | (simp (disch := decide) only [gvA, eq_self, if_true, if_false, Bool.false_eq_true]; done) | omega) only [go_sem, fa34_0, ld2, BoxAt.dgs hb0_0, wrap_id, sbs]
  try simp -implicitDefEqProofs (disch := first | decide | assumption | omega) only [go_sem, wrap_id, sbs]
  refine CallA.pure (sPrime_ok _ _) ?_
  try simp -implicitDefEqProofs (disch := first | decide | assumption | (simp (disch := decide) only [gvA, eq_self, if_true, if_false, Bool.false_eq_true]; done) | omega) only [go_sem, wrap_id, sbs]
  refine opsP_F (by simp (disch := decide) only [gvA, eq_self, if_true, if_false, Bool.false_eq_true]; rfl) (fun g1 => ?_) (fun g1 => ?_)
  ·try simp -implicitDefEqProofs (disch := first | decide | assumption | (simp (disch := decide) only [gvA, eq_self, if_true, if_false, Bool.false_eq_true, g1]; done) | omega) only [go_sem, fa34_1, ld2, BoxAt.dgs hb0_0, wrap_id, sbs, g1, eq_self, if_true, if_false, Bool.false_eq_true]
   try simp -implicitDefEqProofs (disch := first | decide | assumption | omega) only [go_sem, wrap_id, sbs]
   refine CallA.pure (sIn_ok _ _ _ _) ?_
   try simp -implicitDefEqProofs (disch := first | decide | assumption | (simp (disch := decide) only [gvA, eq_self, if_true, if_false, Bool.false_eq_true, g1]; done) | omega) only [go_sem, wrap_id, sbs, g1, eq_self, if_true, if_false, Bool.false_eq_true]
   refine hK _ _ ?_
   clear hK K
   refine den_stop ?_
   refine ⟨?_, rfl⟩
   first | (simp (disch := decide) only [go_sem, g1, eq_self, Bool.true_and, Bool.and_true, Bool.false_and, Bool.and_false, Bool.true_or, Bool.or_true, Bool.false_or, Bool.or_false, if_true, if_false, Bool.false_eq_true]; done) | simp [HasL, sel, puts_at, g1]
  ·try simp -implicitDefEqProofs (disch := first | decide | assumption | (simp (disch := decide) only [gvA, eq_self, if_true, if_false, Bool.false_eq_true, g1]; done) | omega) only [go_sem, wrap_id, sbs, g1, eq_self, if_true, if_false, Bool.false_eq_true]
   refine hK _ _ ?_
   clear hK K
   refine den_stop ?_
   refine ⟨?_, rfl⟩
   first | (simp (disch := decide) only [go_sem, g1, eq_self, Bool.true_and, Bool.and_true, Bool.false_and, Bool.and_false, Bool.true_or, Bool.or_true, Bool.false_or, Bool.or_false, if_true, if_false, Bool.false_eq_true]; done) | simp [HasL, sel, puts_at, g1]
 intro en2
 simp (disch := decide) only [go_sem]
 refine den_cond rfl (fun c0 => ?_) (fun c0 => ?_)
 ·try simp only [ddA, Bool.or_eq_false_iff, Bool.and_eq_false_iff, in3_iff, in3_f] at c0
  refine den_seq ?_
  refine den_region TTok ?_
  intro K hK
  simp -implicitDefEqProofs (disch := first | decide | assumption | omega) only [go_sem, wrap_id, sbs]
  refine hK _ _ ?_
  clear hK K
  refine den_ret ?_
  simp (disch := decide) only [resP_1, puts_same, puts_ne]
  exact ⟨vbool (fmB_n (fun hh => fm_0 hh c0)), eB⟩
 ·try simp only [ddA, Bool.or_eq_false_iff, Bool.and_eq_false_iff, in3_iff, in3_f] at c0
  refine den_skip ?_
  refine den_seq ?_
  refine den_seq ?_
  refine den_region TTok ?_
  intro K hK
  simp -implicitDefEqProofs (disch := first | decide | assumption | omega) only [go_sem, wrap_id, sbs]
  refine hK _ _ ?_
  clear hK K
  refine den_block ?_
  refine den_sel [3, 1] ?_
  intro env_5
  simp only [go_sem]
  refine den_loopS (σ := Nat) (fun st_ => [(3, .int .i64 (st_ : Int))]) (fun st_ H => (st_ ≤ 8) ∧ (∀ a : Nat, a < st_ → RowF X a ∧ ∀ b : Nat, b < 8 → CellF X a b) ∧ (Ext h0_0 H)) (fun st_ => 8 - st_) 0 ?_ ?_
  ·exact ⟨by omega, fun a h => by omega, Ext.refl _⟩
  ·rintro i h8 ee7 ⟨hi, hr, cL6⟩
   replace hb0_0 := BoxAt.ext hb0_0 cL6
   have := Ext.size cL6
   replace eB := Ext.trans eB cL6
   simp only [List.cons_append, List.nil_append]
   refine den_seq ?_
   refine den_seq ?_
   refine den_region TTok ?_
   intro K hK
   simp -implicitDefEqProofs (disch := first | decide | assumption | omega) only [go_sem, wrap_id, sbs]
   refine hK _ _ ?_
   clear hK K
   refine den_cond rfl (fun c1 => ?_) (fun c1 => ?_)
   ·try simp only [ddA, Bool.or_eq_false_iff, Bool.and_eq_false_iff, in3_iff, in3_f] at c1
    refine den_skip ?_
    refine den_seq ?_
    refine den_block ?_
    refine den_seq ?_
    refine den_seq ?_
    refine den_merge [(58, .bool ((((decide (X.s ≤ (i : Int))) && ((((X.deg i) != (0 : Int)) || ((X.lev i) != (0 : Int))) || (!(eqE (X.dif i) z8)))) || (!((isElB X.p X.s (X.dif i)))))))] [1, 3] (fun H => Ext h8 H) ?_ ?_
     -- a way
    ·refine den_draw TTok mixed [] [(0, true), (1, true), (2, true), (3, true), (4, true), (5, true), (6, true), (7, true), (8, true), (9, true), (10, true), (11, true), (12, true), (13, true), (14, true), (15, true), (16, true), (17, true), (18, true), (19, true), (20, true), (21, true), (22, true), (23, true), (24, true), (25, true), (26, true), (27, true), (28, true), (29, true), (30, true), (31, true), (32, true), (33, true), (34, true), (35, false), (36, true), (37, true)] (by kernel_rfl) ?_
     intro K hK
     simp -implicitDefEqProofs (disch := first | decide | assumption | (simp (disch := decide) only [gvA, eq_self, if_true, if_false, Bool.false_eq_true]; done) | omega) only [go_sem, fa34_1, ld2, BoxAt.dgs hb0_0, wrap_id, sbs]
     refine plG_T (by simp (disch := decide) only [gvA, eq_self, if_true, if_false, Bool.false_eq_true]; rfl) (fun g9 => ?_) (fun g9 => ?_)
     ·try simp -implicitDefEqProofs (disch := first | decide | assumption | (simp (disch := decide) only [gvA, eq_self, if_true, if_false, Bool.false_eq_true, g9]; done) | omega) only [go_sem, Int.toNat_zero, fa34_2, ia22, ld2, BoxAt.dgs hb0_0, wrap_id, sbs, g9, eq_self, if_true, if_false, Bool.false_eq_true]
      refine plG_F (by simp (disch := decide) only [gvA, eq_self, if_true, if_false, Bool.false_eq_true, g9]; rfl) (fun g10 => ?_) (fun g10 => ?_)
      ·try simp -implicitDefEqProofs (disch := first | decide | assumption | (simp (disch := decide) only [gvA, eq_self, if_true, if_false, Bool.false_eq_true, g9, g10]; done) | omega) only [go_sem, Int.toNat_zero, fa34_3, ia22, ld2, BoxAt.dgs hb0_0, wrap_id, sbs, g9, g10, eq_self, if_true, if_false, Bool.false_eq_true]
       refine plG_F (by simp (disch := decide) only [gvA, eq_self, if_true, if_false, Bool.false_eq_true, g9, g10]; rfl) (fun g11 => ?_) (fun g11 => ?_)
       ·try simp -implicitDefEqProofs (disch := first | decide | assumption | (simp (disch := decide) only [gvA, eq_self, if_true, if_false, Bool.false_eq_true, g9, g10, g11]; done) | omega) only [go_sem, Int.toNat_zero, fa34_4, ia31, BoxAt.dgs hb0_0, wrap_id, sbs, g9, g10, g11, eq_self, if_true, if_false, Bool.false_eq_true]
        refine plG_F (by simp (disch := decide) only [gvA, eq_self, if_true, if_false, Bool.false_eq_true, g9, g10, g11]; rfl) (fun g12 => ?_) (fun g12 => ?_)
        ·try simp -implicitDefEqProofs (disch := first | decide | assumption | (simp (disch := decide) only [gvA, eq_self, if_true, if_false, Bool.false_eq_true, g9, g10, g11, g12]; done) | omega) only [go_sem, Int.toNat_zero, fa34_0, fa34_1, fa34_4, ia31, ld2, BoxAt.dgs hb0_0, wrap_id, sbs, g9, g10, g11, g12, eq_self, if_true, if_false, Bool.false_eq_true]
         try simp -implicitDefEqProofs (disch := first | decide | assumption | omega) only [go_sem, wrap_id, sbs]
         refine CallA.mono (sSm_ok  X.p X.s (X.dif i) _  (by first | assumption | exact e8_by _ | exact By.z8 | exact hBd _ | exact hBt _ _ | exact tmJ_by (by omega) (tmI_by (by omega) _) _ | exact timesP_by (by omega) | exact dfI_by (by omega) _ | exact plusN_by (by omega) (timesP_by (by omega)) | exact dfI_by (by omega) 8)) ?_
         intro v_ h6_35
         rintro ⟨rfl, e6_35⟩
         replace hb0_0 := BoxAt.ext hb0_0 e6_35
         have := Ext.size e6_35
         replace eB := Ext.trans eB e6_35
         replace cL6 := Ext.trans cL6 e6_35
         try simp (disch := decide) only [outv_some, outv_none, put_puts]
         refine plK_pres (Ext.pres e6_35) ?_
         try simp -implicitDefEqProofs (disch := first | decide | assumption | (simp (disch := decide) only [gvA, eq_self, if_true, if_false, Bool.false_eq_true, g9, g10, g11, g12]; done) | omega) only [go_sem, wrap_id, sbs, g9, g10, g11, g12, eq_self, if_true, if_false, Bool.false_eq_true]
         refine hK _ _ ?_
         clear hK K
         refine den_stop ?_
         refine ⟨?_, e6_35⟩
         first | (simp (disch := decide) only [go_sem, g9, g10, g11, g12, eq_self, Bool.true_and, Bool.and_true, Bool.false_and, Bool.and_false, Bool.true_or, Bool.or_true, Bool.false_or, Bool.or_false, if_true, if_false, Bool.false_eq_true]; done) | simp [HasL, sel, puts_at, g9, g10, g11, g12]
        ·try simp -implicitDefEqProofs (disch := first | decide | assumption | (simp (disch := decide) only [gvA, eq_self, if_true, if_false, Bool.false_eq_true, g9, g10, g11, g12]; done) | omega) only [go_sem, wrap_id, sbs, g9, g10, g11, g12, eq_self, if_true, if_false, Bool.false_eq_true]
         refine hK _ _ ?_
         clear hK K
         refine den_stop ?_
         refine ⟨?_, Ext.refl _⟩
         first | (simp (disch := decide) only [go_sem, g9, g10, g11, g12, eq_self, Bool.true_and, Bool.and_true, Bool.false_and, Bool.and_false, Bool.true_or, Bool.or_true, Bool.false_or, Bool.or_false, if_true, if_false, Bool.false_eq_true]; done) | simp [HasL, sel, puts_at, g9, g10, g11, g12]
       ·try simp -implicitDefEqProofs (disch := first | decide | assumption | (simp (disch := decide) only [gvA, eq_self, if_true, if_false, Bool.false_eq_true, g9, g10, g11]; done) | omega) only [go_sem, wrap_id, sbs, g9, g10, g11, eq_self, if_true, if_false, Bool.false_eq_true]
        try simp -implicitDefEqProofs (disch := first | decide | assumption | (simp (disch := decide) only [gvA, eq_self, if_true, if_false, Bool.false_eq_true, g9, g10, g11]; done) | omega) only [go_sem, wrap_id, sbs, g9, g10, g11, eq_self, if_true, if_false, Bool.false_eq_true]
        refine hK _ _ ?_
        clear hK K
        refine den_stop ?_
        refine ⟨?_, Ext.refl _⟩
        first | (simp (disch := decide) only [go_sem, g9, g10, g11, eq_self, Bool.true_and, Bool.and_true, Bool.false_and, Bool.and_false, Bool.true_or, Bool.or_true, Bool.false_or, Bool.or_false, if_true, if_false, Bool.false_eq_true]; done) | simp [HasL, sel, puts_at, g9, g10, g11]
      ·try simp -implicitDefEqProofs (disch := first | decide | assumption | (simp (disch := decide) only [gvA, eq_self, if_true, if_false, Bool.false_eq_true, g9, g10]; done) | omega) only [go_sem, wrap_id, sbs, g9, g10, eq_self, if_true, if_false, Bool.false_eq_true]
       try simp -implicitDefEqProofs (disch := first | decide | assumption | (simp (disch := decide) only [gvA, eq_self, if_true, if_false, Bool.false_eq_true, g9, g10]; done) | omega) only [go_sem, wrap_id, sbs, g9, g10, eq_self, if_true, if_false, Bool.false_eq_true]
       try simp -implicitDefEqProofs (disch := first | decide | assumption | (simp (disch := decide) only [gvA, eq_self, if_true, if_false, Bool.false_eq_true, g9, g10]; done) | omega) only [go_sem, wrap_id, sbs, g9, g10, eq_self, if_true, if_false, Bool.false_eq_true]
       refine hK _ _ ?_
       clear hK K
       refine den_stop ?_
       refine ⟨?_, Ext.refl _⟩
       first | (simp (disch := decide) only [go_sem, g9, g10, eq_self, Bool.true_and, Bool.and_true, Bool.false_and, Bool.and_false, Bool.true_or, Bool.or_true, Bool.false_or, Bool.or_false, if_true, if_false, Bool.false_eq_true]; done) | simp [HasL, sel, puts_at, g9, g10]
     ·try simp -implicitDefEqProofs (disch := first | decide | assumption | (simp (disch := decide) only [gvA, eq_self, if_true, if_false, Bool.false_eq_true, g9]; done) | omega) only [go_sem, wrap_id, sbs, g9, eq_self, if_true, if_false, Bool.false_eq_true]
      try simp -implicitDefEqProofs (disch := first | decide | assumption | (simp (disch := decide) only [gvA, eq_self, if_true, if_false, Bool.false_eq_true, g9]; done) | omega) only [go_sem, wrap_id, sbs, g9, eq_self, if_true, if_false, Bool.false_eq_true]
      try simp -implicitDefEqProofs (disch := first | decide | assumption | (simp (disch := decide) only [gvA, eq_self, if_true, if_false, Bool.false_eq_true, g9]; done) | omega) only [go_sem, wrap_id, sbs, g9, eq_self, if_true, if_false, Bool.false_eq_true]
      try simp -implicitDefEqProofs (disch := first | decide | assumption | (simp (disch := decide) only [gvA, eq_self, if_true, if_false, Bool.false_eq_true, g9]; done) | omega) only [go_sem, Int.toNat_zero, fa34_0, fa34_1, fa34_4, ia31, ld2, BoxAt.dgs hb0_0, wrap_id, sbs, g9, eq_self, if_true, if_false, Bool.false_eq_true]
      try simp -implicitDefEqProofs (disch := first | decide | assumption | omega) only [go_sem, wrap_id, sbs]
      refine CallA.mono (sSm_ok  X.p X.s (X.dif i) _  (by first | assumption | exact e8_by _ | exact By.z8 | exact hBd _ | exact hBt _ _ | exact tmJ_by (by omega) (tmI_by (by omega) _) _ | exact timesP_by (by omega) | exact dfI_by (by omega) _ | exact plusN_by (by omega) (timesP_by (by omega)) | exact dfI_by (by omega) 8)) ?_
      intro v_ h6_35_1
      rintro ⟨rfl, e6_35_1⟩
      replace hb0_0 := BoxAt.ext hb0_0 e6_35_1
      have := Ext.size e6_35_1
      replace eB := Ext.trans eB e6_35_1
      replace cL6 := Ext.trans cL6 e6_35_1
      try simp (disch := decide) only [outv_some, outv_none, put_puts]
      refine plK_pres (Ext.pres e6_35_1) ?_
      try simp -implicitDefEqProofs (disch := first | decide | assumption | (simp (disch := decide) only [gvA, eq_self, if_true, if_false, Bool.false_eq_true, g9]; done) | omega) only [go_sem, wrap_id, sbs, g9, eq_self, if_true, if_false, Bool.false_eq_true]
      refine hK _ _ ?_
      clear hK K
      refine den_stop ?_
      refine ⟨?_, e6_35_1⟩
      first | (simp (disch := decide) only [go_sem, g9, eq_self, Bool.true_and, Bool.and_true, Bool.false_and, Bool.and_false, Bool.true_or, Bool.or_true, Bool.false_or, Bool.or_false, if_true, if_false, Bool.false_eq_true]; done) | simp [HasL, sel, puts_at, g9]
    intro en13 h14 e15
    replace hb0_0 := BoxAt.ext hb0_0 e15
    have := Ext.size e15
    replace eB := Ext.trans eB e15
    replace cL6 := Ext.trans cL6 e15
    simp (disch := decide) only [go_sem]
    refine den_cond rfl (fun c2 => ?_) (fun c2 => ?_)
    ·try simp only [ddA, Bool.or_eq_false_iff, Bool.and_eq_false_iff, in3_iff, in3_f] at c2
     refine den_seq ?_
     refine den_region TTok ?_
     intro K hK
     simp -implicitDefEqProofs (disch := first | decide | assumption | omega) only [go_sem, wrap_id, sbs]
     refine hK _ _ ?_
     clear hK K
     refine den_ret ?_
     simp (disch := decide) only [resP_1, puts_same, puts_ne]
     exact ⟨vbool (fmB_n (fun hh => sh_r6 (hh.row i (by omega)) c2)), eB⟩
    ·try simp only [ddA, Bool.or_eq_false_iff, Bool.and_eq_false_iff, in3_iff, in3_f] at c2
     refine den_skip ?_
     refine den_seq ?_
     refine den_seq ?_
     refine den_mergeH [(94, .bool ((((!((in3 (X.deg i) (0 : Int) (5 : Int)))) || (!((in3 (X.lev i) (0 : Int) (5 : Int))))) || (((decide ((0 : Int) < (i : Int))) && (decide ((i : Int) < X.s))) && (decide ((X.deg i) < (X.deg (((i : Int) - (1 : Int))).toNat)))))))] [1, 3] ?_ ?_
      -- a way
     ·refine den_draw TTok mixed [] [(0, true), (1, true), (2, true), (3, true), (4, false), (5, true), (6, true), (7, true), (8, true), (9, true), (10, true), (11, false), (12, true), (13, true), (14, true), (15, true), (16, true), (17, true), (18, true), (19, true), (20, true), (21, true), (22, true), (23, true), (24, true), (25, true), (26, true), (27, true), (28, true), (29, true), (30, true), (31, true), (32, true), (33, true), (34, true), (35, true)] (by kernel_rfl) ?_
      intro K hK
      simp -implicitDefEqProofs (disch := first | decide | assumption | (simp (disch := decide) only [gvA, eq_self, if_true, if_false, Bool.false_eq_true]; done) | omega) only [go_sem, Int.toNat_zero, fa34_2, ia22, ld2, BoxAt.dgs hb0_0, wrap_id, sbs]
      try simp -implicitDefEqProofs (disch := first | decide | assumption | omega) only [go_sem, wrap_id, sbs]
      refine CallA.pure (sIn_ok _ _ _ _) ?_
      try simp -implicitDefEqProofs (disch := first | decide | assumption | (simp (disch := decide) only [gvA, eq_self, if_true, if_false, Bool.false_eq_true]; done) | omega) only [go_sem, wrap_id, sbs]
      refine plG_F (by simp (disch := decide) only [gvA, eq_self, if_true, if_false, Bool.false_eq_true]; rfl) (fun g16 => ?_) (fun g16 => ?_)
      ·try simp -implicitDefEqProofs (disch := first | decide | assumption | (simp (disch := decide) only [gvA, eq_self, if_true, if_false, Bool.false_eq_true, g16]; done) | omega) only [go_sem, Int.toNat_zero, fa34_3, ia22, ld2, BoxAt.dgs hb0_0, wrap_id, sbs, g16, eq_self, if_true, if_false, Bool.false_eq_true]
       try simp -implicitDefEqProofs (disch := first | decide | assumption | omega) only [go_sem, wrap_id, sbs]
       refine CallA.pure (sIn_ok _ _ _ _) ?_
       try simp -implicitDefEqProofs (disch := first | decide | assumption | (simp (disch := decide) only [gvA, eq_self, if_true, if_false, Bool.false_eq_true, g16]; done) | omega) only [go_sem, wrap_id, sbs, g16, eq_self, if_true, if_false, Bool.false_eq_true]
       refine plG_F (by simp (disch := decide) only [gvA, eq_self, if_true, if_false, Bool.false_eq_true, g16]; rfl) (fun g17 => ?_) (fun g17 => ?_)
       ·try simp -implicitDefEqProofs (disch := first | decide | assumption | (simp (disch := decide) only [gvA, eq_self, if_true, if_false, Bool.false_eq_true, g16, g17]; done) | omega) only [go_sem, wrap_id, sbs, g16, g17, eq_self, if_true, if_false, Bool.false_eq_true]
        refine plG_T (by simp (disch := decide) only [gvA, eq_self, if_true, if_false, Bool.false_eq_true, g16, g17]; rfl) (fun g18 => ?_) (fun g18 => ?_)
        ·have hgi : 0 < i := by have := of_decide_eq_true g18; omega
         try simp -implicitDefEqProofs (disch := first | decide | assumption | (simp (disch := decide) only [gvA, eq_self, if_true, if_false, Bool.false_eq_true, g16, g17, g18]; done) | omega) only [go_sem, fa34_1, ld2, BoxAt.dgs hb0_0, wrap_id, sbs, g16, g17, g18, eq_self, if_true, if_false, Bool.false_eq_true]
         refine plG_T (by simp (disch := decide) only [gvA, eq_self, if_true, if_false, Bool.false_eq_true, g16, g17, g18]; rfl) (fun g19 => ?_) (fun g19 => ?_)
         ·try simp -implicitDefEqProofs (disch := first | decide | assumption | (simp (disch := decide) only [gvA, eq_self, if_true, if_false, Bool.false_eq_true, g16, g17, g18, g19]; done) | omega) only [go_sem, Int.toNat_zero, fa34_2, ia22, ld2, BoxAt.dgs hb0_0, wrap_id, sbs, g16, g17, g18, g19, eq_self, if_true, if_false, Bool.false_eq_true]
          refine hK _ _ ?_
          clear hK K
          refine den_stop ?_
          refine ⟨?_, rfl⟩
          first | (simp (disch := decide) only [go_sem, g16, g17, g18, g19, eq_self, Bool.true_and, Bool.and_true, Bool.false_and, Bool.and_false, Bool.true_or, Bool.or_true, Bool.false_or, Bool.or_false, if_true, if_false, Bool.false_eq_true]; done) | simp [HasL, sel, puts_at, g16, g17, g18, g19]
         ·try simp -implicitDefEqProofs (disch := first | decide | assumption | (simp (disch := decide) only [gvA, eq_self, if_true, if_false, Bool.false_eq_true, g16, g17, g18, g19]; done) | omega) only [go_sem, wrap_id, sbs, g16, g17, g18, g19, eq_self, if_true, if_false, Bool.false_eq_true]
          refine hK _ _ ?_
          clear hK K
          refine den_stop ?_
          refine ⟨?_, rfl⟩
          first | (simp (disch := decide) only [go_sem, g16, g17, g18, g19, eq_self, Bool.true_and, Bool.and_true, Bool.false_and, Bool.and_false, Bool.true_or, Bool.or_true, Bool.false_or, Bool.or_false, if_true, if_false, Bool.false_eq_true]; done) | simp [HasL, sel, puts_at, g16, g17, g18, g19]
        ·try simp -implicitDefEqProofs (disch := first | decide | assumption | (simp (disch := decide) only [gvA, eq_self, if_true, if_false, Bool.false_eq_true, g16, g17, g18]; done) | omega) only [go_sem, wrap_id, sbs, g16, g17, g18, eq_self, if_true, if_false, Bool.false_eq_true]
         try simp -implicitDefEqProofs (disch := first | decide | assumption | (simp (disch := decide) only [gvA, eq_self, if_true, if_false, Bool.false_eq_true, g16, g17, g18]; done) | omega) only [go_sem, wrap_id, sbs, g16, g17, g18, eq_self, if_true, if_false, Bool.false_eq_true]
         refine hK _ _ ?_
         clear hK K
         refine den_stop ?_
         refine ⟨?_, rfl⟩
         first | (simp (disch := decide) only [go_sem, g16, g17, g18, eq_self, Bool.true_and, Bool.and_true, Bool.false_and, Bool.and_false, Bool.true_or, Bool.or_true, Bool.false_or, Bool.or_false, if_true, if_false, Bool.false_eq_true]; done) | simp [HasL, sel, puts_at, g16, g17, g18]
       ·try simp -implicitDefEqProofs (disch := first | decide | assumption | (simp (disch := decide) only [gvA, eq_self, if_true, if_false, Bool.false_eq_true, g16, g17]; done) | omega) only [go_sem, wrap_id, sbs, g16, g17, eq_self, if_true, if_false, Bool.false_eq_true]
        try simp -implicitDefEqProofs (disch := first | decide | assumption | (simp (disch := decide) only [gvA, eq_self, if_true, if_false, Bool.false_eq_true, g16, g17]; done) | omega) only [go_sem, wrap_id, sbs, g16, g17, eq_self, if_true, if_false, Bool.false_eq_true]
        try simp -implicitDefEqProofs (disch := first | decide | assumption | (simp (disch := decide) only [gvA, eq_self, if_true, if_false, Bool.false_eq_true, g16, g17]; done) | omega) only [go_sem, wrap_id, sbs, g16, g17, eq_self, if_true, if_false, Bool.false_eq_true]
        refine hK _ _ ?_
        clear hK K
        refine den_stop ?_
        refine ⟨?_, rfl⟩
        first | (simp (disch := decide) only [go_sem, g16, g17, eq_self, Bool.true_and, Bool.and_true, Bool.false_and, Bool.and_false, Bool.true_or, Bool.or_true, Bool.false_or, Bool.or_false, if_true, if_false, Bool.false_eq_true]; done) | simp [HasL, sel, puts_at, g16, g17]
      ·try simp -implicitDefEqProofs (disch := first | decide | assumption | (simp (disch := decide) only [gvA, eq_self, if_true, if_false, Bool.false_eq_true, g16]; done) | omega) only [go_sem, wrap_id, sbs, g16, eq_self, if_true, if_false, Bool.false_eq_true]
       try simp -implicitDefEqProofs (disch := first | decide | assumption | (simp (disch := decide) only [gvA, eq_self, if_true, if_false, Bool.false_eq_true, g16]; done) | omega) only [go_sem, wrap_id, sbs, g16, eq_self, if_true, if_false, Bool.false_eq_true]
       try simp -implicitDefEqProofs (disch := first | decide | assumption | (simp (disch := decide) only [gvA, eq_self, if_true, if_false, Bool.false_eq_true, g16]; done) | omega) only [go_sem, wrap_id, sbs, g16, eq_self, if_true, if_false, Bool.false_eq_true]
       try simp -implicitDefEqProofs (disch := first | decide | assumption | (simp (disch := decide) only [gvA, eq_self, if_true, if_false, Bool.false_eq_true, g16]; done) | omega) only [go_sem, wrap_id, sbs, g16, eq_self, if_true, if_false, Bool.false_eq_true]
       refine hK _ _ ?_
       clear hK K
       refine den_stop ?_
       refine ⟨?_, rfl⟩
       first | (simp (disch := decide) only [go_sem, g16, eq_self, Bool.true_and, Bool.and_true, Bool.false_and, Bool.and_false, Bool.true_or, Bool.or_true, Bool.false_or, Bool.or_false, if_true, if_false, Bool.false_eq_true]; done) | simp [HasL, sel, puts_at, g16]
     intro en20
     simp (disch := decide) only [go_sem]
     refine den_cond rfl (fun c3 => ?_) (fun c3 => ?_)
     ·try simp only [ddA, Bool.or_eq_false_iff, Bool.and_eq_false_iff, in3_iff, in3_f] at c3
      refine den_seq ?_
      refine den_region TTok ?_
      intro K hK
      simp -implicitDefEqProofs (disch := first | decide | assumption | omega) only [go_sem, wrap_id, sbs]
      refine hK _ _ ?_
      clear hK K
      refine den_ret ?_
      simp (disch := decide) only [resP_1, puts_same, puts_ne]
      exact ⟨vbool (fmB_n (fun hh => sh_r8 (hh.row i (by omega)) c3)), eB⟩
     ·try simp only [ddA, Bool.or_eq_false_iff, Bool.and_eq_false_iff, in3_iff, in3_f] at c3
      refine den_skip ?_
      refine den_seq ?_
      refine den_region TTok ?_
      intro K hK
      simp -implicitDefEqProofs (disch := first | decide | assumption | omega) only [go_sem, wrap_id, sbs]
      refine hK _ _ ?_
      clear hK K
      refine den_block ?_
      refine den_sel [4, 1, 3] ?_
      intro env_23
      simp only [go_sem]
      refine den_loopS (σ := Nat) (fun st_ => [(4, .int .i64 (st_ : Int))]) (fun st_ H => (st_ ≤ 8) ∧ (∀ b : Nat, b < st_ → CellF X i b) ∧ (Ext h14 H)) (fun st_ => 8 - st_) 0 ?_ ?_
      ·exact ⟨by omega, fun b h => by omega, Ext.refl _⟩
      ·rintro j h26 ee25 ⟨hj, hrc, cL24⟩
       replace hb0_0 := BoxAt.ext hb0_0 cL24
       have := Ext.size cL24
       replace eB := Ext.trans eB cL24
       replace cL6 := Ext.trans cL6 cL24
       simp only [List.cons_append, List.nil_append]
       refine den_seq ?_
       refine den_seq ?_
       refine den_region TTok ?_
       intro K hK
       simp -implicitDefEqProofs (disch := first | decide | assumption | omega) only [go_sem, wrap_id, sbs]
       refine hK _ _ ?_
       clear hK K
       refine den_cond rfl (fun c4 => ?_) (fun c4 => ?_)
       ·try simp only [ddA, Bool.or_eq_false_iff, Bool.and_eq_false_iff, in3_iff, in3_f] at c4
        refine den_skip ?_
        refine den_seq ?_
        refine den_block ?_
        refine den_seq ?_
        refine den_merge [(132, .bool (((!((isElB X.p X.s ((X.tab i) j)))) || (((decide (X.s ≤ (i : Int))) || (decide (X.s ≤ (j : Int)))) && (!(eqE ((X.tab i) j) z8))))))] [1, 3, 4] (fun H => Ext h26 H) ?_ ?_
         -- a way
        ·refine den_draw TTok mixed [] [(0, true), (1, true), (2, true), (3, true), (4, true), (5, true), (6, true), (7, true), (8, true), (9, true), (10, false), (11, true), (12, true), (13, true), (14, true), (15, true), (16, true), (17, true), (18, true), (19, true), (20, true), (21, true), (22, true), (23, true), (24, true), (25, true), (26, true), (27, true), (28, true), (29, true), (30, true), (31, true), (32, true), (33, true)] (by kernel_rfl) ?_
         intro K hK
         simp -implicitDefEqProofs (disch := first | decide | assumption | (simp (disch := decide) only [gvA, eq_self, if_true, if_false, Bool.false_eq_true]; done) | omega) only [go_sem, Int.toNat_zero, fa34_0, fa34_1, fa34_5, ia32, ia31, ld2, BoxAt.dgs hb0_0, wrap_id, sbs]
         try simp -implicitDefEqProofs (disch := first | decide | assumption | omega) only [go_sem, wrap_id, sbs]
         refine CallA.mono (sSm_ok  X.p X.s ((X.tab i) j) _  (by first | assumption | exact e8_by _ | exact By.z8 | exact hBd _ | exact hBt _ _ | exact tmJ_by (by omega) (tmI_by (by omega) _) _ | exact timesP_by (by omega) | exact dfI_by (by omega) _ | exact plusN_by (by omega) (timesP_by (by omega)) | exact dfI_by (by omega) 8)) ?_
         intro v_ h13_10
         rintro ⟨rfl, e13_10⟩
         replace hb0_0 := BoxAt.ext hb0_0 e13_10
         have := Ext.size e13_10
         replace eB := Ext.trans eB e13_10
         replace cL6 := Ext.trans cL6 e13_10
         replace cL24 := Ext.trans cL24 e13_10
         try simp (disch := decide) only [outv_some, outv_none, put_puts]
         refine plK_pres (Ext.pres e13_10) ?_
         try simp -implicitDefEqProofs (disch := first | decide | assumption | (simp (disch := decide) only [gvA, eq_self, if_true, if_false, Bool.false_eq_true]; done) | omega) only [go_sem, wrap_id, sbs]
         refine plG_F (by simp (disch := decide) only [gvA, eq_self, if_true, if_false, Bool.false_eq_true]; rfl) (fun g27 => ?_) (fun g27 => ?_)
         ·try simp -implicitDefEqProofs (disch := first | decide | assumption | (simp (disch := decide) only [gvA, eq_self, if_true, if_false, Bool.false_eq_true, g27]; done) | omega) only [go_sem, fa34_1, ld2, BoxAt.dgs hb0_0, wrap_id, sbs, g27, eq_self, if_true, if_false, Bool.false_eq_true]
          refine plG_F (by simp (disch := decide) only [gvA, eq_self, if_true, if_false, Bool.false_eq_true, g27]; rfl) (fun g28 => ?_) (fun g28 => ?_)
          ·try simp -implicitDefEqProofs (disch := first | decide | assumption | (simp (disch := decide) only [gvA, eq_self, if_true, if_false, Bool.false_eq_true, g27, g28]; done) | omega) only [go_sem, fa34_1, ld2, BoxAt.dgs hb0_0, wrap_id, sbs, g27, g28, eq_self, if_true, if_false, Bool.false_eq_true]
           refine plG_T (by simp (disch := decide) only [gvA, eq_self, if_true, if_false, Bool.false_eq_true, g27, g28]; rfl) (fun g29 => ?_) (fun g29 => ?_)
           ·try simp -implicitDefEqProofs (disch := first | decide | assumption | (simp (disch := decide) only [gvA, eq_self, if_true, if_false, Bool.false_eq_true, g27, g28, g29]; done) | omega) only [go_sem, Int.toNat_zero, fa34_5, ia32, ia31, BoxAt.dgs hb0_0, wrap_id, sbs, g27, g28, g29, eq_self, if_true, if_false, Bool.false_eq_true]
            refine hK _ _ ?_
            clear hK K
            refine den_stop ?_
            refine ⟨?_, e13_10⟩
            first | (simp (disch := decide) only [go_sem, g27, g28, g29, eq_self, Bool.true_and, Bool.and_true, Bool.false_and, Bool.and_false, Bool.true_or, Bool.or_true, Bool.false_or, Bool.or_false, if_true, if_false, Bool.false_eq_true]; done) | simp [HasL, sel, puts_at, g27, g28, g29]
           ·try simp -implicitDefEqProofs (disch := first | decide | assumption | (simp (disch := decide) only [gvA, eq_self, if_true, if_false, Bool.false_eq_true, g27, g28, g29]; done) | omega) only [go_sem, wrap_id, sbs, g27, g28, g29, eq_self, if_true, if_false, Bool.false_eq_true]
            refine hK _ _ ?_
            clear hK K
            refine den_stop ?_
            refine ⟨?_, e13_10⟩
            first | (simp (disch := decide) only [go_sem, g27, g28, g29, eq_self, Bool.true_and, Bool.and_true, Bool.false_and, Bool.and_false, Bool.true_or, Bool.or_true, Bool.false_or, Bool.or_false, if_true, if_false, Bool.false_eq_true]; done) | simp [HasL, sel, puts_at, g27, g28, g29]
          ·try simp -implicitDefEqProofs (disch := first | decide | assumption | (simp (disch := decide) only [gvA, eq_self, if_true, if_false, Bool.false_eq_true, g27, g28]; done) | omega) only [go_sem, wrap_id, sbs, g27, g28, eq_self, if_true, if_false, Bool.false_eq_true]
           try simp -implicitDefEqProofs (disch := first | decide | assumption | (simp (disch := decide) only [gvA, eq_self, if_true, if_false, Bool.false_eq_true, g27, g28]; done) | omega) only [go_sem, Int.toNat_zero, fa34_5, ia32, ia31, BoxAt.dgs hb0_0, wrap_id, sbs, g27, g28, eq_self, if_true, if_false, Bool.false_eq_true]
           refine hK _ _ ?_
           clear hK K
           refine den_stop ?_
           refine ⟨?_, e13_10⟩
           first | (simp (disch := decide) only [go_sem, g27, g28, eq_self, Bool.true_and, Bool.and_true, Bool.false_and, Bool.and_false, Bool.true_or, Bool.or_true, Bool.false_or, Bool.or_false, if_true, if_false, Bool.false_eq_true]; done) | simp [HasL, sel, puts_at, g27, g28]
         ·try simp -implicitDefEqProofs (disch := first | decide | assumption | (simp (disch := decide) only [gvA, eq_self, if_true, if_false, Bool.false_eq_true, g27]; done) | omega) only [go_sem, wrap_id, sbs, g27, eq_self, if_true, if_false, Bool.false_eq_true]
          try simp -implicitDefEqProofs (disch := first | decide | assumption | (simp (disch := decide) only [gvA, eq_self, if_true, if_false, Bool.false_eq_true, g27]; done) | omega) only [go_sem, wrap_id, sbs, g27, eq_self, if_true, if_false, Bool.false_eq_true]
          try simp -implicitDefEqProofs (disch := first | decide | assumption | (simp (disch := decide) only [gvA, eq_self, if_true, if_false, Bool.false_eq_true, g27]; done) | omega) only [go_sem, wrap_id, sbs, g27, eq_self, if_true, if_false, Bool.false_eq_true]
          refine hK _ _ ?_
          clear hK K
          refine den_stop ?_
          refine ⟨?_, e13_10⟩
          first | (simp (disch := decide) only [go_sem, g27, eq_self, Bool.true_and, Bool.and_true, Bool.false_and, Bool.and_false, Bool.true_or, Bool.or_true, Bool.false_or, Bool.or_false, if_true, if_false, Bool.false_eq_true]; done) | simp [HasL, sel, puts_at, g27]
        intro en30 h31 e32
        replace hb0_0 := BoxAt.ext hb0_0 e32
        have := Ext.size e32
        replace eB := Ext.trans eB e32
        replace cL6 := Ext.trans cL6 e32
        replace cL24 := Ext.trans cL24 e32
        simp (disch := decide) only [go_sem]
        refine den_cond rfl (fun c5 => ?_) (fun c5 => ?_)
        ·try simp only [ddA, Bool.or_eq_false_iff, Bool.and_eq_false_iff, in3_iff, in3_f] at c5
         refine den_seq ?_
         refine den_region TTok ?_
         intro K hK
         simp -implicitDefEqProofs (disch := first | decide | assumption | omega) only [go_sem, wrap_id, sbs]
         refine hK _ _ ?_
         clear hK K
         refine den_ret ?_
         simp (disch := decide) only [resP_1, puts_same, puts_ne]
         exact ⟨vbool (fmB_n (fun hh => sh_r13 (hh.cell i (by omega) j (by omega)) c5)), eB⟩
        ·try simp only [ddA, Bool.or_eq_false_iff, Bool.and_eq_false_iff, in3_iff, in3_f] at c5
         refine den_skip ?_
         refine den_blk ?_
         refine den_region TTok ?_
         intro K hK
         simp -implicitDefEqProofs (disch := first | decide | assumption | omega) only [go_sem, wrap_id, sbs]
         refine hK _ _ ?_
         clear hK K
         refine den_stop ?_
         exact ⟨j + 1, by simp [HasL, puts_at], ⟨by first | omega | (dsimp only; omega), fun b hb => by
 by_cases hbj : b < j
 ·exact hrc b hbj
 ·have e : b = j := by omega
  subst e
  exact sh_cell c5, cL24⟩, by first | omega | (dsimp only; omega)⟩
       ·try simp only [ddA, Bool.or_eq_false_iff, Bool.and_eq_false_iff, in3_iff, in3_f] at c4
        refine den_exit ?_
        refine denX_code ?_
        refine denX_stop ?_
        refine denX_hit ?_
        refine den_blk ?_
        refine den_region TTok ?_
        intro K hK
        simp -implicitDefEqProofs (disch := first | decide | assumption | omega) only [go_sem, wrap_id, sbs]
        refine hK _ _ ?_
        clear hK K
        refine den_stop ?_
        exact ⟨i + 1, by simp [HasL, puts_at], ⟨by first | omega | (dsimp only; omega), fun a ha => by
 by_cases hai : a < i
 ·exact hr a hai
 ·have e : a = i := by omega
  subst e
  exact ⟨sh_row c2 c3, fun b hb => hrc b (by omega)⟩, cL6⟩, by first | omega | (dsimp only; omega)⟩
   ·try simp only [ddA, Bool.or_eq_false_iff, Bool.and_eq_false_iff, in3_iff, in3_f] at c1
    refine den_exit ?_
    refine denX_code ?_
    refine denX_stop ?_
    refine denX_hit ?_
    refine den_seq ?_
    refine den_seq ?_
    refine den_region TTok ?_
    intro K hK
    simp -implicitDefEqProofs (disch := first | decide | assumption | omega) only [go_sem, wrap_id, sbs]
    refine hK _ _ ?_
    clear hK K
    refine den_block ?_
    refine den_sel [5, 1] ?_
    intro env_33
    simp only [go_sem]
    refine den_loopS (σ := Nat) (fun st_ => [(5, .int .i64 (st_ : Int))]) (fun st_ H => ((st_ : Int) ≤ X.s) ∧ (∀ a : Nat, a < st_ → lies X (X.dif a) (X.deg a - 1) (X.lev a) X.s.toNat ∧ ∀ b : Nat, b < X.s.toNat → lies X (X.tab a b) (X.deg a + X.deg b) (X.lev a + X.lev b) X.s.toNat) ∧ (Ext h8 H)) (fun st_ => X.s.toNat - st_) 0 ?_ ?_
    ·exact ⟨by omega, fun a h => by omega, Ext.refl _⟩
    ·rintro i h36 ee35 ⟨hi2, hz, cL34⟩
     replace hb0_0 := BoxAt.ext hb0_0 cL34
     have := Ext.size cL34
     replace eB := Ext.trans eB cL34
     simp only [List.cons_append, List.nil_append]
     refine den_seq ?_
     refine den_seq ?_
     refine den_region TTok ?_
     intro K hK
     simp -implicitDefEqProofs (disch := first | decide | assumption | omega) only [go_sem, fa34_1, ld2, BoxAt.dgs hb0_0, wrap_id, sbs]
     refine hK _ _ ?_
     clear hK K
     refine den_cond rfl (fun c6 => ?_) (fun c6 => ?_)
     ·try simp only [ddA, Bool.or_eq_false_iff, Bool.and_eq_false_iff, in3_iff, in3_f] at c6
      refine den_skip ?_
      refine den_seq ?_
      refine den_block ?_
      refine den_seq ?_
      refine den_seq ?_
      have hri := (hr i (by omega)).1.deg
      refine den_draw TTok mixed [] [(0, true), (1, true), (2, true), (3, true), (4, true), (5, true), (6, true), (7, true), (8, true), (9, true), (10, true), (11, true), (12, true), (13, true), (14, false), (15, true)] (by kernel_rfl) ?_
      intro K hK
      simp -implicitDefEqProofs (disch := first | decide | assumption | omega) only [go_sem, Int.toNat_zero, fa34_2, fa34_3, fa34_4, ia31, ia22, ld2, BoxAt.dgs hb0_0, wrap_id, sbs]
      try simp -implicitDefEqProofs (disch := first | decide | assumption | omega) only [go_sem, wrap_id, sbs]
      refine CallA.mono (sWit_ok  X (X.dif i) ((X.deg i) - (1 : Int)) (X.lev i) _  (by omega)) ?_
      intro v_ h18_14
      rintro ⟨rfl, e18_14⟩
      replace hb0_0 := BoxAt.ext hb0_0 e18_14
      have := Ext.size e18_14
      replace eB := Ext.trans eB e18_14
      replace cL34 := Ext.trans cL34 e18_14
      try simp (disch := decide) only [outv_some, outv_none, put_puts]
      refine plK_pres (Ext.pres e18_14) ?_
      try simp -implicitDefEqProofs (disch := first | decide | assumption | omega) only [go_sem, wrap_id, sbs]
      refine hK _ _ ?_
      clear hK K
      refine den_cond rfl (fun c7 => ?_) (fun c7 => ?_)
      ·try simp only [ddA, Bool.or_eq_false_iff, Bool.and_eq_false_iff, in3_iff, in3_f] at c7
       refine den_seq ?_
       refine den_region TTok ?_
       intro K hK
       simp -implicitDefEqProofs (disch := first | decide | assumption | omega) only [go_sem, wrap_id, sbs]
       refine hK _ _ ?_
       clear hK K
       refine den_ret ?_
       simp (disch := decide) only [resP_1, puts_same, puts_ne]
       exact ⟨vbool (fmB_n (fun hh => sh_c7 hh (i := i) (by omega) (by omega) c7)), eB⟩
      ·try simp only [ddA, Bool.or_eq_false_iff, Bool.and_eq_false_iff, in3_iff, in3_f] at c7
       refine den_skip ?_
       refine den_seq ?_
       refine den_region TTok ?_
       intro K hK
       simp -implicitDefEqProofs (disch := first | decide | assumption | omega) only [go_sem, wrap_id, sbs]
       refine hK _ _ ?_
       clear hK K
       refine den_block ?_
       refine den_sel [6, 1, 5] ?_
       intro env_37
       simp only [go_sem]
       refine den_loopS (σ := Nat) (fun st_ => [(6, .int .i64 (st_ : Int))]) (fun st_ H => ((st_ : Int) ≤ X.s) ∧ (∀ b : Nat, b < st_ → lies X (X.tab i b) (X.deg i + X.deg b) (X.lev i + X.lev b) X.s.toNat) ∧ (Ext h18_14 H)) (fun st_ => X.s.toNat - st_) 0 ?_ ?_
       ·exact ⟨by omega, fun b h => by omega, Ext.refl _⟩
       ·rintro j h40 ee39 ⟨hj2, hzc, cL38⟩
        replace hb0_0 := BoxAt.ext hb0_0 cL38
        have := Ext.size cL38
        replace eB := Ext.trans eB cL38
        replace cL34 := Ext.trans cL34 cL38
        simp only [List.cons_append, List.nil_append]
        refine den_seq ?_
        refine den_seq ?_
        refine den_region TTok ?_
        intro K hK
        simp -implicitDefEqProofs (disch := first | decide | assumption | omega) only [go_sem, fa34_1, ld2, BoxAt.dgs hb0_0, wrap_id, sbs]
        refine hK _ _ ?_
        clear hK K
        refine den_cond rfl (fun c8 => ?_) (fun c8 => ?_)
        ·try simp only [ddA, Bool.or_eq_false_iff, Bool.and_eq_false_iff, in3_iff, in3_f] at c8
         refine den_skip ?_
         refine den_seq ?_
         refine den_block ?_
         refine den_seq ?_
         have hri := (hr i (by omega)).1
         have hri1 := hri.deg
         have hri2 := hri.lev
         have hrj := (hr j (by omega)).1
         have hrj1 := hrj.deg
         have hrj2 := hrj.lev
         refine den_draw TTok mixed [] [(0, true), (1, true), (2, true), (3, true), (4, true), (5, true), (6, true), (7, true), (8, true), (9, true), (10, true), (11, true), (12, true), (13, true), (14, true), (15, true), (16, true), (17, true), (18, true), (19, true), (20, true), (21, true), (22, true), (23, true), (24, true), (25, false), (26, true)] (by kernel_rfl) ?_
         intro K hK
         simp -implicitDefEqProofs (disch := first | decide | assumption | omega) only [go_sem, Int.toNat_zero, fa34_2, fa34_3, fa34_5, ia32, ia31, ia22, ld2, BoxAt.dgs hb0_0, wrap_id, sbs]
         try simp -implicitDefEqProofs (disch := first | decide | assumption | omega) only [go_sem, wrap_id, sbs]
         refine CallA.mono (sWit_ok  X ((X.tab i) j) ((X.deg i) + (X.deg j)) ((X.lev i) + (X.lev j)) _  (by omega)) ?_
         intro v_ h23_25
         rintro ⟨rfl, e23_25⟩
         replace hb0_0 := BoxAt.ext hb0_0 e23_25
         have := Ext.size e23_25
         replace eB := Ext.trans eB e23_25
         replace cL34 := Ext.trans cL34 e23_25
         replace cL38 := Ext.trans cL38 e23_25
         try simp (disch := decide) only [outv_some, outv_none, put_puts]
         refine plK_pres (Ext.pres e23_25) ?_
         try simp -implicitDefEqProofs (disch := first | decide | assumption | omega) only [go_sem, wrap_id, sbs]
         refine hK _ _ ?_
         clear hK K
         refine den_cond rfl (fun c9 => ?_) (fun c9 => ?_)
         ·try simp only [ddA, Bool.or_eq_false_iff, Bool.and_eq_false_iff, in3_iff, in3_f] at c9
          refine den_seq ?_
          refine den_region TTok ?_
          intro K hK
          simp -implicitDefEqProofs (disch := first | decide | assumption | omega) only [go_sem, wrap_id, sbs]
          refine hK _ _ ?_
          clear hK K
          refine den_ret ?_
          simp (disch := decide) only [resP_1, puts_same, puts_ne]
          exact ⟨vbool (fmB_n (fun hh => sh_c9 hh (i := i) (j := j) (by omega) (by omega) c9)), eB⟩
         ·try simp only [ddA, Bool.or_eq_false_iff, Bool.and_eq_false_iff, in3_iff, in3_f] at c9
          refine den_skip ?_
          refine den_blk ?_
          refine den_region TTok ?_
          intro K hK
          simp -implicitDefEqProofs (disch := first | decide | assumption | omega) only [go_sem, wrap_id, sbs]
          refine hK _ _ ?_
          clear hK K
          refine den_stop ?_
          exact ⟨j + 1, by simp [HasL, puts_at], ⟨by first | omega | (dsimp only; omega), fun b hb => by
 by_cases hbj : b < j
 ·exact hzc b hbj
 ·have e : b = j := by omega
  subst e
  exact liesB_t.1 c9, cL38⟩, by first | omega | (dsimp only; omega)⟩
        ·try simp only [ddA, Bool.or_eq_false_iff, Bool.and_eq_false_iff, in3_iff, in3_f] at c8
         refine den_exit ?_
         refine denX_code ?_
         refine denX_stop ?_
         refine denX_hit ?_
         refine den_blk ?_
         refine den_region TTok ?_
         intro K hK
         simp -implicitDefEqProofs (disch := first | decide | assumption | omega) only [go_sem, wrap_id, sbs]
         refine hK _ _ ?_
         clear hK K
         refine den_stop ?_
         exact ⟨i + 1, by simp [HasL, puts_at], ⟨by first | omega | (dsimp only; omega), fun a ha => by
 by_cases hai : a < i
 ·exact hz a hai
 ·have e : a = i := by omega
  subst e
  exact ⟨liesB_t.1 c7, fun b hb => hzc b (by omega)⟩, cL34⟩, by first | omega | (dsimp only; omega)⟩
     ·try simp only [ddA, Bool.or_eq_false_iff, Bool.and_eq_false_iff, in3_iff, in3_f] at c6
      refine den_exit ?_
      refine denX_code ?_
      refine denX_stop ?_
      refine denX_hit ?_
      refine den_seq ?_
      refine den_mergeH [(2, .bool ((((X.deg 0) == (0 : Int)) && ((X.lev 0) == (0 : Int)))))] [] ?_ ?_
       -- a way
      ·refine den_region TTok ?_
       intro K hK
       simp -implicitDefEqProofs (disch := first | decide | assumption | (simp (disch := decide) only [gvA, eq_self, if_true, if_false, Bool.false_eq_true]; done) | omega) only [go_sem, Int.toNat_zero, fa34_2, ia22, ld2, BoxAt.dgs hb0_0, wrap_id, sbs]
       refine opsP_T (by simp (disch := decide) only [gvA, eq_self, if_true, if_false, Bool.false_eq_true]; rfl) (fun g41 => ?_) (fun g41 => ?_)
       ·try simp -implicitDefEqProofs (disch := first | decide | assumption | (simp (disch := decide) only [gvA, eq_self, if_true, if_false, Bool.false_eq_true, g41]; done) | omega) only [go_sem, Int.toNat_zero, fa34_3, ia22, ld2, BoxAt.dgs hb0_0, wrap_id, sbs, g41, eq_self, if_true, if_false, Bool.false_eq_true]
        refine hK _ _ ?_
        clear hK K
        refine den_stop ?_
        refine ⟨?_, rfl⟩
        first | (simp (disch := decide) only [go_sem, g41, eq_self, Bool.true_and, Bool.and_true, Bool.false_and, Bool.and_false, Bool.true_or, Bool.or_true, Bool.false_or, Bool.or_false, if_true, if_false, Bool.false_eq_true]; done) | simp [HasL, sel, puts_at, g41]
       ·try simp -implicitDefEqProofs (disch := first | decide | assumption | (simp (disch := decide) only [gvA, eq_self, if_true, if_false, Bool.false_eq_true, g41]; done) | omega) only [go_sem, wrap_id, sbs, g41, eq_self, if_true, if_false, Bool.false_eq_true]
        refine hK _ _ ?_
        clear hK K
        refine den_stop ?_
        refine ⟨?_, rfl⟩
        first | (simp (disch := decide) only [go_sem, g41, eq_self, Bool.true_and, Bool.and_true, Bool.false_and, Bool.and_false, Bool.true_or, Bool.or_true, Bool.false_or, Bool.or_false, if_true, if_false, Bool.false_eq_true]; done) | simp [HasL, sel, puts_at, g41]
      intro en42
      simp (disch := decide) only [go_sem]
      refine den_ret ?_
      simp (disch := decide) only [resP_1, puts_same, puts_ne]
      exact ⟨vbool (sh_all c0 (fun a ha => hr a (by omega)) (fun a ha => hz a (by omega))), eB⟩
end Go.Proofs.Ytacajcjibhifmaa
