/-
  What the statement FnDgas uses of the walks, part 2.
  Conditions: each theorem's own.
-/
import Derived.OrdersHeld
import Derived.WalkKit
import Derived.KernelRfl
import Derived.Deep.LoopGhost
import Derived.Laws.BytesString
import Derived.Test.YtacajcjibhifmaaProg
import Derived.ProofKit
import Derived.OpenShut
import Derived.ShutString
import Derived.ChangeOld
import Derived.Below
import Derived.SizedLaws
import Derived.Lib.SmallJoins
import Derived.Test.YtacajcjibhifmaaZDgas1
set_option linter.unusedVariables false
set_option linter.unusedSimpArgs false
namespace Go.Proofs.Ytacajcjibhifmaa
open Go
theorem sclR_len (p k : Int) (r : List Int) : (sclRow p k r).length = r.length := by simp [sclRow]
theorem sclR_get (p k : Int) {r : List Int} {c : Nat} (h : c < r.length) : (sclRow p k r).getD c 0 = (k * r.getD c 0) % p := getD_map_range (α := Int) (fun q : Nat => (k * r.getD q 0) % p) h
/-- Congruence modulo p. -/
def Cg (p a b : Int) : Prop := a % p = b % p
theorem Cg.refl {p : Int} (a : Int) : Cg p a a := rfl
theorem Cg.symm {p a b : Int} (h : Cg p a b) : Cg p b a := Eq.symm h
theorem Cg.trans {p a b c : Int} (h : Cg p a b) (k : Cg p b c) : Cg p a c := Eq.trans h k
theorem Cg.add {p a b c d : Int} (h : Cg p a b) (k : Cg p c d) : Cg p (a + c) (b + d) := by
 unfold Cg at *; rw [Int.add_emod, h, k, ← Int.add_emod]
theorem Cg.mul {p a b c d : Int} (h : Cg p a b) (k : Cg p c d) : Cg p (a * c) (b * d) := by
 unfold Cg at *; rw [Int.mul_emod, h, k, ← Int.mul_emod]
theorem Cg.neg {p a b : Int} (h : Cg p a b) : Cg p (-a) (-b) := by
 have := Cg.mul (Cg.refl (p := p) (-1)) h
 rwa [Int.neg_one_mul, Int.neg_one_mul] at this
theorem Cg.sub {p a b c d : Int} (h : Cg p a b) (k : Cg p c d) : Cg p (a - c) (b - d) := by
 rw [Int.sub_eq_add_neg, Int.sub_eq_add_neg]; exact h.add k.neg
theorem Cg.mod {p : Int} (a : Int) : Cg p (a % p) a := Int.emod_emod a p
theorem Cg.eq {p a b : Int} (h : Cg p a b) (ha : 0 ≤ a ∧ a < p) (hb : 0 ≤ b ∧ b < p) : a = b := by
 unfold Cg at h
 rwa [Int.emod_eq_of_lt ha.1 ha.2, Int.emod_eq_of_lt hb.1 hb.2] at h
theorem Cg.of_eq {p a b : Int} (h : a = b) : Cg p a b := by rw [h]; exact Cg.refl _
/-- A sum. -/
def sm : Nat → (Nat → Int) → Int
 | 0, _ => 0
 | n + 1, f => sm n f + f n
theorem sm_cg {p : Int} : ∀ {n : Nat} {f g : Nat → Int}, (∀ i, i < n → Cg p (f i) (g i)) → Cg p (sm n f) (sm n g)
 | 0, _, _, _ => Cg.refl _
 | n + 1, f, g, h => (sm_cg (n := n) fun i hi => h i (by omega)).add (h n (by omega))
theorem sm_zero : ∀ {n : Nat} {f : Nat → Int}, (∀ i, i < n → f i = 0) → sm n f = 0
 | 0, _, _ => rfl
 | n + 1, f, h => by rw [sm, sm_zero (n := n) fun i hi => h i (by omega), h n (by omega)]; rfl
theorem sm_add : ∀ (n : Nat) (f g : Nat → Int), sm n (fun i => f i + g i) = sm n f + sm n g
 | 0, _, _ => rfl
 | n + 1, f, g => by simp only [sm]; rw [sm_add n f g]; omega
theorem sm_mul : ∀ (n : Nat) (k : Int) (f : Nat → Int), sm n (fun i => k * f i) = k * sm n f
 | 0, _, _ => by simp [sm]
 | n + 1, k, f => by simp only [sm]; rw [sm_mul n k f, Int.mul_add]
theorem sm_one : ∀ {n k : Nat} {f : Nat → Int}, k < n → (∀ i, i < n → i ≠ k → f i = 0) → sm n f = f k
 | n + 1, k, f, hk, h => by
  rw [sm]
  by_cases e : k = n
  ·subst e; rw [sm_zero fun i hi => h i (by omega) (by omega), Int.zero_add]
  ·rw [sm_one (n := n) (k := k) (by omega) fun i hi he => h i (by omega) he, h n (by omega) (fun e' => e e'.symm), Int.add_zero]
abbrev g2 (L : List (List Int)) (i j : Nat) : Int := (L.getD i default).getD j 0
/-- v is a sum of multiples of the rows of L, modulo p. -/
def Sp (p : Int) (L : List (List Int)) (v : Nat → Int) : Prop := ∃ c : Nat → Int, ∀ j, Cg p (v j) (sm L.length fun i => c i * g2 L i j)
theorem Sp.row {p : Int} {L : List (List Int)} {i : Nat} (hi : i < L.length) : Sp p L (g2 L i) :=
 ⟨fun k => if k = i then 1 else 0, fun j => by
  rw [sm_one (k := i) hi (fun k _ hk => by simp [hk])]
  simp only [if_true, Int.one_mul]; exact Cg.refl _⟩
theorem Sp.zero {p : Int} {L : List (List Int)} : Sp p L fun _ => 0 := ⟨fun _ => 0, fun j => by rw [sm_zero fun i _ => Int.zero_mul _]; exact Cg.refl _⟩
theorem Sp.add {p : Int} {L : List (List Int)} {v w : Nat → Int} : Sp p L v → Sp p L w → Sp p L fun j => v j + w j
 | ⟨c, hc⟩, ⟨d, hd⟩ => ⟨fun i => c i + d i, fun j => by
  rw [show (fun i => (c i + d i) * g2 L i j) = fun i => c i * g2 L i j + d i * g2 L i j from funext fun i => Int.add_mul _ _ _, sm_add]
  exact (hc j).add (hd j)⟩
theorem Sp.mul {p : Int} {L : List (List Int)} {v : Nat → Int} (k : Int) : Sp p L v → Sp p L fun j => k * v j
 | ⟨c, hc⟩ => ⟨fun i => k * c i, fun j => by
  rw [show (fun i => k * c i * g2 L i j) = fun i => k * (c i * g2 L i j) from funext fun i => Int.mul_assoc _ _ _, sm_mul]
  exact (Cg.refl k).mul (hc j)⟩
theorem Sp.cg {p : Int} {L : List (List Int)} {v w : Nat → Int} (h : ∀ j, Cg p (w j) (v j)) : Sp p L v → Sp p L w
 | ⟨c, hc⟩ => ⟨c, fun j => (h j).trans (hc j)⟩
theorem Sp.sub {p : Int} {L : List (List Int)} {v w : Nat → Int} (k : Int) (h1 : Sp p L v) (h2 : Sp p L w) : Sp p L fun j => v j - k * w j :=
 (h1.add (h2.mul (-k))).cg fun j => Cg.of_eq (by rw [Int.neg_mul]; omega)
/-- All rows of A are in the span of B. -/
def Le (p : Int) (A B : List (List Int)) : Prop := ∀ i, i < A.length → Sp p B (g2 A i)
theorem Sp.sm {p : Int} {B : List (List Int)} {v : Nat → Nat → Int} : ∀ {n : Nat} (_ : ∀ i, i < n → Sp p B (v i)) (c : Nat → Int), Sp p B fun j => sm n fun i => c i * v i j
 | 0, _, _ => Sp.zero
 | n + 1, h, c => (Sp.sm (n := n) (fun i hi => h i (by omega)) c).add ((h n (by omega)).mul (c n))
theorem Sp.le {p : Int} {A B : List (List Int)} {v : Nat → Int} (h : Le p A B) : Sp p A v → Sp p B v
 | ⟨c, hc⟩ => (Sp.sm h c).cg hc
theorem Le.refl {p : Int} {A : List (List Int)} : Le p A A := fun _ hi => Sp.row hi
theorem Le.trans {p : Int} {A B C : List (List Int)} (h : Le p A B) (k : Le p B C) : Le p A C := fun i hi => (h i hi).le k
def Eqv (p : Int) (A B : List (List Int)) : Prop := Le p A B ∧ Le p B A
theorem Eqv.refl {p : Int} {A : List (List Int)} : Eqv p A A := ⟨Le.refl, Le.refl⟩
theorem Eqv.symm {p : Int} {A B : List (List Int)} (h : Eqv p A B) : Eqv p B A := ⟨h.2, h.1⟩
theorem Eqv.trans {p : Int} {A B C : List (List Int)} (h : Eqv p A B) (k : Eqv p B C) : Eqv p A C := ⟨h.1.trans k.1, k.2.trans h.2⟩
/-- L is reduced: its rows begin with a 1 at the places l, from left to right, and have 0 at the others' places. -/
structure Rr (p : Int) (w : Nat) (L : List (List Int)) (l : Nat → Nat) : Prop where
 len : ∀ i, i < L.length → (L.getD i default).length = w
 bnd : ∀ i, i < L.length → Bnd p (L.getD i default)
 lt : ∀ i, i < L.length → l i < w
 one : ∀ i, i < L.length → g2 L i (l i) = 1
 zb : ∀ i j, i < L.length → j < l i → g2 L i j = 0
 inc : ∀ i k, i < k → k < L.length → l i < l k
 cl : ∀ i k, i < L.length → k < L.length → k ≠ i → g2 L k (l i) = 0
theorem g2_out {L : List (List Int)} {i j : Nat} (h : (L.getD i default).length ≤ j) : g2 L i j = 0 := by
 rw [g2, List.getD_eq_getElem?_getD, List.getElem?_eq_none h]; rfl
theorem Rr.coef {p : Int} {w : Nat} {L : List (List Int)} {l : Nat → Nat} (r : Rr p w L l) {v : Nat → Int} : Sp p L v → ∀ j, Cg p (v j) (sm L.length fun i => v (l i) * g2 L i j)
 | ⟨c, hc⟩ => fun j => (hc j).trans (sm_cg fun i hi => Cg.mul (Cg.symm ((hc (l i)).trans (Cg.of_eq (by
  rw [sm_one (k := i) hi (fun k hk he => by rw [r.cl i k hi hk he, Int.mul_zero]), r.one i hi, Int.mul_one])))) (Cg.refl _))
theorem rows_ext {A B : List (List Int)} (hl : A.length = B.length) (hr : ∀ i, i < A.length → (A.getD i default).length = (B.getD i default).length) (h : ∀ i j, i < A.length → j < (A.getD i default).length → g2 A i j = g2 B i j) : A = B := by
 apply List.ext_getElem hl
 intro i h1 h2
 have e1 : A.getD i default = A[i] := by rw [List.getD_eq_getElem?_getD, List.getElem?_eq_getElem h1]; rfl
 have e2 : B.getD i default = B[i] := by rw [List.getD_eq_getElem?_getD, List.getElem?_eq_getElem h2]; rfl
 have hri := hr i h1
 have hi := h i
 simp only [g2] at hi
 rw [e1, e2] at hri hi
 apply List.ext_getElem hri
 intro j k1 k2
 have := hi j h1 k1
 rwa [List.getD_eq_getElem?_getD, List.getD_eq_getElem?_getD, List.getElem?_eq_getElem k1, List.getElem?_eq_getElem k2] at this
/-- With the same places, a reduced list in the span of another one is that one. -/
theorem Rr.same {p : Int} {w : Nat} {L M : List (List Int)} {l m : Nat → Nat} (r : Rr p w L l) (s : Rr p w M m) (hlen : L.length = M.length) (hlm : ∀ k, k < L.length → m k = l k) (h : Le p L M) : L = M := by
 refine rows_ext hlen (fun i hi => by rw [r.len i hi, s.len i (by omega)]) (fun i j hi hj => ?_)
 have hc := s.coef (h i hi) j
 have e : sm M.length (fun k => g2 L i (m k) * g2 M k j) = g2 M i j := by
  rw [sm_one (k := i) (by omega) (fun k hk he => by rw [hlm k (by omega), r.cl k i (by omega) hi (Ne.symm he), Int.zero_mul]), hlm i hi, r.one i hi, Int.one_mul]
 rw [e] at hc
 rw [r.len i hi] at hj
 exact hc.eq ((r.bnd i hi).at (by rw [r.len i hi]; exact hj)) ((s.bnd i (by omega)).at (by rw [s.len i (by omega)]; exact hj))
theorem Rr.nil {p : Int} {w : Nat} {l : Nat → Nat} : Rr p w [] l := ⟨fun i h => by simp at h, fun i h => by simp at h, fun i h => by simp at h, fun i h => by simp at h, fun i j h => by simp at h, fun i k _ h => by simp at h, fun i k h => by simp at h⟩
theorem lessRow_len (p k : Int) (a b : List Int) : (lessRow p k a b).length = a.length := by simp [lessRow]
theorem lessRow_get (p k : Int) {a b : List Int} {c : Nat} (h : c < a.length) : (lessRow p k a b).getD c 0 = (a.getD c 0 - k * b.getD c 0) % p := getD_map_range (α := Int) (fun q : Nat => (a.getD q 0 - k * b.getD q 0) % p) h
theorem getD_out {xs : List Int} {j : Nat} (h : xs.length ≤ j) : xs.getD j 0 = 0 := by rw [List.getD_eq_getElem?_getD, List.getElem?_eq_none h]; rfl
theorem lessRow_cg (p k : Int) {a b : List Int} (hl : b.length ≤ a.length) (j : Nat) : Cg p ((lessRow p k a b).getD j 0) (a.getD j 0 - k * b.getD j 0) := by
 rcases Nat.lt_or_ge j a.length with h | h
 ·rw [lessRow_get p k h]; exact Cg.mod _
 ·rw [getD_out (by rw [lessRow_len]; exact h), getD_out h, getD_out (by omega), Int.mul_zero]; exact Cg.refl _
theorem sclRow_cg (p k : Int) (r : List Int) (j : Nat) : Cg p ((sclRow p k r).getD j 0) (k * r.getD j 0) := by
 rcases Nat.lt_or_ge j r.length with h | h
 ·rw [sclR_get p k h]; exact Cg.mod _
 ·rw [getD_out (by rw [sclR_len]; exact h), getD_out h, Int.mul_zero]; exact Cg.refl _
theorem bnd_map {p : Int} (hp : 0 < p) (f : Nat → Int) (n : Nat) : Bnd p ((List.range n).map fun q => f q % p) := fun x hx => by
 obtain ⟨q, _, rfl⟩ := List.mem_map.1 hx
 exact ⟨Int.emod_nonneg _ (by omega), Int.emod_lt_of_pos _ hp⟩
theorem lessRow_bnd {p : Int} (hp : 0 < p) (k : Int) (a b : List Int) : Bnd p (lessRow p k a b) := bnd_map hp _ _
theorem sclRow_bnd {p : Int} (hp : 0 < p) (k : Int) (r : List Int) : Bnd p (sclRow p k r) := bnd_map hp _ _
theorem bnd_zero {p : Int} {v : List Int} (h : Bnd p v) {j : Nat} (e : Cg p (v.getD j 0) 0) : v.getD j 0 = 0 := by
 rcases Nat.lt_or_ge j v.length with hj | hj
 ·have := h.at hj
  exact e.eq this ⟨by omega, by omega⟩
 ·exact getD_out hj
/-- What is left of a row behind k rows of a list. -/
def restN (p : Int) (L : List (List Int)) (v : List Int) : Nat → List Int
 | 0 => v
 | k + 1 => lessRow p ((restN p L v k).getD (leadP (L.getD k default)).toNat 0) (restN p L v k) (L.getD k default)
def restP (p : Int) (L : List (List Int)) (v : List Int) : List Int := restN p L v L.length
theorem restN_len (p : Int) (L : List (List Int)) (v : List Int) : ∀ k, (restN p L v k).length = v.length
 | 0 => rfl
 | k + 1 => by rw [restN, lessRow_len, restN_len p L v k]
theorem restN_bnd {p : Int} (hp : 0 < p) {L : List (List Int)} {v : List Int} (hv : Bnd p v) : ∀ k, Bnd p (restN p L v k)
 | 0 => hv
 | k + 1 => lessRow_bnd hp _ _ _
theorem restP_len (p : Int) (L : List (List Int)) (v : List Int) : (restP p L v).length = v.length := restN_len p L v _
theorem restP_bnd {p : Int} (hp : 0 < p) {L : List (List Int)} {v : List Int} (hv : Bnd p v) : Bnd p (restP p L v) := restN_bnd hp hv _
section
variable {p : Int} {w : Nat} {L : List (List Int)} {l : Nat → Nat}
theorem Rr.lead (r : Rr p w L l) {i : Nat} (hi : i < L.length) : leadP (L.getD i default) = l i :=
 leadP_at (by rw [r.len i hi]; exact r.lt i hi) (fun j hj => r.zb i j hi hj) (by rw [show (L.getD i default).getD (l i) 0 = 1 from r.one i hi]; decide)
theorem restN_sub (r : Rr p w L l) {v : List Int} (hv : v.length = w) : ∀ k, k ≤ L.length → ∃ s, Sp p L s ∧ ∀ j, Cg p ((restN p L v k).getD j 0) (v.getD j 0 - s j)
 | 0, _ => ⟨fun _ => 0, Sp.zero, fun j => Cg.of_eq (Int.sub_zero _).symm⟩
 | k + 1, hk => by
  obtain ⟨s, hs, h⟩ := restN_sub r hv k (by omega)
  refine ⟨fun j => s j + ((restN p L v k).getD (leadP (L.getD k default)).toNat 0) * g2 L k j, hs.add ((Sp.row (by omega)).mul _), fun j => ?_⟩
  refine (lessRow_cg p _ (by rw [restN_len, hv, r.len k (by omega)]; exact Nat.le_refl _) j).trans (((h j).sub (Cg.refl _)).trans (Cg.of_eq ?_))
  show _ = v.getD j 0 - (s j + _ * (L.getD k default).getD j 0)
  omega
theorem restN_zero (r : Rr p w L l) {v : List Int} (hv : v.length = w) : ∀ k, k ≤ L.length → ∀ i, i < k → Cg p ((restN p L v k).getD (l i) 0) 0
 | k + 1, hk, i, hi => by
  refine (lessRow_cg p _ (by rw [restN_len, hv, r.len k (by omega)]; exact Nat.le_refl _) _).trans ?_
  rcases Nat.lt_succ_iff_lt_or_eq.1 hi with h | h
  ·rw [show (L.getD k default).getD (l i) 0 = 0 from r.cl i k (by omega) (by omega) (by omega), Int.mul_zero, Int.sub_zero]
   exact restN_zero r hv k (by omega) i h
  ·subst h
   rw [show (L.getD i default).getD (l i) 0 = 1 from r.one i (by omega), Int.mul_one, r.lead (by omega), Int.toNat_natCast, Int.sub_self]
   exact Cg.refl _
theorem restP_sub (r : Rr p w L l) {v : List Int} (hv : v.length = w) : ∃ s, Sp p L s ∧ ∀ j, Cg p ((restP p L v).getD j 0) (v.getD j 0 - s j) := restN_sub r hv _ (Nat.le_refl _)
theorem restP_zero (r : Rr p w L l) (hp : 0 < p) {v : List Int} (hv : v.length = w) (hb : Bnd p v) {i : Nat} (hi : i < L.length) : (restP p L v).getD (l i) 0 = 0 :=
 bnd_zero (restP_bnd hp hb) (restN_zero r hv _ (Nat.le_refl _) i hi)
/-- In the span of a reduced list, nothing but 0 has 0 at all its places. -/
theorem Rr.zero (r : Rr p w L l) {v : Nat → Int} (h : Sp p L v) (hz : ∀ i, i < L.length → Cg p (v (l i)) 0) (j : Nat) : Cg p (v j) 0 :=
 (r.coef h j).trans ((sm_cg (g := fun _ => 0) fun i hi => ((hz i hi).mul (Cg.refl _)).trans (Cg.of_eq (Int.zero_mul _))).trans (Cg.of_eq (sm_zero fun _ _ => rfl)))
theorem restP_iff (r : Rr p w L l) (hp : 0 < p) {v : List Int} (hv : v.length = w) (hb : Bnd p v) : (∀ j, (restP p L v).getD j 0 = 0) ↔ Sp p L fun j => v.getD j 0 := by
 obtain ⟨s, hs, h⟩ := restP_sub r hv
 constructor
 ·intro hz
  refine hs.cg fun j => ?_
  have := h j
  rw [hz j] at this
  have := (Cg.add this (Cg.refl (s j))).symm
  rwa [Int.zero_add, show v.getD j 0 - s j + s j = v.getD j 0 by omega] at this
 ·intro hsp j
  refine bnd_zero (restP_bnd hp hb) ?_
  have hd : Sp p L fun j => (restP p L v).getD j 0 := (hsp.sub 1 hs).cg fun j => (h j).trans (Cg.of_eq (by rw [Int.one_mul]))
  exact r.zero hd (fun i hi => by rw [restP_zero r hp hv hb hi]; exact Cg.refl _) j
end
-- ---- the inverse of a number
def invP (p x : Int) : Int := ((((List.range 7).find? fun k : Nat => decide (((k : Int) * x) % p = 1)).getD 0 : Nat) : Int)
theorem invP_ok {p x : Int} (hp : isP p = true) (h0 : 0 < x) (h1 : x < p) : (1 ≤ invP p x ∧ invP p x < p) ∧ (invP p x * x) % p = 1 ∧ ∀ k : Int, 1 ≤ k → k < invP p x → (k * x) % p ≠ 1 := by
 have h : p = 2 ∨ p = 3 ∨ p = 5 ∨ p = 7 := by
  simp only [isP, Bool.or_eq_true, beq_iff_eq] at hp; omega
 have key : ∀ p x : Fin 8, (p.val = 2 ∨ p.val = 3 ∨ p.val = 5 ∨ p.val = 7) → 0 < x.val → x.val < p.val → (1 ≤ invP p.val x.val ∧ invP p.val x.val < p.val) ∧ (invP p.val x.val * x.val) % (p.val : Int) = 1 ∧ ∀ k : Fin 8, 1 ≤ k.val → (k.val : Int) < invP p.val x.val → ((k.val : Int) * x.val) % (p.val : Int) ≠ 1 := by decide
 have k := key ⟨p.toNat, by omega⟩ ⟨x.toNat, by omega⟩ (by simp only; omega) (by simp only; omega) (by simp only; omega)
 simp only [show ((p.toNat : Nat) : Int) = p by omega, show ((x.toNat : Nat) : Int) = x by omega] at k
 refine ⟨k.1, k.2.1, fun q hq hl => ?_⟩
 have := k.2.2 ⟨q.toNat, by omega⟩ (by simp only; omega) (by simp only; omega)
 simpa only [show ((q.toNat : Nat) : Int) = q by omega] using this
theorem isP_two {p : Int} (h : isP p = true) : 1 < p ∧ p ≤ 7 := by
 simp only [isP, Bool.or_eq_true, beq_iff_eq] at h; omega
-- ---- the reference's list: one row more
def redR (p : Int) (own : List Int) (at_ : Nat) (r : List Int) : List Int := lessRow p (r.getD at_ 0) r own
/-- How many places of a list lie left of one. -/
def posP (L : List (List Int)) (at_ : Nat) : Nat := (L.filter fun r => decide (leadP r < at_)).length
def putP (p : Int) (L : List (List Int)) (own : List Int) (at_ pos : Nat) : List (List Int) := (L.take pos).map (redR p own at_) ++ own :: (L.drop pos).map (redR p own at_)
theorem Rr.tail {p : Int} {w : Nat} {a : List Int} {L : List (List Int)} {l : Nat → Nat} (r : Rr p w (a :: L) l) : Rr p w L fun i => l (i + 1) :=
 have e : ∀ i, (a :: L).getD (i + 1) default = L.getD i default := fun i => rfl
 ⟨fun i hi => r.len (i + 1) (by simpa using hi), fun i hi => r.bnd (i + 1) (by simpa using hi), fun i hi => r.lt (i + 1) (by simpa using hi), fun i hi => r.one (i + 1) (by simpa using hi), fun i j hi hj => r.zb (i + 1) j (by simpa using hi) hj, fun i k hik hk => r.inc (i + 1) (k + 1) (by omega) (by simpa using hk), fun i k hi hk hne => r.cl (i + 1) (k + 1) (by simpa using hi) (by simpa using hk) (by omega)⟩
theorem posP_ok {p : Int} {w at_ : Nat} : ∀ {L : List (List Int)} {l : Nat → Nat}, Rr p w L l → posP L at_ ≤ L.length ∧ (∀ i, i < posP L at_ → l i < at_) ∧ ∀ i, i < L.length → posP L at_ ≤ i → at_ ≤ l i
 | [], _, _ => ⟨by simp [posP], fun i hi => by simp [posP] at hi, fun i hi => by simp at hi⟩
 | a :: L, l, r => by
  have h0 : leadP a = l 0 := r.lead (i := 0) (by simp)
  obtain ⟨t1, t2, t3⟩ := posP_ok (at_ := at_) r.tail
  by_cases hc : l 0 < at_
  ·have e : posP (a :: L) at_ = posP L at_ + 1 := by simp [posP, h0, hc]
   rw [e]
   refine ⟨by simpa using t1, fun i hi => ?_, fun i hi hle => ?_⟩
   ·cases i with
    | zero => exact hc
    | succ i => exact t2 i (by omega)
   ·cases i with
    | zero => omega
    | succ i => exact t3 i (by simpa using hi) (by omega)
  ·have hz : posP L at_ = 0 := by
    apply Nat.eq_zero_of_not_pos
    intro hpos
    have a1 := t2 0 hpos
    have a2 := r.inc 0 1 (by omega) (by simp; omega)
    simp only [Nat.zero_add] at a1
    omega
   have e : posP (a :: L) at_ = 0 := by
    rw [← hz]; simp only [posP, List.filter_cons, h0]; rw [if_neg (by simpa using hc)]
   rw [e]
   refine ⟨Nat.zero_le _, fun i hi => by omega, fun i hi _ => ?_⟩
   rcases Nat.eq_zero_or_pos i with h | h
   ·rw [h]; omega
   ·have := r.inc 0 i h hi; omega
theorem putP_len {p : Int} {L : List (List Int)} {own : List Int} {at_ pos : Nat} (h : pos ≤ L.length) : (putP p L own at_ pos).length = L.length + 1 := by
 simp [putP]; omega
theorem putP_get {p : Int} {L : List (List Int)} {own : List Int} {at_ pos : Nat} (h : pos ≤ L.length) {i : Nat} (hi : i < L.length + 1) : (putP p L own at_ pos).getD i default = if i < pos then redR p own at_ (L.getD i default) else if i = pos then own else redR p own at_ (L.getD (i - 1) default) := by
 have hl : ((L.take pos).map (redR p own at_)).length = pos := by simp; omega
 rw [putP, List.getD_eq_getElem?_getD]
 by_cases h1 : i < pos
 ·rw [if_pos h1, List.getElem?_append_left (by omega), List.getElem?_map, List.getElem?_take, if_pos h1, List.getElem?_eq_getElem (by omega), List.getD_eq_getElem?_getD, List.getElem?_eq_getElem (by omega)]; rfl
 ·rw [if_neg h1, List.getElem?_append_right (by omega), hl]
  by_cases h2 : i = pos
  ·rw [if_pos h2, h2, Nat.sub_self]; rfl
  ·rw [if_neg h2]
   obtain ⟨q, rfl⟩ : ∃ q, i = pos + q + 1 := ⟨i - pos - 1, by omega⟩
   rw [show pos + q + 1 - pos = q + 1 by omega, show pos + q + 1 - 1 = pos + q by omega, List.getElem?_cons_succ, List.getElem?_map, List.getElem?_drop, List.getElem?_eq_getElem (by omega), List.getD_eq_getElem?_getD, List.getElem?_eq_getElem (by omega)]; rfl
section
variable {p : Int} {w : Nat} {L : List (List Int)} {l : Nat → Nat} {own : List Int} {at_ : Nat}
theorem redR_get {r : List Int} {j : Nat} (hj : j < r.length) : (redR p own at_ r).getD j 0 = (r.getD j 0 - r.getD at_ 0 * own.getD j 0) % p := lessRow_get p _ hj
structure OwnOk (p : Int) (w : Nat) (L : List (List Int)) (l : Nat → Nat) (own : List Int) (at_ : Nat) : Prop where
 len : own.length = w
 bnd : Bnd p own
 lt : at_ < w
 one : own.getD at_ 0 = 1
 zb : ∀ j, j < at_ → own.getD j 0 = 0
 cl : ∀ i, i < L.length → own.getD (l i) 0 = 0
theorem OwnOk.ne (o : OwnOk p w L l own at_) {i : Nat} (hi : i < L.length) : l i ≠ at_ := fun e => by
 have := o.cl i hi
 rw [e, o.one] at this; omega
theorem red_at (hp : 1 < p) (r : Rr p w L l) (o : OwnOk p w L l own at_) {i : Nat} (hi : i < L.length) : (redR p own at_ (L.getD i default)).getD at_ 0 = 0 := by
 rw [redR_get (by rw [r.len i hi]; exact o.lt), o.one, Int.mul_one, Int.sub_self, Int.zero_emod]
theorem red_lead (hp : 1 < p) (r : Rr p w L l) (o : OwnOk p w L l own at_) {i k : Nat} (hi : i < L.length) (hk : k < L.length) : (redR p own at_ (L.getD i default)).getD (l k) 0 = if k = i then 1 else 0 := by
 rw [redR_get (by rw [r.len i hi]; exact r.lt k hk), o.cl k hk, Int.mul_zero, Int.sub_zero]
 split
 ·rename_i e; subst e
  rw [show (L.getD k default).getD (l k) 0 = 1 from r.one k hk, Int.emod_eq_of_lt (by omega) hp]
 ·rename_i e
  rw [show (L.getD i default).getD (l k) 0 = 0 from r.cl k i hk hi (Ne.symm e), Int.zero_emod]
theorem red_zb (hp : 1 < p) (r : Rr p w L l) (o : OwnOk p w L l own at_) {i j : Nat} (hi : i < L.length) (hj : j < l i) : (redR p own at_ (L.getD i default)).getD j 0 = 0 := by
 have := r.lt i hi
 rw [redR_get (by rw [r.len i hi]; omega), show (L.getD i default).getD j 0 = 0 from r.zb i j hi hj]
 rcases Nat.lt_or_ge j at_ with h | h
 ·rw [o.zb j h, Int.mul_zero, Int.sub_self, Int.zero_emod]
 ·rw [show (L.getD i default).getD at_ 0 = 0 from r.zb i at_ hi (by omega), Int.zero_mul, Int.sub_self, Int.zero_emod]
theorem putP_rr (hp : 1 < p) (r : Rr p w L l) (o : OwnOk p w L l own at_) : Rr p w (putP p L own at_ (posP L at_)) fun i => if i < posP L at_ then l i else if i = posP L at_ then at_ else l (i - 1) := by
 obtain ⟨p1, p2, p3⟩ := posP_ok (at_ := at_) r
 have p3' : ∀ i, i < L.length → posP L at_ ≤ i → at_ < l i := fun i hi hle => by
  have := p3 i hi hle
  have := o.ne hi
  omega
 generalize posP L at_ = q at *
 have hl := putP_len (p := p) (own := own) (at_ := at_) p1
 have gt := fun {i : Nat} (hi : i < L.length + 1) => putP_get (p := p) (own := own) (at_ := at_) p1 hi
 have rl : ∀ i, i < L.length → (redR p own at_ (L.getD i default)).length = w := fun i hi => by rw [redR, lessRow_len, r.len i hi]
 refine ⟨fun i hi => ?_, fun i hi => ?_, fun i hi => ?_, fun i hi => ?_, fun i j hi hj => ?_, fun i k hik hk => ?_, fun i k hi hk hne => ?_⟩
 ·rw [hl] at hi
  rw [gt hi]
  split
  ·exact rl i (by omega)
  ·split
   ·exact o.len
   ·exact rl (i - 1) (by omega)
 ·rw [hl] at hi
  rw [gt hi]
  split
  ·exact lessRow_bnd (by omega) _ _ _
  ·split
   ·exact o.bnd
   ·exact lessRow_bnd (by omega) _ _ _
 ·rw [hl] at hi
  show (if i < q then l i else if i = q then at_ else l (i - 1)) < w
  split
  ·exact r.lt i (by omega)
  ·split
   ·exact o.lt
   ·exact r.lt (i - 1) (by omega)
 ·rw [hl] at hi
  rw [g2, gt hi]
  show _ = (1 : Int)
  by_cases h1 : i < q
  ·simp only [if_pos h1]
   rw [red_lead hp r o (by omega) (by omega), if_pos rfl]
  ·simp only [if_neg h1]
   by_cases h2 : i = q
   ·simp only [if_pos h2]; exact o.one
   ·simp only [if_neg h2]
    rw [red_lead hp r o (by omega) (by omega), if_pos rfl]
 ·rw [hl] at hi
  rw [g2, gt hi]
  by_cases h1 : i < q
  ·simp only [if_pos h1] at hj ⊢
   exact red_zb hp r o (by omega) hj
  ·simp only [if_neg h1] at hj ⊢
   by_cases h2 : i = q
   ·simp only [if_pos h2] at hj ⊢; exact o.zb j hj
   ·simp only [if_neg h2] at hj ⊢
    exact red_zb hp r o (by omega) hj
 ·rw [hl] at hk
  show (if i < q then l i else if i = q then at_ else l (i - 1)) < (if k < q then l k else if k = q then at_ else l (k - 1))
  by_cases h1 : i < q
  ·rw [if_pos h1]
   by_cases h2 : k < q
   ·rw [if_pos h2]; exact r.inc i k hik (by omega)
   ·rw [if_neg h2]
    by_cases h3 : k = q
    ·rw [if_pos h3]; exact p2 i h1
    ·rw [if_neg h3]
     have := p2 i h1
     have := p3' (k - 1) (by omega) (by omega)
     omega
  ·rw [if_neg h1]
   by_cases h2 : i = q
   ·rw [if_pos h2, if_neg (by omega), if_neg (by omega)]
    exact p3' (k - 1) (by omega) (by omega)
   ·rw [if_neg h2, if_neg (by omega), if_neg (by omega)]
    exact r.inc (i - 1) (k - 1) (by omega) (by omega)
 ·rw [hl] at hi hk
  rw [g2, gt hk]
  show _ = (0 : Int)
  by_cases h1 : k < q
  ·simp only [if_pos h1]
   by_cases h2 : i < q
   ·simp only [if_pos h2]; rw [red_lead hp r o (by omega) (by omega), if_neg (Ne.symm hne)]
   ·simp only [if_neg h2]
    by_cases h3 : i = q
    ·simp only [if_pos h3]; exact red_at hp r o (by omega)
    ·simp only [if_neg h3]; rw [red_lead hp r o (by omega) (by omega), if_neg (by omega)]
  ·simp only [if_neg h1]
   by_cases h2 : k = q
   ·simp only [if_pos h2]
    by_cases h3 : i < q
    ·simp only [if_pos h3]; exact o.cl i (by omega)
    ·simp only [if_neg h3, if_neg (show ¬ i = q by omega)]; exact o.cl (i - 1) (by omega)
   ·simp only [if_neg h2]
    by_cases h3 : i < q
    ·simp only [if_pos h3]; rw [red_lead hp r o (by omega) (by omega), if_neg (by omega)]
    ·simp only [if_neg h3]
     by_cases h4 : i = q
     ·simp only [if_pos h4]; exact red_at hp r o (by omega)
     ·simp only [if_neg h4]; rw [red_lead hp r o (by omega) (by omega), if_neg (by omega)]
theorem getD_app1 {α : Type} {L : List α} {row d : α} {i : Nat} (hi : i < L.length) : (L ++ [row]).getD i d = L.getD i d := by
 rw [List.getD_eq_getElem?_getD, List.getElem?_append_left hi, List.getD_eq_getElem?_getD]
theorem getD_app2 {α : Type} {L : List α} {row d : α} : (L ++ [row]).getD L.length d = row := by
 rw [List.getD_eq_getElem?_getD, List.getElem?_append_right (Nat.le_refl _), Nat.sub_self]; rfl
theorem Sp.at {L : List (List Int)} {i : Nat} {r : List Int} (hi : i < L.length) (e : L.getD i default = r) : Sp p L fun j => r.getD j 0 := by
 have := Sp.row (p := p) hi
 subst e; exact this
theorem Le.app1 {L : List (List Int)} {row : List Int} : Le p L (L ++ [row]) := fun i hi => Sp.at (by simp; omega) (getD_app1 hi)
theorem Sp.last {L : List (List Int)} {row : List Int} : Sp p (L ++ [row]) fun j => row.getD j 0 := Sp.at (by simp) getD_app2
theorem Le.snoc {L M : List (List Int)} {row : List Int} (h : Le p L M) (k : Sp p M fun j => row.getD j 0) : Le p (L ++ [row]) M := fun i hi => by
 rw [List.length_append, List.length_singleton] at hi
 rcases Nat.lt_succ_iff_lt_or_eq.1 hi with h' | h'
 ·have := h i h'
  unfold g2 at *
  rwa [getD_app1 h']
 ·subst h'
  show Sp p M fun j => ((L ++ [row]).getD L.length default).getD j 0
  rwa [getD_app2]
theorem Eqv.snoc {L M : List (List Int)} {row : List Int} (h : Eqv p L M) : Eqv p (L ++ [row]) (M ++ [row]) :=
 ⟨Le.snoc (h.1.trans Le.app1) Sp.last, Le.snoc (h.2.trans Le.app1) Sp.last⟩
theorem putP_eqv (r : Rr p w L l) (ol : own.length = w) {q : Nat} (hq : q ≤ L.length) {row : List Int} (h1 : Sp p (L ++ [row]) fun j => own.getD j 0) {k : Int} {s : Nat → Int} (hs : Sp p L s) (h2 : ∀ j, Cg p (row.getD j 0) (k * own.getD j 0 + s j)) : Eqv p (putP p L own at_ q) (L ++ [row]) := by
 have hl := putP_len (p := p) (own := own) (at_ := at_) hq
 have gt := fun {i : Nat} (hi : i < L.length + 1) => putP_get (p := p) (own := own) (at_ := at_) hq hi
 have cg : ∀ i, i < L.length → ∀ j, Cg p ((redR p own at_ (L.getD i default)).getD j 0) (g2 L i j - g2 L i at_ * own.getD j 0) := fun i hi j => lessRow_cg p _ (by rw [ol, r.len i hi]; exact Nat.le_refl _) j
 have a1 : ∀ i, i < L.length → Sp p (L ++ [row]) fun j => (redR p own at_ (L.getD i default)).getD j 0 := fun i hi => ((Le.app1 i hi).sub (g2 L i at_) h1).cg (cg i hi)
 have o1 : Sp p (putP p L own at_ q) fun j => own.getD j 0 := Sp.at (i := q) (by rw [hl]; omega) (by rw [gt (by omega), if_neg (by omega), if_pos rfl])
 have b1 : ∀ i, i < L.length → Sp p (putP p L own at_ q) fun j => (redR p own at_ (L.getD i default)).getD j 0 := fun i hi => by
  by_cases h : i < q
  ·exact Sp.at (i := i) (by rw [hl]; omega) (by rw [gt (by omega), if_pos h])
  ·exact Sp.at (i := i + 1) (by rw [hl]; omega) (by rw [gt (by omega), if_neg (by omega), if_neg (by omega), Nat.add_sub_cancel])
 have b2 : Le p L (putP p L own at_ q) := fun i hi => ((b1 i hi).add (o1.mul (g2 L i at_))).cg fun j => ((Cg.add (cg i hi j) (Cg.refl _)).trans (Cg.of_eq (by omega))).symm
 refine ⟨fun i hi => ?_, Le.snoc b2 (((o1.mul k).add (hs.le b2)).cg h2)⟩
 rw [hl] at hi
 unfold g2
 rw [gt hi]
 split
 ·exact a1 i (by omega)
 ·split
  ·exact h1
  ·exact a1 (i - 1) (by omega)
theorem lead_cases (xs : List Int) : (leadP xs = -1 ∧ ∀ j, xs.getD j 0 = 0) ∨ ∃ k : Nat, k < xs.length ∧ leadP xs = k ∧ (∀ j, j < k → xs.getD j 0 = 0) ∧ xs.getD k 0 ≠ 0 := by
 have key : ∀ n, n ≤ xs.length → (∀ j, j < n → xs.getD j 0 = 0) ∨ ∃ k : Nat, k < n ∧ (∀ j, j < k → xs.getD j 0 = 0) ∧ xs.getD k 0 ≠ 0 := by
  intro n
  induction n with
  | zero => intro _; exact .inl fun j hj => by omega
  | succ n ih =>
   intro hn
   rcases ih (by omega) with h | ⟨k, hk, h⟩
   ·by_cases e : xs.getD n 0 = 0
    ·exact .inl fun j hj => by
      rcases Nat.lt_succ_iff_lt_or_eq.1 hj with h' | h'
      ·exact h j h'
      ·rw [h']; exact e
    ·exact .inr ⟨n, by omega, h, e⟩
   ·exact .inr ⟨k, by omega, h⟩
 rcases key xs.length (Nat.le_refl _) with h | ⟨k, hk, h1, h2⟩
 ·refine .inl ⟨leadP_all (zeros_all h), fun j => ?_⟩
  rcases Nat.lt_or_ge j xs.length with h' | h'
  ·exact h j h'
  ·exact getD_out h'
 ·exact .inr ⟨k, hk, leadP_at hk h1 h2, h1, h2⟩
/-- So far, a list is the reduced one of some rows. -/
def Red (p : Int) (w : Nat) (L rows : List (List Int)) : Prop := (∃ l, Rr p w L l) ∧ Eqv p L rows
theorem Red.nil : Red p w [] [] := ⟨⟨fun i => i, Rr.nil⟩, Eqv.refl⟩
/-- The row that comes to a list: what is left of it, begun with a 1. -/
def ownP (p : Int) (L : List (List Int)) (row : List Int) : List Int := sclRow p (invP p ((restP p L row).getD (leadP (restP p L row)).toNat 0)) (restP p L row)
theorem Red.skip {L rows : List (List Int)} {row : List Int} (h : Red p w L rows) (hp : 1 < p) (hl : row.length = w) (hb : Bnd p row) (hz : leadP (restP p L row) < 0) : Red p w L (rows ++ [row]) := by
 obtain ⟨⟨l, r⟩, e⟩ := h
 refine ⟨⟨l, r⟩, Eqv.trans ?_ e.snoc⟩
 rcases lead_cases (restP p L row) with ⟨_, h0⟩ | ⟨k, _, h1, _⟩
 ·exact ⟨Le.app1, Le.snoc Le.refl ((restP_iff r (by omega) hl hb).1 h0)⟩
 ·omega
theorem ownP_ok (hP : isP p = true) (r : Rr p w L l) {row : List Int} (hl : row.length = w) (hb : Bnd p row) {k : Nat} (hk : leadP (restP p L row) = k) : OwnOk p w L l (ownP p L row) k ∧ (Sp p (L ++ [row]) fun j => (ownP p L row).getD j 0) ∧ ∃ c s, Sp p L s ∧ ∀ j, Cg p (row.getD j 0) (c * (ownP p L row).getD j 0 + s j) := by
 have hp := isP_two hP
 have rl := restP_len p L row
 have rb := restP_bnd (p := p) (L := L) (by omega) hb
 have rz : ∀ i, i < L.length → (restP p L row).getD (l i) 0 = 0 := fun i hi => restP_zero r (by omega) hl hb hi
 obtain ⟨s, hs, hc⟩ := restP_sub r hl
 rcases lead_cases (restP p L row) with ⟨h0, _⟩ | ⟨k', hk', h1, h2, h3⟩
 ·omega
 ·obtain rfl : k = k' := by omega
  have hx := rb.at hk'
  obtain ⟨i1, i2, _⟩ := invP_ok hP (x := (restP p L row).getD k 0) (by omega) hx.2
  have og : ∀ j, j < w → (ownP p L row).getD j 0 = (invP p ((restP p L row).getD k 0) * (restP p L row).getD j 0) % p := fun j hj => by
   rw [ownP, h1, Int.toNat_natCast, sclR_get _ _ (by rw [rl, hl]; exact hj)]
  have ocg : ∀ j, Cg p ((ownP p L row).getD j 0) (invP p ((restP p L row).getD k 0) * (restP p L row).getD j 0) := fun j => by
   rw [ownP, h1, Int.toNat_natCast]; exact sclRow_cg _ _ _ j
  have own_ok : OwnOk p w L l (ownP p L row) k := ⟨by rw [ownP, sclR_len, rl, hl], sclRow_bnd (by omega) _ _, by omega, by rw [og k (by omega)]; exact i2, fun j hj => by rw [og j (by omega), h2 j hj, Int.mul_zero, Int.zero_emod], fun i hi => by rw [og _ (r.lt i hi), rz i hi, Int.mul_zero, Int.zero_emod]⟩
  refine ⟨own_ok, ?_, (restP p L row).getD k 0, s, hs, fun j => ?_⟩
  ·have : Sp p (L ++ [row]) fun j => (restP p L row).getD j 0 := ((Sp.last (p := p) (L := L) (row := row)).sub 1 (hs.le Le.app1)).cg fun j => (hc j).trans (Cg.of_eq (by rw [Int.one_mul]))
   exact (this.mul _).cg ocg
  ·have a := hc j
   have b : Cg p (row.getD j 0) ((restP p L row).getD j 0 + s j) := ((Cg.add a (Cg.refl (s j))).trans (Cg.of_eq (by omega))).symm
   refine b.trans (Cg.add ?_ (Cg.refl _))
   have c : Cg p ((restP p L row).getD k 0 * (ownP p L row).getD j 0) ((restP p L row).getD k 0 * (invP p ((restP p L row).getD k 0) * (restP p L row).getD j 0)) := (Cg.refl _).mul (ocg j)
   have d : Cg p (invP p ((restP p L row).getD k 0) * (restP p L row).getD k 0) 1 := by
    show _ % p = 1 % p
    rw [i2, Int.emod_eq_of_lt (by omega) hp.1]
   have e : Cg p ((restP p L row).getD k 0 * (invP p ((restP p L row).getD k 0) * (restP p L row).getD j 0)) ((restP p L row).getD j 0) := by
    refine Cg.trans (Cg.of_eq ?_) ((d.mul (Cg.refl ((restP p L row).getD j 0))).trans (Cg.of_eq (Int.one_mul _)))
    rw [← Int.mul_assoc, Int.mul_comm ((restP p L row).getD k 0)]
   exact (c.trans e).symm
theorem Red.put {L rows : List (List Int)} {row : List Int} (h : Red p w L rows) (hP : isP p = true) (hl : row.length = w) (hb : Bnd p row) {k : Nat} (hk : leadP (restP p L row) = k) : Red p w (putP p L (ownP p L row) k (posP L k)) (rows ++ [row]) := by
 obtain ⟨⟨l, r⟩, e⟩ := h
 obtain ⟨o, h1, c, s, hs, h2⟩ := ownP_ok hP r hl hb hk
 exact ⟨⟨_, putP_rr (isP_two hP).1 r o⟩, (putP_eqv r o.len (posP_ok r).1 h1 hs h2).trans e.snoc⟩
end
def clrP (p : Int) (d c : Nat) (M : List (List Int)) (n : Nat) : List (List Int) := (List.range M.length).map fun i => if i < n ∧ i ≠ d then lessRow p (g2 M i c) (M.getD i default) (M.getD d default) else M.getD i default
theorem clrP_len (p : Int) (d c : Nat) (M : List (List Int)) (n : Nat) : (clrP p d c M n).length = M.length := by simp [clrP]
theorem clrP_get {p : Int} {d c : Nat} {M : List (List Int)} {n i : Nat} (hi : i < M.length) : (clrP p d c M n).getD i default = if i < n ∧ i ≠ d then lessRow p (g2 M i c) (M.getD i default) (M.getD d default) else M.getD i default := getD_map_range (α := List Int) (fun i : Nat => if i < n ∧ i ≠ d then lessRow p (g2 M i c) (M.getD i default) (M.getD d default) else M.getD i default) hi
section
variable {p : Int} {w : Nat} {rows M : List (List Int)} {l : Nat → Nat} {d c : Nat}
/-- The program's reduction behind c columns, of which d have brought a row. -/
structure RI (p : Int) (w : Nat) (rows M : List (List Int)) (l : Nat → Nat) (d c : Nat) : Prop where
 ln : M.length = rows.length
 len : ∀ i, i < M.length → (M.getD i default).length = w
 bnd : ∀ i, i < M.length → Bnd p (M.getD i default)
 eqv : Eqv p M rows
 dl : d ≤ M.length
 lt : ∀ i, i < d → l i < c
 one : ∀ i, i < d → g2 M i (l i) = 1
 zb : ∀ i j, i < d → j < l i → g2 M i j = 0
 inc : ∀ i k, i < k → k < d → l i < l k
 cl : ∀ i k, i < d → k < M.length → k ≠ i → g2 M k (l i) = 0
 nul : ∀ k j, d ≤ k → k < M.length → j < c → g2 M k j = 0
theorem RI.skip (r : RI p w rows M l d c) (h : ∀ k, d ≤ k → k < M.length → g2 M k c = 0) : RI p w rows M l d (c + 1) :=
 ⟨r.ln, r.len, r.bnd, r.eqv, r.dl, fun i hi => Nat.lt_succ_of_lt (r.lt i hi), r.one, r.zb, r.inc, r.cl, fun k j h1 h2 hj => by
  rcases Nat.lt_succ_iff_lt_or_eq.1 hj with h' | h'
  ·exact r.nul k j h1 h2 h'
  ·rw [h']; exact h k h1 h2⟩
theorem RI.clear (hP : isP p = true) (r : RI p w rows M l d c) (hd : d < M.length) (hc : c < w) (h1 : g2 M d c = 1) : RI p w rows (clrP p d c M M.length) (fun i => if i = d then c else l i) (d + 1) (c + 1) := by
 have hp := isP_two hP
 have hl := clrP_len p d c M M.length
 have gt := fun {i : Nat} (hi : i < M.length) => clrP_get (p := p) (d := d) (c := c) (n := M.length) hi
 have gd : ∀ j, g2 (clrP p d c M M.length) d j = g2 M d j := fun j => by rw [g2, gt hd, if_neg (by omega)]
 have gn : ∀ i j, i < M.length → i ≠ d → j < w → g2 (clrP p d c M M.length) i j = (g2 M i j - g2 M i c * g2 M d j) % p := fun i j hi hne hj => by
  rw [g2, gt hi, if_pos ⟨hi, hne⟩, lessRow_get p _ (by rw [r.len i hi]; exact hj)]
 have cg : ∀ i j, i < M.length → i ≠ d → Cg p (g2 (clrP p d c M M.length) i j) (g2 M i j - g2 M i c * g2 M d j) := fun i j hi hne => by
  rw [g2, gt hi, if_pos ⟨hi, hne⟩]
  exact lessRow_cg p _ (by rw [r.len i hi, r.len d hd]; exact Nat.le_refl _) j
 have small : ∀ {x : Int}, 0 ≤ x ∧ x < p → x % p = x := fun h => Int.emod_eq_of_lt h.1 h.2
 -- left of column c nothing has changed
 have old : ∀ i j, i < M.length → j < c → g2 (clrP p d c M M.length) i j = g2 M i j := fun i j hi hj => by
  by_cases e : i = d
  ·subst e; exact gd j
  ·rw [gn i j hi e (by omega), r.nul d j (Nat.le_refl _) hd hj, Int.mul_zero, Int.sub_zero]
   exact small ((r.bnd i hi).at (k := j) (by rw [r.len i hi]; omega))
 have atc : ∀ i, i < M.length → i ≠ d → g2 (clrP p d c M M.length) i c = 0 := fun i hi hne => by
  rw [gn i c hi hne hc, h1, Int.mul_one, Int.sub_self, Int.zero_emod]
 refine ⟨by rw [hl]; exact r.ln, fun i hi => ?_, fun i hi => ?_, ⟨fun i hi => ?_, fun i hi => ?_⟩, by rw [hl]; exact hd, fun i hi => ?_, fun i hi => ?_, fun i j hi hj => ?_, fun i k hik hk => ?_, fun i k hi hk hne => ?_, fun k j hk hk2 hj => ?_⟩
 ·rw [hl] at hi; rw [gt hi]
  split
  ·rw [lessRow_len]; exact r.len i hi
  ·exact r.len i hi
 ·rw [hl] at hi; rw [gt hi]
  split
  ·exact lessRow_bnd (by omega) _ _ _
  ·exact r.bnd i hi
 ·rw [hl] at hi
  by_cases e : i = d
  ·subst e; exact (r.eqv.1 i hi).cg fun j => Cg.of_eq (gd j)
  ·exact ((r.eqv.1 i hi).sub (g2 M i c) (r.eqv.1 d hd)).cg fun j => cg i j hi e
 ·refine (r.eqv.2 i hi).le fun q hq => ?_
  have sd : Sp p (clrP p d c M M.length) (g2 M d) := (Sp.row (p := p) (L := clrP p d c M M.length) (i := d) (by rw [hl]; exact hd)).cg fun j => Cg.of_eq (gd j).symm
  by_cases e : q = d
  ·subst e; exact sd
  ·refine ((Sp.row (p := p) (L := clrP p d c M M.length) (i := q) (by rw [hl]; exact hq)).add (sd.mul (g2 M q c))).cg fun j => ?_
   exact ((Cg.add (cg q j hq e) (Cg.refl _)).trans (Cg.of_eq (by omega))).symm
 ·show (if i = d then c else l i) < c + 1
  split
  ·omega
  ·have := r.lt i (by omega); omega
 ·show g2 _ i (if i = d then c else l i) = 1
  by_cases e : i = d
  ·rw [if_pos e, e, gd]; exact h1
  ·rw [if_neg e, old i _ (by omega) (r.lt i (by omega))]; exact r.one i (by omega)
 ·by_cases e : i = d
  ·simp only [if_pos e] at hj
   rw [e, gd]; exact r.nul d j (Nat.le_refl _) hd hj
  ·simp only [if_neg e] at hj
   have := r.lt i (by omega)
   rw [old i j (by omega) (by omega)]; exact r.zb i j (by omega) hj
 ·show (if i = d then c else l i) < (if k = d then c else l k)
  rw [if_neg (by omega)]
  by_cases e : k = d
  ·rw [if_pos e]; exact r.lt i (by omega)
  ·rw [if_neg e]; exact r.inc i k hik (by omega)
 ·rw [hl] at hk
  show g2 _ k (if i = d then c else l i) = 0
  by_cases e : i = d
  ·rw [if_pos e]; exact atc k hk (by omega)
  ·rw [if_neg e, old k _ hk (r.lt i (by omega))]; exact r.cl i k (by omega) hk hne
 ·rw [hl] at hk2
  rcases Nat.lt_succ_iff_lt_or_eq.1 hj with h' | h'
  ·rw [old k j hk2 h']; exact r.nul k j (by omega) hk2 h'
  ·rw [h']; exact atc k hk2 (by omega)
theorem take_get {α : Type} {xs : List α} {d : α} {i n : Nat} (hi : i < n) : (xs.take n).getD i d = xs.getD i d := by
 rw [List.getD_eq_getElem?_getD, List.getElem?_take, if_pos hi, List.getD_eq_getElem?_getD]
theorem RI.end (hP : isP p = true) (r : RI p w rows M l d c) (h : d = M.length ∨ w ≤ c) : Red p w (M.take d) rows := by
 have hl : (M.take d).length = d := by have := r.dl; simp; omega
 have gt : ∀ i j, i < d → g2 (M.take d) i j = g2 M i j := fun i j hi => by rw [g2, take_get hi]
 have dl := r.dl
 have out : ∀ i j, i < M.length → w ≤ j → g2 M i j = 0 := fun i j hi hj => g2_out (by rw [r.len i hi]; exact hj)
 have ltw : ∀ i, i < d → l i < w := fun i hi => by
  apply Nat.lt_of_not_le
  intro hle
  have := r.one i hi
  rw [out i _ (by omega) hle] at this; omega
 refine ⟨⟨l, ⟨fun i hi => ?_, fun i hi => ?_, fun i hi => ?_, fun i hi => ?_, fun i j hi hj => ?_, fun i k hik hk => ?_, fun i k hi hk hne => ?_⟩⟩, ⟨fun i hi => ?_, fun i hi => ?_⟩⟩
 ·rw [hl] at hi; rw [take_get hi]; exact r.len i (by omega)
 ·rw [hl] at hi; rw [take_get hi]; exact r.bnd i (by omega)
 ·rw [hl] at hi; exact ltw i hi
 ·rw [hl] at hi; rw [gt i _ hi]; exact r.one i hi
 ·rw [hl] at hi; rw [gt i _ hi]; exact r.zb i j hi hj
 ·rw [hl] at hk; exact r.inc i k hik hk
 ·rw [hl] at hi hk; rw [gt k _ hk]; exact r.cl i k hi (by omega) hne
 ·rw [hl] at hi; exact (r.eqv.1 i (by omega)).cg fun j => Cg.of_eq (gt i j hi)
 ·refine (r.eqv.2 i hi).le fun k hk => ?_
  rcases Nat.lt_or_ge k d with h1 | h1
  ·exact Sp.at (i := k) (by rw [hl]; exact h1) (take_get h1)
  ·refine Sp.zero.cg fun j => Cg.of_eq ?_
   rcases h with h2 | h2
   ·omega
   ·rcases Nat.lt_or_ge j c with h3 | h3
    ·exact r.nul k j h1 hk h3
    ·exact out k j hk (by omega)
end
end Go.Proofs.Ytacajcjibhifmaa

namespace Go.Proofs.Ytacajcjibhifmaa
open Go
/-- An algebra, as data. -/
structure Dg where
 p : Int
 s : Int
 deg : Nat → Int
 lev : Nat → Int
 dif : Nat → Nat → Int
 tab : Nat → Nat → Nat → Int
def z8 : Nat → Int := fun _ => 0
def upd (u : Nat → Int) (i : Nat) (x : Int) : Nat → Int := fun k => if k = i then x else u k
/-- Eight bytes. -/
def elA (u : Nat → Int) : Array Value := #[.int .u8 (u 0), .int .u8 (u 1), .int .u8 (u 2), .int .u8 (u 3), .int .u8 (u 4), .int .u8 (u 5), .int .u8 (u 6), .int .u8 (u 7)]
theorem nat8 {i : Nat} (h : i < 8) : i = 0 ∨ i = 1 ∨ i = 2 ∨ i = 3 ∨ i = 4 ∨ i = 5 ∨ i = 6 ∨ i = 7 := by omega
theorem elA_at {u : Nat → Int} {i : Nat} (h : i < 8) : (elA u)[i]? = some (.int .u8 (u i)) := by
 rcases nat8 h with rfl | rfl | rfl | rfl | rfl | rfl | rfl | rfl <;> rfl
theorem elA_upd {u : Nat → Int} {i : Nat} {x : Int} (h : i < 8) : ((elA u).toList.take i ++ (#[Value.int .u8 x] : Array Value).toList ++ (elA u).toList.drop (i + 1)).toArray = elA (upd u i x) := by
 rcases nat8 h with rfl | rfl | rfl | rfl | rfl | rfl | rfl | rfl <;> rfl
theorem elA_all {u v : Nat → Int} : ((elA u).toList.take 0 ++ (elA v).toList ++ (elA u).toList.drop (0 + 8)).toArray = elA v := rfl
theorem elA_one {u : Nat → Int} : ∀ v ∈ (elA u).toList, v.oneCell' = true := by
 intro v hv
 simp only [elA, List.mem_cons, List.not_mem_nil, or_false] at hv
 rcases hv with rfl | rfl | rfl | rfl | rfl | rfl | rfl | rfl <;> rfl
theorem u8_one {x : Int} : ∀ v ∈ (#[Value.int .u8 x] : Array Value).toList, v.oneCell' = true := by
 intro v hv
 simp only [List.mem_cons, List.not_mem_nil, or_false] at hv
 subst hv; rfl
theorem elA_sz (u : Nat → Int) : (elA u).size = 8 := rfl
/-- Whether the eight numbers are the same. -/
noncomputable def eqE (u v : Nat → Int) : Bool := @decide (∀ i, i < 8 → u i = v i) (Classical.propDecidable _)
theorem eqE_iff {u v : Nat → Int} : eqE u v = true ↔ ∀ i, i < 8 → u i = v i := @decide_eq_true_iff _ (Classical.propDecidable _)
theorem intsV_el (u : Nat → Int) : intsV .u8 (elA u) = some [u 0, u 1, u 2, u 3, u 4, u 5, u 6, u 7] := rfl
theorem eqE_list (u v : Nat → Int) : ([u 0, u 1, u 2, u 3, u 4, u 5, u 6, u 7] == [v 0, v 1, v 2, v 3, v 4, v 5, v 6, v 7]) = eqE u v := by
 rw [Bool.eq_iff_iff, eqE_iff, beq_iff_eq]
 constructor
 ·intro h
  simp only [List.cons.injEq, and_true] at h
  intro i hi
  rcases nat8 hi with rfl | rfl | rfl | rfl | rfl | rfl | rfl | rfl <;> simp [h]
 ·intro h
  simp only [List.cons.injEq, and_true]
  exact ⟨h 0 (by omega), h 1 (by omega), h 2 (by omega), h 3 (by omega), h 4 (by omega), h 5 (by omega), h 6 (by omega), h 7 (by omega)⟩
theorem bin_arr {T : Tab} {t e : TypeId} (ht : (T t).map (·.desc) = some (.array 8 e)) (he : (T e).map (fun y => (y.desc, y.size)) = some (.int .u8, 1)) (u v : Nat → Int) : binV T .eql t (.agg (elA u)) (.agg (elA v)) = some (.bool (eqE u v)) ∧ binV T .neq t (.agg (elA u)) (.agg (elA v)) = some (.bool (!eqE u v)) := by
 obtain ⟨x, hx, hd⟩ := Option.map_eq_some_iff.1 ht
 obtain ⟨y, hy, hs⟩ := Option.map_eq_some_iff.1 he
 simp only [Prod.mk.injEq] at hs
 constructor <;> simp [binV, hx, hd, hy, hs.1, hs.2, intsV_el, ← eqE_list]
theorem eq_el (u v : Nat → Int) : binV TT .eql 30 (.agg (elA u)) (.agg (elA v)) = some (.bool (eqE u v)) := (bin_arr (e := 5) (by kernel_rfl) (by kernel_rfl) u v).1
theorem ne_el (u v : Nat → Int) : binV TT .neq 30 (.agg (elA u)) (.agg (elA v)) = some (.bool (!eqE u v)) := (bin_arr (e := 5) (by kernel_rfl) (by kernel_rfl) u v).2
theorem build_el : buildV TT 30 [] = some (.agg (elA z8)) := by kernel_rfl
/-- The cell at a place of an algebra. -/
def dgF (X : Dg) (o : Nat) : Value := if o = 0 then .int .i64 X.p else if o = 1 then .int .i64 X.s else if o < 10 then .int .i64 (X.deg (o - 2)) else if o < 18 then .int .i64 (X.lev (o - 10)) else if o < 82 then .int .u8 (X.dif ((o - 18) / 8) ((o - 18) % 8)) else .int .u8 (X.tab ((o - 82) / 64) ((o - 82) / 8 % 8) ((o - 82) % 8))
def dgA (X : Dg) : Array Value := Array.ofFn (n := 594) fun i => dgF X i
theorem dgA_size (X : Dg) : (dgA X).size = 594 := Array.size_ofFn
theorem dgA_at {X : Dg} {o : Nat} (h : o < 594) : (dgA X)[o]? = some (dgF X o) := by
 rw [dgA, Array.getElem?_ofFn, dif_pos h]
theorem dgF_deg {X : Dg} {i : Nat} (h : i < 8) : dgF X (2 + i) = .int .i64 (X.deg i) := by
 unfold dgF
 rw [if_neg (by omega), if_neg (by omega), if_pos (by omega), show 2 + i - 2 = i by omega]
theorem dgF_lev {X : Dg} {i : Nat} (h : i < 8) : dgF X (10 + i) = .int .i64 (X.lev i) := by
 unfold dgF
 rw [if_neg (by omega), if_neg (by omega), if_neg (by omega), if_pos (by omega), show 10 + i - 10 = i by omega]
theorem dgF_dif {X : Dg} {i k : Nat} (h : i < 8) (hk : k < 8) : dgF X (18 + i * 8 + k) = .int .u8 (X.dif i k) := by
 unfold dgF
 rw [if_neg (by omega), if_neg (by omega), if_neg (by omega), if_neg (by omega), if_pos (by omega), show (18 + i * 8 + k - 18) / 8 = i by omega, show (18 + i * 8 + k - 18) % 8 = k by omega]
theorem dgF_tab {X : Dg} {i j k : Nat} (h : i < 8) (hj : j < 8) (hk : k < 8) : dgF X (82 + i * 64 + j * 8 + k) = .int .u8 (X.tab i j k) := by
 unfold dgF
 rw [if_neg (by omega), if_neg (by omega), if_neg (by omega), if_neg (by omega), if_neg (by omega), show (82 + i * 64 + j * 8 + k - 82) / 64 = i by omega, show (82 + i * 64 + j * 8 + k - 82) / 8 % 8 = j by omega, show (82 + i * 64 + j * 8 + k - 82) % 8 = k by omega]
section
variable {h : Heap} {b : Nat} {cs : Array Value} {t : TypeId} {u : Nat → Int} {X : Dg}
theorem hcells_arr (hb : BoxAt h b cs t) (f : Nat → Value) (o : Nat) : ∀ (n i : Nat), (∀ q, i ≤ q → q < i + n → cs[o + q]? = some (f q)) → hcells h ⟨b, o, none⟩ i n = some ((List.range' i n).map f)
 | 0, i, _ => rfl
 | n + 1, i, hq => by
  rw [hcells, addr_add, hb.cell, hq i (by omega) (by omega), Option.bind_some, hcells_arr hb f o n (i + 1) (fun q h1 h2 => hq q (by omega) (by omega))]
  rfl
theorem BoxAt.elC (hb : BoxAt h b (elA u) t) {i : Nat} (hi : i < 8) : hcell h ⟨b, i, none⟩ = some (.int .u8 (u i)) := by rw [hb.cell, elA_at hi]
theorem BoxAt.elL (hb : BoxAt h b (elA u) t) : loadV TT h 30 ⟨b, 0, none⟩ = some (.agg (elA u)) := by
 rw [ld30, hcells_arr hb (fun q => .int .u8 (u q)) 0 8 0 (fun q _ h2 => by rw [Nat.zero_add]; exact elA_at (by omega))]
 rfl
theorem el_at (hb : BoxAt h b (dgA X) t) {o : Nat} {v : Nat → Int} (ho : o + 8 ≤ 594) (hv : ∀ q, q < 8 → dgF X (o + q) = .int .u8 (v q)) : loadV TT h 30 ⟨b, o, none⟩ = some (.agg (elA v)) := by
 rw [ld30, hcells_arr hb (fun q => .int .u8 (v q)) o 8 0 (fun q _ h2 => by rw [dgA_at (by omega), hv q (by omega)])]
 rfl
theorem BoxAt.dgP (hb : BoxAt h b (dgA X) t) : hcell h ⟨b, 0, none⟩ = some (.int .i64 X.p) := by rw [hb.cell, dgA_at (by omega)]; rfl
theorem BoxAt.dgS (hb : BoxAt h b (dgA X) t) : hcell h ⟨b, 1, none⟩ = some (.int .i64 X.s) := by rw [hb.cell, dgA_at (by omega)]; rfl
theorem BoxAt.dgDeg (hb : BoxAt h b (dgA X) t) {i : Nat} (hi : i < 8) : hcell h ⟨b, 2 + i, none⟩ = some (.int .i64 (X.deg i)) := by rw [hb.cell, dgA_at (by omega), dgF_deg hi]
theorem BoxAt.dgLev (hb : BoxAt h b (dgA X) t) {i : Nat} (hi : i < 8) : hcell h ⟨b, 10 + i, none⟩ = some (.int .i64 (X.lev i)) := by rw [hb.cell, dgA_at (by omega), dgF_lev hi]
theorem BoxAt.dgDeg0 (hb : BoxAt h b (dgA X) t) : hcell h ⟨b, 2, none⟩ = some (.int .i64 (X.deg 0)) := hb.dgDeg (i := 0) (by omega)
theorem BoxAt.dgLev0 (hb : BoxAt h b (dgA X) t) : hcell h ⟨b, 10, none⟩ = some (.int .i64 (X.lev 0)) := hb.dgLev (i := 0) (by omega)
theorem BoxAt.dgDifL (hb : BoxAt h b (dgA X) t) {i : Nat} (hi : i < 8) : loadV TT h 30 ⟨b, 18 + i * 8, none⟩ = some (.agg (elA (X.dif i))) := el_at hb (by omega) fun q hq => dgF_dif hi hq
theorem BoxAt.dgTabL (hb : BoxAt h b (dgA X) t) {i j : Nat} (hi : i < 8) (hj : j < 8) : loadV TT h 30 ⟨b, 82 + i * 64 + j * 8, none⟩ = some (.agg (elA (X.tab i j))) := el_at hb (by omega) fun q hq => dgF_tab hi hj hq
theorem BoxAt.dgL (hb : BoxAt h b (dgA X) t) : loadV TT h 34 ⟨b, 0, none⟩ = some (.agg (dgA X)) := by
 rw [ld34, hcells_arr hb (dgF X) 0 594 0 (fun q _ h2 => by rw [Nat.zero_add]; exact dgA_at (by omega)), Option.map_some]
 refine congrArg (fun z => some (Value.agg z)) (Array.ext_getElem? fun q => ?_)
 rw [dgA, Array.getElem?_ofFn, List.getElem?_toArray, List.getElem?_map]
 by_cases hq : q < 594
 ·rw [dif_pos hq, List.getElem?_range' hq, Option.map_some]
  simp
 ·rw [dif_neg hq, List.getElem?_eq_none (by rw [List.length_range']; omega)]; rfl
end
end Go.Proofs.Ytacajcjibhifmaa

namespace Go.Proofs.Ytacajcjibhifmaa
open Go
theorem wrap_u8 {x : Int} (h : 0 ≤ x ∧ x ≤ 255) : IntKind.u8.wrap x = x := by
 simp [IntKind.wrap, IntKind.signed, IntKind.bits]
 omega
theorem cv_u8 {k : IntKind} {x : Int} : convV TT 5 2 (.int k x) = some (.int .i64 (IntKind.i64.wrap x)) := by kernel_rfl
theorem cv_i64 {k : IntKind} {x : Int} : convV TT 2 5 (.int k x) = some (.int .u8 (IntKind.u8.wrap x)) := by kernel_rfl
/-- Bytes. -/
def By (u : Nat → Int) : Prop := ∀ i, 0 ≤ u i ∧ u i ≤ 255
theorem By.z8 : By z8 := fun _ => ⟨Int.le_refl _, by show (0 : Int) ≤ 255; omega⟩
def isEl (p s : Int) (u : Nat → Int) : Prop := ∀ i, i < 8 → u i < p ∧ (s ≤ (i : Int) → u i = 0)
noncomputable def isElB (p s : Int) (u : Nat → Int) : Bool := @decide (isEl p s u) (Classical.propDecidable _)
theorem isElB_t {p s : Int} {u : Nat → Int} : isElB p s u = true ↔ isEl p s u := @decide_eq_true_iff _ (Classical.propDecidable _)
theorem isElB_y {p s : Int} {u : Nat → Int} (h : isEl p s u) : true = isElB p s u := (isElB_t.2 h).symm
theorem isElB_n {p s : Int} {u : Nat → Int} (h : ¬ isEl p s u) : false = isElB p s u := by
 cases e : isElB p s u
 ·rfl
 ·exact absurd (isElB_t.1 e) h
def e8 (i : Nat) : Nat → Int := upd z8 i 1
theorem e8_by (i : Nat) : By (e8 i) := fun k => by unfold e8 upd z8; split <;> omega
def plusN (p : Int) (u v : Nat → Int) (k : Int) (n : Nat) : Nat → Int := fun i => if i < n then (u i + k * v i) % p else u i
theorem plusN_0 (p : Int) (u v : Nat → Int) (k : Int) : plusN p u v k 0 = u := by funext i; simp [plusN]
theorem plusN_at (p : Int) (u v : Nat → Int) (k : Int) (n : Nat) : plusN p u v k n n = u n := by simp [plusN]
theorem plusN_step (p : Int) (u v : Nat → Int) (k : Int) (n : Nat) : upd (plusN p u v k n) n ((u n + k * v n) % p) = plusN p u v k (n + 1) := by
 funext i
 unfold upd plusN
 by_cases h : i = n
 ·subst h; rw [if_pos rfl, if_pos (by omega)]
 ·rw [if_neg h]
  by_cases h2 : i < n
  ·rw [if_pos h2, if_pos (by omega)]
  ·rw [if_neg h2, if_neg (by omega)]
theorem plusN_by {p : Int} {u v : Nat → Int} {k : Int} {n : Nat} (hp : 0 < p ∧ p ≤ 7) (hu : By u) : By (plusN p u v k n) := fun i => by
 unfold plusN
 split
 ·have h1 := Int.emod_nonneg (u i + k * v i) (show p ≠ 0 by omega)
  have h2 := Int.emod_lt_of_pos (u i + k * v i) hp.1
  omega
 ·exact hu i
theorem km_ok {p k : Int} (hp : 0 < p) : Int.tmod (Int.tmod k p + p) p = k % p := by
 have h1 : k.tmod p = k % p - ↑(if 0 ≤ k ∨ p ∣ k then 0 else p.natAbs) := Int.tmod_eq_emod
 have h2 := Int.emod_nonneg k (show p ≠ 0 by omega)
 have h3 := Int.emod_lt_of_pos k hp
 rw [h1]
 split
 ·rw [show ((0 : Nat) : Int) = 0 from rfl, Int.sub_zero, Int.tmod_eq_emod_of_nonneg (by omega), Int.add_emod_right, Int.emod_emod_of_dvd _ (Int.dvd_refl p)]
 ·have e : (p.natAbs : Int) = p := by omega
  rw [e, Int.sub_add_cancel, Int.tmod_eq_emod_of_nonneg h2, Int.emod_emod_of_dvd _ (Int.dvd_refl p)]
theorem km_step {p k x y : Int} (hp : 0 < p) (hx : 0 ≤ x) (hy : 0 ≤ y) : Int.tmod (x + (k % p) * y) p = (x + k * y) % p := by
 have h2 := Int.emod_nonneg k (show p ≠ 0 by omega)
 have h3 := Int.mul_nonneg h2 hy
 rw [Int.tmod_eq_emod_of_nonneg (by omega), Int.add_emod, Int.mul_emod, Int.emod_emod_of_dvd _ (Int.dvd_refl p), ← Int.mul_emod, ← Int.add_emod]
theorem km_bnd {p k y : Int} (hp : 0 < p ∧ p ≤ 7) (hy : 0 ≤ y ∧ y ≤ 255) : 0 ≤ (k % p) * y ∧ (k % p) * y ≤ 1530 := by
 have h2 := Int.emod_nonneg k (show p ≠ 0 by omega)
 have h3 := Int.emod_lt_of_pos k hp.1
 have h4 := Int.mul_nonneg h2 hy.1
 have h5 := Int.mul_le_mul (show k % p ≤ 6 by omega) hy.2 hy.1 (by omega)
 omega

set_option maxRecDepth 100000 in
theorem iEl_ok (X : Dg) (u : Nat → Int) (h : Heap)  (hu : By u) : CallA Try.prog 48 #[.agg (dgA X), .agg (elA u)] h fun v' h' => v' = .bool (isElB X.p X.s u) ∧ Ext h h' := by
 refine callA_intro TTok (args := [_, _]) Try.func48 (by kernel_rfl) rfl 28 rfl (by simp) [.tmp 4] rfl ?_
 simp only [idxs, Nat.reduceAdd]
 refine den_seq ?_
 refine den_region TTok ?_
 intro K hK
 simp -implicitDefEqProofs (disch := first | decide | assumption | omega) only [go_sem]
 refine op_box (cs := dgA X) rfl ?_
 intro h0_0 e0_0 hb0_0 z0_0
 have := Ext.size e0_0
 have eB := e0_0
 have hfhb0_0 : Fresh h.size [h.size] := Fresh.one _
 have hlhb0_0 := one_lt (show h.size < h0_0.size by omega)
 try simp -implicitDefEqProofs (disch := first | decide | assumption | omega) only [go_sem]
 refine op_box (cs := elA u) rfl ?_
 intro h0_1 e0_1 hb0_1 z0_1
 replace hb0_0 := BoxAt.ext hb0_0 e0_1
 have := Ext.size e0_1
 replace eB := Ext.trans eB e0_1
 have hfhb0_1 : Fresh h0_0.size [h0_0.size] := Fresh.one _
 have hlhb0_1 := one_lt (show h0_0.size < h0_1.size by omega)
 try simp -implicitDefEqProofs (disch := first | decide | assumption | omega) only [go_sem]
 refine hK _ _ ?_
 clear hK K
 refine den_seq ?_
 refine den_seq ?_
 refine den_region TTok ?_
 intro K hK
 simp -implicitDefEqProofs (disch := first | decide | assumption | omega) only [go_sem, BoxAt.elL hb0_1]
 refine hK _ _ ?_
 clear hK K
 refine den_block ?_
 refine den_sel [8, 2, 7] ?_
 intro env_1
 simp only [go_sem]
 refine den_loopS (σ := Nat) (fun st_ => [(8, .int .i64 (st_ : Int))]) (fun st_ H => (st_ ≤ 8) ∧ (∀ a, a < st_ → u a < X.p ∧ (X.s ≤ (a : Int) → u a = 0)) ∧ (Ext h0_1 H)) (fun st_ => 8 - st_) 0 ?_ ?_
 ·exact ⟨by omega, fun a h => by omega, Ext.refl _⟩
 ·rintro i h4 ee3 ⟨hi, hz, cL2⟩
  replace hb0_0 := BoxAt.ext hb0_0 cL2
  replace hb0_1 := BoxAt.ext hb0_1 cL2
  have := Ext.size cL2
  replace eB := Ext.trans eB cL2
  simp only [List.cons_append, List.nil_append]
  have hui := hu i
  refine den_seq ?_
  refine den_region TTok ?_
  intro K hK
  simp -implicitDefEqProofs (disch := first | decide | assumption | omega) only [go_sem]
  refine hK _ _ ?_
  clear hK K
  refine den_seq ?_
  refine den_cond rfl (fun c0 => ?_) (fun c0 => ?_)
  ·try simp only [decide_eq_true_eq] at c0
   refine den_skip ?_
   refine den_seq ?_
   refine den_block ?_
   refine den_seq ?_
   refine den_region TTok ?_
   intro K hK
   simp -implicitDefEqProofs (disch := first | decide | assumption | omega) only [go_sem, elA_at, ix30]
   refine hK _ _ ?_
   clear hK K
   refine den_seq ?_
   refine den_mergeH [(26, .bool (((decide (X.p ≤ (u i))) || ((decide (X.s ≤ (i : Int))) && ((u i) != (0 : Int))))))] [2, 7, 8] ?_ ?_
    -- a way
   ·refine den_region TTok ?_
    intro K hK
    simp -implicitDefEqProofs (disch := first | decide | assumption | (simp (disch := decide) only [gvA, eq_self, if_true, if_false, Bool.false_eq_true]; done) | omega) only [go_sem, fa34_0, ld2, BoxAt.dgP hb0_0, wrap_id, cv_u8]
    refine opsP_F (by simp (disch := decide) only [slotOf_zero, slotOf_succ, Option.map_some, puts_same]; rfl) (fun g5 => ?_) (fun g5 => ?_)
    ·try simp -implicitDefEqProofs (disch := first | decide | assumption | (simp (disch := decide) only [gvA, eq_self, if_true, if_false, Bool.false_eq_true, g5]; done) | omega) only [go_sem, fa34_1, ld2, BoxAt.dgS hb0_0, Nat.zero_add, g5]
     refine opsP_T (by simp (disch := decide) only [slotOf_zero, slotOf_succ, Option.map_some, puts_same]; rfl) (fun g6 => ?_) (fun g6 => ?_)
     ·try simp -implicitDefEqProofs (disch := first | decide | assumption | (simp (disch := decide) only [gvA, eq_self, if_true, if_false, Bool.false_eq_true, g5, g6]; done) | omega) only [go_sem, g6, eq_self, if_true, if_false, Bool.false_eq_true]
      refine hK _ _ ?_
      clear hK K
      refine den_stop ?_
      refine ⟨?_, rfl⟩
      first | (simp (disch := decide) only [go_sem, g5, g6, eq_self, Bool.true_and, Bool.false_or]; done) | simp [HasL, sel, puts_at, g5, g6]
     ·try simp -implicitDefEqProofs (disch := first | decide | assumption | (simp (disch := decide) only [gvA, eq_self, if_true, if_false, Bool.false_eq_true, g5, g6]; done) | omega) only [go_sem, g6, if_false, Bool.false_eq_true]
      refine hK _ _ ?_
      clear hK K
      refine den_stop ?_
      refine ⟨?_, rfl⟩
      first | (simp (disch := decide) only [go_sem, g5, g6, eq_self, Bool.false_and, Bool.or_false]; done) | simp [HasL, sel, puts_at, g5, g6]
    ·try simp -implicitDefEqProofs (disch := first | decide | assumption | (simp (disch := decide) only [gvA, eq_self, if_true, if_false, Bool.false_eq_true, g5]; done) | omega) only [go_sem, g5, eq_self, if_true]
     refine hK _ _ ?_
     clear hK K
     refine den_stop ?_
     refine ⟨?_, rfl⟩
     first | (simp (disch := decide) only [go_sem, g5, eq_self, Bool.true_or]; done) | simp [HasL, sel, puts_at, g5]
   intro en7
   simp (disch := decide) only [go_sem]
   refine den_cond rfl (fun c1 => ?_) (fun c1 => ?_)
   ·try simp only [decide_eq_true_eq, bne_iff_ne, ne_eq, Bool.and_eq_true, Bool.or_eq_true] at c1
    refine den_seq ?_
    refine den_region TTok ?_
    intro K hK
    simp -implicitDefEqProofs (disch := first | decide | assumption | omega) only [go_sem]
    refine hK _ _ ?_
    clear hK K
    refine den_ret ?_
    simp (disch := decide) only [resP_1, puts_same]
    exact ⟨vbool (isElB_n (fun hh => by have h1 := hh i (by omega); have h2 := c1; omega)), eB⟩
   ·try simp only [decide_eq_false_iff_not, bne_eq_false_iff_eq, Bool.or_eq_false_iff, Bool.and_eq_false_iff] at c1
    refine den_skip ?_
    refine den_blk ?_
    refine den_region TTok ?_
    intro K hK
    simp -implicitDefEqProofs (disch := first | decide | assumption | omega) only [go_sem, wrap_id]
    refine hK _ _ ?_
    clear hK K
    refine den_stop ?_
    exact ⟨i + 1, by simp [puts_at], ⟨by first | omega | (dsimp only; omega), fun a ha => by
 by_cases hai : a < i
 ·exact hz a hai
 ·rw [show a = i by omega]; have h1 := c1; exact ⟨by omega, fun h2 => by omega⟩, cL2⟩, by first | omega | (dsimp only; omega)⟩
  ·try simp only [decide_eq_false_iff_not] at c0
   refine den_exit ?_
   refine denX_code ?_
   refine denX_stop ?_
   refine denX_hit ?_
   refine den_seq ?_
   refine den_region TTok ?_
   intro K hK
   simp -implicitDefEqProofs (disch := first | decide | assumption | omega) only [go_sem]
   refine hK _ _ ?_
   clear hK K
   refine den_ret ?_
   simp (disch := decide) only [resP_1, puts_same]
   exact ⟨vbool (isElB_y (fun a ha => hz a (by omega))), eB⟩

set_option maxRecDepth 100000 in
theorem iBas_ok (X : Dg) (n : Int) (h : Heap)  (hn : 0 ≤ n ∧ n < 8) : CallA Try.prog 52 #[.agg (dgA X), .int .i64 n] h fun v' h' => v' = .agg (elA (e8 n.toNat)) ∧ Ext h h' := by
 refine callA_intro TTok (args := [_, _]) Try.func52 (by kernel_rfl) rfl 10 rfl (by simp) [.cell 4 30] rfl ?_
 simp only [idxs, Nat.reduceAdd]
 refine den_seq ?_
 refine den_region TTok ?_
 intro K hK
 simp -implicitDefEqProofs (disch := first | decide | assumption | omega) only [go_sem]
 refine op_box (cs := dgA X) rfl ?_
 intro h0_0 e0_0 hb0_0 z0_0
 have := Ext.size e0_0
 have eB := e0_0
 have hfhb0_0 : Fresh h.size [h.size] := Fresh.one _
 have hlhb0_0 := one_lt (show h.size < h0_0.size by omega)
 try simp -implicitDefEqProofs (disch := first | decide | assumption | omega) only [go_sem]
 refine op_alloc (cs := elA z8) (by kernel_rfl) ?_
 intro h0_1 e0_1 hb0_1 z0_1
 replace hb0_0 := BoxAt.ext hb0_0 e0_1
 have := Ext.size e0_1
 replace eB := Ext.trans eB e0_1
 have hfhb0_1 : Fresh h0_0.size [h0_0.size] := Fresh.one _
 have hlhb0_1 := one_lt (show h0_0.size < h0_1.size by omega)
 try simp -implicitDefEqProofs (disch := first | decide | assumption | omega) only [go_sem]
 refine hK _ _ ?_
 clear hK K
 refine den_seq ?_
 refine den_region TTok ?_
 intro K hK
 simp -implicitDefEqProofs (disch := first | decide | assumption | omega) only [go_sem, build_el]
 refine op_alloc (cs := elA z8) (by kernel_rfl) ?_
 intro h1_1 e1_1 hb1_1 z1_1
 replace hb0_1 := BoxAt.ext hb0_1 e1_1
 have := Ext.size e1_1
 replace eB := Ext.trans eB e1_1
 have hfhb1_1 : Fresh h0_1.size [h0_1.size] := Fresh.one _
 have hlhb1_1 := one_lt (show h0_1.size < h1_1.size by omega)
 try simp -implicitDefEqProofs (disch := first | decide | assumption | omega) only [go_sem]
 refine op_storeB (o := 0) (cs' := elA z8) st30 hb1_1 rfl rfl (elA_sz _) (by rw [elA_sz]; decide) elA_one elA_all ?_
 intro h1_2 hb1_1 c1_2
 replace hb0_1 := BoxAt.chgA hb0_1 c1_2 (apart_lt hlhb0_1 hfhb1_1 (by omega))
 have := c1_2.size
 replace eB := Ext.then eB c1_2 (ge_of hfhb1_1 (by omega))
 try simp -implicitDefEqProofs (disch := first | decide | assumption | omega) only [go_sem]
 refine hK _ _ ?_
 clear hK K
 refine den_seq ?_
 refine den_region TTok ?_
 intro K hK
 simp -implicitDefEqProofs (disch := first | decide | assumption | omega) only [go_sem, ia30, Nat.zero_add]
 refine op_storeB (o := (n).toNat) (vs := #[.int .u8 (1 : Int)]) (cs' := elA (upd z8 (n).toNat (1 : Int))) st5 hb1_1 rfl rfl rfl (by show _ + 1 ≤ 8; omega) u8_one (elA_upd (by omega)) ?_
 intro h2_2 hb1_1 c2_2
 replace hb0_1 := BoxAt.chgA hb0_1 c2_2 (apart_lt hlhb0_1 hfhb1_1 (by omega))
 have := c2_2.size
 replace eB := Ext.then eB c2_2 (ge_of hfhb1_1 (by omega))
 try simp -implicitDefEqProofs (disch := first | decide | assumption | omega) only [go_sem]
 refine hK _ _ ?_
 clear hK K
 refine den_seq ?_
 refine den_region TTok ?_
 intro K hK
 simp -implicitDefEqProofs (disch := first | decide | assumption | omega) only [go_sem, BoxAt.elL hb1_1]
 refine op_storeB (o := 0) (cs' := elA (upd z8 (n).toNat (1 : Int))) st30 hb0_1 rfl rfl (elA_sz _) (by rw [elA_sz]; decide) elA_one elA_all ?_
 intro h3_1 hb0_1 c3_1
 replace hb1_1 := BoxAt.chgA hb1_1 c3_1 (apart_gt hfhb1_1 hlhb0_1 (by omega))
 have := c3_1.size
 replace eB := Ext.then eB c3_1 (ge_of hfhb0_1 (by omega))
 try simp -implicitDefEqProofs (disch := first | decide | assumption | omega) only [go_sem]
 refine hK _ _ ?_
 clear hK K
 refine den_ret ?_
 simp -implicitDefEqProofs (disch := first | decide | assumption | omega) only [go_sem, BoxAt.elL hb0_1, resP_c1]
 exact ⟨by first | rfl | trivial, eB⟩

set_option maxRecDepth 100000 in
set_option maxHeartbeats 4000000 in
theorem iPls_ok (X : Dg) (u : Nat → Int) (v : Nat → Int) (k : Int) (h : Heap)  (hp : 0 < X.p ∧ X.p ≤ 7) (hu : By u) (hv : By v) (hk : -100000 ≤ k ∧ k ≤ 100000) : CallA Try.prog 43 #[.agg (dgA X), .agg (elA u), .agg (elA v), .int .i64 k] h fun v' h' => v' = .agg (elA (plusN X.p u v k 8)) ∧ Ext h h' := by
 have hkm := km_ok (k := k) hp.1
 have htb := tmod_in (x := k) hp.1
 refine callA_intro TTok (args := [_, _, _, _]) Try.func43 (by kernel_rfl) rfl 43 rfl (by simp) [.cell 8 30] rfl ?_
 simp only [idxs, Nat.reduceAdd]
 refine den_seq ?_
 refine den_region TTok ?_
 intro K hK
 simp -implicitDefEqProofs (disch := first | decide | assumption | omega) only [go_sem]
 refine op_box (cs := dgA X) rfl ?_
 intro h0_0 e0_0 hb0_0 z0_0
 have := Ext.size e0_0
 have eB := e0_0
 have hfhb0_0 : Fresh h.size [h.size] := Fresh.one _
 have hlhb0_0 := one_lt (show h.size < h0_0.size by omega)
 try simp -implicitDefEqProofs (disch := first | decide | assumption | omega) only [go_sem]
 refine op_box (cs := elA u) rfl ?_
 intro h0_1 e0_1 hb0_1 z0_1
 replace hb0_0 := BoxAt.ext hb0_0 e0_1
 have := Ext.size e0_1
 replace eB := Ext.trans eB e0_1
 have hfhb0_1 : Fresh h0_0.size [h0_0.size] := Fresh.one _
 have hlhb0_1 := one_lt (show h0_0.size < h0_1.size by omega)
 try simp -implicitDefEqProofs (disch := first | decide | assumption | omega) only [go_sem]
 refine op_box (cs := elA v) rfl ?_
 intro h0_2 e0_2 hb0_2 z0_2
 replace hb0_0 := BoxAt.ext hb0_0 e0_2
 replace hb0_1 := BoxAt.ext hb0_1 e0_2
 have := Ext.size e0_2
 replace eB := Ext.trans eB e0_2
 have hfhb0_2 : Fresh h0_1.size [h0_1.size] := Fresh.one _
 have hlhb0_2 := one_lt (show h0_1.size < h0_2.size by omega)
 try simp -implicitDefEqProofs (disch := first | decide | assumption | omega) only [go_sem]
 refine op_alloc (cs := elA z8) (by kernel_rfl) ?_
 intro h0_3 e0_3 hb0_3 z0_3
 replace hb0_0 := BoxAt.ext hb0_0 e0_3
 replace hb0_1 := BoxAt.ext hb0_1 e0_3
 replace hb0_2 := BoxAt.ext hb0_2 e0_3
 have := Ext.size e0_3
 replace eB := Ext.trans eB e0_3
 have hfhb0_3 : Fresh h0_2.size [h0_2.size] := Fresh.one _
 have hlhb0_3 := one_lt (show h0_2.size < h0_3.size by omega)
 try simp -implicitDefEqProofs (disch := first | decide | assumption | omega) only [go_sem]
 refine hK _ _ ?_
 clear hK K
 refine den_seq ?_
 refine den_draw TTok mixed [] [(0, true), (1, true), (2, true), (3, true), (4, true), (5, true), (6, true), (7, true), (8, true), (9, true), (10, true)] (by kernel_rfl) ?_
 intro K hK
 simp -implicitDefEqProofs (disch := first | decide | assumption | omega) only [go_sem, fa34_0, ld2, BoxAt.dgP hb0_0, wrap_id, hkm]
 refine hK _ _ ?_
 clear hK K
 refine den_seq ?_
 refine den_seq ?_
 refine den_region TTok ?_
 intro K hK
 simp -implicitDefEqProofs (disch := first | decide | assumption | omega) only [go_sem, BoxAt.elL hb0_2]
 refine hK _ _ ?_
 clear hK K
 refine den_block ?_
 refine den_sel [22, 3, 4, 5, 8, 21] ?_
 intro env_1
 simp only [go_sem]
 refine den_loopS (σ := Nat) (fun st_ => [(22, .int .i64 (st_ : Int))]) (fun st_ H => (st_ ≤ 8) ∧ (BoxAt H (h0_0.size) (elA (plusN X.p u v k st_)) 30) ∧ (Chg [h0_0.size] h0_3 H)) (fun st_ => 8 - st_) 0 ?_ ?_
 ·exact ⟨by first | (simp; done) | (dsimp only; omega) | (simp; omega), by rw [plusN_0]; exact hb0_1, Chg.refl _ _⟩
 ·rintro i h4 ee3 ⟨hi0, hbx5, cL2⟩
  replace hb0_0 := BoxAt.chgA hb0_0 cL2 (apart_lt hlhb0_0 hfhb0_1 (by omega))
  replace hb0_2 := BoxAt.chgA hb0_2 cL2 (apart_gt hfhb0_2 hlhb0_1 (by omega))
  replace hb0_3 := BoxAt.chgA hb0_3 cL2 (apart_gt hfhb0_3 hlhb0_1 (by omega))
  have := cL2.size
  replace eB := Ext.then eB cL2 (ge_of hfhb0_1 (by omega))
  have hfhbx5 := hfhb0_1
  have hlhbx5 := hlhb0_1
  simp only [List.cons_append, List.nil_append]
  refine den_seq ?_
  refine den_region TTok ?_
  intro K hK
  simp -implicitDefEqProofs (disch := first | decide | assumption | omega) only [go_sem]
  refine hK _ _ ?_
  clear hK K
  refine den_seq ?_
  refine den_cond rfl (fun c0 => ?_) (fun c0 => ?_)
  ·try simp only [decide_eq_true_eq] at c0
   refine den_skip ?_
   refine den_seq ?_
   refine den_block ?_
   refine den_seq ?_
   refine den_region TTok ?_
   intro K hK
   simp -implicitDefEqProofs (disch := first | decide | assumption | omega) only [go_sem, elA_at, ix30]
   refine hK _ _ ?_
   clear hK K
   have hui := hu i
   have hvi := hv i
   have hpi := plusN_at X.p u v k i
   have hte := km_step (k := k) hp.1 hui.1 hvi.1
   have hkb := km_bnd (k := k) hp hvi
   have hm0 := Int.emod_nonneg (u i + k * v i) (show X.p ≠ 0 by omega)
   have hm1 := Int.emod_lt_of_pos (u i + k * v i) hp.1
   have hk0 := Int.emod_nonneg k (show X.p ≠ 0 by omega)
   have hk1 := Int.emod_lt_of_pos k hp.1
   refine den_draw TTok mixed [15] [(0, true), (1, true), (2, true), (3, true), (4, true), (5, true), (6, true), (7, true), (8, true), (9, true), (10, true), (11, true), (12, true), (13, true), (14, true), (15, false)] (by kernel_rfl) ?_
   intro K hK
   simp -implicitDefEqProofs (disch := first | decide | assumption | omega) only [go_sem, fa34_0, ia30, ld2, ld5, BoxAt.dgP hb0_0, BoxAt.elC hbx5, wrap_id, cv_u8, cv_i64, Nat.zero_add, wrap_u8, hpi, hte]
   refine op_storeB (o := i) (vs := #[.int .u8 ((u i + k * v i) % X.p)]) (cs' := elA (upd (plusN X.p u v k i) i ((u i + k * v i) % X.p))) st5 hbx5 rfl rfl rfl (by show _ + 1 ≤ 8; omega) u8_one (elA_upd (by omega)) ?_
   intro h5_15 hbx5 c5_15
   replace hb0_0 := BoxAt.chgA hb0_0 c5_15 (apart_lt hlhb0_0 hfhbx5 (by omega))
   replace hb0_3 := BoxAt.chgA hb0_3 c5_15 (apart_gt hfhb0_3 hlhbx5 (by omega))
   have := c5_15.size
   replace eB := Ext.then eB c5_15 (ge_of hfhbx5 (by omega))
   replace cL2 := Chg.step cL2 c5_15 Sub.refl
   try simp (disch := decide) only [outv_none]
   refine plK_last (by decide) ?_
   try simp -implicitDefEqProofs (disch := first | decide | assumption | omega) only [go_sem]
   refine hK _ _ ?_
   clear hK K
   refine den_blk ?_
   refine den_region TTok ?_
   intro K hK
   simp -implicitDefEqProofs (disch := first | decide | assumption | omega) only [go_sem, wrap_id]
   refine hK _ _ ?_
   clear hK K
   refine den_stop ?_
   rw [plusN_step] at hbx5
   exact ⟨i + 1, by simp [HasL, puts_at], ⟨by first | omega | (dsimp only; omega), hbx5, cL2⟩, by first | omega | (dsimp only; omega)⟩
  ·try simp only [decide_eq_false_iff_not] at c0
   refine den_exit ?_
   refine denX_code ?_
   refine denX_stop ?_
   refine denX_hit ?_
   refine den_seq ?_
   refine den_region TTok ?_
   intro K hK
   simp -implicitDefEqProofs (disch := first | decide | assumption | omega) only [go_sem, BoxAt.elL hbx5]
   refine op_storeB (o := 0) (cs' := elA (plusN X.p u v k i)) st30 hb0_3 rfl rfl (elA_sz _) (by rw [elA_sz]; decide) elA_one elA_all ?_
   intro h7_1 hb0_3 c7_1
   replace hbx5 := BoxAt.chgA hbx5 c7_1 (apart_lt hlhbx5 hfhb0_3 (by omega))
   have := c7_1.size
   replace eB := Ext.then eB c7_1 (ge_of hfhb0_3 (by omega))
   try simp -implicitDefEqProofs (disch := first | decide | assumption | omega) only [go_sem]
   refine hK _ _ ?_
   clear hK K
   refine den_ret ?_
   simp -implicitDefEqProofs (disch := first | decide | assumption | omega) only [go_sem, BoxAt.elL hb0_3, resP_c1]
   rw [show i = 8 by omega]
   exact ⟨by first | rfl | trivial, eB⟩


theorem sbs : (∀ {k : IntKind} {x : Int}, convV TT 5 2 (.int k x) = some (.int .i64 (IntKind.i64.wrap x))) ∧ (∀ {k : IntKind} {x : Int}, convV TT 2 5 (.int k x) = some (.int .u8 (IntKind.u8.wrap x))) ∧ (∀ n : Nat, 0 + n = n) ∧ (∀ {x : Int} (h : 0 ≤ x ∧ x ≤ 255), IntKind.u8.wrap x = x) ∧ (∀ (u v : Nat → Int), binV TT .eql 30 (.agg (elA u)) (.agg (elA v)) = some (.bool (eqE u v))) ∧ (∀ (u v : Nat → Int), binV TT .neq 30 (.agg (elA u)) (.agg (elA v)) = some (.bool (!eqE u v))) ∧ (buildV TT 30 [] = some (.agg (elA z8))) := ⟨cv_u8, cv_i64, Nat.zero_add, fun h => wrap_u8 h, @eq_el, @ne_el, @build_el⟩
end Go.Proofs.Ytacajcjibhifmaa

namespace Go.Proofs.Ytacajcjibhifmaa
open Go
def tmJ (p : Int) (tab : Nat → Nat → Nat → Int) (u v : Nat → Int) (i : Nat) (o : Nat → Int) : Nat → Nat → Int
 | 0 => o
 | j + 1 => if u i ≠ 0 ∧ v j ≠ 0 then plusN p (tmJ p tab u v i o j) (tab i j) (u i * v j) 8 else tmJ p tab u v i o j
def tmI (p : Int) (tab : Nat → Nat → Nat → Int) (u v : Nat → Int) (m : Nat) : Nat → Nat → Int
 | 0 => z8
 | i + 1 => tmJ p tab u v i (tmI p tab u v m i) m
def timesP (p : Int) (tab : Nat → Nat → Nat → Int) (u v : Nat → Int) (m : Nat) : Nat → Int := tmI p tab u v m m
def dfI (p : Int) (dif : Nat → Nat → Int) (u : Nat → Int) : Nat → Nat → Int
 | 0 => z8
 | i + 1 => plusN p (dfI p dif u i) (dif i) (u i) 8
theorem tmJ_yes {p : Int} {tab : Nat → Nat → Nat → Int} {u v : Nat → Int} {i : Nat} {o : Nat → Int} {j : Nat} (h : ¬ u i = 0 ∧ ¬ v j = 0) : plusN p (tmJ p tab u v i o j) (tab i j) (u i * v j) 8 = tmJ p tab u v i o (j + 1) := by
 rw [tmJ, if_pos h]
theorem tmJ_no {p : Int} {tab : Nat → Nat → Nat → Int} {u v : Nat → Int} {i : Nat} {o : Nat → Int} {j : Nat} (h : (u i != 0 && v j != 0) = false) : tmJ p tab u v i o j = tmJ p tab u v i o (j + 1) := by
 rw [tmJ, if_neg]
 rintro ⟨h1, h2⟩
 simp [h1, h2] at h
theorem dfI_step (p : Int) (dif : Nat → Nat → Int) (u : Nat → Int) (i : Nat) : plusN p (dfI p dif u i) (dif i) (u i) 8 = dfI p dif u (i + 1) := rfl
section
variable {p : Int} (hp : 0 < p ∧ p ≤ 7)
include hp
theorem tmJ_by {tab : Nat → Nat → Nat → Int} {u v : Nat → Int} {i : Nat} {o : Nat → Int} (ho : By o) : ∀ j, By (tmJ p tab u v i o j)
 | 0 => ho
 | j + 1 => by
  rw [tmJ]
  split
  ·exact plusN_by hp (tmJ_by ho j)
  ·exact tmJ_by ho j
theorem tmI_by {tab : Nat → Nat → Nat → Int} {u v : Nat → Int} {m : Nat} : ∀ i, By (tmI p tab u v m i)
 | 0 => By.z8
 | i + 1 => tmJ_by hp (tmI_by i) m
theorem timesP_by {tab : Nat → Nat → Nat → Int} {u v : Nat → Int} {m : Nat} : By (timesP p tab u v m) := tmI_by hp m
theorem dfI_by {dif : Nat → Nat → Int} {u : Nat → Int} : ∀ i, By (dfI p dif u i)
 | 0 => By.z8
 | i + 1 => plusN_by hp (dfI_by i)
end
theorem by_mul {u v : Nat → Int} (hu : By u) (hv : By v) (i j : Nat) : 0 ≤ u i * v j ∧ u i * v j ≤ 65025 := by
 have h1 := hu i
 have h2 := hv j
 have h3 := Int.mul_nonneg h1.1 h2.1
 have h4 := Int.mul_le_mul h1.2 h2.2 h2.1 (show (0 : Int) ≤ 255 by omega)
 omega
def lies (X : Dg) (u : Nat → Int) (d l : Int) (n : Nat) : Prop := ∀ i, i < n → ¬ u i = 0 → X.deg i = d ∧ X.lev i ≤ l
noncomputable def liesB (X : Dg) (u : Nat → Int) (d l : Int) (n : Nat) : Bool := @decide (lies X u d l n) (Classical.propDecidable _)
theorem liesB_t {X : Dg} {u : Nat → Int} {d l : Int} {n : Nat} : liesB X u d l n = true ↔ lies X u d l n := @decide_eq_true_iff _ (Classical.propDecidable _)
theorem liesB_y {X : Dg} {u : Nat → Int} {d l : Int} {n : Nat} (h : lies X u d l n) : true = liesB X u d l n := (liesB_t.2 h).symm
theorem liesB_n {X : Dg} {u : Nat → Int} {d l : Int} {n : Nat} (h : ¬ lies X u d l n) : false = liesB X u d l n := by
 cases e : liesB X u d l n
 ·rfl
 ·exact absurd (liesB_t.1 e) h

set_option maxRecDepth 100000 in
set_option maxHeartbeats 4000000 in
theorem iTms_ok (X : Dg) (u : Nat → Int) (v : Nat → Int) (h : Heap)  (hp : 0 < X.p ∧ X.p ≤ 7) (hu : By u) (hv : By v) (hBt : ∀ i j, By (X.tab i j)) : CallA Try.prog 49 #[.agg (dgA X), .agg (elA u), .agg (elA v)] h fun v' h' => v' = .agg (elA (timesP X.p X.tab u v 8)) ∧ Ext h h' := by
 have hp6 := hp.2
 refine callA_intro TTok (args := [_, _, _]) Try.func49 (by kernel_rfl) rfl 46 rfl (by simp) [.cell 6 30] rfl ?_
 simp only [idxs, Nat.reduceAdd]
 refine den_seq ?_
 refine den_region TTok ?_
 intro K hK
 simp -implicitDefEqProofs (disch := first | decide | assumption | omega) only [go_sem]
 refine op_box (cs := dgA X) rfl ?_
 intro h0_0 e0_0 hb0_0 z0_0
 have := Ext.size e0_0
 have eB := e0_0
 have hfhb0_0 : Fresh h.size [h.size] := Fresh.one _
 have hlhb0_0 := one_lt (show h.size < h0_0.size by omega)
 try simp -implicitDefEqProofs (disch := first | decide | assumption | omega) only [go_sem]
 refine op_box (cs := elA u) rfl ?_
 intro h0_1 e0_1 hb0_1 z0_1
 replace hb0_0 := BoxAt.ext hb0_0 e0_1
 have := Ext.size e0_1
 replace eB := Ext.trans eB e0_1
 have hfhb0_1 : Fresh h0_0.size [h0_0.size] := Fresh.one _
 have hlhb0_1 := one_lt (show h0_0.size < h0_1.size by omega)
 try simp -implicitDefEqProofs (disch := first | decide | assumption | omega) only [go_sem]
 refine op_box (cs := elA v) rfl ?_
 intro h0_2 e0_2 hb0_2 z0_2
 replace hb0_0 := BoxAt.ext hb0_0 e0_2
 replace hb0_1 := BoxAt.ext hb0_1 e0_2
 have := Ext.size e0_2
 replace eB := Ext.trans eB e0_2
 have hfhb0_2 : Fresh h0_1.size [h0_1.size] := Fresh.one _
 have hlhb0_2 := one_lt (show h0_1.size < h0_2.size by omega)
 try simp -implicitDefEqProofs (disch := first | decide | assumption | omega) only [go_sem]
 refine op_alloc (cs := elA z8) (by kernel_rfl) ?_
 intro h0_3 e0_3 hb0_3 z0_3
 replace hb0_0 := BoxAt.ext hb0_0 e0_3
 replace hb0_1 := BoxAt.ext hb0_1 e0_3
 replace hb0_2 := BoxAt.ext hb0_2 e0_3
 have := Ext.size e0_3
 replace eB := Ext.trans eB e0_3
 have hfhb0_3 : Fresh h0_2.size [h0_2.size] := Fresh.one _
 have hlhb0_3 := one_lt (show h0_2.size < h0_3.size by omega)
 try simp -implicitDefEqProofs (disch := first | decide | assumption | omega) only [go_sem]
 refine hK _ _ ?_
 clear hK K
 refine den_seq ?_
 refine den_region TTok ?_
 intro K hK
 simp -implicitDefEqProofs (disch := first | decide | assumption | omega) only [go_sem, build_el]
 refine op_alloc (cs := elA z8) (by kernel_rfl) ?_
 intro h1_1 e1_1 hb1_1 z1_1
 replace hb0_0 := BoxAt.ext hb0_0 e1_1
 replace hb0_1 := BoxAt.ext hb0_1 e1_1
 replace hb0_2 := BoxAt.ext hb0_2 e1_1
 replace hb0_3 := BoxAt.ext hb0_3 e1_1
 have := Ext.size e1_1
 replace eB := Ext.trans eB e1_1
 have hfhb1_1 : Fresh h0_3.size [h0_3.size] := Fresh.one _
 have hlhb1_1 := one_lt (show h0_3.size < h1_1.size by omega)
 try simp -implicitDefEqProofs (disch := first | decide | assumption | omega) only [go_sem]
 refine op_storeB (o := 0) (cs' := elA z8) st30 hb1_1 rfl rfl (elA_sz _) (by rw [elA_sz]; decide) elA_one elA_all ?_
 intro h1_2 hb1_1 c1_2
 replace hb0_0 := BoxAt.chgA hb0_0 c1_2 (apart_lt hlhb0_0 hfhb1_1 (by omega))
 replace hb0_1 := BoxAt.chgA hb0_1 c1_2 (apart_lt hlhb0_1 hfhb1_1 (by omega))
 replace hb0_2 := BoxAt.chgA hb0_2 c1_2 (apart_lt hlhb0_2 hfhb1_1 (by omega))
 replace hb0_3 := BoxAt.chgA hb0_3 c1_2 (apart_lt hlhb0_3 hfhb1_1 (by omega))
 have := c1_2.size
 replace eB := Ext.then eB c1_2 (ge_of hfhb1_1 (by omega))
 try simp -implicitDefEqProofs (disch := first | decide | assumption | omega) only [go_sem]
 refine hK _ _ ?_
 clear hK K
 refine den_seq ?_
 refine den_seq ?_
 refine den_region TTok ?_
 intro K hK
 simp -implicitDefEqProofs (disch := first | decide | assumption | omega) only [go_sem, BoxAt.elL hb0_1]
 refine hK _ _ ?_
 clear hK K
 refine den_block ?_
 refine den_sel [14, 3, 5, 6, 7, 13] ?_
 intro env_1
 simp only [go_sem]
 refine den_loopS (σ := Nat) (fun st_ => [(14, .int .i64 (st_ : Int))]) (fun st_ H => (st_ ≤ 8) ∧ (BoxAt H (h0_3.size) (elA (tmI X.p X.tab u v 8 st_)) 30) ∧ (Chg [h0_3.size] h1_2 H)) (fun st_ => 8 - st_) 0 ?_ ?_
 ·exact ⟨by first | (simp; done) | (dsimp only; omega) | (simp; omega), hb1_1, Chg.refl _ _⟩
 ·rintro i h4 ee3 ⟨hi0, hbx7, cL2⟩
  replace hb0_0 := BoxAt.chgA hb0_0 cL2 (apart_lt hlhb0_0 hfhb1_1 (by omega))
  replace hb0_1 := BoxAt.chgA hb0_1 cL2 (apart_lt hlhb0_1 hfhb1_1 (by omega))
  replace hb0_2 := BoxAt.chgA hb0_2 cL2 (apart_lt hlhb0_2 hfhb1_1 (by omega))
  replace hb0_3 := BoxAt.chgA hb0_3 cL2 (apart_lt hlhb0_3 hfhb1_1 (by omega))
  have := cL2.size
  replace eB := Ext.then eB cL2 (ge_of hfhb1_1 (by omega))
  have hfhbx7 := hfhb1_1
  have hlhbx7 := hlhb1_1
  simp only [List.cons_append, List.nil_append]
  refine den_seq ?_
  refine den_region TTok ?_
  intro K hK
  simp -implicitDefEqProofs (disch := first | decide | assumption | omega) only [go_sem]
  refine hK _ _ ?_
  clear hK K
  refine den_seq ?_
  refine den_cond rfl (fun c0 => ?_) (fun c0 => ?_)
  ·try simp only [decide_eq_true_eq] at c0
   refine den_skip ?_
   refine den_seq ?_
   refine den_block ?_
   refine den_seq ?_
   refine den_region TTok ?_
   intro K hK
   simp -implicitDefEqProofs (disch := first | decide | assumption | omega) only [go_sem, elA_at, ix30]
   refine hK _ _ ?_
   clear hK K
   refine den_seq ?_
   refine den_region TTok ?_
   intro K hK
   simp -implicitDefEqProofs (disch := first | decide | assumption | omega) only [go_sem, BoxAt.elL hb0_2]
   refine hK _ _ ?_
   clear hK K
   refine den_block ?_
   refine den_sel [19, 3, 5, 6, 7, 8, 9, 13, 14, 18] ?_
   intro env_5
   simp only [go_sem]
   refine den_loopS (σ := Nat) (fun st_ => [(19, .int .i64 (st_ : Int))]) (fun st_ H => (st_ ≤ 8) ∧ (BoxAt H (h0_3.size) (elA (tmJ X.p X.tab u v i (tmI X.p X.tab u v 8 i) st_)) 30) ∧ (Chg [h0_3.size] h4 H)) (fun st_ => 8 - st_) 0 ?_ ?_
   ·exact ⟨by first | (simp; done) | (dsimp only; omega) | (simp; omega), hbx7, Chg.refl _ _⟩
   ·rintro j h8 ee7 ⟨hi0, hbx7, cL6⟩
    replace hb0_0 := BoxAt.chgA hb0_0 cL6 (apart_lt hlhb0_0 hfhbx7 (by omega))
    replace hb0_2 := BoxAt.chgA hb0_2 cL6 (apart_lt hlhb0_2 hfhbx7 (by omega))
    replace hb0_3 := BoxAt.chgA hb0_3 cL6 (apart_lt hlhb0_3 hfhbx7 (by omega))
    have := cL6.size
    replace eB := Ext.then eB cL6 (ge_of hfhbx7 (by omega))
    replace cL2 := Chg.step cL2 cL6 Sub.refl
    have hfhbx7 := hfhbx7
    have hlhbx7 := hlhbx7
    simp only [List.cons_append, List.nil_append]
    refine den_seq ?_
    refine den_region TTok ?_
    intro K hK
    simp -implicitDefEqProofs (disch := first | decide | assumption | omega) only [go_sem]
    refine hK _ _ ?_
    clear hK K
    refine den_seq ?_
    refine den_cond rfl (fun c1 => ?_) (fun c1 => ?_)
    ·try simp only [decide_eq_true_eq] at c1
     refine den_skip ?_
     refine den_seq ?_
     refine den_block ?_
     refine den_seq ?_
     refine den_region TTok ?_
     intro K hK
     simp -implicitDefEqProofs (disch := first | decide | assumption | omega) only [go_sem, elA_at, ix30]
     refine hK _ _ ?_
     clear hK K
     refine den_seq ?_
     have hui := hu i
     have hvj := hv j
     refine den_mergeH [(28, .bool ((((u i) != (0 : Int)) && ((v j) != (0 : Int)))))] [3, 5, 6, 7, 8, 9, 10, 11, 13, 14, 18, 19] ?_ ?_
      -- a way
     ·refine den_region TTok ?_
      intro K hK
      simp -implicitDefEqProofs (disch := first | decide | assumption | (simp (disch := decide) only [gvA, eq_self, if_true, if_false, Bool.false_eq_true]; done) | omega) only [go_sem]
      refine opsP_T (by simp (disch := decide) only [slotOf_zero, slotOf_succ, Option.map_some, puts_same]; rfl) (fun g9 => ?_) (fun g9 => ?_)
      ·try simp -implicitDefEqProofs (disch := first | decide | assumption | (simp (disch := decide) only [gvA, eq_self, if_true, if_false, Bool.false_eq_true, g9]; done) | omega) only [go_sem, g9, eq_self, if_true]
       refine hK _ _ ?_
       clear hK K
       refine den_stop ?_
       refine ⟨?_, rfl⟩
       first | (simp (disch := decide) only [go_sem, g9, eq_self, Bool.true_and]; done) | simp [HasL, sel, puts_at, g9]
      ·try simp -implicitDefEqProofs (disch := first | decide | assumption | (simp (disch := decide) only [gvA, eq_self, if_true, if_false, Bool.false_eq_true, g9]; done) | omega) only [go_sem, g9, if_false, Bool.false_eq_true]
       refine hK _ _ ?_
       clear hK K
       refine den_stop ?_
       refine ⟨?_, rfl⟩
       first | (simp (disch := decide) only [go_sem, g9, eq_self, Bool.false_and]; done) | simp [HasL, sel, puts_at, g9]
     intro en10
     simp (disch := decide) only [go_sem]
     refine den_cond rfl (fun c2 => ?_) (fun c2 => ?_)
     ·try simp only [bne_iff_ne, ne_eq, Bool.and_eq_true] at c2
      have hmul := by_mul hu hv i j
      refine den_draw TTok mixed [14] [(0, true), (1, true), (2, true), (3, true), (4, true), (5, true), (6, true), (7, true), (8, true), (9, true), (10, true), (11, true), (12, true), (13, false), (14, false)] (by kernel_rfl) ?_
      intro K hK
      simp -implicitDefEqProofs (disch := first | decide | assumption | omega) only [go_sem, fa34_5, ia32, ia31, BoxAt.dgL hb0_0, BoxAt.dgTabL hb0_0, BoxAt.elL hbx7, wrap_id, cv_u8, Nat.zero_add]
      refine CallA.mono (iPls_ok  X (tmJ X.p X.tab u v i (tmI X.p X.tab u v 8 i) j) ((X.tab i) j) ((u i) * (v j)) _  (by omega) (by first | assumption | exact e8_by _ | exact By.z8 | exact hBd _ | exact hBt _ _ | exact tmJ_by (by omega) (tmI_by (by omega) _) _ | exact timesP_by (by omega) | exact dfI_by (by omega) _ | exact plusN_by (by omega) (timesP_by (by omega)) | exact dfI_by (by omega) 8) (by first | assumption | exact e8_by _ | exact By.z8 | exact hBd _ | exact hBt _ _ | exact tmJ_by (by omega) (tmI_by (by omega) _) _ | exact timesP_by (by omega) | exact dfI_by (by omega) _ | exact plusN_by (by omega) (timesP_by (by omega)) | exact dfI_by (by omega) 8) (by omega)) ?_
      intro v_ h9_13
      rintro ⟨rfl, e9_13⟩
      replace hb0_0 := BoxAt.ext hb0_0 e9_13
      replace hb0_2 := BoxAt.ext hb0_2 e9_13
      replace hb0_3 := BoxAt.ext hb0_3 e9_13
      replace hbx7 := BoxAt.ext hbx7 e9_13
      have := Ext.size e9_13
      replace eB := Ext.trans eB e9_13
      replace cL2 := Chg.stepE cL2 e9_13
      replace cL6 := Chg.stepE cL6 e9_13
      refine plK_pres (Ext.pres e9_13) ?_
      try simp -implicitDefEqProofs (disch := first | decide | assumption | omega) only [go_sem]
      refine op_storeB (o := 0) (cs' := elA (plusN X.p (tmJ X.p X.tab u v i (tmI X.p X.tab u v 8 i) j) ((X.tab i) j) ((u i) * (v j)) 8)) st30 hbx7 rfl rfl (elA_sz _) (by rw [elA_sz]; decide) elA_one elA_all ?_
      intro h9_14 hbx7 c9_14
      replace hb0_0 := BoxAt.chgA hb0_0 c9_14 (apart_lt hlhb0_0 hfhbx7 (by omega))
      replace hb0_2 := BoxAt.chgA hb0_2 c9_14 (apart_lt hlhb0_2 hfhbx7 (by omega))
      replace hb0_3 := BoxAt.chgA hb0_3 c9_14 (apart_lt hlhb0_3 hfhbx7 (by omega))
      have := c9_14.size
      replace eB := Ext.then eB c9_14 (ge_of hfhbx7 (by omega))
      replace cL2 := Chg.step cL2 c9_14 Sub.refl
      replace cL6 := Chg.step cL6 c9_14 Sub.refl
      try simp (disch := decide) only [outv_none]
      refine plK_last (by decide) ?_
      try simp -implicitDefEqProofs (disch := first | decide | assumption | omega) only [go_sem]
      refine hK _ _ ?_
      clear hK K
      refine den_blk ?_
      refine den_region TTok ?_
      intro K hK
      simp -implicitDefEqProofs (disch := first | decide | assumption | omega) only [go_sem, wrap_id]
      refine hK _ _ ?_
      clear hK K
      refine den_stop ?_
      first | rw [tmJ_yes c2] at hbx7 | rw [tmJ_no c2] at hbx7
      exact ⟨j + 1, by simp [puts_at], ⟨by first | omega | (dsimp only; omega), hbx7, cL6⟩, by first | omega | (dsimp only; omega)⟩
     ·refine den_skip ?_
      refine den_blk ?_
      refine den_region TTok ?_
      intro K hK
      simp -implicitDefEqProofs (disch := first | decide | assumption | omega) only [go_sem, wrap_id]
      refine hK _ _ ?_
      clear hK K
      refine den_stop ?_
      first | rw [tmJ_yes c2] at hbx7 | rw [tmJ_no c2] at hbx7
      exact ⟨j + 1, by simp [puts_at], ⟨by first | omega | (dsimp only; omega), hbx7, cL6⟩, by first | omega | (dsimp only; omega)⟩
    ·try simp only [decide_eq_false_iff_not] at c1
     refine den_exit ?_
     refine denX_code ?_
     refine denX_stop ?_
     refine denX_hit ?_
     refine den_blk ?_
     refine den_region TTok ?_
     intro K hK
     simp -implicitDefEqProofs (disch := first | decide | assumption | omega) only [go_sem, wrap_id]
     refine hK _ _ ?_
     clear hK K
     refine den_stop ?_
     rw [show j = 8 by omega] at hbx7
     exact ⟨i + 1, by simp [puts_at], ⟨by first | omega | (dsimp only; omega), hbx7, cL2⟩, by first | omega | (dsimp only; omega)⟩
  ·try simp only [decide_eq_false_iff_not] at c0
   refine den_exit ?_
   refine denX_code ?_
   refine denX_stop ?_
   refine denX_hit ?_
   refine den_seq ?_
   refine den_region TTok ?_
   intro K hK
   simp -implicitDefEqProofs (disch := first | decide | assumption | omega) only [go_sem, BoxAt.elL hbx7]
   refine op_storeB (o := 0) (cs' := elA (tmI X.p X.tab u v 8 i)) st30 hb0_3 rfl rfl (elA_sz _) (by rw [elA_sz]; decide) elA_one elA_all ?_
   intro h12_1 hb0_3 c12_1
   replace hbx7 := BoxAt.chgA hbx7 c12_1 (apart_gt hfhbx7 hlhb0_3 (by omega))
   have := c12_1.size
   replace eB := Ext.then eB c12_1 (ge_of hfhb0_3 (by omega))
   try simp -implicitDefEqProofs (disch := first | decide | assumption | omega) only [go_sem]
   refine hK _ _ ?_
   clear hK K
   refine den_ret ?_
   simp -implicitDefEqProofs (disch := first | decide | assumption | omega) only [go_sem, BoxAt.elL hb0_3, resP_c1]
   rw [show i = 8 by omega]
   exact ⟨by first | rfl | trivial, eB⟩

set_option maxRecDepth 100000 in
set_option maxHeartbeats 4000000 in
theorem iDif_ok (X : Dg) (u : Nat → Int) (h : Heap)  (hp : 0 < X.p ∧ X.p ≤ 7) (hu : By u) (hBd : ∀ i, By (X.dif i)) : CallA Try.prog 53 #[.agg (dgA X), .agg (elA u)] h fun v' h' => v' = .agg (elA (dfI X.p X.dif u 8)) ∧ Ext h h' := by
 refine callA_intro TTok (args := [_, _]) Try.func53 (by kernel_rfl) rfl 25 rfl (by simp) [.cell 4 30] rfl ?_
 simp only [idxs, Nat.reduceAdd]
 refine den_seq ?_
 refine den_region TTok ?_
 intro K hK
 simp -implicitDefEqProofs (disch := first | decide | assumption | omega) only [go_sem]
 refine op_box (cs := dgA X) rfl ?_
 intro h0_0 e0_0 hb0_0 z0_0
 have := Ext.size e0_0
 have eB := e0_0
 have hfhb0_0 : Fresh h.size [h.size] := Fresh.one _
 have hlhb0_0 := one_lt (show h.size < h0_0.size by omega)
 try simp -implicitDefEqProofs (disch := first | decide | assumption | omega) only [go_sem]
 refine op_box (cs := elA u) rfl ?_
 intro h0_1 e0_1 hb0_1 z0_1
 replace hb0_0 := BoxAt.ext hb0_0 e0_1
 have := Ext.size e0_1
 replace eB := Ext.trans eB e0_1
 have hfhb0_1 : Fresh h0_0.size [h0_0.size] := Fresh.one _
 have hlhb0_1 := one_lt (show h0_0.size < h0_1.size by omega)
 try simp -implicitDefEqProofs (disch := first | decide | assumption | omega) only [go_sem]
 refine op_alloc (cs := elA z8) (by kernel_rfl) ?_
 intro h0_2 e0_2 hb0_2 z0_2
 replace hb0_0 := BoxAt.ext hb0_0 e0_2
 replace hb0_1 := BoxAt.ext hb0_1 e0_2
 have := Ext.size e0_2
 replace eB := Ext.trans eB e0_2
 have hfhb0_2 : Fresh h0_1.size [h0_1.size] := Fresh.one _
 have hlhb0_2 := one_lt (show h0_1.size < h0_2.size by omega)
 try simp -implicitDefEqProofs (disch := first | decide | assumption | omega) only [go_sem]
 refine hK _ _ ?_
 clear hK K
 refine den_seq ?_
 refine den_region TTok ?_
 intro K hK
 simp -implicitDefEqProofs (disch := first | decide | assumption | omega) only [go_sem, build_el]
 refine op_alloc (cs := elA z8) (by kernel_rfl) ?_
 intro h1_1 e1_1 hb1_1 z1_1
 replace hb0_0 := BoxAt.ext hb0_0 e1_1
 replace hb0_1 := BoxAt.ext hb0_1 e1_1
 replace hb0_2 := BoxAt.ext hb0_2 e1_1
 have := Ext.size e1_1
 replace eB := Ext.trans eB e1_1
 have hfhb1_1 : Fresh h0_2.size [h0_2.size] := Fresh.one _
 have hlhb1_1 := one_lt (show h0_2.size < h1_1.size by omega)
 try simp -implicitDefEqProofs (disch := first | decide | assumption | omega) only [go_sem]
 refine op_storeB (o := 0) (cs' := elA z8) st30 hb1_1 rfl rfl (elA_sz _) (by rw [elA_sz]; decide) elA_one elA_all ?_
 intro h1_2 hb1_1 c1_2
 replace hb0_0 := BoxAt.chgA hb0_0 c1_2 (apart_lt hlhb0_0 hfhb1_1 (by omega))
 replace hb0_1 := BoxAt.chgA hb0_1 c1_2 (apart_lt hlhb0_1 hfhb1_1 (by omega))
 replace hb0_2 := BoxAt.chgA hb0_2 c1_2 (apart_lt hlhb0_2 hfhb1_1 (by omega))
 have := c1_2.size
 replace eB := Ext.then eB c1_2 (ge_of hfhb1_1 (by omega))
 try simp -implicitDefEqProofs (disch := first | decide | assumption | omega) only [go_sem]
 refine hK _ _ ?_
 clear hK K
 refine den_seq ?_
 refine den_seq ?_
 refine den_region TTok ?_
 intro K hK
 simp -implicitDefEqProofs (disch := first | decide | assumption | omega) only [go_sem, BoxAt.elL hb0_1]
 refine hK _ _ ?_
 clear hK K
 refine den_block ?_
 refine den_sel [10, 2, 4, 5, 9] ?_
 intro env_1
 simp only [go_sem]
 refine den_loopS (σ := Nat) (fun st_ => [(10, .int .i64 (st_ : Int))]) (fun st_ H => (st_ ≤ 8) ∧ (BoxAt H (h0_2.size) (elA (dfI X.p X.dif u st_)) 30) ∧ (Chg [h0_2.size] h1_2 H)) (fun st_ => 8 - st_) 0 ?_ ?_
 ·exact ⟨by first | (simp; done) | (dsimp only; omega) | (simp; omega), hb1_1, Chg.refl _ _⟩
 ·rintro i h4 ee3 ⟨hi0, hbx5, cL2⟩
  replace hb0_0 := BoxAt.chgA hb0_0 cL2 (apart_lt hlhb0_0 hfhb1_1 (by omega))
  replace hb0_1 := BoxAt.chgA hb0_1 cL2 (apart_lt hlhb0_1 hfhb1_1 (by omega))
  replace hb0_2 := BoxAt.chgA hb0_2 cL2 (apart_lt hlhb0_2 hfhb1_1 (by omega))
  have := cL2.size
  replace eB := Ext.then eB cL2 (ge_of hfhb1_1 (by omega))
  have hfhbx5 := hfhb1_1
  have hlhbx5 := hlhb1_1
  simp only [List.cons_append, List.nil_append]
  refine den_seq ?_
  refine den_region TTok ?_
  intro K hK
  simp -implicitDefEqProofs (disch := first | decide | assumption | omega) only [go_sem]
  refine hK _ _ ?_
  clear hK K
  refine den_seq ?_
  refine den_cond rfl (fun c0 => ?_) (fun c0 => ?_)
  ·try simp only [decide_eq_true_eq] at c0
   refine den_skip ?_
   refine den_seq ?_
   refine den_block ?_
   refine den_seq ?_
   refine den_region TTok ?_
   intro K hK
   simp -implicitDefEqProofs (disch := first | decide | assumption | omega) only [go_sem, elA_at, ix30]
   refine hK _ _ ?_
   clear hK K
   have hui := hu i
   refine den_draw TTok mixed [9] [(0, true), (1, true), (2, true), (3, true), (4, true), (5, true), (6, true), (7, true), (8, false), (9, false)] (by kernel_rfl) ?_
   intro K hK
   simp -implicitDefEqProofs (disch := first | decide | assumption | omega) only [go_sem, fa34_4, ia31, BoxAt.dgL hb0_0, BoxAt.dgDifL hb0_0, BoxAt.elL hbx5, wrap_id, cv_u8, Nat.zero_add]
   refine CallA.mono (iPls_ok  X (dfI X.p X.dif u i) (X.dif i) (u i) _  (by omega) (by first | assumption | exact e8_by _ | exact By.z8 | exact hBd _ | exact hBt _ _ | exact tmJ_by (by omega) (tmI_by (by omega) _) _ | exact timesP_by (by omega) | exact dfI_by (by omega) _ | exact plusN_by (by omega) (timesP_by (by omega)) | exact dfI_by (by omega) 8) (by first | assumption | exact e8_by _ | exact By.z8 | exact hBd _ | exact hBt _ _ | exact tmJ_by (by omega) (tmI_by (by omega) _) _ | exact timesP_by (by omega) | exact dfI_by (by omega) _ | exact plusN_by (by omega) (timesP_by (by omega)) | exact dfI_by (by omega) 8) (by omega)) ?_
   intro v_ h5_8
   rintro ⟨rfl, e5_8⟩
   replace hb0_0 := BoxAt.ext hb0_0 e5_8
   replace hb0_2 := BoxAt.ext hb0_2 e5_8
   replace hbx5 := BoxAt.ext hbx5 e5_8
   have := Ext.size e5_8
   replace eB := Ext.trans eB e5_8
   replace cL2 := Chg.stepE cL2 e5_8
   refine plK_pres (Ext.pres e5_8) ?_
   try simp -implicitDefEqProofs (disch := first | decide | assumption | omega) only [go_sem]
   refine op_storeB (o := 0) (cs' := elA (plusN X.p (dfI X.p X.dif u i) (X.dif i) (u i) 8)) st30 hbx5 rfl rfl (elA_sz _) (by rw [elA_sz]; decide) elA_one elA_all ?_
   intro h5_9 hbx5 c5_9
   replace hb0_0 := BoxAt.chgA hb0_0 c5_9 (apart_lt hlhb0_0 hfhbx5 (by omega))
   replace hb0_2 := BoxAt.chgA hb0_2 c5_9 (apart_lt hlhb0_2 hfhbx5 (by omega))
   have := c5_9.size
   replace eB := Ext.then eB c5_9 (ge_of hfhbx5 (by omega))
   replace cL2 := Chg.step cL2 c5_9 Sub.refl
   try simp (disch := decide) only [outv_none]
   refine plK_last (by decide) ?_
   try simp -implicitDefEqProofs (disch := first | decide | assumption | omega) only [go_sem]
   refine hK _ _ ?_
   clear hK K
   refine den_blk ?_
   refine den_region TTok ?_
   intro K hK
   simp -implicitDefEqProofs (disch := first | decide | assumption | omega) only [go_sem, wrap_id]
   refine hK _ _ ?_
   clear hK K
   refine den_stop ?_
   rw [dfI_step] at hbx5
   exact ⟨i + 1, by simp [HasL, puts_at], ⟨by first | omega | (dsimp only; omega), hbx5, cL2⟩, by first | omega | (dsimp only; omega)⟩
  ·try simp only [decide_eq_false_iff_not] at c0
   refine den_exit ?_
   refine denX_code ?_
   refine denX_stop ?_
   refine denX_hit ?_
   refine den_seq ?_
   refine den_region TTok ?_
   intro K hK
   simp -implicitDefEqProofs (disch := first | decide | assumption | omega) only [go_sem, BoxAt.elL hbx5]
   refine op_storeB (o := 0) (cs' := elA (dfI X.p X.dif u i)) st30 hb0_2 rfl rfl (elA_sz _) (by rw [elA_sz]; decide) elA_one elA_all ?_
   intro h7_1 hb0_2 c7_1
   replace hbx5 := BoxAt.chgA hbx5 c7_1 (apart_gt hfhbx5 hlhb0_2 (by omega))
   have := c7_1.size
   replace eB := Ext.then eB c7_1 (ge_of hfhb0_2 (by omega))
   try simp -implicitDefEqProofs (disch := first | decide | assumption | omega) only [go_sem]
   refine hK _ _ ?_
   clear hK K
   refine den_ret ?_
   simp -implicitDefEqProofs (disch := first | decide | assumption | omega) only [go_sem, BoxAt.elL hb0_2, resP_c1]
   rw [show i = 8 by omega]
   exact ⟨by first | rfl | trivial, eB⟩

set_option maxRecDepth 100000 in
theorem iLies_ok (X : Dg) (u : Nat → Int) (d : Int) (l : Int) (h : Heap)   : CallA Try.prog 88 #[.agg (dgA X), .agg (elA u), .int .i64 d, .int .i64 l] h fun v' h' => v' = .bool (liesB X u d l 8) ∧ Ext h h' := by
 refine callA_intro TTok (args := [_, _, _, _]) Try.func88 (by kernel_rfl) rfl 35 rfl (by simp) [.tmp 8] rfl ?_
 simp only [idxs, Nat.reduceAdd]
 refine den_seq ?_
 refine den_region TTok ?_
 intro K hK
 simp -implicitDefEqProofs (disch := first | decide | assumption | omega) only [go_sem]
 refine op_box (cs := dgA X) rfl ?_
 intro h0_0 e0_0 hb0_0 z0_0
 have := Ext.size e0_0
 have eB := e0_0
 have hfhb0_0 : Fresh h.size [h.size] := Fresh.one _
 have hlhb0_0 := one_lt (show h.size < h0_0.size by omega)
 try simp -implicitDefEqProofs (disch := first | decide | assumption | omega) only [go_sem]
 refine op_box (cs := elA u) rfl ?_
 intro h0_1 e0_1 hb0_1 z0_1
 replace hb0_0 := BoxAt.ext hb0_0 e0_1
 have := Ext.size e0_1
 replace eB := Ext.trans eB e0_1
 have hfhb0_1 : Fresh h0_0.size [h0_0.size] := Fresh.one _
 have hlhb0_1 := one_lt (show h0_0.size < h0_1.size by omega)
 try simp -implicitDefEqProofs (disch := first | decide | assumption | omega) only [go_sem]
 refine hK _ _ ?_
 clear hK K
 refine den_seq ?_
 refine den_seq ?_
 refine den_region TTok ?_
 intro K hK
 simp -implicitDefEqProofs (disch := first | decide | assumption | omega) only [go_sem, BoxAt.elL hb0_1]
 refine hK _ _ ?_
 clear hK K
 refine den_block ?_
 refine den_sel [12, 2, 3, 4, 11] ?_
 intro env_1
 simp only [go_sem]
 refine den_loopS (σ := Nat) (fun st_ => [(12, .int .i64 (st_ : Int))]) (fun st_ H => (st_ ≤ 8) ∧ (∀ a, a < st_ → ¬ u a = 0 → X.deg a = d ∧ X.lev a ≤ l) ∧ (Ext h0_1 H)) (fun st_ => 8 - st_) 0 ?_ ?_
 ·exact ⟨by omega, fun a h => by omega, Ext.refl _⟩
 ·rintro i h4 ee3 ⟨hi, hz, cL2⟩
  replace hb0_0 := BoxAt.ext hb0_0 cL2
  replace hb0_1 := BoxAt.ext hb0_1 cL2
  have := Ext.size cL2
  replace eB := Ext.trans eB cL2
  simp only [List.cons_append, List.nil_append]
  refine den_seq ?_
  refine den_region TTok ?_
  intro K hK
  simp -implicitDefEqProofs (disch := first | decide | assumption | omega) only [go_sem]
  refine hK _ _ ?_
  clear hK K
  refine den_seq ?_
  refine den_cond rfl (fun c0 => ?_) (fun c0 => ?_)
  ·try simp only [decide_eq_true_eq] at c0
   refine den_skip ?_
   refine den_seq ?_
   refine den_block ?_
   refine den_seq ?_
   refine den_region TTok ?_
   intro K hK
   simp -implicitDefEqProofs (disch := first | decide | assumption | omega) only [go_sem, elA_at, ix30]
   refine hK _ _ ?_
   clear hK K
   refine den_seq ?_
   refine den_mergeH [(33, .bool ((((u i) != (0 : Int)) && (((X.deg i) != d) || (decide (l < (X.lev i)))))))] [2, 3, 4, 11, 12] ?_ ?_
    -- a way
   ·refine den_region TTok ?_
    intro K hK
    simp -implicitDefEqProofs (disch := first | decide | assumption | (simp (disch := decide) only [gvA, eq_self, if_true, if_false, Bool.false_eq_true]; done) | omega) only [go_sem]
    refine opsP_T (by simp (disch := decide) only [slotOf_zero, slotOf_succ, Option.map_some, puts_same]; rfl) (fun g5 => ?_) (fun g5 => ?_)
    ·try simp -implicitDefEqProofs (disch := first | decide | assumption | (simp (disch := decide) only [gvA, eq_self, if_true, if_false, Bool.false_eq_true, g5]; done) | omega) only [go_sem, fa34_2, ia22, ld2, BoxAt.dgDeg hb0_0, Nat.zero_add, g5]
     refine opsP_F (by simp (disch := decide) only [slotOf_zero, slotOf_succ, Option.map_some, puts_same]; rfl) (fun g6 => ?_) (fun g6 => ?_)
     ·try simp -implicitDefEqProofs (disch := first | decide | assumption | (simp (disch := decide) only [gvA, eq_self, if_true, if_false, Bool.false_eq_true, g5, g6]; done) | omega) only [go_sem, fa34_3, ia22, ld2, BoxAt.dgLev hb0_0, Nat.zero_add, g6, eq_self, if_true, if_false, Bool.false_eq_true]
      refine hK _ _ ?_
      clear hK K
      refine den_stop ?_
      refine ⟨?_, rfl⟩
      first | (simp (disch := decide) only [go_sem, g5, g6, eq_self, Bool.true_and, Bool.false_or]; done) | simp [HasL, sel, puts_at, g5, g6]
     ·try simp -implicitDefEqProofs (disch := first | decide | assumption | (simp (disch := decide) only [gvA, eq_self, if_true, if_false, Bool.false_eq_true, g5, g6]; done) | omega) only [go_sem, g6, eq_self, if_true]
      refine hK _ _ ?_
      clear hK K
      refine den_stop ?_
      refine ⟨?_, rfl⟩
      first | (simp (disch := decide) only [go_sem, g5, g6, eq_self, Bool.and_true, Bool.true_or]; done) | simp [HasL, sel, puts_at, g5, g6]
    ·try simp -implicitDefEqProofs (disch := first | decide | assumption | (simp (disch := decide) only [gvA, eq_self, if_true, if_false, Bool.false_eq_true, g5]; done) | omega) only [go_sem, g5, if_false, Bool.false_eq_true]
     refine hK _ _ ?_
     clear hK K
     refine den_stop ?_
     refine ⟨?_, rfl⟩
     first | (simp (disch := decide) only [go_sem, g5, eq_self, Bool.false_and]; done) | simp [HasL, sel, puts_at, g5]
   intro en7
   simp (disch := decide) only [go_sem]
   refine den_cond rfl (fun c1 => ?_) (fun c1 => ?_)
   ·try simp only [decide_eq_true_eq, bne_iff_ne, ne_eq, Bool.and_eq_true, Bool.or_eq_true] at c1
    refine den_seq ?_
    refine den_region TTok ?_
    intro K hK
    simp -implicitDefEqProofs (disch := first | decide | assumption | omega) only [go_sem]
    refine hK _ _ ?_
    clear hK K
    refine den_ret ?_
    simp (disch := decide) only [resP_1, puts_same]
    exact ⟨vbool (liesB_n (fun hh => by have h1 := hh i (by omega); have h2 := c1; omega)), eB⟩
   ·try simp only [decide_eq_false_iff_not, bne_eq_false_iff_eq, Bool.or_eq_false_iff, Bool.and_eq_false_iff] at c1
    refine den_skip ?_
    refine den_blk ?_
    refine den_region TTok ?_
    intro K hK
    simp -implicitDefEqProofs (disch := first | decide | assumption | omega) only [go_sem, wrap_id]
    refine hK _ _ ?_
    clear hK K
    refine den_stop ?_
    exact ⟨i + 1, by simp [puts_at], ⟨by first | omega | (dsimp only; omega), fun a ha h0 => by
 by_cases hai : a < i
 ·exact hz a hai h0
 ·have e : a = i := by omega
  subst e; have h1 := c1; omega, cL2⟩, by first | omega | (dsimp only; omega)⟩
  ·try simp only [decide_eq_false_iff_not] at c0
   refine den_exit ?_
   refine denX_code ?_
   refine denX_stop ?_
   refine denX_hit ?_
   refine den_seq ?_
   refine den_region TTok ?_
   intro K hK
   simp -implicitDefEqProofs (disch := first | decide | assumption | omega) only [go_sem]
   refine hK _ _ ?_
   clear hK K
   refine den_ret ?_
   simp (disch := decide) only [resP_1, puts_same]
   exact ⟨vbool (liesB_y (fun a ha => hz a (by omega))), eB⟩
end Go.Proofs.Ytacajcjibhifmaa

namespace Go.Proofs.Ytacajcjibhifmaa
open Go
theorem kv_bnd {k y : Int} (hk : -3000 ≤ k ∧ k ≤ 3000) (hy : 0 ≤ y ∧ y ≤ 255) : -765000 ≤ k * y ∧ k * y ≤ 765000 := by
 have h1 := Int.mul_le_mul hk.2 hy.2 hy.1 (show (0 : Int) ≤ 3000 by omega)
 have h2 := Int.mul_le_mul (show -k ≤ 3000 by omega) hy.2 hy.1 (show (0 : Int) ≤ 3000 by omega)
 rw [Int.neg_mul] at h2
 omega
theorem by_mul7 {p : Int} {u v : Nat → Int} (hp : p ≤ 7) (hu : By u) (hv : By v) (hu7 : ∀ i, i < 8 → u i < p) (hv7 : ∀ i, i < 8 → v i < p) {i j : Nat} (hi : i < 8) (hj : j < 8) : 0 ≤ u i * v j ∧ u i * v j ≤ 36 := by
 have h1 := hu i
 have h2 := hv j
 have h5 := hu7 i hi
 have h6 := hv7 j hj
 have h3 := Int.mul_nonneg h1.1 h2.1
 have h4 := Int.mul_le_mul (show u i ≤ 6 by omega) (show v j ≤ 6 by omega) h2.1 (show (0 : Int) ≤ 6 by omega)
 omega

set_option maxRecDepth 100000 in
theorem sSm_ok (p : Int) (s : Int) (u : Nat → Int) (h : Heap)  (hu : By u) : CallA Try.prog 84 #[.int .i64 p, .int .i64 s, .agg (elA u)] h fun v' h' => v' = .bool (isElB p s u) ∧ Ext h h' := by
 refine callA_intro TTok (args := [_, _, _]) Try.func84 (by kernel_rfl) rfl 29 rfl (by simp) [.tmp 6] rfl ?_
 simp only [idxs, Nat.reduceAdd]
 refine den_seq ?_
 refine den_region TTok ?_
 intro K hK
 simp -implicitDefEqProofs (disch := first | decide | assumption | omega) only [go_sem]
 refine op_box (cs := elA u) rfl ?_
 intro h0_0 e0_0 hb0_0 z0_0
 have := Ext.size e0_0
 have eB := e0_0
 have hfhb0_0 : Fresh h.size [h.size] := Fresh.one _
 have hlhb0_0 := one_lt (show h.size < h0_0.size by omega)
 try simp -implicitDefEqProofs (disch := first | decide | assumption | omega) only [go_sem]
 refine hK _ _ ?_
 clear hK K
 refine den_seq ?_
 refine den_seq ?_
 refine den_region TTok ?_
 intro K hK
 simp -implicitDefEqProofs (disch := first | decide | assumption | omega) only [go_sem]
 refine hK _ _ ?_
 clear hK K
 refine den_block ?_
 refine den_sel [7, 0, 1, 5] ?_
 intro env_1
 simp only [go_sem]
 refine den_loopS (σ := Nat) (fun st_ => [(7, .int .i64 (st_ : Int))]) (fun st_ H => (st_ ≤ 8) ∧ (∀ a, a < st_ → u a < p ∧ (s ≤ (a : Int) → u a = 0)) ∧ (Ext h0_0 H)) (fun st_ => 8 - st_) 0 ?_ ?_
 ·exact ⟨by omega, fun a h => by omega, Ext.refl _⟩
 ·rintro i h4 ee3 ⟨hi, hz, cL2⟩
  replace hb0_0 := BoxAt.ext hb0_0 cL2
  have := Ext.size cL2
  replace eB := Ext.trans eB cL2
  simp only [List.cons_append, List.nil_append]
  have hui := hu i
  refine den_seq ?_
  refine den_seq ?_
  refine den_region TTok ?_
  intro K hK
  simp -implicitDefEqProofs (disch := first | decide | assumption | omega) only [go_sem]
  refine hK _ _ ?_
  clear hK K
  refine den_cond rfl (fun c0 => ?_) (fun c0 => ?_)
  ·try simp only [decide_eq_true_eq] at c0
   refine den_skip ?_
   refine den_seq ?_
   refine den_block ?_
   refine den_seq ?_
   refine den_mergeH [(28, .bool (((decide (p ≤ (u i))) || ((decide (s ≤ (i : Int))) && ((u i) != (0 : Int))))))] [0, 1, 5, 7] ?_ ?_
    -- a way
   ·refine den_region TTok ?_
    intro K hK
    simp -implicitDefEqProofs (disch := first | decide | assumption | (simp (disch := decide) only [gvA, eq_self, if_true, if_false, Bool.false_eq_true]; done) | omega) only [go_sem, ia30, ld5, BoxAt.elC hb0_0, wrap_id, cv_u8, Nat.zero_add]
    refine opsP_F (by simp (disch := decide) only [slotOf_zero, slotOf_succ, Option.map_some, puts_same]; rfl) (fun g5 => ?_) (fun g5 => ?_)
    ·try simp -implicitDefEqProofs (disch := first | decide | assumption | (simp (disch := decide) only [gvA, eq_self, if_true, if_false, Bool.false_eq_true, g5]; done) | omega) only [go_sem, g5]
     refine opsP_T (by simp (disch := decide) only [slotOf_zero, slotOf_succ, Option.map_some, puts_same]; rfl) (fun g6 => ?_) (fun g6 => ?_)
     ·try simp -implicitDefEqProofs (disch := first | decide | assumption | (simp (disch := decide) only [gvA, eq_self, if_true, if_false, Bool.false_eq_true, g5, g6]; done) | omega) only [go_sem, ia30, ld5, BoxAt.elC hb0_0, Nat.zero_add, g6, eq_self, if_true, if_false, Bool.false_eq_true]
      refine hK _ _ ?_
      clear hK K
      refine den_stop ?_
      refine ⟨?_, rfl⟩
      first | (simp (disch := decide) only [go_sem, g5, g6, eq_self, Bool.true_and, Bool.false_or]; done) | simp [HasL, sel, puts_at, g5, g6]
     ·try simp -implicitDefEqProofs (disch := first | decide | assumption | (simp (disch := decide) only [gvA, eq_self, if_true, if_false, Bool.false_eq_true, g5, g6]; done) | omega) only [go_sem, g6, if_false, Bool.false_eq_true]
      refine hK _ _ ?_
      clear hK K
      refine den_stop ?_
      refine ⟨?_, rfl⟩
      first | (simp (disch := decide) only [go_sem, g5, g6, eq_self, Bool.false_and, Bool.or_false]; done) | simp [HasL, sel, puts_at, g5, g6]
    ·try simp -implicitDefEqProofs (disch := first | decide | assumption | (simp (disch := decide) only [gvA, eq_self, if_true, if_false, Bool.false_eq_true, g5]; done) | omega) only [go_sem, g5, eq_self, if_true]
     refine hK _ _ ?_
     clear hK K
     refine den_stop ?_
     refine ⟨?_, rfl⟩
     first | (simp (disch := decide) only [go_sem, g5, eq_self, Bool.true_or]; done) | simp [HasL, sel, puts_at, g5]
   intro en7
   simp (disch := decide) only [go_sem]
   refine den_cond rfl (fun c1 => ?_) (fun c1 => ?_)
   ·try simp only [decide_eq_true_eq, bne_iff_ne, ne_eq, Bool.and_eq_true, Bool.or_eq_true] at c1
    refine den_seq ?_
    refine den_region TTok ?_
    intro K hK
    simp -implicitDefEqProofs (disch := first | decide | assumption | omega) only [go_sem]
    refine hK _ _ ?_
    clear hK K
    refine den_ret ?_
    simp (disch := decide) only [resP_1, puts_same]
    exact ⟨vbool (isElB_n (fun hh => by have h1 := hh i (by omega); have h2 := c1; omega)), eB⟩
   ·try simp only [decide_eq_false_iff_not, bne_eq_false_iff_eq, Bool.or_eq_false_iff, Bool.and_eq_false_iff] at c1
    refine den_skip ?_
    refine den_blk ?_
    refine den_region TTok ?_
    intro K hK
    simp -implicitDefEqProofs (disch := first | decide | assumption | omega) only [go_sem, wrap_id]
    refine hK _ _ ?_
    clear hK K
    refine den_stop ?_
    exact ⟨i + 1, by simp [puts_at], ⟨by first | omega | (dsimp only; omega), fun a ha => by
 by_cases hai : a < i
 ·exact hz a hai
 ·rw [show a = i by omega]; have h1 := c1; exact ⟨by omega, fun h2 => by omega⟩, cL2⟩, by first | omega | (dsimp only; omega)⟩
  ·try simp only [decide_eq_false_iff_not] at c0
   refine den_exit ?_
   refine denX_code ?_
   refine denX_stop ?_
   refine denX_hit ?_
   refine den_seq ?_
   refine den_region TTok ?_
   intro K hK
   simp -implicitDefEqProofs (disch := first | decide | assumption | omega) only [go_sem]
   refine hK _ _ ?_
   clear hK K
   refine den_ret ?_
   simp (disch := decide) only [resP_1, puts_same]
   exact ⟨vbool (isElB_y (fun a ha => hz a (by omega))), eB⟩

set_option maxRecDepth 100000 in
theorem sUni_ok (n : Int) (h : Heap)  (hn : 0 ≤ n ∧ n < 8) : CallA Try.prog 70 #[.int .i64 n] h fun v' h' => v' = .agg (elA (e8 n.toNat)) ∧ Ext h h' := by
 refine callA_intro TTok (args := [_]) Try.func70 (by kernel_rfl) rfl 8 rfl (by simp) [.cell 2 30] rfl ?_
 simp only [idxs]
 refine den_seq ?_
 refine den_region TTok ?_
 intro K hK
 simp -implicitDefEqProofs (disch := first | decide | assumption | omega) only [go_sem]
 refine op_alloc (cs := elA z8) (by kernel_rfl) ?_
 intro h0_0 e0_0 hb0_0 z0_0
 have := Ext.size e0_0
 have eB := e0_0
 have hfhb0_0 : Fresh h.size [h.size] := Fresh.one _
 have hlhb0_0 := one_lt (show h.size < h0_0.size by omega)
 try simp -implicitDefEqProofs (disch := first | decide | assumption | omega) only [go_sem]
 refine hK _ _ ?_
 clear hK K
 refine den_seq ?_
 refine den_region TTok ?_
 intro K hK
 simp -implicitDefEqProofs (disch := first | decide | assumption | omega) only [go_sem, build_el]
 refine op_alloc (cs := elA z8) (by kernel_rfl) ?_
 intro h1_1 e1_1 hb1_1 z1_1
 replace hb0_0 := BoxAt.ext hb0_0 e1_1
 have := Ext.size e1_1
 replace eB := Ext.trans eB e1_1
 have hfhb1_1 : Fresh h0_0.size [h0_0.size] := Fresh.one _
 have hlhb1_1 := one_lt (show h0_0.size < h1_1.size by omega)
 try simp -implicitDefEqProofs (disch := first | decide | assumption | omega) only [go_sem]
 refine op_storeB (o := 0) (cs' := elA z8) st30 hb1_1 rfl rfl (elA_sz _) (by rw [elA_sz]; decide) elA_one elA_all ?_
 intro h1_2 hb1_1 c1_2
 replace hb0_0 := BoxAt.chgA hb0_0 c1_2 (apart_lt hlhb0_0 hfhb1_1 (by omega))
 have := c1_2.size
 replace eB := Ext.then eB c1_2 (ge_of hfhb1_1 (by omega))
 try simp -implicitDefEqProofs (disch := first | decide | assumption | omega) only [go_sem]
 refine hK _ _ ?_
 clear hK K
 refine den_seq ?_
 refine den_region TTok ?_
 intro K hK
 simp -implicitDefEqProofs (disch := first | decide | assumption | omega) only [go_sem, ia30, Nat.zero_add]
 refine op_storeB (o := (n).toNat) (vs := #[.int .u8 (1 : Int)]) (cs' := elA (upd z8 (n).toNat (1 : Int))) st5 hb1_1 rfl rfl rfl (by show _ + 1 ≤ 8; omega) u8_one (elA_upd (by omega)) ?_
 intro h2_2 hb1_1 c2_2
 replace hb0_0 := BoxAt.chgA hb0_0 c2_2 (apart_lt hlhb0_0 hfhb1_1 (by omega))
 have := c2_2.size
 replace eB := Ext.then eB c2_2 (ge_of hfhb1_1 (by omega))
 try simp -implicitDefEqProofs (disch := first | decide | assumption | omega) only [go_sem]
 refine hK _ _ ?_
 clear hK K
 refine den_seq ?_
 refine den_region TTok ?_
 intro K hK
 simp -implicitDefEqProofs (disch := first | decide | assumption | omega) only [go_sem, BoxAt.elL hb1_1]
 refine op_storeB (o := 0) (cs' := elA (upd z8 (n).toNat (1 : Int))) st30 hb0_0 rfl rfl (elA_sz _) (by rw [elA_sz]; decide) elA_one elA_all ?_
 intro h3_1 hb0_0 c3_1
 replace hb1_1 := BoxAt.chgA hb1_1 c3_1 (apart_gt hfhb1_1 hlhb0_0 (by omega))
 have := c3_1.size
 replace eB := Ext.then eB c3_1 (ge_of hfhb0_0 (by omega))
 try simp -implicitDefEqProofs (disch := first | decide | assumption | omega) only [go_sem]
 refine hK _ _ ?_
 clear hK K
 refine den_ret ?_
 simp -implicitDefEqProofs (disch := first | decide | assumption | omega) only [go_sem, BoxAt.elL hb0_0, resP_c1]
 exact ⟨by first | rfl | trivial, eB⟩

set_option maxRecDepth 100000 in
set_option maxHeartbeats 4000000 in
theorem sAdd8_ok (p : Int) (u : Nat → Int) (v : Nat → Int) (k : Int) (h : Heap)  (hp : 0 < p ∧ p ≤ 7) (hu : By u) (hv : By v) (hk : -3000 ≤ k ∧ k ≤ 3000) : CallA Try.prog 68 #[.int .i64 p, .agg (elA u), .agg (elA v), .int .i64 k] h fun v' h' => v' = .agg (elA (plusN p u v k 8)) ∧ Ext h h' := by
 refine callA_intro TTok (args := [_, _, _, _]) Try.func68 (by kernel_rfl) rfl 31 rfl (by simp) [.cell 8 30] rfl ?_
 simp only [idxs, Nat.reduceAdd]
 refine den_seq ?_
 refine den_region TTok ?_
 intro K hK
 simp -implicitDefEqProofs (disch := first | decide | assumption | omega) only [go_sem]
 refine op_box (cs := elA u) rfl ?_
 intro h0_0 e0_0 hb0_0 z0_0
 have := Ext.size e0_0
 have eB := e0_0
 have hfhb0_0 : Fresh h.size [h.size] := Fresh.one _
 have hlhb0_0 := one_lt (show h.size < h0_0.size by omega)
 try simp -implicitDefEqProofs (disch := first | decide | assumption | omega) only [go_sem]
 refine op_box (cs := elA v) rfl ?_
 intro h0_1 e0_1 hb0_1 z0_1
 replace hb0_0 := BoxAt.ext hb0_0 e0_1
 have := Ext.size e0_1
 replace eB := Ext.trans eB e0_1
 have hfhb0_1 : Fresh h0_0.size [h0_0.size] := Fresh.one _
 have hlhb0_1 := one_lt (show h0_0.size < h0_1.size by omega)
 try simp -implicitDefEqProofs (disch := first | decide | assumption | omega) only [go_sem]
 refine op_alloc (cs := elA z8) (by kernel_rfl) ?_
 intro h0_2 e0_2 hb0_2 z0_2
 replace hb0_0 := BoxAt.ext hb0_0 e0_2
 replace hb0_1 := BoxAt.ext hb0_1 e0_2
 have := Ext.size e0_2
 replace eB := Ext.trans eB e0_2
 have hfhb0_2 : Fresh h0_1.size [h0_1.size] := Fresh.one _
 have hlhb0_2 := one_lt (show h0_1.size < h0_2.size by omega)
 try simp -implicitDefEqProofs (disch := first | decide | assumption | omega) only [go_sem]
 refine hK _ _ ?_
 clear hK K
 refine den_seq ?_
 refine den_seq ?_
 refine den_region TTok ?_
 intro K hK
 simp -implicitDefEqProofs (disch := first | decide | assumption | omega) only [go_sem]
 refine hK _ _ ?_
 clear hK K
 refine den_block ?_
 refine den_sel [9, 0, 3, 5, 6, 8] ?_
 intro env_1
 simp only [go_sem]
 refine den_loopS (σ := Nat) (fun st_ => [(9, .int .i64 (st_ : Int))]) (fun st_ H => (st_ ≤ 8) ∧ (BoxAt H (h.size) (elA (plusN p u v k st_)) 30) ∧ (Chg [h.size] h0_2 H)) (fun st_ => 8 - st_) 0 ?_ ?_
 ·exact ⟨by first | (simp; done) | (dsimp only; omega) | (simp; omega), by rw [plusN_0]; exact hb0_0, Chg.refl _ _⟩
 ·rintro i h4 ee3 ⟨hi0, hbx5, cL2⟩
  replace hb0_1 := BoxAt.chgA hb0_1 cL2 (apart_gt hfhb0_1 hlhb0_0 (by omega))
  replace hb0_2 := BoxAt.chgA hb0_2 cL2 (apart_gt hfhb0_2 hlhb0_0 (by omega))
  have := cL2.size
  replace eB := Ext.then eB cL2 (ge_of hfhb0_0 (by omega))
  have hfhbx5 := hfhb0_0
  have hlhbx5 := hlhb0_0
  simp only [List.cons_append, List.nil_append]
  refine den_seq ?_
  refine den_seq ?_
  refine den_region TTok ?_
  intro K hK
  simp -implicitDefEqProofs (disch := first | decide | assumption | omega) only [go_sem]
  refine hK _ _ ?_
  clear hK K
  refine den_cond rfl (fun c0 => ?_) (fun c0 => ?_)
  ·try simp only [decide_eq_true_eq] at c0
   refine den_skip ?_
   refine den_seq ?_
   refine den_block ?_
   have hui := hu i
   have hvi := hv i
   have hpi := plusN_at p u v k i
   have hkb := kv_bnd hk hvi
   have hm0 := Int.emod_nonneg (u i + k * v i) (show p ≠ 0 by omega)
   have hm1 := Int.emod_lt_of_pos (u i + k * v i) hp.1
   refine den_draw TTok mixed [16] [(0, true), (1, true), (2, true), (3, true), (4, true), (5, true), (6, true), (7, true), (8, true), (9, true), (10, true), (11, true), (12, true), (13, false), (14, true), (15, true), (16, false)] (by kernel_rfl) ?_
   intro K hK
   simp -implicitDefEqProofs (disch := first | decide | assumption | omega) only [go_sem, ia30, ld5, BoxAt.elC hb0_1, BoxAt.elC hbx5, wrap_id, cv_u8, Nat.zero_add, hpi]
   refine CallA.mono (sMod_ok  p ((u i) + (k * (v i))) _  (by omega) (by omega)) ?_
   intro v_ h4_13
   rintro ⟨rfl, e4_13⟩
   replace hb0_1 := BoxAt.ext hb0_1 e4_13
   replace hb0_2 := BoxAt.ext hb0_2 e4_13
   replace hbx5 := BoxAt.ext hbx5 e4_13
   have := Ext.size e4_13
   replace eB := Ext.trans eB e4_13
   replace cL2 := Chg.stepE cL2 e4_13
   refine plK_pres (Ext.pres e4_13) ?_
   try simp -implicitDefEqProofs (disch := first | decide | assumption | omega) only [go_sem, ia30, cv_i64, Nat.zero_add, wrap_u8]
   refine op_storeB (o := i) (vs := #[.int .u8 (((u i) + (k * (v i))) % p)]) (cs' := elA (upd (plusN p u v k i) i (((u i) + (k * (v i))) % p))) st5 hbx5 rfl rfl rfl (by show _ + 1 ≤ 8; omega) u8_one (elA_upd (by omega)) ?_
   intro h4_16 hbx5 c4_16
   replace hb0_1 := BoxAt.chgA hb0_1 c4_16 (apart_gt hfhb0_1 hlhbx5 (by omega))
   replace hb0_2 := BoxAt.chgA hb0_2 c4_16 (apart_gt hfhb0_2 hlhbx5 (by omega))
   have := c4_16.size
   replace eB := Ext.then eB c4_16 (ge_of hfhbx5 (by omega))
   replace cL2 := Chg.step cL2 c4_16 Sub.refl
   try simp (disch := decide) only [outv_none]
   refine plK_last (by decide) ?_
   try simp -implicitDefEqProofs (disch := first | decide | assumption | omega) only [go_sem]
   refine hK _ _ ?_
   clear hK K
   refine den_blk ?_
   refine den_region TTok ?_
   intro K hK
   simp -implicitDefEqProofs (disch := first | decide | assumption | omega) only [go_sem, wrap_id]
   refine hK _ _ ?_
   clear hK K
   refine den_stop ?_
   rw [plusN_step] at hbx5
   exact ⟨i + 1, by simp [HasL, puts_at], ⟨by first | omega | (dsimp only; omega), hbx5, cL2⟩, by first | omega | (dsimp only; omega)⟩
  ·try simp only [decide_eq_false_iff_not] at c0
   refine den_exit ?_
   refine denX_code ?_
   refine denX_stop ?_
   refine denX_hit ?_
   refine den_seq ?_
   refine den_region TTok ?_
   intro K hK
   simp -implicitDefEqProofs (disch := first | decide | assumption | omega) only [go_sem, BoxAt.elL hbx5]
   refine op_storeB (o := 0) (cs' := elA (plusN p u v k i)) st30 hb0_2 rfl rfl (elA_sz _) (by rw [elA_sz]; decide) elA_one elA_all ?_
   intro h5_1 hb0_2 c5_1
   replace hbx5 := BoxAt.chgA hbx5 c5_1 (apart_lt hlhbx5 hfhb0_2 (by omega))
   have := c5_1.size
   replace eB := Ext.then eB c5_1 (ge_of hfhb0_2 (by omega))
   try simp -implicitDefEqProofs (disch := first | decide | assumption | omega) only [go_sem]
   refine hK _ _ ?_
   clear hK K
   refine den_ret ?_
   simp -implicitDefEqProofs (disch := first | decide | assumption | omega) only [go_sem, BoxAt.elL hb0_2, resP_c1]
   rw [show i = 8 by omega]
   exact ⟨by first | rfl | trivial, eB⟩

set_option maxRecDepth 100000 in
set_option maxHeartbeats 4000000 in
theorem sTms_ok (X : Dg) (u : Nat → Int) (v : Nat → Int) (h : Heap)  (hp : 0 < X.p ∧ X.p ≤ 7) (hs : 0 ≤ X.s ∧ X.s ≤ 8) (hu : By u) (hv : By v) (hBt : ∀ i j, By (X.tab i j)) (hu7 : ∀ i, i < 8 → u i < X.p) (hv7 : ∀ i, i < 8 → v i < X.p) : CallA Try.prog 50 #[.agg (dgA X), .agg (elA u), .agg (elA v)] h fun v' h' => v' = .agg (elA (timesP X.p X.tab u v X.s.toNat)) ∧ Ext h h' := by
 have hp6 := hp.2
 refine callA_intro TTok (args := [_, _, _]) Try.func50 (by kernel_rfl) rfl 53 rfl (by simp) [.cell 6 30] rfl ?_
 simp only [idxs, Nat.reduceAdd]
 refine den_seq ?_
 refine den_region TTok ?_
 intro K hK
 simp -implicitDefEqProofs (disch := first | decide | assumption | omega) only [go_sem]
 refine op_box (cs := dgA X) rfl ?_
 intro h0_0 e0_0 hb0_0 z0_0
 have := Ext.size e0_0
 have eB := e0_0
 have hfhb0_0 : Fresh h.size [h.size] := Fresh.one _
 have hlhb0_0 := one_lt (show h.size < h0_0.size by omega)
 try simp -implicitDefEqProofs (disch := first | decide | assumption | omega) only [go_sem]
 refine op_box (cs := elA u) rfl ?_
 intro h0_1 e0_1 hb0_1 z0_1
 replace hb0_0 := BoxAt.ext hb0_0 e0_1
 have := Ext.size e0_1
 replace eB := Ext.trans eB e0_1
 have hfhb0_1 : Fresh h0_0.size [h0_0.size] := Fresh.one _
 have hlhb0_1 := one_lt (show h0_0.size < h0_1.size by omega)
 try simp -implicitDefEqProofs (disch := first | decide | assumption | omega) only [go_sem]
 refine op_box (cs := elA v) rfl ?_
 intro h0_2 e0_2 hb0_2 z0_2
 replace hb0_0 := BoxAt.ext hb0_0 e0_2
 replace hb0_1 := BoxAt.ext hb0_1 e0_2
 have := Ext.size e0_2
 replace eB := Ext.trans eB e0_2
 have hfhb0_2 : Fresh h0_1.size [h0_1.size] := Fresh.one _
 have hlhb0_2 := one_lt (show h0_1.size < h0_2.size by omega)
 try simp -implicitDefEqProofs (disch := first | decide | assumption | omega) only [go_sem]
 refine op_alloc (cs := elA z8) (by kernel_rfl) ?_
 intro h0_3 e0_3 hb0_3 z0_3
 replace hb0_0 := BoxAt.ext hb0_0 e0_3
 replace hb0_1 := BoxAt.ext hb0_1 e0_3
 replace hb0_2 := BoxAt.ext hb0_2 e0_3
 have := Ext.size e0_3
 replace eB := Ext.trans eB e0_3
 have hfhb0_3 : Fresh h0_2.size [h0_2.size] := Fresh.one _
 have hlhb0_3 := one_lt (show h0_2.size < h0_3.size by omega)
 try simp -implicitDefEqProofs (disch := first | decide | assumption | omega) only [go_sem]
 refine hK _ _ ?_
 clear hK K
 refine den_seq ?_
 refine den_region TTok ?_
 intro K hK
 simp -implicitDefEqProofs (disch := first | decide | assumption | omega) only [go_sem, build_el]
 refine op_alloc (cs := elA z8) (by kernel_rfl) ?_
 intro h1_1 e1_1 hb1_1 z1_1
 replace hb0_0 := BoxAt.ext hb0_0 e1_1
 replace hb0_1 := BoxAt.ext hb0_1 e1_1
 replace hb0_2 := BoxAt.ext hb0_2 e1_1
 replace hb0_3 := BoxAt.ext hb0_3 e1_1
 have := Ext.size e1_1
 replace eB := Ext.trans eB e1_1
 have hfhb1_1 : Fresh h0_3.size [h0_3.size] := Fresh.one _
 have hlhb1_1 := one_lt (show h0_3.size < h1_1.size by omega)
 try simp -implicitDefEqProofs (disch := first | decide | assumption | omega) only [go_sem]
 refine op_storeB (o := 0) (cs' := elA z8) st30 hb1_1 rfl rfl (elA_sz _) (by rw [elA_sz]; decide) elA_one elA_all ?_
 intro h1_2 hb1_1 c1_2
 replace hb0_0 := BoxAt.chgA hb0_0 c1_2 (apart_lt hlhb0_0 hfhb1_1 (by omega))
 replace hb0_1 := BoxAt.chgA hb0_1 c1_2 (apart_lt hlhb0_1 hfhb1_1 (by omega))
 replace hb0_2 := BoxAt.chgA hb0_2 c1_2 (apart_lt hlhb0_2 hfhb1_1 (by omega))
 replace hb0_3 := BoxAt.chgA hb0_3 c1_2 (apart_lt hlhb0_3 hfhb1_1 (by omega))
 have := c1_2.size
 replace eB := Ext.then eB c1_2 (ge_of hfhb1_1 (by omega))
 try simp -implicitDefEqProofs (disch := first | decide | assumption | omega) only [go_sem]
 refine hK _ _ ?_
 clear hK K
 refine den_seq ?_
 refine den_seq ?_
 refine den_region TTok ?_
 intro K hK
 simp -implicitDefEqProofs (disch := first | decide | assumption | omega) only [go_sem]
 refine hK _ _ ?_
 clear hK K
 refine den_block ?_
 refine den_sel [8, 3, 4, 5, 6, 7] ?_
 intro env_1
 simp only [go_sem]
 refine den_loopS (σ := Nat) (fun st_ => [(8, .int .i64 (st_ : Int))]) (fun st_ H => ((st_ : Int) ≤ X.s) ∧ (BoxAt H (h0_3.size) (elA (tmI X.p X.tab u v X.s.toNat st_)) 30) ∧ (Chg [h0_3.size] h1_2 H)) (fun st_ => X.s.toNat - st_) 0 ?_ ?_
 ·exact ⟨by omega, hb1_1, Chg.refl _ _⟩
 ·rintro i h4 ee3 ⟨hi0, hbx7, cL2⟩
  replace hb0_0 := BoxAt.chgA hb0_0 cL2 (apart_lt hlhb0_0 hfhb1_1 (by omega))
  replace hb0_1 := BoxAt.chgA hb0_1 cL2 (apart_lt hlhb0_1 hfhb1_1 (by omega))
  replace hb0_2 := BoxAt.chgA hb0_2 cL2 (apart_lt hlhb0_2 hfhb1_1 (by omega))
  replace hb0_3 := BoxAt.chgA hb0_3 cL2 (apart_lt hlhb0_3 hfhb1_1 (by omega))
  have := cL2.size
  replace eB := Ext.then eB cL2 (ge_of hfhb1_1 (by omega))
  have hfhbx7 := hfhb1_1
  have hlhbx7 := hlhb1_1
  simp only [List.cons_append, List.nil_append]
  refine den_seq ?_
  refine den_seq ?_
  refine den_region TTok ?_
  intro K hK
  simp -implicitDefEqProofs (disch := first | decide | assumption | omega) only [go_sem, fa34_1, ld2, BoxAt.dgS hb0_0, Nat.zero_add]
  refine hK _ _ ?_
  clear hK K
  refine den_cond rfl (fun c0 => ?_) (fun c0 => ?_)
  ·try simp only [decide_eq_true_eq] at c0
   refine den_skip ?_
   refine den_seq ?_
   refine den_block ?_
   refine den_seq ?_
   refine den_region TTok ?_
   intro K hK
   simp -implicitDefEqProofs (disch := first | decide | assumption | omega) only [go_sem]
   refine hK _ _ ?_
   clear hK K
   refine den_block ?_
   refine den_sel [9, 3, 4, 5, 6, 7, 8] ?_
   intro env_5
   simp only [go_sem]
   refine den_loopS (σ := Nat) (fun st_ => [(9, .int .i64 (st_ : Int))]) (fun st_ H => ((st_ : Int) ≤ X.s) ∧ (BoxAt H (h0_3.size) (elA (tmJ X.p X.tab u v i (tmI X.p X.tab u v X.s.toNat i) st_)) 30) ∧ (Chg [h0_3.size] h4 H)) (fun st_ => X.s.toNat - st_) 0 ?_ ?_
   ·exact ⟨by omega, hbx7, Chg.refl _ _⟩
   ·rintro j h8 ee7 ⟨hi0, hbx7, cL6⟩
    replace hb0_0 := BoxAt.chgA hb0_0 cL6 (apart_lt hlhb0_0 hfhbx7 (by omega))
    replace hb0_1 := BoxAt.chgA hb0_1 cL6 (apart_lt hlhb0_1 hfhbx7 (by omega))
    replace hb0_2 := BoxAt.chgA hb0_2 cL6 (apart_lt hlhb0_2 hfhbx7 (by omega))
    replace hb0_3 := BoxAt.chgA hb0_3 cL6 (apart_lt hlhb0_3 hfhbx7 (by omega))
    have := cL6.size
    replace eB := Ext.then eB cL6 (ge_of hfhbx7 (by omega))
    replace cL2 := Chg.step cL2 cL6 Sub.refl
    have hfhbx7 := hfhbx7
    have hlhbx7 := hlhbx7
    simp only [List.cons_append, List.nil_append]
    refine den_seq ?_
    refine den_seq ?_
    refine den_region TTok ?_
    intro K hK
    simp -implicitDefEqProofs (disch := first | decide | assumption | omega) only [go_sem, fa34_1, ld2, BoxAt.dgS hb0_0, Nat.zero_add]
    refine hK _ _ ?_
    clear hK K
    refine den_cond rfl (fun c1 => ?_) (fun c1 => ?_)
    ·try simp only [decide_eq_true_eq] at c1
     refine den_skip ?_
     refine den_seq ?_
     refine den_block ?_
     refine den_seq ?_
     have hui := hu i
     have hvj := hv j
     refine den_mergeH [(32, .bool ((((u i) != (0 : Int)) && ((v j) != (0 : Int)))))] [3, 4, 5, 6, 7, 8, 9] ?_ ?_
      -- a way
     ·refine den_region TTok ?_
      intro K hK
      simp -implicitDefEqProofs (disch := first | decide | assumption | (simp (disch := decide) only [gvA, eq_self, if_true, if_false, Bool.false_eq_true]; done) | omega) only [go_sem, ia30, ld5, BoxAt.elC hb0_1, Nat.zero_add]
      refine opsP_T (by simp (disch := decide) only [slotOf_zero, slotOf_succ, Option.map_some, puts_same]; rfl) (fun g9 => ?_) (fun g9 => ?_)
      ·try simp -implicitDefEqProofs (disch := first | decide | assumption | (simp (disch := decide) only [gvA, eq_self, if_true, if_false, Bool.false_eq_true, g9]; done) | omega) only [go_sem, ia30, ld5, BoxAt.elC hb0_2, Nat.zero_add, g9, eq_self, if_true]
       refine hK _ _ ?_
       clear hK K
       refine den_stop ?_
       refine ⟨?_, rfl⟩
       first | (simp (disch := decide) only [go_sem, g9, eq_self, Bool.true_and]; done) | simp [HasL, sel, puts_at, g9]
      ·try simp -implicitDefEqProofs (disch := first | decide | assumption | (simp (disch := decide) only [gvA, eq_self, if_true, if_false, Bool.false_eq_true, g9]; done) | omega) only [go_sem, g9, if_false, Bool.false_eq_true]
       refine hK _ _ ?_
       clear hK K
       refine den_stop ?_
       refine ⟨?_, rfl⟩
       first | (simp (disch := decide) only [go_sem, g9, eq_self, Bool.false_and]; done) | simp [HasL, sel, puts_at, g9]
     intro en10
     simp (disch := decide) only [go_sem]
     refine den_cond rfl (fun c2 => ?_) (fun c2 => ?_)
     ·try simp only [bne_iff_ne, ne_eq, Bool.and_eq_true] at c2
      have hmul := by_mul7 hp.2 hu hv hu7 hv7 (i := i) (j := j) (by omega) (by omega)
      refine den_draw TTok mixed [19] [(0, true), (1, true), (2, true), (3, true), (4, true), (5, true), (6, true), (7, true), (8, true), (9, true), (10, true), (11, true), (12, true), (13, true), (14, true), (15, true), (16, true), (17, true), (18, false), (19, false)] (by kernel_rfl) ?_
      intro K hK
      simp -implicitDefEqProofs (disch := first | decide | assumption | omega) only [go_sem, fa34_0, fa34_5, ia32, ia31, ia30, ld2, ld5, BoxAt.dgP hb0_0, BoxAt.dgTabL hb0_0, BoxAt.elC hb0_1, BoxAt.elC hb0_2, BoxAt.elL hbx7, wrap_id, cv_u8, Nat.zero_add]
      refine CallA.mono (sAdd8_ok  X.p (tmJ X.p X.tab u v i (tmI X.p X.tab u v X.s.toNat i) j) ((X.tab i) j) ((u i) * (v j)) _  (by omega) (by first | assumption | exact e8_by _ | exact By.z8 | exact hBd _ | exact hBt _ _ | exact tmJ_by (by omega) (tmI_by (by omega) _) _ | exact timesP_by (by omega) | exact dfI_by (by omega) _ | exact plusN_by (by omega) (timesP_by (by omega)) | exact dfI_by (by omega) 8) (by first | assumption | exact e8_by _ | exact By.z8 | exact hBd _ | exact hBt _ _ | exact tmJ_by (by omega) (tmI_by (by omega) _) _ | exact timesP_by (by omega) | exact dfI_by (by omega) _ | exact plusN_by (by omega) (timesP_by (by omega)) | exact dfI_by (by omega) 8) (by omega)) ?_
      intro v_ h9_18
      rintro ⟨rfl, e9_18⟩
      replace hb0_0 := BoxAt.ext hb0_0 e9_18
      replace hb0_1 := BoxAt.ext hb0_1 e9_18
      replace hb0_2 := BoxAt.ext hb0_2 e9_18
      replace hb0_3 := BoxAt.ext hb0_3 e9_18
      replace hbx7 := BoxAt.ext hbx7 e9_18
      have := Ext.size e9_18
      replace eB := Ext.trans eB e9_18
      replace cL2 := Chg.stepE cL2 e9_18
      replace cL6 := Chg.stepE cL6 e9_18
      refine plK_pres (Ext.pres e9_18) ?_
      try simp -implicitDefEqProofs (disch := first | decide | assumption | omega) only [go_sem]
      refine op_storeB (o := 0) (cs' := elA (plusN X.p (tmJ X.p X.tab u v i (tmI X.p X.tab u v X.s.toNat i) j) ((X.tab i) j) ((u i) * (v j)) 8)) st30 hbx7 rfl rfl (elA_sz _) (by rw [elA_sz]; decide) elA_one elA_all ?_
      intro h9_19 hbx7 c9_19
      replace hb0_0 := BoxAt.chgA hb0_0 c9_19 (apart_lt hlhb0_0 hfhbx7 (by omega))
      replace hb0_1 := BoxAt.chgA hb0_1 c9_19 (apart_lt hlhb0_1 hfhbx7 (by omega))
      replace hb0_2 := BoxAt.chgA hb0_2 c9_19 (apart_lt hlhb0_2 hfhbx7 (by omega))
      replace hb0_3 := BoxAt.chgA hb0_3 c9_19 (apart_lt hlhb0_3 hfhbx7 (by omega))
      have := c9_19.size
      replace eB := Ext.then eB c9_19 (ge_of hfhbx7 (by omega))
      replace cL2 := Chg.step cL2 c9_19 Sub.refl
      replace cL6 := Chg.step cL6 c9_19 Sub.refl
      try simp (disch := decide) only [outv_none]
      refine plK_last (by decide) ?_
      try simp -implicitDefEqProofs (disch := first | decide | assumption | omega) only [go_sem]
      refine hK _ _ ?_
      clear hK K
      refine den_blk ?_
      refine den_region TTok ?_
      intro K hK
      simp -implicitDefEqProofs (disch := first | decide | assumption | omega) only [go_sem, wrap_id]
      refine hK _ _ ?_
      clear hK K
      refine den_stop ?_
      first | rw [tmJ_yes c2] at hbx7 | rw [tmJ_no c2] at hbx7
      exact ⟨j + 1, by simp [puts_at], ⟨by first | omega | (dsimp only; omega), hbx7, cL6⟩, by first | omega | (dsimp only; omega)⟩
     ·refine den_skip ?_
      refine den_blk ?_
      refine den_region TTok ?_
      intro K hK
      simp -implicitDefEqProofs (disch := first | decide | assumption | omega) only [go_sem, wrap_id]
      refine hK _ _ ?_
      clear hK K
      refine den_stop ?_
      first | rw [tmJ_yes c2] at hbx7 | rw [tmJ_no c2] at hbx7
      exact ⟨j + 1, by simp [puts_at], ⟨by first | omega | (dsimp only; omega), hbx7, cL6⟩, by first | omega | (dsimp only; omega)⟩
    ·try simp only [decide_eq_false_iff_not] at c1
     refine den_exit ?_
     refine denX_code ?_
     refine denX_stop ?_
     refine denX_hit ?_
     refine den_blk ?_
     refine den_region TTok ?_
     intro K hK
     simp -implicitDefEqProofs (disch := first | decide | assumption | omega) only [go_sem, wrap_id]
     refine hK _ _ ?_
     clear hK K
     refine den_stop ?_
     rw [show j = X.s.toNat by omega] at hbx7
     exact ⟨i + 1, by simp [puts_at], ⟨by first | omega | (dsimp only; omega), hbx7, cL2⟩, by first | omega | (dsimp only; omega)⟩
  ·try simp only [decide_eq_false_iff_not] at c0
   refine den_exit ?_
   refine denX_code ?_
   refine denX_stop ?_
   refine denX_hit ?_
   refine den_seq ?_
   refine den_region TTok ?_
   intro K hK
   simp -implicitDefEqProofs (disch := first | decide | assumption | omega) only [go_sem, BoxAt.elL hbx7]
   refine op_storeB (o := 0) (cs' := elA (tmI X.p X.tab u v X.s.toNat i)) st30 hb0_3 rfl rfl (elA_sz _) (by rw [elA_sz]; decide) elA_one elA_all ?_
   intro h10_1 hb0_3 c10_1
   replace hbx7 := BoxAt.chgA hbx7 c10_1 (apart_gt hfhbx7 hlhb0_3 (by omega))
   have := c10_1.size
   replace eB := Ext.then eB c10_1 (ge_of hfhb0_3 (by omega))
   try simp -implicitDefEqProofs (disch := first | decide | assumption | omega) only [go_sem]
   refine hK _ _ ?_
   clear hK K
   refine den_ret ?_
   simp -implicitDefEqProofs (disch := first | decide | assumption | omega) only [go_sem, BoxAt.elL hb0_3, resP_c1]
   rw [show i = X.s.toNat by omega]
   exact ⟨by first | rfl | trivial, eB⟩

set_option maxRecDepth 100000 in
set_option maxHeartbeats 4000000 in
theorem sDif_ok (X : Dg) (u : Nat → Int) (h : Heap)  (hp : 0 < X.p ∧ X.p ≤ 7) (hs : 0 ≤ X.s ∧ X.s ≤ 8) (hu : By u) (hBd : ∀ i, By (X.dif i)) : CallA Try.prog 55 #[.agg (dgA X), .agg (elA u)] h fun v' h' => v' = .agg (elA (dfI X.p X.dif u X.s.toNat)) ∧ Ext h h' := by
 refine callA_intro TTok (args := [_, _]) Try.func55 (by kernel_rfl) rfl 27 rfl (by simp) [.cell 4 30] rfl ?_
 simp only [idxs, Nat.reduceAdd]
 refine den_seq ?_
 refine den_region TTok ?_
 intro K hK
 simp -implicitDefEqProofs (disch := first | decide | assumption | omega) only [go_sem]
 refine op_box (cs := dgA X) rfl ?_
 intro h0_0 e0_0 hb0_0 z0_0
 have := Ext.size e0_0
 have eB := e0_0
 have hfhb0_0 : Fresh h.size [h.size] := Fresh.one _
 have hlhb0_0 := one_lt (show h.size < h0_0.size by omega)
 try simp -implicitDefEqProofs (disch := first | decide | assumption | omega) only [go_sem]
 refine op_box (cs := elA u) rfl ?_
 intro h0_1 e0_1 hb0_1 z0_1
 replace hb0_0 := BoxAt.ext hb0_0 e0_1
 have := Ext.size e0_1
 replace eB := Ext.trans eB e0_1
 have hfhb0_1 : Fresh h0_0.size [h0_0.size] := Fresh.one _
 have hlhb0_1 := one_lt (show h0_0.size < h0_1.size by omega)
 try simp -implicitDefEqProofs (disch := first | decide | assumption | omega) only [go_sem]
 refine op_alloc (cs := elA z8) (by kernel_rfl) ?_
 intro h0_2 e0_2 hb0_2 z0_2
 replace hb0_0 := BoxAt.ext hb0_0 e0_2
 replace hb0_1 := BoxAt.ext hb0_1 e0_2
 have := Ext.size e0_2
 replace eB := Ext.trans eB e0_2
 have hfhb0_2 : Fresh h0_1.size [h0_1.size] := Fresh.one _
 have hlhb0_2 := one_lt (show h0_1.size < h0_2.size by omega)
 try simp -implicitDefEqProofs (disch := first | decide | assumption | omega) only [go_sem]
 refine hK _ _ ?_
 clear hK K
 refine den_seq ?_
 refine den_region TTok ?_
 intro K hK
 simp -implicitDefEqProofs (disch := first | decide | assumption | omega) only [go_sem, build_el]
 refine op_alloc (cs := elA z8) (by kernel_rfl) ?_
 intro h1_1 e1_1 hb1_1 z1_1
 replace hb0_0 := BoxAt.ext hb0_0 e1_1
 replace hb0_1 := BoxAt.ext hb0_1 e1_1
 replace hb0_2 := BoxAt.ext hb0_2 e1_1
 have := Ext.size e1_1
 replace eB := Ext.trans eB e1_1
 have hfhb1_1 : Fresh h0_2.size [h0_2.size] := Fresh.one _
 have hlhb1_1 := one_lt (show h0_2.size < h1_1.size by omega)
 try simp -implicitDefEqProofs (disch := first | decide | assumption | omega) only [go_sem]
 refine op_storeB (o := 0) (cs' := elA z8) st30 hb1_1 rfl rfl (elA_sz _) (by rw [elA_sz]; decide) elA_one elA_all ?_
 intro h1_2 hb1_1 c1_2
 replace hb0_0 := BoxAt.chgA hb0_0 c1_2 (apart_lt hlhb0_0 hfhb1_1 (by omega))
 replace hb0_1 := BoxAt.chgA hb0_1 c1_2 (apart_lt hlhb0_1 hfhb1_1 (by omega))
 replace hb0_2 := BoxAt.chgA hb0_2 c1_2 (apart_lt hlhb0_2 hfhb1_1 (by omega))
 have := c1_2.size
 replace eB := Ext.then eB c1_2 (ge_of hfhb1_1 (by omega))
 try simp -implicitDefEqProofs (disch := first | decide | assumption | omega) only [go_sem]
 refine hK _ _ ?_
 clear hK K
 refine den_seq ?_
 refine den_seq ?_
 refine den_region TTok ?_
 intro K hK
 simp -implicitDefEqProofs (disch := first | decide | assumption | omega) only [go_sem]
 refine hK _ _ ?_
 clear hK K
 refine den_block ?_
 refine den_sel [6, 2, 3, 4, 5] ?_
 intro env_1
 simp only [go_sem]
 refine den_loopS (σ := Nat) (fun st_ => [(6, .int .i64 (st_ : Int))]) (fun st_ H => ((st_ : Int) ≤ X.s) ∧ (BoxAt H (h0_2.size) (elA (dfI X.p X.dif u st_)) 30) ∧ (Chg [h0_2.size] h1_2 H)) (fun st_ => X.s.toNat - st_) 0 ?_ ?_
 ·exact ⟨by omega, hb1_1, Chg.refl _ _⟩
 ·rintro i h4 ee3 ⟨hi0, hbx5, cL2⟩
  replace hb0_0 := BoxAt.chgA hb0_0 cL2 (apart_lt hlhb0_0 hfhb1_1 (by omega))
  replace hb0_1 := BoxAt.chgA hb0_1 cL2 (apart_lt hlhb0_1 hfhb1_1 (by omega))
  replace hb0_2 := BoxAt.chgA hb0_2 cL2 (apart_lt hlhb0_2 hfhb1_1 (by omega))
  have := cL2.size
  replace eB := Ext.then eB cL2 (ge_of hfhb1_1 (by omega))
  have hfhbx5 := hfhb1_1
  have hlhbx5 := hlhb1_1
  simp only [List.cons_append, List.nil_append]
  refine den_seq ?_
  refine den_seq ?_
  refine den_region TTok ?_
  intro K hK
  simp -implicitDefEqProofs (disch := first | decide | assumption | omega) only [go_sem, fa34_1, ld2, BoxAt.dgS hb0_0, Nat.zero_add]
  refine hK _ _ ?_
  clear hK K
  refine den_cond rfl (fun c0 => ?_) (fun c0 => ?_)
  ·try simp only [decide_eq_true_eq] at c0
   refine den_skip ?_
   refine den_seq ?_
   refine den_block ?_
   have hui := hu i
   refine den_draw TTok mixed [12] [(0, true), (1, true), (2, true), (3, true), (4, true), (5, true), (6, true), (7, true), (8, true), (9, true), (10, true), (11, false), (12, false)] (by kernel_rfl) ?_
   intro K hK
   simp -implicitDefEqProofs (disch := first | decide | assumption | omega) only [go_sem, fa34_0, fa34_4, ia31, ia30, ld2, ld5, BoxAt.dgP hb0_0, BoxAt.dgDifL hb0_0, BoxAt.elC hb0_1, BoxAt.elL hbx5, wrap_id, cv_u8, Nat.zero_add]
   refine CallA.mono (sAdd8_ok  X.p (dfI X.p X.dif u i) (X.dif i) (u i) _  (by omega) (by first | assumption | exact e8_by _ | exact By.z8 | exact hBd _ | exact hBt _ _ | exact tmJ_by (by omega) (tmI_by (by omega) _) _ | exact timesP_by (by omega) | exact dfI_by (by omega) _ | exact plusN_by (by omega) (timesP_by (by omega)) | exact dfI_by (by omega) 8) (by first | assumption | exact e8_by _ | exact By.z8 | exact hBd _ | exact hBt _ _ | exact tmJ_by (by omega) (tmI_by (by omega) _) _ | exact timesP_by (by omega) | exact dfI_by (by omega) _ | exact plusN_by (by omega) (timesP_by (by omega)) | exact dfI_by (by omega) 8) (by omega)) ?_
   intro v_ h5_11
   rintro ⟨rfl, e5_11⟩
   replace hb0_0 := BoxAt.ext hb0_0 e5_11
   replace hb0_1 := BoxAt.ext hb0_1 e5_11
   replace hb0_2 := BoxAt.ext hb0_2 e5_11
   replace hbx5 := BoxAt.ext hbx5 e5_11
   have := Ext.size e5_11
   replace eB := Ext.trans eB e5_11
   replace cL2 := Chg.stepE cL2 e5_11
   refine plK_pres (Ext.pres e5_11) ?_
   try simp -implicitDefEqProofs (disch := first | decide | assumption | omega) only [go_sem]
   refine op_storeB (o := 0) (cs' := elA (plusN X.p (dfI X.p X.dif u i) (X.dif i) (u i) 8)) st30 hbx5 rfl rfl (elA_sz _) (by rw [elA_sz]; decide) elA_one elA_all ?_
   intro h5_12 hbx5 c5_12
   replace hb0_0 := BoxAt.chgA hb0_0 c5_12 (apart_lt hlhb0_0 hfhbx5 (by omega))
   replace hb0_1 := BoxAt.chgA hb0_1 c5_12 (apart_lt hlhb0_1 hfhbx5 (by omega))
   replace hb0_2 := BoxAt.chgA hb0_2 c5_12 (apart_lt hlhb0_2 hfhbx5 (by omega))
   have := c5_12.size
   replace eB := Ext.then eB c5_12 (ge_of hfhbx5 (by omega))
   replace cL2 := Chg.step cL2 c5_12 Sub.refl
   try simp (disch := decide) only [outv_none]
   refine plK_last (by decide) ?_
   try simp -implicitDefEqProofs (disch := first | decide | assumption | omega) only [go_sem]
   refine hK _ _ ?_
   clear hK K
   refine den_blk ?_
   refine den_region TTok ?_
   intro K hK
   simp -implicitDefEqProofs (disch := first | decide | assumption | omega) only [go_sem, wrap_id]
   refine hK _ _ ?_
   clear hK K
   refine den_stop ?_
   rw [dfI_step] at hbx5
   exact ⟨i + 1, by simp [HasL, puts_at], ⟨by first | omega | (dsimp only; omega), hbx5, cL2⟩, by first | omega | (dsimp only; omega)⟩
  ·try simp only [decide_eq_false_iff_not] at c0
   refine den_exit ?_
   refine denX_code ?_
   refine denX_stop ?_
   refine denX_hit ?_
   refine den_seq ?_
   refine den_region TTok ?_
   intro K hK
   simp -implicitDefEqProofs (disch := first | decide | assumption | omega) only [go_sem, BoxAt.elL hbx5]
   refine op_storeB (o := 0) (cs' := elA (dfI X.p X.dif u i)) st30 hb0_2 rfl rfl (elA_sz _) (by rw [elA_sz]; decide) elA_one elA_all ?_
   intro h6_1 hb0_2 c6_1
   replace hbx5 := BoxAt.chgA hbx5 c6_1 (apart_gt hfhbx5 hlhb0_2 (by omega))
   have := c6_1.size
   replace eB := Ext.then eB c6_1 (ge_of hfhb0_2 (by omega))
   try simp -implicitDefEqProofs (disch := first | decide | assumption | omega) only [go_sem]
   refine hK _ _ ?_
   clear hK K
   refine den_ret ?_
   simp -implicitDefEqProofs (disch := first | decide | assumption | omega) only [go_sem, BoxAt.elL hb0_2, resP_c1]
   rw [show i = X.s.toNat by omega]
   exact ⟨by first | rfl | trivial, eB⟩

set_option maxRecDepth 100000 in
theorem sWit_ok (X : Dg) (u : Nat → Int) (d : Int) (l : Int) (h : Heap)  (hs : 0 ≤ X.s ∧ X.s ≤ 8) : CallA Try.prog 107 #[.agg (dgA X), .agg (elA u), .int .i64 d, .int .i64 l] h fun v' h' => v' = .bool (liesB X u d l X.s.toNat) ∧ Ext h h' := by
 refine callA_intro TTok (args := [_, _, _, _]) Try.func107 (by kernel_rfl) rfl 36 rfl (by simp) [.tmp 8] rfl ?_
 simp only [idxs, Nat.reduceAdd]
 refine den_seq ?_
 refine den_region TTok ?_
 intro K hK
 simp -implicitDefEqProofs (disch := first | decide | assumption | omega) only [go_sem]
 refine op_box (cs := dgA X) rfl ?_
 intro h0_0 e0_0 hb0_0 z0_0
 have := Ext.size e0_0
 have eB := e0_0
 have hfhb0_0 : Fresh h.size [h.size] := Fresh.one _
 have hlhb0_0 := one_lt (show h.size < h0_0.size by omega)
 try simp -implicitDefEqProofs (disch := first | decide | assumption | omega) only [go_sem]
 refine op_box (cs := elA u) rfl ?_
 intro h0_1 e0_1 hb0_1 z0_1
 replace hb0_0 := BoxAt.ext hb0_0 e0_1
 have := Ext.size e0_1
 replace eB := Ext.trans eB e0_1
 have hfhb0_1 : Fresh h0_0.size [h0_0.size] := Fresh.one _
 have hlhb0_1 := one_lt (show h0_0.size < h0_1.size by omega)
 try simp -implicitDefEqProofs (disch := first | decide | assumption | omega) only [go_sem]
 refine hK _ _ ?_
 clear hK K
 refine den_seq ?_
 refine den_seq ?_
 refine den_region TTok ?_
 intro K hK
 simp -implicitDefEqProofs (disch := first | decide | assumption | omega) only [go_sem]
 refine hK _ _ ?_
 clear hK K
 refine den_block ?_
 refine den_sel [9, 2, 3, 4, 5] ?_
 intro env_1
 simp only [go_sem]
 refine den_loopS (σ := Nat) (fun st_ => [(9, .int .i64 (st_ : Int))]) (fun st_ H => ((st_ : Int) ≤ X.s) ∧ (∀ a, a < st_ → ¬ u a = 0 → X.deg a = d ∧ X.lev a ≤ l) ∧ (Ext h0_1 H)) (fun st_ => X.s.toNat - st_) 0 ?_ ?_
 ·exact ⟨by omega, fun a h => by omega, Ext.refl _⟩
 ·rintro i h4 ee3 ⟨hi, hz, cL2⟩
  replace hb0_0 := BoxAt.ext hb0_0 cL2
  replace hb0_1 := BoxAt.ext hb0_1 cL2
  have := Ext.size cL2
  replace eB := Ext.trans eB cL2
  simp only [List.cons_append, List.nil_append]
  refine den_seq ?_
  refine den_seq ?_
  refine den_region TTok ?_
  intro K hK
  simp -implicitDefEqProofs (disch := first | decide | assumption | omega) only [go_sem, fa34_1, ld2, BoxAt.dgS hb0_0, Nat.zero_add]
  refine hK _ _ ?_
  clear hK K
  refine den_cond rfl (fun c0 => ?_) (fun c0 => ?_)
  ·try simp only [decide_eq_true_eq] at c0
   refine den_skip ?_
   refine den_seq ?_
   refine den_block ?_
   refine den_seq ?_
   refine den_mergeH [(35, .bool ((((u i) != (0 : Int)) && (((X.deg i) != d) || (decide (l < (X.lev i)))))))] [2, 3, 4, 5, 9] ?_ ?_
    -- a way
   ·refine den_region TTok ?_
    intro K hK
    simp -implicitDefEqProofs (disch := first | decide | assumption | (simp (disch := decide) only [gvA, eq_self, if_true, if_false, Bool.false_eq_true]; done) | omega) only [go_sem, ia30, ld5, BoxAt.elC hb0_1, Nat.zero_add]
    refine opsP_T (by simp (disch := decide) only [slotOf_zero, slotOf_succ, Option.map_some, puts_same]; rfl) (fun g5 => ?_) (fun g5 => ?_)
    ·try simp -implicitDefEqProofs (disch := first | decide | assumption | (simp (disch := decide) only [gvA, eq_self, if_true, if_false, Bool.false_eq_true, g5]; done) | omega) only [go_sem, fa34_2, ia22, ld2, BoxAt.dgDeg hb0_0, Nat.zero_add, g5]
     refine opsP_F (by simp (disch := decide) only [slotOf_zero, slotOf_succ, Option.map_some, puts_same]; rfl) (fun g6 => ?_) (fun g6 => ?_)
     ·try simp -implicitDefEqProofs (disch := first | decide | assumption | (simp (disch := decide) only [gvA, eq_self, if_true, if_false, Bool.false_eq_true, g5, g6]; done) | omega) only [go_sem, fa34_3, ia22, ld2, BoxAt.dgLev hb0_0, Nat.zero_add, g6, eq_self, if_true, if_false, Bool.false_eq_true]
      refine hK _ _ ?_
      clear hK K
      refine den_stop ?_
      refine ⟨?_, rfl⟩
      first | (simp (disch := decide) only [go_sem, g5, g6, eq_self, Bool.true_and, Bool.false_or]; done) | simp [HasL, sel, puts_at, g5, g6]
     ·try simp -implicitDefEqProofs (disch := first | decide | assumption | (simp (disch := decide) only [gvA, eq_self, if_true, if_false, Bool.false_eq_true, g5, g6]; done) | omega) only [go_sem, g6, eq_self, if_true]
      refine hK _ _ ?_
      clear hK K
      refine den_stop ?_
      refine ⟨?_, rfl⟩
      first | (simp (disch := decide) only [go_sem, g5, g6, eq_self, Bool.and_true, Bool.true_or]; done) | simp [HasL, sel, puts_at, g5, g6]
    ·try simp -implicitDefEqProofs (disch := first | decide | assumption | (simp (disch := decide) only [gvA, eq_self, if_true, if_false, Bool.false_eq_true, g5]; done) | omega) only [go_sem, g5, if_false, Bool.false_eq_true]
     refine hK _ _ ?_
     clear hK K
     refine den_stop ?_
     refine ⟨?_, rfl⟩
     first | (simp (disch := decide) only [go_sem, g5, eq_self, Bool.false_and]; done) | simp [HasL, sel, puts_at, g5]
   intro en7
   simp (disch := decide) only [go_sem]
   refine den_cond rfl (fun c1 => ?_) (fun c1 => ?_)
   ·try simp only [decide_eq_true_eq, bne_iff_ne, ne_eq, Bool.and_eq_true, Bool.or_eq_true] at c1
    refine den_seq ?_
    refine den_region TTok ?_
    intro K hK
    simp -implicitDefEqProofs (disch := first | decide | assumption | omega) only [go_sem]
    refine hK _ _ ?_
    clear hK K
    refine den_ret ?_
    simp (disch := decide) only [resP_1, puts_same]
    exact ⟨vbool (liesB_n (fun hh => by have h1 := hh i (by omega); have h2 := c1; omega)), eB⟩
   ·try simp only [decide_eq_false_iff_not, bne_eq_false_iff_eq, Bool.or_eq_false_iff, Bool.and_eq_false_iff] at c1
    refine den_skip ?_
    refine den_blk ?_
    refine den_region TTok ?_
    intro K hK
    simp -implicitDefEqProofs (disch := first | decide | assumption | omega) only [go_sem, wrap_id]
    refine hK _ _ ?_
    clear hK K
    refine den_stop ?_
    exact ⟨i + 1, by simp [puts_at], ⟨by first | omega | (dsimp only; omega), fun a ha h0 => by
 by_cases hai : a < i
 ·exact hz a hai h0
 ·have e : a = i := by omega
  subst e; have h1 := c1; omega, cL2⟩, by first | omega | (dsimp only; omega)⟩
  ·try simp only [decide_eq_false_iff_not] at c0
   refine den_exit ?_
   refine denX_code ?_
   refine denX_stop ?_
   refine denX_hit ?_
   refine den_seq ?_
   refine den_region TTok ?_
   intro K hK
   simp -implicitDefEqProofs (disch := first | decide | assumption | omega) only [go_sem]
   refine hK _ _ ?_
   clear hK K
   refine den_ret ?_
   simp (disch := decide) only [resP_1, puts_same]
   exact ⟨vbool (liesB_y (fun a ha => hz a (by omega))), eB⟩
end Go.Proofs.Ytacajcjibhifmaa

namespace Go.Proofs.Ytacajcjibhifmaa
open Go
/-- What an algebra's numbers are as values: bytes, and numbers of 64 bits. -/
structure DgB (X : Dg) : Prop where
 dif : ∀ i, By (X.dif i)
 tab : ∀ i j, By (X.tab i j)
 deg : ∀ i : Nat, -9223372036854775808 ≤ X.deg i ∧ X.deg i ≤ 9223372036854775807
 lev : ∀ i : Nat, -9223372036854775808 ≤ X.lev i ∧ X.lev i ≤ 9223372036854775807
structure RowF (X : Dg) (i : Nat) : Prop where
 out : X.s ≤ (i : Int) → X.deg i = 0 ∧ X.lev i = 0 ∧ ∀ k, k < 8 → X.dif i k = 0
 deg : 0 ≤ X.deg i ∧ X.deg i ≤ 5
 lev : 0 ≤ X.lev i ∧ X.lev i ≤ 5
 el : isEl X.p X.s (X.dif i)
 inc : (i : Int) < X.s → 0 < i → X.deg (i - 1) ≤ X.deg i
structure CellF (X : Dg) (i j : Nat) : Prop where
 el : isEl X.p X.s (X.tab i j)
 out : X.s ≤ (i : Int) ∨ X.s ≤ (j : Int) → ∀ k, k < 8 → X.tab i j k = 0
structure IsFm (X : Dg) : Prop where
 p : isP X.p = true
 s : 1 ≤ X.s ∧ X.s ≤ 8
 row : ∀ i : Nat, i < 8 → RowF X i
 cell : ∀ i : Nat, i < 8 → ∀ j : Nat, j < 8 → CellF X i j
 dl : ∀ i : Nat, i < 8 → (i : Int) < X.s → lies X (X.dif i) (X.deg i - 1) (X.lev i) 8
 tl : ∀ i : Nat, i < 8 → ∀ j : Nat, j < 8 → lies X (X.tab i j) (X.deg i + X.deg j) (X.lev i + X.lev j) 8
 d0 : X.deg 0 = 0
 l0 : X.lev 0 = 0
noncomputable def fmB (X : Dg) : Bool := @decide (IsFm X) (Classical.propDecidable _)
theorem fmB_t {X : Dg} : fmB X = true ↔ IsFm X := @decide_eq_true_iff _ (Classical.propDecidable _)
theorem fmB_n {X : Dg} (h : ¬ IsFm X) : false = fmB X := by
 cases e : fmB X
 ·rfl
 ·exact absurd (fmB_t.1 e) h
theorem eqE_z {u : Nat → Int} : eqE u z8 = true ↔ ∀ k, k < 8 → u k = 0 := eqE_iff
theorem fm_0 {X : Dg} (hh : IsFm X) (c : isP X.p = false ∨ ¬ (1 ≤ X.s ∧ X.s ≤ 8)) : False := by
 rcases c with c | c
 ·rw [hh.p] at c; cases c
 ·exact c hh.s
theorem fm_r8 {X : Dg} {i : Nat} (h : RowF X i) (c : ¬ (i : Int) < X.s ∧ ((¬ X.deg i = 0 ∨ ¬ X.lev i = 0) ∨ eqE (X.dif i) z8 = false)) : False := by
 obtain ⟨h1, h2, h3⟩ := h.out (by omega)
 rcases c.2 with (c | c) | c
 ·exact c h1
 ·exact c h2
 ·rw [eqE_z.2 h3] at c; cases c
theorem fm_r10 {X : Dg} {i : Nat} (h : RowF X i) (c : (¬ (0 ≤ X.deg i ∧ X.deg i ≤ 5) ∨ ¬ (0 ≤ X.lev i ∧ X.lev i ≤ 5)) ∨ isElB X.p X.s (X.dif i) = false) : False := by
 rcases c with (c | c) | c
 ·exact c h.deg
 ·exact c h.lev
 ·rw [isElB_t.2 h.el] at c; cases c
theorem fm_r12 {X : Dg} {i : Nat} (h : RowF X i) (hl : (i : Int) < X.s → lies X (X.dif i) (X.deg i - 1) (X.lev i) 8) (c : (i : Int) < X.s ∧ (0 < (i : Int) ∧ X.deg i < X.deg ((i : Int) - 1).toNat ∨ liesB X (X.dif i) (X.deg i - 1) (X.lev i) 8 = false)) : False := by
 rcases c.2 with c2 | c2
 ·have := h.inc c.1 (by omega)
  rw [show ((i : Int) - 1).toNat = i - 1 by omega] at c2
  omega
 ·rw [liesB_t.2 (hl c.1)] at c2; cases c2
theorem wrap_dg {X : Dg} (hh : IsFm X) {i j : Nat} (hi : i < 8) (hj : j < 8) : IntKind.i64.wrap (X.deg i + X.deg j) = X.deg i + X.deg j ∧ IntKind.i64.wrap (X.lev i + X.lev j) = X.lev i + X.lev j := by
 have h1 := (hh.row i hi).deg
 have h2 := (hh.row j hj).deg
 have h3 := (hh.row i hi).lev
 have h4 := (hh.row j hj).lev
 exact ⟨wrap_id (by omega), wrap_id (by omega)⟩
theorem fm_r18 {X : Dg} (hh : IsFm X) {i j : Nat} (hi : i < 8) (hj : j < 8) (c : (isElB X.p X.s (X.tab i j) = false ∨ (¬ (i : Int) < X.s ∨ X.s ≤ (j : Int)) ∧ eqE (X.tab i j) z8 = false) ∨ liesB X (X.tab i j) (IntKind.i64.wrap (X.deg i + X.deg j)) (IntKind.i64.wrap (X.lev i + X.lev j)) 8 = false) : False := by
 have h := hh.cell i hi j hj
 obtain ⟨w1, w2⟩ := wrap_dg hh hi hj
 rw [w1, w2] at c
 rcases c with (c | ⟨c1, c2⟩) | c
 ·rw [isElB_t.2 h.el] at c; cases c
 ·rw [eqE_z.2 (h.out (by omega))] at c2; cases c2
 ·rw [liesB_t.2 (hh.tl i hi j hj)] at c; cases c
theorem fm_cell {X : Dg} {i j : Nat} (c : (isElB X.p X.s (X.tab i j) = true ∧ ((((i : Int) < X.s) ∧ ¬ X.s ≤ (j : Int)) ∨ eqE (X.tab i j) z8 = true)) ∧ liesB X (X.tab i j) (IntKind.i64.wrap (X.deg i + X.deg j)) (IntKind.i64.wrap (X.lev i + X.lev j)) 8 = true) : CellF X i j ∧ lies X (X.tab i j) (IntKind.i64.wrap (X.deg i + X.deg j)) (IntKind.i64.wrap (X.lev i + X.lev j)) 8 := by
 obtain ⟨⟨c1, c2⟩, c3⟩ := c
 exact ⟨⟨isElB_t.1 c1, fun h => by
  rcases c2 with c2 | c2
  ·omega
  ·exact eqE_z.1 c2⟩, liesB_t.1 c3⟩
theorem fm_row {X : Dg} (hB : DgB X) {i : Nat} {Q : Prop} (c2 : (i : Int) < X.s ∨ (X.deg i = 0 ∧ X.lev i = 0) ∧ eqE (X.dif i) z8 = true) (c3 : ((0 ≤ X.deg i ∧ X.deg i ≤ 5) ∧ 0 ≤ X.lev i ∧ X.lev i ≤ 5) ∧ isElB X.p X.s (X.dif i) = true) (c4 : ¬ (i : Int) < X.s ∨ (¬ 0 < (i : Int) ∨ ¬ X.deg i < X.deg ((i : Int) - 1).toNat) ∧ liesB X (X.dif i) (X.deg i - 1) (X.lev i) 8 = true) (hq : Q) : RowF X i ∧ ((i : Int) < X.s → lies X (X.dif i) (X.deg i - 1) (X.lev i) 8) ∧ Q := by
 refine ⟨⟨fun h => ?_, c3.1.1, c3.1.2, isElB_t.1 c3.2, fun h h0 => ?_⟩, fun h => ?_, hq⟩
 ·rcases c2 with c2 | ⟨⟨a, b⟩, c⟩
  ·omega
  ·exact ⟨a, b, eqE_z.1 c⟩
 ·rcases c4 with c4 | ⟨c4, _⟩
  ·omega
  ·rw [show ((i : Int) - 1).toNat = i - 1 by omega] at c4
   omega
 ·rcases c4 with c4 | ⟨_, c4⟩
  ·omega
  ·exact liesB_t.1 c4
theorem fm_all {X : Dg} (c0 : isP X.p = true ∧ 1 ≤ X.s ∧ X.s ≤ 8) (hz : ∀ a : Nat, a < 8 → RowF X a ∧ ((a : Int) < X.s → lies X (X.dif a) (X.deg a - 1) (X.lev a) 8) ∧ ∀ b : Nat, b < 8 → CellF X a b ∧ lies X (X.tab a b) (IntKind.i64.wrap (X.deg a + X.deg b)) (IntKind.i64.wrap (X.lev a + X.lev b)) 8) : ((X.deg 0 == 0) && (X.lev 0 == 0)) = fmB X := by
 rw [Bool.eq_iff_iff, fmB_t, Bool.and_eq_true, beq_iff_eq, beq_iff_eq]
 constructor
 ·rintro ⟨d0, l0⟩
  refine ⟨c0.1, c0.2, fun i hi => (hz i hi).1, fun i hi j hj => ((hz i hi).2.2 j hj).1, fun i hi => (hz i hi).2.1, fun i hi j hj => ?_, d0, l0⟩
  have h1 := ((hz i hi).2.2 j hj).2
  have a1 := (hz i hi).1.deg
  have a2 := (hz j hj).1.deg
  have a3 := (hz i hi).1.lev
  have a4 := (hz j hj).1.lev
  rwa [wrap_id (by omega), wrap_id (by omega)] at h1
 ·intro h
  exact ⟨h.d0, h.l0⟩
set_option maxRecDepth 100000 in
set_option maxHeartbeats 4000000 in
theorem iFm_ok (X : Dg) (h : Heap)  (hB : DgB X) : CallA Try.prog 51 #[.agg (dgA X)] h fun v' h' => v' = .bool (fmB X) ∧ Ext h h' := by
 have hBd := hB.dif
 have hBt := hB.tab
 refine callA_intro TTok (args := [_]) Try.func51 (by kernel_rfl) rfl 170 rfl (by simp) [.tmp 2] rfl ?_
 simp only [idxs]
 refine den_seq ?_
 refine den_region TTok ?_
 intro K hK
 simp -implicitDefEqProofs (disch := first | decide | assumption | omega) only [go_sem]
 refine op_box (cs := dgA X) rfl ?_
 intro h0_0 e0_0 hb0_0 z0_0
 have := Ext.size e0_0
 have eB := e0_0
 have hfhb0_0 : Fresh h.size [h.size] := Fresh.one _
 have hlhb0_0 := one_lt (show h.size < h0_0.size by omega)
 try simp -implicitDefEqProofs (disch := first | decide | assumption | omega) only [go_sem]
 refine hK _ _ ?_
 clear hK K
 refine den_seq ?_
 refine den_seq ?_
 refine den_mergeH [(16, .bool (((!((isP X.p))) || (!((in3 X.s (1 : Int) (8 : Int)))))))] [1] ?_ ?_
  -- a way
 ·refine den_region TTok ?_
  intro K hK
  simp -implicitDefEqProofs (disch := first | decide | assumption | (simp (disch := decide) only [gvA, eq_self, if_true, if_false, Bool.false_eq_true]; done) | omega) only [go_sem, fa34_0, ld2, BoxAt.dgP hb0_0]
  refine CallA.pure (iPrime_ok _ _) ?_
  try simp -implicitDefEqProofs (disch := first | decide | assumption | (simp (disch := decide) only [gvA, eq_self, if_true, if_false, Bool.false_eq_true]; done) | omega) only [go_sem]
  refine opsP_F (by simp (disch := decide) only [slotOf_zero, slotOf_succ, Option.map_some, puts_same]; rfl) (fun g1 => ?_) (fun g1 => ?_)
  ·try simp -implicitDefEqProofs (disch := first | decide | assumption | (simp (disch := decide) only [gvA, eq_self, if_true, if_false, Bool.false_eq_true, g1]; done) | omega) only [go_sem, fa34_1, ld2, BoxAt.dgS hb0_0, Nat.zero_add, g1, if_false, Bool.false_eq_true]
   refine CallA.pure (iIn_ok _ _ _ _) ?_
   try simp -implicitDefEqProofs (disch := first | decide | assumption | (simp (disch := decide) only [gvA, eq_self, if_true, if_false, Bool.false_eq_true, g1]; done) | omega) only [go_sem]
   refine hK _ _ ?_
   clear hK K
   refine den_stop ?_
   refine ⟨?_, rfl⟩
   first | (simp (disch := decide) only [go_sem, g1, eq_self, Bool.false_or]; done) | simp [HasL, sel, puts_at, g1]
  ·try simp -implicitDefEqProofs (disch := first | decide | assumption | (simp (disch := decide) only [gvA, eq_self, if_true, if_false, Bool.false_eq_true, g1]; done) | omega) only [go_sem, g1, eq_self, if_true]
   refine hK _ _ ?_
   clear hK K
   refine den_stop ?_
   refine ⟨?_, rfl⟩
   first | (simp (disch := decide) only [go_sem, g1, eq_self, Bool.true_or]; done) | simp [HasL, sel, puts_at, g1]
 intro en2
 simp (disch := decide) only [go_sem]
 refine den_cond rfl (fun c0 => ?_) (fun c0 => ?_)
 ·try simp only [Bool.not_eq_true', Bool.or_eq_true, in3_f] at c0
  refine den_seq ?_
  refine den_region TTok ?_
  intro K hK
  simp -implicitDefEqProofs (disch := first | decide | assumption | omega) only [go_sem]
  refine hK _ _ ?_
  clear hK K
  refine den_ret ?_
  simp (disch := decide) only [resP_1, puts_same]
  exact ⟨vbool (fmB_n (fun hh => fm_0 hh c0)), eB⟩
 ·try simp only [Bool.not_eq_false', Bool.or_eq_false_iff, in3_iff] at c0
  refine den_skip ?_
  refine den_seq ?_
  refine den_seq ?_
  refine den_region TTok ?_
  intro K hK
  simp -implicitDefEqProofs (disch := first | decide | assumption | omega) only [go_sem]
  refine hK _ _ ?_
  clear hK K
  refine den_block ?_
  refine den_sel [17, 1] ?_
  intro env_5
  simp only [go_sem]
  refine den_loopS (σ := Nat) (fun st_ => [(17, .int .i64 (st_ : Int))]) (fun st_ H => (st_ ≤ 8) ∧ (∀ a, a < st_ → RowF X a ∧ ((a : Int) < X.s → lies X (X.dif a) (X.deg a - 1) (X.lev a) 8) ∧ ∀ b : Nat, b < 8 → CellF X a b ∧ lies X (X.tab a b) (IntKind.i64.wrap (X.deg a + X.deg b)) (IntKind.i64.wrap (X.lev a + X.lev b)) 8) ∧ (Ext h0_0 H)) (fun st_ => 8 - st_) 0 ?_ ?_
  ·exact ⟨by omega, fun a h => by omega, Ext.refl _⟩
  ·rintro i h8 ee7 ⟨hi, hz, cL6⟩
   replace hb0_0 := BoxAt.ext hb0_0 cL6
   have := Ext.size cL6
   replace eB := Ext.trans eB cL6
   simp only [List.cons_append, List.nil_append]
   refine den_seq ?_
   refine den_region TTok ?_
   intro K hK
   simp -implicitDefEqProofs (disch := first | decide | assumption | omega) only [go_sem]
   refine hK _ _ ?_
   clear hK K
   refine den_seq ?_
   refine den_cond rfl (fun c1 => ?_) (fun c1 => ?_)
   ·try simp only [decide_eq_true_eq] at c1
    refine den_skip ?_
    refine den_seq ?_
    refine den_block ?_
    refine den_seq ?_
    refine den_region TTok ?_
    intro K hK
    simp -implicitDefEqProofs (disch := first | decide | assumption | omega) only [go_sem]
    refine hK _ _ ?_
    clear hK K
    refine den_seq ?_
    refine den_region TTok ?_
    intro K hK
    simp -implicitDefEqProofs (disch := first | decide | assumption | omega) only [go_sem, fa34_1, ld2, BoxAt.dgS hb0_0, Nat.zero_add]
    refine hK _ _ ?_
    clear hK K
    refine den_seq ?_
    refine den_seq ?_
    refine den_mergeH [(47, .bool (((!((decide ((i : Int) < X.s)))) && ((((X.deg i) != (0 : Int)) || ((X.lev i) != (0 : Int))) || (!(eqE (X.dif i) z8))))))] [1, 3, 4, 17] ?_ ?_
     -- a way
    ·refine den_region TTok ?_
     intro K hK
     simp -implicitDefEqProofs (disch := first | decide | assumption | (simp (disch := decide) only [gvA, eq_self, if_true, if_false, Bool.false_eq_true]; done) | omega) only [go_sem]
     refine opsP_T (by simp (disch := decide) only [slotOf_zero, slotOf_succ, Option.map_some, puts_same]; rfl) (fun g9 => ?_) (fun g9 => ?_)
     ·try simp -implicitDefEqProofs (disch := first | decide | assumption | (simp (disch := decide) only [gvA, eq_self, if_true, if_false, Bool.false_eq_true, g9]; done) | omega) only [go_sem, fa34_2, ia22, ld2, BoxAt.dgDeg hb0_0, Nat.zero_add, g9]
      refine opsP_F (by simp (disch := decide) only [slotOf_zero, slotOf_succ, Option.map_some, puts_same]; rfl) (fun g10 => ?_) (fun g10 => ?_)
      ·try simp -implicitDefEqProofs (disch := first | decide | assumption | (simp (disch := decide) only [gvA, eq_self, if_true, if_false, Bool.false_eq_true, g9, g10]; done) | omega) only [go_sem, fa34_3, ia22, ld2, BoxAt.dgLev hb0_0, Nat.zero_add, g10, if_false, Bool.false_eq_true]
       refine opsP_F (by simp (disch := decide) only [slotOf_zero, slotOf_succ, Option.map_some, puts_same]; rfl) (fun g11 => ?_) (fun g11 => ?_)
       ·try simp -implicitDefEqProofs (disch := first | decide | assumption | (simp (disch := decide) only [gvA, eq_self, if_true, if_false, Bool.false_eq_true, g9, g10, g11]; done) | omega) only [go_sem, fa34_4, ia31, BoxAt.dgDifL hb0_0, Nat.zero_add, ne_el, build_el, g11, eq_self, if_true, if_false, Bool.false_eq_true]
        refine hK _ _ ?_
        clear hK K
        refine den_stop ?_
        refine ⟨?_, rfl⟩
        first | (simp (disch := decide) only [go_sem, g9, g10, g11, eq_self, Bool.true_and, Bool.false_or, Bool.or_false]; done) | simp [HasL, sel, puts_at, g9, g10, g11]
       ·try simp -implicitDefEqProofs (disch := first | decide | assumption | (simp (disch := decide) only [gvA, eq_self, if_true, if_false, Bool.false_eq_true, g9, g10, g11]; done) | omega) only [go_sem, g11, eq_self, if_true]
        refine hK _ _ ?_
        clear hK K
        refine den_stop ?_
        refine ⟨?_, rfl⟩
        first | (simp (disch := decide) only [go_sem, g9, g10, g11, eq_self, Bool.and_true, Bool.true_or, Bool.or_true]; done) | simp [HasL, sel, puts_at, g9, g10, g11]
      ·try simp -implicitDefEqProofs (disch := first | decide | assumption | (simp (disch := decide) only [gvA, eq_self, if_true, if_false, Bool.false_eq_true, g9, g10]; done) | omega) only [go_sem, g10, eq_self, if_true]
       refine hK _ _ ?_
       clear hK K
       refine den_stop ?_
       refine ⟨?_, rfl⟩
       first | (simp (disch := decide) only [go_sem, g9, g10, eq_self, Bool.and_true, Bool.true_or]; done) | simp [HasL, sel, puts_at, g9, g10]
     ·try simp -implicitDefEqProofs (disch := first | decide | assumption | (simp (disch := decide) only [gvA, eq_self, if_true, if_false, Bool.false_eq_true, g9]; done) | omega) only [go_sem, g9, if_false, Bool.false_eq_true]
      refine hK _ _ ?_
      clear hK K
      refine den_stop ?_
      refine ⟨?_, rfl⟩
      first | (simp (disch := decide) only [go_sem, g9, eq_self, Bool.false_and]; done) | simp [HasL, sel, puts_at, g9]
    intro en12
    simp (disch := decide) only [go_sem]
    refine den_cond rfl (fun c2 => ?_) (fun c2 => ?_)
    ·try simp only [decide_eq_false_iff_not, bne_iff_ne, ne_eq, Bool.not_eq_true', Bool.and_eq_true, Bool.or_eq_true] at c2
     refine den_seq ?_
     refine den_region TTok ?_
     intro K hK
     simp -implicitDefEqProofs (disch := first | decide | assumption | omega) only [go_sem]
     refine hK _ _ ?_
     clear hK K
     refine den_ret ?_
     simp (disch := decide) only [resP_1, puts_same]
     exact ⟨vbool (fmB_n (fun hh => fm_r8 (hh.row i (by omega)) c2)), eB⟩
    ·try simp only [decide_eq_true_eq, Bool.not_eq_false', bne_eq_false_iff_eq, Bool.or_eq_false_iff, Bool.and_eq_false_iff] at c2
     refine den_skip ?_
     refine den_seq ?_
     refine den_seq ?_
     refine den_merge [(70, .bool ((((!((in3 (X.deg i) (0 : Int) (5 : Int)))) || (!((in3 (X.lev i) (0 : Int) (5 : Int))))) || (!((isElB X.p X.s (X.dif i)))))))] [1, 3, 4, 17] (fun H => Ext h8 H) ?_ ?_
      -- a way
     ·refine den_draw TTok mixed [] [(0, true), (1, true), (2, true), (3, true), (4, false), (5, true), (6, true), (7, true), (8, true), (9, true), (10, true), (11, false), (12, true), (13, true), (14, true), (15, true), (16, true), (17, true), (18, true), (19, true), (20, false), (21, true), (22, true)] (by kernel_rfl) ?_
      intro K hK
      simp -implicitDefEqProofs (disch := first | decide | assumption | (simp (disch := decide) only [gvA, eq_self, if_true, if_false, Bool.false_eq_true]; done) | omega) only [go_sem, fa34_2, ia22, ld2, BoxAt.dgDeg hb0_0, Nat.zero_add]
      refine CallA.pure (iIn_ok _ _ _ _) ?_
      try simp -implicitDefEqProofs (disch := first | decide | assumption | (simp (disch := decide) only [gvA, eq_self, if_true, if_false, Bool.false_eq_true]; done) | omega) only [go_sem]
      refine plG_F (by simp (disch := decide) only [slotOf_zero, slotOf_succ, Option.map_some, puts_same]; rfl) (fun g15 => ?_) (fun g15 => ?_)
      ·try simp -implicitDefEqProofs (disch := first | decide | assumption | (simp (disch := decide) only [gvA, eq_self, if_true, if_false, Bool.false_eq_true, g15]; done) | omega) only [go_sem, fa34_3, ia22, ld2, BoxAt.dgLev hb0_0, Nat.zero_add, g15]
       refine CallA.pure (iIn_ok _ _ _ _) ?_
       try simp -implicitDefEqProofs (disch := first | decide | assumption | (simp (disch := decide) only [gvA, eq_self, if_true, if_false, Bool.false_eq_true, g15]; done) | omega) only [go_sem, if_false, Bool.false_eq_true]
       refine plG_F (by simp (disch := decide) only [slotOf_zero, slotOf_succ, Option.map_some, puts_same]; rfl) (fun g16 => ?_) (fun g16 => ?_)
       ·try simp -implicitDefEqProofs (disch := first | decide | assumption | (simp (disch := decide) only [gvA, eq_self, if_true, if_false, Bool.false_eq_true, g15, g16]; done) | omega) only [go_sem, fa34_4, ia31, BoxAt.dgL hb0_0, BoxAt.dgDifL hb0_0, Nat.zero_add, g16]
        refine CallA.mono (iEl_ok  X (X.dif i) _  (by first | assumption | exact e8_by _ | exact By.z8 | exact hBd _ | exact hBt _ _ | exact tmJ_by (by omega) (tmI_by (by omega) _) _ | exact timesP_by (by omega) | exact dfI_by (by omega) _ | exact plusN_by (by omega) (timesP_by (by omega)) | exact dfI_by (by omega) 8)) ?_
        intro v_ h9_20
        rintro ⟨rfl, e9_20⟩
        replace hb0_0 := BoxAt.ext hb0_0 e9_20
        have := Ext.size e9_20
        replace eB := Ext.trans eB e9_20
        replace cL6 := Ext.trans cL6 e9_20
        refine plK_pres (Ext.pres e9_20) ?_
        try simp -implicitDefEqProofs (disch := first | decide | assumption | (simp (disch := decide) only [gvA, eq_self, if_true, if_false, Bool.false_eq_true, g15, g16]; done) | omega) only [go_sem, if_false, Bool.false_eq_true]
        refine hK _ _ ?_
        clear hK K
        refine den_stop ?_
        refine ⟨?_, e9_20⟩
        first | (simp (disch := decide) only [go_sem, g15, g16, eq_self, Bool.false_or, Bool.or_false]; done) | simp [HasL, sel, puts_at, g15, g16]
       ·try simp -implicitDefEqProofs (disch := first | decide | assumption | (simp (disch := decide) only [gvA, eq_self, if_true, if_false, Bool.false_eq_true, g15, g16]; done) | omega) only [go_sem, g16, eq_self, if_true]
        refine hK _ _ ?_
        clear hK K
        refine den_stop ?_
        refine ⟨?_, Ext.refl _⟩
        first | (simp (disch := decide) only [go_sem, g15, g16, eq_self, Bool.true_or, Bool.or_true]; done) | simp [HasL, sel, puts_at, g15, g16]
      ·try simp -implicitDefEqProofs (disch := first | decide | assumption | (simp (disch := decide) only [gvA, eq_self, if_true, if_false, Bool.false_eq_true, g15]; done) | omega) only [go_sem, g15, eq_self, if_true]
       refine hK _ _ ?_
       clear hK K
       refine den_stop ?_
       refine ⟨?_, Ext.refl _⟩
       first | (simp (disch := decide) only [go_sem, g15, eq_self, Bool.true_or]; done) | simp [HasL, sel, puts_at, g15]
     intro en17 h18 e19
     replace hb0_0 := BoxAt.ext hb0_0 e19
     have := Ext.size e19
     replace eB := Ext.trans eB e19
     replace cL6 := Ext.trans cL6 e19
     simp (disch := decide) only [go_sem]
     refine den_cond rfl (fun c3 => ?_) (fun c3 => ?_)
     ·try simp only [Bool.not_eq_true', Bool.or_eq_true, in3_f] at c3
      refine den_seq ?_
      refine den_region TTok ?_
      intro K hK
      simp -implicitDefEqProofs (disch := first | decide | assumption | omega) only [go_sem]
      refine hK _ _ ?_
      clear hK K
      refine den_ret ?_
      simp (disch := decide) only [resP_1, puts_same]
      exact ⟨vbool (fmB_n (fun hh => fm_r10 (hh.row i (by omega)) c3)), eB⟩
     ·try simp only [Bool.not_eq_false', Bool.or_eq_false_iff, in3_iff] at c3
      refine den_skip ?_
      refine den_seq ?_
      refine den_seq ?_
      refine den_merge [(105, .bool (((decide ((i : Int) < X.s)) && (((decide ((0 : Int) < (i : Int))) && (decide ((X.deg i) < (X.deg (((i : Int) - (1 : Int))).toNat)))) || (!((liesB X (X.dif i) ((X.deg i) - (1 : Int)) (X.lev i) 8)))))))] [1, 3, 4, 17] (fun H => Ext h18 H) ?_ ?_
       -- a way
      ·refine den_draw TTok mixed [] [(0, true), (1, true), (2, true), (3, true), (4, true), (5, true), (6, true), (7, true), (8, true), (9, true), (10, true), (11, true), (12, true), (13, true), (14, true), (15, true), (16, true), (17, true), (18, true), (19, true), (20, true), (21, true), (22, true), (23, true), (24, true), (25, true), (26, true), (27, true), (28, true), (29, true), (30, true), (31, false), (32, true), (33, true), (34, true)] (by kernel_rfl) ?_
       intro K hK
       simp -implicitDefEqProofs (disch := first | decide | assumption | (simp (disch := decide) only [gvA, eq_self, if_true, if_false, Bool.false_eq_true]; done) | omega) only [go_sem]
       refine plG_T (by simp (disch := decide) only [slotOf_zero, slotOf_succ, Option.map_some, puts_same]; rfl) (fun g20 => ?_) (fun g20 => ?_)
       ·try simp -implicitDefEqProofs (disch := first | decide | assumption | (simp (disch := decide) only [gvA, eq_self, if_true, if_false, Bool.false_eq_true, g20]; done) | omega) only [go_sem, g20]
        refine plG_T (by simp (disch := decide) only [slotOf_zero, slotOf_succ, Option.map_some, puts_same]; rfl) (fun g21 => ?_) (fun g21 => ?_)
        ·have hgi : 0 < i := by have := of_decide_eq_true g21; omega
         try simp -implicitDefEqProofs (disch := first | decide | assumption | (simp (disch := decide) only [gvA, eq_self, if_true, if_false, Bool.false_eq_true, g20, g21]; done) | omega) only [go_sem, fa34_2, ia22, ld2, BoxAt.dgDeg hb0_0, wrap_id, Nat.zero_add, g21, eq_self, if_true]
         refine plG_F (by simp (disch := decide) only [slotOf_zero, slotOf_succ, Option.map_some, puts_same]; rfl) (fun g22 => ?_) (fun g22 => ?_)
         ·try simp -implicitDefEqProofs (disch := first | decide | assumption | (simp (disch := decide) only [gvA, eq_self, if_true, if_false, Bool.false_eq_true, g20, g21, g22]; done) | omega) only [go_sem, fa34_2, fa34_3, fa34_4, ia31, ia22, ld2, BoxAt.dgL hb0_0, BoxAt.dgDeg hb0_0, BoxAt.dgLev hb0_0, BoxAt.dgDifL hb0_0, wrap_id, Nat.zero_add, g22]
          refine CallA.mono (iLies_ok  X (X.dif i) ((X.deg i) - (1 : Int)) (X.lev i) _  ) ?_
          intro v_ h11_31
          rintro ⟨rfl, e11_31⟩
          replace hb0_0 := BoxAt.ext hb0_0 e11_31
          have := Ext.size e11_31
          replace eB := Ext.trans eB e11_31
          replace cL6 := Ext.trans cL6 e11_31
          refine plK_pres (Ext.pres e11_31) ?_
          try simp -implicitDefEqProofs (disch := first | decide | assumption | (simp (disch := decide) only [gvA, eq_self, if_true, if_false, Bool.false_eq_true, g20, g21, g22]; done) | omega) only [go_sem, eq_self, if_true, if_false, Bool.false_eq_true]
          refine hK _ _ ?_
          clear hK K
          refine den_stop ?_
          refine ⟨?_, e11_31⟩
          first | (simp (disch := decide) only [go_sem, g20, g21, g22, eq_self, Bool.true_and, Bool.and_false, Bool.false_or]; done) | simp [HasL, sel, puts_at, g20, g21, g22]
         ·try simp -implicitDefEqProofs (disch := first | decide | assumption | (simp (disch := decide) only [gvA, eq_self, if_true, if_false, Bool.false_eq_true, g20, g21, g22]; done) | omega) only [go_sem, g22, eq_self, if_true]
          refine hK _ _ ?_
          clear hK K
          refine den_stop ?_
          refine ⟨?_, Ext.refl _⟩
          first | (simp (disch := decide) only [go_sem, g20, g21, g22, eq_self, Bool.and_true, Bool.true_or]; done) | simp [HasL, sel, puts_at, g20, g21, g22]
        ·try simp -implicitDefEqProofs (disch := first | decide | assumption | (simp (disch := decide) only [gvA, eq_self, if_true, if_false, Bool.false_eq_true, g20, g21]; done) | omega) only [go_sem, g21, if_false, Bool.false_eq_true]
         try simp -implicitDefEqProofs (disch := first | decide | assumption | (simp (disch := decide) only [gvA, eq_self, if_true, if_false, Bool.false_eq_true, g20, g21]; done) | omega) only [go_sem, fa34_2, fa34_3, fa34_4, ia31, ia22, ld2, BoxAt.dgL hb0_0, BoxAt.dgDeg hb0_0, BoxAt.dgLev hb0_0, BoxAt.dgDifL hb0_0, wrap_id, Nat.zero_add]
         refine CallA.mono (iLies_ok  X (X.dif i) ((X.deg i) - (1 : Int)) (X.lev i) _  ) ?_
         intro v_ h11_31_1
         rintro ⟨rfl, e11_31_1⟩
         replace hb0_0 := BoxAt.ext hb0_0 e11_31_1
         have := Ext.size e11_31_1
         replace eB := Ext.trans eB e11_31_1
         replace cL6 := Ext.trans cL6 e11_31_1
         refine plK_pres (Ext.pres e11_31_1) ?_
         try simp -implicitDefEqProofs (disch := first | decide | assumption | (simp (disch := decide) only [gvA, eq_self, if_true, if_false, Bool.false_eq_true, g20, g21]; done) | omega) only [go_sem, eq_self, if_true, if_false, Bool.false_eq_true]
         refine hK _ _ ?_
         clear hK K
         refine den_stop ?_
         refine ⟨?_, e11_31_1⟩
         first | (simp (disch := decide) only [go_sem, g20, g21, eq_self, Bool.true_and, Bool.false_and, Bool.false_or]; done) | simp [HasL, sel, puts_at, g20, g21]
       ·try simp -implicitDefEqProofs (disch := first | decide | assumption | (simp (disch := decide) only [gvA, eq_self, if_true, if_false, Bool.false_eq_true, g20]; done) | omega) only [go_sem, g20, if_false, Bool.false_eq_true]
        refine hK _ _ ?_
        clear hK K
        refine den_stop ?_
        refine ⟨?_, Ext.refl _⟩
        first | (simp (disch := decide) only [go_sem, g20, eq_self, Bool.false_and]; done) | simp [HasL, sel, puts_at, g20]
      intro en23 h24 e25
      replace hb0_0 := BoxAt.ext hb0_0 e25
      have := Ext.size e25
      replace eB := Ext.trans eB e25
      replace cL6 := Ext.trans cL6 e25
      simp (disch := decide) only [go_sem]
      refine den_cond rfl (fun c4 => ?_) (fun c4 => ?_)
      ·try simp only [decide_eq_true_eq, Bool.not_eq_true', Bool.and_eq_true, Bool.or_eq_true] at c4
       refine den_seq ?_
       refine den_region TTok ?_
       intro K hK
       simp -implicitDefEqProofs (disch := first | decide | assumption | omega) only [go_sem]
       refine hK _ _ ?_
       clear hK K
       refine den_ret ?_
       simp (disch := decide) only [resP_1, puts_same]
       exact ⟨vbool (fmB_n (fun hh => fm_r12 (hh.row i (by omega)) (hh.dl i (by omega)) c4)), eB⟩
      ·try simp only [decide_eq_false_iff_not, Bool.not_eq_false', Bool.or_eq_false_iff, Bool.and_eq_false_iff] at c4
       refine den_skip ?_
       refine den_seq ?_
       refine den_region TTok ?_
       intro K hK
       simp -implicitDefEqProofs (disch := first | decide | assumption | omega) only [go_sem]
       refine hK _ _ ?_
       clear hK K
       refine den_block ?_
       refine den_sel [106, 1, 3, 4, 17] ?_
       intro env_26
       simp only [go_sem]
       refine den_loopS (σ := Nat) (fun st_ => [(106, .int .i64 (st_ : Int))]) (fun st_ H => (st_ ≤ 8) ∧ (∀ b, b < st_ → CellF X i b ∧ lies X (X.tab i b) (IntKind.i64.wrap (X.deg i + X.deg b)) (IntKind.i64.wrap (X.lev i + X.lev b)) 8) ∧ (Ext h24 H)) (fun st_ => 8 - st_) 0 ?_ ?_
       ·exact ⟨by omega, fun b h => by omega, Ext.refl _⟩
       ·rintro j h29 ee28 ⟨hj, hzc, cL27⟩
        replace hb0_0 := BoxAt.ext hb0_0 cL27
        have := Ext.size cL27
        replace eB := Ext.trans eB cL27
        replace cL6 := Ext.trans cL6 cL27
        simp only [List.cons_append, List.nil_append]
        refine den_seq ?_
        refine den_region TTok ?_
        intro K hK
        simp -implicitDefEqProofs (disch := first | decide | assumption | omega) only [go_sem]
        refine hK _ _ ?_
        clear hK K
        refine den_seq ?_
        refine den_cond rfl (fun c5 => ?_) (fun c5 => ?_)
        ·try simp only [decide_eq_true_eq] at c5
         refine den_skip ?_
         refine den_seq ?_
         refine den_block ?_
         refine den_seq ?_
         refine den_region TTok ?_
         intro K hK
         simp -implicitDefEqProofs (disch := first | decide | assumption | omega) only [go_sem]
         refine hK _ _ ?_
         clear hK K
         refine den_seq ?_
         refine den_region TTok ?_
         intro K hK
         simp -implicitDefEqProofs (disch := first | decide | assumption | omega) only [go_sem, fa34_5, ia32, ia31, BoxAt.dgTabL hb0_0, Nat.zero_add]
         refine op_alloc (cs := elA z8) (by kernel_rfl) ?_
         intro h16_6 e16_6 hb16_6 z16_6
         replace hb0_0 := BoxAt.ext hb0_0 e16_6
         have := Ext.size e16_6
         replace eB := Ext.trans eB e16_6
         replace cL6 := Ext.trans cL6 e16_6
         replace cL27 := Ext.trans cL27 e16_6
         have hfhb16_6 : Fresh h29.size [h29.size] := Fresh.one _
         have hlhb16_6 := one_lt (show h29.size < h16_6.size by omega)
         try simp -implicitDefEqProofs (disch := first | decide | assumption | omega) only [go_sem]
         refine op_storeB (o := 0) (cs' := elA ((X.tab i) j)) st30 hb16_6 rfl rfl (elA_sz _) (by rw [elA_sz]; decide) elA_one elA_all ?_
         intro h16_7 hb16_6 c16_7
         replace hb0_0 := BoxAt.chgA hb0_0 c16_7 (apart_lt hlhb0_0 hfhb16_6 (by omega))
         have := c16_7.size
         replace eB := Ext.then eB c16_7 (ge_of hfhb16_6 (by omega))
         replace cL6 := Ext.then cL6 c16_7 (ge_of hfhb16_6 (by omega))
         replace cL27 := Ext.then cL27 c16_7 (ge_of hfhb16_6 (by omega))
         try simp -implicitDefEqProofs (disch := first | decide | assumption | omega) only [go_sem]
         refine hK _ _ ?_
         clear hK K
         refine den_seq ?_
         refine den_merge [(157, .bool ((((!((isElB X.p X.s ((X.tab i) j)))) || (((!((decide ((i : Int) < X.s)))) || (decide (X.s ≤ (j : Int)))) && (!(eqE ((X.tab i) j) z8)))) || (!((liesB X ((X.tab i) j) (IntKind.i64.wrap (X.deg i + X.deg j)) (IntKind.i64.wrap (X.lev i + X.lev j)) 8))))))] [1, 3, 4, 17, 106] (fun H => Ext h16_7 H) ?_ ?_
          -- a way
         ·refine den_draw TTok mixed [] [(0, true), (1, true), (2, false), (3, true), (4, true), (5, true), (6, true), (7, true), (8, true), (9, true), (10, true), (11, true), (12, true), (13, true), (14, true), (15, true), (16, true), (17, true), (18, true), (19, true), (20, true), (21, true), (22, true), (23, true), (24, true), (25, true), (26, true), (27, true), (28, true), (29, true), (30, true), (31, true), (32, true), (33, true), (34, true), (35, true), (36, true), (37, true), (38, true), (39, true), (40, false), (41, true), (42, true)] (by kernel_rfl) ?_
          intro K hK
          simp -implicitDefEqProofs (disch := first | decide | assumption | (simp (disch := decide) only [gvA, eq_self, if_true, if_false, Bool.false_eq_true]; done) | omega) only [go_sem, BoxAt.dgL hb0_0, BoxAt.elL hb16_6]
          refine CallA.mono (iEl_ok  X ((X.tab i) j) _  (by first | assumption | exact e8_by _ | exact By.z8 | exact hBd _ | exact hBt _ _ | exact tmJ_by (by omega) (tmI_by (by omega) _) _ | exact timesP_by (by omega) | exact dfI_by (by omega) _ | exact plusN_by (by omega) (timesP_by (by omega)) | exact dfI_by (by omega) 8)) ?_
          intro v_ h17_2
          rintro ⟨rfl, e17_2⟩
          replace hb0_0 := BoxAt.ext hb0_0 e17_2
          replace hb16_6 := BoxAt.ext hb16_6 e17_2
          have := Ext.size e17_2
          replace eB := Ext.trans eB e17_2
          replace cL6 := Ext.trans cL6 e17_2
          replace cL27 := Ext.trans cL27 e17_2
          refine plK_pres (Ext.pres e17_2) ?_
          try simp -implicitDefEqProofs (disch := first | decide | assumption | (simp (disch := decide) only [gvA, eq_self, if_true, if_false, Bool.false_eq_true]; done) | omega) only [go_sem]
          refine plG_F (by simp (disch := decide) only [slotOf_zero, slotOf_succ, Option.map_some, puts_same]; rfl) (fun g30 => ?_) (fun g30 => ?_)
          ·try simp -implicitDefEqProofs (disch := first | decide | assumption | (simp (disch := decide) only [gvA, eq_self, if_true, if_false, Bool.false_eq_true, g30]; done) | omega) only [go_sem, g30]
           refine plG_F (by simp (disch := decide) only [slotOf_zero, slotOf_succ, Option.map_some, puts_same]; rfl) (fun g31 => ?_) (fun g31 => ?_)
           ·try simp -implicitDefEqProofs (disch := first | decide | assumption | (simp (disch := decide) only [gvA, eq_self, if_true, if_false, Bool.false_eq_true, g30, g31]; done) | omega) only [go_sem, fa34_1, ld2, BoxAt.dgS hb0_0, Nat.zero_add, g31, if_false, Bool.false_eq_true]
            refine plG_T (by simp (disch := decide) only [slotOf_zero, slotOf_succ, Option.map_some, puts_same]; rfl) (fun g32 => ?_) (fun g32 => ?_)
            ·try simp -implicitDefEqProofs (disch := first | decide | assumption | (simp (disch := decide) only [gvA, eq_self, if_true, if_false, Bool.false_eq_true, g30, g31, g32]; done) | omega) only [go_sem, BoxAt.elL hb16_6, ne_el, build_el, g32, eq_self, if_true, if_false, Bool.false_eq_true]
             refine plG_F (by simp (disch := decide) only [slotOf_zero, slotOf_succ, Option.map_some, puts_same]; rfl) (fun g33 => ?_) (fun g33 => ?_)
             ·try simp -implicitDefEqProofs (disch := first | decide | assumption | (simp (disch := decide) only [gvA, eq_self, if_true, if_false, Bool.false_eq_true, g30, g31, g32, g33]; done) | omega) only [go_sem, fa34_2, fa34_3, ia22, ld2, BoxAt.dgL hb0_0, BoxAt.dgDeg hb0_0, BoxAt.dgLev hb0_0, BoxAt.elL hb16_6, Nat.zero_add, g33]
              refine CallA.mono (iLies_ok  X ((X.tab i) j) (IntKind.i64.wrap (X.deg i + X.deg j)) (IntKind.i64.wrap (X.lev i + X.lev j)) _  ) ?_
              intro v_ h17_40
              rintro ⟨rfl, e17_40⟩
              replace hb0_0 := BoxAt.ext hb0_0 e17_40
              replace hb16_6 := BoxAt.ext hb16_6 e17_40
              have := Ext.size e17_40
              replace eB := Ext.trans eB e17_40
              replace cL6 := Ext.trans cL6 e17_40
              replace cL27 := Ext.trans cL27 e17_40
              refine plK_pres (Ext.pres e17_40) ?_
              try simp -implicitDefEqProofs (disch := first | decide | assumption | (simp (disch := decide) only [gvA, eq_self, if_true, if_false, Bool.false_eq_true, g30, g31, g32, g33]; done) | omega) only [go_sem, if_false, Bool.false_eq_true]
              refine hK _ _ ?_
              clear hK K
              refine den_stop ?_
              refine ⟨?_, (Ext.trans e17_2 e17_40)⟩
              first | (simp (disch := decide) only [go_sem, g30, g31, g32, g33, eq_self, Bool.and_false, Bool.or_true, Bool.false_or, Bool.or_false]; done) | simp [HasL, sel, puts_at, g30, g31, g32, g33]
             ·try simp -implicitDefEqProofs (disch := first | decide | assumption | (simp (disch := decide) only [gvA, eq_self, if_true, if_false, Bool.false_eq_true, g30, g31, g32, g33]; done) | omega) only [go_sem, g33, eq_self, if_true]
              refine hK _ _ ?_
              clear hK K
              refine den_stop ?_
              refine ⟨?_, e17_2⟩
              first | (simp (disch := decide) only [go_sem, g30, g31, g32, g33, eq_self, Bool.and_true, Bool.true_or, Bool.or_true]; done) | simp [HasL, sel, puts_at, g30, g31, g32, g33]
            ·try simp -implicitDefEqProofs (disch := first | decide | assumption | (simp (disch := decide) only [gvA, eq_self, if_true, if_false, Bool.false_eq_true, g30, g31, g32]; done) | omega) only [go_sem, g32, if_false, Bool.false_eq_true]
             try simp -implicitDefEqProofs (disch := first | decide | assumption | (simp (disch := decide) only [gvA, eq_self, if_true, if_false, Bool.false_eq_true, g30, g31, g32]; done) | omega) only [go_sem, fa34_2, fa34_3, ia22, ld2, BoxAt.dgL hb0_0, BoxAt.dgDeg hb0_0, BoxAt.dgLev hb0_0, BoxAt.elL hb16_6, Nat.zero_add]
             refine CallA.mono (iLies_ok  X ((X.tab i) j) (IntKind.i64.wrap (X.deg i + X.deg j)) (IntKind.i64.wrap (X.lev i + X.lev j)) _  ) ?_
             intro v_ h17_40_1
             rintro ⟨rfl, e17_40_1⟩
             replace hb0_0 := BoxAt.ext hb0_0 e17_40_1
             replace hb16_6 := BoxAt.ext hb16_6 e17_40_1
             have := Ext.size e17_40_1
             replace eB := Ext.trans eB e17_40_1
             replace cL6 := Ext.trans cL6 e17_40_1
             replace cL27 := Ext.trans cL27 e17_40_1
             refine plK_pres (Ext.pres e17_40_1) ?_
             try simp -implicitDefEqProofs (disch := first | decide | assumption | (simp (disch := decide) only [gvA, eq_self, if_true, if_false, Bool.false_eq_true, g30, g31, g32]; done) | omega) only [go_sem, if_false, Bool.false_eq_true]
             refine hK _ _ ?_
             clear hK K
             refine den_stop ?_
             refine ⟨?_, (Ext.trans e17_2 e17_40_1)⟩
             first | (simp (disch := decide) only [go_sem, g30, g31, g32, eq_self, Bool.false_and, Bool.false_or, Bool.or_false]; done) | simp [HasL, sel, puts_at, g30, g31, g32]
           ·try simp -implicitDefEqProofs (disch := first | decide | assumption | (simp (disch := decide) only [gvA, eq_self, if_true, if_false, Bool.false_eq_true, g30, g31]; done) | omega) only [go_sem, build_el, g31, eq_self, if_true, if_false, Bool.false_eq_true]
            try simp -implicitDefEqProofs (disch := first | decide | assumption | (simp (disch := decide) only [gvA, eq_self, if_true, if_false, Bool.false_eq_true, g30, g31]; done) | omega) only [go_sem, BoxAt.elL hb16_6, ne_el]
            refine plG_F (by simp (disch := decide) only [slotOf_zero, slotOf_succ, Option.map_some, puts_same]; rfl) (fun g34 => ?_) (fun g34 => ?_)
            ·try simp -implicitDefEqProofs (disch := first | decide | assumption | (simp (disch := decide) only [gvA, eq_self, if_true, if_false, Bool.false_eq_true, g30, g31, g34]; done) | omega) only [go_sem, fa34_2, fa34_3, ia22, ld2, BoxAt.dgL hb0_0, BoxAt.dgDeg hb0_0, BoxAt.dgLev hb0_0, BoxAt.elL hb16_6, Nat.zero_add, g34]
             refine CallA.mono (iLies_ok  X ((X.tab i) j) (IntKind.i64.wrap (X.deg i + X.deg j)) (IntKind.i64.wrap (X.lev i + X.lev j)) _  ) ?_
             intro v_ h17_40_2
             rintro ⟨rfl, e17_40_2⟩
             replace hb0_0 := BoxAt.ext hb0_0 e17_40_2
             replace hb16_6 := BoxAt.ext hb16_6 e17_40_2
             have := Ext.size e17_40_2
             replace eB := Ext.trans eB e17_40_2
             replace cL6 := Ext.trans cL6 e17_40_2
             replace cL27 := Ext.trans cL27 e17_40_2
             refine plK_pres (Ext.pres e17_40_2) ?_
             try simp -implicitDefEqProofs (disch := first | decide | assumption | (simp (disch := decide) only [gvA, eq_self, if_true, if_false, Bool.false_eq_true, g30, g31, g34]; done) | omega) only [go_sem, if_false, Bool.false_eq_true]
             refine hK _ _ ?_
             clear hK K
             refine den_stop ?_
             refine ⟨?_, (Ext.trans e17_2 e17_40_2)⟩
             first | (simp (disch := decide) only [go_sem, g30, g31, g34, eq_self, Bool.and_false, Bool.true_or, Bool.false_or, Bool.or_false]; done) | simp [HasL, sel, puts_at, g30, g31, g34]
            ·try simp -implicitDefEqProofs (disch := first | decide | assumption | (simp (disch := decide) only [gvA, eq_self, if_true, if_false, Bool.false_eq_true, g30, g31, g34]; done) | omega) only [go_sem, g34, eq_self, if_true]
             refine hK _ _ ?_
             clear hK K
             refine den_stop ?_
             refine ⟨?_, e17_2⟩
             first | (simp (disch := decide) only [go_sem, g30, g31, g34, eq_self, Bool.and_true, Bool.true_or, Bool.or_true]; done) | simp [HasL, sel, puts_at, g30, g31, g34]
          ·try simp -implicitDefEqProofs (disch := first | decide | assumption | (simp (disch := decide) only [gvA, eq_self, if_true, if_false, Bool.false_eq_true, g30]; done) | omega) only [go_sem, g30, eq_self, if_true]
           refine hK _ _ ?_
           clear hK K
           refine den_stop ?_
           refine ⟨?_, e17_2⟩
           first | (simp (disch := decide) only [go_sem, g30, eq_self, Bool.true_or]; done) | simp [HasL, sel, puts_at, g30]
         intro en35 h36 e37
         replace hb0_0 := BoxAt.ext hb0_0 e37
         replace hb16_6 := BoxAt.ext hb16_6 e37
         have := Ext.size e37
         replace eB := Ext.trans eB e37
         replace cL6 := Ext.trans cL6 e37
         replace cL27 := Ext.trans cL27 e37
         simp (disch := decide) only [go_sem]
         refine den_cond rfl (fun c6 => ?_) (fun c6 => ?_)
         ·try simp only [decide_eq_true_eq, decide_eq_false_iff_not, Bool.not_eq_true', Bool.and_eq_true, Bool.or_eq_true] at c6
          refine den_seq ?_
          refine den_region TTok ?_
          intro K hK
          simp -implicitDefEqProofs (disch := first | decide | assumption | omega) only [go_sem]
          refine hK _ _ ?_
          clear hK K
          refine den_ret ?_
          simp (disch := decide) only [resP_1, puts_same]
          exact ⟨vbool (fmB_n (fun hh => fm_r18 hh (i := i) (j := j) (by omega) (by omega) c6)), eB⟩
         ·try simp only [decide_eq_true_eq, decide_eq_false_iff_not, Bool.not_eq_false', Bool.or_eq_false_iff, Bool.and_eq_false_iff] at c6
          refine den_skip ?_
          refine den_blk ?_
          refine den_region TTok ?_
          intro K hK
          simp -implicitDefEqProofs (disch := first | decide | assumption | omega) only [go_sem, wrap_id]
          refine hK _ _ ?_
          clear hK K
          refine den_stop ?_
          exact ⟨j + 1, by simp [puts_at], ⟨by first | omega | (dsimp only; omega), fun b hb => by
 by_cases hbj : b < j
 ·exact hzc b hbj
 ·have e : b = j := by omega
  subst e
  exact fm_cell c6, cL27⟩, by first | omega | (dsimp only; omega)⟩
        ·try simp only [decide_eq_false_iff_not] at c5
         refine den_exit ?_
         refine denX_code ?_
         refine denX_stop ?_
         refine denX_hit ?_
         refine den_blk ?_
         refine den_region TTok ?_
         intro K hK
         simp -implicitDefEqProofs (disch := first | decide | assumption | omega) only [go_sem, wrap_id]
         refine hK _ _ ?_
         clear hK K
         refine den_stop ?_
         exact ⟨i + 1, by simp [puts_at], ⟨by first | omega | (dsimp only; omega), fun a ha => by
 by_cases hai : a < i
 ·exact hz a hai
 ·have e : a = i := by omega
  subst e
  exact fm_row hB c2 c3 c4 (fun b hb => hzc b (by omega)), cL6⟩, by first | omega | (dsimp only; omega)⟩
   ·try simp only [decide_eq_false_iff_not] at c1
    refine den_exit ?_
    refine denX_code ?_
    refine denX_stop ?_
    refine denX_hit ?_
    refine den_seq ?_
    refine den_mergeH [(2, .bool ((((X.deg 0) == (0 : Int)) && ((X.lev 0) == (0 : Int)))))] [] ?_ ?_
     -- a way
    ·refine den_region TTok ?_
     intro K hK
     simp -implicitDefEqProofs (disch := first | decide | assumption | (simp (disch := decide) only [gvA, eq_self, if_true, if_false, Bool.false_eq_true]; done) | omega) only [go_sem, Int.toNat_zero, fa34_2, ia22, ld2, BoxAt.dgDeg0 hb0_0, Nat.zero_add]
     refine opsP_T (by simp (disch := decide) only [slotOf_zero, slotOf_succ, Option.map_some, puts_same]; rfl) (fun g38 => ?_) (fun g38 => ?_)
     ·try simp -implicitDefEqProofs (disch := first | decide | assumption | (simp (disch := decide) only [gvA, eq_self, if_true, if_false, Bool.false_eq_true, g38]; done) | omega) only [go_sem, Int.toNat_zero, fa34_3, ia22, ld2, BoxAt.dgLev0 hb0_0, Nat.zero_add, g38, eq_self, if_true]
      refine hK _ _ ?_
      clear hK K
      refine den_stop ?_
      refine ⟨?_, rfl⟩
      first | (simp (disch := decide) only [go_sem, g38, eq_self, Bool.true_and]; done) | simp [HasL, sel, puts_at, g38]
     ·try simp -implicitDefEqProofs (disch := first | decide | assumption | (simp (disch := decide) only [gvA, eq_self, if_true, if_false, Bool.false_eq_true, g38]; done) | omega) only [go_sem, g38, if_false, Bool.false_eq_true]
      refine hK _ _ ?_
      clear hK K
      refine den_stop ?_
      refine ⟨?_, rfl⟩
      first | (simp (disch := decide) only [go_sem, g38, eq_self, Bool.false_and]; done) | simp [HasL, sel, puts_at, g38]
    intro en39
    simp (disch := decide) only [go_sem]
    refine den_ret ?_
    simp (disch := decide) only [resP_1, puts_same]
    exact ⟨vbool (fm_all c0 (fun a ha => hz a (by omega))), eB⟩
end Go.Proofs.Ytacajcjibhifmaa

namespace Go.Proofs.Ytacajcjibhifmaa
open Go
theorem lies_s {X : Dg} {u : Nat → Int} {d l : Int} (hs : 0 ≤ X.s ∧ X.s ≤ 8) (h : isEl X.p X.s u) : lies X u d l X.s.toNat ↔ lies X u d l 8 :=
 ⟨fun k i hi hne => k i (by have := (h i hi).2; have := fun q => hne (this q); omega) hne, fun k i hi hne => k i (by omega) hne⟩
theorem sh_r6 {X : Dg} {i : Nat} (h : RowF X i) (c : (X.s ≤ (i : Int) ∧ ((¬ X.deg i = 0 ∨ ¬ X.lev i = 0) ∨ eqE (X.dif i) z8 = false)) ∨ isElB X.p X.s (X.dif i) = false) : False := by
 rcases c with c | c
 ·exact fm_r8 h ⟨by omega, c.2⟩
 ·rw [isElB_t.2 h.el] at c; cases c
theorem sh_r8 {X : Dg} {i : Nat} (h : RowF X i) (c : (¬ (0 ≤ X.deg i ∧ X.deg i ≤ 5) ∨ ¬ (0 ≤ X.lev i ∧ X.lev i ≤ 5)) ∨ ((0 < (i : Int) ∧ (i : Int) < X.s) ∧ X.deg i < X.deg ((i : Int) - 1).toNat)) : False := by
 rcases c with (c | c) | c
 ·exact c h.deg
 ·exact c h.lev
 ·have := h.inc c.1.2 (by omega)
  rw [show ((i : Int) - 1).toNat = i - 1 by omega] at c
  omega
theorem sh_r13 {X : Dg} {i j : Nat} (h : CellF X i j) (c : isElB X.p X.s (X.tab i j) = false ∨ ((X.s ≤ (i : Int) ∨ X.s ≤ (j : Int)) ∧ eqE (X.tab i j) z8 = false)) : False := by
 rcases c with c | ⟨c1, c2⟩
 ·rw [isElB_t.2 h.el] at c; cases c
 ·rw [eqE_z.2 (h.out c1)] at c2; cases c2
theorem sh_cell {X : Dg} {i j : Nat} (c : isElB X.p X.s (X.tab i j) = true ∧ ((¬ X.s ≤ (i : Int) ∧ ¬ X.s ≤ (j : Int)) ∨ eqE (X.tab i j) z8 = true)) : CellF X i j :=
 ⟨isElB_t.1 c.1, fun h => by
  rcases c.2 with c2 | c2
  ·omega
  ·exact eqE_z.1 c2⟩
theorem sh_row {X : Dg} {i : Nat} (c2 : (¬ X.s ≤ (i : Int) ∨ (X.deg i = 0 ∧ X.lev i = 0) ∧ eqE (X.dif i) z8 = true) ∧ isElB X.p X.s (X.dif i) = true) (c3 : ((0 ≤ X.deg i ∧ X.deg i ≤ 5) ∧ 0 ≤ X.lev i ∧ X.lev i ≤ 5) ∧ ((¬ 0 < (i : Int) ∨ ¬ (i : Int) < X.s) ∨ ¬ X.deg i < X.deg ((i : Int) - 1).toNat)) : RowF X i := by
 refine ⟨fun h => ?_, c3.1.1, c3.1.2, isElB_t.1 c2.2, fun h h0 => ?_⟩
 ·rcases c2.1 with c2 | ⟨⟨a, b⟩, c⟩
  ·omega
  ·exact ⟨a, b, eqE_z.1 c⟩
 ·rcases c3.2 with c4 | c4
  ·omega
  ·rw [show ((i : Int) - 1).toNat = i - 1 by omega] at c4
   omega
theorem sh_all {X : Dg} (c0 : isP X.p = true ∧ 1 ≤ X.s ∧ X.s ≤ 8) (hr : ∀ a : Nat, a < 8 → RowF X a ∧ ∀ b : Nat, b < 8 → CellF X a b) (hz : ∀ a : Nat, a < X.s.toNat → lies X (X.dif a) (X.deg a - 1) (X.lev a) X.s.toNat ∧ ∀ b : Nat, b < X.s.toNat → lies X (X.tab a b) (X.deg a + X.deg b) (X.lev a + X.lev b) X.s.toNat) : ((X.deg 0 == 0) && (X.lev 0 == 0)) = fmB X := by
 rw [Bool.eq_iff_iff, fmB_t, Bool.and_eq_true, beq_iff_eq, beq_iff_eq]
 constructor
 ·rintro ⟨d0, l0⟩
  refine ⟨c0.1, c0.2, fun i hi => (hr i hi).1, fun i hi j hj => (hr i hi).2 j hj, fun i hi hs => (lies_s (by omega) (hr i hi).1.el).1 (hz i (by omega)).1, fun i hi j hj => ?_, d0, l0⟩
  by_cases h : X.s ≤ (i : Int) ∨ X.s ≤ (j : Int)
  ·exact fun k hk hne => absurd (((hr i hi).2 j hj).out h k hk) hne
  ·exact (lies_s (by omega) ((hr i hi).2 j hj).el).1 ((hz i (by omega)).2 j (by omega))
 ·intro h
  exact ⟨h.d0, h.l0⟩
theorem sh_c7 {X : Dg} (hh : IsFm X) {i : Nat} (hi : i < 8) (hs : (i : Int) < X.s) (c : liesB X (X.dif i) (X.deg i - 1) (X.lev i) X.s.toNat = false) : False := by
 have := hh.s
 rw [liesB_t.2 ((lies_s (by omega) (hh.row i hi).el).2 (hh.dl i hi hs))] at c; cases c
theorem sh_c9 {X : Dg} (hh : IsFm X) {i j : Nat} (hi : i < 8) (hj : j < 8) (c : liesB X (X.tab i j) (X.deg i + X.deg j) (X.lev i + X.lev j) X.s.toNat = false) : False := by
 have := hh.s
 rw [liesB_t.2 ((lies_s (by omega) (hh.cell i hi j hj).el).2 (hh.tl i hi j hj))] at c; cases c

set_option maxRecDepth 100000 in
set_option maxHeartbeats 4000000 in
theorem sFm_ok (X : Dg) (h : Heap)  (hB : DgB X) : CallA Try.prog 89 #[.agg (dgA X)] h fun v' h' => v' = .bool (fmB X) ∧ Ext h h' := by
 have hBd := hB.dif
 have hBt := hB.tab
 refine callA_intro TTok (args := [_]) Try.func89 (by kernel_rfl) rfl 198 rfl (by simp) [.tmp 2] rfl ?_
 simp only [idxs]
 refine den_seq ?_
 refine den_region TTok ?_
 intro K hK
 simp -implicitDefEqProofs (disch := first | decide | assumption | omega) only [go_sem]
 refine op_box (cs := dgA X) rfl ?_
 intro h0_0 e0_0 hb0_0 z0_0
 have := Ext.size e0_0
 have eB := e0_0
 have hfhb0_0 : Fresh h.size [h.size] := Fresh.one _
 have hlhb0_0 := one_lt (show h.size < h0_0.size by omega)
 try simp -implicitDefEqProofs (disch := first | decide | assumption | omega) only [go_sem]
 refine hK _ _ ?_
 clear hK K
 refine den_seq ?_
 refine den_seq ?_
 refine den_mergeH [(16, .bool (((!((isP X.p))) || (!((in3 X.s (1 : Int) (8 : Int)))))))] [1] ?_ ?_
  -- a way
 ·refine den_region TTok ?_
  intro K hK
  simp -implicitDefEqProofs (disch := first | decide | assumption | (simp (disch := decide) only [gvA, eq_self, if_true, if_false, Bool.false_eq_true]; done) | omega) only [go_sem, fa34_0, ld2, BoxAt.dgP hb0_0]
  refine CallA.pure (sPrime_ok _ _) ?_
  try simp -implicitDefEqProofs (disch := first | decide | assumption | (simp (disch := decide) only [gvA, eq_self, if_true, if_false, Bool.false_eq_true]; done) | omega) only [go_sem]
  refine opsP_F (by simp (disch := decide) only [slotOf_zero, slotOf_succ, Option.map_some, puts_same]; rfl) (fun g1 => ?_) (fun g1 => ?_)
  ·try simp -implicitDefEqProofs (disch := first | decide | assumption | (simp (disch := decide) only [gvA, eq_self, if_true, if_false, Bool.false_eq_true, g1]; done) | omega) only [go_sem, fa34_1, ld2, BoxAt.dgS hb0_0, Nat.zero_add, g1, if_false, Bool.false_eq_true]
   refine CallA.pure (sIn_ok _ _ _ _) ?_
   try simp -implicitDefEqProofs (disch := first | decide | assumption | (simp (disch := decide) only [gvA, eq_self, if_true, if_false, Bool.false_eq_true, g1]; done) | omega) only [go_sem]
   refine hK _ _ ?_
   clear hK K
   refine den_stop ?_
   refine ⟨?_, rfl⟩
   first | (simp (disch := decide) only [go_sem, g1, eq_self, Bool.false_or]; done) | simp [HasL, sel, puts_at, g1]
  ·try simp -implicitDefEqProofs (disch := first | decide | assumption | (simp (disch := decide) only [gvA, eq_self, if_true, if_false, Bool.false_eq_true, g1]; done) | omega) only [go_sem, g1, eq_self, if_true]
   refine hK _ _ ?_
   clear hK K
   refine den_stop ?_
   refine ⟨?_, rfl⟩
   first | (simp (disch := decide) only [go_sem, g1, eq_self, Bool.true_or]; done) | simp [HasL, sel, puts_at, g1]
 intro en2
 simp (disch := decide) only [go_sem]
 refine den_cond rfl (fun c0 => ?_) (fun c0 => ?_)
 ·try simp only [Bool.not_eq_true', Bool.or_eq_true, in3_f] at c0
  refine den_seq ?_
  refine den_region TTok ?_
  intro K hK
  simp -implicitDefEqProofs (disch := first | decide | assumption | omega) only [go_sem]
  refine hK _ _ ?_
  clear hK K
  refine den_ret ?_
  simp (disch := decide) only [resP_1, puts_same]
  exact ⟨vbool (fmB_n (fun hh => fm_0 hh c0)), eB⟩
 ·try simp only [Bool.not_eq_false', Bool.or_eq_false_iff, in3_iff] at c0
  refine den_skip ?_
  refine den_seq ?_
  refine den_seq ?_
  refine den_region TTok ?_
  intro K hK
  simp -implicitDefEqProofs (disch := first | decide | assumption | omega) only [go_sem]
  refine hK _ _ ?_
  clear hK K
  refine den_block ?_
  refine den_sel [3, 1] ?_
  intro env_5
  simp only [go_sem]
  refine den_loopS (σ := Nat) (fun st_ => [(3, .int .i64 (st_ : Int))]) (fun st_ H => (st_ ≤ 8) ∧ (∀ a : Nat, a < st_ → RowF X a ∧ ∀ b : Nat, b < 8 → CellF X a b) ∧ (Ext h0_0 H)) (fun st_ => 8 - st_) 0 ?_ ?_
  ·exact ⟨by omega, fun a h => by omega, Ext.refl _⟩
  ·rintro i h8 ee7 ⟨hi, hr, cL6⟩
   replace hb0_0 := BoxAt.ext hb0_0 cL6
   have := Ext.size cL6
   replace eB := Ext.trans eB cL6
   simp only [List.cons_append, List.nil_append]
   refine den_seq ?_
   refine den_seq ?_
   refine den_region TTok ?_
   intro K hK
   simp -implicitDefEqProofs (disch := first | decide | assumption | omega) only [go_sem]
   refine hK _ _ ?_
   clear hK K
   refine den_cond rfl (fun c1 => ?_) (fun c1 => ?_)
   ·try simp only [decide_eq_true_eq] at c1
    refine den_skip ?_
    refine den_seq ?_
    refine den_block ?_
    refine den_seq ?_
    refine den_seq ?_
    refine den_merge [(58, .bool ((((decide (X.s ≤ (i : Int))) && ((((X.deg i) != (0 : Int)) || ((X.lev i) != (0 : Int))) || (!(eqE (X.dif i) z8)))) || (!((isElB X.p X.s (X.dif i)))))))] [1, 3] (fun H => Ext h8 H) ?_ ?_
     -- a way
    ·refine den_draw TTok mixed [] [(0, true), (1, true), (2, true), (3, true), (4, true), (5, true), (6, true), (7, true), (8, true), (9, true), (10, true), (11, true), (12, true), (13, true), (14, true), (15, true), (16, true), (17, true), (18, true), (19, true), (20, true), (21, true), (22, true), (23, true), (24, true), (25, true), (26, true), (27, true), (28, true), (29, true), (30, true), (31, true), (32, true), (33, true), (34, true), (35, false), (36, true), (37, true)] (by kernel_rfl) ?_
     intro K hK
     simp -implicitDefEqProofs (disch := first | decide | assumption | (simp (disch := decide) only [gvA, eq_self, if_true, if_false, Bool.false_eq_true]; done) | omega) only [go_sem, fa34_1, ld2, BoxAt.dgS hb0_0, Nat.zero_add]
     refine plG_T (by simp (disch := decide) only [slotOf_zero, slotOf_succ, Option.map_some, puts_same]; rfl) (fun g9 => ?_) (fun g9 => ?_)
     ·try simp -implicitDefEqProofs (disch := first | decide | assumption | (simp (disch := decide) only [gvA, eq_self, if_true, if_false, Bool.false_eq_true, g9]; done) | omega) only [go_sem, fa34_2, ia22, ld2, BoxAt.dgDeg hb0_0, Nat.zero_add, g9]
      refine plG_F (by simp (disch := decide) only [slotOf_zero, slotOf_succ, Option.map_some, puts_same]; rfl) (fun g10 => ?_) (fun g10 => ?_)
      ·try simp -implicitDefEqProofs (disch := first | decide | assumption | (simp (disch := decide) only [gvA, eq_self, if_true, if_false, Bool.false_eq_true, g9, g10]; done) | omega) only [go_sem, fa34_3, ia22, ld2, BoxAt.dgLev hb0_0, Nat.zero_add, g10, if_false, Bool.false_eq_true]
       refine plG_F (by simp (disch := decide) only [slotOf_zero, slotOf_succ, Option.map_some, puts_same]; rfl) (fun g11 => ?_) (fun g11 => ?_)
       ·try simp -implicitDefEqProofs (disch := first | decide | assumption | (simp (disch := decide) only [gvA, eq_self, if_true, if_false, Bool.false_eq_true, g9, g10, g11]; done) | omega) only [go_sem, fa34_4, ia31, BoxAt.dgDifL hb0_0, Nat.zero_add, ne_el, build_el, g11, eq_self, if_true, if_false, Bool.false_eq_true]
        refine plG_F (by simp (disch := decide) only [slotOf_zero, slotOf_succ, Option.map_some, puts_same]; rfl) (fun g12 => ?_) (fun g12 => ?_)
        ·try simp -implicitDefEqProofs (disch := first | decide | assumption | (simp (disch := decide) only [gvA, eq_self, if_true, if_false, Bool.false_eq_true, g9, g10, g11, g12]; done) | omega) only [go_sem, fa34_0, fa34_1, fa34_4, ia31, ld2, BoxAt.dgP hb0_0, BoxAt.dgS hb0_0, BoxAt.dgDifL hb0_0, Nat.zero_add, g12]
         refine CallA.mono (sSm_ok  X.p X.s (X.dif i) _  (by first | assumption | exact e8_by _ | exact By.z8 | exact hBd _ | exact hBt _ _ | exact tmJ_by (by omega) (tmI_by (by omega) _) _ | exact timesP_by (by omega) | exact dfI_by (by omega) _ | exact plusN_by (by omega) (timesP_by (by omega)) | exact dfI_by (by omega) 8)) ?_
         intro v_ h6_35
         rintro ⟨rfl, e6_35⟩
         replace hb0_0 := BoxAt.ext hb0_0 e6_35
         have := Ext.size e6_35
         replace eB := Ext.trans eB e6_35
         replace cL6 := Ext.trans cL6 e6_35
         refine plK_pres (Ext.pres e6_35) ?_
         try simp -implicitDefEqProofs (disch := first | decide | assumption | (simp (disch := decide) only [gvA, eq_self, if_true, if_false, Bool.false_eq_true, g9, g10, g11, g12]; done) | omega) only [go_sem, if_false, Bool.false_eq_true]
         refine hK _ _ ?_
         clear hK K
         refine den_stop ?_
         refine ⟨?_, e6_35⟩
         first | (simp (disch := decide) only [go_sem, g9, g10, g11, g12, eq_self, Bool.and_false, Bool.false_or, Bool.or_false]; done) | simp [HasL, sel, puts_at, g9, g10, g11, g12]
        ·try simp -implicitDefEqProofs (disch := first | decide | assumption | (simp (disch := decide) only [gvA, eq_self, if_true, if_false, Bool.false_eq_true, g9, g10, g11, g12]; done) | omega) only [go_sem, g12, eq_self, if_true]
         refine hK _ _ ?_
         clear hK K
         refine den_stop ?_
         refine ⟨?_, Ext.refl _⟩
         first | (simp (disch := decide) only [go_sem, g9, g10, g11, g12, eq_self, Bool.and_true, Bool.true_or, Bool.or_true, Bool.or_false]; done) | simp [HasL, sel, puts_at, g9, g10, g11, g12]
       ·try simp -implicitDefEqProofs (disch := first | decide | assumption | (simp (disch := decide) only [gvA, eq_self, if_true, if_false, Bool.false_eq_true, g9, g10, g11]; done) | omega) only [go_sem, g11, eq_self, if_true]
        refine hK _ _ ?_
        clear hK K
        refine den_stop ?_
        refine ⟨?_, Ext.refl _⟩
        first | (simp (disch := decide) only [go_sem, g9, g10, g11, eq_self, Bool.and_true, Bool.true_or, Bool.or_true]; done) | simp [HasL, sel, puts_at, g9, g10, g11]
      ·try simp -implicitDefEqProofs (disch := first | decide | assumption | (simp (disch := decide) only [gvA, eq_self, if_true, if_false, Bool.false_eq_true, g9, g10]; done) | omega) only [go_sem, g10, eq_self, if_true]
       refine hK _ _ ?_
       clear hK K
       refine den_stop ?_
       refine ⟨?_, Ext.refl _⟩
       first | (simp (disch := decide) only [go_sem, g9, g10, eq_self, Bool.and_true, Bool.true_or]; done) | simp [HasL, sel, puts_at, g9, g10]
     ·try simp -implicitDefEqProofs (disch := first | decide | assumption | (simp (disch := decide) only [gvA, eq_self, if_true, if_false, Bool.false_eq_true, g9]; done) | omega) only [go_sem, g9, if_false, Bool.false_eq_true]
      try simp -implicitDefEqProofs (disch := first | decide | assumption | (simp (disch := decide) only [gvA, eq_self, if_true, if_false, Bool.false_eq_true, g9]; done) | omega) only [go_sem, fa34_0, fa34_1, fa34_4, ia31, ld2, BoxAt.dgP hb0_0, BoxAt.dgS hb0_0, BoxAt.dgDifL hb0_0, Nat.zero_add]
      refine CallA.mono (sSm_ok  X.p X.s (X.dif i) _  (by first | assumption | exact e8_by _ | exact By.z8 | exact hBd _ | exact hBt _ _ | exact tmJ_by (by omega) (tmI_by (by omega) _) _ | exact timesP_by (by omega) | exact dfI_by (by omega) _ | exact plusN_by (by omega) (timesP_by (by omega)) | exact dfI_by (by omega) 8)) ?_
      intro v_ h6_35_1
      rintro ⟨rfl, e6_35_1⟩
      replace hb0_0 := BoxAt.ext hb0_0 e6_35_1
      have := Ext.size e6_35_1
      replace eB := Ext.trans eB e6_35_1
      replace cL6 := Ext.trans cL6 e6_35_1
      refine plK_pres (Ext.pres e6_35_1) ?_
      try simp -implicitDefEqProofs (disch := first | decide | assumption | (simp (disch := decide) only [gvA, eq_self, if_true, if_false, Bool.false_eq_true, g9]; done) | omega) only [go_sem, if_false, Bool.false_eq_true]
      refine hK _ _ ?_
      clear hK K
      refine den_stop ?_
      refine ⟨?_, e6_35_1⟩
      first | (simp (disch := decide) only [go_sem, g9, eq_self, Bool.false_and, Bool.false_or]; done) | simp [HasL, sel, puts_at, g9]
    intro en13 h14 e15
    replace hb0_0 := BoxAt.ext hb0_0 e15
    have := Ext.size e15
    replace eB := Ext.trans eB e15
    replace cL6 := Ext.trans cL6 e15
    simp (disch := decide) only [go_sem]
    refine den_cond rfl (fun c2 => ?_) (fun c2 => ?_)
    ·try simp only [decide_eq_true_eq, bne_iff_ne, ne_eq, Bool.not_eq_true', Bool.and_eq_true, Bool.or_eq_true] at c2
     refine den_seq ?_
     refine den_region TTok ?_
     intro K hK
     simp -implicitDefEqProofs (disch := first | decide | assumption | omega) only [go_sem]
     refine hK _ _ ?_
     clear hK K
     refine den_ret ?_
     simp (disch := decide) only [resP_1, puts_same]
     exact ⟨vbool (fmB_n (fun hh => sh_r6 (hh.row i (by omega)) c2)), eB⟩
    ·try simp only [decide_eq_false_iff_not, Bool.not_eq_false', bne_eq_false_iff_eq, Bool.or_eq_false_iff, Bool.and_eq_false_iff] at c2
     refine den_skip ?_
     refine den_seq ?_
     refine den_seq ?_
     refine den_mergeH [(94, .bool ((((!((in3 (X.deg i) (0 : Int) (5 : Int)))) || (!((in3 (X.lev i) (0 : Int) (5 : Int))))) || (((decide ((0 : Int) < (i : Int))) && (decide ((i : Int) < X.s))) && (decide ((X.deg i) < (X.deg (((i : Int) - (1 : Int))).toNat)))))))] [1, 3] ?_ ?_
      -- a way
     ·refine den_draw TTok mixed [] [(0, true), (1, true), (2, true), (3, true), (4, false), (5, true), (6, true), (7, true), (8, true), (9, true), (10, true), (11, false), (12, true), (13, true), (14, true), (15, true), (16, true), (17, true), (18, true), (19, true), (20, true), (21, true), (22, true), (23, true), (24, true), (25, true), (26, true), (27, true), (28, true), (29, true), (30, true), (31, true), (32, true), (33, true), (34, true), (35, true)] (by kernel_rfl) ?_
      intro K hK
      simp -implicitDefEqProofs (disch := first | decide | assumption | (simp (disch := decide) only [gvA, eq_self, if_true, if_false, Bool.false_eq_true]; done) | omega) only [go_sem, fa34_2, ia22, ld2, BoxAt.dgDeg hb0_0, Nat.zero_add]
      refine CallA.pure (sIn_ok _ _ _ _) ?_
      try simp -implicitDefEqProofs (disch := first | decide | assumption | (simp (disch := decide) only [gvA, eq_self, if_true, if_false, Bool.false_eq_true]; done) | omega) only [go_sem]
      refine plG_F (by simp (disch := decide) only [slotOf_zero, slotOf_succ, Option.map_some, puts_same]; rfl) (fun g16 => ?_) (fun g16 => ?_)
      ·try simp -implicitDefEqProofs (disch := first | decide | assumption | (simp (disch := decide) only [gvA, eq_self, if_true, if_false, Bool.false_eq_true, g16]; done) | omega) only [go_sem, fa34_3, ia22, ld2, BoxAt.dgLev hb0_0, Nat.zero_add, g16]
       refine CallA.pure (sIn_ok _ _ _ _) ?_
       try simp -implicitDefEqProofs (disch := first | decide | assumption | (simp (disch := decide) only [gvA, eq_self, if_true, if_false, Bool.false_eq_true, g16]; done) | omega) only [go_sem, if_false, Bool.false_eq_true]
       refine plG_F (by simp (disch := decide) only [slotOf_zero, slotOf_succ, Option.map_some, puts_same]; rfl) (fun g17 => ?_) (fun g17 => ?_)
       ·try simp -implicitDefEqProofs (disch := first | decide | assumption | (simp (disch := decide) only [gvA, eq_self, if_true, if_false, Bool.false_eq_true, g16, g17]; done) | omega) only [go_sem, g17]
        refine plG_T (by simp (disch := decide) only [slotOf_zero, slotOf_succ, Option.map_some, puts_same]; rfl) (fun g18 => ?_) (fun g18 => ?_)
        ·have hgi : 0 < i := by have := of_decide_eq_true g18; omega
         try simp -implicitDefEqProofs (disch := first | decide | assumption | (simp (disch := decide) only [gvA, eq_self, if_true, if_false, Bool.false_eq_true, g16, g17, g18]; done) | omega) only [go_sem, fa34_1, ld2, BoxAt.dgS hb0_0, Nat.zero_add, g18, eq_self, if_true]
         refine plG_T (by simp (disch := decide) only [slotOf_zero, slotOf_succ, Option.map_some, puts_same]; rfl) (fun g19 => ?_) (fun g19 => ?_)
         ·try simp -implicitDefEqProofs (disch := first | decide | assumption | (simp (disch := decide) only [gvA, eq_self, if_true, if_false, Bool.false_eq_true, g16, g17, g18, g19]; done) | omega) only [go_sem, fa34_2, ia22, ld2, BoxAt.dgDeg hb0_0, wrap_id, Nat.zero_add, g19, eq_self, if_true, if_false, Bool.false_eq_true]
          refine hK _ _ ?_
          clear hK K
          refine den_stop ?_
          refine ⟨?_, rfl⟩
          first | (simp (disch := decide) only [go_sem, g16, g17, g18, g19, eq_self, Bool.true_and, Bool.and_true, Bool.false_or, Bool.or_false]; done) | simp [HasL, sel, puts_at, g16, g17, g18, g19]
         ·try simp -implicitDefEqProofs (disch := first | decide | assumption | (simp (disch := decide) only [gvA, eq_self, if_true, if_false, Bool.false_eq_true, g16, g17, g18, g19]; done) | omega) only [go_sem, g19, if_false, Bool.false_eq_true]
          refine hK _ _ ?_
          clear hK K
          refine den_stop ?_
          refine ⟨?_, rfl⟩
          first | (simp (disch := decide) only [go_sem, g16, g17, g18, g19, eq_self, Bool.false_and, Bool.and_false, Bool.or_false]; done) | simp [HasL, sel, puts_at, g16, g17, g18, g19]
        ·try simp -implicitDefEqProofs (disch := first | decide | assumption | (simp (disch := decide) only [gvA, eq_self, if_true, if_false, Bool.false_eq_true, g16, g17, g18]; done) | omega) only [go_sem, g18, if_false, Bool.false_eq_true]
         refine hK _ _ ?_
         clear hK K
         refine den_stop ?_
         refine ⟨?_, rfl⟩
         first | (simp (disch := decide) only [go_sem, g16, g17, g18, eq_self, Bool.false_and, Bool.or_false]; done) | simp [HasL, sel, puts_at, g16, g17, g18]
       ·try simp -implicitDefEqProofs (disch := first | decide | assumption | (simp (disch := decide) only [gvA, eq_self, if_true, if_false, Bool.false_eq_true, g16, g17]; done) | omega) only [go_sem, g17, eq_self, if_true]
        refine hK _ _ ?_
        clear hK K
        refine den_stop ?_
        refine ⟨?_, rfl⟩
        first | (simp (disch := decide) only [go_sem, g16, g17, eq_self, Bool.true_or, Bool.or_true]; done) | simp [HasL, sel, puts_at, g16, g17]
      ·try simp -implicitDefEqProofs (disch := first | decide | assumption | (simp (disch := decide) only [gvA, eq_self, if_true, if_false, Bool.false_eq_true, g16]; done) | omega) only [go_sem, g16, eq_self, if_true]
       refine hK _ _ ?_
       clear hK K
       refine den_stop ?_
       refine ⟨?_, rfl⟩
       first | (simp (disch := decide) only [go_sem, g16, eq_self, Bool.true_or]; done) | simp [HasL, sel, puts_at, g16]
     intro en20
     simp (disch := decide) only [go_sem]
     refine den_cond rfl (fun c3 => ?_) (fun c3 => ?_)
     ·try simp only [decide_eq_true_eq, Bool.not_eq_true', Bool.and_eq_true, Bool.or_eq_true, in3_f] at c3
      refine den_seq ?_
      refine den_region TTok ?_
      intro K hK
      simp -implicitDefEqProofs (disch := first | decide | assumption | omega) only [go_sem]
      refine hK _ _ ?_
      clear hK K
      refine den_ret ?_
      simp (disch := decide) only [resP_1, puts_same]
      exact ⟨vbool (fmB_n (fun hh => sh_r8 (hh.row i (by omega)) c3)), eB⟩
     ·try simp only [decide_eq_false_iff_not, Bool.not_eq_false', Bool.or_eq_false_iff, Bool.and_eq_false_iff, in3_iff] at c3
      refine den_skip ?_
      refine den_seq ?_
      refine den_region TTok ?_
      intro K hK
      simp -implicitDefEqProofs (disch := first | decide | assumption | omega) only [go_sem]
      refine hK _ _ ?_
      clear hK K
      refine den_block ?_
      refine den_sel [4, 1, 3] ?_
      intro env_23
      simp only [go_sem]
      refine den_loopS (σ := Nat) (fun st_ => [(4, .int .i64 (st_ : Int))]) (fun st_ H => (st_ ≤ 8) ∧ (∀ b : Nat, b < st_ → CellF X i b) ∧ (Ext h14 H)) (fun st_ => 8 - st_) 0 ?_ ?_
      ·exact ⟨by omega, fun b h => by omega, Ext.refl _⟩
      ·rintro j h26 ee25 ⟨hj, hrc, cL24⟩
       replace hb0_0 := BoxAt.ext hb0_0 cL24
       have := Ext.size cL24
       replace eB := Ext.trans eB cL24
       replace cL6 := Ext.trans cL6 cL24
       simp only [List.cons_append, List.nil_append]
       refine den_seq ?_
       refine den_seq ?_
       refine den_region TTok ?_
       intro K hK
       simp -implicitDefEqProofs (disch := first | decide | assumption | omega) only [go_sem]
       refine hK _ _ ?_
       clear hK K
       refine den_cond rfl (fun c4 => ?_) (fun c4 => ?_)
       ·try simp only [decide_eq_true_eq] at c4
        refine den_skip ?_
        refine den_seq ?_
        refine den_block ?_
        refine den_seq ?_
        refine den_merge [(132, .bool (((!((isElB X.p X.s ((X.tab i) j)))) || (((decide (X.s ≤ (i : Int))) || (decide (X.s ≤ (j : Int)))) && (!(eqE ((X.tab i) j) z8))))))] [1, 3, 4] (fun H => Ext h26 H) ?_ ?_
         -- a way
        ·refine den_draw TTok mixed [] [(0, true), (1, true), (2, true), (3, true), (4, true), (5, true), (6, true), (7, true), (8, true), (9, true), (10, false), (11, true), (12, true), (13, true), (14, true), (15, true), (16, true), (17, true), (18, true), (19, true), (20, true), (21, true), (22, true), (23, true), (24, true), (25, true), (26, true), (27, true), (28, true), (29, true), (30, true), (31, true), (32, true), (33, true)] (by kernel_rfl) ?_
         intro K hK
         simp -implicitDefEqProofs (disch := first | decide | assumption | (simp (disch := decide) only [gvA, eq_self, if_true, if_false, Bool.false_eq_true]; done) | omega) only [go_sem, fa34_0, fa34_1, fa34_5, ia32, ia31, ld2, BoxAt.dgP hb0_0, BoxAt.dgS hb0_0, BoxAt.dgTabL hb0_0, Nat.zero_add]
         refine CallA.mono (sSm_ok  X.p X.s ((X.tab i) j) _  (by first | assumption | exact e8_by _ | exact By.z8 | exact hBd _ | exact hBt _ _ | exact tmJ_by (by omega) (tmI_by (by omega) _) _ | exact timesP_by (by omega) | exact dfI_by (by omega) _ | exact plusN_by (by omega) (timesP_by (by omega)) | exact dfI_by (by omega) 8)) ?_
         intro v_ h13_10
         rintro ⟨rfl, e13_10⟩
         replace hb0_0 := BoxAt.ext hb0_0 e13_10
         have := Ext.size e13_10
         replace eB := Ext.trans eB e13_10
         replace cL6 := Ext.trans cL6 e13_10
         replace cL24 := Ext.trans cL24 e13_10
         refine plK_pres (Ext.pres e13_10) ?_
         try simp -implicitDefEqProofs (disch := first | decide | assumption | (simp (disch := decide) only [gvA, eq_self, if_true, if_false, Bool.false_eq_true]; done) | omega) only [go_sem]
         refine plG_F (by simp (disch := decide) only [slotOf_zero, slotOf_succ, Option.map_some, puts_same]; rfl) (fun g27 => ?_) (fun g27 => ?_)
         ·try simp -implicitDefEqProofs (disch := first | decide | assumption | (simp (disch := decide) only [gvA, eq_self, if_true, if_false, Bool.false_eq_true, g27]; done) | omega) only [go_sem, fa34_1, ld2, BoxAt.dgS hb0_0, Nat.zero_add, g27]
          refine plG_F (by simp (disch := decide) only [slotOf_zero, slotOf_succ, Option.map_some, puts_same]; rfl) (fun g28 => ?_) (fun g28 => ?_)
          ·try simp -implicitDefEqProofs (disch := first | decide | assumption | (simp (disch := decide) only [gvA, eq_self, if_true, if_false, Bool.false_eq_true, g27, g28]; done) | omega) only [go_sem, fa34_1, ld2, BoxAt.dgS hb0_0, Nat.zero_add, g28, if_false, Bool.false_eq_true]
           refine plG_T (by simp (disch := decide) only [slotOf_zero, slotOf_succ, Option.map_some, puts_same]; rfl) (fun g29 => ?_) (fun g29 => ?_)
           ·try simp -implicitDefEqProofs (disch := first | decide | assumption | (simp (disch := decide) only [gvA, eq_self, if_true, if_false, Bool.false_eq_true, g27, g28, g29]; done) | omega) only [go_sem, fa34_5, ia32, ia31, BoxAt.dgTabL hb0_0, Nat.zero_add, ne_el, build_el, g29, eq_self, if_true, if_false, Bool.false_eq_true]
            refine hK _ _ ?_
            clear hK K
            refine den_stop ?_
            refine ⟨?_, e13_10⟩
            first | (simp (disch := decide) only [go_sem, g27, g28, g29, eq_self, Bool.true_and, Bool.or_true, Bool.false_or]; done) | simp [HasL, sel, puts_at, g27, g28, g29]
           ·try simp -implicitDefEqProofs (disch := first | decide | assumption | (simp (disch := decide) only [gvA, eq_self, if_true, if_false, Bool.false_eq_true, g27, g28, g29]; done) | omega) only [go_sem, g29, if_false, Bool.false_eq_true]
            refine hK _ _ ?_
            clear hK K
            refine den_stop ?_
            refine ⟨?_, e13_10⟩
            first | (simp (disch := decide) only [go_sem, g27, g28, g29, eq_self, Bool.false_and, Bool.or_false]; done) | simp [HasL, sel, puts_at, g27, g28, g29]
          ·try simp -implicitDefEqProofs (disch := first | decide | assumption | (simp (disch := decide) only [gvA, eq_self, if_true, if_false, Bool.false_eq_true, g27, g28]; done) | omega) only [go_sem, build_el, g28, eq_self, if_true, if_false, Bool.false_eq_true]
           try simp -implicitDefEqProofs (disch := first | decide | assumption | (simp (disch := decide) only [gvA, eq_self, if_true, if_false, Bool.false_eq_true, g27, g28]; done) | omega) only [go_sem, fa34_5, ia32, ia31, BoxAt.dgTabL hb0_0, Nat.zero_add, ne_el]
           refine hK _ _ ?_
           clear hK K
           refine den_stop ?_
           refine ⟨?_, e13_10⟩
           first | (simp (disch := decide) only [go_sem, g27, g28, eq_self, Bool.true_and, Bool.true_or, Bool.false_or]; done) | simp [HasL, sel, puts_at, g27, g28]
         ·try simp -implicitDefEqProofs (disch := first | decide | assumption | (simp (disch := decide) only [gvA, eq_self, if_true, if_false, Bool.false_eq_true, g27]; done) | omega) only [go_sem, g27, eq_self, if_true]
          refine hK _ _ ?_
          clear hK K
          refine den_stop ?_
          refine ⟨?_, e13_10⟩
          first | (simp (disch := decide) only [go_sem, g27, eq_self, Bool.true_or]; done) | simp [HasL, sel, puts_at, g27]
        intro en30 h31 e32
        replace hb0_0 := BoxAt.ext hb0_0 e32
        have := Ext.size e32
        replace eB := Ext.trans eB e32
        replace cL6 := Ext.trans cL6 e32
        replace cL24 := Ext.trans cL24 e32
        simp (disch := decide) only [go_sem]
        refine den_cond rfl (fun c5 => ?_) (fun c5 => ?_)
        ·try simp only [decide_eq_true_eq, Bool.not_eq_true', Bool.and_eq_true, Bool.or_eq_true] at c5
         refine den_seq ?_
         refine den_region TTok ?_
         intro K hK
         simp -implicitDefEqProofs (disch := first | decide | assumption | omega) only [go_sem]
         refine hK _ _ ?_
         clear hK K
         refine den_ret ?_
         simp (disch := decide) only [resP_1, puts_same]
         exact ⟨vbool (fmB_n (fun hh => sh_r13 (hh.cell i (by omega) j (by omega)) c5)), eB⟩
        ·try simp only [decide_eq_false_iff_not, Bool.not_eq_false', Bool.or_eq_false_iff, Bool.and_eq_false_iff] at c5
         refine den_skip ?_
         refine den_blk ?_
         refine den_region TTok ?_
         intro K hK
         simp -implicitDefEqProofs (disch := first | decide | assumption | omega) only [go_sem, wrap_id]
         refine hK _ _ ?_
         clear hK K
         refine den_stop ?_
         exact ⟨j + 1, by simp [puts_at], ⟨by first | omega | (dsimp only; omega), fun b hb => by
 by_cases hbj : b < j
 ·exact hrc b hbj
 ·have e : b = j := by omega
  subst e
  exact sh_cell c5, cL24⟩, by first | omega | (dsimp only; omega)⟩
       ·try simp only [decide_eq_false_iff_not] at c4
        refine den_exit ?_
        refine denX_code ?_
        refine denX_stop ?_
        refine denX_hit ?_
        refine den_blk ?_
        refine den_region TTok ?_
        intro K hK
        simp -implicitDefEqProofs (disch := first | decide | assumption | omega) only [go_sem, wrap_id]
        refine hK _ _ ?_
        clear hK K
        refine den_stop ?_
        exact ⟨i + 1, by simp [puts_at], ⟨by first | omega | (dsimp only; omega), fun a ha => by
 by_cases hai : a < i
 ·exact hr a hai
 ·have e : a = i := by omega
  subst e
  exact ⟨sh_row c2 c3, fun b hb => hrc b (by omega)⟩, cL6⟩, by first | omega | (dsimp only; omega)⟩
   ·try simp only [decide_eq_false_iff_not] at c1
    refine den_exit ?_
    refine denX_code ?_
    refine denX_stop ?_
    refine denX_hit ?_
    refine den_seq ?_
    refine den_seq ?_
    refine den_region TTok ?_
    intro K hK
    simp -implicitDefEqProofs (disch := first | decide | assumption | omega) only [go_sem]
    refine hK _ _ ?_
    clear hK K
    refine den_block ?_
    refine den_sel [5, 1] ?_
    intro env_33
    simp only [go_sem]
    refine den_loopS (σ := Nat) (fun st_ => [(5, .int .i64 (st_ : Int))]) (fun st_ H => ((st_ : Int) ≤ X.s) ∧ (∀ a : Nat, a < st_ → lies X (X.dif a) (X.deg a - 1) (X.lev a) X.s.toNat ∧ ∀ b : Nat, b < X.s.toNat → lies X (X.tab a b) (X.deg a + X.deg b) (X.lev a + X.lev b) X.s.toNat) ∧ (Ext h8 H)) (fun st_ => X.s.toNat - st_) 0 ?_ ?_
    ·exact ⟨by omega, fun a h => by omega, Ext.refl _⟩
    ·rintro i h36 ee35 ⟨hi2, hz, cL34⟩
     replace hb0_0 := BoxAt.ext hb0_0 cL34
     have := Ext.size cL34
     replace eB := Ext.trans eB cL34
     simp only [List.cons_append, List.nil_append]
     refine den_seq ?_
     refine den_seq ?_
     refine den_region TTok ?_
     intro K hK
     simp -implicitDefEqProofs (disch := first | decide | assumption | omega) only [go_sem, fa34_1, ld2, BoxAt.dgS hb0_0, Nat.zero_add]
     refine hK _ _ ?_
     clear hK K
     refine den_cond rfl (fun c6 => ?_) (fun c6 => ?_)
     ·try simp only [decide_eq_true_eq] at c6
      refine den_skip ?_
      refine den_seq ?_
      refine den_block ?_
      refine den_seq ?_
      refine den_seq ?_
      have hri := (hr i (by omega)).1.deg
      refine den_draw TTok mixed [] [(0, true), (1, true), (2, true), (3, true), (4, true), (5, true), (6, true), (7, true), (8, true), (9, true), (10, true), (11, true), (12, true), (13, true), (14, false), (15, true)] (by kernel_rfl) ?_
      intro K hK
      simp -implicitDefEqProofs (disch := first | decide | assumption | omega) only [go_sem, fa34_2, fa34_3, fa34_4, ia31, ia22, ld2, BoxAt.dgL hb0_0, BoxAt.dgDeg hb0_0, BoxAt.dgLev hb0_0, BoxAt.dgDifL hb0_0, wrap_id, Nat.zero_add]
      refine CallA.mono (sWit_ok  X (X.dif i) ((X.deg i) - (1 : Int)) (X.lev i) _  (by omega)) ?_
      intro v_ h18_14
      rintro ⟨rfl, e18_14⟩
      replace hb0_0 := BoxAt.ext hb0_0 e18_14
      have := Ext.size e18_14
      replace eB := Ext.trans eB e18_14
      replace cL34 := Ext.trans cL34 e18_14
      refine plK_pres (Ext.pres e18_14) ?_
      try simp -implicitDefEqProofs (disch := first | decide | assumption | omega) only [go_sem]
      refine hK _ _ ?_
      clear hK K
      refine den_cond rfl (fun c7 => ?_) (fun c7 => ?_)
      ·try simp only [Bool.not_eq_true'] at c7
       refine den_seq ?_
       refine den_region TTok ?_
       intro K hK
       simp -implicitDefEqProofs (disch := first | decide | assumption | omega) only [go_sem]
       refine hK _ _ ?_
       clear hK K
       refine den_ret ?_
       simp (disch := decide) only [resP_1, puts_same]
       exact ⟨vbool (fmB_n (fun hh => sh_c7 hh (i := i) (by omega) (by omega) c7)), eB⟩
      ·try simp only [Bool.not_eq_false'] at c7
       refine den_skip ?_
       refine den_seq ?_
       refine den_region TTok ?_
       intro K hK
       simp -implicitDefEqProofs (disch := first | decide | assumption | omega) only [go_sem]
       refine hK _ _ ?_
       clear hK K
       refine den_block ?_
       refine den_sel [6, 1, 5] ?_
       intro env_37
       simp only [go_sem]
       refine den_loopS (σ := Nat) (fun st_ => [(6, .int .i64 (st_ : Int))]) (fun st_ H => ((st_ : Int) ≤ X.s) ∧ (∀ b : Nat, b < st_ → lies X (X.tab i b) (X.deg i + X.deg b) (X.lev i + X.lev b) X.s.toNat) ∧ (Ext h18_14 H)) (fun st_ => X.s.toNat - st_) 0 ?_ ?_
       ·exact ⟨by omega, fun b h => by omega, Ext.refl _⟩
       ·rintro j h40 ee39 ⟨hj2, hzc, cL38⟩
        replace hb0_0 := BoxAt.ext hb0_0 cL38
        have := Ext.size cL38
        replace eB := Ext.trans eB cL38
        replace cL34 := Ext.trans cL34 cL38
        simp only [List.cons_append, List.nil_append]
        refine den_seq ?_
        refine den_seq ?_
        refine den_region TTok ?_
        intro K hK
        simp -implicitDefEqProofs (disch := first | decide | assumption | omega) only [go_sem, fa34_1, ld2, BoxAt.dgS hb0_0, Nat.zero_add]
        refine hK _ _ ?_
        clear hK K
        refine den_cond rfl (fun c8 => ?_) (fun c8 => ?_)
        ·try simp only [decide_eq_true_eq] at c8
         refine den_skip ?_
         refine den_seq ?_
         refine den_block ?_
         refine den_seq ?_
         have hri := (hr i (by omega)).1
         have hri1 := hri.deg
         have hri2 := hri.lev
         have hrj := (hr j (by omega)).1
         have hrj1 := hrj.deg
         have hrj2 := hrj.lev
         refine den_draw TTok mixed [] [(0, true), (1, true), (2, true), (3, true), (4, true), (5, true), (6, true), (7, true), (8, true), (9, true), (10, true), (11, true), (12, true), (13, true), (14, true), (15, true), (16, true), (17, true), (18, true), (19, true), (20, true), (21, true), (22, true), (23, true), (24, true), (25, false), (26, true)] (by kernel_rfl) ?_
         intro K hK
         simp -implicitDefEqProofs (disch := first | decide | assumption | omega) only [go_sem, fa34_2, fa34_3, fa34_5, ia32, ia31, ia22, ld2, BoxAt.dgL hb0_0, BoxAt.dgDeg hb0_0, BoxAt.dgLev hb0_0, BoxAt.dgTabL hb0_0, wrap_id, Nat.zero_add]
         refine CallA.mono (sWit_ok  X ((X.tab i) j) ((X.deg i) + (X.deg j)) ((X.lev i) + (X.lev j)) _  (by omega)) ?_
         intro v_ h23_25
         rintro ⟨rfl, e23_25⟩
         replace hb0_0 := BoxAt.ext hb0_0 e23_25
         have := Ext.size e23_25
         replace eB := Ext.trans eB e23_25
         replace cL34 := Ext.trans cL34 e23_25
         replace cL38 := Ext.trans cL38 e23_25
         refine plK_pres (Ext.pres e23_25) ?_
         try simp -implicitDefEqProofs (disch := first | decide | assumption | omega) only [go_sem]
         refine hK _ _ ?_
         clear hK K
         refine den_cond rfl (fun c9 => ?_) (fun c9 => ?_)
         ·try simp only [Bool.not_eq_true'] at c9
          refine den_seq ?_
          refine den_region TTok ?_
          intro K hK
          simp -implicitDefEqProofs (disch := first | decide | assumption | omega) only [go_sem]
          refine hK _ _ ?_
          clear hK K
          refine den_ret ?_
          simp (disch := decide) only [resP_1, puts_same]
          exact ⟨vbool (fmB_n (fun hh => sh_c9 hh (i := i) (j := j) (by omega) (by omega) c9)), eB⟩
         ·try simp only [Bool.not_eq_false'] at c9
          refine den_skip ?_
          refine den_blk ?_
          refine den_region TTok ?_
          intro K hK
          simp -implicitDefEqProofs (disch := first | decide | assumption | omega) only [go_sem, wrap_id]
          refine hK _ _ ?_
          clear hK K
          refine den_stop ?_
          exact ⟨j + 1, by simp [HasL, puts_at], ⟨by first | omega | (dsimp only; omega), fun b hb => by
 by_cases hbj : b < j
 ·exact hzc b hbj
 ·have e : b = j := by omega
  subst e
  exact liesB_t.1 c9, cL38⟩, by first | omega | (dsimp only; omega)⟩
        ·try simp only [decide_eq_false_iff_not] at c8
         refine den_exit ?_
         refine denX_code ?_
         refine denX_stop ?_
         refine denX_hit ?_
         refine den_blk ?_
         refine den_region TTok ?_
         intro K hK
         simp -implicitDefEqProofs (disch := first | decide | assumption | omega) only [go_sem, wrap_id]
         refine hK _ _ ?_
         clear hK K
         refine den_stop ?_
         exact ⟨i + 1, by simp [puts_at], ⟨by first | omega | (dsimp only; omega), fun a ha => by
 by_cases hai : a < i
 ·exact hz a hai
 ·have e : a = i := by omega
  subst e
  exact ⟨liesB_t.1 c7, fun b hb => hzc b (by omega)⟩, cL34⟩, by first | omega | (dsimp only; omega)⟩
     ·try simp only [decide_eq_false_iff_not] at c6
      refine den_exit ?_
      refine denX_code ?_
      refine denX_stop ?_
      refine denX_hit ?_
      refine den_seq ?_
      refine den_mergeH [(2, .bool ((((X.deg 0) == (0 : Int)) && ((X.lev 0) == (0 : Int)))))] [] ?_ ?_
       -- a way
      ·refine den_region TTok ?_
       intro K hK
       simp -implicitDefEqProofs (disch := first | decide | assumption | (simp (disch := decide) only [gvA, eq_self, if_true, if_false, Bool.false_eq_true]; done) | omega) only [go_sem, Int.toNat_zero, fa34_2, ia22, ld2, BoxAt.dgDeg0 hb0_0, Nat.zero_add]
       refine opsP_T (by simp (disch := decide) only [slotOf_zero, slotOf_succ, Option.map_some, puts_same]; rfl) (fun g41 => ?_) (fun g41 => ?_)
       ·try simp -implicitDefEqProofs (disch := first | decide | assumption | (simp (disch := decide) only [gvA, eq_self, if_true, if_false, Bool.false_eq_true, g41]; done) | omega) only [go_sem, Int.toNat_zero, fa34_3, ia22, ld2, BoxAt.dgLev0 hb0_0, Nat.zero_add, g41, eq_self, if_true]
        refine hK _ _ ?_
        clear hK K
        refine den_stop ?_
        refine ⟨?_, rfl⟩
        first | (simp (disch := decide) only [go_sem, g41, eq_self, Bool.true_and]; done) | simp [HasL, sel, puts_at, g41]
       ·try simp -implicitDefEqProofs (disch := first | decide | assumption | (simp (disch := decide) only [gvA, eq_self, if_true, if_false, Bool.false_eq_true, g41]; done) | omega) only [go_sem, g41, if_false, Bool.false_eq_true]
        refine hK _ _ ?_
        clear hK K
        refine den_stop ?_
        refine ⟨?_, rfl⟩
        first | (simp (disch := decide) only [go_sem, g41, eq_self, Bool.false_and]; done) | simp [HasL, sel, puts_at, g41]
      intro en42
      simp (disch := decide) only [go_sem]
      refine den_ret ?_
      simp (disch := decide) only [resP_1, puts_same]
      exact ⟨vbool (sh_all c0 (fun a ha => hr a (by omega)) (fun a ha => hz a (by omega))), eB⟩
end Go.Proofs.Ytacajcjibhifmaa

namespace Go.Proofs.Ytacajcjibhifmaa
open Go
/-- A plan that forks: either of two operations comes first. -/
inductive PT where
 | fin : PT
 | fork (i : Nat) (li : List (Nat × Bool)) (ti : PT) (j : Nat) (lj : List (Nat × Bool)) (tj : PT) : PT
 | fork3 (i : Nat) (li : List (Nat × Bool)) (ti : PT) (j : Nat) (lj : List (Nat × Bool)) (tj : PT) (m : Nat) (lm : List (Nat × Bool)) (tm : PT) : PT
 | fork4 (i : Nat) (li : List (Nat × Bool)) (ti : PT) (j : Nat) (lj : List (Nat × Bool)) (tj : PT) (m : Nat) (lm : List (Nat × Bool)) (tm : PT) (o : Nat) (lo : List (Nat × Bool)) (tq : PT) : PT
def PT.size : PT → Nat
 | .fin => 0
 | .fork _ li ti _ lj tj => 1 + max (li.length + ti.size) (lj.length + tj.size)
 | .fork3 _ li ti _ lj tj _ lm tm => 1 + max (li.length + ti.size) (max (lj.length + tj.size) (lm.length + tm.size))
 | .fork4 _ li ti _ lj tj _ lm tm _ lo tq => 1 + max (li.length + ti.size) (max (lj.length + tj.size) (max (lm.length + tm.size) (lo.length + tq.size)))
/-- What waits for nobody's write, and is no load. -/
def freeE : Op → Bool
 | .move _ | .assign _ | .binOp .. | .fieldAddr .. | .indexAddr .. | .extract .. => true
 | _ => false
theorem free_opE {P : Program} {T : Tab} {n : Nat} (hT : TOk P T) {o : Oper} {K : Env → Heap → Prop} {env : Env} {h : Heap} (hq : freeE o.op = true) (hh : opP P T n o K env h) :
  ∃ v, (∀ w : World, (execOp (ev env) o).run P w = .ok (.value v) w) ∧ outv n o K env h v := by
 unfold opP at hh
 split at hh
 ·rename_i t x y ho; rw [ho] at hq; cases hq
 ·rename_i c ho; rw [ho] at hq; cases hq
 ·obtain ⟨r, hr, hz_⟩ := Bd_iff hh
  clear hh
  have hh := hz_
  clear hz_
  obtain ⟨v, h1⟩ := r
  have key : h1 = h ∧ ∀ h2, stepV T o.op env h2 = some (v, h2) := by
   cases hop : o.op <;> rw [hop] at hq hr <;> (try (cases hq; done)) <;> simp only [stepV] at hr ⊢
   case move x => simp only [Option.some.injEq, Prod.mk.injEq] at hr; obtain ⟨rfl, rfl⟩ := hr; exact ⟨rfl, fun _ => rfl⟩
   case assign x => simp only [Option.some.injEq, Prod.mk.injEq] at hr; obtain ⟨rfl, rfl⟩ := hr; exact ⟨rfl, fun _ => rfl⟩
   all_goals
    obtain ⟨u, hu, hr⟩ := Option.map_eq_some_iff.1 hr
    simp only [Prod.mk.injEq] at hr; obtain ⟨rfl, rfl⟩ := hr
    exact ⟨rfl, fun _ => by rw [hu]; rfl⟩
  obtain ⟨rfl, hk⟩ := key
  exact ⟨v, fun w => exec_stepV hT (o := o) w (hk w.heap), hh⟩
def okL (md : Region.Mode) (ops : Array Oper) (ds : List Nat) : Array Bool → List (Nat × Bool) → Option (Array Bool)
 | l, [] => some l
 | l, (i, true) :: r => if (Region.free md ops l i && (Region.ready md ops l).contains i && closedB md ops l && (lastB md ops l ds i || (match ops[i]? with | some o => freeE o.op | none => false)) && (match ops[i]? with | some o => quietOp o.op | none => false)) = true then okL md ops ds (l.setIfInBounds i true) r else none
 | l, (i, false) :: r => if (Region.ready md ops l == [i]) = true then okL md ops ds (l.setIfInBounds i true) r else none
def okO {α : Type} (o : Option α) (f : α → Bool) : Bool := match o with
 | some a => f a
 | none => false
def okT (md : Region.Mode) (ops : Array Oper) (ds : List Nat) : Array Bool → PT → Bool
 | l, .fin => (Region.ready md ops l).isEmpty
 | l, .fork i li ti j lj tj => (Region.ready md ops l == [i, j]) && okO (okL md ops ds (l.setIfInBounds i true) li) (fun l' => okT md ops ds l' ti) && okO (okL md ops ds (l.setIfInBounds j true) lj) (fun l' => okT md ops ds l' tj)
 | l, .fork3 i li ti j lj tj m lm tm => (Region.ready md ops l == [i, j, m]) && okO (okL md ops ds (l.setIfInBounds i true) li) (fun l' => okT md ops ds l' ti) && okO (okL md ops ds (l.setIfInBounds j true) lj) (fun l' => okT md ops ds l' tj) && okO (okL md ops ds (l.setIfInBounds m true) lm) (fun l' => okT md ops ds l' tm)
 | l, .fork4 i li ti j lj tj m lm tm o lo tq => (Region.ready md ops l == [i, j, m, o]) && okO (okL md ops ds (l.setIfInBounds i true) li) (fun l' => okT md ops ds l' ti) && okO (okL md ops ds (l.setIfInBounds j true) lj) (fun l' => okT md ops ds l' tj) && okO (okL md ops ds (l.setIfInBounds m true) lm) (fun l' => okT md ops ds l' tm) && okO (okL md ops ds (l.setIfInBounds o true) lo) (fun l' => okT md ops ds l' tq)
def plT (P : Program) (T : Tab) (n : Nat) (all : Array Oper) (ds : List Nat) : PT → (Env → Heap → Prop) → Env → Heap → Prop
 | .fin, K => K
 | .fork i li ti j lj tj, K => fun env h => plansP P T n all ds ((i, false) :: li) (plT P T n all ds ti K) env h ∧ plansP P T n all ds ((j, false) :: lj) (plT P T n all ds tj K) env h
 | .fork3 i li ti j lj tj m lm tm, K => fun env h => plansP P T n all ds ((i, false) :: li) (plT P T n all ds ti K) env h ∧ plansP P T n all ds ((j, false) :: lj) (plT P T n all ds tj K) env h ∧ plansP P T n all ds ((m, false) :: lm) (plT P T n all ds tm K) env h
 | .fork4 i li ti j lj tj m lm tm o lo tq, K => fun env h => plansP P T n all ds ((i, false) :: li) (plT P T n all ds ti K) env h ∧ plansP P T n all ds ((j, false) :: lj) (plT P T n all ds tj K) env h ∧ plansP P T n all ds ((m, false) :: lm) (plT P T n all ds tm K) env h ∧ plansP P T n all ds ((o, false) :: lo) (plT P T n all ds tq K) env h
section
variable {P : Program} {n : Nat}
theorem wpAnyR_more {ops : Array Oper} {ds : List Nat} {Q : Exit → Env → Heap → Prop} {w0 : World} : ∀ (fuel : Nat) (listed : Array Bool) (a : Act) (w : World), wpAnyR P .any ops (KQ n w0 Q) ds fuel listed a w → wpAnyR P .any ops (KQ n w0 Q) ds (fuel + 1) listed a w
 | 0, listed, a, w, h => ⟨fun _ => h.2, fun i hi => by rw [h.1] at hi; cases hi⟩
 | fuel + 1, listed, a, w, h => ⟨h.1, fun i hi => wpOp_mono (fun a' w' h' => ⟨h'.1, wpAnyR_more fuel _ a' w' h'.2⟩) (h.2 i hi)⟩
theorem wpAnyR_le {ops : Array Oper} {ds : List Nat} {Q : Exit → Env → Heap → Prop} {w0 : World} {listed : Array Bool} {a : Act} {w : World} {f g : Nat} (hfg : f ≤ g) (h : wpAnyR P .any ops (KQ n w0 Q) ds f listed a w) : wpAnyR P .any ops (KQ n w0 Q) ds g listed a w := by
 obtain ⟨d, rfl⟩ : ∃ d, g = f + d := ⟨g - f, by omega⟩
 clear hfg
 induction d with
 | zero => exact h
 | succ d ih => exact wpAnyR_more _ _ _ _ ih
end
section
variable {P : Program} {T : Tab} {n : Nat} (hT : TOk P T)
include hT
theorem plan_soundC {ops : Array Oper} {ds : List Nat} {Q : Exit → Env → Heap → Prop} {w0 : World} (hsel : Region.noSelect ops = true) (hQ : ∀ c env h, Q (.panic c) env h → False) :
  ∀ (pl : List (Nat × Bool)) (K' : Env → Heap → Prop) (l' : Array Bool) (fuel : Nat) (listed : Array Bool) (env : Env) (a : Act) (w : World), okL .any ops ds listed pl = some l' → Agree n a env → Fr w0 w →
   plansP P T n ops ds pl K' env w.heap → (∀ env' a' w', Agree n a' env' → Fr w0 w' → K' env' w'.heap → wpAnyR P .any ops (KQ n w0 Q) ds fuel l' a' w') → wpAnyR P .any ops (KQ n w0 Q) ds (fuel + pl.length) listed a w
 | [], K', l', fuel, listed, env, a, w, hok, ha, hf, h, hc => by
  injection hok with hok
  subst hok
  exact hc env a w ha hf h
 | (i, first) :: r, K', l', fuel, listed, env, a, w, hok, ha, hf, h, hc => by
  rw [List.length_cons, ← Nat.add_assoc]
  simp only [plansP] at h
  obtain ⟨o, ho, h⟩ := Bd_iff h
  unfold Gd at h
  have hpan : ∀ (v : Value) (c : List PanicEntry) (a : Act) (w : World), KQ n w0 Q (.panic c) (a.put o.dst v) w → KQ n w0 Q (.panic c) a w := by
   rintro v c a w ⟨env, _, _, hq⟩
   exact (hQ c env _ hq).elim
  cases first with
  | true =>
   rw [okL, Option.ite_none_right_eq_some] at hok
   obtain ⟨hcnd, hok⟩ := hok
   simp only [Bool.and_eq_true] at hcnd
   obtain ⟨⟨⟨⟨h1, h2⟩, h3⟩, h4⟩, h5⟩ := hcnd
   rw [ho] at h5
   dsimp only at h5
   by_cases hfr : freeE o.op = true
   ·have hyld : ∃ v, YieldsIf P ops (fun _ => True) o v a ∧ outv n o (fun env' h' => plansP P T n ops ds r K' env' h') env w.heap v := by
     split at h
     ·rename_i hg
      obtain ⟨v, hv, hk⟩ := free_opE hT hfr h
      refine ⟨v, .inl ⟨by rw [wanted_guard ha]; exact hg, fun w' _ => by rw [ha.eval]; exact hv w'⟩, hk.1, hk.2.2⟩
     ·rename_i hg
      exact ⟨undef, .inr ⟨by rw [wanted_guard ha]; simpa using hg, rfl⟩, h⟩
    obtain ⟨v, hy, hk⟩ := hyld
    refine wpAnyR_firstF ho (Region.noSelect_spec hsel) (hpan v) _ listed a w (Region.free_spec ho h1) (by simpa using h2) hy ?_
    exact plan_soundC hsel hQ r K' l' fuel (listed.setIfInBounds i true) _ _ w hok (ha.putO (dstB_spec hk.1) v) hf hk.2 hc
   replace h4 : lastB .any ops listed ds i = true := by
    rw [ho] at h4
    simpa [hfr] using h4
   have hyld : ∃ v, YieldsIf P ops (Pres w) o v a ∧ outv n o (fun env' h' => plansP P T n ops ds r K' env' h') env w.heap v := by
    split at h
    ·rename_i hg
     obtain ⟨v, hv, hk⟩ := quiet_opP hT h5 h
     refine ⟨v, .inl ⟨by rw [wanted_guard ha]; exact hg, fun w' hp => by rw [ha.eval]; exact hv w' hp⟩, hk.1, hk.2.2⟩
    ·rename_i hg
     exact ⟨undef, .inr ⟨by rw [wanted_guard ha]; simpa using hg, rfl⟩, h⟩
   obtain ⟨v, hy, hk⟩ := hyld
   refine wpAnyR_first ho (Region.noSelect_spec hsel) (hpan v) ops.size _ listed a w (Region.free_spec ho h1) (closedB_spec h3)
    (fun d hm hun => by have := List.all_eq_true.1 h4 d hm; rw [hun] at this; simpa using this) (by simpa using h2) hy ?_
   exact plan_soundC hsel hQ r K' l' fuel (listed.setIfInBounds i true) _ _ w hok (ha.putO (dstB_spec hk.1) v) hf hk.2 hc
  | false =>
   rw [okL, Option.ite_none_right_eq_some] at hok
   obtain ⟨hcnd, hok⟩ := hok
   have h1 : Region.ready .any ops listed = [i] := by simpa using hcnd
   refine ⟨(by rw [h1]; intro h; cases h), ?_⟩
   rw [h1]
   intro j hj
   simp only [List.mem_singleton] at hj
   subst hj
   unfold wpOp
   simp only [ho]
   rw [wanted_guard ha]
   split at h
   ·rename_i hg
    simp only [hg, if_true]
    refine .inl (Oper.wp_mono ?_ (opP_sound hT ha h))
    rintro a' w' ⟨env', ha', hf', hp, hk⟩
    exact ⟨fun hd => hp (by simpa using hd), plan_soundC hsel hQ r K' l' fuel (listed.setIfInBounds j true) env' a' w' hok ha' (hf.trans hf') hk hc⟩
   ·rename_i hg
    simp only [hg]
    exact ⟨fun _ => HPres.refl _, plan_soundC hsel hQ r K' l' fuel (listed.setIfInBounds j true) _ _ w hok (ha.putO (dstB_spec h.1) undef) hf h.2 hc⟩
/-- One operation that is ready, then a plan. -/
theorem plan_one {ops : Array Oper} {ds : List Nat} {Q : Exit → Env → Heap → Prop} {w0 : World} {j : Nat} {r : List (Nat × Bool)} {K' : Env → Heap → Prop} {fuel : Nat} {listed : Array Bool} {env : Env} {a : Act} {w : World} (ha : Agree n a env) (hf : Fr w0 w)
  (h : plansP P T n ops ds ((j, false) :: r) K' env w.heap) (hc : ∀ env' a' w', Agree n a' env' → Fr w0 w' → plansP P T n ops ds r K' env' w'.heap → wpAnyR P .any ops (KQ n w0 Q) ds fuel (listed.setIfInBounds j true) a' w') :
  wpOp P ops (KQ n w0 Q) j (fun a' w' => (j ∉ ds → Pres w w') ∧ wpAnyR P .any ops (KQ n w0 Q) ds fuel (listed.setIfInBounds j true) a' w') a w := by
 simp only [plansP] at h
 obtain ⟨o, ho, h⟩ := Bd_iff h
 unfold Gd at h
 unfold wpOp
 simp only [ho]
 rw [wanted_guard ha]
 split at h
 ·rename_i hg
  simp only [hg, if_true]
  refine .inl (Oper.wp_mono ?_ (opP_sound hT ha h))
  rintro a' w' ⟨env', ha', hf', hp, hk⟩
  exact ⟨fun hd => hp (by simpa using hd), hc env' a' w' ha' (hf.trans hf') hk⟩
 ·rename_i hg
  simp only [hg]
  exact ⟨fun _ => HPres.refl _, hc _ _ w (ha.putO (dstB_spec h.1) undef) hf h.2⟩
theorem tree_sound {ops : Array Oper} {ds : List Nat} {Q : Exit → Env → Heap → Prop} {w0 : World} (hsel : Region.noSelect ops = true) (hQ : ∀ c env h, Q (.panic c) env h → False) :
  ∀ (t : PT) (fuel : Nat) (listed : Array Bool) (env : Env) (a : Act) (w : World), t.size ≤ fuel → okT .any ops ds listed t = true → Agree n a env → Fr w0 w →
   plT P T n ops ds t (Q .normal) env w.heap → wpAnyR P .any ops (KQ n w0 Q) ds fuel listed a w
 | .fin, fuel, listed, env, a, w, hl, hok, ha, hf, h => by
  have hr : Region.ready .any ops listed = [] := by simpa [okT] using hok
  cases fuel with
  | zero => exact ⟨hr, env, ha, hf, h⟩
  | succ f => exact ⟨fun _ => ⟨env, ha, hf, h⟩, by rw [hr]; intro i hi; cases hi⟩
 | .fork i li ti j lj tj, fuel, listed, env, a, w, hl, hok, ha, hf, h => by
  simp only [PT.size] at hl
  obtain ⟨fuel, rfl⟩ : ∃ f, fuel = f + 1 := ⟨fuel - 1, by omega⟩
  simp only [okT, Bool.and_eq_true, beq_iff_eq] at hok
  obtain ⟨⟨h1, h2⟩, h3⟩ := hok
  obtain ⟨g1, g2⟩ : plansP P T n ops ds ((i, false) :: li) (plT P T n ops ds ti (Q .normal)) env w.heap ∧ plansP P T n ops ds ((j, false) :: lj) (plT P T n ops ds tj (Q .normal)) env w.heap := h
  refine ⟨(by rw [h1]; intro h; cases h), ?_⟩
  rw [h1]
  intro q hq
  have hq' : q = i ∨ q = j := by simpa using hq
  rcases hq' with rfl | rfl
  ·cases e : okL .any ops ds (listed.setIfInBounds q true) li with
   | none => rw [e] at h2; cases h2
   | some l' =>
    rw [e] at h2
    refine plan_one hT ha hf g1 (fun env' a' w' ha' hf' hk => ?_)
    refine wpAnyR_le (f := (fuel - li.length) + li.length) (by omega) ?_
    exact plan_soundC hT hsel hQ li _ l' (fuel - li.length) _ env' a' w' e ha' hf' hk (fun env2 a2 w2 ha2 hf2 hk2 => tree_sound hsel hQ ti (fuel - li.length) l' env2 a2 w2 (by omega) h2 ha2 hf2 hk2)
  ·cases e : okL .any ops ds (listed.setIfInBounds q true) lj with
   | none => rw [e] at h3; cases h3
   | some l' =>
    rw [e] at h3
    refine plan_one hT ha hf g2 (fun env' a' w' ha' hf' hk => ?_)
    refine wpAnyR_le (f := (fuel - lj.length) + lj.length) (by omega) ?_
    exact plan_soundC hT hsel hQ lj _ l' (fuel - lj.length) _ env' a' w' e ha' hf' hk (fun env2 a2 w2 ha2 hf2 hk2 => tree_sound hsel hQ tj (fuel - lj.length) l' env2 a2 w2 (by omega) h3 ha2 hf2 hk2)
 | .fork3 i li ti j lj tj m lm tm, fuel, listed, env, a, w, hl, hok, ha, hf, h => by
  simp only [PT.size] at hl
  obtain ⟨fuel, rfl⟩ : ∃ f, fuel = f + 1 := ⟨fuel - 1, by omega⟩
  simp only [okT, Bool.and_eq_true, beq_iff_eq] at hok
  obtain ⟨⟨⟨h1, h2⟩, h3⟩, h4⟩ := hok
  obtain ⟨g1, g2, g3⟩ : plansP P T n ops ds ((i, false) :: li) (plT P T n ops ds ti (Q .normal)) env w.heap ∧ plansP P T n ops ds ((j, false) :: lj) (plT P T n ops ds tj (Q .normal)) env w.heap ∧ plansP P T n ops ds ((m, false) :: lm) (plT P T n ops ds tm (Q .normal)) env w.heap := h
  refine ⟨(by rw [h1]; intro h; cases h), ?_⟩
  rw [h1]
  intro q hq
  have hq' : q = i ∨ q = j ∨ q = m := by simpa using hq
  rcases hq' with rfl | rfl | rfl
  ·cases e : okL .any ops ds (listed.setIfInBounds q true) li with
   | none => rw [e] at h2; cases h2
   | some l' =>
    rw [e] at h2
    refine plan_one hT ha hf g1 (fun env' a' w' ha' hf' hk => ?_)
    refine wpAnyR_le (f := (fuel - li.length) + li.length) (by omega) ?_
    exact plan_soundC hT hsel hQ li _ l' (fuel - li.length) _ env' a' w' e ha' hf' hk (fun env2 a2 w2 ha2 hf2 hk2 => tree_sound hsel hQ ti (fuel - li.length) l' env2 a2 w2 (by omega) h2 ha2 hf2 hk2)
  ·cases e : okL .any ops ds (listed.setIfInBounds q true) lj with
   | none => rw [e] at h3; cases h3
   | some l' =>
    rw [e] at h3
    refine plan_one hT ha hf g2 (fun env' a' w' ha' hf' hk => ?_)
    refine wpAnyR_le (f := (fuel - lj.length) + lj.length) (by omega) ?_
    exact plan_soundC hT hsel hQ lj _ l' (fuel - lj.length) _ env' a' w' e ha' hf' hk (fun env2 a2 w2 ha2 hf2 hk2 => tree_sound hsel hQ tj (fuel - lj.length) l' env2 a2 w2 (by omega) h3 ha2 hf2 hk2)
  ·cases e : okL .any ops ds (listed.setIfInBounds q true) lm with
   | none => rw [e] at h4; cases h4
   | some l' =>
    rw [e] at h4
    refine plan_one hT ha hf g3 (fun env' a' w' ha' hf' hk => ?_)
    refine wpAnyR_le (f := (fuel - lm.length) + lm.length) (by omega) ?_
    exact plan_soundC hT hsel hQ lm _ l' (fuel - lm.length) _ env' a' w' e ha' hf' hk (fun env2 a2 w2 ha2 hf2 hk2 => tree_sound hsel hQ tm (fuel - lm.length) l' env2 a2 w2 (by omega) h4 ha2 hf2 hk2)
 | .fork4 i li ti j lj tj m lm tm o lo tq, fuel, listed, env, a, w, hl, hok, ha, hf, h => by
  simp only [PT.size] at hl
  obtain ⟨fuel, rfl⟩ : ∃ f, fuel = f + 1 := ⟨fuel - 1, by omega⟩
  simp only [okT, Bool.and_eq_true, beq_iff_eq] at hok
  obtain ⟨⟨⟨⟨h1, h2⟩, h3⟩, h4⟩, h5⟩ := hok
  obtain ⟨g1, g2, g3, g4⟩ : plansP P T n ops ds ((i, false) :: li) (plT P T n ops ds ti (Q .normal)) env w.heap ∧ plansP P T n ops ds ((j, false) :: lj) (plT P T n ops ds tj (Q .normal)) env w.heap ∧ plansP P T n ops ds ((m, false) :: lm) (plT P T n ops ds tm (Q .normal)) env w.heap ∧ plansP P T n ops ds ((o, false) :: lo) (plT P T n ops ds tq (Q .normal)) env w.heap := h
  refine ⟨(by rw [h1]; intro h; cases h), ?_⟩
  rw [h1]
  intro q hq
  have hq' : q = i ∨ q = j ∨ q = m ∨ q = o := by simpa using hq
  rcases hq' with rfl | rfl | rfl | rfl
  ·cases e : okL .any ops ds (listed.setIfInBounds q true) li with
   | none => rw [e] at h2; cases h2
   | some l' =>
    rw [e] at h2
    refine plan_one hT ha hf g1 (fun env' a' w' ha' hf' hk => ?_)
    refine wpAnyR_le (f := (fuel - li.length) + li.length) (by omega) ?_
    exact plan_soundC hT hsel hQ li _ l' (fuel - li.length) _ env' a' w' e ha' hf' hk (fun env2 a2 w2 ha2 hf2 hk2 => tree_sound hsel hQ ti (fuel - li.length) l' env2 a2 w2 (by omega) h2 ha2 hf2 hk2)
  ·cases e : okL .any ops ds (listed.setIfInBounds q true) lj with
   | none => rw [e] at h3; cases h3
   | some l' =>
    rw [e] at h3
    refine plan_one hT ha hf g2 (fun env' a' w' ha' hf' hk => ?_)
    refine wpAnyR_le (f := (fuel - lj.length) + lj.length) (by omega) ?_
    exact plan_soundC hT hsel hQ lj _ l' (fuel - lj.length) _ env' a' w' e ha' hf' hk (fun env2 a2 w2 ha2 hf2 hk2 => tree_sound hsel hQ tj (fuel - lj.length) l' env2 a2 w2 (by omega) h3 ha2 hf2 hk2)
  ·cases e : okL .any ops ds (listed.setIfInBounds q true) lm with
   | none => rw [e] at h4; cases h4
   | some l' =>
    rw [e] at h4
    refine plan_one hT ha hf g3 (fun env' a' w' ha' hf' hk => ?_)
    refine wpAnyR_le (f := (fuel - lm.length) + lm.length) (by omega) ?_
    exact plan_soundC hT hsel hQ lm _ l' (fuel - lm.length) _ env' a' w' e ha' hf' hk (fun env2 a2 w2 ha2 hf2 hk2 => tree_sound hsel hQ tm (fuel - lm.length) l' env2 a2 w2 (by omega) h4 ha2 hf2 hk2)
  ·cases e : okL .any ops ds (listed.setIfInBounds q true) lo with
   | none => rw [e] at h5; cases h5
   | some l' =>
    rw [e] at h5
    refine plan_one hT ha hf g4 (fun env' a' w' ha' hf' hk => ?_)
    refine wpAnyR_le (f := (fuel - lo.length) + lo.length) (by omega) ?_
    exact plan_soundC hT hsel hQ lo _ l' (fuel - lo.length) _ env' a' w' e ha' hf' hk (fun env2 a2 w2 ha2 hf2 hk2 => tree_sound hsel hQ tq (fuel - lo.length) l' env2 a2 w2 (by omega) h5 ha2 hf2 hk2)
theorem den_drawT {id : Nat} {ops : Array Oper} {Qr : Env → Heap → Prop} {k : List It} {env : Env} {h : Heap} (hm : P.follows .mixedOrders = true) (ds : List Nat) (l0 : List (Nat × Bool)) (t : PT)
  (hok : (Region.noSelect ops && decide (l0.length + t.size ≤ ops.size) && okO (okL .any ops ds (Array.replicate ops.size false) l0) (fun l' => okT .any ops ds l' t)) = true)
  (hh : ∀ K : Env → Heap → Prop, (∀ env h, den P n Qr k env h → K env h) → plansP P T n ops ds l0 (plT P T n ops ds t K) env h) : den P n Qr (.code (.region id ops true) :: k) env h := by
 refine den_code ?_
 intro a w ha e
 subst e
 simp only [Bool.and_eq_true, decide_eq_true_eq] at hok
 obtain ⟨⟨h1, h2⟩, h3⟩ := hok
 cases e : okL .any ops ds (Array.replicate ops.size false) l0 with
 | none => rw [e] at h3; cases h3
 | some l' =>
  rw [e] at h3
  refine wp_region_any hm (wpAny_of_R (ds := ds) _ _ _ _ ?_)
  have hs : wpAnyR P .any ops (KQ n w (denQ P n Qr k)) ds (t.size + l0.length) (Array.replicate ops.size false) a { w with drawn := w.drawn + 1 } :=
   plan_soundC hT h1 (Q := denQ P n Qr k) (w0 := w) (fun c env h hq => hq) l0 _ l' t.size _ env a { w with drawn := w.drawn + 1 } e ha ⟨rfl, rfl, rfl⟩ (hh _ (fun _ _ h => h)) (fun env2 a2 w2 ha2 hf2 hk2 => tree_sound hT h1 (fun c env h hq => hq) t t.size l' env2 a2 w2 (Nat.le_refl _) h3 ha2 hf2 hk2)
  exact wpAnyR_le (by omega) hs
/-- The orders meet again: what all of them leave is told once. -/
theorem den_drawTJ {id : Nat} {ops : Array Oper} {Qr : Env → Heap → Prop} {k : List It} {h : Heap} {σ : Type} {e0 : Env} {lc : List (Nat × Value)} (st : σ → List (Nat × Value)) (I : σ → Heap → Prop) (hm : P.follows .mixedOrders = true) (ds : List Nat) (l0 : List (Nat × Bool)) (t : PT)
  (hok : (Region.noSelect ops && decide (l0.length + t.size ≤ ops.size) && okO (okL .any ops ds (Array.replicate ops.size false) l0) (fun l' => okT .any ops ds l' t)) = true)
  (hh : ∀ K : Env → Heap → Prop, (∀ s env h, HasL env (st s ++ lc) → I s h → K env h) → plansP P T n ops ds l0 (plT P T n ops ds t K) (puts e0 lc) h)
  (hr : ∀ s h e, I s h → den P n Qr k (puts e (st s ++ lc)) h) : den P n Qr (.code (.region id ops true) :: k) (puts e0 lc) h :=
 den_drawT hT hm ds l0 t hok (fun K hK => hh K (fun s env h hl hi => hK env h (by rw [← HasL.puts hl]; exact hr s h env hi)))
end
end Go.Proofs.Ytacajcjibhifmaa
