/-
  What the statement FnExactRankBetween uses of the walks, part 3.
  Conditions: each theorem's own.
-/
import Derived.Test.YtjjjgllbocgkbaaG16
import Derived.Test.YtjjjgllbocgkbaaG17
import Derived.Test.YtjjjgllbocgkbaaG14
import Derived.Test.YtjjjgllbocgkbaaG13
import Derived.Test.YtjjjgllbocgkbaaG15
import Derived.Test.YtjjjgllbocgkbaaG18
import Derived.Test.YtjjjgllbocgkbaaG19
import Derived.Test.YtjjjgllbocgkbaaZRankBetween1
import Derived.Test.YtjjjgllbocgkbaaZRankBetween2
set_option linter.unusedVariables false
set_option linter.unusedSimpArgs false
namespace Go.Proofs.Ytjjjgllbocgkbaa
open Go
theorem sclR_len (p k : Int) (r : List Int) : (sclRow p k r).length = r.length := by simp [sclRow]
theorem sclR_get (p k : Int) {r : List Int} {c : Nat} (h : c < r.length) : (sclRow p k r).getD c 0 = (k * r.getD c 0) % p := getD_map_range (α := Int) (fun q : Nat => (k * r.getD q 0) % p) h
/-- Congruence modulo p. -/
def Cg (p a b : Int) : Prop := a % p = b % p
theorem Cg.refl {p : Int} (a : Int) : Cg p a a := rfl
theorem Cg.symm {p a b : Int} (h : Cg p a b) : Cg p b a := Eq.symm h
theorem Cg.trans {p a b c : Int} (h : Cg p a b) (k : Cg p b c) : Cg p a c := Eq.trans h k
theorem Cg.add {p a b c d : Int} (h : Cg p a b) (k : Cg p c d) : Cg p (a + c) (b + d) := by
 unfold Cg at *; rw [Int.add_emod, h, k, ← Int.add_emod]
theorem Cg.mul {p a b c d : Int} (h : Cg p a b) (k : Cg p c d) : Cg p (a * c) (b * d) := by
 unfold Cg at *; rw [Int.mul_emod, h, k, ← Int.mul_emod]
theorem Cg.neg {p a b : Int} (h : Cg p a b) : Cg p (-a) (-b) := by
 have := Cg.mul (Cg.refl (p := p) (-1)) h
 rwa [Int.neg_one_mul, Int.neg_one_mul] at this
theorem Cg.sub {p a b c d : Int} (h : Cg p a b) (k : Cg p c d) : Cg p (a - c) (b - d) := by
 rw [Int.sub_eq_add_neg, Int.sub_eq_add_neg]; exact h.add k.neg
theorem Cg.mod {p : Int} (a : Int) : Cg p (a % p) a := Int.emod_emod a p
theorem Cg.eq {p a b : Int} (h : Cg p a b) (ha : 0 ≤ a ∧ a < p) (hb : 0 ≤ b ∧ b < p) : a = b := by
 unfold Cg at h
 rwa [Int.emod_eq_of_lt ha.1 ha.2, Int.emod_eq_of_lt hb.1 hb.2] at h
theorem Cg.of_eq {p a b : Int} (h : a = b) : Cg p a b := by rw [h]; exact Cg.refl _
/-- A sum. -/
def sm : Nat → (Nat → Int) → Int
 | 0, _ => 0
 | n + 1, f => sm n f + f n
theorem sm_cg {p : Int} : ∀ {n : Nat} {f g : Nat → Int}, (∀ i, i < n → Cg p (f i) (g i)) → Cg p (sm n f) (sm n g)
 | 0, _, _, _ => Cg.refl _
 | n + 1, f, g, h => (sm_cg (n := n) fun i hi => h i (by omega)).add (h n (by omega))
theorem sm_eq : ∀ {n : Nat} {f g : Nat → Int}, (∀ i, i < n → f i = g i) → sm n f = sm n g
 | 0, _, _, _ => rfl
 | n + 1, f, g, h => by rw [sm, sm, sm_eq (n := n) fun i hi => h i (by omega), h n (by omega)]
theorem sm_zero : ∀ {n : Nat} {f : Nat → Int}, (∀ i, i < n → f i = 0) → sm n f = 0
 | 0, _, _ => rfl
 | n + 1, f, h => by rw [sm, sm_zero (n := n) fun i hi => h i (by omega), h n (by omega)]; rfl
theorem sm_add : ∀ (n : Nat) (f g : Nat → Int), sm n (fun i => f i + g i) = sm n f + sm n g
 | 0, _, _ => rfl
 | n + 1, f, g => by simp only [sm]; rw [sm_add n f g]; omega
theorem sm_mul : ∀ (n : Nat) (k : Int) (f : Nat → Int), sm n (fun i => k * f i) = k * sm n f
 | 0, _, _ => by simp [sm]
 | n + 1, k, f => by simp only [sm]; rw [sm_mul n k f, Int.mul_add]
theorem sm_one : ∀ {n k : Nat} {f : Nat → Int}, k < n → (∀ i, i < n → i ≠ k → f i = 0) → sm n f = f k
 | n + 1, k, f, hk, h => by
  rw [sm]
  by_cases e : k = n
  ·subst e; rw [sm_zero fun i hi => h i (by omega) (by omega), Int.zero_add]
  ·rw [sm_one (n := n) (k := k) (by omega) fun i hi he => h i (by omega) he, h n (by omega) (fun e' => e e'.symm), Int.add_zero]
theorem sm_swap : ∀ (n m : Nat) (f : Nat → Nat → Int), sm n (fun i => sm m (f i)) = sm m (fun j => sm n fun i => f i j)
 | 0, m, f => (sm_zero fun _ _ => rfl).symm
 | n + 1, m, f => by simp only [sm]; rw [sm_swap n m f, ← sm_add]
abbrev g2 (L : List (List Int)) (i j : Nat) : Int := (L.getD i default).getD j 0
/-- v is a sum of multiples of the rows of L, modulo p. -/
def Sp (p : Int) (L : List (List Int)) (v : Nat → Int) : Prop := ∃ c : Nat → Int, ∀ j, Cg p (v j) (sm L.length fun i => c i * g2 L i j)
theorem Sp.row {p : Int} {L : List (List Int)} {i : Nat} (hi : i < L.length) : Sp p L (g2 L i) :=
 ⟨fun k => if k = i then 1 else 0, fun j => by
  rw [sm_one (k := i) hi (fun k _ hk => by simp [hk])]
  simp only [if_true, Int.one_mul]; exact Cg.refl _⟩
theorem Sp.zero {p : Int} {L : List (List Int)} : Sp p L fun _ => 0 := ⟨fun _ => 0, fun j => by rw [sm_zero fun i _ => Int.zero_mul _]; exact Cg.refl _⟩
theorem Sp.add {p : Int} {L : List (List Int)} {v w : Nat → Int} : Sp p L v → Sp p L w → Sp p L fun j => v j + w j
 | ⟨c, hc⟩, ⟨d, hd⟩ => ⟨fun i => c i + d i, fun j => by
  rw [show (fun i => (c i + d i) * g2 L i j) = fun i => c i * g2 L i j + d i * g2 L i j from funext fun i => Int.add_mul _ _ _, sm_add]
  exact (hc j).add (hd j)⟩
theorem Sp.mul {p : Int} {L : List (List Int)} {v : Nat → Int} (k : Int) : Sp p L v → Sp p L fun j => k * v j
 | ⟨c, hc⟩ => ⟨fun i => k * c i, fun j => by
  rw [show (fun i => k * c i * g2 L i j) = fun i => k * (c i * g2 L i j) from funext fun i => Int.mul_assoc _ _ _, sm_mul]
  exact (Cg.refl k).mul (hc j)⟩
theorem Sp.cg {p : Int} {L : List (List Int)} {v w : Nat → Int} (h : ∀ j, Cg p (w j) (v j)) : Sp p L v → Sp p L w
 | ⟨c, hc⟩ => ⟨c, fun j => (h j).trans (hc j)⟩
theorem Sp.sub {p : Int} {L : List (List Int)} {v w : Nat → Int} (k : Int) (h1 : Sp p L v) (h2 : Sp p L w) : Sp p L fun j => v j - k * w j :=
 (h1.add (h2.mul (-k))).cg fun j => Cg.of_eq (by rw [Int.neg_mul]; omega)
/-- All rows of A are in the span of B. -/
def Le (p : Int) (A B : List (List Int)) : Prop := ∀ i, i < A.length → Sp p B (g2 A i)
theorem Sp.sm {p : Int} {B : List (List Int)} {v : Nat → Nat → Int} : ∀ {n : Nat} (_ : ∀ i, i < n → Sp p B (v i)) (c : Nat → Int), Sp p B fun j => sm n fun i => c i * v i j
 | 0, _, _ => Sp.zero
 | n + 1, h, c => (Sp.sm (n := n) (fun i hi => h i (by omega)) c).add ((h n (by omega)).mul (c n))
theorem Sp.le {p : Int} {A B : List (List Int)} {v : Nat → Int} (h : Le p A B) : Sp p A v → Sp p B v
 | ⟨c, hc⟩ => (Sp.sm h c).cg hc
theorem Le.refl {p : Int} {A : List (List Int)} : Le p A A := fun _ hi => Sp.row hi
theorem Le.trans {p : Int} {A B C : List (List Int)} (h : Le p A B) (k : Le p B C) : Le p A C := fun i hi => (h i hi).le k
def Eqv (p : Int) (A B : List (List Int)) : Prop := Le p A B ∧ Le p B A
theorem Eqv.refl {p : Int} {A : List (List Int)} : Eqv p A A := ⟨Le.refl, Le.refl⟩
theorem Eqv.symm {p : Int} {A B : List (List Int)} (h : Eqv p A B) : Eqv p B A := ⟨h.2, h.1⟩
theorem Eqv.trans {p : Int} {A B C : List (List Int)} (h : Eqv p A B) (k : Eqv p B C) : Eqv p A C := ⟨h.1.trans k.1, k.2.trans h.2⟩
/-- L is reduced: its rows begin with a 1 at the places l, from left to right, and have 0 at the others' places. -/
structure Rr (p : Int) (w : Nat) (L : List (List Int)) (l : Nat → Nat) : Prop where
 len : ∀ i, i < L.length → (L.getD i default).length = w
 bnd : ∀ i, i < L.length → Bnd p (L.getD i default)
 lt : ∀ i, i < L.length → l i < w
 one : ∀ i, i < L.length → g2 L i (l i) = 1
 zb : ∀ i j, i < L.length → j < l i → g2 L i j = 0
 inc : ∀ i k, i < k → k < L.length → l i < l k
 cl : ∀ i k, i < L.length → k < L.length → k ≠ i → g2 L k (l i) = 0
theorem g2_out {L : List (List Int)} {i j : Nat} (h : (L.getD i default).length ≤ j) : g2 L i j = 0 := by
 rw [g2, List.getD_eq_getElem?_getD, List.getElem?_eq_none h]; rfl
theorem Rr.coef {p : Int} {w : Nat} {L : List (List Int)} {l : Nat → Nat} (r : Rr p w L l) {v : Nat → Int} : Sp p L v → ∀ j, Cg p (v j) (sm L.length fun i => v (l i) * g2 L i j)
 | ⟨c, hc⟩ => fun j => (hc j).trans (sm_cg fun i hi => Cg.mul (Cg.symm ((hc (l i)).trans (Cg.of_eq (by
  rw [sm_one (k := i) hi (fun k hk he => by rw [r.cl i k hi hk he, Int.mul_zero]), r.one i hi, Int.mul_one])))) (Cg.refl _))
theorem Rr.lead_mem {p : Int} (hp : 1 < p) {w : Nat} {L : List (List Int)} {l : Nat → Nat} (r : Rr p w L l) {v : Nat → Int} (hv : Sp p L v) {m : Nat} (h1 : ¬ Cg p (v m) 0) (h0 : ∀ j, j < m → Cg p (v j) 0) : ∃ i, i < L.length ∧ l i = m := by
 have hc := r.coef hv
 -- the first place at which v is not 0
 have key : ∀ n, n ≤ L.length → (∀ i, i < n → Cg p (v (l i)) 0) ∨ ∃ i, i < n ∧ ¬ Cg p (v (l i)) 0 ∧ ∀ q, q < i → Cg p (v (l q)) 0 := by
  intro n
  induction n with
  | zero => intro _; exact .inl fun i hi => by omega
  | succ n ih =>
   intro hn
   rcases ih (by omega) with h | ⟨i, hi, h⟩
   ·by_cases e : Cg p (v (l n)) 0
    ·exact .inl fun i hi => by
      rcases Nat.lt_succ_iff_lt_or_eq.1 hi with h' | h'
      ·exact h i h'
      ·rw [h']; exact e
    ·exact .inr ⟨n, by omega, e, h⟩
   ·exact .inr ⟨i, by omega, h⟩
 rcases key L.length (Nat.le_refl _) with h | ⟨i, hi, h2, h3⟩
 ·exact absurd ((hc m).trans ((sm_cg fun i hi => ((h i hi).mul (Cg.refl _)).trans (Cg.of_eq (Int.zero_mul _))).trans (Cg.of_eq (sm_zero (n := L.length) (f := fun _ => 0) fun _ _ => rfl)))) h1
 ·refine ⟨i, hi, ?_⟩
  have a : ¬ l i < m := fun hlt => h2 (h0 _ hlt)
  have b : ¬ m < l i := fun hlt => h1 ((hc m).trans ((sm_cg (g := fun _ => 0) fun q hq => by
   rcases Nat.lt_or_ge q i with hqi | hqi
   ·exact ((h3 q hqi).mul (Cg.refl _)).trans (Cg.of_eq (Int.zero_mul _))
   ·have : l i ≤ l q := by
     rcases Nat.lt_or_eq_of_le hqi with h' | h'
     ·exact Nat.le_of_lt (r.inc i q h' hq)
     ·rw [h']; exact Nat.le_refl _
    rw [r.zb q m hq (by omega), Int.mul_zero]; exact Cg.refl _).trans (Cg.of_eq (sm_zero fun _ _ => rfl))))
  omega
theorem not_cg_one {p : Int} (hp : 1 < p) : ¬ Cg p 1 0 := by
 unfold Cg; rw [Int.emod_eq_of_lt (by omega) hp, Int.zero_emod]; decide
theorem Rr.leads_in {p : Int} (hp : 1 < p) {w : Nat} {L M : List (List Int)} {l m : Nat → Nat} (r : Rr p w L l) {w' : Nat} (s : Rr p w' M m) (h : Le p M L) {k : Nat} (hk : k < M.length) : ∃ i, i < L.length ∧ l i = m k :=
 r.lead_mem hp (h k hk) (by rw [s.one k hk]; exact not_cg_one hp) (fun j hj => by rw [s.zb k j hk hj]; exact Cg.refl _)
/-- Two lists of places, each from left to right, with the same places. -/
theorem places_eq {a b : Nat} {l m : Nat → Nat} (hl : ∀ i k, i < k → k < a → l i < l k) (hm : ∀ i k, i < k → k < b → m i < m k) (h1 : ∀ k, k < a → ∃ i, i < b ∧ m i = l k) (h2 : ∀ k, k < b → ∃ i, i < a ∧ l i = m k) : ∀ k, k < a → k < b ∧ m k = l k := by
 intro k
 induction k using Nat.strongRecOn with
 | _ k ih =>
  intro hk
  obtain ⟨q, hq, eq⟩ := h1 k hk
  have hqk : k ≤ q := Nat.le_of_not_lt fun hlt => by
   have := (ih q hlt (by omega)).2
   have := hl q k hlt hk
   omega
  have hkb : k < b := by omega
  obtain ⟨i, hi, ei⟩ := h2 k hkb
  have hik : k ≤ i := Nat.le_of_not_lt fun hlt => by
   have := (ih i hlt (by omega)).2
   have := hm i k hlt hkb
   omega
  have x : l k ≤ l i := by
   rcases Nat.lt_or_eq_of_le hik with h' | h'
   ·exact Nat.le_of_lt (hl k i h' hi)
   ·rw [h']; exact Nat.le_refl _
  have y : m k ≤ m q := by
   rcases Nat.lt_or_eq_of_le hqk with h' | h'
   ·exact Nat.le_of_lt (hm k q h' hq)
   ·rw [h']; exact Nat.le_refl _
  exact ⟨hkb, by omega⟩
theorem rows_ext {A B : List (List Int)} (hl : A.length = B.length) (hr : ∀ i, i < A.length → (A.getD i default).length = (B.getD i default).length) (h : ∀ i j, i < A.length → j < (A.getD i default).length → g2 A i j = g2 B i j) : A = B := by
 apply List.ext_getElem hl
 intro i h1 h2
 have e1 : A.getD i default = A[i] := by rw [List.getD_eq_getElem?_getD, List.getElem?_eq_getElem h1]; rfl
 have e2 : B.getD i default = B[i] := by rw [List.getD_eq_getElem?_getD, List.getElem?_eq_getElem h2]; rfl
 have hri := hr i h1
 have hi := h i
 simp only [g2] at hi
 rw [e1, e2] at hri hi
 apply List.ext_getElem hri
 intro j k1 k2
 have := hi j h1 k1
 rwa [List.getD_eq_getElem?_getD, List.getD_eq_getElem?_getD, List.getElem?_eq_getElem k1, List.getElem?_eq_getElem k2] at this
/-- With the same places, a reduced list in the span of another one is that one. -/
theorem Rr.same {p : Int} {w : Nat} {L M : List (List Int)} {l m : Nat → Nat} (r : Rr p w L l) (s : Rr p w M m) (hlen : L.length = M.length) (hlm : ∀ k, k < L.length → m k = l k) (h : Le p L M) : L = M := by
 refine rows_ext hlen (fun i hi => by rw [r.len i hi, s.len i (by omega)]) (fun i j hi hj => ?_)
 have hc := s.coef (h i hi) j
 have e : sm M.length (fun k => g2 L i (m k) * g2 M k j) = g2 M i j := by
  rw [sm_one (k := i) (by omega) (fun k hk he => by rw [hlm k (by omega), r.cl k i (by omega) hi (Ne.symm he), Int.zero_mul]), hlm i hi, r.one i hi, Int.one_mul]
 rw [e] at hc
 rw [r.len i hi] at hj
 exact hc.eq ((r.bnd i hi).at (by rw [r.len i hi]; exact hj)) ((s.bnd i (by omega)).at (by rw [s.len i (by omega)]; exact hj))
theorem Rr.unique {p : Int} (hp : 1 < p) {w : Nat} {L M : List (List Int)} {l m : Nat → Nat} (r : Rr p w L l) (s : Rr p w M m) (h : Eqv p L M) : L = M ∧ ∀ k, k < L.length → m k = l k := by
 have h1 := places_eq r.inc s.inc (fun k hk => s.leads_in hp r h.1 hk) (fun k hk => r.leads_in hp s h.2 hk)
 have h2 := places_eq s.inc r.inc (fun k hk => r.leads_in hp s h.2 hk) (fun k hk => s.leads_in hp r h.1 hk)
 have hlen : L.length = M.length := by
  apply Nat.le_antisymm
  ·apply Nat.le_of_not_lt; intro hlt; exact Nat.lt_irrefl _ (h1 M.length hlt).1
  ·apply Nat.le_of_not_lt; intro hlt; exact Nat.lt_irrefl _ (h2 L.length hlt).1
 exact ⟨r.same s hlen (fun k hk => (h1 k hk).2) h.1, fun k hk => (h1 k hk).2⟩
/-- The reduced list of the span of some rows. -/
def wd (rows : List (List Int)) : Nat := (rows.getD 0 default).length
def IsEch (p : Int) (rows L : List (List Int)) : Prop := (∃ l, Rr p (wd rows) L l) ∧ Eqv p L rows
noncomputable def ech (p : Int) (rows : List (List Int)) : List (List Int) := Classical.epsilon (IsEch p rows)
theorem Rr.nil {p : Int} {w : Nat} {l : Nat → Nat} : Rr p w [] l := ⟨fun i h => by simp at h, fun i h => by simp at h, fun i h => by simp at h, fun i h => by simp at h, fun i j h => by simp at h, fun i k _ h => by simp at h, fun i k h => by simp at h⟩
theorem ech_eq {p : Int} (hp : 1 < p) {rows L : List (List Int)} {w : Nat} {l : Nat → Nat} (r : Rr p w L l) (h : Eqv p L rows) (hw : rows ≠ [] → wd rows = w) : ech p rows = L := by
 have hL : IsEch p rows L := by
  refine ⟨⟨l, ?_⟩, h⟩
  by_cases e : rows = []
  ·subst e
   -- no row of L can be in the span of nothing
   have : L = [] := by
    cases L with
    | nil => rfl
    | cons a t =>
     obtain ⟨c, hc⟩ := h.1 0 (by simp)
     have := hc (l 0)
     rw [r.one 0 (by simp)] at this
     exact absurd this (not_cg_one hp)
   subst this; exact Rr.nil
  ·rw [hw e]; exact r
 have he : IsEch p rows (ech p rows) := Classical.epsilon_spec ⟨L, hL⟩
 obtain ⟨⟨l1, r1⟩, e1⟩ := hL
 obtain ⟨⟨l2, r2⟩, e2⟩ := he
 exact (r2.unique hp r1 (e2.trans e1.symm)).1
theorem lessRow_len (p k : Int) (a b : List Int) : (lessRow p k a b).length = a.length := by simp [lessRow]
theorem lessRow_get (p k : Int) {a b : List Int} {c : Nat} (h : c < a.length) : (lessRow p k a b).getD c 0 = (a.getD c 0 - k * b.getD c 0) % p := getD_map_range (α := Int) (fun q : Nat => (a.getD q 0 - k * b.getD q 0) % p) h
theorem getD_out {xs : List Int} {j : Nat} (h : xs.length ≤ j) : xs.getD j 0 = 0 := by rw [List.getD_eq_getElem?_getD, List.getElem?_eq_none h]; rfl
theorem lessRow_cg (p k : Int) {a b : List Int} (hl : b.length ≤ a.length) (j : Nat) : Cg p ((lessRow p k a b).getD j 0) (a.getD j 0 - k * b.getD j 0) := by
 rcases Nat.lt_or_ge j a.length with h | h
 ·rw [lessRow_get p k h]; exact Cg.mod _
 ·rw [getD_out (by rw [lessRow_len]; exact h), getD_out h, getD_out (by omega), Int.mul_zero]; exact Cg.refl _
theorem sclRow_cg (p k : Int) (r : List Int) (j : Nat) : Cg p ((sclRow p k r).getD j 0) (k * r.getD j 0) := by
 rcases Nat.lt_or_ge j r.length with h | h
 ·rw [sclR_get p k h]; exact Cg.mod _
 ·rw [getD_out (by rw [sclR_len]; exact h), getD_out h, Int.mul_zero]; exact Cg.refl _
theorem bnd_map {p : Int} (hp : 0 < p) (f : Nat → Int) (n : Nat) : Bnd p ((List.range n).map fun q => f q % p) := fun x hx => by
 obtain ⟨q, _, rfl⟩ := List.mem_map.1 hx
 exact ⟨Int.emod_nonneg _ (by omega), Int.emod_lt_of_pos _ hp⟩
theorem lessRow_bnd {p : Int} (hp : 0 < p) (k : Int) (a b : List Int) : Bnd p (lessRow p k a b) := bnd_map hp _ _
theorem sclRow_bnd {p : Int} (hp : 0 < p) (k : Int) (r : List Int) : Bnd p (sclRow p k r) := bnd_map hp _ _
theorem bnd_zero {p : Int} {v : List Int} (h : Bnd p v) {j : Nat} (e : Cg p (v.getD j 0) 0) : v.getD j 0 = 0 := by
 rcases Nat.lt_or_ge j v.length with hj | hj
 ·have := h.at hj
  exact e.eq this ⟨by omega, by omega⟩
 ·exact getD_out hj
/-- What is left of a row behind k rows of a list. -/
def restN (p : Int) (L : List (List Int)) (v : List Int) : Nat → List Int
 | 0 => v
 | k + 1 => lessRow p ((restN p L v k).getD (leadP (L.getD k default)).toNat 0) (restN p L v k) (L.getD k default)
def restP (p : Int) (L : List (List Int)) (v : List Int) : List Int := restN p L v L.length
theorem restN_len (p : Int) (L : List (List Int)) (v : List Int) : ∀ k, (restN p L v k).length = v.length
 | 0 => rfl
 | k + 1 => by rw [restN, lessRow_len, restN_len p L v k]
theorem restN_bnd {p : Int} (hp : 0 < p) {L : List (List Int)} {v : List Int} (hv : Bnd p v) : ∀ k, Bnd p (restN p L v k)
 | 0 => hv
 | k + 1 => lessRow_bnd hp _ _ _
theorem restP_len (p : Int) (L : List (List Int)) (v : List Int) : (restP p L v).length = v.length := restN_len p L v _
theorem restP_bnd {p : Int} (hp : 0 < p) {L : List (List Int)} {v : List Int} (hv : Bnd p v) : Bnd p (restP p L v) := restN_bnd hp hv _
section
variable {p : Int} {w : Nat} {L : List (List Int)} {l : Nat → Nat}
theorem Rr.lead (r : Rr p w L l) {i : Nat} (hi : i < L.length) : leadP (L.getD i default) = l i :=
 leadP_at (by rw [r.len i hi]; exact r.lt i hi) (fun j hj => r.zb i j hi hj) (by rw [show (L.getD i default).getD (l i) 0 = 1 from r.one i hi]; decide)
theorem restN_sub (r : Rr p w L l) {v : List Int} (hv : v.length = w) : ∀ k, k ≤ L.length → ∃ s, Sp p L s ∧ ∀ j, Cg p ((restN p L v k).getD j 0) (v.getD j 0 - s j)
 | 0, _ => ⟨fun _ => 0, Sp.zero, fun j => Cg.of_eq (Int.sub_zero _).symm⟩
 | k + 1, hk => by
  obtain ⟨s, hs, h⟩ := restN_sub r hv k (by omega)
  refine ⟨fun j => s j + ((restN p L v k).getD (leadP (L.getD k default)).toNat 0) * g2 L k j, hs.add ((Sp.row (by omega)).mul _), fun j => ?_⟩
  refine (lessRow_cg p _ (by rw [restN_len, hv, r.len k (by omega)]; exact Nat.le_refl _) j).trans (((h j).sub (Cg.refl _)).trans (Cg.of_eq ?_))
  show _ = v.getD j 0 - (s j + _ * (L.getD k default).getD j 0)
  omega
theorem restN_zero (r : Rr p w L l) {v : List Int} (hv : v.length = w) : ∀ k, k ≤ L.length → ∀ i, i < k → Cg p ((restN p L v k).getD (l i) 0) 0
 | k + 1, hk, i, hi => by
  refine (lessRow_cg p _ (by rw [restN_len, hv, r.len k (by omega)]; exact Nat.le_refl _) _).trans ?_
  rcases Nat.lt_succ_iff_lt_or_eq.1 hi with h | h
  ·rw [show (L.getD k default).getD (l i) 0 = 0 from r.cl i k (by omega) (by omega) (by omega), Int.mul_zero, Int.sub_zero]
   exact restN_zero r hv k (by omega) i h
  ·subst h
   rw [show (L.getD i default).getD (l i) 0 = 1 from r.one i (by omega), Int.mul_one, r.lead (by omega), Int.toNat_natCast, Int.sub_self]
   exact Cg.refl _
theorem restP_sub (r : Rr p w L l) {v : List Int} (hv : v.length = w) : ∃ s, Sp p L s ∧ ∀ j, Cg p ((restP p L v).getD j 0) (v.getD j 0 - s j) := restN_sub r hv _ (Nat.le_refl _)
theorem restP_zero (r : Rr p w L l) (hp : 0 < p) {v : List Int} (hv : v.length = w) (hb : Bnd p v) {i : Nat} (hi : i < L.length) : (restP p L v).getD (l i) 0 = 0 :=
 bnd_zero (restP_bnd hp hb) (restN_zero r hv _ (Nat.le_refl _) i hi)
/-- In the span of a reduced list, nothing but 0 has 0 at all its places. -/
theorem Rr.zero (r : Rr p w L l) {v : Nat → Int} (h : Sp p L v) (hz : ∀ i, i < L.length → Cg p (v (l i)) 0) (j : Nat) : Cg p (v j) 0 :=
 (r.coef h j).trans ((sm_cg (g := fun _ => 0) fun i hi => ((hz i hi).mul (Cg.refl _)).trans (Cg.of_eq (Int.zero_mul _))).trans (Cg.of_eq (sm_zero fun _ _ => rfl)))
theorem restP_iff (r : Rr p w L l) (hp : 0 < p) {v : List Int} (hv : v.length = w) (hb : Bnd p v) : (∀ j, (restP p L v).getD j 0 = 0) ↔ Sp p L fun j => v.getD j 0 := by
 obtain ⟨s, hs, h⟩ := restP_sub r hv
 constructor
 ·intro hz
  refine hs.cg fun j => ?_
  have := h j
  rw [hz j] at this
  have := (Cg.add this (Cg.refl (s j))).symm
  rwa [Int.zero_add, show v.getD j 0 - s j + s j = v.getD j 0 by omega] at this
 ·intro hsp j
  refine bnd_zero (restP_bnd hp hb) ?_
  have hd : Sp p L fun j => (restP p L v).getD j 0 := (hsp.sub 1 hs).cg fun j => (h j).trans (Cg.of_eq (by rw [Int.one_mul]))
  exact r.zero hd (fun i hi => by rw [restP_zero r hp hv hb hi]; exact Cg.refl _) j
end
-- ---- the inverse of a number
def invP (p x : Int) : Int := ((((List.range 7).find? fun k : Nat => decide (((k : Int) * x) % p = 1)).getD 0 : Nat) : Int)
theorem invP_ok {p x : Int} (hp : isP p = true) (h0 : 0 < x) (h1 : x < p) : (1 ≤ invP p x ∧ invP p x < p) ∧ (invP p x * x) % p = 1 ∧ ∀ k : Int, 1 ≤ k → k < invP p x → (k * x) % p ≠ 1 := by
 have h : p = 2 ∨ p = 3 ∨ p = 5 ∨ p = 7 := by
  simp only [isP, Bool.or_eq_true, beq_iff_eq] at hp; omega
 have key : ∀ p x : Fin 8, (p.val = 2 ∨ p.val = 3 ∨ p.val = 5 ∨ p.val = 7) → 0 < x.val → x.val < p.val → (1 ≤ invP p.val x.val ∧ invP p.val x.val < p.val) ∧ (invP p.val x.val * x.val) % (p.val : Int) = 1 ∧ ∀ k : Fin 8, 1 ≤ k.val → (k.val : Int) < invP p.val x.val → ((k.val : Int) * x.val) % (p.val : Int) ≠ 1 := by decide
 have k := key ⟨p.toNat, by omega⟩ ⟨x.toNat, by omega⟩ (by simp only; omega) (by simp only; omega) (by simp only; omega)
 simp only [show ((p.toNat : Nat) : Int) = p by omega, show ((x.toNat : Nat) : Int) = x by omega] at k
 refine ⟨k.1, k.2.1, fun q hq hl => ?_⟩
 have := k.2.2 ⟨q.toNat, by omega⟩ (by simp only; omega) (by simp only; omega)
 simpa only [show ((q.toNat : Nat) : Int) = q by omega] using this
theorem isP_two {p : Int} (h : isP p = true) : 1 < p ∧ p ≤ 7 := by
 simp only [isP, Bool.or_eq_true, beq_iff_eq] at h; omega
-- ---- the reference's list: one row more
def redR (p : Int) (own : List Int) (at_ : Nat) (r : List Int) : List Int := lessRow p (r.getD at_ 0) r own
/-- How many places of a list lie left of one. -/
def posP (L : List (List Int)) (at_ : Nat) : Nat := (L.filter fun r => decide (leadP r < at_)).length
def putP (p : Int) (L : List (List Int)) (own : List Int) (at_ pos : Nat) : List (List Int) := (L.take pos).map (redR p own at_) ++ own :: (L.drop pos).map (redR p own at_)
theorem Rr.tail {p : Int} {w : Nat} {a : List Int} {L : List (List Int)} {l : Nat → Nat} (r : Rr p w (a :: L) l) : Rr p w L fun i => l (i + 1) :=
 have e : ∀ i, (a :: L).getD (i + 1) default = L.getD i default := fun i => rfl
 ⟨fun i hi => r.len (i + 1) (by simpa using hi), fun i hi => r.bnd (i + 1) (by simpa using hi), fun i hi => r.lt (i + 1) (by simpa using hi), fun i hi => r.one (i + 1) (by simpa using hi), fun i j hi hj => r.zb (i + 1) j (by simpa using hi) hj, fun i k hik hk => r.inc (i + 1) (k + 1) (by omega) (by simpa using hk), fun i k hi hk hne => r.cl (i + 1) (k + 1) (by simpa using hi) (by simpa using hk) (by omega)⟩
theorem posP_ok {p : Int} {w at_ : Nat} : ∀ {L : List (List Int)} {l : Nat → Nat}, Rr p w L l → posP L at_ ≤ L.length ∧ (∀ i, i < posP L at_ → l i < at_) ∧ ∀ i, i < L.length → posP L at_ ≤ i → at_ ≤ l i
 | [], _, _ => ⟨by simp [posP], fun i hi => by simp [posP] at hi, fun i hi => by simp at hi⟩
 | a :: L, l, r => by
  have h0 : leadP a = l 0 := r.lead (i := 0) (by simp)
  obtain ⟨t1, t2, t3⟩ := posP_ok (at_ := at_) r.tail
  by_cases hc : l 0 < at_
  ·have e : posP (a :: L) at_ = posP L at_ + 1 := by simp [posP, h0, hc]
   rw [e]
   refine ⟨by simpa using t1, fun i hi => ?_, fun i hi hle => ?_⟩
   ·cases i with
    | zero => exact hc
    | succ i => exact t2 i (by omega)
   ·cases i with
    | zero => omega
    | succ i => exact t3 i (by simpa using hi) (by omega)
  ·have hz : posP L at_ = 0 := by
    apply Nat.eq_zero_of_not_pos
    intro hpos
    have a1 := t2 0 hpos
    have a2 := r.inc 0 1 (by omega) (by simp; omega)
    simp only [Nat.zero_add] at a1
    omega
   have e : posP (a :: L) at_ = 0 := by
    rw [← hz]; simp only [posP, List.filter_cons, h0]; rw [if_neg (by simpa using hc)]
   rw [e]
   refine ⟨Nat.zero_le _, fun i hi => by omega, fun i hi _ => ?_⟩
   rcases Nat.eq_zero_or_pos i with h | h
   ·rw [h]; omega
   ·have := r.inc 0 i h hi; omega
theorem putP_len {p : Int} {L : List (List Int)} {own : List Int} {at_ pos : Nat} (h : pos ≤ L.length) : (putP p L own at_ pos).length = L.length + 1 := by
 simp [putP]; omega
theorem putP_get {p : Int} {L : List (List Int)} {own : List Int} {at_ pos : Nat} (h : pos ≤ L.length) {i : Nat} (hi : i < L.length + 1) : (putP p L own at_ pos).getD i default = if i < pos then redR p own at_ (L.getD i default) else if i = pos then own else redR p own at_ (L.getD (i - 1) default) := by
 have hl : ((L.take pos).map (redR p own at_)).length = pos := by simp; omega
 rw [putP, List.getD_eq_getElem?_getD]
 by_cases h1 : i < pos
 ·rw [if_pos h1, List.getElem?_append_left (by omega), List.getElem?_map, List.getElem?_take, if_pos h1, List.getElem?_eq_getElem (by omega), List.getD_eq_getElem?_getD, List.getElem?_eq_getElem (by omega)]; rfl
 ·rw [if_neg h1, List.getElem?_append_right (by omega), hl]
  by_cases h2 : i = pos
  ·rw [if_pos h2, h2, Nat.sub_self]; rfl
  ·rw [if_neg h2]
   obtain ⟨q, rfl⟩ : ∃ q, i = pos + q + 1 := ⟨i - pos - 1, by omega⟩
   rw [show pos + q + 1 - pos = q + 1 by omega, show pos + q + 1 - 1 = pos + q by omega, List.getElem?_cons_succ, List.getElem?_map, List.getElem?_drop, List.getElem?_eq_getElem (by omega), List.getD_eq_getElem?_getD, List.getElem?_eq_getElem (by omega)]; rfl
section
variable {p : Int} {w : Nat} {L : List (List Int)} {l : Nat → Nat} {own : List Int} {at_ : Nat}
theorem redR_get {r : List Int} {j : Nat} (hj : j < r.length) : (redR p own at_ r).getD j 0 = (r.getD j 0 - r.getD at_ 0 * own.getD j 0) % p := lessRow_get p _ hj
structure OwnOk (p : Int) (w : Nat) (L : List (List Int)) (l : Nat → Nat) (own : List Int) (at_ : Nat) : Prop where
 len : own.length = w
 bnd : Bnd p own
 lt : at_ < w
 one : own.getD at_ 0 = 1
 zb : ∀ j, j < at_ → own.getD j 0 = 0
 cl : ∀ i, i < L.length → own.getD (l i) 0 = 0
theorem OwnOk.ne (o : OwnOk p w L l own at_) {i : Nat} (hi : i < L.length) : l i ≠ at_ := fun e => by
 have := o.cl i hi
 rw [e, o.one] at this; omega
theorem red_at (hp : 1 < p) (r : Rr p w L l) (o : OwnOk p w L l own at_) {i : Nat} (hi : i < L.length) : (redR p own at_ (L.getD i default)).getD at_ 0 = 0 := by
 rw [redR_get (by rw [r.len i hi]; exact o.lt), o.one, Int.mul_one, Int.sub_self, Int.zero_emod]
theorem red_lead (hp : 1 < p) (r : Rr p w L l) (o : OwnOk p w L l own at_) {i k : Nat} (hi : i < L.length) (hk : k < L.length) : (redR p own at_ (L.getD i default)).getD (l k) 0 = if k = i then 1 else 0 := by
 rw [redR_get (by rw [r.len i hi]; exact r.lt k hk), o.cl k hk, Int.mul_zero, Int.sub_zero]
 split
 ·rename_i e; subst e
  rw [show (L.getD k default).getD (l k) 0 = 1 from r.one k hk, Int.emod_eq_of_lt (by omega) hp]
 ·rename_i e
  rw [show (L.getD i default).getD (l k) 0 = 0 from r.cl k i hk hi (Ne.symm e), Int.zero_emod]
theorem red_zb (hp : 1 < p) (r : Rr p w L l) (o : OwnOk p w L l own at_) {i j : Nat} (hi : i < L.length) (hj : j < l i) : (redR p own at_ (L.getD i default)).getD j 0 = 0 := by
 have := r.lt i hi
 rw [redR_get (by rw [r.len i hi]; omega), show (L.getD i default).getD j 0 = 0 from r.zb i j hi hj]
 rcases Nat.lt_or_ge j at_ with h | h
 ·rw [o.zb j h, Int.mul_zero, Int.sub_self, Int.zero_emod]
 ·rw [show (L.getD i default).getD at_ 0 = 0 from r.zb i at_ hi (by omega), Int.zero_mul, Int.sub_self, Int.zero_emod]
theorem putP_rr (hp : 1 < p) (r : Rr p w L l) (o : OwnOk p w L l own at_) : Rr p w (putP p L own at_ (posP L at_)) fun i => if i < posP L at_ then l i else if i = posP L at_ then at_ else l (i - 1) := by
 obtain ⟨p1, p2, p3⟩ := posP_ok (at_ := at_) r
 have p3' : ∀ i, i < L.length → posP L at_ ≤ i → at_ < l i := fun i hi hle => by
  have := p3 i hi hle
  have := o.ne hi
  omega
 generalize posP L at_ = q at *
 have hl := putP_len (p := p) (own := own) (at_ := at_) p1
 have gt := fun {i : Nat} (hi : i < L.length + 1) => putP_get (p := p) (own := own) (at_ := at_) p1 hi
 have rl : ∀ i, i < L.length → (redR p own at_ (L.getD i default)).length = w := fun i hi => by rw [redR, lessRow_len, r.len i hi]
 refine ⟨fun i hi => ?_, fun i hi => ?_, fun i hi => ?_, fun i hi => ?_, fun i j hi hj => ?_, fun i k hik hk => ?_, fun i k hi hk hne => ?_⟩
 ·rw [hl] at hi
  rw [gt hi]
  split
  ·exact rl i (by omega)
  ·split
   ·exact o.len
   ·exact rl (i - 1) (by omega)
 ·rw [hl] at hi
  rw [gt hi]
  split
  ·exact lessRow_bnd (by omega) _ _ _
  ·split
   ·exact o.bnd
   ·exact lessRow_bnd (by omega) _ _ _
 ·rw [hl] at hi
  show (if i < q then l i else if i = q then at_ else l (i - 1)) < w
  split
  ·exact r.lt i (by omega)
  ·split
   ·exact o.lt
   ·exact r.lt (i - 1) (by omega)
 ·rw [hl] at hi
  rw [g2, gt hi]
  show _ = (1 : Int)
  by_cases h1 : i < q
  ·simp only [if_pos h1]
   rw [red_lead hp r o (by omega) (by omega), if_pos rfl]
  ·simp only [if_neg h1]
   by_cases h2 : i = q
   ·simp only [if_pos h2]; exact o.one
   ·simp only [if_neg h2]
    rw [red_lead hp r o (by omega) (by omega), if_pos rfl]
 ·rw [hl] at hi
  rw [g2, gt hi]
  by_cases h1 : i < q
  ·simp only [if_pos h1] at hj ⊢
   exact red_zb hp r o (by omega) hj
  ·simp only [if_neg h1] at hj ⊢
   by_cases h2 : i = q
   ·simp only [if_pos h2] at hj ⊢; exact o.zb j hj
   ·simp only [if_neg h2] at hj ⊢
    exact red_zb hp r o (by omega) hj
 ·rw [hl] at hk
  show (if i < q then l i else if i = q then at_ else l (i - 1)) < (if k < q then l k else if k = q then at_ else l (k - 1))
  by_cases h1 : i < q
  ·rw [if_pos h1]
   by_cases h2 : k < q
   ·rw [if_pos h2]; exact r.inc i k hik (by omega)
   ·rw [if_neg h2]
    by_cases h3 : k = q
    ·rw [if_pos h3]; exact p2 i h1
    ·rw [if_neg h3]
     have := p2 i h1
     have := p3' (k - 1) (by omega) (by omega)
     omega
  ·rw [if_neg h1]
   by_cases h2 : i = q
   ·rw [if_pos h2, if_neg (by omega), if_neg (by omega)]
    exact p3' (k - 1) (by omega) (by omega)
   ·rw [if_neg h2, if_neg (by omega), if_neg (by omega)]
    exact r.inc (i - 1) (k - 1) (by omega) (by omega)
 ·rw [hl] at hi hk
  rw [g2, gt hk]
  show _ = (0 : Int)
  by_cases h1 : k < q
  ·simp only [if_pos h1]
   by_cases h2 : i < q
   ·simp only [if_pos h2]; rw [red_lead hp r o (by omega) (by omega), if_neg (Ne.symm hne)]
   ·simp only [if_neg h2]
    by_cases h3 : i = q
    ·simp only [if_pos h3]; exact red_at hp r o (by omega)
    ·simp only [if_neg h3]; rw [red_lead hp r o (by omega) (by omega), if_neg (by omega)]
  ·simp only [if_neg h1]
   by_cases h2 : k = q
   ·simp only [if_pos h2]
    by_cases h3 : i < q
    ·simp only [if_pos h3]; exact o.cl i (by omega)
    ·simp only [if_neg h3, if_neg (show ¬ i = q by omega)]; exact o.cl (i - 1) (by omega)
   ·simp only [if_neg h2]
    by_cases h3 : i < q
    ·simp only [if_pos h3]; rw [red_lead hp r o (by omega) (by omega), if_neg (by omega)]
    ·simp only [if_neg h3]
     by_cases h4 : i = q
     ·simp only [if_pos h4]; exact red_at hp r o (by omega)
     ·simp only [if_neg h4]; rw [red_lead hp r o (by omega) (by omega), if_neg (by omega)]
theorem getD_app1 {α : Type} {L : List α} {row d : α} {i : Nat} (hi : i < L.length) : (L ++ [row]).getD i d = L.getD i d := by
 rw [List.getD_eq_getElem?_getD, List.getElem?_append_left hi, List.getD_eq_getElem?_getD]
theorem getD_app2 {α : Type} {L : List α} {row d : α} : (L ++ [row]).getD L.length d = row := by
 rw [List.getD_eq_getElem?_getD, List.getElem?_append_right (Nat.le_refl _), Nat.sub_self]; rfl
theorem Sp.at {L : List (List Int)} {i : Nat} {r : List Int} (hi : i < L.length) (e : L.getD i default = r) : Sp p L fun j => r.getD j 0 := by
 have := Sp.row (p := p) hi
 subst e; exact this
theorem Le.app1 {L : List (List Int)} {row : List Int} : Le p L (L ++ [row]) := fun i hi => Sp.at (by simp; omega) (getD_app1 hi)
theorem Sp.last {L : List (List Int)} {row : List Int} : Sp p (L ++ [row]) fun j => row.getD j 0 := Sp.at (by simp) getD_app2
theorem Le.snoc {L M : List (List Int)} {row : List Int} (h : Le p L M) (k : Sp p M fun j => row.getD j 0) : Le p (L ++ [row]) M := fun i hi => by
 rw [List.length_append, List.length_singleton] at hi
 rcases Nat.lt_succ_iff_lt_or_eq.1 hi with h' | h'
 ·have := h i h'
  unfold g2 at *
  rwa [getD_app1 h']
 ·subst h'
  show Sp p M fun j => ((L ++ [row]).getD L.length default).getD j 0
  rwa [getD_app2]
theorem Eqv.snoc {L M : List (List Int)} {row : List Int} (h : Eqv p L M) : Eqv p (L ++ [row]) (M ++ [row]) :=
 ⟨Le.snoc (h.1.trans Le.app1) Sp.last, Le.snoc (h.2.trans Le.app1) Sp.last⟩
theorem putP_eqv (r : Rr p w L l) (ol : own.length = w) {q : Nat} (hq : q ≤ L.length) {row : List Int} (h1 : Sp p (L ++ [row]) fun j => own.getD j 0) {k : Int} {s : Nat → Int} (hs : Sp p L s) (h2 : ∀ j, Cg p (row.getD j 0) (k * own.getD j 0 + s j)) : Eqv p (putP p L own at_ q) (L ++ [row]) := by
 have hl := putP_len (p := p) (own := own) (at_ := at_) hq
 have gt := fun {i : Nat} (hi : i < L.length + 1) => putP_get (p := p) (own := own) (at_ := at_) hq hi
 have cg : ∀ i, i < L.length → ∀ j, Cg p ((redR p own at_ (L.getD i default)).getD j 0) (g2 L i j - g2 L i at_ * own.getD j 0) := fun i hi j => lessRow_cg p _ (by rw [ol, r.len i hi]; exact Nat.le_refl _) j
 have a1 : ∀ i, i < L.length → Sp p (L ++ [row]) fun j => (redR p own at_ (L.getD i default)).getD j 0 := fun i hi => ((Le.app1 i hi).sub (g2 L i at_) h1).cg (cg i hi)
 have o1 : Sp p (putP p L own at_ q) fun j => own.getD j 0 := Sp.at (i := q) (by rw [hl]; omega) (by rw [gt (by omega), if_neg (by omega), if_pos rfl])
 have b1 : ∀ i, i < L.length → Sp p (putP p L own at_ q) fun j => (redR p own at_ (L.getD i default)).getD j 0 := fun i hi => by
  by_cases h : i < q
  ·exact Sp.at (i := i) (by rw [hl]; omega) (by rw [gt (by omega), if_pos h])
  ·exact Sp.at (i := i + 1) (by rw [hl]; omega) (by rw [gt (by omega), if_neg (by omega), if_neg (by omega), Nat.add_sub_cancel])
 have b2 : Le p L (putP p L own at_ q) := fun i hi => ((b1 i hi).add (o1.mul (g2 L i at_))).cg fun j => ((Cg.add (cg i hi j) (Cg.refl _)).trans (Cg.of_eq (by omega))).symm
 refine ⟨fun i hi => ?_, Le.snoc b2 (((o1.mul k).add (hs.le b2)).cg h2)⟩
 rw [hl] at hi
 unfold g2
 rw [gt hi]
 split
 ·exact a1 i (by omega)
 ·split
  ·exact h1
  ·exact a1 (i - 1) (by omega)
theorem lead_cases (xs : List Int) : (leadP xs = -1 ∧ ∀ j, xs.getD j 0 = 0) ∨ ∃ k : Nat, k < xs.length ∧ leadP xs = k ∧ (∀ j, j < k → xs.getD j 0 = 0) ∧ xs.getD k 0 ≠ 0 := by
 have key : ∀ n, n ≤ xs.length → (∀ j, j < n → xs.getD j 0 = 0) ∨ ∃ k : Nat, k < n ∧ (∀ j, j < k → xs.getD j 0 = 0) ∧ xs.getD k 0 ≠ 0 := by
  intro n
  induction n with
  | zero => intro _; exact .inl fun j hj => by omega
  | succ n ih =>
   intro hn
   rcases ih (by omega) with h | ⟨k, hk, h⟩
   ·by_cases e : xs.getD n 0 = 0
    ·exact .inl fun j hj => by
      rcases Nat.lt_succ_iff_lt_or_eq.1 hj with h' | h'
      ·exact h j h'
      ·rw [h']; exact e
    ·exact .inr ⟨n, by omega, h, e⟩
   ·exact .inr ⟨k, by omega, h⟩
 rcases key xs.length (Nat.le_refl _) with h | ⟨k, hk, h1, h2⟩
 ·refine .inl ⟨leadP_all (zeros_all h), fun j => ?_⟩
  rcases Nat.lt_or_ge j xs.length with h' | h'
  ·exact h j h'
  ·exact getD_out h'
 ·exact .inr ⟨k, hk, leadP_at hk h1 h2, h1, h2⟩
/-- So far, a list is the reduced one of some rows. -/
def Red (p : Int) (w : Nat) (L rows : List (List Int)) : Prop := (∃ l, Rr p w L l) ∧ Eqv p L rows
theorem Red.nil : Red p w [] [] := ⟨⟨fun i => i, Rr.nil⟩, Eqv.refl⟩
/-- The row that comes to a list: what is left of it, begun with a 1. -/
def ownP (p : Int) (L : List (List Int)) (row : List Int) : List Int := sclRow p (invP p ((restP p L row).getD (leadP (restP p L row)).toNat 0)) (restP p L row)
theorem Red.skip {L rows : List (List Int)} {row : List Int} (h : Red p w L rows) (hp : 1 < p) (hl : row.length = w) (hb : Bnd p row) (hz : leadP (restP p L row) < 0) : Red p w L (rows ++ [row]) := by
 obtain ⟨⟨l, r⟩, e⟩ := h
 refine ⟨⟨l, r⟩, Eqv.trans ?_ e.snoc⟩
 rcases lead_cases (restP p L row) with ⟨_, h0⟩ | ⟨k, _, h1, _⟩
 ·exact ⟨Le.app1, Le.snoc Le.refl ((restP_iff r (by omega) hl hb).1 h0)⟩
 ·omega
theorem ownP_ok (hP : isP p = true) (r : Rr p w L l) {row : List Int} (hl : row.length = w) (hb : Bnd p row) {k : Nat} (hk : leadP (restP p L row) = k) : OwnOk p w L l (ownP p L row) k ∧ (Sp p (L ++ [row]) fun j => (ownP p L row).getD j 0) ∧ ∃ c s, Sp p L s ∧ ∀ j, Cg p (row.getD j 0) (c * (ownP p L row).getD j 0 + s j) := by
 have hp := isP_two hP
 have rl := restP_len p L row
 have rb := restP_bnd (p := p) (L := L) (by omega) hb
 have rz : ∀ i, i < L.length → (restP p L row).getD (l i) 0 = 0 := fun i hi => restP_zero r (by omega) hl hb hi
 obtain ⟨s, hs, hc⟩ := restP_sub r hl
 rcases lead_cases (restP p L row) with ⟨h0, _⟩ | ⟨k', hk', h1, h2, h3⟩
 ·omega
 ·obtain rfl : k = k' := by omega
  have hx := rb.at hk'
  obtain ⟨i1, i2, _⟩ := invP_ok hP (x := (restP p L row).getD k 0) (by omega) hx.2
  have og : ∀ j, j < w → (ownP p L row).getD j 0 = (invP p ((restP p L row).getD k 0) * (restP p L row).getD j 0) % p := fun j hj => by
   rw [ownP, h1, Int.toNat_natCast, sclR_get _ _ (by rw [rl, hl]; exact hj)]
  have ocg : ∀ j, Cg p ((ownP p L row).getD j 0) (invP p ((restP p L row).getD k 0) * (restP p L row).getD j 0) := fun j => by
   rw [ownP, h1, Int.toNat_natCast]; exact sclRow_cg _ _ _ j
  have own_ok : OwnOk p w L l (ownP p L row) k := ⟨by rw [ownP, sclR_len, rl, hl], sclRow_bnd (by omega) _ _, by omega, by rw [og k (by omega)]; exact i2, fun j hj => by rw [og j (by omega), h2 j hj, Int.mul_zero, Int.zero_emod], fun i hi => by rw [og _ (r.lt i hi), rz i hi, Int.mul_zero, Int.zero_emod]⟩
  refine ⟨own_ok, ?_, (restP p L row).getD k 0, s, hs, fun j => ?_⟩
  ·have : Sp p (L ++ [row]) fun j => (restP p L row).getD j 0 := ((Sp.last (p := p) (L := L) (row := row)).sub 1 (hs.le Le.app1)).cg fun j => (hc j).trans (Cg.of_eq (by rw [Int.one_mul]))
   exact (this.mul _).cg ocg
  ·have a := hc j
   have b : Cg p (row.getD j 0) ((restP p L row).getD j 0 + s j) := ((Cg.add a (Cg.refl (s j))).trans (Cg.of_eq (by omega))).symm
   refine b.trans (Cg.add ?_ (Cg.refl _))
   have c : Cg p ((restP p L row).getD k 0 * (ownP p L row).getD j 0) ((restP p L row).getD k 0 * (invP p ((restP p L row).getD k 0) * (restP p L row).getD j 0)) := (Cg.refl _).mul (ocg j)
   have d : Cg p (invP p ((restP p L row).getD k 0) * (restP p L row).getD k 0) 1 := by
    show _ % p = 1 % p
    rw [i2, Int.emod_eq_of_lt (by omega) hp.1]
   have e : Cg p ((restP p L row).getD k 0 * (invP p ((restP p L row).getD k 0) * (restP p L row).getD j 0)) ((restP p L row).getD j 0) := by
    refine Cg.trans (Cg.of_eq ?_) ((d.mul (Cg.refl ((restP p L row).getD j 0))).trans (Cg.of_eq (Int.one_mul _)))
    rw [← Int.mul_assoc, Int.mul_comm ((restP p L row).getD k 0)]
   exact (c.trans e).symm
theorem Red.put {L rows : List (List Int)} {row : List Int} (h : Red p w L rows) (hP : isP p = true) (hl : row.length = w) (hb : Bnd p row) {k : Nat} (hk : leadP (restP p L row) = k) : Red p w (putP p L (ownP p L row) k (posP L k)) (rows ++ [row]) := by
 obtain ⟨⟨l, r⟩, e⟩ := h
 obtain ⟨o, h1, c, s, hs, h2⟩ := ownP_ok hP r hl hb hk
 exact ⟨⟨_, putP_rr (isP_two hP).1 r o⟩, (putP_eqv r o.len (posP_ok r).1 h1 hs h2).trans e.snoc⟩
theorem take_snoc {rows : List (List Int)} {n : Nat} (hn : n < rows.length) : rows.take (n + 1) = rows.take n ++ [rows.getD n default] := by
 rw [List.take_succ_eq_append_getElem hn, List.getD_eq_getElem?_getD, List.getElem?_eq_getElem hn]; rfl
theorem Red.exists (hP : isP p = true) {rows : List (List Int)} (h : ∀ r ∈ rows, r.length = w ∧ Bnd p r) : ∀ n, n ≤ rows.length → ∃ L, Red p w L (rows.take n)
 | 0, _ => ⟨[], by rw [List.take_zero]; exact Red.nil⟩
 | n + 1, hn => by
  obtain ⟨L, hL⟩ := Red.exists hP h n (by omega)
  have hr := h (rows.getD n default) (by rw [List.getD_eq_getElem?_getD, List.getElem?_eq_getElem hn]; exact List.getElem_mem hn)
  rw [take_snoc hn]
  rcases lead_cases (restP p L (rows.getD n default)) with ⟨h0, _⟩ | ⟨k, _, h1, _⟩
  ·exact ⟨L, hL.skip (isP_two hP).1 hr.1 hr.2 (by omega)⟩
  ·exact ⟨_, hL.put hP hr.1 hr.2 h1⟩
theorem wd_ok {rows : List (List Int)} (h : ∀ r ∈ rows, r.length = w ∧ Bnd p r) (hn : rows ≠ []) : wd rows = w := by
 cases rows with
 | nil => exact absurd rfl hn
 | cons a t => exact (h a (by simp)).1
theorem Red.ech (hP : isP p = true) {L rows : List (List Int)} (h : ∀ r ∈ rows, r.length = w ∧ Bnd p r) (hL : Red p w L rows) : ech p rows = L := by
 obtain ⟨⟨l, r⟩, e⟩ := hL
 exact ech_eq (isP_two hP).1 r e (wd_ok h)
theorem ech_red (hP : isP p = true) {rows : List (List Int)} (h : ∀ r ∈ rows, r.length = w ∧ Bnd p r) : Red p w (ech p rows) rows := by
 obtain ⟨L, hL⟩ := Red.exists hP h rows.length (Nat.le_refl _)
 rw [List.take_length] at hL
 rw [hL.ech hP h]; exact hL
/-- A reduced list is its own. -/
theorem Rr.self (hP : isP p = true) (r : Rr p w L l) : ech p L = L := by
 refine Red.ech hP (w := w) (fun x hx => ?_) ⟨⟨l, r⟩, Eqv.refl⟩
 obtain ⟨i, hi, rfl⟩ := List.getElem_of_mem hx
 have a := r.len i hi
 have b := r.bnd i hi
 rw [List.getD_eq_getElem?_getD, List.getElem?_eq_getElem hi] at a b
 exact ⟨a, b⟩
theorem Rr.le_w (r : Rr p w L l) : L.length ≤ w := by
 have key : ∀ i, i < L.length → i ≤ l i := by
  intro i
  induction i with
  | zero => intro _; exact Nat.zero_le _
  | succ i ih => intro hi; have := ih (by omega); have := r.inc i (i + 1) (by omega) hi; omega
 rcases Nat.eq_zero_or_pos L.length with h | h
 ·omega
 ·have := key (L.length - 1) (by omega)
  have := r.lt (L.length - 1) (by omega)
  omega
end
def swapP {α : Type} [Inhabited α] (M : List α) (d a : Nat) : List α := (M.set d (M.getD a default)).set a (M.getD d default)
theorem swapP_len {α : Type} [Inhabited α] (M : List α) (d a : Nat) : (swapP M d a).length = M.length := by simp [swapP]
theorem swapP_get {α : Type} [Inhabited α] {M : List α} {d a : Nat} (hd : d < M.length) (ha : a < M.length) (i : Nat) : (swapP M d a).getD i default = if a = i then M.getD d default else if d = i then M.getD a default else M.getD i default := by
 rw [swapP, getD_set (by rw [List.length_set]; exact ha)]
 split
 ·rfl
 ·rw [getD_set hd]
def clrP (p : Int) (d c : Nat) (M : List (List Int)) (n : Nat) : List (List Int) := (List.range M.length).map fun i => if i < n ∧ i ≠ d then lessRow p (g2 M i c) (M.getD i default) (M.getD d default) else M.getD i default
theorem clrP_len (p : Int) (d c : Nat) (M : List (List Int)) (n : Nat) : (clrP p d c M n).length = M.length := by simp [clrP]
theorem clrP_get {p : Int} {d c : Nat} {M : List (List Int)} {n i : Nat} (hi : i < M.length) : (clrP p d c M n).getD i default = if i < n ∧ i ≠ d then lessRow p (g2 M i c) (M.getD i default) (M.getD d default) else M.getD i default := getD_map_range (α := List Int) (fun i : Nat => if i < n ∧ i ≠ d then lessRow p (g2 M i c) (M.getD i default) (M.getD d default) else M.getD i default) hi
section
variable {p : Int} {w : Nat} {rows M : List (List Int)} {l : Nat → Nat} {d c : Nat}
/-- The program's reduction behind c columns, of which d have brought a row. -/
structure RI (p : Int) (w : Nat) (rows M : List (List Int)) (l : Nat → Nat) (d c : Nat) : Prop where
 ln : M.length = rows.length
 len : ∀ i, i < M.length → (M.getD i default).length = w
 bnd : ∀ i, i < M.length → Bnd p (M.getD i default)
 eqv : Eqv p M rows
 dl : d ≤ M.length
 lt : ∀ i, i < d → l i < c
 one : ∀ i, i < d → g2 M i (l i) = 1
 zb : ∀ i j, i < d → j < l i → g2 M i j = 0
 inc : ∀ i k, i < k → k < d → l i < l k
 cl : ∀ i k, i < d → k < M.length → k ≠ i → g2 M k (l i) = 0
 nul : ∀ k j, d ≤ k → k < M.length → j < c → g2 M k j = 0
theorem RI.start (h : ∀ r ∈ rows, r.length = w ∧ Bnd p r) : RI p w rows rows l 0 0 := by
 have at_ : ∀ i, i < rows.length → (rows.getD i default).length = w ∧ Bnd p (rows.getD i default) := fun i hi => h _ (by rw [List.getD_eq_getElem?_getD, List.getElem?_eq_getElem hi]; exact List.getElem_mem hi)
 exact ⟨rfl, fun i hi => (at_ i hi).1, fun i hi => (at_ i hi).2, Eqv.refl, Nat.zero_le _, fun i hi => by omega, fun i hi => by omega, fun i j hi => by omega, fun i k _ hk => by omega, fun i k hi => by omega, fun k j _ _ hj => by omega⟩
theorem RI.skip (r : RI p w rows M l d c) (h : ∀ k, d ≤ k → k < M.length → g2 M k c = 0) : RI p w rows M l d (c + 1) :=
 ⟨r.ln, r.len, r.bnd, r.eqv, r.dl, fun i hi => Nat.lt_succ_of_lt (r.lt i hi), r.one, r.zb, r.inc, r.cl, fun k j h1 h2 hj => by
  rcases Nat.lt_succ_iff_lt_or_eq.1 hj with h' | h'
  ·exact r.nul k j h1 h2 h'
  ·rw [h']; exact h k h1 h2⟩
theorem RI.swap (r : RI p w rows M l d c) {a : Nat} (hd : d ≤ a) (ha : a < M.length) : RI p w rows (swapP M d a) l d c := by
 have hdm : d < M.length := by omega
 have gt := swapP_get hdm ha
 have pm : ∀ i, i < M.length → ∃ k, k < M.length ∧ (swapP M d a).getD i default = M.getD k default ∧ (i < d → k = i) ∧ (d ≤ i → d ≤ k) ∧ ∀ q, q < d → (i ≠ q → k ≠ q) := fun i hi => by
  rw [gt i]
  split
  ·exact ⟨d, hdm, rfl, by omega, by omega, by omega⟩
  ·split
   ·exact ⟨a, ha, rfl, by omega, by omega, by omega⟩
   ·exact ⟨i, hi, rfl, fun _ => rfl, fun h => h, fun q _ h => h⟩
 have hl := swapP_len M d a
 have gs : ∀ i, i < M.length → ∃ k, k < M.length ∧ (∀ j, g2 (swapP M d a) i j = g2 M k j) ∧ (i < d → k = i) ∧ (d ≤ i → d ≤ k) ∧ ∀ q, q < d → (i ≠ q → k ≠ q) := fun i hi => by
  obtain ⟨k, h1, h2, h3⟩ := pm i hi
  exact ⟨k, h1, fun j => by rw [g2, h2], h3⟩
 refine ⟨by rw [hl]; exact r.ln, fun i hi => ?_, fun i hi => ?_, ⟨fun i hi => ?_, fun i hi => ?_⟩, by rw [hl]; exact r.dl, r.lt, fun i hi => ?_, fun i j hi hj => ?_, r.inc, fun i k hi hk hne => ?_, fun k j h1 h2 hj => ?_⟩
 ·rw [hl] at hi; obtain ⟨k, h1, h2, _⟩ := pm i hi; rw [h2]; exact r.len k h1
 ·rw [hl] at hi; obtain ⟨k, h1, h2, _⟩ := pm i hi; rw [h2]; exact r.bnd k h1
 ·rw [hl] at hi
  obtain ⟨k, h1, h2, _⟩ := gs i hi
  exact (r.eqv.1 k h1).cg fun j => Cg.of_eq (h2 j)
 ·have h := r.eqv.2 i hi
  refine h.le fun k hk => ?_
  by_cases e1 : k = d
  ·subst e1
   exact Sp.at (i := a) (by rw [hl]; exact ha) (by rw [gt, if_pos rfl])
  ·by_cases e2 : k = a
   ·subst e2
    exact Sp.at (i := d) (by rw [hl]; exact hdm) (by
     rw [gt]
     split
     ·rename_i e; rw [e]
     ·rw [if_pos rfl])
   ·exact Sp.at (i := k) (by rw [hl]; exact hk) (by rw [gt, if_neg (Ne.symm e2), if_neg (Ne.symm e1)])
 ·obtain ⟨k, h1, h2, h3, _⟩ := gs i (by omega)
  rw [h2, h3 hi]; exact r.one i hi
 ·obtain ⟨k, h1, h2, h3, _⟩ := gs i (by omega)
  rw [h2, h3 hi]; exact r.zb i j hi hj
 ·rw [hl] at hk
  obtain ⟨q, h1, h2, _, _, h5⟩ := gs k hk
  rw [h2]; exact r.cl i q hi h1 (h5 i hi hne)
 ·rw [hl] at h2
  obtain ⟨q, h3, h4, _, h5, _⟩ := gs k h2
  rw [h4]; exact r.nul q j (h5 h1) h3 hj
theorem RI.scale (hP : isP p = true) (r : RI p w rows M l d c) (hd : d < M.length) (hc : c < w) (hx : g2 M d c ≠ 0) : RI p w rows (M.set d (sclRow p (invP p (g2 M d c)) (M.getD d default))) l d c ∧ g2 (M.set d (sclRow p (invP p (g2 M d c)) (M.getD d default))) d c = 1 := by
 have hp := isP_two hP
 have hb := (r.bnd d hd).at (k := c) (by rw [r.len d hd]; exact hc)
 have hb' : 0 ≤ g2 M d c ∧ g2 M d c < p := hb
 obtain ⟨i1, i2, _⟩ := invP_ok hP (x := g2 M d c) (by omega) hb'.2
 generalize hk : invP p (g2 M d c) = k at *
 have hl : (M.set d (sclRow p k (M.getD d default))).length = M.length := List.length_set
 have gt : ∀ i, (M.set d (sclRow p k (M.getD d default))).getD i default = if d = i then sclRow p k (M.getD d default) else M.getD i default := fun i => getD_set hd
 have gd : ∀ j, j < w → (sclRow p k (M.getD d default)).getD j 0 = (k * g2 M d j) % p := fun j hj => sclR_get _ _ (by rw [r.len d hd]; exact hj)
 have gn : ∀ i j, i ≠ d → g2 (M.set d (sclRow p k (M.getD d default))) i j = g2 M i j := fun i j hne => by rw [g2, gt, if_neg (Ne.symm hne)]
 have gz : ∀ j, g2 M d j = 0 → g2 (M.set d (sclRow p k (M.getD d default))) d j = 0 := fun j e => by
  rw [g2, gt, if_pos rfl]
  rcases Nat.lt_or_ge j w with h | h
  ·rw [gd j h, e, Int.mul_zero, Int.zero_emod]
  ·exact getD_out (by rw [sclR_len, r.len d hd]; exact h)
 refine ⟨⟨by rw [hl]; exact r.ln, fun i hi => ?_, fun i hi => ?_, ⟨fun i hi => ?_, fun i hi => ?_⟩, by rw [hl]; exact r.dl, r.lt, fun i hi => ?_, fun i j hi hj => ?_, r.inc, fun i q hi hq hne => ?_, fun q j h1 h2 hj => ?_⟩, ?_⟩
 ·rw [hl] at hi; rw [gt]
  split
  ·rw [sclR_len]; exact r.len d hd
  ·exact r.len i hi
 ·rw [hl] at hi; rw [gt]
  split
  ·exact sclRow_bnd (by omega) _ _
  ·exact r.bnd i hi
 ·rw [hl] at hi
  by_cases e : i = d
  ·subst e
   refine ((r.eqv.1 i hi).mul k).cg fun j => ?_
   show Cg p (((M.set i (sclRow p k (M.getD i default))).getD i default).getD j 0) _
   rw [gt, if_pos rfl]; exact sclRow_cg _ _ _ j
  ·exact (r.eqv.1 i hi).cg fun j => Cg.of_eq (gn i j e)
 ·refine (r.eqv.2 i hi).le fun q hq => ?_
  by_cases e : q = d
  ·subst e
   refine ((Sp.at (p := p) (L := M.set q (sclRow p k (M.getD q default))) (i := q) (by rw [hl]; exact hq) (by rw [gt, if_pos rfl])).mul (g2 M q c)).cg fun j => ?_
   have a : Cg p (g2 M q c * (sclRow p k (M.getD q default)).getD j 0) (g2 M q c * (k * g2 M q j)) := (Cg.refl _).mul (sclRow_cg _ _ _ j)
   have b : Cg p (k * g2 M q c) 1 := by
    show _ % p = 1 % p
    rw [i2, Int.emod_eq_of_lt (by omega) hp.1]
   refine (a.trans (Cg.trans (Cg.of_eq ?_) ((b.mul (Cg.refl (g2 M q j))).trans (Cg.of_eq (Int.one_mul _))))).symm
   rw [← Int.mul_assoc, Int.mul_comm (g2 M q c)]
  ·exact Sp.at (i := q) (by rw [hl]; exact hq) (by rw [gt, if_neg (Ne.symm e)])
 ·rw [gn i _ (by omega)]; exact r.one i hi
 ·rw [gn i _ (by omega)]; exact r.zb i j hi hj
 ·rw [hl] at hq
  by_cases e : q = d
  ·subst e; exact gz _ (r.cl i q hi hq hne)
  ·rw [gn q _ e]; exact r.cl i q hi hq hne
 ·rw [hl] at h2
  by_cases e : q = d
  ·subst e; exact gz _ (r.nul q j h1 h2 hj)
  ·rw [gn q _ e]; exact r.nul q j h1 h2 hj
 ·rw [g2, gt, if_pos rfl, gd c hc]; exact i2
theorem RI.clear (hP : isP p = true) (r : RI p w rows M l d c) (hd : d < M.length) (hc : c < w) (h1 : g2 M d c = 1) : RI p w rows (clrP p d c M M.length) (fun i => if i = d then c else l i) (d + 1) (c + 1) := by
 have hp := isP_two hP
 have hl := clrP_len p d c M M.length
 have gt := fun {i : Nat} (hi : i < M.length) => clrP_get (p := p) (d := d) (c := c) (n := M.length) hi
 have gd : ∀ j, g2 (clrP p d c M M.length) d j = g2 M d j := fun j => by rw [g2, gt hd, if_neg (by omega)]
 have gn : ∀ i j, i < M.length → i ≠ d → j < w → g2 (clrP p d c M M.length) i j = (g2 M i j - g2 M i c * g2 M d j) % p := fun i j hi hne hj => by
  rw [g2, gt hi, if_pos ⟨hi, hne⟩, lessRow_get p _ (by rw [r.len i hi]; exact hj)]
 have cg : ∀ i j, i < M.length → i ≠ d → Cg p (g2 (clrP p d c M M.length) i j) (g2 M i j - g2 M i c * g2 M d j) := fun i j hi hne => by
  rw [g2, gt hi, if_pos ⟨hi, hne⟩]
  exact lessRow_cg p _ (by rw [r.len i hi, r.len d hd]; exact Nat.le_refl _) j
 have small : ∀ {x : Int}, 0 ≤ x ∧ x < p → x % p = x := fun h => Int.emod_eq_of_lt h.1 h.2
 -- left of column c nothing has changed
 have old : ∀ i j, i < M.length → j < c → g2 (clrP p d c M M.length) i j = g2 M i j := fun i j hi hj => by
  by_cases e : i = d
  ·subst e; exact gd j
  ·rw [gn i j hi e (by omega), r.nul d j (Nat.le_refl _) hd hj, Int.mul_zero, Int.sub_zero]
   exact small ((r.bnd i hi).at (k := j) (by rw [r.len i hi]; omega))
 have atc : ∀ i, i < M.length → i ≠ d → g2 (clrP p d c M M.length) i c = 0 := fun i hi hne => by
  rw [gn i c hi hne hc, h1, Int.mul_one, Int.sub_self, Int.zero_emod]
 refine ⟨by rw [hl]; exact r.ln, fun i hi => ?_, fun i hi => ?_, ⟨fun i hi => ?_, fun i hi => ?_⟩, by rw [hl]; exact hd, fun i hi => ?_, fun i hi => ?_, fun i j hi hj => ?_, fun i k hik hk => ?_, fun i k hi hk hne => ?_, fun k j hk hk2 hj => ?_⟩
 ·rw [hl] at hi; rw [gt hi]
  split
  ·rw [lessRow_len]; exact r.len i hi
  ·exact r.len i hi
 ·rw [hl] at hi; rw [gt hi]
  split
  ·exact lessRow_bnd (by omega) _ _ _
  ·exact r.bnd i hi
 ·rw [hl] at hi
  by_cases e : i = d
  ·subst e; exact (r.eqv.1 i hi).cg fun j => Cg.of_eq (gd j)
  ·exact ((r.eqv.1 i hi).sub (g2 M i c) (r.eqv.1 d hd)).cg fun j => cg i j hi e
 ·refine (r.eqv.2 i hi).le fun q hq => ?_
  have sd : Sp p (clrP p d c M M.length) (g2 M d) := (Sp.row (p := p) (L := clrP p d c M M.length) (i := d) (by rw [hl]; exact hd)).cg fun j => Cg.of_eq (gd j).symm
  by_cases e : q = d
  ·subst e; exact sd
  ·refine ((Sp.row (p := p) (L := clrP p d c M M.length) (i := q) (by rw [hl]; exact hq)).add (sd.mul (g2 M q c))).cg fun j => ?_
   exact ((Cg.add (cg q j hq e) (Cg.refl _)).trans (Cg.of_eq (by omega))).symm
 ·show (if i = d then c else l i) < c + 1
  split
  ·omega
  ·have := r.lt i (by omega); omega
 ·show g2 _ i (if i = d then c else l i) = 1
  by_cases e : i = d
  ·rw [if_pos e, e, gd]; exact h1
  ·rw [if_neg e, old i _ (by omega) (r.lt i (by omega))]; exact r.one i (by omega)
 ·by_cases e : i = d
  ·simp only [if_pos e] at hj
   rw [e, gd]; exact r.nul d j (Nat.le_refl _) hd hj
  ·simp only [if_neg e] at hj
   have := r.lt i (by omega)
   rw [old i j (by omega) (by omega)]; exact r.zb i j (by omega) hj
 ·show (if i = d then c else l i) < (if k = d then c else l k)
  rw [if_neg (by omega)]
  by_cases e : k = d
  ·rw [if_pos e]; exact r.lt i (by omega)
  ·rw [if_neg e]; exact r.inc i k hik (by omega)
 ·rw [hl] at hk
  show g2 _ k (if i = d then c else l i) = 0
  by_cases e : i = d
  ·rw [if_pos e]; exact atc k hk (by omega)
  ·rw [if_neg e, old k _ hk (r.lt i (by omega))]; exact r.cl i k (by omega) hk hne
 ·rw [hl] at hk2
  rcases Nat.lt_succ_iff_lt_or_eq.1 hj with h' | h'
  ·rw [old k j hk2 h']; exact r.nul k j (by omega) hk2 h'
  ·rw [h']; exact atc k hk2 (by omega)
theorem take_get {α : Type} {xs : List α} {d : α} {i n : Nat} (hi : i < n) : (xs.take n).getD i d = xs.getD i d := by
 rw [List.getD_eq_getElem?_getD, List.getElem?_take, if_pos hi, List.getD_eq_getElem?_getD]
theorem RI.end (hP : isP p = true) (r : RI p w rows M l d c) (h : d = M.length ∨ w ≤ c) : Red p w (M.take d) rows := by
 have hl : (M.take d).length = d := by have := r.dl; simp; omega
 have gt : ∀ i j, i < d → g2 (M.take d) i j = g2 M i j := fun i j hi => by rw [g2, take_get hi]
 have dl := r.dl
 have out : ∀ i j, i < M.length → w ≤ j → g2 M i j = 0 := fun i j hi hj => g2_out (by rw [r.len i hi]; exact hj)
 have ltw : ∀ i, i < d → l i < w := fun i hi => by
  apply Nat.lt_of_not_le
  intro hle
  have := r.one i hi
  rw [out i _ (by omega) hle] at this; omega
 refine ⟨⟨l, ⟨fun i hi => ?_, fun i hi => ?_, fun i hi => ?_, fun i hi => ?_, fun i j hi hj => ?_, fun i k hik hk => ?_, fun i k hi hk hne => ?_⟩⟩, ⟨fun i hi => ?_, fun i hi => ?_⟩⟩
 ·rw [hl] at hi; rw [take_get hi]; exact r.len i (by omega)
 ·rw [hl] at hi; rw [take_get hi]; exact r.bnd i (by omega)
 ·rw [hl] at hi; exact ltw i hi
 ·rw [hl] at hi; rw [gt i _ hi]; exact r.one i hi
 ·rw [hl] at hi; rw [gt i _ hi]; exact r.zb i j hi hj
 ·rw [hl] at hk; exact r.inc i k hik hk
 ·rw [hl] at hi hk; rw [gt k _ hk]; exact r.cl i k hi (by omega) hne
 ·rw [hl] at hi; exact (r.eqv.1 i (by omega)).cg fun j => Cg.of_eq (gt i j hi)
 ·refine (r.eqv.2 i hi).le fun k hk => ?_
  rcases Nat.lt_or_ge k d with h1 | h1
  ·exact Sp.at (i := k) (by rw [hl]; exact h1) (take_get h1)
  ·refine Sp.zero.cg fun j => Cg.of_eq ?_
   rcases h with h2 | h2
   ·omega
   ·rcases Nat.lt_or_ge j c with h3 | h3
    ·exact r.nul k j h1 hk h3
    ·exact out k j hk (by omega)
theorem RI.ech (hP : isP p = true) (h0 : ∀ r ∈ rows, r.length = w ∧ Bnd p r) (r : RI p w rows M l d c) (h : d = M.length ∨ w ≤ c) : ech p rows = M.take d := (r.end hP h).ech hP h0
end
-- ---- kernels
def longP (rows : List (List Int)) : List (List Int) := (List.range rows.length).map fun i => rows.getD i default ++ unitP rows.length i
noncomputable def kerP (p : Int) (w : Nat) (rows : List (List Int)) : List (List Int) := ((ech p (longP rows)).filter fun r => decide ((w : Int) ≤ leadP r)).map fun r => r.drop w
theorem longP_tbl {p : Int} {w : Nat} (hp : 1 < p) {rows : List (List Int)} (h : ∀ r ∈ rows, r.length = w ∧ Bnd p r) : ∀ r ∈ longP rows, r.length = w + rows.length ∧ Bnd p r := fun r hr => by
 obtain ⟨i, hi, rfl⟩ := List.mem_map.1 hr
 rw [List.mem_range] at hi
 have hi' := h (rows.getD i default) (by rw [List.getD_eq_getElem?_getD, List.getElem?_eq_getElem hi]; exact List.getElem_mem hi)
 refine ⟨by rw [List.length_append, hi'.1]; simp [unitP], fun x hx => ?_⟩
 rcases List.mem_append.1 hx with h1 | h1
 ·exact hi'.2 x h1
 ·rcases List.mem_or_eq_of_mem_set h1 with h2 | h2
  ·have := List.eq_of_mem_replicate h2; omega
  ·omega
theorem filter_suffix {p : Int} {W w : Nat} : ∀ {L : List (List Int)} {l : Nat → Nat}, Rr p W L l → L.filter (fun r => decide ((w : Int) ≤ leadP r)) = L.drop (posP L w)
 | [], _, _ => rfl
 | a :: L, l, r => by
  have h0 : leadP a = l 0 := r.lead (i := 0) (by simp)
  obtain ⟨t1, t2, t3⟩ := posP_ok (at_ := w) r
  by_cases hc : l 0 < w
  ·have e : posP (a :: L) w = posP L w + 1 := by simp [posP, h0, hc]
   rw [e, List.drop_succ_cons, List.filter_cons, if_neg (by simp [h0]; omega)]
   exact filter_suffix r.tail
  ·have e : posP (a :: L) w = 0 := Nat.eq_zero_of_not_pos fun hpos => hc (t2 0 hpos)
   rw [e, List.drop_zero]
   apply List.filter_eq_self.2
   intro x hx
   obtain ⟨i, hi, rfl⟩ := List.getElem_of_mem hx
   have := r.lead hi
   rw [List.getD_eq_getElem?_getD, List.getElem?_eq_getElem hi] at this
   simp only [Option.getD_some] at this
   have := t3 i hi (by omega)
   simp only [decide_eq_true_eq]
   omega
theorem kerP_rr {p : Int} {w : Nat} (hP : isP p = true) {rows : List (List Int)} (h : ∀ r ∈ rows, r.length = w ∧ Bnd p r) : ∃ l, Rr p rows.length (kerP p w rows) l := by
 obtain ⟨⟨l, r⟩, _⟩ := ech_red (w := w + rows.length) hP (longP_tbl (isP_two hP).1 h)
 obtain ⟨t1, t2, t3⟩ := posP_ok (at_ := w) r
 rw [kerP, filter_suffix r]
 generalize ech p (longP rows) = E at *
 generalize posP E w = q at *
 have hl : ((E.drop q).map fun r => r.drop w).length = E.length - q := by simp
 have gt : ∀ i, i < E.length - q → ((E.drop q).map fun r => r.drop w).getD i default = (E.getD (q + i) default).drop w := fun i hi => by
  rw [List.getD_eq_getElem?_getD, List.getElem?_map, List.getElem?_drop, List.getD_eq_getElem?_getD, List.getElem?_eq_getElem (by omega)]; rfl
 have gg : ∀ i j, i < E.length - q → g2 ((E.drop q).map fun r => r.drop w) i j = g2 E (q + i) (w + j) := fun i j hi => by
  rw [g2, gt i hi, List.getD_eq_getElem?_getD, List.getElem?_drop, g2, List.getD_eq_getElem?_getD (l := E.getD (q + i) default)]
 refine ⟨fun i => l (q + i) - w, fun i hi => ?_, fun i hi => ?_, fun i hi => ?_, fun i hi => ?_, fun i j hi hj => ?_, fun i k hik hk => ?_, fun i k hi hk hne => ?_⟩
 ·rw [hl] at hi; rw [gt i hi, List.length_drop, r.len (q + i) (by omega)]; omega
 ·rw [hl] at hi; rw [gt i hi]; exact fun x hx => r.bnd (q + i) (by omega) x (List.mem_of_mem_drop hx)
 ·rw [hl] at hi
  have := r.lt (q + i) (by omega)
  have := t3 (q + i) (by omega) (by omega)
  omega
 ·rw [hl] at hi
  have := t3 (q + i) (by omega) (by omega)
  rw [gg i _ hi, show w + (l (q + i) - w) = l (q + i) by omega]; exact r.one (q + i) (by omega)
 ·rw [hl] at hi
  rw [gg i j hi]; exact r.zb (q + i) _ (by omega) (by omega)
 ·rw [hl] at hk
  have := t3 (q + i) (by omega) (by omega)
  have := r.inc (q + i) (q + k) (by omega) (by omega)
  omega
 ·rw [hl] at hi hk
  have := t3 (q + i) (by omega) (by omega)
  rw [gg k _ hk, show w + (l (q + i) - w) = l (q + i) by omega]; exact r.cl (q + i) (q + k) (by omega) (by omega) (by omega)
end Go.Proofs.Ytjjjgllbocgkbaa

namespace Go.Proofs.Ytjjjgllbocgkbaa
open Go
theorem add_add (a : Addr) (i j : Nat) : (a.add i).add j = a.add (i + j) := by
 unfold Addr.add
 by_cases hi : i = 0
 ·subst hi; simp
 ·by_cases hj : j = 0
  ·subst hj; simp [hi]
  ·rw [if_neg hj, if_neg hi, if_neg (by omega)]; simp [Nat.add_assoc]
/-- What is left of a slice behind some elements. -/
theorem RdS.dropV {α : Type} {E : Heap → Value → α → Prop} {h : Heap} {v : Value} {xs : List α} {t e : TypeId} {k : IntKind} (hv : RdS E h v xs) (ht : SlT TT t e) {lo : Int} (h0 : 0 ≤ lo) (h1 : lo ≤ xs.length) : ∃ v', sliceV TT t v (some (.int k lo)) none none = some v' ∧ RdS E h v' (xs.drop lo.toNat) := by
 obtain ⟨A, c, rfl, hA, hc, hm, hr⟩ := hv
 obtain ⟨i, j, e1, e2, e3, e4⟩ := ht.out
 refine ⟨.slice (if c = lo.toNat then A else A.map (·.add lo.toNat)) (xs.length - lo.toNat) (c - lo.toNat), ?_, _, _, by rw [List.length_drop], ?_, by rw [List.length_drop]; omega, by omega, fun q hq => ?_⟩
 ·simp only [sliceV, e1, Option.bind_some, e2, e3, bndsV, bndV, e4, Nat.mul_one]
  rw [if_pos ⟨h0, h1⟩]; rfl
 ·rcases hA with hA | hA
  ·left
   obtain ⟨a, rfl⟩ := Option.isSome_iff_exists.1 hA
   split <;> rfl
  ·right; rw [List.length_drop]; omega
 ·rw [List.length_drop] at hq
  have hs : A.isSome = true := hA.resolve_right (by omega)
  obtain ⟨a, rfl⟩ := Option.isSome_iff_exists.1 hs
  obtain ⟨u, hu, hE⟩ := hr (lo.toNat + q) (by omega)
  refine ⟨u, ?_, by rw [List.getElem_drop]; exact hE⟩
  rw [if_neg (by omega)]
  simp only [sA, Option.map_some] at hu ⊢
  rw [add_add]; exact hu
theorem flatten_take {β : Type} (l : List (List β)) (n : Nat) : (l.take n).flatten.Sublist l.flatten := by
 have h : l.flatten = (l.take n).flatten ++ (l.drop n).flatten := by rw [← List.flatten_append, List.take_append_drop]
 rw [h]; exact List.sublist_append_left _ _
section
variable {α : Type} {e : TypeId} {E : Heap → Value → α → List Nat → Prop} {h : Heap} {v : Value} {xs : List α} {fp : List Nat}
theorem OS.takeV (ho : OS e E h v xs fp) (hn : fp.Nodup) {t : TypeId} {k : IntKind} (ht : SlT TT t e) {hi : Int} (h0 : 0 ≤ hi) (h1 : hi ≤ xs.length) : ∃ v' fp', sliceV TT t v none (some (.int k hi)) none = some v' ∧ OS e E h v' (xs.take hi.toNat) fp' ∧ fp'.Nodup ∧ ∀ b ∈ fp', b ∈ fp := by
 obtain ⟨i, j, e1, e2, e3, e4⟩ := ht.out
 rcases ho with ⟨rfl, rfl, rfl⟩ | ⟨b, c, cur, fps, rfl, r⟩
 ·have : hi = 0 := by simp at h1; omega
  subst this
  refine ⟨.slice none 0 0, [], ?_, OS.nil, List.nodup_nil, fun b hb => hb⟩
  simp only [sliceV, e1, Option.bind_some, e2, e3, bndsV, bndV]
  rfl
 ·have hle := r.le
  have hl : (xs.take hi.toNat).length = hi.toNat := by simp; omega
  obtain ⟨hnb, hnf⟩ := List.nodup_cons.1 hn
  refine ⟨.slice (some ⟨b, 0, none⟩) hi.toNat c, b :: (fps.take hi.toNat).flatten, ?_, .inr ⟨b, c, cur, fps.take hi.toNat, rfl, ⟨by rw [hl], r.box, r.size, r.max, by rw [hl]; omega, by rw [hl, List.length_take, r.len]; omega, fun q hq => ?_⟩⟩, ?_, ?_⟩
  ·rw [r.val]
   simp only [sliceV, e1, Option.bind_some, e2, e3, bndsV, bndV]
   rw [if_pos ⟨h0, by omega⟩]
   simp [addr_zero]
  ·rw [hl] at hq
   obtain ⟨u, f, k1, k2, k3⟩ := r.el q (by omega)
   exact ⟨u, f, k1, by rw [List.getElem?_take, if_pos hq]; exact k2, by rw [List.getElem_take]; exact k3⟩
  ·have hs : (fps.take hi.toNat).flatten.Sublist fps.flatten := flatten_take _ _
   exact List.nodup_cons.2 ⟨fun hm => hnb (hs.subset hm), hnf.sublist hs⟩
  ·intro q hq
   rcases List.mem_cons.1 hq with rfl | hq
   ·simp
   ·exact List.mem_cons_of_mem _ ((flatten_take _ _).subset hq)
theorem Row.rowV {b c : Nat} {cur : Array Value} {fps : List (List Nat)} (r : Row e E h v xs b c cur fps) {j : Nat} {u : Value} (hu : cur[j]? = some u) : Go.Proofs.Ytjjjgllbocgkbaa.rowV h v j = u := by
 unfold Go.Proofs.Ytjjjgllbocgkbaa.rowV
 rw [r.val]
 simp only [sA]
 rw [addr_add, r.box.cell, Nat.zero_add, hu]; rfl
/-- Two elements: the one changed in place, the other stays. -/
theorem OS.two [Own E] [Inhabited α] (ho : OS e E h v xs fp) (hn : fp.Nodup) {i d : Nat} (hi : i < xs.length) (hd : d < xs.length) (hne : i ≠ d) : ∃ f, E h (rowV h v i) (xs.getD i default) f ∧ f.Nodup ∧ (∀ b ∈ f, b ∈ fp) ∧ (∀ h' x', Chg f h h' → E h' (rowV h v i) x' f → OS e E h' v (xs.set i x') fp) ∧ ∀ h', Chg f h h' → ∃ g, E h' (rowV h v d) (xs.getD d default) g := by
 have hel := OS.elem ho hn i hi
 rcases ho with ⟨_, rfl, _⟩ | ⟨b, c, cur, fps, rfl, r⟩
 ·simp at hi
 ·obtain ⟨u, f, h1, h2, h4⟩ := r.el i hi
  obtain ⟨u', f', k1, k2, k4⟩ := r.el d hd
  obtain ⟨hb, hfl⟩ := List.nodup_cons.1 hn
  have hfn := List.pairwise_flatten.1 hfl
  have hfm : f ∈ fps := List.mem_of_getElem? h2
  have hxi : xs.getD i default = xs[i] := by rw [List.getD_eq_getElem?_getD, List.getElem?_eq_getElem hi]; rfl
  have hxd : xs.getD d default = xs[d] := by rw [List.getD_eq_getElem?_getD, List.getElem?_eq_getElem hd]; rfl
  have hjl : i < fps.length := (List.getElem?_eq_some_iff.1 h2).1
  have hil : d < fps.length := (List.getElem?_eq_some_iff.1 k2).1
  have e1 : fps[i] = f := (List.getElem?_eq_some_iff.1 h2).2
  have e2 : fps[d] = f' := (List.getElem?_eq_some_iff.1 k2).2
  have hp := List.pairwise_iff_getElem.1 hfn.2
  have hdis : ∀ q ∈ f', q ∉ f := fun q hq hqf => by
   rcases Nat.lt_or_gt_of_ne hne with hlt | hgt
   ·have := hp i d hjl hil hlt
    rw [e1, e2] at this
    exact this _ hqf _ hq rfl
   ·have := hp d i hil hjl hgt
    rw [e1, e2] at this
    exact this _ hq _ hqf rfl
  have hsub : ∀ q ∈ f, q ∈ b :: fps.flatten := fun q hq => List.mem_cons_of_mem _ (List.mem_flatten.2 ⟨f, hfm, hq⟩)
  refine ⟨f, by rw [r.rowV h1, hxi]; exact h4, hfn.1 f hfm, hsub, fun h' x' hc hE => ?_, fun h' hc => ⟨f', ?_⟩⟩
  ·rw [r.rowV h1] at hE
   refine .inr ⟨b, c, cur, fps, rfl, ⟨by rw [List.length_set]; exact r.val, ?_, r.size, r.max, by rw [List.length_set]; exact r.le, by rw [List.length_set]; exact r.len, fun q hq => ?_⟩⟩
   ·have := hc.block b r.box.lt (fun hq => hb (List.mem_flatten.2 ⟨f, hfm, hq⟩))
    unfold BoxAt
    rw [this]; exact r.box
   ·rw [List.length_set] at hq
    by_cases hij : i = q
    ·subst hij
     exact ⟨u, f, h1, h2, by simpa using hE⟩
    ·obtain ⟨u2, f2, l1, l2, l4⟩ := r.el q hq
     refine ⟨u2, f2, l1, l2, ?_⟩
     rw [List.getElem_set_ne hij]
     refine Own.loc (fun z hz => hc.block z (Own.lt l4 z hz) fun hzf => ?_) l4
     have hql : q < fps.length := (List.getElem?_eq_some_iff.1 l2).1
     have e3 : fps[q] = f2 := (List.getElem?_eq_some_iff.1 l2).2
     rcases Nat.lt_or_gt_of_ne hij with hlt | hgt
     ·have := hp i q hjl hql hlt
      rw [e1, e3] at this
      exact this _ hzf _ hz rfl
     ·have := hp q i hql hjl hgt
      rw [e1, e3] at this
      exact this _ hz _ hzf rfl
  ·rw [r.rowV k1, hxd]
   exact Own.loc (fun z hz => hc.block z (Own.lt k4 z hz) (hdis z hz)) k4
/-- Two elements change their places. -/
theorem OS.swap [Own E] [Inhabited α] (ho : OS e E h v xs fp) (hn : fp.Nodup) {d a : Nat} (hd : d < xs.length) (ha : a < xs.length) :
  ((hcell h ((sA v).add d)).isSome = true ∧ hfrozen h ((sA v).add d) = false) ∧ ((hcell (hset h ((sA v).add d) (rowV h v a)) ((sA v).add a)).isSome = true ∧ hfrozen (hset h ((sA v).add d) (rowV h v a)) ((sA v).add a) = false) ∧ ((rowV h v a).oneCell' = true ∧ (rowV h v a).cells = #[rowV h v a]) ∧ ((rowV h v d).oneCell' = true ∧ (rowV h v d).cells = #[rowV h v d]) ∧
  ∃ fp', OS e E (hset (hset h ((sA v).add d) (rowV h v a)) ((sA v).add a) (rowV h v d)) v (swapP xs d a) fp' ∧ fp'.Nodup ∧ (∀ b ∈ fp', b ∈ fp) ∧ Chg fp h (hset (hset h ((sA v).add d) (rowV h v a)) ((sA v).add a) (rowV h v d)) := by
 rcases ho with ⟨_, rfl, _⟩ | ⟨b, c, cur, fps, rfl, r⟩
 ·simp at hd
 ·obtain ⟨ud, fd, d1, d2, d4⟩ := r.el d hd
  obtain ⟨ua, fa, a1, a2, a4⟩ := r.el a ha
  have hdc : d < cur.size := by have := r.size; have := r.le; omega
  have hac : a < cur.size := by have := r.size; have := r.le; omega
  have hdf : d < fps.length := by rw [r.len]; exact hd
  have haf : a < fps.length := by rw [r.len]; exact ha
  have had : (sA v).add d = ⟨b, d, none⟩ := by rw [r.val]; simp only [sA]; rw [addr_add, Nat.zero_add]
  have haa : (sA v).add a = ⟨b, a, none⟩ := by rw [r.val]; simp only [sA]; rw [addr_add, Nat.zero_add]
  rw [r.rowV d1, r.rowV a1, had, haa]
  have b1 := BoxAt.set (o := d) (v := ua) r.box
  have b2 := BoxAt.set (o := a) (v := ud) b1
  obtain ⟨hnb, hnf⟩ := List.nodup_cons.1 hn
  refine ⟨⟨by rw [r.box.cell, Array.getElem?_eq_getElem hdc]; rfl, r.box.frozen _⟩, ⟨by rw [b1.cell, Array.getElem?_eq_getElem (by rw [Array.size_setIfInBounds]; exact hac)]; rfl, b1.frozen _⟩, Own.one a4, Own.one d4, b :: (swapP fps d a).flatten, .inr ⟨b, c, _, swapP fps d a, rfl, ⟨by rw [swapP_len]; exact r.val, b2, by rw [Array.size_setIfInBounds, Array.size_setIfInBounds]; exact r.size, r.max, by rw [swapP_len]; exact r.le, by rw [swapP_len, swapP_len]; exact r.len, fun i hi => ?_⟩⟩, ?_, ?_, ?_⟩
  ·have hi' : i < xs.length := by rw [swapP_len] at hi; exact hi
   have hif : i < fps.length := by rw [r.len]; exact hi'
   have hic : i < cur.size := by have := r.size; have := r.le; omega
   have loc : ∀ {u : Value} {x : α} {f : List Nat}, f ∈ fps → E h u x f → E (hset (hset h ⟨b, d, none⟩ ua) ⟨b, a, none⟩ ud) u x f := fun hf hE => Own.loc (fun q hq => by
    have hqb : q ≠ b := fun e => hnb (List.mem_flatten.2 ⟨_, hf, e ▸ hq⟩)
    rw [hset_other hqb, hset_other hqb]) hE
   have gx : (swapP xs d a)[i] = if a = i then xs[d] else if d = i then xs[a] else xs[i] := by
    have := swapP_get hd ha i
    rw [List.getD_eq_getElem?_getD, List.getElem?_eq_getElem hi, List.getD_eq_getElem?_getD, List.getElem?_eq_getElem hd, List.getD_eq_getElem?_getD, List.getElem?_eq_getElem ha, List.getD_eq_getElem?_getD, List.getElem?_eq_getElem hi'] at this
    exact this
   have hswl : i < (swapP fps d a).length := by rw [swapP_len]; exact hif
   have gf : (swapP fps d a)[i]? = some (if a = i then fd else if d = i then fa else fps[i]) := by
    have := swapP_get hdf haf i
    rw [List.getD_eq_getElem?_getD, List.getElem?_eq_getElem hswl, List.getD_eq_getElem?_getD, d2, List.getD_eq_getElem?_getD, a2, List.getD_eq_getElem?_getD, List.getElem?_eq_getElem hif] at this
    rw [List.getElem?_eq_getElem hswl]
    exact congrArg some this
   rw [gx, gf]
   by_cases h1 : a = i
   ·subst h1
    refine ⟨ud, fd, by rw [Array.getElem?_setIfInBounds_self_of_lt (by rw [Array.size_setIfInBounds]; exact hac)], by rw [if_pos rfl], ?_⟩
    rw [if_pos rfl]; exact loc (List.mem_of_getElem? d2) d4
   ·by_cases h2 : d = i
    ·subst h2
     refine ⟨ua, fa, by rw [Array.getElem?_setIfInBounds_ne h1, Array.getElem?_setIfInBounds_self_of_lt hdc], by rw [if_neg h1, if_pos rfl], ?_⟩
     rw [if_neg h1, if_pos rfl]; exact loc (List.mem_of_getElem? a2) a4
    ·obtain ⟨ui, fi, i1, i2, i4⟩ := r.el i hi'
     refine ⟨ui, fi, by rw [Array.getElem?_setIfInBounds_ne h1, Array.getElem?_setIfInBounds_ne h2]; exact i1, ?_, ?_⟩
     ·rw [if_neg h1, if_neg h2, ← i2, List.getElem?_eq_getElem hif]
     ·rw [if_neg h1, if_neg h2]; exact loc (List.mem_of_getElem? i2) i4
  ·have hp := List.pairwise_flatten.1 hnf
   have hswap : ∀ i, i < fps.length → ∃ k, k < fps.length ∧ (swapP fps d a)[i]? = fps[k]? ∧ k = (if a = i then d else if d = i then a else i) := fun i hi => by
    have hswl : i < (swapP fps d a).length := by rw [swapP_len]; exact hi
    have := swapP_get hdf haf i
    rw [List.getD_eq_getElem?_getD, List.getElem?_eq_getElem hswl] at this
    refine ⟨if a = i then d else if d = i then a else i, by split; exact hdf; split; exact haf; exact hi, ?_, rfl⟩
    rw [List.getElem?_eq_getElem hswl]
    by_cases h1 : a = i
    ·rw [if_pos h1] at this ⊢
     rw [List.getD_eq_getElem?_getD, List.getElem?_eq_getElem hdf] at this
     rw [List.getElem?_eq_getElem hdf]; exact congrArg some this
    ·rw [if_neg h1] at this ⊢
     by_cases h2 : d = i
     ·rw [if_pos h2] at this ⊢
      rw [List.getD_eq_getElem?_getD, List.getElem?_eq_getElem haf] at this
      rw [List.getElem?_eq_getElem haf]; exact congrArg some this
     ·rw [if_neg h2] at this ⊢
      rw [List.getD_eq_getElem?_getD, List.getElem?_eq_getElem hi] at this
      rw [List.getElem?_eq_getElem hi]; exact congrArg some this
   have hmem : ∀ f, f ∈ swapP fps d a → f ∈ fps := fun f hf => by
    obtain ⟨i, hi, rfl⟩ := List.getElem_of_mem hf
    have hi' : i < fps.length := by rw [swapP_len] at hi; exact hi
    obtain ⟨k, hk, e, _⟩ := hswap i hi'
    rw [List.getElem?_eq_getElem hi, List.getElem?_eq_getElem hk] at e
    injection e with e
    rw [e]; exact List.getElem_mem hk
   refine List.nodup_cons.2 ⟨fun hm => ?_, List.pairwise_flatten.2 ⟨fun f hf => hp.1 f (hmem f hf), ?_⟩⟩
   ·obtain ⟨f, hf, hbf⟩ := List.mem_flatten.1 hm
    exact hnb (List.mem_flatten.2 ⟨f, hmem f hf, hbf⟩)
   ·rw [List.pairwise_iff_getElem]
    intro i j hi hj hij x hx y hy
    have hi' : i < fps.length := by rw [swapP_len] at hi; exact hi
    have hj' : j < fps.length := by rw [swapP_len] at hj; exact hj
    obtain ⟨k, hk, e1, k1⟩ := hswap i hi'
    obtain ⟨m, hm, e2, m1⟩ := hswap j hj'
    rw [List.getElem?_eq_getElem hi, List.getElem?_eq_getElem hk] at e1
    rw [List.getElem?_eq_getElem hj, List.getElem?_eq_getElem hm] at e2
    injection e1 with e1
    injection e2 with e2
    rw [e1] at hx
    rw [e2] at hy
    have hkm : k ≠ m := by
     rw [k1, m1]
     split <;> split <;> first | omega | (split <;> first | omega | (split <;> omega))
    have hpp := List.pairwise_iff_getElem.1 hp.2
    rcases Nat.lt_or_gt_of_ne hkm with h' | h'
    ·exact hpp k m hk hm h' _ hx _ hy
    ·exact (hpp m k hm hk h' _ hy _ hx).symm
  ·intro q hq
   rcases List.mem_cons.1 hq with rfl | hq
   ·simp
   ·obtain ⟨f, hf, hbf⟩ := List.mem_flatten.1 hq
    refine List.mem_cons_of_mem _ (List.mem_flatten.2 ⟨f, ?_, hbf⟩)
    rcases List.mem_or_eq_of_mem_set hf with h1 | h1
    ·rcases List.mem_or_eq_of_mem_set h1 with h2 | h2
     ·exact h2
     ·rw [h2, List.getD_eq_getElem?_getD, List.getElem?_eq_getElem haf]; exact List.getElem_mem haf
    ·rw [h1, List.getD_eq_getElem?_getD, List.getElem?_eq_getElem hdf]; exact List.getElem_mem hdf
  ·exact ((hset_chg h b d ua).trans (hset_chg _ b a ud)).mono (by simp)
end
section
variable {P : Program} {T : Tab} {n : Nat} {K : Env → Heap → Prop} {env : Env} {h : Heap} {d : Option Tmp} {ty : TypeId} {p : String} {a : Array Edge} {g : Option (Nat × Bool)} {t e : TypeId}
theorem op_raw {x y : Operand} {ad : Addr} {u : Value} (hst : ∀ h a v, storeV T h t a v = if v.cells.size = 1 then hputs a h 0 v.cells.toList else none) (h1 : (hcell h ad).isSome = true ∧ hfrozen h ad = false) (h2 : u.oneCell' = true ∧ u.cells = #[u]) (hx : ev env x = .pointer (some ad)) (hy : ev env y = u)
  (hk : outv n ⟨d, .store t x y, ty, p, a, g⟩ K env (hset h ad u) undef) : opP P T n ⟨d, .store t x y, ty, p, a, g⟩ K env h := by
 rw [opP_store, hx, hy, asAd_ptr, Bd_some, hst, h2.2]
 rw [if_pos (show #[u].size = 1 from rfl)]
 have ha : ad.add 0 = ad := by unfold Addr.add; simp
 have : hputs ad h 0 #[u].toList = some (hset h ad u) := by
  show hputs ad h 0 [u] = _
  simp only [hputs]
  rw [ha, if_pos ⟨h1.1, h1.2, h2.1⟩]
 rw [this, Bd_some]
 exact hk
end
theorem nest_set {S : List (List Int)} {d : Nat} {r : List Int} {k : Nat} {v : Int} (hd : d < S.length) : (S.set d r).set d (((S.set d r).getD d default).set k v) = S.set d (r.set k v) := by
 rw [getD_set hd, if_pos rfl, List.set_set]
theorem mul42B {k y p : Int} (hk : 0 ≤ k ∧ k ≤ 7) (hy : 0 ≤ y ∧ y < p) (hp : p ≤ 7) : 0 ≤ k * y ∧ k * y ≤ 42 := by
 have h1 : k * y ≤ 7 * y := Int.mul_le_mul_of_nonneg_right hk.2 hy.1
 have h2 := Int.mul_nonneg hk.1 hy.1
 omega
theorem tmod_e {x p : Int} (h : 0 ≤ x) : x.tmod p = x % p := Int.tmod_eq_emod_of_nonneg h
theorem clr_val {p a k y : Int} (hk : 0 ≤ k ∧ k < p) (ha : 0 ≤ a) (hy : 0 ≤ y) : (a + (p - k) * y).tmod p = (a - k * y) % p := by
 have : 0 ≤ (p - k) * y := Int.mul_nonneg (by omega) hy
 rw [tmod_e (by omega), show a + (p - k) * y = a - k * y + p * y by rw [Int.sub_mul]; omega, Int.add_mul_emod_self_left]

set_option maxRecDepth 100000 in
theorem iInv_ok (p : Int) (x : Int) (h : Heap)  (hP : isP p = true) (hx : 0 < x ∧ x < p) : CallA Try.prog 173 #[.int .i64 p, .int .i64 x] h fun v' h' => v' = .int .i64 (invP p x) ∧ Ext h h' := by
 have hi := invP_ok hP hx.1 hx.2
 have hp := isP_two hP
 refine callA_intro TTok (args := [_, _]) Try.func173 (by kernel_rfl) rfl 15 rfl (by simp) [.tmp 4] rfl ?_
 simp only [idxs, Nat.reduceAdd]
 refine den_seq ?_
 refine den_region TTok ?_
 intro K hK
 simp -implicitDefEqProofs (disch := first | decide | assumption | omega) only [go_sem, wrap_id]
 refine hK _ _ ?_
 clear hK K
 refine den_seq ?_
 refine den_region TTok ?_
 intro K hK
 simp -implicitDefEqProofs (disch := first | decide | assumption | omega) only [go_sem, wrap_id]
 refine hK _ _ ?_
 clear hK K
 refine den_seq ?_
 refine den_block ?_
 refine den_sel [5, 0, 1] ?_
 intro env_1
 simp only [go_sem]
 refine den_loopP (σ := Int) (fun st_ => [(5, .int .i64 st_)]) (fun st_ => (1 ≤ st_ ∧ st_ ≤ invP p x)) (fun st_ => (invP p x - st_).toNat) 1 ?_ ?_
 ·exact ⟨rfl, by omega, by omega⟩
 ·rintro k ee2 hk
  simp only [List.cons_append, List.nil_append]
  have hkx := mul36 (x := k) (y := x) (p := p) ⟨by omega, by omega⟩ ⟨by omega, hx.2⟩ hp.2
  have hte := tmod_e (p := p) hkx.1
  have hlt : (k * x).tmod p ≠ 1 → k < invP p x := fun hne => by
   rcases Int.lt_or_eq_of_le hk.2 with h1 | h1
   ·exact h1
   ·rw [hte, h1] at hne; exact absurd hi.2.1 hne
  refine den_seq ?_
  refine den_seq ?_
  refine den_region TTok ?_
  intro K hK
  simp -implicitDefEqProofs (disch := first | decide | assumption | omega) only [go_sem, wrap_id]
  refine hK _ _ ?_
  clear hK K
  refine den_cond rfl (fun c0 => ?_) (fun c0 => ?_)
  ·try simp only [decide_eq_true_eq, decide_eq_false_iff_not, beq_iff_eq, beq_eq_false_iff_ne, bne_iff_ne, ne_eq, Bool.not_eq_true', Bool.not_eq_false', Bool.and_eq_true, Bool.or_eq_true, bne_eq_false_iff_eq] at c0
   refine den_skip ?_
   refine den_block ?_
   refine den_region TTok ?_
   intro K hK
   simp -implicitDefEqProofs (disch := first | decide | assumption | omega) only [go_sem, wrap_id]
   refine hK _ _ ?_
   clear hK K
   refine den_blk ?_
   refine den_stop ?_
   have hl2 := hlt c0
   exact ⟨k + 1, by simp [HasL, puts_at], ⟨rfl, by first | omega | (dsimp only; omega)⟩, by first | omega | (dsimp only; omega)⟩
  ·try simp only [decide_eq_true_eq, decide_eq_false_iff_not, beq_iff_eq, beq_eq_false_iff_ne, bne_iff_ne, ne_eq, Bool.not_eq_true', Bool.not_eq_false', Bool.and_eq_true, Bool.or_eq_true, bne_eq_false_iff_eq] at c0
   refine den_exit ?_
   refine denX_code ?_
   refine denX_stop ?_
   refine denX_hit ?_
   refine den_seq ?_
   refine den_region TTok ?_
   intro K hK
   simp -implicitDefEqProofs (disch := first | decide | assumption | omega) only [go_sem, wrap_id]
   refine hK _ _ ?_
   clear hK K
   refine den_ret ?_
   simp (disch := decide) only [resP_1, puts_same, puts_ne]
   have e : invP p x = k := by
    rcases Int.lt_or_eq_of_le hk.2 with h1 | h1
    ·rw [hte] at c0; exact absurd c0 (hi.2.2 k hk.1 h1)
    ·exact h1.symm
   exact ⟨vint e.symm, (Ext.refl _)⟩

set_option maxRecDepth 100000 in
theorem sInv_ok (p : Int) (x : Int) (h : Heap)  (hP : isP p = true) (hx : 0 < x ∧ x < p) : CallA Try.prog 204 #[.int .i64 p, .int .i64 x] h fun v' h' => v' = .int .i64 (invP p x) ∧ Ext h h' := by
 have hi := invP_ok hP hx.1 hx.2
 have hp := isP_two hP
 have hxm : x % p = x := Int.emod_eq_of_lt (by omega) hx.2
 refine callA_intro TTok (args := [_, _]) Try.func204 (by kernel_rfl) rfl 20 rfl (by simp) [.tmp 4] rfl ?_
 simp only [idxs, Nat.reduceAdd]
 refine den_seq ?_
 refine den_region TTok ?_
 intro K hK
 simp -implicitDefEqProofs (disch := first | decide | assumption | omega) only [go_sem, wrap_id]
 refine hK _ _ ?_
 clear hK K
 refine den_seq ?_
 refine den_seq ?_
 refine den_region TTok ?_
 intro K hK
 simp -implicitDefEqProofs (disch := first | decide | assumption | omega) only [go_sem, wrap_id]
 refine hK _ _ ?_
 clear hK K
 refine den_block ?_
 refine den_sel [5, 0, 1] ?_
 intro env_1
 simp only [go_sem]
 refine den_loopS (σ := Int) (fun st_ => [(5, .int .i64 st_)]) (fun st_ H => (1 ≤ st_ ∧ st_ ≤ invP p x) ∧ (Ext h H)) (fun st_ => (invP p x - st_).toNat) 1 ?_ ?_
 ·exact ⟨⟨by omega, by omega⟩, Ext.refl _⟩
 ·rintro k h4 ee3 ⟨hk, cL2⟩
  have := Ext.size cL2
  have eB := cL2
  simp only [List.cons_append, List.nil_append]
  have hkx := mul36 (x := k) (y := x % p) (p := p) ⟨by omega, by omega⟩ ⟨by omega, by omega⟩ hp.2
  have hte := tmod_e (p := p) hkx.1
  rw [hxm] at hte hkx
  have hlt : (k * x).tmod p ≠ 1 → k < invP p x := fun hne => by
   rcases Int.lt_or_eq_of_le hk.2 with h1 | h1
   ·exact h1
   ·rw [hte, h1] at hne; exact absurd hi.2.1 hne
  refine den_seq ?_
  refine den_seq ?_
  refine den_region TTok ?_
  intro K hK
  simp -implicitDefEqProofs (disch := first | decide | assumption | omega) only [go_sem, wrap_id]
  refine hK _ _ ?_
  clear hK K
  refine den_cond rfl (fun c0 => ?_) (fun c0 => ?_)
  ·try simp only [decide_eq_true_eq, decide_eq_false_iff_not, beq_iff_eq, beq_eq_false_iff_ne, bne_iff_ne, ne_eq, Bool.not_eq_true', Bool.not_eq_false', Bool.and_eq_true, Bool.or_eq_true, bne_eq_false_iff_eq] at c0
   refine den_skip ?_
   refine den_seq ?_
   refine den_block ?_
   refine den_seq ?_
   rw [← hxm] at hkx
   refine den_region TTok ?_
   intro K hK
   simp -implicitDefEqProofs (disch := first | decide | assumption | omega) only [go_sem, wrap_id]
   try simp -implicitDefEqProofs (disch := first | decide | assumption | omega) only [go_sem, wrap_id]
   refine CallA.mono (sMod_ok  p x _  (by omega) (by omega)) ?_
   intro v_ h4_3
   rintro ⟨rfl, e4_3⟩
   have := Ext.size e4_3
   replace eB := Ext.trans eB e4_3
   replace cL2 := Ext.trans cL2 e4_3
   try simp -implicitDefEqProofs (disch := first | decide | assumption | omega) only [go_sem, wrap_id]
   refine hK _ _ ?_
   clear hK K
   refine den_cond rfl (fun c1 => ?_) (fun c1 => ?_)
   ·try simp only [decide_eq_true_eq, decide_eq_false_iff_not, beq_iff_eq, beq_eq_false_iff_ne, bne_iff_ne, ne_eq, Bool.not_eq_true', Bool.not_eq_false', Bool.and_eq_true, Bool.or_eq_true, bne_eq_false_iff_eq] at c1
    refine den_seq ?_
    refine den_region TTok ?_
    intro K hK
    simp -implicitDefEqProofs (disch := first | decide | assumption | omega) only [go_sem, wrap_id]
    refine hK _ _ ?_
    clear hK K
    refine den_ret ?_
    simp (disch := decide) only [resP_1, puts_same, puts_ne]
    have e : invP p x = k := by
     rcases Int.lt_or_eq_of_le hk.2 with h1 | h1
     ·have h2 := c1
      rw [hxm, hte] at h2; exact absurd h2 (hi.2.2 k hk.1 h1)
     ·exact h1.symm
    exact ⟨vint e.symm, eB⟩
   ·try simp only [decide_eq_true_eq, decide_eq_false_iff_not, beq_iff_eq, beq_eq_false_iff_ne, bne_iff_ne, ne_eq, Bool.not_eq_true', Bool.not_eq_false', Bool.and_eq_true, Bool.or_eq_true, bne_eq_false_iff_eq] at c1
    refine den_skip ?_
    refine den_blk ?_
    refine den_region TTok ?_
    intro K hK
    simp -implicitDefEqProofs (disch := first | decide | assumption | omega) only [go_sem, wrap_id]
    refine hK _ _ ?_
    clear hK K
    refine den_stop ?_
    have hl2 := hlt (by have h1 := c1; rw [hxm] at h1; exact h1)
    exact ⟨k + 1, by simp [HasL, puts_at], ⟨by first | omega | (dsimp only; omega), cL2⟩, by first | omega | (dsimp only; omega)⟩
  ·try simp only [decide_eq_true_eq, decide_eq_false_iff_not, beq_iff_eq, beq_eq_false_iff_ne, bne_iff_ne, ne_eq, Bool.not_eq_true', Bool.not_eq_false', Bool.and_eq_true, Bool.or_eq_true, bne_eq_false_iff_eq] at c0
   refine den_exit ?_
   refine denX_code ?_
   refine denX_stop ?_
   refine denX_hit ?_
   refine den_seq ?_
   refine den_region TTok ?_
   intro K hK
   simp -implicitDefEqProofs (disch := first | decide | assumption | omega) only [go_sem, wrap_id]
   refine hK _ _ ?_
   clear hK K
   refine den_ret ?_
   simp (disch := decide) only [resP_1, puts_same, puts_ne]
   exact absurd hk.2 (by omega)

set_option maxRecDepth 100000 in
theorem clear_ok (p k : Int) (v u : Value) (a b : List Int) (f : List Nat) (h : Heap) (ho : O1 h v a f) (hn : f.Nodup) (rb : R1 h u b) (hk : ∀ h', Chg f h h' → R1 h' u b) (hp : 0 < p ∧ p ≤ 7) (hl : b.length = a.length) (ha : Bnd p a) (hb : Bnd p b) (hx : 0 ≤ k ∧ k < p) : CallA Try.prog 174 #[v, u, .int .i64 p, .int .i64 k] h fun v' h' => v' = .tuple #[] ∧ O1 h' v (lessRow p k a b) f ∧ Chg f h h' := by
 have hfr : Fresh 0 f := ⟨hn, fun b _ => Nat.zero_le b⟩
 have hle := OS.len_le ho
 have hleb := RdS.le rb
 refine callA_intro TTok (args := [_, _, _, _]) Try.func174 (by kernel_rfl) rfl 33 rfl (by simp) [] rfl ?_
 simp only [idxs, Nat.reduceAdd]
 have hlho := OS.lt ho
 have cA : Chg f h h := Chg.refl _ _
 refine den_seq ?_
 refine den_region TTok ?_
 intro K hK
 simp -implicitDefEqProofs (disch := first | decide | assumption | omega) only [go_sem, RdS.len (OS.rd ho) sl22, RdS.idx (OS.rd ho) sl22, R1.intN (OS.rd ho), RdS.cells (OS.rd ho), wrap_id, RdS.len rb sl22]
 refine hK _ _ ?_
 clear hK K
 refine den_block ?_
 refine den_sel [12, 0, 2, 3, 10, 11] ?_
 intro env_1
 simp only [go_sem]
 refine den_loopS (σ := Nat) (fun st_ => [(12, .int .i64 (st_ : Int))]) (fun st_ H => (st_ ≤ b.length) ∧ (O1 H v (mix (lessRow p k a b) a st_) f) ∧ (Chg f h H)) (fun st_ => b.length - st_) 0 ?_ ?_
 ·exact ⟨by first | (simp; done) | (dsimp only; omega) | (simp; omega), by rw [mix_zero]; exact ho, Chg.refl _ _⟩
 ·rintro j h4 ee3 ⟨hi0, hO, cL2⟩
  have := cL2.size
  replace cA := Chg.step cA cL2 Sub.refl
  have sbhO : Sub f h.size f := Sub.refl
  have hfhO := hfr
  have sb5 : Sub f h.size f := Sub.trans sbhO Sub.refl (by omega)
  have hlhO := hlho
  simp only [List.cons_append, List.nil_append]
  have rbH := hk _ cA
  have hml := mix_len (lessRow p k a b) a j (lessRow_len _ _ _ _)
  refine den_seq ?_
  refine den_region TTok ?_
  intro K hK
  simp -implicitDefEqProofs (disch := first | decide | assumption | omega) only [go_sem, RdS.len (OS.rd hO) sl22, RdS.idx (OS.rd hO) sl22, R1.intN (OS.rd hO), RdS.cells (OS.rd hO), wrap_id]
  refine hK _ _ ?_
  clear hK K
  refine den_seq ?_
  refine den_cond rfl (fun c0 => ?_) (fun c0 => ?_)
  ·try simp only [decide_eq_true_eq, decide_eq_false_iff_not, beq_iff_eq, beq_eq_false_iff_ne, bne_iff_ne, ne_eq, Bool.not_eq_true', Bool.not_eq_false', Bool.and_eq_true, Bool.or_eq_true, bne_eq_false_iff_eq] at c0
   refine den_skip ?_
   refine den_seq ?_
   refine den_block ?_
   refine den_seq ?_
   refine den_region TTok ?_
   intro K hK
   simp -implicitDefEqProofs (disch := first | decide | assumption | omega) only [go_sem, ld2, RdS.len (OS.rd hO) sl22, RdS.idx (OS.rd hO) sl22, R1.intN (OS.rd hO), RdS.cells (OS.rd hO), wrap_id, RdS.idx rb sl22, R1.intN rbH]
   refine hK _ _ ?_
   clear hK K
   have hxa := ha.at (k := j) (by omega)
   have hxb := hb.at (k := j) (by omega)
   have hky := mul42B (k := p - k) ⟨by omega, by omega⟩ hxb hp.2
   have hmg := mix_get (lessRow p k a b) a j 0 (lessRow_len _ _ _ _) (by omega)
   have hcv := clr_val hx hxa.1 hxb.1
   refine den_region TTok ?_
   intro K hK
   simp -implicitDefEqProofs (disch := first | decide | assumption | omega) only [go_sem, ld2, RdS.len (OS.rd hO) sl22, RdS.idx (OS.rd hO) sl22, R1.intN (OS.rd hO), RdS.cells (OS.rd hO), wrap_id]
   refine op_store1 (j := j) st2 hO hfhO.nodup (by first | omega | (simp; omega)) rfl rfl ?_
   intro h3_15 ho3_15 c3_15
   have hsz3_15 := c3_15.size
   have := c3_15.size
   replace cA := Chg.step cA c3_15 sb5
   replace cL2 := Chg.step cL2 c3_15 sbhO
   have hlho3_15 := hlhO
   have hlenho3_15 : ((mix (lessRow p k a b) a j).set j (Int.tmod (((mix (lessRow p k a b) a j).getD j 0) + ((p - k) * (b.getD j 0))) p) : List Int).length = (mix (lessRow p k a b) a j : List Int).length := List.length_set
   try simp -implicitDefEqProofs (disch := first | decide | assumption | omega) only [go_sem, RdS.len (OS.rd ho3_15) sl22, RdS.idx (OS.rd ho3_15) sl22, R1.intN (OS.rd ho3_15), RdS.cells (OS.rd ho3_15), wrap_id]
   refine hK _ _ ?_
   clear hK K
   refine den_blk ?_
   refine den_region TTok ?_
   intro K hK
   simp -implicitDefEqProofs (disch := first | decide | assumption | omega) only [go_sem, RdS.len (OS.rd ho3_15) sl22, RdS.idx (OS.rd ho3_15) sl22, R1.intN (OS.rd ho3_15), RdS.cells (OS.rd ho3_15), wrap_id]
   refine hK _ _ ?_
   clear hK K
   refine den_stop ?_
   rw [hmg, hcv, ← lessRow_get p k (by omega), mix_set _ _ _ _ (lessRow_len _ _ _ _) (by omega)] at ho3_15
   exact ⟨j + 1, by simp [HasL, puts_at], ⟨by first | omega | (dsimp only; omega), ho3_15, cL2⟩, by first | omega | (dsimp only; omega)⟩
  ·try simp only [decide_eq_true_eq, decide_eq_false_iff_not, beq_iff_eq, beq_eq_false_iff_ne, bne_iff_ne, ne_eq, Bool.not_eq_true', Bool.not_eq_false', Bool.and_eq_true, Bool.or_eq_true, bne_eq_false_iff_eq] at c0
   refine den_exit ?_
   refine denX_code ?_
   refine denX_stop ?_
   refine denX_hit ?_
   refine den_nil ?_
   simp (disch := decide) only [resP_0, puts_same, puts_ne]
   rw [mix_end _ _ _ (lessRow_len _ _ _ _) (by omega)] at hO
   exact ⟨by first | rfl | trivial, hO, cA⟩
end Go.Proofs.Ytjjjgllbocgkbaa

namespace Go.Proofs.Ytjjjgllbocgkbaa
open Go
set_option maxRecDepth 100000 in
theorem sRest_ok (vR vv : Value) (p : Int) (R : List (List Int)) (v : List Int) (h : Heap) (rR : R2 h vR R) (rv : R1 h vv v) {w_ : Nat} {l_ : Nat → Nat} (hP : isP p = true) (hr : Rr p w_ R l_) (hv : v.length = w_ ∧ w_ ≤ 1000) (hb : Bnd p v) : CallA Try.prog 161 #[.int .i64 p, vR, vv] h fun v' h' => ∃ w0 f0, v' = w0 ∧ O1 h' w0 (restP p R v) f0 ∧ Fresh h.size f0 ∧ Ext h h' := by
 have hleR := RdS.le rR
 have hlev := RdS.le rv
 have hp := isP_two hP
 have hRl := hr.le_w
 refine callA_intro TTok (args := [_, _, _]) Try.func161 (by kernel_rfl) rfl 33 rfl (by simp) [.tmp 6] rfl ?_
 simp only [idxs, Nat.reduceAdd]
 refine den_seq ?_
 refine den_region TTok ?_
 intro K hK
 simp -implicitDefEqProofs (disch := first | decide | assumption | omega) only [go_sem, RdS.len rR sl26, RdS.idx rR sl26, RdS.cellB rR (HPres.refl _), RdS.cells rR, RdS.len rv sl22, RdS.idx rv sl22, R1.intB rv (HPres.refl _), RdS.cells rv, wrap_id]
 refine hK _ _ ?_
 clear hK K
 refine den_seq ?_
 refine den_region TTok ?_
 intro K hK
 simp -implicitDefEqProofs (disch := first | decide | assumption | omega) only [go_sem, RdS.len rR sl26, RdS.idx rR sl26, RdS.cellB rR (HPres.refl _), RdS.cells rR, RdS.len rv sl22, RdS.idx rv sl22, R1.intB rv (HPres.refl _), RdS.cells rv, wrap_id]
 try simp -implicitDefEqProofs (disch := first | decide | assumption | omega) only [go_sem, RdS.len rR sl26, RdS.idx rR sl26, RdS.cellB rR (HPres.refl _), RdS.cells rR, RdS.len rv sl22, RdS.idx rv sl22, R1.intB rv (HPres.refl _), RdS.cells rv, wrap_id]
 refine CallA.mono (sOwn_ok _ v _ rv (by omega)) ?_
 intro vw1_1_0 h1_1
 rintro ⟨zvw1_1_0, fw1_1_0, rfl, how1_1_0, hfw1_1_0, e1_1⟩
 have := Ext.size e1_1
 have eB := e1_1
 have hlhow1_1_0 := OS.lt how1_1_0
 try simp -implicitDefEqProofs (disch := first | decide | assumption | omega) only [go_sem, RdS.len rR sl26, RdS.idx rR sl26, RdS.cellB rR (Ext.pres eB), RdS.cells rR, RdS.len rv sl22, RdS.idx rv sl22, R1.intB rv (Ext.pres eB), RdS.cells rv, RdS.len (OS.rd how1_1_0) sl22, RdS.idx (OS.rd how1_1_0) sl22, R1.intN (OS.rd how1_1_0), RdS.cells (OS.rd how1_1_0), wrap_id]
 refine hK _ _ ?_
 clear hK K
 refine den_seq ?_
 refine den_seq ?_
 refine den_region TTok ?_
 intro K hK
 simp -implicitDefEqProofs (disch := first | decide | assumption | omega) only [go_sem, RdS.len rR sl26, RdS.idx rR sl26, RdS.cellB rR (Ext.pres eB), RdS.cells rR, RdS.len rv sl22, RdS.idx rv sl22, R1.intB rv (Ext.pres eB), RdS.cells rv, RdS.len (OS.rd how1_1_0) sl22, RdS.idx (OS.rd how1_1_0) sl22, R1.intN (OS.rd how1_1_0), RdS.cells (OS.rd how1_1_0), wrap_id]
 refine hK _ _ ?_
 clear hK K
 refine den_block ?_
 refine den_sel [7, 8, 0, 1] ?_
 intro env_1
 simp only [go_sem]
 refine den_loopS (σ := Nat × Value × List Nat) (fun st_ => [(7, st_.2.1), (8, .int .i64 (st_.1 : Int))]) (fun st_ H => (st_.1 ≤ R.length) ∧ (O1 H st_.2.1 (restN p R v st_.1) st_.2.2) ∧ (Fresh (h.size) st_.2.2) ∧ (Sub fw1_1_0 h1_1.size st_.2.2) ∧ (Chg fw1_1_0 h1_1 H)) (fun st_ => R.length - st_.1) (0, vw1_1_0, fw1_1_0) ?_ ?_
 ·exact ⟨by first | (simp; done) | (dsimp only; omega) | (simp; omega), by exact how1_1_0, hfw1_1_0, Sub.refl, Chg.refl _ _⟩
 ·rintro ⟨k, vhO, fphO⟩ h4 ee3 ⟨hi0, hO, hfhO, sbhO, cL2⟩
  dsimp only at hi0 hO hfhO sbhO cL2
  have := cL2.size
  replace eB := Ext.then eB cL2 (ge_of hfw1_1_0 (by omega))
  have hlhO := OS.lt hO
  simp only [List.cons_append, List.nil_append]
  have hrl := restN_len p R v k
  have hbn := restN_bnd (p := p) (L := R) (by omega) hb k
  refine den_seq ?_
  refine den_seq ?_
  refine den_region TTok ?_
  intro K hK
  simp -implicitDefEqProofs (disch := first | decide | assumption | omega) only [go_sem, RdS.len rR sl26, RdS.idx rR sl26, RdS.cellB rR (Ext.pres eB), RdS.cells rR, RdS.len rv sl22, RdS.idx rv sl22, R1.intB rv (Ext.pres eB), RdS.cells rv, RdS.len (OS.rd hO) sl22, RdS.idx (OS.rd hO) sl22, R1.intN (OS.rd hO), RdS.cells (OS.rd hO), wrap_id]
  refine hK _ _ ?_
  clear hK K
  refine den_cond rfl (fun c0 => ?_) (fun c0 => ?_)
  ·try simp only [decide_eq_true_eq, decide_eq_false_iff_not, beq_iff_eq, beq_eq_false_iff_ne, bne_iff_ne, ne_eq, Bool.not_eq_true', Bool.not_eq_false', Bool.and_eq_true, Bool.or_eq_true, bne_eq_false_iff_eq] at c0
   refine den_skip ?_
   refine den_seq ?_
   refine den_block ?_
   have hld := hr.lead (i := k) (by omega)
   have hlw := hr.lt k (by omega)
   have hrk := hr.len k (by omega)
   have hbk := hr.bnd k (by omega)
   have hxk := hbn.at (k := (leadP (R.getD k default)).toNat) (by omega)
   have hls : ((restN p R v k).length ≤ (R.getD k default).length ∧ (restN p R v k).length ≤ 1000) ∧ Bnd p (restN p R v k) ∧ Bnd p (R.getD k default) := ⟨by omega, hbn, hbk⟩
   refine den_draw TTok mixed [] [(0, true), (1, true), (2, true), (3, true), (4, true), (5, true), (6, true), (7, true), (8, true), (9, true), (10, true), (11, false), (12, true), (13, true), (14, false), (15, true)] (by kernel_rfl) ?_
   intro K hK
   have hr5 := RdS.rowN rR k (by omega)
   have hlhr5 := RdS.le hr5
   have hr6 := RdS.rowN rR k (by omega)
   have hlhr6 := RdS.le hr6
   simp -implicitDefEqProofs (disch := first | decide | assumption | omega) only [go_sem, ld22, RdS.len rR sl26, RdS.idx rR sl26, RdS.cellB rR (Ext.pres eB), RdS.cells rR, RdS.len rv sl22, RdS.idx rv sl22, R1.intB rv (Ext.pres eB), RdS.cells rv, RdS.len hr5 sl22, RdS.idx hr5 sl22, R1.intB hr5 (Ext.pres eB), RdS.cells hr5, RdS.len hr6 sl22, RdS.idx hr6 sl22, R1.intB hr6 (Ext.pres eB), RdS.cells hr6, RdS.len (OS.rd hO) sl22, RdS.idx (OS.rd hO) sl22, R1.intN (OS.rd hO), RdS.cells (OS.rd hO), wrap_id]
   try simp -implicitDefEqProofs (disch := first | decide | assumption | omega) only [go_sem, RdS.len rR sl26, RdS.idx rR sl26, RdS.cellB rR (Ext.pres eB), RdS.cells rR, RdS.len rv sl22, RdS.idx rv sl22, R1.intB rv (Ext.pres eB), RdS.cells rv, RdS.len hr5 sl22, RdS.idx hr5 sl22, R1.intB hr5 (Ext.pres eB), RdS.cells hr5, RdS.len hr6 sl22, RdS.idx hr6 sl22, R1.intB hr6 (Ext.pres eB), RdS.cells hr6, RdS.len (OS.rd hO) sl22, RdS.idx (OS.rd hO) sl22, R1.intN (OS.rd hO), RdS.cells (OS.rd hO), wrap_id]
   refine CallA.pure (sLead_ok _ ((R).getD k default) _ (RdS.pres hr6 (Ext.pres eB))) ?_
   try simp -implicitDefEqProofs (disch := first | decide | assumption | omega) only [go_sem, ld2, RdS.len rR sl26, RdS.idx rR sl26, RdS.cellB rR (Ext.pres eB), RdS.cells rR, RdS.len rv sl22, RdS.idx rv sl22, R1.intB rv (Ext.pres eB), RdS.cells rv, RdS.len hr5 sl22, RdS.idx hr5 sl22, R1.intB hr5 (Ext.pres eB), RdS.cells hr5, RdS.len hr6 sl22, RdS.idx hr6 sl22, R1.intB hr6 (Ext.pres eB), RdS.cells hr6, RdS.len (OS.rd hO) sl22, RdS.idx (OS.rd hO) sl22, R1.intN (OS.rd hO), RdS.cells (OS.rd hO), wrap_id]
   try simp -implicitDefEqProofs (disch := first | decide | assumption | omega) only [go_sem, RdS.len rR sl26, RdS.idx rR sl26, RdS.cellB rR (Ext.pres eB), RdS.cells rR, RdS.len rv sl22, RdS.idx rv sl22, R1.intB rv (Ext.pres eB), RdS.cells rv, RdS.len hr5 sl22, RdS.idx hr5 sl22, R1.intB hr5 (Ext.pres eB), RdS.cells hr5, RdS.len hr6 sl22, RdS.idx hr6 sl22, R1.intB hr6 (Ext.pres eB), RdS.cells hr6, RdS.len (OS.rd hO) sl22, RdS.idx (OS.rd hO) sl22, R1.intN (OS.rd hO), RdS.cells (OS.rd hO), wrap_id]
   refine CallA.mono (sLess_ok _ _ p (restN p R v k) ((R).getD k default) ((restN p R v k).getD ((leadP ((R).getD k default))).toNat 0) _ (OS.rd hO) (RdS.pres hr5 (Ext.pres eB)) (by omega) hls.1 hls.2.1 hls.2.2 (by omega)) ?_
   intro vw5_14_0 h5_14
   rintro ⟨zvw5_14_0, fw5_14_0, rfl, how5_14_0, hfw5_14_0, e5_14⟩
   replace hO := OS.ext hO e5_14
   have := Ext.size e5_14
   replace eB := Ext.trans eB e5_14
   replace cL2 := Chg.stepE cL2 e5_14
   have hlhow5_14_0 := OS.lt how5_14_0
   try simp (disch := decide) only [outv_some, outv_none, put_puts]
   refine plK_pres (Ext.pres e5_14) ?_
   try simp -implicitDefEqProofs (disch := first | decide | assumption | omega) only [go_sem, RdS.len rR sl26, RdS.idx rR sl26, RdS.cellB rR (Ext.pres eB), RdS.cells rR, RdS.len rv sl22, RdS.idx rv sl22, R1.intB rv (Ext.pres eB), RdS.cells rv, RdS.len hr5 sl22, RdS.idx hr5 sl22, R1.intB hr5 (Ext.pres eB), RdS.cells hr5, RdS.len hr6 sl22, RdS.idx hr6 sl22, R1.intB hr6 (Ext.pres eB), RdS.cells hr6, RdS.len (OS.rd hO) sl22, RdS.idx (OS.rd hO) sl22, R1.intN (OS.rd hO), RdS.cells (OS.rd hO), RdS.len (OS.rd how5_14_0) sl22, RdS.idx (OS.rd how5_14_0) sl22, R1.intN (OS.rd how5_14_0), RdS.cells (OS.rd how5_14_0), wrap_id]
   refine hK _ _ ?_
   clear hK K
   refine den_blk ?_
   refine den_region TTok ?_
   intro K hK
   simp -implicitDefEqProofs (disch := first | decide | assumption | omega) only [go_sem, RdS.len rR sl26, RdS.idx rR sl26, RdS.cellB rR (Ext.pres eB), RdS.cells rR, RdS.len rv sl22, RdS.idx rv sl22, R1.intB rv (Ext.pres eB), RdS.cells rv, RdS.len hr5 sl22, RdS.idx hr5 sl22, R1.intB hr5 (Ext.pres eB), RdS.cells hr5, RdS.len hr6 sl22, RdS.idx hr6 sl22, R1.intB hr6 (Ext.pres eB), RdS.cells hr6, RdS.len (OS.rd how5_14_0) sl22, RdS.idx (OS.rd how5_14_0) sl22, R1.intN (OS.rd how5_14_0), RdS.cells (OS.rd how5_14_0), wrap_id]
   refine hK _ _ ?_
   clear hK K
   refine den_stop ?_
   exact ⟨(k + 1, vw5_14_0, fw5_14_0), by simp [HasL, puts_at], ⟨by first | omega | (dsimp only; omega), how5_14_0, (hfw5_14_0.mono (by omega)), (Sub.fresh hfw5_14_0 (by omega)), cL2⟩, by first | omega | (dsimp only; omega)⟩
  ·try simp only [decide_eq_true_eq, decide_eq_false_iff_not, beq_iff_eq, beq_eq_false_iff_ne, bne_iff_ne, ne_eq, Bool.not_eq_true', Bool.not_eq_false', Bool.and_eq_true, Bool.or_eq_true, bne_eq_false_iff_eq] at c0
   refine den_exit ?_
   refine denX_code ?_
   refine denX_stop ?_
   refine denX_hit ?_
   refine den_seq ?_
   refine den_region TTok ?_
   intro K hK
   simp -implicitDefEqProofs (disch := first | decide | assumption | omega) only [go_sem, RdS.len rR sl26, RdS.idx rR sl26, RdS.cellB rR (Ext.pres eB), RdS.cells rR, RdS.len rv sl22, RdS.idx rv sl22, R1.intB rv (Ext.pres eB), RdS.cells rv, RdS.len (OS.rd hO) sl22, RdS.idx (OS.rd hO) sl22, R1.intN (OS.rd hO), RdS.cells (OS.rd hO), wrap_id]
   refine hK _ _ ?_
   clear hK K
   refine den_ret ?_
   simp (disch := decide) only [resP_1, puts_same, puts_ne]
   rw [show restN p R v k = restP p R v by rw [restP, show R.length = k by omega]] at hO
   exact ⟨_, _, rfl, hO, hfhO.mono (by omega), eB⟩
end Go.Proofs.Ytjjjgllbocgkbaa

namespace Go.Proofs.Ytjjjgllbocgkbaa
open Go
theorem idxP_cases {α : Type} {f : α → Bool} {xs : List α} (d : α) : (idxP f xs = -1 ∧ ∀ j, j < xs.length → f (xs.getD j d) = false) ∨ ∃ k : Nat, k < xs.length ∧ idxP f xs = k ∧ f (xs.getD k d) = true := by
 have key : ∀ n, n ≤ xs.length → (∀ j, j < n → f (xs.getD j d) = false) ∨ ∃ k : Nat, k < n ∧ (∀ j, j < k → f (xs.getD j d) = false) ∧ f (xs.getD k d) = true := by
  intro n
  induction n with
  | zero => intro _; exact .inl fun j hj => by omega
  | succ n ih =>
   intro hn
   rcases ih (by omega) with h | ⟨k, hk, h⟩
   ·by_cases e : f (xs.getD n d) = true
    ·exact .inr ⟨n, by omega, h, e⟩
    ·exact .inl fun j hj => by
      rcases Nat.lt_succ_iff_lt_or_eq.1 hj with h' | h'
      ·exact h j h'
      ·rw [h']; simpa using e
   ·exact .inr ⟨k, by omega, h⟩
 rcases key xs.length (Nat.le_refl _) with h | ⟨k, hk, h1, h2⟩
 ·exact .inl ⟨idxP_none (all_getD (d := d) h), h⟩
 ·exact .inr ⟨k, hk, idxP_at hk h1 h2, h2⟩
theorem drop_getD {α : Type} {xs : List α} {n j : Nat} {d : α} : (xs.drop n).getD j d = xs.getD (n + j) d := by
 rw [List.getD_eq_getElem?_getD, List.getElem?_drop, List.getD_eq_getElem?_getD]
theorem set_self {S : List (List Int)} {d : Nat} (hd : d < S.length) : S.set d (S.getD d default) = S := by
 rw [List.getD_eq_getElem?_getD, List.getElem?_eq_getElem hd]; exact List.set_getElem_self hd
theorem clrP_zero (p : Int) (d c : Nat) (S : List (List Int)) : clrP p d c S 0 = S := by
 rw [clrP]
 apply List.ext_getElem (by simp)
 intro i h1 h2
 simp only [List.getElem_map, List.getElem_range]
 rw [if_neg (by omega), List.getD_eq_getElem?_getD, List.getElem?_eq_getElem h2]; rfl
theorem clr_same {p : Int} {d c : Nat} {S : List (List Int)} {i : Nat} (h : i = d) : clrP p d c S (i + 1) = clrP p d c S i := by
 rw [clrP, clrP]
 apply List.map_congr_left
 intro q _
 by_cases h1 : q < i ∧ q ≠ d
 ·rw [if_pos h1, if_pos ⟨by omega, h1.2⟩]
 ·rw [if_neg h1, if_neg (by omega)]
theorem clr_upd {p : Int} {d c : Nat} {S : List (List Int)} {i : Nat} (h : i ≠ d) (hi : i < S.length) (hd : d < S.length) : (clrP p d c S i).set i (lessRow p (((clrP p d c S i).getD i default).getD c 0) ((clrP p d c S i).getD i default) ((clrP p d c S i).getD d default)) = clrP p d c S (i + 1) := by
 have gi : (clrP p d c S i).getD i default = S.getD i default := by rw [clrP_get hi, if_neg (by omega)]
 have gd : (clrP p d c S i).getD d default = S.getD d default := by rw [clrP_get hd, if_neg (by omega)]
 have g3 : ∀ {xs ys : List (List Int)}, xs.length = ys.length → (∀ q, q < xs.length → xs.getD q default = ys.getD q default) → xs = ys := by
  intro xs ys hl hh
  apply List.ext_getElem hl
  intro q h1 h2
  have := hh q h1
  rwa [List.getD_eq_getElem?_getD, List.getD_eq_getElem?_getD, List.getElem?_eq_getElem h1, List.getElem?_eq_getElem h2] at this
 rw [gi, gd]
 refine g3 (by rw [List.length_set, clrP_len, clrP_len]) (fun q hq => ?_)
 rw [List.length_set, clrP_len] at hq
 rw [getD_set (by rw [clrP_len]; exact hi), clrP_get hq, clrP_get hq]
 by_cases e : i = q
 ·subst e
  rw [if_pos rfl, if_pos ⟨by omega, h⟩]
 ·rw [if_neg e]
  by_cases h1 : q < i ∧ q ≠ d
  ·rw [if_pos h1, if_pos ⟨by omega, h1.2⟩]
  ·rw [if_neg h1, if_neg (by omega)]
theorem swapP_fst {M : List (List Int)} {d a : Nat} (hd : d < M.length) (ha : a < M.length) : (swapP M d a).getD d default = M.getD a default := by
 rw [swapP_get hd ha]
 by_cases e : a = d
 ·rw [if_pos e, e]
 ·rw [if_neg e, if_pos rfl]
theorem ech_nil {p : Int} (hp : 1 < p) : ech p [] = [] := ech_eq (w := 0) (l := fun i => i) hp Rr.nil Eqv.refl (fun h => absurd rfl h)
theorem mul36A {x y p : Int} (hx : 0 ≤ x ∧ x < p) (hy : 0 ≤ y ∧ y < p) (hp : p ≤ 7) : 0 ≤ x * y ∧ x * y ≤ 36 := mul36 hx hy hp

set_option maxRecDepth 100000 in
theorem red1_ok (c : Nat) (v : Value) (xs : List Int) (b : Nat) (h : Heap) (hv : R1 h v xs) (hb : BoxAt h b #[.int .i64 (c : Int)] 3) (hc : c < xs.length) : CallA Try.prog 172 #[v, .pointer (some ⟨b, 0, none⟩)] h fun v' h' => v' = .bool (xs.getD c 0 != 0) ∧ h' = h := by
 have hle := RdS.le hv
 refine callA_intro TTok (args := [_, _]) Try.func172 (by kernel_rfl) rfl 9 rfl (by simp) [.tmp 3] rfl ?_
 simp only [idxs, Nat.reduceAdd]
 refine den_seq ?_
 refine den_region TTok ?_
 intro K hK
 simp -implicitDefEqProofs (disch := first | decide | assumption | omega) only [go_sem, RdS.len hv sl22, RdS.idx hv sl22, R1.intB hv (HPres.refl _), RdS.cells hv, BoxAt.cell hb, wrap_id, Int.toNat_natCast]
 refine hK _ _ ?_
 clear hK K
 refine den_seq ?_
 refine den_region TTok ?_
 intro K hK
 simp -implicitDefEqProofs (disch := first | decide | assumption | omega) only [go_sem, ld2, ld3, RdS.len hv sl22, RdS.idx hv sl22, R1.intB hv (HPres.refl _), RdS.cells hv, BoxAt.cell hb, wrap_id, Int.toNat_natCast]
 refine hK _ _ ?_
 clear hK K
 refine den_ret ?_
 simp (disch := decide) only [resP_1, puts_same, puts_ne]
 exact ⟨by first | rfl | trivial, trivial⟩

set_option maxRecDepth 100000 in
theorem iReduce_ok (vR : Value) (p : Int) (R : List (List Int)) (h : Heap) (rR : R2 h vR R) {w : Nat} (hP : isP p = true) (hT : ∀ r ∈ R, r.length = w ∧ Bnd p r) (hw : w ≤ 1000) (hl : R.length ≤ 1000) : CallA Try.prog 105 #[.int .i64 p, vR] h fun v' h' => ∃ w0 f0, v' = w0 ∧ O2 h' w0 (ech p R) f0 ∧ Fresh h.size f0 ∧ Ext h h' := by
 have hleR := RdS.le rR
 have hp := isP_two hP
 refine callA_intro TTok (args := [_, _]) Try.func105 (by kernel_rfl) rfl 134 rfl (by simp) [.tmp 4] rfl ?_
 simp only [idxs, Nat.reduceAdd]
 refine den_seq ?_
 refine den_region TTok ?_
 intro K hK
 simp -implicitDefEqProofs (disch := first | decide | assumption | omega) only [go_sem, RdS.len rR sl26, RdS.idx rR sl26, RdS.cellB rR (HPres.refl _), RdS.cells rR, wrap_id, Int.toNat_zero]
 refine hK _ _ ?_
 clear hK K
 refine den_seq ?_
 refine den_region TTok ?_
 intro K hK
 simp -implicitDefEqProofs (disch := first | decide | assumption | omega) only [go_sem, RdS.len rR sl26, RdS.idx rR sl26, RdS.cellB rR (HPres.refl _), RdS.cells rR, wrap_id, Int.toNat_zero]
 refine op_bs0 sz26 O1 ?_
 intro v1_0 h1_0 ho1_0 e1_0
 have := Ext.size e1_0
 have eB := e1_0
 have hfho1_0 : Fresh h.size [h.size] := Fresh.one _
 have hlho1_0 := OS.lt ho1_0
 try simp -implicitDefEqProofs (disch := first | decide | assumption | omega) only [go_sem, RdS.len rR sl26, RdS.idx rR sl26, RdS.cellB rR (Ext.pres eB), RdS.cells rR, RdS.len (OS.rd ho1_0) sl26, RdS.idx (OS.rd ho1_0) sl26, RdS.cellN (OS.rd ho1_0), RdS.cells (OS.rd ho1_0), wrap_id, Int.toNat_zero]
 refine hK _ _ ?_
 clear hK K
 refine den_seq ?_
 refine den_seq ?_
 refine den_region TTok ?_
 intro K hK
 simp -implicitDefEqProofs (disch := first | decide | assumption | omega) only [go_sem, RdS.len rR sl26, RdS.idx rR sl26, RdS.cellB rR (Ext.pres eB), RdS.cells rR, RdS.len (OS.rd ho1_0) sl26, RdS.idx (OS.rd ho1_0) sl26, RdS.cellN (OS.rd ho1_0), RdS.cells (OS.rd ho1_0), wrap_id, Int.toNat_zero]
 refine hK _ _ ?_
 clear hK K
 refine den_block ?_
 refine den_sel [5, 17, 0, 15, 16] ?_
 intro env_1
 simp only [go_sem]
 refine den_loopS (σ := Nat × Value × List Nat) (fun st_ => [(5, st_.2.1), (17, .int .i64 (st_.1 : Int))]) (fun st_ H => (st_.1 ≤ R.length) ∧ (O2 H st_.2.1 (R.take st_.1) st_.2.2) ∧ (Fresh (h.size) st_.2.2) ∧ (Sub [h.size] h1_0.size st_.2.2) ∧ (Chg [h.size] h1_0 H)) (fun st_ => R.length - st_.1) (0, v1_0, [h.size]) ?_ ?_
 ·exact ⟨by first | (simp; done) | (dsimp only; omega) | (simp; omega), by simpa using ho1_0, hfho1_0, Sub.refl, Chg.refl _ _⟩
 ·rintro ⟨k, vhL, fphL⟩ h4 ee3 ⟨hi0, hL, hfhL, sbhL, cL2⟩
  dsimp only at hi0 hL hfhL sbhL cL2
  have := cL2.size
  replace eB := Ext.then eB cL2 (ge_of hfho1_0 (by omega))
  have hlhL := OS.lt hL
  simp only [List.cons_append, List.nil_append]
  refine den_seq ?_
  refine den_region TTok ?_
  intro K hK
  simp -implicitDefEqProofs (disch := first | decide | assumption | omega) only [go_sem, RdS.len rR sl26, RdS.idx rR sl26, RdS.cellB rR (Ext.pres eB), RdS.cells rR, RdS.len (OS.rd hL) sl26, RdS.idx (OS.rd hL) sl26, RdS.cellN (OS.rd hL), RdS.cells (OS.rd hL), wrap_id, Int.toNat_zero]
  refine hK _ _ ?_
  clear hK K
  refine den_seq ?_
  refine den_cond rfl (fun c0 => ?_) (fun c0 => ?_)
  ·try simp only [decide_eq_true_eq, decide_eq_false_iff_not, beq_iff_eq, beq_eq_false_iff_ne, bne_iff_ne, ne_eq, Bool.not_eq_true', Bool.not_eq_false', Bool.and_eq_true, Bool.or_eq_true, bne_eq_false_iff_eq] at c0
   refine den_skip ?_
   refine den_seq ?_
   refine den_block ?_
   refine den_seq ?_
   refine den_region TTok ?_
   intro K hK
   have hr5 := RdS.rowN rR k (by omega)
   have hlhr5 := RdS.le hr5
   simp -implicitDefEqProofs (disch := first | decide | assumption | omega) only [go_sem, ld22, RdS.len rR sl26, RdS.idx rR sl26, RdS.cellB rR (Ext.pres eB), RdS.cells rR, RdS.len hr5 sl22, RdS.idx hr5 sl22, R1.intB hr5 (Ext.pres eB), RdS.cells hr5, RdS.len (OS.rd hL) sl26, RdS.idx (OS.rd hL) sl26, RdS.cellN (OS.rd hL), RdS.cells (OS.rd hL), wrap_id, Int.toNat_zero]
   refine hK _ _ ?_
   clear hK K
   have hri_ := (hT _ (getD_mem (show k < R.length by omega))).1
   have hlt_ : (R.take k).length = k := by simp; omega
   refine den_region TTok ?_
   intro K hK
   simp -implicitDefEqProofs (disch := first | decide | assumption | omega) only [go_sem, RdS.len rR sl26, RdS.idx rR sl26, RdS.cellB rR (Ext.pres eB), RdS.cells rR, RdS.len hr5 sl22, RdS.idx hr5 sl22, R1.intB hr5 (Ext.pres eB), RdS.cells hr5, RdS.len (OS.rd hL) sl26, RdS.idx (OS.rd hL) sl26, RdS.cellN (OS.rd hL), RdS.cells (OS.rd hL), wrap_id, Int.toNat_zero]
   try simp -implicitDefEqProofs (disch := first | decide | assumption | omega) only [go_sem, RdS.len rR sl26, RdS.idx rR sl26, RdS.cellB rR (Ext.pres eB), RdS.cells rR, RdS.len hr5 sl22, RdS.idx hr5 sl22, R1.intB hr5 (Ext.pres eB), RdS.cells hr5, RdS.len (OS.rd hL) sl26, RdS.idx (OS.rd hL) sl26, RdS.cellN (OS.rd hL), RdS.cells (OS.rd hL), wrap_id, Int.toNat_zero]
   refine CallA.mono (clone1_ok _ ((R).getD k default) _ (RdS.pres hr5 (Ext.pres eB)) (by omega)) ?_
   intro vw5_2_0 h5_2
   rintro ⟨zvw5_2_0, fw5_2_0, rfl, how5_2_0, hfw5_2_0, e5_2⟩
   replace hL := OS.ext hL e5_2
   have := Ext.size e5_2
   replace eB := Ext.trans eB e5_2
   replace cL2 := Chg.stepE cL2 e5_2
   have hlhow5_2_0 := OS.lt how5_2_0
   try simp -implicitDefEqProofs (disch := first | decide | assumption | omega) only [go_sem, RdS.len rR sl26, RdS.idx rR sl26, RdS.cellB rR (Ext.pres eB), RdS.cells rR, RdS.len hr5 sl22, RdS.idx hr5 sl22, R1.intB hr5 (Ext.pres eB), RdS.cells hr5, RdS.len (OS.rd hL) sl26, RdS.idx (OS.rd hL) sl26, RdS.cellN (OS.rd hL), RdS.cells (OS.rd hL), RdS.len (OS.rd how5_2_0) sl22, RdS.idx (OS.rd how5_2_0) sl22, R1.intN (OS.rd how5_2_0), RdS.cells (OS.rd how5_2_0), wrap_id, Int.toNat_zero]
   refine op_bs1 sz26 rfl (OS.one how5_2_0).2 ?_
   try simp -implicitDefEqProofs (disch := first | decide | assumption | omega) only [go_sem, RdS.len rR sl26, RdS.idx rR sl26, RdS.cellB rR (Ext.pres eB), RdS.cells rR, RdS.len hr5 sl22, RdS.idx hr5 sl22, R1.intB hr5 (Ext.pres eB), RdS.cells hr5, RdS.len (OS.rd hL) sl26, RdS.idx (OS.rd hL) sl26, RdS.cellN (OS.rd hL), RdS.cells (OS.rd hL), RdS.len (OS.rd how5_2_0) sl22, RdS.idx (OS.rd how5_2_0) sl22, R1.intN (OS.rd how5_2_0), RdS.cells (OS.rd how5_2_0), wrap_id, Int.toNat_zero]
   refine op_append1 sz26 hL hfhL.nodup how5_2_0 hfw5_2_0.nodup (apart_lt hlhL hfw5_2_0 (by omega)) (by first | omega | (simp; omega)) rfl rfl ?_
   intro v5_4 h5_4 fp5_4 ho5_4 hn5_4 hs5_4 c5_4
   have hsz5_4 := c5_4.size
   have hfho5_4 : Fresh h.size fp5_4 := Fresh.appd hfhL hfw5_2_0 (by omega) (by omega) hn5_4 hs5_4
   have sb6 : Sub [h.size] h1_0.size fp5_4 := Sub.grow sbhL (Sub.fresh hfw5_2_0 (by omega)) (by omega) hs5_4
   have := c5_4.size
   replace eB := Ext.then eB c5_4 (ge_of hfhL (by omega))
   replace cL2 := Chg.step cL2 c5_4 sbhL
   have hlho5_4 := OS.lt ho5_4
   try simp -implicitDefEqProofs (disch := first | decide | assumption | omega) only [go_sem, RdS.len rR sl26, RdS.idx rR sl26, RdS.cellB rR (Ext.pres eB), RdS.cells rR, RdS.len hr5 sl22, RdS.idx hr5 sl22, R1.intB hr5 (Ext.pres eB), RdS.cells hr5, RdS.len (OS.rd ho5_4) sl26, RdS.idx (OS.rd ho5_4) sl26, RdS.cellN (OS.rd ho5_4), RdS.cells (OS.rd ho5_4), wrap_id, Int.toNat_zero]
   refine hK _ _ ?_
   clear hK K
   refine den_blk ?_
   refine den_region TTok ?_
   intro K hK
   simp -implicitDefEqProofs (disch := first | decide | assumption | omega) only [go_sem, RdS.len rR sl26, RdS.idx rR sl26, RdS.cellB rR (Ext.pres eB), RdS.cells rR, RdS.len hr5 sl22, RdS.idx hr5 sl22, R1.intB hr5 (Ext.pres eB), RdS.cells hr5, RdS.len (OS.rd ho5_4) sl26, RdS.idx (OS.rd ho5_4) sl26, RdS.cellN (OS.rd ho5_4), RdS.cells (OS.rd ho5_4), wrap_id, Int.toNat_zero]
   refine hK _ _ ?_
   clear hK K
   refine den_stop ?_
   rw [← take_snoc (by omega)] at ho5_4
   exact ⟨(k + 1, v5_4, fp5_4), by simp [HasL, puts_at], ⟨by first | omega | (dsimp only; omega), ho5_4, hfho5_4, sb6, cL2⟩, by first | omega | (dsimp only; omega)⟩
  ·try simp only [decide_eq_true_eq, decide_eq_false_iff_not, beq_iff_eq, beq_eq_false_iff_ne, bne_iff_ne, ne_eq, Bool.not_eq_true', Bool.not_eq_false', Bool.and_eq_true, Bool.or_eq_true, bne_eq_false_iff_eq] at c0
   refine den_exit ?_
   refine denX_code ?_
   refine denX_stop ?_
   refine denX_hit ?_
   refine den_seq ?_
   refine den_seq ?_
   rw [List.take_of_length_le (by omega)] at hL
   have hw0 : 0 < R.length → (R.getD 0 default).length = w := fun h0_ => (hT _ (getD_mem h0_)).1
   refine den_region TTok ?_
   intro K hK
   simp -implicitDefEqProofs (disch := first | decide | assumption | omega) only [go_sem, RdS.len rR sl26, RdS.idx rR sl26, RdS.cellB rR (Ext.pres eB), RdS.cells rR, RdS.len (OS.rd hL) sl26, RdS.idx (OS.rd hL) sl26, RdS.cellN (OS.rd hL), RdS.cells (OS.rd hL), wrap_id, Int.toNat_zero]
   refine hK _ _ ?_
   clear hK K
   refine den_cond rfl (fun c1 => ?_) (fun c1 => ?_)
   ·try simp only [decide_eq_true_eq, decide_eq_false_iff_not, beq_iff_eq, beq_eq_false_iff_ne, bne_iff_ne, ne_eq, Bool.not_eq_true', Bool.not_eq_false', Bool.and_eq_true, Bool.or_eq_true, bne_eq_false_iff_eq] at c1
    refine den_seq ?_
    refine den_region TTok ?_
    intro K hK
    simp -implicitDefEqProofs (disch := first | decide | assumption | omega) only [go_sem, RdS.len rR sl26, RdS.idx rR sl26, RdS.cellB rR (Ext.pres eB), RdS.cells rR, RdS.len (OS.rd hL) sl26, RdS.idx (OS.rd hL) sl26, RdS.cellN (OS.rd hL), RdS.cells (OS.rd hL), wrap_id, Int.toNat_zero]
    refine hK _ _ ?_
    clear hK K
    refine den_ret ?_
    simp (disch := decide) only [resP_1, puts_same, puts_ne]
    have hz : R = [] := List.length_eq_zero_iff.1 (by omega)
    subst hz
    rw [ech_nil (isP_two hP).1]
    exact ⟨_, _, rfl, hL, hfhL.mono (by omega), eB⟩
   ·try simp only [decide_eq_true_eq, decide_eq_false_iff_not, beq_iff_eq, beq_eq_false_iff_ne, bne_iff_ne, ne_eq, Bool.not_eq_true', Bool.not_eq_false', Bool.and_eq_true, Bool.or_eq_true, bne_eq_false_iff_eq] at c1
    refine den_skip ?_
    refine den_seq ?_
    refine den_region TTok ?_
    intro K hK
    simp -implicitDefEqProofs (disch := first | decide | assumption | omega) only [go_sem, RdS.len rR sl26, RdS.idx rR sl26, RdS.cellB rR (Ext.pres eB), RdS.cells rR, RdS.len (OS.rd hL) sl26, RdS.idx (OS.rd hL) sl26, RdS.cellN (OS.rd hL), RdS.cells (OS.rd hL), wrap_id, Int.toNat_zero]
    refine hK _ _ ?_
    clear hK K
    refine den_seq ?_
    refine den_seq ?_
    have hwz := hw0 (by omega)
    have hz10 := RdS.cellN (OS.rd hL) 0 (by omega)
    rw [addr_zero] at hz10
    refine den_region TTok ?_
    intro K hK
    have hr7 := RdS.rowN (OS.rd hL) 0 (by omega)
    have hlhr7 := RdS.le hr7
    have xr8 := Ext.refl h4
    simp -implicitDefEqProofs (disch := first | decide | assumption | omega) only [go_sem, ld22, RdS.len rR sl26, RdS.idx rR sl26, RdS.cellB rR (Ext.pres eB), RdS.cells rR, RdS.len (OS.rd hL) sl26, RdS.idx (OS.rd hL) sl26, RdS.cellN (OS.rd hL), RdS.cells (OS.rd hL), RdS.len hr7 sl22, RdS.idx hr7 sl22, R1.intB hr7 (Ext.pres xr8), RdS.cells hr7, wrap_id, Int.toNat_zero, hz10]
    refine hK _ _ ?_
    clear hK K
    refine den_block ?_
    refine den_sel [8, 35, 0, 5, 34] ?_
    intro env_9
    simp only [go_sem]
    refine den_loopS (σ := Nat × Nat × List (List Int) × (Nat → Nat) × List Nat) (fun st_ => [(8, .int .i64 (st_.2.1 : Int)), (35, .int .i64 (st_.1 : Int))]) (fun st_ H => (RI p w R st_.2.2.1 st_.2.2.2.1 st_.2.1 st_.1) ∧ (st_.1 ≤ w) ∧ (O2 H vhL (st_.2.2.1) st_.2.2.2.2) ∧ (Fresh (h.size) st_.2.2.2.2) ∧ (Sub fphL h4.size st_.2.2.2.2) ∧ (Chg fphL h4 H)) (fun st_ => w - st_.1) (0, 0, R, (fun i => i), fphL) ?_ ?_
    ·exact ⟨RI.start hT, by dsimp only; omega, by exact hL, hfhL, Sub.refl, Chg.refl _ _⟩
    ·rintro ⟨c, d, M, l, fphM⟩ h12 ee11 ⟨hri, hcw_, hM, hfhM, sbhM, cL10⟩
     dsimp only at hri hcw_ hM hfhM sbhM cL10
     have := cL10.size
     replace eB := Ext.then eB cL10 (ge_of hfhL (by omega))
     have hlhM := OS.lt hM
     simp only [List.cons_append, List.nil_append]
     have hln := hri.ln
     have hdl := hri.dl
     refine den_seq ?_
     refine den_region TTok ?_
     intro K hK
     simp -implicitDefEqProofs (disch := first | decide | assumption | omega) only [go_sem, RdS.len rR sl26, RdS.idx rR sl26, RdS.cellB rR (Ext.pres eB), RdS.cells rR, RdS.len (OS.rd hM) sl26, RdS.idx (OS.rd hM) sl26, RdS.cellN (OS.rd hM), RdS.cells (OS.rd hM), wrap_id, Int.toNat_zero]
     refine hK _ _ ?_
     clear hK K
     refine den_seq ?_
     refine den_cond rfl (fun c2 => ?_) (fun c2 => ?_)
     ·try simp only [decide_eq_true_eq, decide_eq_false_iff_not, beq_iff_eq, beq_eq_false_iff_ne, bne_iff_ne, ne_eq, Bool.not_eq_true', Bool.not_eq_false', Bool.and_eq_true, Bool.or_eq_true, bne_eq_false_iff_eq] at c2
      refine den_skip ?_
      refine den_seq ?_
      refine den_block ?_
      refine den_seq ?_
      refine den_region TTok ?_
      intro K hK
      simp -implicitDefEqProofs (disch := first | decide | assumption | omega) only [go_sem, RdS.len rR sl26, RdS.idx rR sl26, RdS.cellB rR (Ext.pres eB), RdS.cells rR, RdS.len (OS.rd hM) sl26, RdS.idx (OS.rd hM) sl26, RdS.cellN (OS.rd hM), RdS.cells (OS.rd hM), wrap_id, Int.toNat_zero]
      refine op_alloc (cs := #[.int .i64 0]) (by kernel_rfl) ?_
      intro h12_1 e12_1 hb12_1 z12_1
      replace hM := OS.ext hM e12_1
      have := Ext.size e12_1
      replace eB := Ext.trans eB e12_1
      replace cL10 := Chg.stepE cL10 e12_1
      have hfhb12_1 : Fresh h12.size [h12.size] := Fresh.one _
      have hlhb12_1 := one_lt (show h12.size < h12_1.size by omega)
      try simp -implicitDefEqProofs (disch := first | decide | assumption | omega) only [go_sem, RdS.len rR sl26, RdS.idx rR sl26, RdS.cellB rR (Ext.pres eB), RdS.cells rR, RdS.len (OS.rd hM) sl26, RdS.idx (OS.rd hM) sl26, RdS.cellN (OS.rd hM), RdS.cells (OS.rd hM), BoxAt.cell hb12_1, wrap_id, Int.toNat_zero]
      refine op_storeB (cs' := #[.int .i64 ((c : Int))]) st3 hb12_1 rfl rfl rfl (by simp) (allOne_mem (l := [.int .i64 ((c : Int))]) ⟨rfl, trivial⟩) rfl ?_
      intro h12_2 hb12_1 c12_2
      replace hM := OS.chg hM c12_2 (apart_lt hlhM hfhb12_1 (by omega))
      have := c12_2.size
      replace eB := Ext.then eB c12_2 (ge_of hfhb12_1 (by omega))
      replace cL10 := Chg.step cL10 c12_2 (Sub.fresh hfhb12_1 (by omega))
      try simp -implicitDefEqProofs (disch := first | decide | assumption | omega) only [go_sem, RdS.len rR sl26, RdS.idx rR sl26, RdS.cellB rR (Ext.pres eB), RdS.cells rR, RdS.len (OS.rd hM) sl26, RdS.idx (OS.rd hM) sl26, RdS.cellN (OS.rd hM), RdS.cells (OS.rd hM), BoxAt.cell hb12_1, wrap_id, Int.toNat_zero]
      refine hK _ _ ?_
      clear hK K
      refine den_seq ?_
      obtain ⟨vs, hes, hRs⟩ := RdS.dropV (k := .i64) (OS.rd hM) sl26 (lo := (d : Int)) (by omega) (by omega)
      rw [Int.toNat_natCast] at hRs
      have hdj : ∀ j, j < (M.drop d).length → ((M.drop d).getD j default).length = w := fun j hj => by
       rw [List.length_drop] at hj
       rw [drop_getD]; exact hri.len (d + j) (by omega)
      refine den_region TTok ?_
      intro K hK
      simp -implicitDefEqProofs (disch := first | decide | assumption | omega) only [go_sem, RdS.len rR sl26, RdS.idx rR sl26, RdS.cellB rR (Ext.pres eB), RdS.cells rR, RdS.len (OS.rd hM) sl26, RdS.idx (OS.rd hM) sl26, RdS.cellN (OS.rd hM), RdS.cells (OS.rd hM), BoxAt.cell hb12_1, wrap_id, Int.toNat_zero, hes, Option.map_some, Option.map_none]
      try simp -implicitDefEqProofs (disch := first | decide | assumption | omega) only [go_sem, RdS.len rR sl26, RdS.idx rR sl26, RdS.cellB rR (Ext.pres eB), RdS.cells rR, RdS.len (OS.rd hM) sl26, RdS.idx (OS.rd hM) sl26, RdS.cellN (OS.rd hM), RdS.cells (OS.rd hM), BoxAt.cell hb12_1, wrap_id, Int.toNat_zero, hes, Option.map_some, Option.map_none]
      refine CallA.mono (idx2_ok _ (M.drop d) _ _ (fun r : List Int => r.getD c 0 != 0) _ hRs (fun j hj h' e => by
  simp only [List.append_toArray, List.cons_append, List.nil_append]
  exact CallA.mono (red1_ok c _ _ _ _ ((RdS.rowN hRs j hj).pres (Ext.pres e)) (BoxAt.ext hb12_1 e) (by rw [hdj j hj]; omega)) (fun _ _ ⟨e1, e2⟩ => ⟨e1, e2 ▸ Ext.refl _⟩))) ?_
      intro v_ h13_4
      rintro ⟨rfl, e13_4⟩
      replace hM := OS.ext hM e13_4
      replace hb12_1 := BoxAt.ext hb12_1 e13_4
      have := Ext.size e13_4
      replace eB := Ext.trans eB e13_4
      replace cL10 := Chg.stepE cL10 e13_4
      try simp -implicitDefEqProofs (disch := first | decide | assumption | omega) only [go_sem, RdS.len rR sl26, RdS.idx rR sl26, RdS.cellB rR (Ext.pres eB), RdS.cells rR, RdS.len (OS.rd hM) sl26, RdS.idx (OS.rd hM) sl26, RdS.cellN (OS.rd hM), RdS.cells (OS.rd hM), BoxAt.cell hb12_1, wrap_id, Int.toNat_zero, hes, Option.map_some, Option.map_none]
      refine hK _ _ ?_
      clear hK K
      refine den_seq ?_
      refine den_seq ?_
      refine den_region TTok ?_
      intro K hK
      simp -implicitDefEqProofs (disch := first | decide | assumption | omega) only [go_sem, RdS.len rR sl26, RdS.idx rR sl26, RdS.cellB rR (Ext.pres eB), RdS.cells rR, RdS.len (OS.rd hM) sl26, RdS.idx (OS.rd hM) sl26, RdS.cellN (OS.rd hM), RdS.cells (OS.rd hM), BoxAt.cell hb12_1, wrap_id, Int.toNat_zero]
      refine hK _ _ ?_
      clear hK K
      refine den_cond rfl (fun c3 => ?_) (fun c3 => ?_)
      ·try simp only [decide_eq_true_eq, decide_eq_false_iff_not, beq_iff_eq, beq_eq_false_iff_ne, bne_iff_ne, ne_eq, Bool.not_eq_true', Bool.not_eq_false', Bool.and_eq_true, Bool.or_eq_true, bne_eq_false_iff_eq] at c3
       have hnone : ∀ q, d ≤ q → q < M.length → g2 M q c = 0 := fun q hq1 hq2 => by
        rcases idxP_cases (f := fun r : List Int => r.getD c 0 != 0) (xs := M.drop d) default with ⟨_, hz⟩ | ⟨k_, _, hk2, _⟩
        ·have := hz (q - d) (by rw [List.length_drop]; omega)
         rw [drop_getD, show d + (q - d) = q by omega] at this
         simpa using this
        ·omega
       refine den_exit ?_
       refine denX_code ?_
       refine denX_hit ?_
       refine den_region TTok ?_
       intro K hK
       simp -implicitDefEqProofs (disch := first | decide | assumption | omega) only [go_sem, RdS.len rR sl26, RdS.idx rR sl26, RdS.cellB rR (Ext.pres eB), RdS.cells rR, RdS.len (OS.rd hM) sl26, RdS.idx (OS.rd hM) sl26, RdS.cellN (OS.rd hM), RdS.cells (OS.rd hM), wrap_id, Int.toNat_zero]
       refine hK _ _ ?_
       clear hK K
       refine den_stop ?_
       exact ⟨(c + 1, d, M, l, fphM), by simp [HasL, puts_at], ⟨hri.skip (fun q hq1 hq2 => hnone q hq1 hq2), by dsimp only; omega, hM, hfhM, sbhM, cL10⟩, by first | omega | (dsimp only; omega)⟩
      ·try simp only [decide_eq_true_eq, decide_eq_false_iff_not, beq_iff_eq, beq_eq_false_iff_ne, bne_iff_ne, ne_eq, Bool.not_eq_true', Bool.not_eq_false', Bool.and_eq_true, Bool.or_eq_true, bne_eq_false_iff_eq] at c3
       obtain ⟨a, ha, hea, hfa⟩ : ∃ k : Nat, k < (M.drop d).length ∧ idxP (fun r : List Int => r.getD c 0 != 0) (M.drop d) = (k : Int) ∧ (fun r : List Int => r.getD c 0 != 0) ((M.drop d).getD k default) = true := by
        rcases idxP_cases (f := fun r : List Int => r.getD c 0 != 0) (xs := M.drop d) default with ⟨hm, _⟩ | h
        ·omega
        ·exact h
       rw [List.length_drop] at ha
       have haM : d + a < M.length := by omega
       have hpc : (M.getD (d + a) default).getD c 0 ≠ 0 := by rw [drop_getD] at hfa; simpa using hfa
       have eda : ((d : Int) + (a : Int)).toNat = d + a := by omega
       refine den_skip ?_
       refine den_seq ?_
       refine den_draw TTok mixed [17, 19] [(0, true), (1, true), (2, true), (3, true), (4, true), (5, true), (6, true), (7, true), (8, true), (9, true), (10, true), (11, true), (12, true), (13, true), (14, true), (15, true), (16, true), (17, false), (18, true), (19, false)] (by kernel_rfl) ?_
       intro K hK
       have hr13 := RdS.rowN (OS.rd hM) (((d : Int) + (a : Int))).toNat (by omega)
       have hlhr13 := RdS.le hr13
       have xr14 := Ext.refl h13_4
       have hr15 := RdS.rowN (OS.rd hM) d (by omega)
       have hlhr15 := RdS.le hr15
       have xr16 := Ext.refl h13_4
       simp -implicitDefEqProofs (disch := first | decide | assumption | omega) only [go_sem, ld22, RdS.len rR sl26, RdS.idx rR sl26, RdS.cellB rR (Ext.pres eB), RdS.cells rR, RdS.len (OS.rd hM) sl26, RdS.idx (OS.rd hM) sl26, RdS.cellN (OS.rd hM), RdS.cells (OS.rd hM), BoxAt.cell hb12_1, RdS.len hr13 sl22, RdS.idx hr13 sl22, R1.intB hr13 (Ext.pres xr14), RdS.cells hr13, RdS.len hr15 sl22, RdS.idx hr15 sl22, R1.intB hr15 (Ext.pres xr16), RdS.cells hr15, wrap_id, Int.toNat_zero, hea]
       have hq := OS.swap hM hfhM.nodup (d := d) (a := d + a) (by omega) haM
       obtain ⟨hq1, hq2, hq3, hq4, fpS, hoS, hnS, hsS, cS⟩ := hq
       refine op_raw st22 hq1 hq3 rfl rfl ?_
       try simp (disch := decide) only [outv_some, outv_none, put_puts]
       refine plK_last (by decide) ?_
       try simp -implicitDefEqProofs (disch := first | decide | assumption | omega) only [go_sem, RdS.len rR sl26, RdS.idx rR sl26, RdS.cellB rR (Ext.pres eB), RdS.cells rR, RdS.len (OS.rd hM) sl26, RdS.idx (OS.rd hM) sl26, RdS.cellN (OS.rd hM), RdS.cells (OS.rd hM), BoxAt.cell hb12_1, RdS.len hr13 sl22, RdS.idx hr13 sl22, R1.intB hr13 (Ext.pres xr14), RdS.cells hr13, RdS.len hr15 sl22, RdS.idx hr15 sl22, R1.intB hr15 (Ext.pres xr16), RdS.cells hr15, wrap_id, Int.toNat_zero, hea]
       refine op_raw st22 hq2 hq4 rfl rfl ?_
       generalize (hset (hset h13_4 ((sA vhL).add d) (rowV h13_4 vhL (d + a))) ((sA vhL).add (d + a)) (rowV h13_4 vhL d)) = h15_19 at hoS cS ⊢
       have hszS := cS.size
       have hfhoS : Fresh h.size fpS := ⟨hnS, fun b hb => hfhM.ge b (hsS b hb)⟩
       have sb17 : Sub fphL h4.size fpS := fun b hb => sbhM b (hsS b hb)
       replace hb12_1 := BoxAt.chgA hb12_1 cS (apart_gt hfhb12_1 hlhM (by omega))
       have := cS.size
       replace eB := Ext.then eB cS (ge_of hfhM (by omega))
       replace cL10 := Chg.step cL10 cS sbhM
       have ap18 : Apart [h12.size] fpS := (fun b hb hq => (apart_gt hfhb12_1 hlhM (by omega)) b hb (hsS b hq))
       have hlhoS := OS.lt hoS
       obtain ⟨S, hS_⟩ : ∃ S, S = swapP M d (d + a) := ⟨_, rfl⟩
       rw [← hS_] at hoS
       have hri1 : RI p w R S l d c := hS_ ▸ hri.swap (by omega) haM
       have hSl := hri1.ln
       have hSd := hri1.len d (by omega)
       have hSb := hri1.bnd d (by omega)
       have hSc : (S.getD d default).getD c 0 ≠ 0 := by rw [hS_, swapP_fst (by omega) haM]; exact hpc
       have hSx := hSb.at (k := c) (by omega)
       have hiv := invP_ok hP (x := (S.getD d default).getD c 0) (by omega) hSx.2
       try simp (disch := decide) only [outv_some, outv_none, put_puts]
       refine plK_last (by decide) ?_
       try simp -implicitDefEqProofs (disch := first | decide | assumption | omega) only [go_sem, RdS.len rR sl26, RdS.idx rR sl26, RdS.cellB rR (Ext.pres eB), RdS.cells rR, RdS.len (OS.rd hoS) sl26, RdS.idx (OS.rd hoS) sl26, RdS.cellN (OS.rd hoS), RdS.cells (OS.rd hoS), BoxAt.cell hb12_1, wrap_id, Int.toNat_zero, hea]
       refine hK _ _ ?_
       clear hK K
       refine den_seq ?_
       have hcw : c < w := by omega
       refine den_draw TTok mixed [] [(0, true), (1, true), (2, true), (3, true), (4, true), (5, true), (6, true), (7, true), (8, false), (9, true)] (by kernel_rfl) ?_
       intro K hK
       have hr19 := RdS.rowN (OS.rd hoS) d (by omega)
       have hlhr19 := RdS.le hr19
       have xr20 := Ext.refl h15_19
       simp -implicitDefEqProofs (disch := first | decide | assumption | omega) only [go_sem, ld22, ld2, ld3, RdS.len rR sl26, RdS.idx rR sl26, RdS.cellB rR (Ext.pres eB), RdS.cells rR, RdS.len (OS.rd hoS) sl26, RdS.idx (OS.rd hoS) sl26, RdS.cellN (OS.rd hoS), RdS.cells (OS.rd hoS), BoxAt.cell hb12_1, RdS.len hr19 sl22, RdS.idx hr19 sl22, R1.intB hr19 (Ext.pres xr20), RdS.cells hr19, wrap_id, Int.toNat_zero]
       try simp -implicitDefEqProofs (disch := first | decide | assumption | omega) only [go_sem, RdS.len rR sl26, RdS.idx rR sl26, RdS.cellB rR (Ext.pres eB), RdS.cells rR, RdS.len (OS.rd hoS) sl26, RdS.idx (OS.rd hoS) sl26, RdS.cellN (OS.rd hoS), RdS.cells (OS.rd hoS), BoxAt.cell hb12_1, RdS.len hr19 sl22, RdS.idx hr19 sl22, R1.intB hr19 (Ext.pres xr20), RdS.cells hr19, wrap_id, Int.toNat_zero]
       refine CallA.mono (iInv_ok  p (((S).getD d default).getD c 0) _  hP (by omega)) ?_
       intro v_ h16_8
       rintro ⟨rfl, e16_8⟩
       replace hoS := OS.ext hoS e16_8
       replace hb12_1 := BoxAt.ext hb12_1 e16_8
       have := Ext.size e16_8
       replace eB := Ext.trans eB e16_8
       replace xr20 := Ext.trans xr20 e16_8
       replace cL10 := Chg.stepE cL10 e16_8
       try simp (disch := decide) only [outv_some, outv_none, put_puts]
       refine plK_pres (Ext.pres e16_8) ?_
       try simp -implicitDefEqProofs (disch := first | decide | assumption | omega) only [go_sem, RdS.len rR sl26, RdS.idx rR sl26, RdS.cellB rR (Ext.pres eB), RdS.cells rR, RdS.len (OS.rd hoS) sl26, RdS.idx (OS.rd hoS) sl26, RdS.cellN (OS.rd hoS), RdS.cells (OS.rd hoS), BoxAt.cell hb12_1, RdS.len hr19 sl22, RdS.idx hr19 sl22, R1.intB hr19 (Ext.pres xr20), RdS.cells hr19, wrap_id, Int.toNat_zero]
       refine hK _ _ ?_
       clear hK K
       refine den_seq ?_
       refine den_seq ?_
       refine den_region TTok ?_
       intro K hK
       have hr21 := RdS.rowN (OS.rd hoS) d (by omega)
       have hlhr21 := RdS.le hr21
       have xr22 := Ext.refl h16_8
       simp -implicitDefEqProofs (disch := first | decide | assumption | omega) only [go_sem, ld22, RdS.len rR sl26, RdS.idx rR sl26, RdS.cellB rR (Ext.pres eB), RdS.cells rR, RdS.len (OS.rd hoS) sl26, RdS.idx (OS.rd hoS) sl26, RdS.cellN (OS.rd hoS), RdS.cells (OS.rd hoS), BoxAt.cell hb12_1, RdS.len hr19 sl22, RdS.idx hr19 sl22, R1.intB hr19 (Ext.pres xr20), RdS.cells hr19, RdS.len hr21 sl22, RdS.idx hr21 sl22, R1.intB hr21 (Ext.pres xr22), RdS.cells hr21, wrap_id, Int.toNat_zero]
       refine hK _ _ ?_
       clear hK K
       refine den_block ?_
       refine den_sel [77, 0, 5, 8, 9, 11, 34, 35, 76] ?_
       intro env_23
       simp only [go_sem]
       refine den_loopS (σ := Nat × List Nat) (fun st_ => [(77, .int .i64 (st_.1 : Int))]) (fun st_ H => (st_.1 ≤ (S.getD d default).length) ∧ (O2 H vhL (S.set d (mix (sclRow p (invP p ((S.getD d default).getD c 0)) (S.getD d default)) (S.getD d default) st_.1)) st_.2) ∧ (Fresh (h.size) st_.2) ∧ (Sub fpS h16_8.size st_.2) ∧ (Chg fpS h16_8 H)) (fun st_ => (S.getD d default).length - st_.1) (0, fpS) ?_ ?_
       ·exact ⟨by first | (simp; done) | (dsimp only; omega) | (simp; omega), by rw [mix_zero, set_self (by omega)]; exact hoS, hfhoS, Sub.refl, Chg.refl _ _⟩
       ·rintro ⟨k, fphC⟩ h26 ee25 ⟨hi0, hC, hfhC, sbhC, cL24⟩
        dsimp only at hi0 hC hfhC sbhC cL24
        replace hb12_1 := BoxAt.chgA hb12_1 cL24 ap18
        have := cL24.size
        replace eB := Ext.then eB cL24 (ge_of hfhoS (by omega))
        replace cL10 := Chg.step cL10 cL24 sb17
        have ap27 : Apart [h12.size] fphC := Apart.sub_ hlhb12_1 (by omega) ap18 sbhC
        have sb28 : Sub fphL h4.size fphC := Sub.trans sbhC sb17 (by omega)
        have hlhC := OS.lt hC
        simp only [List.cons_append, List.nil_append]
        have hsl0 : (S.set d (mix (sclRow p (invP p ((S.getD d default).getD c 0)) (S.getD d default)) (S.getD d default) k)).length = S.length := List.length_set
        refine den_seq ?_
        refine den_region TTok ?_
        intro K hK
        simp -implicitDefEqProofs (disch := first | decide | assumption | omega) only [go_sem, RdS.len rR sl26, RdS.idx rR sl26, RdS.cellB rR (Ext.pres eB), RdS.cells rR, RdS.len (OS.rd hC) sl26, RdS.idx (OS.rd hC) sl26, RdS.cellN (OS.rd hC), RdS.cells (OS.rd hC), BoxAt.cell hb12_1, wrap_id, Int.toNat_zero]
        refine hK _ _ ?_
        clear hK K
        refine den_seq ?_
        refine den_cond rfl (fun c4 => ?_) (fun c4 => ?_)
        ·try simp only [decide_eq_true_eq, decide_eq_false_iff_not, beq_iff_eq, beq_eq_false_iff_ne, bne_iff_ne, ne_eq, Bool.not_eq_true', Bool.not_eq_false', Bool.and_eq_true, Bool.or_eq_true, bne_eq_false_iff_eq] at c4
         refine den_skip ?_
         refine den_seq ?_
         refine den_block ?_
         refine den_seq ?_
         refine den_region TTok ?_
         intro K hK
         simp -implicitDefEqProofs (disch := first | decide | assumption | omega) only [go_sem, RdS.len rR sl26, RdS.idx rR sl26, RdS.cellB rR (Ext.pres eB), RdS.cells rR, RdS.len (OS.rd hC) sl26, RdS.idx (OS.rd hC) sl26, RdS.cellN (OS.rd hC), RdS.cells (OS.rd hC), BoxAt.cell hb12_1, wrap_id, Int.toNat_zero]
         refine hK _ _ ?_
         clear hK K
         have hgd : (S.set d (mix (sclRow p (invP p ((S.getD d default).getD c 0)) (S.getD d default)) (S.getD d default) k)).getD d default = mix (sclRow p (invP p ((S.getD d default).getD c 0)) (S.getD d default)) (S.getD d default) k := by rw [getD_set (by omega), if_pos rfl]
         have hv20 : ((S.set d (mix (sclRow p (invP p ((S.getD d default).getD c 0)) (S.getD d default)) (S.getD d default) k)).getD d default).getD k 0 = (S.getD d default).getD k 0 := by rw [hgd, mix_get _ _ _ _ (sclR_len _ _ _) (by omega)]
         have hgl : ((S.set d (mix (sclRow p (invP p ((S.getD d default).getD c 0)) (S.getD d default)) (S.getD d default) k)).getD d default).length = w := by rw [hgd, mix_len _ _ _ (sclR_len _ _ _)]; exact hSd
         have hxk := hSb.at (k := k) (by omega)
         have hmu := mul36A (x := ((S.set d (mix (sclRow p (invP p ((S.getD d default).getD c 0)) (S.getD d default)) (S.getD d default) k)).getD d default).getD k 0) (y := (invP p ((S.getD d default).getD c 0))) (p := p) (by omega) ⟨by omega, hiv.1.2⟩ hp.2
         have hsl_ : (S.set d (mix (sclRow p (invP p ((S.getD d default).getD c 0)) (S.getD d default)) (S.getD d default) k)).length = S.length := List.length_set
         refine den_draw TTok mixed [17] [(0, true), (1, true), (2, true), (3, true), (4, true), (5, true), (6, true), (7, true), (8, true), (9, true), (10, true), (11, true), (12, true), (13, true), (14, true), (15, true), (16, true), (17, false)] (by kernel_rfl) ?_
         intro K hK
         have hr29 := RdS.rowN (OS.rd hC) d (by omega)
         have hlhr29 := RdS.le hr29
         have xr30 := Ext.refl h26
         have hr31 := RdS.rowN (OS.rd hC) d (by omega)
         have hlhr31 := RdS.le hr31
         have xr32 := Ext.refl h26
         simp -implicitDefEqProofs (disch := first | decide | assumption | omega) only [go_sem, ld22, ld2, RdS.len rR sl26, RdS.idx rR sl26, RdS.cellB rR (Ext.pres eB), RdS.cells rR, RdS.len (OS.rd hC) sl26, RdS.idx (OS.rd hC) sl26, RdS.cellN (OS.rd hC), RdS.cells (OS.rd hC), BoxAt.cell hb12_1, RdS.len hr29 sl22, RdS.idx hr29 sl22, R1.intB hr29 (Ext.pres xr30), RdS.cells hr29, RdS.len hr31 sl22, RdS.idx hr31 sl22, R1.intB hr31 (Ext.pres xr32), RdS.cells hr31, wrap_id, Int.toNat_zero]
         obtain ⟨fr20_17, hE20_17, hS20_17, hN20_17, hB20_17⟩ := OS.elem hC hfhC.nodup d (by omega)
         refine op_store1 (j := k) st2 hE20_17 hN20_17 (by first | omega | (simp; omega)) rfl rfl ?_
         intro h20_17 hF20_17 cE20_17
         have ho20_17 := hB20_17 _ _ cE20_17 hF20_17
         have c20_17 := cE20_17.mono hS20_17
         have hsz20_17 := c20_17.size
         replace hb12_1 := BoxAt.chgA hb12_1 c20_17 ap27
         have := c20_17.size
         replace eB := Ext.then eB c20_17 (ge_of hfhC (by omega))
         replace cL10 := Chg.step cL10 c20_17 sb28
         replace cL24 := Chg.step cL24 c20_17 sbhC
         have ap33 : Apart [h12.size] fphC := ap27
         have hlho20_17 := hlhC
         have hlenho20_17 : ((S.set d (mix (sclRow p (invP p ((S.getD d default).getD c 0)) (S.getD d default)) (S.getD d default) k)).set d (((S.set d (mix (sclRow p (invP p ((S.getD d default).getD c 0)) (S.getD d default)) (S.getD d default) k)).getD d default).set k (Int.tmod ((((S.set d (mix (sclRow p (invP p ((S.getD d default).getD c 0)) (S.getD d default)) (S.getD d default) k)).getD d default).getD k 0) * (invP p (((S).getD d default).getD c 0))) p)) : List (List Int)).length = (S.set d (mix (sclRow p (invP p ((S.getD d default).getD c 0)) (S.getD d default)) (S.getD d default) k) : List (List Int)).length := List.length_set
         try simp (disch := decide) only [outv_some, outv_none, put_puts]
         refine plK_last (by decide) ?_
         try simp -implicitDefEqProofs (disch := first | decide | assumption | omega) only [go_sem, RdS.len rR sl26, RdS.idx rR sl26, RdS.cellB rR (Ext.pres eB), RdS.cells rR, RdS.len (OS.rd ho20_17) sl26, RdS.idx (OS.rd ho20_17) sl26, RdS.cellN (OS.rd ho20_17), RdS.cells (OS.rd ho20_17), BoxAt.cell hb12_1, wrap_id, Int.toNat_zero]
         refine hK _ _ ?_
         clear hK K
         refine den_blk ?_
         refine den_region TTok ?_
         intro K hK
         simp -implicitDefEqProofs (disch := first | decide | assumption | omega) only [go_sem, RdS.len rR sl26, RdS.idx rR sl26, RdS.cellB rR (Ext.pres eB), RdS.cells rR, RdS.len (OS.rd ho20_17) sl26, RdS.idx (OS.rd ho20_17) sl26, RdS.cellN (OS.rd ho20_17), RdS.cells (OS.rd ho20_17), BoxAt.cell hb12_1, wrap_id, Int.toNat_zero]
         refine hK _ _ ?_
         clear hK K
         refine den_stop ?_
         rw [hv20, tmod_e (by rw [← hv20]; exact hmu.1), Int.mul_comm, ← sclR_get p _ (by omega), nest_set (by omega), mix_set _ _ _ _ (sclR_len _ _ _) (by omega)] at ho20_17
         exact ⟨(k + 1, fphC), by simp [HasL, puts_at], ⟨by first | omega | (dsimp only; omega), ho20_17, hfhC, sbhC, cL24⟩, by first | omega | (dsimp only; omega)⟩
        ·try simp only [decide_eq_true_eq, decide_eq_false_iff_not, beq_iff_eq, beq_eq_false_iff_ne, bne_iff_ne, ne_eq, Bool.not_eq_true', Bool.not_eq_false', Bool.and_eq_true, Bool.or_eq_true, bne_eq_false_iff_eq] at c4
         refine den_exit ?_
         refine denX_code ?_
         refine denX_stop ?_
         refine denX_hit ?_
         refine den_seq ?_
         refine den_seq ?_
         rw [mix_end _ _ _ (sclR_len _ _ _) (by omega)] at hC
         obtain ⟨hri2, hS1⟩ := hri1.scale hP (by omega) (by omega) hSc
         obtain ⟨S2, hS2_⟩ : ∃ S2, S2 = S.set d (sclRow p (invP p ((S.getD d default).getD c 0)) (S.getD d default)) := ⟨_, rfl⟩
         change RI p w R (S.set d (sclRow p (invP p ((S.getD d default).getD c 0)) (S.getD d default))) l d c at hri2
         change g2 (S.set d (sclRow p (invP p ((S.getD d default).getD c 0)) (S.getD d default))) d c = 1 at hS1
         rw [← hS2_] at hC hri2 hS1
         have hS2l := hri2.ln
         refine den_region TTok ?_
         intro K hK
         simp -implicitDefEqProofs (disch := first | decide | assumption | omega) only [go_sem, RdS.len rR sl26, RdS.idx rR sl26, RdS.cellB rR (Ext.pres eB), RdS.cells rR, RdS.len (OS.rd hC) sl26, RdS.idx (OS.rd hC) sl26, RdS.cellN (OS.rd hC), RdS.cells (OS.rd hC), BoxAt.cell hb12_1, wrap_id, Int.toNat_zero]
         refine hK _ _ ?_
         clear hK K
         refine den_block ?_
         refine den_sel [100, 0, 5, 8, 9, 34, 35, 99] ?_
         intro env_34
         simp only [go_sem]
         refine den_loopS (σ := Nat × List Nat) (fun st_ => [(100, .int .i64 (st_.1 : Int))]) (fun st_ H => (st_.1 ≤ S2.length) ∧ (O2 H vhL (clrP p d c S2 st_.1) st_.2) ∧ (Fresh (h.size) st_.2) ∧ (Sub fphC h26.size st_.2) ∧ (Chg fphC h26 H)) (fun st_ => S2.length - st_.1) (0, fphC) ?_ ?_
         ·exact ⟨by first | (simp; done) | (dsimp only; omega) | (simp; omega), by rw [clrP_zero]; exact hC, hfhC, Sub.refl, Chg.refl _ _⟩
         ·rintro ⟨i, fphJ⟩ h37 ee36 ⟨hi0, hJ, hfhJ, sbhJ, cL35⟩
          dsimp only at hi0 hJ hfhJ sbhJ cL35
          replace hb12_1 := BoxAt.chgA hb12_1 cL35 ap27
          have := cL35.size
          replace eB := Ext.then eB cL35 (ge_of hfhC (by omega))
          replace cL10 := Chg.step cL10 cL35 sb28
          have ap38 : Apart [h12.size] fphJ := Apart.sub_ hlhb12_1 (by omega) ap27 sbhJ
          have sb39 : Sub fphL h4.size fphJ := Sub.trans sbhJ sb28 (by omega)
          have hlhJ := OS.lt hJ
          simp only [List.cons_append, List.nil_append]
          have hcl0 := clrP_len p d c S2 i
          refine den_seq ?_
          refine den_region TTok ?_
          intro K hK
          simp -implicitDefEqProofs (disch := first | decide | assumption | omega) only [go_sem, RdS.len rR sl26, RdS.idx rR sl26, RdS.cellB rR (Ext.pres eB), RdS.cells rR, RdS.len (OS.rd hJ) sl26, RdS.idx (OS.rd hJ) sl26, RdS.cellN (OS.rd hJ), RdS.cells (OS.rd hJ), BoxAt.cell hb12_1, wrap_id, Int.toNat_zero]
          refine hK _ _ ?_
          clear hK K
          refine den_seq ?_
          refine den_cond rfl (fun c5 => ?_) (fun c5 => ?_)
          ·try simp only [decide_eq_true_eq, decide_eq_false_iff_not, beq_iff_eq, beq_eq_false_iff_ne, bne_iff_ne, ne_eq, Bool.not_eq_true', Bool.not_eq_false', Bool.and_eq_true, Bool.or_eq_true, bne_eq_false_iff_eq] at c5
           refine den_skip ?_
           refine den_seq ?_
           refine den_block ?_
           refine den_seq ?_
           refine den_region TTok ?_
           intro K hK
           simp -implicitDefEqProofs (disch := first | decide | assumption | omega) only [go_sem, RdS.len rR sl26, RdS.idx rR sl26, RdS.cellB rR (Ext.pres eB), RdS.cells rR, RdS.len (OS.rd hJ) sl26, RdS.idx (OS.rd hJ) sl26, RdS.cellN (OS.rd hJ), RdS.cells (OS.rd hJ), BoxAt.cell hb12_1, wrap_id, Int.toNat_zero]
           refine hK _ _ ?_
           clear hK K
           refine den_seq ?_
           refine den_region TTok ?_
           intro K hK
           simp -implicitDefEqProofs (disch := first | decide | assumption | omega) only [go_sem, RdS.len rR sl26, RdS.idx rR sl26, RdS.cellB rR (Ext.pres eB), RdS.cells rR, RdS.len (OS.rd hJ) sl26, RdS.idx (OS.rd hJ) sl26, RdS.cellN (OS.rd hJ), RdS.cells (OS.rd hJ), BoxAt.cell hb12_1, wrap_id, Int.toNat_zero]
           refine hK _ _ ?_
           clear hK K
           refine den_cond rfl (fun c6 => ?_) (fun c6 => ?_)
           ·try simp only [decide_eq_true_eq, decide_eq_false_iff_not, beq_iff_eq, beq_eq_false_iff_ne, bne_iff_ne, ne_eq, Bool.not_eq_true', Bool.not_eq_false', Bool.and_eq_true, Bool.or_eq_true, bne_eq_false_iff_eq] at c6
            have hgi : (clrP p d c S2 i).getD i default = S2.getD i default := by rw [clrP_get (by omega), if_neg (by omega)]
            have hgd : (clrP p d c S2 i).getD d default = S2.getD d default := by rw [clrP_get (by omega), if_neg (by omega)]
            have hli := hri2.len i (by omega)
            have hld := hri2.len d (by omega)
            have hcp : 0 < p ∧ p ≤ 7 := by omega
            have hcl : ((clrP p d c S2 i).getD d default).length = ((clrP p d c S2 i).getD i default).length := by rw [hgi, hgd]; omega
            have hca : Bnd p ((clrP p d c S2 i).getD i default) := by rw [hgi]; exact hri2.bnd i (by omega)
            have hcb : Bnd p ((clrP p d c S2 i).getD d default) := by rw [hgd]; exact hri2.bnd d (by omega)
            have hlc : ((clrP p d c S2 i).getD i default).length = w := by rw [hgi]; exact hli
            have hck := hca.at (k := c) (by omega)
            refine den_draw TTok mixed [16] [(0, true), (1, true), (2, true), (3, true), (4, true), (5, true), (6, true), (7, true), (8, true), (9, true), (10, true), (11, true), (12, true), (13, true), (14, true), (15, true), (16, false)] (by kernel_rfl) ?_
            intro K hK
            have hr40 := RdS.rowN (OS.rd hJ) i (by omega)
            have hlhr40 := RdS.le hr40
            have xr41 := Ext.refl h37
            have hr42 := RdS.rowN (OS.rd hJ) d (by omega)
            have hlhr42 := RdS.le hr42
            have xr43 := Ext.refl h37
            have hr44 := RdS.rowN (OS.rd hJ) i (by omega)
            have hlhr44 := RdS.le hr44
            have xr45 := Ext.refl h37
            simp -implicitDefEqProofs (disch := first | decide | assumption | omega) only [go_sem, ld22, ld2, ld3, RdS.len rR sl26, RdS.idx rR sl26, RdS.cellB rR (Ext.pres eB), RdS.cells rR, RdS.len (OS.rd hJ) sl26, RdS.idx (OS.rd hJ) sl26, RdS.cellN (OS.rd hJ), RdS.cells (OS.rd hJ), BoxAt.cell hb12_1, RdS.len hr40 sl22, RdS.idx hr40 sl22, R1.intB hr40 (Ext.pres xr41), RdS.cells hr40, RdS.len hr42 sl22, RdS.idx hr42 sl22, R1.intB hr42 (Ext.pres xr43), RdS.cells hr42, RdS.len hr44 sl22, RdS.idx hr44 sl22, R1.intB hr44 (Ext.pres xr45), RdS.cells hr44, wrap_id, Int.toNat_zero]
            try simp -implicitDefEqProofs (disch := first | decide | assumption | omega) only [go_sem, RdS.len rR sl26, RdS.idx rR sl26, RdS.cellB rR (Ext.pres eB), RdS.cells rR, RdS.len (OS.rd hJ) sl26, RdS.idx (OS.rd hJ) sl26, RdS.cellN (OS.rd hJ), RdS.cells (OS.rd hJ), BoxAt.cell hb12_1, RdS.len hr40 sl22, RdS.idx hr40 sl22, R1.intB hr40 (Ext.pres xr41), RdS.cells hr40, RdS.len hr42 sl22, RdS.idx hr42 sl22, R1.intB hr42 (Ext.pres xr43), RdS.cells hr42, RdS.len hr44 sl22, RdS.idx hr44 sl22, R1.intB hr44 (Ext.pres xr45), RdS.cells hr44, wrap_id, Int.toNat_zero]
            obtain ⟨f2, hE2, hN2, hU2, hB2, hK2⟩ := OS.two hJ hfhJ.nodup (i := i) (d := d) (by omega) (by omega) (by omega)
            refine CallA.mono (clear_ok _ (((clrP p d c S2 i).getD i default).getD c 0) _ _ _ _ _ _ hE2 hN2 (RdS.pres hr42 (Ext.pres xr43)) (fun h_ c_ => (hK2 h_ c_).elim fun g hg => OS.rd hg) hcp hcl hca hcb hck) ?_
            intro v_ h26_16
            rintro ⟨rfl, hF2, cE2⟩
            have hog26_16 := hB2 _ _ cE2 hF2
            have cg26_16 := cE2.mono hU2
            replace hb12_1 := BoxAt.chgA hb12_1 cg26_16 ap38
            have := cg26_16.size
            replace eB := Ext.then eB cg26_16 (ge_of hfhJ (by omega))
            replace cL10 := Chg.step cL10 cg26_16 sb39
            replace cL35 := Chg.step cL35 cg26_16 sbhJ
            have ap46 : Apart [h12.size] fphJ := ap38
            have hlhog26_16 := hlhJ
            try simp (disch := decide) only [outv_some, outv_none, put_puts]
            refine plK_last (by decide) ?_
            try simp -implicitDefEqProofs (disch := first | decide | assumption | omega) only [go_sem, RdS.len rR sl26, RdS.idx rR sl26, RdS.cellB rR (Ext.pres eB), RdS.cells rR, RdS.len (OS.rd hog26_16) sl26, RdS.idx (OS.rd hog26_16) sl26, RdS.cellN (OS.rd hog26_16), RdS.cells (OS.rd hog26_16), BoxAt.cell hb12_1, wrap_id, Int.toNat_zero]
            refine hK _ _ ?_
            clear hK K
            refine den_blk ?_
            refine den_region TTok ?_
            intro K hK
            simp -implicitDefEqProofs (disch := first | decide | assumption | omega) only [go_sem, RdS.len rR sl26, RdS.idx rR sl26, RdS.cellB rR (Ext.pres eB), RdS.cells rR, RdS.len (OS.rd hog26_16) sl26, RdS.idx (OS.rd hog26_16) sl26, RdS.cellN (OS.rd hog26_16), RdS.cells (OS.rd hog26_16), BoxAt.cell hb12_1, wrap_id, Int.toNat_zero]
            refine hK _ _ ?_
            clear hK K
            refine den_stop ?_
            first | rw [clr_upd (by omega) (by omega) (by omega)] at hog26_16 | rw [← clr_same (by omega)] at hog26_16
            exact ⟨(i + 1, fphJ), by simp [HasL, puts_at], ⟨by first | omega | (dsimp only; omega), hog26_16, hfhJ, sbhJ, cL35⟩, by first | omega | (dsimp only; omega)⟩
           ·try simp only [decide_eq_true_eq, decide_eq_false_iff_not, beq_iff_eq, beq_eq_false_iff_ne, bne_iff_ne, ne_eq, Bool.not_eq_true', Bool.not_eq_false', Bool.and_eq_true, Bool.or_eq_true, bne_eq_false_iff_eq] at c6
            refine den_skip ?_
            refine den_blk ?_
            refine den_region TTok ?_
            intro K hK
            simp -implicitDefEqProofs (disch := first | decide | assumption | omega) only [go_sem, RdS.len rR sl26, RdS.idx rR sl26, RdS.cellB rR (Ext.pres eB), RdS.cells rR, RdS.len (OS.rd hJ) sl26, RdS.idx (OS.rd hJ) sl26, RdS.cellN (OS.rd hJ), RdS.cells (OS.rd hJ), BoxAt.cell hb12_1, wrap_id, Int.toNat_zero]
            refine hK _ _ ?_
            clear hK K
            refine den_stop ?_
            first | rw [clr_upd (by omega) (by omega) (by omega)] at hJ | rw [← clr_same (by omega)] at hJ
            exact ⟨(i + 1, fphJ), by simp [HasL, puts_at], ⟨by first | omega | (dsimp only; omega), hJ, hfhJ, sbhJ, cL35⟩, by first | omega | (dsimp only; omega)⟩
          ·try simp only [decide_eq_true_eq, decide_eq_false_iff_not, beq_iff_eq, beq_eq_false_iff_ne, bne_iff_ne, ne_eq, Bool.not_eq_true', Bool.not_eq_false', Bool.and_eq_true, Bool.or_eq_true, bne_eq_false_iff_eq] at c5
           refine den_exit ?_
           refine denX_code ?_
           refine denX_stop ?_
           refine denX_hit ?_
           refine den_seq ?_
           have hri3 := hri2.clear hP (by omega) (by omega) hS1
           rw [show i = S2.length by omega] at hJ
           have hcl1 := clrP_len p d c S2 S2.length
           refine den_region TTok ?_
           intro K hK
           simp -implicitDefEqProofs (disch := first | decide | assumption | omega) only [go_sem, RdS.len rR sl26, RdS.idx rR sl26, RdS.cellB rR (Ext.pres eB), RdS.cells rR, RdS.len (OS.rd hJ) sl26, RdS.idx (OS.rd hJ) sl26, RdS.cellN (OS.rd hJ), RdS.cells (OS.rd hJ), wrap_id, Int.toNat_zero]
           refine hK _ _ ?_
           clear hK K
           refine den_seq ?_
           refine den_region TTok ?_
           intro K hK
           simp -implicitDefEqProofs (disch := first | decide | assumption | omega) only [go_sem, RdS.len rR sl26, RdS.idx rR sl26, RdS.cellB rR (Ext.pres eB), RdS.cells rR, RdS.len (OS.rd hJ) sl26, RdS.idx (OS.rd hJ) sl26, RdS.cellN (OS.rd hJ), RdS.cells (OS.rd hJ), wrap_id, Int.toNat_zero]
           refine hK _ _ ?_
           clear hK K
           refine den_cond rfl (fun c7 => ?_) (fun c7 => ?_)
           ·try simp only [decide_eq_true_eq, decide_eq_false_iff_not, beq_iff_eq, beq_eq_false_iff_ne, bne_iff_ne, ne_eq, Bool.not_eq_true', Bool.not_eq_false', Bool.and_eq_true, Bool.or_eq_true, bne_eq_false_iff_eq] at c7
            refine den_exit ?_
            refine denX_miss (by decide) ?_
            refine denX_code ?_
            refine denX_stop ?_
            refine denX_hit ?_
            refine den_seq ?_
            obtain ⟨vt, fpt, het, hot, hnt, hut⟩ := OS.takeV (k := .i64) hJ hfhJ.nodup sl26 (hi := ((d : Int) + (1 : Int))) (by omega) (by omega)
            refine den_region TTok ?_
            intro K hK
            simp -implicitDefEqProofs (disch := first | decide | assumption | omega) only [go_sem, RdS.len rR sl26, RdS.idx rR sl26, RdS.cellB rR (Ext.pres eB), RdS.cells rR, RdS.len (OS.rd hJ) sl26, RdS.idx (OS.rd hJ) sl26, RdS.cellN (OS.rd hJ), RdS.cells (OS.rd hJ), wrap_id, Int.toNat_zero, het, Option.map_some, Option.map_none]
            refine hK _ _ ?_
            clear hK K
            refine den_ret ?_
            simp (disch := decide) only [resP_1, puts_same, puts_ne]
            have hec := hri3.ech hP hT (.inl (by rw [clrP_len]; omega))
            rw [hec]
            exact ⟨vt, fpt, rfl, (by simpa using hot), ⟨hnt, fun b hb => by have := hfhJ.ge b (hut b hb); omega⟩, eB⟩
           ·try simp only [decide_eq_true_eq, decide_eq_false_iff_not, beq_iff_eq, beq_eq_false_iff_ne, bne_iff_ne, ne_eq, Bool.not_eq_true', Bool.not_eq_false', Bool.and_eq_true, Bool.or_eq_true, bne_eq_false_iff_eq] at c7
            refine den_skip ?_
            refine den_blk ?_
            refine den_region TTok ?_
            intro K hK
            simp -implicitDefEqProofs (disch := first | decide | assumption | omega) only [go_sem, RdS.len rR sl26, RdS.idx rR sl26, RdS.cellB rR (Ext.pres eB), RdS.cells rR, RdS.len (OS.rd hJ) sl26, RdS.idx (OS.rd hJ) sl26, RdS.cellN (OS.rd hJ), RdS.cells (OS.rd hJ), wrap_id, Int.toNat_zero]
            refine hK _ _ ?_
            clear hK K
            refine den_stop ?_
            exact ⟨(c + 1, d + 1, clrP p d c S2 S2.length, fun i => if i = d then c else l i, fphJ), by simp [HasL, puts_at], ⟨hri3, by dsimp only; omega, hJ, hfhJ, sb39, cL10⟩, by first | omega | (dsimp only; omega)⟩
     ·try simp only [decide_eq_true_eq, decide_eq_false_iff_not, beq_iff_eq, beq_eq_false_iff_ne, bne_iff_ne, ne_eq, Bool.not_eq_true', Bool.not_eq_false', Bool.and_eq_true, Bool.or_eq_true, bne_eq_false_iff_eq] at c2
      refine den_exit ?_
      refine denX_code ?_
      refine denX_stop ?_
      refine denX_hit ?_
      refine den_seq ?_
      obtain ⟨vt, fpt, het, hot, hnt, hut⟩ := OS.takeV (k := .i64) hM hfhM.nodup sl26 (hi := (d : Int)) (by omega) (by omega)
      refine den_region TTok ?_
      intro K hK
      simp -implicitDefEqProofs (disch := first | decide | assumption | omega) only [go_sem, RdS.len rR sl26, RdS.idx rR sl26, RdS.cellB rR (Ext.pres eB), RdS.cells rR, RdS.len (OS.rd hM) sl26, RdS.idx (OS.rd hM) sl26, RdS.cellN (OS.rd hM), RdS.cells (OS.rd hM), wrap_id, Int.toNat_zero, het, Option.map_some, Option.map_none]
      refine hK _ _ ?_
      clear hK K
      refine den_ret ?_
      simp (disch := decide) only [resP_1, puts_same, puts_ne]
      have hec := hri.ech hP hT (.inr (by omega))
      rw [hec]
      exact ⟨vt, fpt, rfl, (by simpa using hot), ⟨hnt, fun b hb => by have := hfhM.ge b (hut b hb); omega⟩, eB⟩
end Go.Proofs.Ytjjjgllbocgkbaa

namespace Go.Proofs.Ytjjjgllbocgkbaa
open Go
/-- A row that is one's own, or one that lies elsewhere and is told by its value alone. -/
def EB (h : Heap) (u : Value) (x : List Int × Option Value) (fp : List Nat) : Prop := (x.2 = none ∧ O1 h u x.1 fp) ∨ (x.2 = some u ∧ (u.oneCell' = true ∧ u.cells = #[u]) ∧ fp = [])
instance : Own EB := ⟨fun hl h => h.elim (fun a => .inl ⟨a.1, Own.loc hl a.2⟩) .inr, (fun h b hb => by
 rcases h with h | h
 ·exact Own.lt h.2 b hb
 ·rw [h.2.2] at hb; cases hb), (fun h => by
 rcases h with h | h
 ·exact Own.one h.2
 ·exact h.2.1)⟩
theorem EB.own {h : Heap} {u : Value} {x : List Int} {fp : List Nat} (ho : O1 h u x fp) : EB h u (x, none) fp := .inl ⟨rfl, ho⟩
theorem EB.bor {h : Heap} {u : Value} {x : List Int} (ho : u.oneCell' = true ∧ u.cells = #[u]) : EB h u (x, some u) [] := .inr ⟨rfl, ho, rfl⟩
abbrev O2B : Heap → Value → List (List Int × Option Value) → List Nat → Prop := OS 22 EB
theorem OB.nil {h : Heap} {v : Value} {fp : List Nat} (ho : O2 h v [] fp) : O2B h v [] fp := by
 rcases ho with ⟨h1, _, h3⟩ | ⟨b, c, cur, fps, rfl, r⟩
 ·exact .inl ⟨h1, rfl, h3⟩
 ·exact .inr ⟨b, c, cur, fps, rfl, ⟨r.val, r.box, r.size, r.max, r.le, r.len, fun j hj => by simp at hj⟩⟩
theorem OB.join {h : Heap} {v vo : Value} {xs : List (List Int × Option Value)} {own : List Int} {fp fo : List Nat} {pos : Nat} (ho : O2B h v xs fp) (hn : fp.Nodup) (oo : O1 h vo own fo) (hno : fo.Nodup) (ap : Apart fp fo) (hp : pos < xs.length) (hx : xs.getD pos default = (own, some vo)) (hz : ∀ j, j < xs.length → j ≠ pos → (xs.getD j default).2 = none) : ∃ fp', O2 h v (xs.map Prod.fst) fp' ∧ fp'.Nodup ∧ ∀ b ∈ fp', b ∈ fp ∨ b ∈ fo := by
 rcases ho with ⟨_, rfl, _⟩ | ⟨b, c, cur, fps, rfl, r⟩
 ·simp at hp
 ·obtain ⟨hnb, hnf⟩ := List.nodup_cons.1 hn
  have gx : ∀ j (hj : j < xs.length), xs.getD j default = xs[j] := fun j hj => by rw [List.getD_eq_getElem?_getD, List.getElem?_eq_getElem hj]; rfl
  refine ⟨b :: (fps.set pos fo).flatten, .inr ⟨b, c, cur, fps.set pos fo, rfl, ⟨by rw [List.length_map]; exact r.val, r.box, r.size, r.max, by rw [List.length_map]; exact r.le, by rw [List.length_set, List.length_map]; exact r.len, fun j hj => ?_⟩⟩, List.nodup_cons.2 ⟨fun hm => ?_, nodup_flatten_set hnf hno (fun q hq => ap q (List.mem_cons_of_mem _ hq))⟩, fun q hq => ?_⟩
  ·have hj' : j < xs.length := by simpa using hj
   obtain ⟨u, f, k1, k2, k3⟩ := r.el j hj'
   rw [List.getElem_map]
   by_cases e : pos = j
   ·subst e
    rw [gx _ hj'] at hx
    rw [hx] at k3 ⊢
    rcases k3 with k3 | k3
    ·cases k3.1
    ·have hv : vo = u := by injection k3.1
     exact ⟨u, fo, k1, by rw [List.getElem?_set_self (by rw [r.len]; exact hj')], hv ▸ oo⟩
   ·have h2 := hz j hj' (Ne.symm e)
    rw [gx _ hj'] at h2
    rcases k3 with k3 | k3
    ·exact ⟨u, f, k1, by rw [List.getElem?_set_ne e]; exact k2, k3.2⟩
    ·rw [h2] at k3; cases k3.1
  ·rcases mem_flatten_set hm with h1 | h1
   ·exact hnb h1
   ·exact ap b (by simp) h1
  ·rcases List.mem_cons.1 hq with rfl | hq
   ·exact .inl (by simp)
   ·rcases mem_flatten_set hq with h1 | h1
    ·exact .inl (List.mem_cons_of_mem _ h1)
    ·exact .inr h1
abbrev tagR (p : Int) (own : List Int) (at_ : Nat) (r : List Int) : List Int × Option Value := (redR p own at_ r, none)
def nextT (p : Int) (L : List (List Int)) (own : List Int) (at_ pos : Nat) (vo : Value) (k : Nat) : List (List Int × Option Value) := if k ≤ pos then (L.take k).map (tagR p own at_) else (L.take pos).map (tagR p own at_) ++ (own, some vo) :: ((L.take k).drop pos).map (tagR p own at_)
def putT (p : Int) (L : List (List Int)) (own : List Int) (at_ pos : Nat) (vo : Value) : List (List Int × Option Value) := (L.take pos).map (tagR p own at_) ++ (own, some vo) :: (L.drop pos).map (tagR p own at_)
section
variable {p : Int} {L : List (List Int)} {own : List Int} {at_ pos : Nat} {vo : Value}
theorem nextT_zero : nextT p L own at_ pos vo 0 = [] := by simp [nextT]
theorem nextT_len {k : Nat} (hk : k ≤ L.length) : (nextT p L own at_ pos vo k).length ≤ L.length + 1 := by
 unfold nextT
 split
 ·simp; omega
 ·simp; omega
theorem nextT_step {k : Nat} (hk : k < L.length) (hne : k ≠ pos) : nextT p L own at_ pos vo k ++ [(redR p own at_ (L.getD k default), none)] = nextT p L own at_ pos vo (k + 1) := by
 unfold nextT
 by_cases h : k < pos
 ·rw [if_pos (by omega), if_pos (by omega)]; exact map_takeA (f := tagR p own at_) hk
 ·rw [if_neg (by omega), if_neg (by omega), List.append_assoc, List.cons_append, take_snoc hk, List.drop_append, List.map_append]
  have : (L.take k).length = k := by simp; omega
  rw [this, show pos - k = 0 by omega]; rfl
theorem nextT_at {k : Nat} (hk : k < L.length) (e : k = pos) : nextT p L own at_ pos vo k ++ [(own, some vo)] ++ [(redR p own at_ (L.getD k default), none)] = nextT p L own at_ pos vo (k + 1) := by
 subst e
 unfold nextT
 rw [if_pos (Nat.le_refl _), if_neg (by omega), List.append_assoc, take_snoc hk, List.drop_append]
 have : (L.take k).length = k := by simp; omega
 rw [this, Nat.sub_self, List.drop_of_length_le (by omega)]; rfl
theorem nextT_end1 {k : Nat} (hk : ¬ k < L.length) (h : k ≤ pos) : nextT p L own at_ pos vo k ++ [(own, some vo)] = putT p L own at_ pos vo := by
 unfold nextT putT
 rw [if_pos h, List.take_of_length_le (by omega), List.take_of_length_le (by omega), List.drop_of_length_le (by omega)]; rfl
theorem nextT_end2 {k : Nat} (hk : ¬ k < L.length) (h : pos < k) : nextT p L own at_ pos vo k = putT p L own at_ pos vo := by
 unfold nextT putT
 rw [if_neg (by omega), List.take_of_length_le (i := k) (by omega)]
theorem putT_fst : (putT p L own at_ pos vo).map Prod.fst = putP p L own at_ pos := by
 unfold putT putP
 simp [List.map_append, Function.comp_def]
theorem putT_len (h : pos ≤ L.length) : (putT p L own at_ pos vo).length = L.length + 1 := by
 simp [putT]; omega
theorem putT_at (h : pos ≤ L.length) : (putT p L own at_ pos vo).getD pos default = (own, some vo) := by
 have hl : ((L.take pos).map (tagR p own at_)).length = pos := by simp; omega
 rw [putT, List.getD_eq_getElem?_getD, List.getElem?_append_right (by omega), hl, Nat.sub_self]; rfl
theorem putT_other (h : pos ≤ L.length) {j : Nat} (hj : j < (putT p L own at_ pos vo).length) (hne : j ≠ pos) : ((putT p L own at_ pos vo).getD j default).2 = none := by
 have hl : ((L.take pos).map (tagR p own at_)).length = pos := by simp; omega
 rw [putT_len h] at hj
 rw [putT, List.getD_eq_getElem?_getD]
 by_cases h1 : j < pos
 ·rw [List.getElem?_append_left (by omega), List.getElem?_map, List.getElem?_take, if_pos h1, List.getElem?_eq_getElem (by omega)]; rfl
 ·rw [List.getElem?_append_right (by omega), hl]
  obtain ⟨q, rfl⟩ : ∃ q, j = pos + q + 1 := ⟨j - pos - 1, by omega⟩
  rw [show pos + q + 1 - pos = q + 1 by omega, List.getElem?_cons_succ, List.getElem?_map, List.getElem?_drop, List.getElem?_eq_getElem (by omega)]; rfl
end

set_option maxRecDepth 100000 in
theorem sEch_ok (vR : Value) (p : Int) (R : List (List Int)) (h : Heap) (rR : R2 h vR R) {w : Nat} (hP : isP p = true) (hT : ∀ r ∈ R, r.length = w ∧ Bnd p r) (hw : w ≤ 1000) (hl : R.length ≤ 1000) : CallA Try.prog 143 #[.int .i64 p, vR] h fun v' h' => ∃ w0 f0, v' = w0 ∧ O2 h' w0 (ech p R) f0 ∧ Fresh h.size f0 ∧ Ext h h' := by
 have hleR := RdS.le rR
 have hp := isP_two hP
 refine callA_intro TTok (args := [_, _]) Try.func143 (by kernel_rfl) rfl 102 rfl (by simp) [.tmp 4] rfl ?_
 simp only [idxs, Nat.reduceAdd]
 refine den_seq ?_
 refine den_region TTok ?_
 intro K hK
 simp -implicitDefEqProofs (disch := first | decide | assumption | omega) only [go_sem, RdS.len rR sl26, RdS.idx rR sl26, RdS.cellB rR (HPres.refl _), RdS.cells rR, wrap_id]
 refine hK _ _ ?_
 clear hK K
 refine den_seq ?_
 refine den_region TTok ?_
 intro K hK
 simp -implicitDefEqProofs (disch := first | decide | assumption | omega) only [go_sem, RdS.len rR sl26, RdS.idx rR sl26, RdS.cellB rR (HPres.refl _), RdS.cells rR, wrap_id]
 refine op_bs0 sz26 O1 ?_
 intro v1_0 h1_0 ho1_0 e1_0
 have := Ext.size e1_0
 have eB := e1_0
 have hfho1_0 : Fresh h.size [h.size] := Fresh.one _
 have hlho1_0 := OS.lt ho1_0
 try simp -implicitDefEqProofs (disch := first | decide | assumption | omega) only [go_sem, RdS.len rR sl26, RdS.idx rR sl26, RdS.cellB rR (Ext.pres eB), RdS.cells rR, RdS.len (OS.rd ho1_0) sl26, RdS.idx (OS.rd ho1_0) sl26, RdS.cellN (OS.rd ho1_0), RdS.cells (OS.rd ho1_0), wrap_id]
 refine hK _ _ ?_
 clear hK K
 refine den_seq ?_
 refine den_seq ?_
 refine den_region TTok ?_
 intro K hK
 simp -implicitDefEqProofs (disch := first | decide | assumption | omega) only [go_sem, RdS.len rR sl26, RdS.idx rR sl26, RdS.cellB rR (Ext.pres eB), RdS.cells rR, RdS.len (OS.rd ho1_0) sl26, RdS.idx (OS.rd ho1_0) sl26, RdS.cellN (OS.rd ho1_0), RdS.cells (OS.rd ho1_0), wrap_id]
 refine hK _ _ ?_
 clear hK K
 refine den_block ?_
 refine den_sel [5, 6, 0, 1] ?_
 intro env_1
 simp only [go_sem]
 refine den_loopS (σ := Nat × List (List Int) × Value × List Nat) (fun st_ => [(5, st_.2.2.1), (6, .int .i64 (st_.1 : Int))]) (fun st_ H => (Red p w st_.2.1 (R.take st_.1)) ∧ (st_.1 ≤ R.length) ∧ (O2 H st_.2.2.1 (st_.2.1) st_.2.2.2) ∧ (Fresh (h.size) st_.2.2.2) ∧ (Sub [h.size] h1_0.size st_.2.2.2) ∧ (Chg [h.size] h1_0 H)) (fun st_ => R.length - st_.1) (0, [], v1_0, [h.size]) ?_ ?_
 ·exact ⟨(by rw [List.take_zero]; exact Red.nil), by simp, by exact ho1_0, hfho1_0, Sub.refl, Chg.refl _ _⟩
 ·rintro ⟨i, L, vhL, fphL⟩ h4 ee3 ⟨hred, hi, hL, hfhL, sbhL, cL2⟩
  dsimp only at hred hi hL hfhL sbhL cL2
  have := cL2.size
  replace eB := Ext.then eB cL2 (ge_of hfho1_0 (by omega))
  have hlhL := OS.lt hL
  simp only [List.cons_append, List.nil_append]
  obtain ⟨⟨l, hrl⟩, hrE⟩ := id hred
  have hLw := hrl.le_w
  refine den_seq ?_
  refine den_seq ?_
  refine den_region TTok ?_
  intro K hK
  simp -implicitDefEqProofs (disch := first | decide | assumption | omega) only [go_sem, RdS.len rR sl26, RdS.idx rR sl26, RdS.cellB rR (Ext.pres eB), RdS.cells rR, RdS.len (OS.rd hL) sl26, RdS.idx (OS.rd hL) sl26, RdS.cellN (OS.rd hL), RdS.cells (OS.rd hL), wrap_id]
  refine hK _ _ ?_
  clear hK K
  refine den_cond rfl (fun c0 => ?_) (fun c0 => ?_)
  ·try simp only [decide_eq_true_eq, decide_eq_false_iff_not, beq_iff_eq, beq_eq_false_iff_ne, bne_iff_ne, ne_eq, Bool.not_eq_true', Bool.not_eq_false', Bool.and_eq_true, Bool.or_eq_true, bne_eq_false_iff_eq] at c0
   refine den_skip ?_
   refine den_seq ?_
   refine den_block ?_
   refine den_seq ?_
   have hRi := hT _ (getD_mem (show i < R.length by omega))
   have hrr := hrl
   have hrv : (R.getD i default).length = w ∧ w ≤ 1000 := ⟨hRi.1, hw⟩
   have hrb := hRi.2
   refine den_region TTok ?_
   intro K hK
   have hr5 := RdS.rowN rR i (by omega)
   have hlhr5 := RdS.le hr5
   simp -implicitDefEqProofs (disch := first | decide | assumption | omega) only [go_sem, ld22, RdS.len rR sl26, RdS.idx rR sl26, RdS.cellB rR (Ext.pres eB), RdS.cells rR, RdS.len hr5 sl22, RdS.idx hr5 sl22, R1.intB hr5 (Ext.pres eB), RdS.cells hr5, RdS.len (OS.rd hL) sl26, RdS.idx (OS.rd hL) sl26, RdS.cellN (OS.rd hL), RdS.cells (OS.rd hL), wrap_id]
   try simp -implicitDefEqProofs (disch := first | decide | assumption | omega) only [go_sem, RdS.len rR sl26, RdS.idx rR sl26, RdS.cellB rR (Ext.pres eB), RdS.cells rR, RdS.len hr5 sl22, RdS.idx hr5 sl22, R1.intB hr5 (Ext.pres eB), RdS.cells hr5, RdS.len (OS.rd hL) sl26, RdS.idx (OS.rd hL) sl26, RdS.cellN (OS.rd hL), RdS.cells (OS.rd hL), wrap_id]
   refine CallA.mono (sRest_ok _ _ p L ((R).getD i default) _ (OS.rd hL) (RdS.pres hr5 (Ext.pres eB)) hP hrr hrv hrb) ?_
   intro vw5_6_0 h5_6
   rintro ⟨zvw5_6_0, fw5_6_0, rfl, how5_6_0, hfw5_6_0, e5_6⟩
   replace hL := OS.ext hL e5_6
   have := Ext.size e5_6
   replace eB := Ext.trans eB e5_6
   replace cL2 := Chg.stepE cL2 e5_6
   have hlhow5_6_0 := OS.lt how5_6_0
   try simp -implicitDefEqProofs (disch := first | decide | assumption | omega) only [go_sem, RdS.len rR sl26, RdS.idx rR sl26, RdS.cellB rR (Ext.pres eB), RdS.cells rR, RdS.len hr5 sl22, RdS.idx hr5 sl22, R1.intB hr5 (Ext.pres eB), RdS.cells hr5, RdS.len (OS.rd hL) sl26, RdS.idx (OS.rd hL) sl26, RdS.cellN (OS.rd hL), RdS.cells (OS.rd hL), RdS.len (OS.rd how5_6_0) sl22, RdS.idx (OS.rd how5_6_0) sl22, R1.intN (OS.rd how5_6_0), RdS.cells (OS.rd how5_6_0), wrap_id]
   refine hK _ _ ?_
   clear hK K
   refine den_seq ?_
   refine den_region TTok ?_
   intro K hK
   simp -implicitDefEqProofs (disch := first | decide | assumption | omega) only [go_sem, RdS.len rR sl26, RdS.idx rR sl26, RdS.cellB rR (Ext.pres eB), RdS.cells rR, RdS.len hr5 sl22, RdS.idx hr5 sl22, R1.intB hr5 (Ext.pres eB), RdS.cells hr5, RdS.len (OS.rd hL) sl26, RdS.idx (OS.rd hL) sl26, RdS.cellN (OS.rd hL), RdS.cells (OS.rd hL), RdS.len (OS.rd how5_6_0) sl22, RdS.idx (OS.rd how5_6_0) sl22, R1.intN (OS.rd how5_6_0), RdS.cells (OS.rd how5_6_0), wrap_id]
   try simp -implicitDefEqProofs (disch := first | decide | assumption | omega) only [go_sem, RdS.len rR sl26, RdS.idx rR sl26, RdS.cellB rR (Ext.pres eB), RdS.cells rR, RdS.len hr5 sl22, RdS.idx hr5 sl22, R1.intB hr5 (Ext.pres eB), RdS.cells hr5, RdS.len (OS.rd hL) sl26, RdS.idx (OS.rd hL) sl26, RdS.cellN (OS.rd hL), RdS.cells (OS.rd hL), RdS.len (OS.rd how5_6_0) sl22, RdS.idx (OS.rd how5_6_0) sl22, R1.intN (OS.rd how5_6_0), RdS.cells (OS.rd how5_6_0), wrap_id]
   refine CallA.pure (sLead_ok _ (restP p L ((R).getD i default)) _ (OS.rd how5_6_0)) ?_
   try simp -implicitDefEqProofs (disch := first | decide | assumption | omega) only [go_sem, RdS.len rR sl26, RdS.idx rR sl26, RdS.cellB rR (Ext.pres eB), RdS.cells rR, RdS.len hr5 sl22, RdS.idx hr5 sl22, R1.intB hr5 (Ext.pres eB), RdS.cells hr5, RdS.len (OS.rd hL) sl26, RdS.idx (OS.rd hL) sl26, RdS.cellN (OS.rd hL), RdS.cells (OS.rd hL), RdS.len (OS.rd how5_6_0) sl22, RdS.idx (OS.rd how5_6_0) sl22, R1.intN (OS.rd how5_6_0), RdS.cells (OS.rd how5_6_0), wrap_id]
   refine hK _ _ ?_
   clear hK K
   refine den_seq ?_
   refine den_seq ?_
   refine den_region TTok ?_
   intro K hK
   simp -implicitDefEqProofs (disch := first | decide | assumption | omega) only [go_sem, RdS.len rR sl26, RdS.idx rR sl26, RdS.cellB rR (Ext.pres eB), RdS.cells rR, RdS.len hr5 sl22, RdS.idx hr5 sl22, R1.intB hr5 (Ext.pres eB), RdS.cells hr5, RdS.len (OS.rd hL) sl26, RdS.idx (OS.rd hL) sl26, RdS.cellN (OS.rd hL), RdS.cells (OS.rd hL), RdS.len (OS.rd how5_6_0) sl22, RdS.idx (OS.rd how5_6_0) sl22, R1.intN (OS.rd how5_6_0), RdS.cells (OS.rd how5_6_0), wrap_id]
   refine hK _ _ ?_
   clear hK K
   refine den_cond rfl (fun c1 => ?_) (fun c1 => ?_)
   ·try simp only [decide_eq_true_eq, decide_eq_false_iff_not, beq_iff_eq, beq_eq_false_iff_ne, bne_iff_ne, ne_eq, Bool.not_eq_true', Bool.not_eq_false', Bool.and_eq_true, Bool.or_eq_true, bne_eq_false_iff_eq] at c1
    refine den_exit ?_
    refine denX_code ?_
    refine denX_hit ?_
    refine den_region TTok ?_
    intro K hK
    simp -implicitDefEqProofs (disch := first | decide | assumption | omega) only [go_sem, RdS.len rR sl26, RdS.idx rR sl26, RdS.cellB rR (Ext.pres eB), RdS.cells rR, RdS.len hr5 sl22, RdS.idx hr5 sl22, R1.intB hr5 (Ext.pres eB), RdS.cells hr5, RdS.len (OS.rd hL) sl26, RdS.idx (OS.rd hL) sl26, RdS.cellN (OS.rd hL), RdS.cells (OS.rd hL), wrap_id]
    refine hK _ _ ?_
    clear hK K
    refine den_stop ?_
    exact ⟨(i + 1, L, vhL, fphL), by simp [HasL, puts_at], ⟨(by rw [take_snoc (by omega)]; exact Red.skip hred hp.1 hrv.1 hrb c1), by dsimp only; omega, hL, hfhL, sbhL, cL2⟩, by first | omega | (dsimp only; omega)⟩
   ·try simp only [decide_eq_true_eq, decide_eq_false_iff_not, beq_iff_eq, beq_eq_false_iff_ne, bne_iff_ne, ne_eq, Bool.not_eq_true', Bool.not_eq_false', Bool.and_eq_true, Bool.or_eq_true, bne_eq_false_iff_eq] at c1
    obtain ⟨k0, hk0, hke, hkz, hkn⟩ : ∃ k : Nat, k < (restP p L (R.getD i default)).length ∧ leadP (restP p L (R.getD i default)) = (k : Int) ∧ (∀ j, j < k → (restP p L (R.getD i default)).getD j 0 = 0) ∧ (restP p L (R.getD i default)).getD k 0 ≠ 0 := by
     rcases lead_cases (restP p L (R.getD i default)) with ⟨hm, _⟩ | h
     ·omega
     ·exact h
    rw [hke]
    have hbO := restP_bnd (p := p) (L := L) (by omega) hrb
    have hxk := hbO.at hk0
    have hiv := invP_ok hP (x := (restP p L (R.getD i default)).getD k0 0) (by omega) hxk.2
    have hlO := restP_len p L (R.getD i default)
    have hown : (ownP p L (R.getD i default)) = sclRow p (invP p ((restP p L (R.getD i default)).getD k0 0)) (restP p L (R.getD i default)) := by rw [ownP, hke, Int.toNat_natCast]
    obtain ⟨hok, _⟩ := ownP_ok hP hrr hrv.1 hrb hke
    obtain ⟨hq1, hq2, hq3⟩ := posP_ok (at_ := k0) hrr
    refine den_skip ?_
    refine den_seq ?_
    refine den_region TTok ?_
    intro K hK
    simp -implicitDefEqProofs (disch := first | decide | assumption | omega) only [go_sem, ld2, RdS.len rR sl26, RdS.idx rR sl26, RdS.cellB rR (Ext.pres eB), RdS.cells rR, RdS.len hr5 sl22, RdS.idx hr5 sl22, R1.intB hr5 (Ext.pres eB), RdS.cells hr5, RdS.len (OS.rd hL) sl26, RdS.idx (OS.rd hL) sl26, RdS.cellN (OS.rd hL), RdS.cells (OS.rd hL), RdS.len (OS.rd how5_6_0) sl22, RdS.idx (OS.rd how5_6_0) sl22, R1.intN (OS.rd how5_6_0), RdS.cells (OS.rd how5_6_0), wrap_id]
    try simp -implicitDefEqProofs (disch := first | decide | assumption | omega) only [go_sem, RdS.len rR sl26, RdS.idx rR sl26, RdS.cellB rR (Ext.pres eB), RdS.cells rR, RdS.len hr5 sl22, RdS.idx hr5 sl22, R1.intB hr5 (Ext.pres eB), RdS.cells hr5, RdS.len (OS.rd hL) sl26, RdS.idx (OS.rd hL) sl26, RdS.cellN (OS.rd hL), RdS.cells (OS.rd hL), RdS.len (OS.rd how5_6_0) sl22, RdS.idx (OS.rd how5_6_0) sl22, R1.intN (OS.rd how5_6_0), RdS.cells (OS.rd how5_6_0), wrap_id]
    refine CallA.mono (sInv_ok  p ((restP p L ((R).getD i default)).getD k0 0) _  hP (by omega)) ?_
    intro v_ h8_5
    rintro ⟨rfl, e8_5⟩
    replace hL := OS.ext hL e8_5
    replace how5_6_0 := OS.ext how5_6_0 e8_5
    have := Ext.size e8_5
    replace eB := Ext.trans eB e8_5
    replace cL2 := Chg.stepE cL2 e8_5
    try simp -implicitDefEqProofs (disch := first | decide | assumption | omega) only [go_sem, RdS.len rR sl26, RdS.idx rR sl26, RdS.cellB rR (Ext.pres eB), RdS.cells rR, RdS.len hr5 sl22, RdS.idx hr5 sl22, R1.intB hr5 (Ext.pres eB), RdS.cells hr5, RdS.len (OS.rd hL) sl26, RdS.idx (OS.rd hL) sl26, RdS.cellN (OS.rd hL), RdS.cells (OS.rd hL), RdS.len (OS.rd how5_6_0) sl22, RdS.idx (OS.rd how5_6_0) sl22, R1.intN (OS.rd how5_6_0), RdS.cells (OS.rd how5_6_0), wrap_id]
    refine hK _ _ ?_
    clear hK K
    refine den_seq ?_
    refine den_seq ?_
    refine den_region TTok ?_
    intro K hK
    simp -implicitDefEqProofs (disch := first | decide | assumption | omega) only [go_sem, RdS.len rR sl26, RdS.idx rR sl26, RdS.cellB rR (Ext.pres eB), RdS.cells rR, RdS.len hr5 sl22, RdS.idx hr5 sl22, R1.intB hr5 (Ext.pres eB), RdS.cells hr5, RdS.len (OS.rd hL) sl26, RdS.idx (OS.rd hL) sl26, RdS.cellN (OS.rd hL), RdS.cells (OS.rd hL), RdS.len (OS.rd how5_6_0) sl22, RdS.idx (OS.rd how5_6_0) sl22, R1.intN (OS.rd how5_6_0), RdS.cells (OS.rd how5_6_0), wrap_id]
    refine hK _ _ ?_
    clear hK K
    refine den_block ?_
    refine den_sel [10, 0, 1, 5, 6, 7, 8, 9] ?_
    intro env_6
    simp only [go_sem]
    refine den_loopS (σ := Nat) (fun st_ => [(10, .int .i64 (st_ : Int))]) (fun st_ H => (st_ ≤ (restP p L (R.getD i default)).length) ∧ (O1 H vw5_6_0 (mix (sclRow p (invP p ((restP p L (R.getD i default)).getD k0 0)) (restP p L (R.getD i default))) (restP p L (R.getD i default)) st_) fw5_6_0) ∧ (Chg fw5_6_0 h8_5 H)) (fun st_ => (restP p L (R.getD i default)).length - st_) 0 ?_ ?_
    ·exact ⟨by first | (simp; done) | (dsimp only; omega) | (simp; omega), by rw [mix_zero]; exact how5_6_0, Chg.refl _ _⟩
    ·rintro k h9 ee8 ⟨hi0, hS, cL7⟩
     replace hL := OS.chg hL cL7 (apart_lt hlhL hfw5_6_0 (by omega))
     have := cL7.size
     replace eB := Ext.then eB cL7 (ge_of hfw5_6_0 (by omega))
     replace cL2 := Chg.step cL2 cL7 (Sub.fresh hfw5_6_0 (by omega))
     have sbhS : Sub fw5_6_0 h8_5.size fw5_6_0 := Sub.refl
     have hfhS := hfw5_6_0
     have hlhS := hlhow5_6_0
     simp only [List.cons_append, List.nil_append]
     have hml_ := mix_len (sclRow p (invP p ((restP p L (R.getD i default)).getD k0 0)) (restP p L (R.getD i default))) (restP p L (R.getD i default)) k (sclR_len _ _ _)
     refine den_seq ?_
     refine den_seq ?_
     refine den_region TTok ?_
     intro K hK
     simp -implicitDefEqProofs (disch := first | decide | assumption | omega) only [go_sem, RdS.len rR sl26, RdS.idx rR sl26, RdS.cellB rR (Ext.pres eB), RdS.cells rR, RdS.len hr5 sl22, RdS.idx hr5 sl22, R1.intB hr5 (Ext.pres eB), RdS.cells hr5, RdS.len (OS.rd hL) sl26, RdS.idx (OS.rd hL) sl26, RdS.cellN (OS.rd hL), RdS.cells (OS.rd hL), RdS.len (OS.rd hS) sl22, RdS.idx (OS.rd hS) sl22, R1.intN (OS.rd hS), RdS.cells (OS.rd hS), wrap_id]
     refine hK _ _ ?_
     clear hK K
     refine den_cond rfl (fun c2 => ?_) (fun c2 => ?_)
     ·try simp only [decide_eq_true_eq, decide_eq_false_iff_not, beq_iff_eq, beq_eq_false_iff_ne, bne_iff_ne, ne_eq, Bool.not_eq_true', Bool.not_eq_false', Bool.and_eq_true, Bool.or_eq_true, bne_eq_false_iff_eq] at c2
      refine den_skip ?_
      refine den_seq ?_
      refine den_block ?_
      have hmg := mix_get (sclRow p (invP p ((restP p L (R.getD i default)).getD k0 0)) (restP p L (R.getD i default))) (restP p L (R.getD i default)) k 0 (sclR_len _ _ _) (by omega)
      have hxq := hbO.at (k := k) (by omega)
      have hmu := mul36A (x := (mix (sclRow p (invP p ((restP p L (R.getD i default)).getD k0 0)) (restP p L (R.getD i default))) (restP p L (R.getD i default)) k).getD k 0) (y := (invP p ((restP p L (R.getD i default)).getD k0 0))) (p := p) (by omega) ⟨by omega, hiv.1.2⟩ hp.2
      refine den_region TTok ?_
      intro K hK
      simp -implicitDefEqProofs (disch := first | decide | assumption | omega) only [go_sem, ld2, RdS.len rR sl26, RdS.idx rR sl26, RdS.cellB rR (Ext.pres eB), RdS.cells rR, RdS.len hr5 sl22, RdS.idx hr5 sl22, R1.intB hr5 (Ext.pres eB), RdS.cells hr5, RdS.len (OS.rd hL) sl26, RdS.idx (OS.rd hL) sl26, RdS.cellN (OS.rd hL), RdS.cells (OS.rd hL), RdS.len (OS.rd hS) sl22, RdS.idx (OS.rd hS) sl22, R1.intN (OS.rd hS), RdS.cells (OS.rd hS), wrap_id]
      refine op_store1 (j := k) st2 hS hfhS.nodup (by first | omega | (simp; omega)) rfl rfl ?_
      intro h12_11 ho12_11 c12_11
      have hsz12_11 := c12_11.size
      replace hL := OS.chg hL c12_11 (apart_lt hlhL hfhS (by omega))
      have := c12_11.size
      replace eB := Ext.then eB c12_11 (ge_of hfhS (by omega))
      replace cL2 := Chg.step cL2 c12_11 (Sub.fresh hfhS (by omega))
      replace cL7 := Chg.step cL7 c12_11 sbhS
      have hlho12_11 := hlhS
      have hlenho12_11 : ((mix (sclRow p (invP p ((restP p L (R.getD i default)).getD k0 0)) (restP p L (R.getD i default))) (restP p L (R.getD i default)) k).set k (Int.tmod (((mix (sclRow p (invP p ((restP p L (R.getD i default)).getD k0 0)) (restP p L (R.getD i default))) (restP p L (R.getD i default)) k).getD k 0) * (invP p ((restP p L ((R).getD i default)).getD k0 0))) p) : List Int).length = (mix (sclRow p (invP p ((restP p L (R.getD i default)).getD k0 0)) (restP p L (R.getD i default))) (restP p L (R.getD i default)) k : List Int).length := List.length_set
      try simp -implicitDefEqProofs (disch := first | decide | assumption | omega) only [go_sem, RdS.len rR sl26, RdS.idx rR sl26, RdS.cellB rR (Ext.pres eB), RdS.cells rR, RdS.len hr5 sl22, RdS.idx hr5 sl22, R1.intB hr5 (Ext.pres eB), RdS.cells hr5, RdS.len (OS.rd hL) sl26, RdS.idx (OS.rd hL) sl26, RdS.cellN (OS.rd hL), RdS.cells (OS.rd hL), RdS.len (OS.rd ho12_11) sl22, RdS.idx (OS.rd ho12_11) sl22, R1.intN (OS.rd ho12_11), RdS.cells (OS.rd ho12_11), wrap_id]
      refine hK _ _ ?_
      clear hK K
      refine den_blk ?_
      refine den_region TTok ?_
      intro K hK
      simp -implicitDefEqProofs (disch := first | decide | assumption | omega) only [go_sem, RdS.len rR sl26, RdS.idx rR sl26, RdS.cellB rR (Ext.pres eB), RdS.cells rR, RdS.len hr5 sl22, RdS.idx hr5 sl22, R1.intB hr5 (Ext.pres eB), RdS.cells hr5, RdS.len (OS.rd hL) sl26, RdS.idx (OS.rd hL) sl26, RdS.cellN (OS.rd hL), RdS.cells (OS.rd hL), RdS.len (OS.rd ho12_11) sl22, RdS.idx (OS.rd ho12_11) sl22, R1.intN (OS.rd ho12_11), RdS.cells (OS.rd ho12_11), wrap_id]
      refine hK _ _ ?_
      clear hK K
      refine den_stop ?_
      rw [tmod_e hmu.1, hmg, Int.mul_comm, ← sclR_get p _ (by omega), mix_set _ _ _ _ (sclR_len _ _ _) (by omega)] at ho12_11
      exact ⟨k + 1, by simp [HasL, puts_at], ⟨by first | omega | (dsimp only; omega), ho12_11, cL7⟩, by first | omega | (dsimp only; omega)⟩
     ·try simp only [decide_eq_true_eq, decide_eq_false_iff_not, beq_iff_eq, beq_eq_false_iff_ne, bne_iff_ne, ne_eq, Bool.not_eq_true', Bool.not_eq_false', Bool.and_eq_true, Bool.or_eq_true, bne_eq_false_iff_eq] at c2
      refine den_exit ?_
      refine denX_code ?_
      refine denX_stop ?_
      refine denX_hit ?_
      refine den_seq ?_
      rw [mix_end _ _ _ (sclR_len _ _ _) (by omega), ← hown] at hS
      have hOl : (ownP p L (R.getD i default)).length = w := hok.len
      refine den_region TTok ?_
      intro K hK
      simp -implicitDefEqProofs (disch := first | decide | assumption | omega) only [go_sem, RdS.len rR sl26, RdS.idx rR sl26, RdS.cellB rR (Ext.pres eB), RdS.cells rR, RdS.len hr5 sl22, RdS.idx hr5 sl22, R1.intB hr5 (Ext.pres eB), RdS.cells hr5, RdS.len (OS.rd hL) sl26, RdS.idx (OS.rd hL) sl26, RdS.cellN (OS.rd hL), RdS.cells (OS.rd hL), RdS.len (OS.rd hS) sl22, RdS.idx (OS.rd hS) sl22, R1.intN (OS.rd hS), RdS.cells (OS.rd hS), wrap_id]
      refine op_bs0 sz26 O1 ?_
      intro v13_0 h13_0 ho13_0 e13_0
      replace hL := OS.ext hL e13_0
      replace hS := OS.ext hS e13_0
      have := Ext.size e13_0
      replace eB := Ext.trans eB e13_0
      replace cL2 := Chg.stepE cL2 e13_0
      have hfho13_0 : Fresh h9.size [h9.size] := Fresh.one _
      have hlho13_0 := OS.lt ho13_0
      try simp -implicitDefEqProofs (disch := first | decide | assumption | omega) only [go_sem, RdS.len rR sl26, RdS.idx rR sl26, RdS.cellB rR (Ext.pres eB), RdS.cells rR, RdS.len hr5 sl22, RdS.idx hr5 sl22, R1.intB hr5 (Ext.pres eB), RdS.cells hr5, RdS.len (OS.rd hL) sl26, RdS.idx (OS.rd hL) sl26, RdS.cellN (OS.rd hL), RdS.cells (OS.rd hL), RdS.len (OS.rd hS) sl22, RdS.idx (OS.rd hS) sl22, R1.intN (OS.rd hS), RdS.cells (OS.rd hS), RdS.len (OS.rd ho13_0) sl26, RdS.idx (OS.rd ho13_0) sl26, RdS.cellN (OS.rd ho13_0), RdS.cells (OS.rd ho13_0), wrap_id]
      refine hK _ _ ?_
      clear hK K
      refine den_seq ?_
      refine den_seq ?_
      refine den_region TTok ?_
      intro K hK
      simp -implicitDefEqProofs (disch := first | decide | assumption | omega) only [go_sem, RdS.len rR sl26, RdS.idx rR sl26, RdS.cellB rR (Ext.pres eB), RdS.cells rR, RdS.len hr5 sl22, RdS.idx hr5 sl22, R1.intB hr5 (Ext.pres eB), RdS.cells hr5, RdS.len (OS.rd hL) sl26, RdS.idx (OS.rd hL) sl26, RdS.cellN (OS.rd hL), RdS.cells (OS.rd hL), RdS.len (OS.rd hS) sl22, RdS.idx (OS.rd hS) sl22, R1.intN (OS.rd hS), RdS.cells (OS.rd hS), RdS.len (OS.rd ho13_0) sl26, RdS.idx (OS.rd ho13_0) sl26, RdS.cellN (OS.rd ho13_0), RdS.cells (OS.rd ho13_0), wrap_id]
      refine hK _ _ ?_
      clear hK K
      refine den_block ?_
      refine den_sel [11, 12, 13, 0, 1, 5, 6, 7, 8] ?_
      intro env_10
      simp only [go_sem]
      refine den_loopS (σ := Nat × Bool × Value × List Nat) (fun st_ => [(11, st_.2.2.1), (12, .bool st_.2.1), (13, .int .i64 (st_.1 : Int))]) (fun st_ H => (st_.1 ≤ L.length) ∧ (st_.2.1 = decide (posP L k0 < st_.1)) ∧ (O2B H st_.2.2.1 (nextT p L (ownP p L (R.getD i default)) k0 (posP L k0) vw5_6_0 st_.1) st_.2.2.2) ∧ (Fresh (h9.size) st_.2.2.2) ∧ (Sub [h9.size] h13_0.size st_.2.2.2) ∧ (Chg [h9.size] h13_0 H)) (fun st_ => L.length - st_.1) (0, false, v13_0, [h9.size]) ?_ ?_
      ·exact ⟨by simp, by simp, by rw [nextT_zero]; exact OB.nil ho13_0, hfho13_0, Sub.refl, Chg.refl _ _⟩
      ·rintro ⟨k, b, vhN, fphN⟩ h13 ee12 ⟨hk, hb, hN, hfhN, sbhN, cL11⟩
       dsimp only at hk hb hN hfhN sbhN cL11
       replace hL := OS.chg hL cL11 (apart_lt hlhL hfho13_0 (by omega))
       replace hS := OS.chg hS cL11 (apart_lt hlhS hfho13_0 (by omega))
       have := cL11.size
       replace eB := Ext.then eB cL11 (ge_of hfho13_0 (by omega))
       replace cL2 := Chg.step cL2 cL11 (Sub.fresh hfho13_0 (by omega))
       have hlhN := OS.lt hN
       simp only [List.cons_append, List.nil_append]
       have hnl := nextT_len (p := p) (own := (ownP p L (R.getD i default))) (at_ := k0) (pos := posP L k0) (vo := vw5_6_0) hk
       refine den_seq ?_
       refine den_seq ?_
       refine den_region TTok ?_
       intro K hK
       simp -implicitDefEqProofs (disch := first | decide | assumption | omega) only [go_sem, RdS.len rR sl26, RdS.idx rR sl26, RdS.cellB rR (Ext.pres eB), RdS.cells rR, RdS.len hr5 sl22, RdS.idx hr5 sl22, R1.intB hr5 (Ext.pres eB), RdS.cells hr5, RdS.len (OS.rd hL) sl26, RdS.idx (OS.rd hL) sl26, RdS.cellN (OS.rd hL), RdS.cells (OS.rd hL), RdS.len (OS.rd hS) sl22, RdS.idx (OS.rd hS) sl22, R1.intN (OS.rd hS), RdS.cells (OS.rd hS), wrap_id]
       refine hK _ _ ?_
       clear hK K
       refine den_cond rfl (fun c3 => ?_) (fun c3 => ?_)
       ·try simp only [decide_eq_true_eq, decide_eq_false_iff_not, beq_iff_eq, beq_eq_false_iff_ne, bne_iff_ne, ne_eq, Bool.not_eq_true', Bool.not_eq_false', Bool.and_eq_true, Bool.or_eq_true, bne_eq_false_iff_eq] at c3
        refine den_skip ?_
        refine den_seq ?_
        refine den_block ?_
        refine den_seq ?_
        refine den_seq ?_
        refine den_mergeH [(72, .bool (((!(b)) && (decide ((k0 : Int) < (leadP ((L).getD k default)))))))] [0, 1, 5, 6, 7, 8, 11, 12, 13] ?_ ?_
         -- a way
        ·refine den_region TTok ?_
         intro K hK
         simp -implicitDefEqProofs (disch := first | decide | assumption | (simp (disch := decide) only [slotOf_zero, slotOf_succ, Option.map_some, puts_same, puts_ne, gv_bool, gv_undef, tt, tf, ft, ff, eq_self, if_true, if_false, Bool.false_eq_true, Bool.not_true, Bool.not_false]; done) | omega) only [go_sem, RdS.len rR sl26, RdS.idx rR sl26, RdS.cellB rR (Ext.pres eB), RdS.cells rR, RdS.len hr5 sl22, RdS.idx hr5 sl22, R1.intB hr5 (Ext.pres eB), RdS.cells hr5, RdS.len (OS.rd hL) sl26, RdS.idx (OS.rd hL) sl26, RdS.cellN (OS.rd hL), RdS.cells (OS.rd hL), RdS.len (OS.rd hS) sl22, RdS.idx (OS.rd hS) sl22, R1.intN (OS.rd hS), RdS.cells (OS.rd hS), wrap_id]
         refine opsP_T (by simp (disch := decide) only [slotOf_zero, slotOf_succ, Option.map_some, puts_same, puts_ne, gv_bool, gv_undef, tt, tf, ft, ff, eq_self, if_true, if_false, Bool.false_eq_true, Bool.not_true, Bool.not_false]; rfl) (fun g14 => ?_) (fun g14 => ?_)
         ·have hr15 := RdS.rowN (OS.rd hL) k (by omega)
          have hlhr15 := RdS.le hr15
          have xr16 := Ext.refl h13
          try simp -implicitDefEqProofs (disch := first | decide | assumption | (simp (disch := decide) only [slotOf_zero, slotOf_succ, Option.map_some, puts_same, puts_ne, gv_bool, gv_undef, tt, tf, ft, ff, eq_self, if_true, if_false, Bool.false_eq_true, Bool.not_true, Bool.not_false, g14]; done) | omega) only [go_sem, ld22, RdS.len rR sl26, RdS.idx rR sl26, RdS.cellB rR (Ext.pres eB), RdS.cells rR, RdS.len hr5 sl22, RdS.idx hr5 sl22, R1.intB hr5 (Ext.pres eB), RdS.cells hr5, RdS.len (OS.rd hL) sl26, RdS.idx (OS.rd hL) sl26, RdS.cellN (OS.rd hL), RdS.cells (OS.rd hL), RdS.len (OS.rd hS) sl22, RdS.idx (OS.rd hS) sl22, R1.intN (OS.rd hS), RdS.cells (OS.rd hS), RdS.len hr15 sl22, RdS.idx hr15 sl22, R1.intB hr15 (Ext.pres xr16), RdS.cells hr15, wrap_id, g14, eq_self, if_true, if_false, Bool.false_eq_true]
          try simp -implicitDefEqProofs (disch := first | decide | assumption | omega) only [go_sem, RdS.len rR sl26, RdS.idx rR sl26, RdS.cellB rR (Ext.pres eB), RdS.cells rR, RdS.len hr5 sl22, RdS.idx hr5 sl22, R1.intB hr5 (Ext.pres eB), RdS.cells hr5, RdS.len (OS.rd hL) sl26, RdS.idx (OS.rd hL) sl26, RdS.cellN (OS.rd hL), RdS.cells (OS.rd hL), RdS.len (OS.rd hS) sl22, RdS.idx (OS.rd hS) sl22, R1.intN (OS.rd hS), RdS.cells (OS.rd hS), RdS.len hr15 sl22, RdS.idx hr15 sl22, R1.intB hr15 (Ext.pres xr16), RdS.cells hr15, wrap_id]
          refine CallA.pure (sLead_ok _ ((L).getD k default) _ (RdS.pres hr15 (Ext.pres xr16))) ?_
          try simp -implicitDefEqProofs (disch := first | decide | assumption | (simp (disch := decide) only [slotOf_zero, slotOf_succ, Option.map_some, puts_same, puts_ne, gv_bool, gv_undef, tt, tf, ft, ff, eq_self, if_true, if_false, Bool.false_eq_true, Bool.not_true, Bool.not_false, g14]; done) | omega) only [go_sem, RdS.len rR sl26, RdS.idx rR sl26, RdS.cellB rR (Ext.pres eB), RdS.cells rR, RdS.len hr5 sl22, RdS.idx hr5 sl22, R1.intB hr5 (Ext.pres eB), RdS.cells hr5, RdS.len (OS.rd hL) sl26, RdS.idx (OS.rd hL) sl26, RdS.cellN (OS.rd hL), RdS.cells (OS.rd hL), RdS.len (OS.rd hS) sl22, RdS.idx (OS.rd hS) sl22, R1.intN (OS.rd hS), RdS.cells (OS.rd hS), RdS.len hr15 sl22, RdS.idx hr15 sl22, R1.intB hr15 (Ext.pres xr16), RdS.cells hr15, wrap_id, g14, eq_self, if_true, if_false, Bool.false_eq_true]
          refine hK _ _ ?_
          clear hK K
          refine den_stop ?_
          refine ⟨?_, rfl⟩
          first | (simp (disch := decide) only [go_sem, g14, eq_self, Bool.true_and, Bool.and_true, Bool.false_and, Bool.and_false, Bool.true_or, Bool.or_true, Bool.false_or, Bool.or_false, if_true, if_false, Bool.false_eq_true]; done) | simp [HasL, sel, puts_at, g14]
         ·try simp -implicitDefEqProofs (disch := first | decide | assumption | (simp (disch := decide) only [slotOf_zero, slotOf_succ, Option.map_some, puts_same, puts_ne, gv_bool, gv_undef, tt, tf, ft, ff, eq_self, if_true, if_false, Bool.false_eq_true, Bool.not_true, Bool.not_false, g14]; done) | omega) only [go_sem, RdS.len rR sl26, RdS.idx rR sl26, RdS.cellB rR (Ext.pres eB), RdS.cells rR, RdS.len hr5 sl22, RdS.idx hr5 sl22, R1.intB hr5 (Ext.pres eB), RdS.cells hr5, RdS.len (OS.rd hL) sl26, RdS.idx (OS.rd hL) sl26, RdS.cellN (OS.rd hL), RdS.cells (OS.rd hL), RdS.len (OS.rd hS) sl22, RdS.idx (OS.rd hS) sl22, R1.intN (OS.rd hS), RdS.cells (OS.rd hS), wrap_id, g14, eq_self, if_true, if_false, Bool.false_eq_true]
          refine hK _ _ ?_
          clear hK K
          refine den_stop ?_
          refine ⟨?_, rfl⟩
          first | (simp (disch := decide) only [go_sem, g14, eq_self, Bool.true_and, Bool.and_true, Bool.false_and, Bool.and_false, Bool.true_or, Bool.or_true, Bool.false_or, Bool.or_false, if_true, if_false, Bool.false_eq_true]; done) | simp [HasL, sel, puts_at, g14]
        intro en17
        simp (disch := decide) only [go_sem]
        refine den_cond rfl (fun c4 => ?_) (fun c4 => ?_)
        ·try simp only [decide_eq_true_eq, decide_eq_false_iff_not, beq_iff_eq, beq_eq_false_iff_ne, bne_iff_ne, ne_eq, Bool.not_eq_true', Bool.not_eq_false', Bool.and_eq_true, Bool.or_eq_true, bne_eq_false_iff_eq] at c4
         have hld := hrr.lead (i := k) (by omega)
         have hkp : k = posP L k0 := by
          have h1 := c4
          rw [hb] at h1
          simp only [Bool.not_eq_true', decide_eq_false_iff_not] at h1
          rcases Nat.lt_or_ge k (posP L k0) with h2 | h2
          ·have := hq2 k h2; omega
          ·omega
         refine den_seq ?_
         refine den_region TTok ?_
         intro K hK
         simp -implicitDefEqProofs (disch := first | decide | assumption | omega) only [go_sem, RdS.len rR sl26, RdS.idx rR sl26, RdS.cellB rR (Ext.pres eB), RdS.cells rR, RdS.len hr5 sl22, RdS.idx hr5 sl22, R1.intB hr5 (Ext.pres eB), RdS.cells hr5, RdS.len (OS.rd hL) sl26, RdS.idx (OS.rd hL) sl26, RdS.cellN (OS.rd hL), RdS.cells (OS.rd hL), RdS.len (OS.rd hS) sl22, RdS.idx (OS.rd hS) sl22, R1.intN (OS.rd hS), RdS.cells (OS.rd hS), wrap_id]
         refine op_bs1 sz26 rfl (OS.one hS).2 ?_
         try simp -implicitDefEqProofs (disch := first | decide | assumption | omega) only [go_sem, RdS.len rR sl26, RdS.idx rR sl26, RdS.cellB rR (Ext.pres eB), RdS.cells rR, RdS.len hr5 sl22, RdS.idx hr5 sl22, R1.intB hr5 (Ext.pres eB), RdS.cells hr5, RdS.len (OS.rd hL) sl26, RdS.idx (OS.rd hL) sl26, RdS.cellN (OS.rd hL), RdS.cells (OS.rd hL), RdS.len (OS.rd hS) sl22, RdS.idx (OS.rd hS) sl22, R1.intN (OS.rd hS), RdS.cells (OS.rd hS), wrap_id]
         refine op_append1 sz26 hN hfhN.nodup (EB.bor (x := (ownP p L (R.getD i default))) (OS.one hS)) List.nodup_nil (Apart.nil _) (by first | omega | (simp; omega)) rfl rfl ?_
         intro v18_3 h18_3 fp18_3 ho18_3 hn18_3 hs18_3 c18_3
         have hsz18_3 := c18_3.size
         have hfho18_3 : Fresh h9.size fp18_3 := Fresh.appd hfhN (Fresh.nil h13.size) (by omega) (by omega) hn18_3 hs18_3
         have sb20 : Sub [h9.size] h13_0.size fp18_3 := Sub.grow sbhN Sub.nil (by omega) hs18_3
         replace hL := OS.chg hL c18_3 (apart_lt hlhL hfhN (by omega))
         replace hS := OS.chg hS c18_3 (apart_lt hlhS hfhN (by omega))
         have := c18_3.size
         replace eB := Ext.then eB c18_3 (ge_of hfhN (by omega))
         replace cL2 := Chg.step cL2 c18_3 (Sub.fresh hfhN (by omega))
         replace cL11 := Chg.step cL11 c18_3 sbhN
         have hlho18_3 := OS.lt ho18_3
         have hla18_3 : (nextT p L (ownP p L (R.getD i default)) k0 (posP L k0) vw5_6_0 k ++ [((ownP p L (R.getD i default)), some vw5_6_0)]).length = (nextT p L (ownP p L (R.getD i default)) k0 (posP L k0) vw5_6_0 k).length + 1 := by rw [List.length_append]; rfl
         try simp -implicitDefEqProofs (disch := first | decide | assumption | omega) only [go_sem, RdS.len rR sl26, RdS.idx rR sl26, RdS.cellB rR (Ext.pres eB), RdS.cells rR, RdS.len hr5 sl22, RdS.idx hr5 sl22, R1.intB hr5 (Ext.pres eB), RdS.cells hr5, RdS.len (OS.rd hL) sl26, RdS.idx (OS.rd hL) sl26, RdS.cellN (OS.rd hL), RdS.cells (OS.rd hL), RdS.len (OS.rd hS) sl22, RdS.idx (OS.rd hS) sl22, R1.intN (OS.rd hS), RdS.cells (OS.rd hS), wrap_id]
         refine hK _ _ ?_
         clear hK K
         refine den_region TTok ?_
         intro K hK
         simp -implicitDefEqProofs (disch := first | decide | assumption | omega) only [go_sem, RdS.len rR sl26, RdS.idx rR sl26, RdS.cellB rR (Ext.pres eB), RdS.cells rR, RdS.len hr5 sl22, RdS.idx hr5 sl22, R1.intB hr5 (Ext.pres eB), RdS.cells hr5, RdS.len (OS.rd hL) sl26, RdS.idx (OS.rd hL) sl26, RdS.cellN (OS.rd hL), RdS.cells (OS.rd hL), RdS.len (OS.rd hS) sl22, RdS.idx (OS.rd hS) sl22, R1.intN (OS.rd hS), RdS.cells (OS.rd hS), wrap_id]
         refine hK _ _ ?_
         clear hK K
         have hLk := hrr.len k (by omega)
         have hLb := hrr.bnd k (by omega)
         have hkw := hok.lt
         have hlk := hLb.at (k := k0) (by omega)
         have hls : ((L.getD k default).length ≤ (ownP p L (R.getD i default)).length ∧ (L.getD k default).length ≤ 1000) ∧ Bnd p (L.getD k default) ∧ Bnd p (ownP p L (R.getD i default)) := ⟨by omega, hLb, hok.bnd⟩
         refine den_draw TTok mixed [16] [(0, true), (1, true), (2, true), (3, true), (4, true), (5, true), (6, true), (7, true), (8, true), (9, true), (10, true), (11, true), (12, true), (13, true), (14, false), (15, false), (16, false), (17, true)] (by kernel_rfl) ?_
         intro K hK
         have hr21 := RdS.rowN (OS.rd hL) k (by omega)
         have hlhr21 := RdS.le hr21
         have xr22 := Ext.refl h18_3
         have hr23 := RdS.rowN (OS.rd hL) k (by omega)
         have hlhr23 := RdS.le hr23
         have xr24 := Ext.refl h18_3
         simp -implicitDefEqProofs (disch := first | decide | assumption | omega) only [go_sem, ld22, ld2, RdS.len rR sl26, RdS.idx rR sl26, RdS.cellB rR (Ext.pres eB), RdS.cells rR, RdS.len hr5 sl22, RdS.idx hr5 sl22, R1.intB hr5 (Ext.pres eB), RdS.cells hr5, RdS.len (OS.rd hL) sl26, RdS.idx (OS.rd hL) sl26, RdS.cellN (OS.rd hL), RdS.cells (OS.rd hL), RdS.len (OS.rd hS) sl22, RdS.idx (OS.rd hS) sl22, R1.intN (OS.rd hS), RdS.cells (OS.rd hS), RdS.len hr21 sl22, RdS.idx hr21 sl22, R1.intB hr21 (Ext.pres xr22), RdS.cells hr21, RdS.len hr23 sl22, RdS.idx hr23 sl22, R1.intB hr23 (Ext.pres xr24), RdS.cells hr23, wrap_id]
         try simp -implicitDefEqProofs (disch := first | decide | assumption | omega) only [go_sem, RdS.len rR sl26, RdS.idx rR sl26, RdS.cellB rR (Ext.pres eB), RdS.cells rR, RdS.len hr5 sl22, RdS.idx hr5 sl22, R1.intB hr5 (Ext.pres eB), RdS.cells hr5, RdS.len (OS.rd hL) sl26, RdS.idx (OS.rd hL) sl26, RdS.cellN (OS.rd hL), RdS.cells (OS.rd hL), RdS.len (OS.rd hS) sl22, RdS.idx (OS.rd hS) sl22, R1.intN (OS.rd hS), RdS.cells (OS.rd hS), RdS.len hr21 sl22, RdS.idx hr21 sl22, R1.intB hr21 (Ext.pres xr22), RdS.cells hr21, RdS.len hr23 sl22, RdS.idx hr23 sl22, R1.intB hr23 (Ext.pres xr24), RdS.cells hr23, wrap_id]
         refine CallA.mono (sLess_ok _ _ p ((L).getD k default) (ownP p L (R.getD i default)) (((L).getD k default).getD k0 0) _ (RdS.pres hr21 (Ext.pres xr22)) (OS.rd hS) (by omega) hls.1 hls.2.1 hls.2.2 (by omega)) ?_
         intro vw20_14_0 h20_14
         rintro ⟨zvw20_14_0, fw20_14_0, rfl, how20_14_0, hfw20_14_0, e20_14⟩
         replace hL := OS.ext hL e20_14
         replace hS := OS.ext hS e20_14
         replace ho18_3 := OS.ext ho18_3 e20_14
         have := Ext.size e20_14
         replace eB := Ext.trans eB e20_14
         replace xr22 := Ext.trans xr22 e20_14
         replace xr24 := Ext.trans xr24 e20_14
         replace cL2 := Chg.stepE cL2 e20_14
         replace cL11 := Chg.stepE cL11 e20_14
         have hlhow20_14_0 := OS.lt how20_14_0
         try simp (disch := decide) only [outv_some, outv_none, put_puts]
         refine plK_pres (Ext.pres e20_14) ?_
         try simp -implicitDefEqProofs (disch := first | decide | assumption | omega) only [go_sem, RdS.len rR sl26, RdS.idx rR sl26, RdS.cellB rR (Ext.pres eB), RdS.cells rR, RdS.len hr5 sl22, RdS.idx hr5 sl22, R1.intB hr5 (Ext.pres eB), RdS.cells hr5, RdS.len (OS.rd hL) sl26, RdS.idx (OS.rd hL) sl26, RdS.cellN (OS.rd hL), RdS.cells (OS.rd hL), RdS.len (OS.rd hS) sl22, RdS.idx (OS.rd hS) sl22, R1.intN (OS.rd hS), RdS.cells (OS.rd hS), RdS.len (OS.rd how20_14_0) sl22, RdS.idx (OS.rd how20_14_0) sl22, R1.intN (OS.rd how20_14_0), RdS.cells (OS.rd how20_14_0), RdS.len hr21 sl22, RdS.idx hr21 sl22, R1.intB hr21 (Ext.pres xr22), RdS.cells hr21, RdS.len hr23 sl22, RdS.idx hr23 sl22, R1.intB hr23 (Ext.pres xr24), RdS.cells hr23, wrap_id]
         refine op_bs1 sz26 rfl (OS.one how20_14_0).2 ?_
         try simp (disch := decide) only [outv_some, outv_none, put_puts]
         refine plK_pres (Ext.pres (Ext.push _ _)) ?_
         try simp -implicitDefEqProofs (disch := first | decide | assumption | omega) only [go_sem, RdS.len rR sl26, RdS.idx rR sl26, RdS.cellB rR (Ext.pres eB), RdS.cells rR, RdS.len hr5 sl22, RdS.idx hr5 sl22, R1.intB hr5 (Ext.pres eB), RdS.cells hr5, RdS.len (OS.rd hL) sl26, RdS.idx (OS.rd hL) sl26, RdS.cellN (OS.rd hL), RdS.cells (OS.rd hL), RdS.len (OS.rd hS) sl22, RdS.idx (OS.rd hS) sl22, R1.intN (OS.rd hS), RdS.cells (OS.rd hS), RdS.len (OS.rd how20_14_0) sl22, RdS.idx (OS.rd how20_14_0) sl22, R1.intN (OS.rd how20_14_0), RdS.cells (OS.rd how20_14_0), RdS.len hr21 sl22, RdS.idx hr21 sl22, R1.intB hr21 (Ext.pres xr22), RdS.cells hr21, RdS.len hr23 sl22, RdS.idx hr23 sl22, R1.intB hr23 (Ext.pres xr24), RdS.cells hr23, wrap_id]
         refine op_append1 sz26 ho18_3 hfho18_3.nodup (EB.own how20_14_0) hfw20_14_0.nodup (apart_lt hlho18_3 hfw20_14_0 (by omega)) (by first | omega | (simp; omega)) rfl rfl ?_
         intro v20_16 h20_16 fp20_16 ho20_16 hn20_16 hs20_16 c20_16
         have hsz20_16 := c20_16.size
         have hfho20_16 : Fresh h9.size fp20_16 := Fresh.appd hfho18_3 hfw20_14_0 (by omega) (by omega) hn20_16 hs20_16
         have sb25 : Sub [h9.size] h13_0.size fp20_16 := Sub.grow sb20 (Sub.fresh hfw20_14_0 (by omega)) (by omega) hs20_16
         replace hL := OS.chg hL c20_16 (apart_lt hlhL hfho18_3 (by omega))
         replace hS := OS.chg hS c20_16 (apart_lt hlhS hfho18_3 (by omega))
         have := c20_16.size
         replace eB := Ext.then eB c20_16 (ge_of hfho18_3 (by omega))
         replace cL2 := Chg.step cL2 c20_16 (Sub.fresh hfho18_3 (by omega))
         replace cL11 := Chg.step cL11 c20_16 sb20
         have hlho20_16 := OS.lt ho20_16
         change O2B _ _ (nextT p L (ownP p L (R.getD i default)) k0 (posP L k0) vw5_6_0 k ++ [((ownP p L (R.getD i default)), some vw5_6_0)] ++ [(redR p (ownP p L (R.getD i default)) k0 (L.getD k default), none)]) _ at ho20_16
         try simp (disch := decide) only [outv_some, outv_none, put_puts]
         refine plK_last (by decide) ?_
         try simp -implicitDefEqProofs (disch := first | decide | assumption | omega) only [go_sem, RdS.len rR sl26, RdS.idx rR sl26, RdS.cellB rR (Ext.pres eB), RdS.cells rR, RdS.len hr5 sl22, RdS.idx hr5 sl22, R1.intB hr5 (Ext.pres eB), RdS.cells hr5, RdS.len (OS.rd hL) sl26, RdS.idx (OS.rd hL) sl26, RdS.cellN (OS.rd hL), RdS.cells (OS.rd hL), RdS.len (OS.rd hS) sl22, RdS.idx (OS.rd hS) sl22, R1.intN (OS.rd hS), RdS.cells (OS.rd hS), wrap_id]
         refine hK _ _ ?_
         clear hK K
         refine den_blk ?_
         refine den_region TTok ?_
         intro K hK
         simp -implicitDefEqProofs (disch := first | decide | assumption | omega) only [go_sem, RdS.len rR sl26, RdS.idx rR sl26, RdS.cellB rR (Ext.pres eB), RdS.cells rR, RdS.len hr5 sl22, RdS.idx hr5 sl22, R1.intB hr5 (Ext.pres eB), RdS.cells hr5, RdS.len (OS.rd hL) sl26, RdS.idx (OS.rd hL) sl26, RdS.cellN (OS.rd hL), RdS.cells (OS.rd hL), RdS.len (OS.rd hS) sl22, RdS.idx (OS.rd hS) sl22, R1.intN (OS.rd hS), RdS.cells (OS.rd hS), wrap_id]
         refine hK _ _ ?_
         clear hK K
         refine den_stop ?_
         first | rw [nextT_at (by omega) hkp] at ho20_16 | rw [nextT_step (by omega) hkp] at ho20_16
         exact ⟨(k + 1, true, v20_16, fp20_16), by simp [HasL, puts_at], ⟨by dsimp only; omega, (decide_eq_true (by omega)).symm, ho20_16, hfho20_16, sb25, cL11⟩, by first | omega | (dsimp only; omega)⟩
        ·try simp only [decide_eq_true_eq, decide_eq_false_iff_not, beq_iff_eq, beq_eq_false_iff_ne, bne_iff_ne, ne_eq, Bool.not_eq_true', Bool.not_eq_false', Bool.and_eq_true, Bool.or_eq_true, bne_eq_false_iff_eq] at c4
         have hld := hrr.lead (i := k) (by omega)
         have hkp : k ≠ posP L k0 := fun he => by
          have h1 := c4
          rw [hb] at h1
          have h2 := hq3 k (by omega) (by omega)
          have h3 := hok.ne (i := k) (by omega)
          rcases Bool.and_eq_false_iff.1 h1 with h4 | h4
          ·simp only [Bool.not_eq_false', decide_eq_true_eq] at h4; omega
          ·simp only [decide_eq_false_iff_not] at h4; omega
         refine den_skip ?_
         have hLk := hrr.len k (by omega)
         have hLb := hrr.bnd k (by omega)
         have hkw := hok.lt
         have hlk := hLb.at (k := k0) (by omega)
         have hls : ((L.getD k default).length ≤ (ownP p L (R.getD i default)).length ∧ (L.getD k default).length ≤ 1000) ∧ Bnd p (L.getD k default) ∧ Bnd p (ownP p L (R.getD i default)) := ⟨by omega, hLb, hok.bnd⟩
         refine den_draw TTok mixed [16] [(0, true), (1, true), (2, true), (3, true), (4, true), (5, true), (6, true), (7, true), (8, true), (9, true), (10, true), (11, true), (12, true), (13, true), (14, false), (15, false), (16, false), (17, true)] (by kernel_rfl) ?_
         intro K hK
         have hr26 := RdS.rowN (OS.rd hL) k (by omega)
         have hlhr26 := RdS.le hr26
         have xr27 := Ext.refl h13
         have hr28 := RdS.rowN (OS.rd hL) k (by omega)
         have hlhr28 := RdS.le hr28
         have xr29 := Ext.refl h13
         simp -implicitDefEqProofs (disch := first | decide | assumption | omega) only [go_sem, ld22, ld2, RdS.len rR sl26, RdS.idx rR sl26, RdS.cellB rR (Ext.pres eB), RdS.cells rR, RdS.len hr5 sl22, RdS.idx hr5 sl22, R1.intB hr5 (Ext.pres eB), RdS.cells hr5, RdS.len (OS.rd hL) sl26, RdS.idx (OS.rd hL) sl26, RdS.cellN (OS.rd hL), RdS.cells (OS.rd hL), RdS.len (OS.rd hS) sl22, RdS.idx (OS.rd hS) sl22, R1.intN (OS.rd hS), RdS.cells (OS.rd hS), RdS.len hr26 sl22, RdS.idx hr26 sl22, R1.intB hr26 (Ext.pres xr27), RdS.cells hr26, RdS.len hr28 sl22, RdS.idx hr28 sl22, R1.intB hr28 (Ext.pres xr29), RdS.cells hr28, wrap_id]
         try simp -implicitDefEqProofs (disch := first | decide | assumption | omega) only [go_sem, RdS.len rR sl26, RdS.idx rR sl26, RdS.cellB rR (Ext.pres eB), RdS.cells rR, RdS.len hr5 sl22, RdS.idx hr5 sl22, R1.intB hr5 (Ext.pres eB), RdS.cells hr5, RdS.len (OS.rd hL) sl26, RdS.idx (OS.rd hL) sl26, RdS.cellN (OS.rd hL), RdS.cells (OS.rd hL), RdS.len (OS.rd hS) sl22, RdS.idx (OS.rd hS) sl22, R1.intN (OS.rd hS), RdS.cells (OS.rd hS), RdS.len hr26 sl22, RdS.idx hr26 sl22, R1.intB hr26 (Ext.pres xr27), RdS.cells hr26, RdS.len hr28 sl22, RdS.idx hr28 sl22, R1.intB hr28 (Ext.pres xr29), RdS.cells hr28, wrap_id]
         refine CallA.mono (sLess_ok _ _ p ((L).getD k default) (ownP p L (R.getD i default)) (((L).getD k default).getD k0 0) _ (RdS.pres hr26 (Ext.pres xr27)) (OS.rd hS) (by omega) hls.1 hls.2.1 hls.2.2 (by omega)) ?_
         intro vw20_14_1_0 h20_14_1
         rintro ⟨zvw20_14_1_0, fw20_14_1_0, rfl, how20_14_1_0, hfw20_14_1_0, e20_14_1⟩
         replace hL := OS.ext hL e20_14_1
         replace hS := OS.ext hS e20_14_1
         replace hN := OS.ext hN e20_14_1
         have := Ext.size e20_14_1
         replace eB := Ext.trans eB e20_14_1
         replace xr27 := Ext.trans xr27 e20_14_1
         replace xr29 := Ext.trans xr29 e20_14_1
         replace cL2 := Chg.stepE cL2 e20_14_1
         replace cL11 := Chg.stepE cL11 e20_14_1
         have hlhow20_14_1_0 := OS.lt how20_14_1_0
         try simp (disch := decide) only [outv_some, outv_none, put_puts]
         refine plK_pres (Ext.pres e20_14_1) ?_
         try simp -implicitDefEqProofs (disch := first | decide | assumption | omega) only [go_sem, RdS.len rR sl26, RdS.idx rR sl26, RdS.cellB rR (Ext.pres eB), RdS.cells rR, RdS.len hr5 sl22, RdS.idx hr5 sl22, R1.intB hr5 (Ext.pres eB), RdS.cells hr5, RdS.len (OS.rd hL) sl26, RdS.idx (OS.rd hL) sl26, RdS.cellN (OS.rd hL), RdS.cells (OS.rd hL), RdS.len (OS.rd hS) sl22, RdS.idx (OS.rd hS) sl22, R1.intN (OS.rd hS), RdS.cells (OS.rd hS), RdS.len (OS.rd how20_14_1_0) sl22, RdS.idx (OS.rd how20_14_1_0) sl22, R1.intN (OS.rd how20_14_1_0), RdS.cells (OS.rd how20_14_1_0), RdS.len hr26 sl22, RdS.idx hr26 sl22, R1.intB hr26 (Ext.pres xr27), RdS.cells hr26, RdS.len hr28 sl22, RdS.idx hr28 sl22, R1.intB hr28 (Ext.pres xr29), RdS.cells hr28, wrap_id]
         refine op_bs1 sz26 rfl (OS.one how20_14_1_0).2 ?_
         try simp (disch := decide) only [outv_some, outv_none, put_puts]
         refine plK_pres (Ext.pres (Ext.push _ _)) ?_
         try simp -implicitDefEqProofs (disch := first | decide | assumption | omega) only [go_sem, RdS.len rR sl26, RdS.idx rR sl26, RdS.cellB rR (Ext.pres eB), RdS.cells rR, RdS.len hr5 sl22, RdS.idx hr5 sl22, R1.intB hr5 (Ext.pres eB), RdS.cells hr5, RdS.len (OS.rd hL) sl26, RdS.idx (OS.rd hL) sl26, RdS.cellN (OS.rd hL), RdS.cells (OS.rd hL), RdS.len (OS.rd hS) sl22, RdS.idx (OS.rd hS) sl22, R1.intN (OS.rd hS), RdS.cells (OS.rd hS), RdS.len (OS.rd how20_14_1_0) sl22, RdS.idx (OS.rd how20_14_1_0) sl22, R1.intN (OS.rd how20_14_1_0), RdS.cells (OS.rd how20_14_1_0), RdS.len hr26 sl22, RdS.idx hr26 sl22, R1.intB hr26 (Ext.pres xr27), RdS.cells hr26, RdS.len hr28 sl22, RdS.idx hr28 sl22, R1.intB hr28 (Ext.pres xr29), RdS.cells hr28, wrap_id]
         refine op_append1 sz26 hN hfhN.nodup (EB.own how20_14_1_0) hfw20_14_1_0.nodup (apart_lt hlhN hfw20_14_1_0 (by omega)) (by first | omega | (simp; omega)) rfl rfl ?_
         intro v20_16_1 h20_16_1 fp20_16_1 ho20_16_1 hn20_16_1 hs20_16_1 c20_16_1
         have hsz20_16_1 := c20_16_1.size
         have hfho20_16_1 : Fresh h9.size fp20_16_1 := Fresh.appd hfhN hfw20_14_1_0 (by omega) (by omega) hn20_16_1 hs20_16_1
         have sb30 : Sub [h9.size] h13_0.size fp20_16_1 := Sub.grow sbhN (Sub.fresh hfw20_14_1_0 (by omega)) (by omega) hs20_16_1
         replace hL := OS.chg hL c20_16_1 (apart_lt hlhL hfhN (by omega))
         replace hS := OS.chg hS c20_16_1 (apart_lt hlhS hfhN (by omega))
         have := c20_16_1.size
         replace eB := Ext.then eB c20_16_1 (ge_of hfhN (by omega))
         replace cL2 := Chg.step cL2 c20_16_1 (Sub.fresh hfhN (by omega))
         replace cL11 := Chg.step cL11 c20_16_1 sbhN
         have hlho20_16_1 := OS.lt ho20_16_1
         change O2B _ _ (nextT p L (ownP p L (R.getD i default)) k0 (posP L k0) vw5_6_0 k ++ [(redR p (ownP p L (R.getD i default)) k0 (L.getD k default), none)]) _ at ho20_16_1
         try simp (disch := decide) only [outv_some, outv_none, put_puts]
         refine plK_last (by decide) ?_
         try simp -implicitDefEqProofs (disch := first | decide | assumption | omega) only [go_sem, RdS.len rR sl26, RdS.idx rR sl26, RdS.cellB rR (Ext.pres eB), RdS.cells rR, RdS.len hr5 sl22, RdS.idx hr5 sl22, R1.intB hr5 (Ext.pres eB), RdS.cells hr5, RdS.len (OS.rd hL) sl26, RdS.idx (OS.rd hL) sl26, RdS.cellN (OS.rd hL), RdS.cells (OS.rd hL), RdS.len (OS.rd hS) sl22, RdS.idx (OS.rd hS) sl22, R1.intN (OS.rd hS), RdS.cells (OS.rd hS), wrap_id]
         refine hK _ _ ?_
         clear hK K
         refine den_blk ?_
         refine den_region TTok ?_
         intro K hK
         simp -implicitDefEqProofs (disch := first | decide | assumption | omega) only [go_sem, RdS.len rR sl26, RdS.idx rR sl26, RdS.cellB rR (Ext.pres eB), RdS.cells rR, RdS.len hr5 sl22, RdS.idx hr5 sl22, R1.intB hr5 (Ext.pres eB), RdS.cells hr5, RdS.len (OS.rd hL) sl26, RdS.idx (OS.rd hL) sl26, RdS.cellN (OS.rd hL), RdS.cells (OS.rd hL), RdS.len (OS.rd hS) sl22, RdS.idx (OS.rd hS) sl22, R1.intN (OS.rd hS), RdS.cells (OS.rd hS), wrap_id]
         refine hK _ _ ?_
         clear hK K
         refine den_stop ?_
         first | rw [nextT_at (by omega) hkp] at ho20_16_1 | rw [nextT_step (by omega) hkp] at ho20_16_1
         exact ⟨(k + 1, b, v20_16_1, fp20_16_1), by simp [HasL, puts_at], ⟨by dsimp only; omega, (hb.trans (decide_eq_decide.2 (by omega))), ho20_16_1, hfho20_16_1, sb30, cL11⟩, by first | omega | (dsimp only; omega)⟩
       ·try simp only [decide_eq_true_eq, decide_eq_false_iff_not, beq_iff_eq, beq_eq_false_iff_ne, bne_iff_ne, ne_eq, Bool.not_eq_true', Bool.not_eq_false', Bool.and_eq_true, Bool.or_eq_true, bne_eq_false_iff_eq] at c3
        refine den_exit ?_
        refine denX_code ?_
        refine denX_stop ?_
        refine denX_hit ?_
        refine den_seq ?_
        refine den_seq ?_
        refine den_region TTok ?_
        intro K hK
        simp -implicitDefEqProofs (disch := first | decide | assumption | omega) only [go_sem, RdS.len rR sl26, RdS.idx rR sl26, RdS.cellB rR (Ext.pres eB), RdS.cells rR, RdS.len hr5 sl22, RdS.idx hr5 sl22, R1.intB hr5 (Ext.pres eB), RdS.cells hr5, RdS.len (OS.rd hS) sl22, RdS.idx (OS.rd hS) sl22, R1.intN (OS.rd hS), RdS.cells (OS.rd hS), wrap_id]
        refine hK _ _ ?_
        clear hK K
        refine den_cond rfl (fun c5 => ?_) (fun c5 => ?_)
        ·try simp only [decide_eq_true_eq, decide_eq_false_iff_not, beq_iff_eq, beq_eq_false_iff_ne, bne_iff_ne, ne_eq, Bool.not_eq_true', Bool.not_eq_false', Bool.and_eq_true, Bool.or_eq_true, bne_eq_false_iff_eq] at c5
         have hkp : k ≤ posP L k0 := by
          have h1 := hb.symm.trans (show b = false by simpa using c5)
          simp only [decide_eq_false_iff_not] at h1
          omega
         refine den_region TTok ?_
         intro K hK
         simp -implicitDefEqProofs (disch := first | decide | assumption | omega) only [go_sem, RdS.len rR sl26, RdS.idx rR sl26, RdS.cellB rR (Ext.pres eB), RdS.cells rR, RdS.len hr5 sl22, RdS.idx hr5 sl22, R1.intB hr5 (Ext.pres eB), RdS.cells hr5, RdS.len (OS.rd hS) sl22, RdS.idx (OS.rd hS) sl22, R1.intN (OS.rd hS), RdS.cells (OS.rd hS), wrap_id]
         refine op_bs1 sz26 rfl (OS.one hS).2 ?_
         try simp -implicitDefEqProofs (disch := first | decide | assumption | omega) only [go_sem, RdS.len rR sl26, RdS.idx rR sl26, RdS.cellB rR (Ext.pres eB), RdS.cells rR, RdS.len hr5 sl22, RdS.idx hr5 sl22, R1.intB hr5 (Ext.pres eB), RdS.cells hr5, RdS.len (OS.rd hS) sl22, RdS.idx (OS.rd hS) sl22, R1.intN (OS.rd hS), RdS.cells (OS.rd hS), wrap_id]
         refine op_append1 sz26 hN hfhN.nodup (EB.bor (x := (ownP p L (R.getD i default))) (OS.one hS)) List.nodup_nil (Apart.nil _) (by first | omega | (simp; omega)) rfl rfl ?_
         intro v22_3 h22_3 fp22_3 ho22_3 hn22_3 hs22_3 c22_3
         have hsz22_3 := c22_3.size
         have hfho22_3 : Fresh h9.size fp22_3 := Fresh.appd hfhN (Fresh.nil h13.size) (by omega) (by omega) hn22_3 hs22_3
         replace hS := OS.chg hS c22_3 (apart_lt hlhS hfhN (by omega))
         have := c22_3.size
         replace eB := Ext.then eB c22_3 (ge_of hfhN (by omega))
         replace cL2 := Chg.step cL2 c22_3 (Sub.fresh hfhN (by omega))
         have hlho22_3 := OS.lt ho22_3
         have hla22_3 : (nextT p L (ownP p L (R.getD i default)) k0 (posP L k0) vw5_6_0 k ++ [((ownP p L (R.getD i default)), some vw5_6_0)]).length = (nextT p L (ownP p L (R.getD i default)) k0 (posP L k0) vw5_6_0 k).length + 1 := by rw [List.length_append]; rfl
         try simp -implicitDefEqProofs (disch := first | decide | assumption | omega) only [go_sem, RdS.len rR sl26, RdS.idx rR sl26, RdS.cellB rR (Ext.pres eB), RdS.cells rR, RdS.len hr5 sl22, RdS.idx hr5 sl22, R1.intB hr5 (Ext.pres eB), RdS.cells hr5, RdS.len (OS.rd hS) sl22, RdS.idx (OS.rd hS) sl22, R1.intN (OS.rd hS), RdS.cells (OS.rd hS), wrap_id]
         refine hK _ _ ?_
         clear hK K
         rw [nextT_end1 (by omega) (by omega)] at ho22_3
         obtain ⟨fpJ, hoJ, hnJ, huJ⟩ := OB.join ho22_3 hfho22_3.nodup hS hfhS.nodup (apart_gt hfho22_3 hlhS (by omega)) (by rw [putT_len hq1]; omega) (putT_at hq1) (fun j hj hne => putT_other hq1 hj hne)
         rw [putT_fst] at hoJ
         have hfhoJ : Fresh (h4.size) fpJ := Fresh.appd (hfho22_3.mono (by omega)) hfhS (by omega) (by omega) hnJ (fun b hb => (huJ b hb).elim .inl (fun h => .inr (.inl h)) : ∀ b ∈ fpJ, b ∈ fp22_3 ∨ b ∈ fw5_6_0 ∨ h22_3.size ≤ b)
         have sb31 : Sub [h.size] h1_0.size fpJ := Sub.grow (Sub.fresh hfho22_3 (by omega)) (Sub.fresh hfhS (by omega)) (by omega) (fun b hb => (huJ b hb).elim .inl (fun h => .inr (.inl h)) : ∀ b ∈ fpJ, b ∈ fp22_3 ∨ b ∈ fw5_6_0 ∨ h22_3.size ≤ b)
         have hlhoJ := OS.lt hoJ
         refine den_region TTok ?_
         intro K hK
         simp -implicitDefEqProofs (disch := first | decide | assumption | omega) only [go_sem, RdS.len rR sl26, RdS.idx rR sl26, RdS.cellB rR (Ext.pres eB), RdS.cells rR, RdS.len hr5 sl22, RdS.idx hr5 sl22, R1.intB hr5 (Ext.pres eB), RdS.cells hr5, RdS.len (OS.rd hoJ) sl26, RdS.idx (OS.rd hoJ) sl26, RdS.cellN (OS.rd hoJ), RdS.cells (OS.rd hoJ), wrap_id]
         refine hK _ _ ?_
         clear hK K
         refine den_blk ?_
         refine den_region TTok ?_
         intro K hK
         simp -implicitDefEqProofs (disch := first | decide | assumption | omega) only [go_sem, RdS.len rR sl26, RdS.idx rR sl26, RdS.cellB rR (Ext.pres eB), RdS.cells rR, RdS.len hr5 sl22, RdS.idx hr5 sl22, R1.intB hr5 (Ext.pres eB), RdS.cells hr5, RdS.len (OS.rd hoJ) sl26, RdS.idx (OS.rd hoJ) sl26, RdS.cellN (OS.rd hoJ), RdS.cells (OS.rd hoJ), wrap_id]
         refine hK _ _ ?_
         clear hK K
         refine den_stop ?_
         exact ⟨(i + 1, putP p L (ownP p L (R.getD i default)) k0 (posP L k0), v22_3, fpJ), by simp [HasL, puts_at], ⟨(by rw [take_snoc (by omega)]; exact Red.put hred hP hrv.1 hrb hke), by dsimp only; omega, hoJ, (hfhoJ.mono (by omega)), sb31, cL2⟩, by first | omega | (dsimp only; omega)⟩
        ·try simp only [decide_eq_true_eq, decide_eq_false_iff_not, beq_iff_eq, beq_eq_false_iff_ne, bne_iff_ne, ne_eq, Bool.not_eq_true', Bool.not_eq_false', Bool.and_eq_true, Bool.or_eq_true, bne_eq_false_iff_eq] at c5
         have hkp : posP L k0 < k := by
          have h1 := hb.symm.trans (show b = true by simpa using c5)
          simpa only [decide_eq_true_eq] using h1
         refine den_skip ?_
         rw [nextT_end2 (by omega) (by omega)] at hN
         obtain ⟨fpJ, hoJ, hnJ, huJ⟩ := OB.join hN hfhN.nodup hS hfhS.nodup (apart_gt hfhN hlhS (by omega)) (by rw [putT_len hq1]; omega) (putT_at hq1) (fun j hj hne => putT_other hq1 hj hne)
         rw [putT_fst] at hoJ
         have hfhoJ : Fresh (h4.size) fpJ := Fresh.appd (hfhN.mono (by omega)) hfhS (by omega) (by omega) hnJ (fun b hb => (huJ b hb).elim .inl (fun h => .inr (.inl h)) : ∀ b ∈ fpJ, b ∈ fphN ∨ b ∈ fw5_6_0 ∨ h13.size ≤ b)
         have sb32 : Sub [h.size] h1_0.size fpJ := Sub.grow (Sub.fresh hfhN (by omega)) (Sub.fresh hfhS (by omega)) (by omega) (fun b hb => (huJ b hb).elim .inl (fun h => .inr (.inl h)) : ∀ b ∈ fpJ, b ∈ fphN ∨ b ∈ fw5_6_0 ∨ h13.size ≤ b)
         have hlhoJ := OS.lt hoJ
         refine den_region TTok ?_
         intro K hK
         simp -implicitDefEqProofs (disch := first | decide | assumption | omega) only [go_sem, RdS.len rR sl26, RdS.idx rR sl26, RdS.cellB rR (Ext.pres eB), RdS.cells rR, RdS.len hr5 sl22, RdS.idx hr5 sl22, R1.intB hr5 (Ext.pres eB), RdS.cells hr5, RdS.len (OS.rd hoJ) sl26, RdS.idx (OS.rd hoJ) sl26, RdS.cellN (OS.rd hoJ), RdS.cells (OS.rd hoJ), wrap_id]
         refine hK _ _ ?_
         clear hK K
         refine den_blk ?_
         refine den_region TTok ?_
         intro K hK
         simp -implicitDefEqProofs (disch := first | decide | assumption | omega) only [go_sem, RdS.len rR sl26, RdS.idx rR sl26, RdS.cellB rR (Ext.pres eB), RdS.cells rR, RdS.len hr5 sl22, RdS.idx hr5 sl22, R1.intB hr5 (Ext.pres eB), RdS.cells hr5, RdS.len (OS.rd hoJ) sl26, RdS.idx (OS.rd hoJ) sl26, RdS.cellN (OS.rd hoJ), RdS.cells (OS.rd hoJ), wrap_id]
         refine hK _ _ ?_
         clear hK K
         refine den_stop ?_
         exact ⟨(i + 1, putP p L (ownP p L (R.getD i default)) k0 (posP L k0), vhN, fpJ), by simp [HasL, puts_at], ⟨(by rw [take_snoc (by omega)]; exact Red.put hred hP hrv.1 hrb hke), by dsimp only; omega, hoJ, (hfhoJ.mono (by omega)), sb32, cL2⟩, by first | omega | (dsimp only; omega)⟩
  ·try simp only [decide_eq_true_eq, decide_eq_false_iff_not, beq_iff_eq, beq_eq_false_iff_ne, bne_iff_ne, ne_eq, Bool.not_eq_true', Bool.not_eq_false', Bool.and_eq_true, Bool.or_eq_true, bne_eq_false_iff_eq] at c0
   refine den_exit ?_
   refine denX_code ?_
   refine denX_stop ?_
   refine denX_hit ?_
   refine den_seq ?_
   refine den_region TTok ?_
   intro K hK
   simp -implicitDefEqProofs (disch := first | decide | assumption | omega) only [go_sem, RdS.len rR sl26, RdS.idx rR sl26, RdS.cellB rR (Ext.pres eB), RdS.cells rR, RdS.len (OS.rd hL) sl26, RdS.idx (OS.rd hL) sl26, RdS.cellN (OS.rd hL), RdS.cells (OS.rd hL), wrap_id]
   refine hK _ _ ?_
   clear hK K
   refine den_ret ?_
   simp (disch := decide) only [resP_1, puts_same, puts_ne]
   have hec : ech p R = L := Red.ech hP hT (by rw [List.take_of_length_le (by omega)] at hred; exact hred)
   rw [hec]
   exact ⟨_, _, rfl, hL, hfhL.mono (by omega), eB⟩
end Go.Proofs.Ytjjjgllbocgkbaa

namespace Go.Proofs.Ytjjjgllbocgkbaa
open Go
/-- The first elements of a slice that is read. -/
theorem RdS.takeV {α : Type} {E : Heap → Value → α → Prop} {h : Heap} {v : Value} {xs : List α} {t e : TypeId} {k : IntKind} (hv : RdS E h v xs) (ht : SlT TT t e) {hi : Int} (h0 : 0 ≤ hi) (h1 : hi ≤ xs.length) : ∃ v', sliceV TT t v none (some (.int k hi)) none = some v' ∧ RdS E h v' (xs.take hi.toNat) := by
 obtain ⟨A, c, rfl, hA, hc, hm, hr⟩ := hv
 obtain ⟨i, j, e1, e2, e3, e4⟩ := ht.out
 have hl : (xs.take hi.toNat).length = hi.toNat := by simp; omega
 have hadd : A.map (fun x : Addr => x.add (0 * j.size)) = A := by
  cases A with
  | none => rfl
  | some a => simp [addr_zero]
 refine ⟨.slice A hi.toNat c, ?_, A, c, by rw [hl], ?_, by rw [hl]; omega, by omega, fun q hq => ?_⟩
 ·simp only [sliceV, e1, Option.bind_some, e2, e3, bndsV, bndV]
  rw [if_pos ⟨h0, by omega⟩]
  simp only [Option.bind_some, Option.map_some, Nat.sub_zero]
  rw [hadd]
  simp
 ·rcases hA with hA | hA
  ·exact .inl hA
  ·right; rw [hl]; omega
 ·rw [hl] at hq
  obtain ⟨u, hu, hE⟩ := hr q (by omega)
  exact ⟨u, by cases A <;> exact hu, by rw [List.getElem_take]; exact hE⟩
/-- A row that lies in other blocks, and reads the same wherever these are as they were. -/
def ESt (h0 : Heap) (fE : List Nat) (_ : Heap) (u : Value) (x : List Int) (fp : List Nat) : Prop := fp = [] ∧ (u.oneCell' = true ∧ u.cells = #[u]) ∧ ∀ h' : Heap, (∀ b ∈ fE, h'[b]? = h0[b]?) → R1 h' u x
instance {h0 : Heap} {fE : List Nat} : Own (ESt h0 fE) := ⟨fun _ h => h, (fun h b hb => by rw [h.1] at hb; cases hb), (fun h => h.2.1)⟩
abbrev O2S (h0 : Heap) (fE : List Nat) : Heap → Value → List (List Int) → List Nat → Prop := OS 22 (ESt h0 fE)
theorem O2S.nil {h0 : Heap} {fE : List Nat} {h : Heap} {v : Value} {fp : List Nat} (ho : O2 h v [] fp) : O2S h0 fE h v [] fp := by
 rcases ho with ⟨h1, _, h3⟩ | ⟨b, c, cur, fps, rfl, r⟩
 ·exact .inl ⟨h1, rfl, h3⟩
 ·exact .inr ⟨b, c, cur, fps, rfl, ⟨r.val, r.box, r.size, r.max, r.le, r.len, fun j hj => by simp at hj⟩⟩
theorem O2S.rd {h0 : Heap} {fE : List Nat} {h : Heap} {v : Value} {xs : List (List Int)} {fp : List Nat} (ho : O2S h0 fE h v xs fp) (hag : ∀ b ∈ fE, h[b]? = h0[b]?) : R2 h v xs := by
 rcases ho with ⟨rfl, rfl, _⟩ | ⟨b, c, cur, fps, _, r⟩
 ·exact ⟨none, 0, rfl, .inr rfl, by simp, by omega, fun j hj => by simp at hj⟩
 ·refine ⟨some ⟨b, 0, none⟩, c, r.val, .inl rfl, r.le, r.max, fun j hj => ?_⟩
  obtain ⟨u, f, h1, _, h4⟩ := r.el j hj
  refine ⟨u, ?_, h4.2.2 h hag⟩
  rw [r.val]
  simp only [sA]
  rw [addr_add, r.box.cell, Nat.zero_add, h1]
theorem RdS.oneC {α : Type} {E : Heap → Value → α → Prop} {h : Heap} {v : Value} {xs : List α} (hv : RdS E h v xs) : v.oneCell' = true ∧ v.cells = #[v] := ⟨RdS.one hv, RdS.cells hv⟩
theorem ES.mk {h0 h : Heap} {vE : Value} {E : List (List Int)} {fE : List Nat} (hE : O2 h vE E fE) (hn : fE.Nodup) (hag : ∀ b ∈ fE, h[b]? = h0[b]?) {i : Nat} (hi : i < E.length) {k : IntKind} {lo : Int} (hl0 : 0 ≤ lo) (hl1 : lo ≤ (E.getD i default).length) {u : Value} (hs : sliceV TT 22 (rowV h vE i) (some (.int k lo)) none none = some u) {H : Heap} : ESt h0 fE H u ((E.getD i default).drop lo.toNat) [] := by
 obtain ⟨f, hO, hsub, _, _⟩ := OS.elem hE hn i hi
 have key : ∀ h' : Heap, (∀ b ∈ fE, h'[b]? = h0[b]?) → R1 h' u ((E.getD i default).drop lo.toNat) := fun h' hg => by
  have hO' : O1 h' (rowV h vE i) (E.getD i default) f := Own.loc (fun b hb => by rw [hg b (hsub b hb), hag b (hsub b hb)]) hO
  obtain ⟨v', e1, e2⟩ := RdS.dropV (k := k) (OS.rd hO') sl22 hl0 hl1
  rw [hs] at e1
  injection e1 with e1
  rw [e1]; exact e2
 exact ⟨rfl, RdS.oneC (key h hag), key⟩
/-- Rows with the units behind them. -/
theorem set_unit {r : List Int} {w m i : Nat} (hr : r.length = w) (hi : i < m) : (r ++ List.replicate m 0).set (w + i) 1 = r ++ unitP m i := by
 rw [List.set_append_right _ _ (by omega), hr, Nat.add_sub_cancel_left]; rfl
noncomputable def kerQ (p : Int) (rows : List (List Int)) : List (List Int) := kerP p (wd rows) rows
theorem longP_step {rows : List (List Int)} {k : Nat} (hk : k < rows.length) : ((List.range k).map fun i => rows.getD i default ++ unitP rows.length i) ++ [rows.getD k default ++ unitP rows.length k] = (List.range (k + 1)).map fun i => rows.getD i default ++ unitP rows.length i := range_step (fun i => rows.getD i default ++ unitP rows.length i) k
theorem fm_yes {α β : Type} {f : α → Bool} {g : α → β} {xs : List α} {k : Nat} {d : α} (hk : k < xs.length) (h : f (xs.getD k d) = true) : ((xs.take k).filter f).map g ++ [g (xs.getD k d)] = ((xs.take (k + 1)).filter f).map g := by
 have e : xs.getD k d = xs[k] := by rw [List.getD_eq_getElem?_getD, List.getElem?_eq_getElem hk]; rfl
 rw [e] at h ⊢
 rw [List.take_succ_eq_append_getElem hk, List.filter_append, List.filter_cons, if_pos h, List.map_append]; rfl
theorem fm_no {α β : Type} {f : α → Bool} {g : α → β} {xs : List α} {k : Nat} {d : α} (hk : k < xs.length) (h : f (xs.getD k d) = false) : ((xs.take k).filter f).map g = ((xs.take (k + 1)).filter f).map g := by
 have e : xs.getD k d = xs[k] := by rw [List.getD_eq_getElem?_getD, List.getElem?_eq_getElem hk]; rfl
 rw [e] at h
 rw [List.take_succ_eq_append_getElem hk, List.filter_append, List.filter_cons, if_neg (by rw [h]; decide), List.filter_nil, List.append_nil]
theorem fm_len {α β : Type} {f : α → Bool} {g : α → β} {xs : List α} {k : Nat} (hk : k ≤ xs.length) : (((xs.take k).filter f).map g).length ≤ xs.length := by
 rw [List.length_map]
 have := List.length_filter_le f (xs.take k)
 rw [List.length_take] at this; omega
theorem zero_take {W w : Nat} {p : Int} {E : List (List Int)} {l : Nat → Nat} (r : Rr p W E l) {i : Nat} (hi : i < E.length) : (!(((E.getD i default).take w).any fun x => x != 0)) = decide ((w : Int) ≤ leadP (E.getD i default)) := by
 have hl := r.lead hi
 have hlen := r.len i hi
 have hlt := r.lt i hi
 rw [hl]
 by_cases h : w ≤ l i
 ·have : (((E.getD i default).take w).any fun x => x != 0) = false := by
   rw [List.any_eq_false]
   intro x hx
   obtain ⟨j, hj, rfl⟩ := List.getElem_of_mem hx
   have hj' : j < w := by simp at hj; omega
   have := r.zb i j hi (by omega)
   unfold g2 at this
   rw [List.getD_eq_getElem?_getD (l := E.getD i default), List.getElem?_eq_getElem (by omega)] at this
   rw [List.getElem_take]
   simpa using this
  rw [this]; simp; omega
 ·have : (((E.getD i default).take w).any fun x => x != 0) = true := by
   rw [List.any_eq_true]
   have h1 := r.one i hi
   unfold g2 at h1
   rw [List.getD_eq_getElem?_getD (l := E.getD i default), List.getElem?_eq_getElem (by omega)] at h1
   refine ⟨(E.getD i default)[l i], ?_, by simp only [Option.getD_some] at h1; rw [h1]; decide⟩
   exact List.mem_take_iff_getElem.2 ⟨l i, by omega, rfl⟩
  rw [this]; simp; omega
theorem kerP_tbl {p : Int} {w : Nat} (hP : isP p = true) {rows : List (List Int)} (h : ∀ r ∈ rows, r.length = w ∧ Bnd p r) : ∀ r ∈ kerP p w rows, r.length = rows.length ∧ Bnd p r := fun r hr => by
 obtain ⟨l, hR⟩ := kerP_rr hP h
 obtain ⟨i, hi, rfl⟩ := List.getElem_of_mem hr
 have a := hR.len i hi
 have b := hR.bnd i hi
 rw [List.getD_eq_getElem?_getD, List.getElem?_eq_getElem hi] at a b
 exact ⟨a, b⟩
theorem kerQ_w {p : Int} {w : Nat} {rows : List (List Int)} (h : ∀ r ∈ rows, r.length = w ∧ Bnd p r) (hn : rows ≠ []) : kerQ p rows = kerP p w rows := by rw [kerQ, wd_ok h hn]
theorem kerQ_nil {p : Int} (hp : 1 < p) : kerQ p [] = [] := by
 rw [kerQ, kerP, longP]
 simp only [List.length_nil, List.range_zero, List.map_nil]
 rw [ech_nil hp]; rfl
theorem len_longP (rows : List (List Int)) : (longP rows).length = rows.length := by simp [longP]
theorem ech_len_le {p : Int} {w : Nat} (hP : isP p = true) {rows : List (List Int)} (h : ∀ r ∈ rows, r.length = w ∧ Bnd p r) : (ech p rows).length ≤ w := by
 obtain ⟨⟨l, r⟩, _⟩ := ech_red hP h
 exact r.le_w

set_option maxRecDepth 100000 in
theorem iKernel_ok (vR : Value) (p : Int) (R : List (List Int)) (h : Heap) (rR : R2 h vR R) {w : Nat} (hP : isP p = true) (hT : ∀ r ∈ R, r.length = w ∧ Bnd p r) (hw : w ≤ 500) (hl : R.length ≤ 500) : CallA Try.prog 151 #[.int .i64 p, vR] h fun v' h' => ∃ w0 f0, v' = w0 ∧ O2 h' w0 (kerQ p R) f0 ∧ Fresh h.size f0 ∧ Ext h h' := by
 have hleR := RdS.le rR
 have hp := isP_two hP
 have hLT := longP_tbl hp.1 hT
 have hEl := ech_len_le hP hLT
 obtain ⟨⟨l, hrE⟩, _⟩ := ech_red hP hLT
 have hll := len_longP R
 refine callA_intro TTok (args := [_, _]) Try.func151 (by kernel_rfl) rfl 67 rfl (by simp) [.tmp 4] rfl ?_
 simp only [idxs, Nat.reduceAdd]
 refine den_seq ?_
 refine den_region TTok ?_
 intro K hK
 simp -implicitDefEqProofs (disch := first | decide | assumption | omega) only [go_sem, RdS.len rR sl26, RdS.idx rR sl26, RdS.cellB rR (HPres.refl _), RdS.cells rR, wrap_id, Int.toNat_zero]
 refine hK _ _ ?_
 clear hK K
 refine den_seq ?_
 refine den_region TTok ?_
 intro K hK
 simp -implicitDefEqProofs (disch := first | decide | assumption | omega) only [go_sem, RdS.len rR sl26, RdS.idx rR sl26, RdS.cellB rR (HPres.refl _), RdS.cells rR, wrap_id, Int.toNat_zero]
 refine hK _ _ ?_
 clear hK K
 refine den_seq ?_
 refine den_seq ?_
 refine den_region TTok ?_
 intro K hK
 simp -implicitDefEqProofs (disch := first | decide | assumption | omega) only [go_sem, RdS.len rR sl26, RdS.idx rR sl26, RdS.cellB rR (HPres.refl _), RdS.cells rR, wrap_id, Int.toNat_zero]
 refine hK _ _ ?_
 clear hK K
 refine den_cond rfl (fun c0 => ?_) (fun c0 => ?_)
 ·try simp only [decide_eq_true_eq, decide_eq_false_iff_not, beq_iff_eq, beq_eq_false_iff_ne, bne_iff_ne, ne_eq, Bool.not_eq_true', Bool.not_eq_false', Bool.and_eq_true, Bool.or_eq_true, bne_eq_false_iff_eq] at c0
  refine den_seq ?_
  refine den_region TTok ?_
  intro K hK
  simp -implicitDefEqProofs (disch := first | decide | assumption | omega) only [go_sem, RdS.len rR sl26, RdS.idx rR sl26, RdS.cellB rR (HPres.refl _), RdS.cells rR, wrap_id, Int.toNat_zero]
  refine hK _ _ ?_
  clear hK K
  refine den_ret ?_
  simp (disch := decide) only [resP_1, puts_same, puts_ne]
  have hz : R = [] := List.length_eq_zero_iff.1 (by omega)
  subst hz
  rw [kerQ_nil hp.1]
  exact ⟨.slice none 0 0, [], rfl, OS.nil, Fresh.nil _, (Ext.refl _)⟩
 ·try simp only [decide_eq_true_eq, decide_eq_false_iff_not, beq_iff_eq, beq_eq_false_iff_ne, bne_iff_ne, ne_eq, Bool.not_eq_true', Bool.not_eq_false', Bool.and_eq_true, Bool.or_eq_true, bne_eq_false_iff_eq] at c0
  refine den_skip ?_
  refine den_seq ?_
  have hR0 : R ≠ [] := fun e_ => by subst e_; simp at c0
  have hwz : (R.getD 0 default).length = w := (hT _ (getD_mem (show 0 < R.length by omega))).1
  have hz4 := RdS.cellN rR 0 (by omega)
  rw [addr_zero] at hz4
  refine den_region TTok ?_
  intro K hK
  have hr1 := RdS.rowN rR 0 (by omega)
  have hlhr1 := RdS.le hr1
  simp -implicitDefEqProofs (disch := first | decide | assumption | omega) only [go_sem, ld22, RdS.len rR sl26, RdS.idx rR sl26, RdS.cellB rR (HPres.refl _), RdS.cells rR, RdS.len hr1 sl22, RdS.idx hr1 sl22, R1.intB hr1 (HPres.refl _), RdS.cells hr1, wrap_id, Int.toNat_zero, hz4, hwz]
  refine op_bs0 sz26 O1 ?_
  intro v4_4 h4_4 ho4_4 e4_4
  have := Ext.size e4_4
  have eB := e4_4
  have hfho4_4 : Fresh h.size [h.size] := Fresh.one _
  have hlho4_4 := OS.lt ho4_4
  try simp -implicitDefEqProofs (disch := first | decide | assumption | omega) only [go_sem, RdS.len rR sl26, RdS.idx rR sl26, RdS.cellB rR (Ext.pres eB), RdS.cells rR, RdS.len hr1 sl22, RdS.idx hr1 sl22, R1.intB hr1 (Ext.pres eB), RdS.cells hr1, RdS.len (OS.rd ho4_4) sl26, RdS.idx (OS.rd ho4_4) sl26, RdS.cellN (OS.rd ho4_4), RdS.cells (OS.rd ho4_4), wrap_id, Int.toNat_zero, hz4, hwz]
  refine hK _ _ ?_
  clear hK K
  refine den_seq ?_
  refine den_seq ?_
  refine den_region TTok ?_
  intro K hK
  simp -implicitDefEqProofs (disch := first | decide | assumption | omega) only [go_sem, RdS.len rR sl26, RdS.idx rR sl26, RdS.cellB rR (Ext.pres eB), RdS.cells rR, RdS.len hr1 sl22, RdS.idx hr1 sl22, R1.intB hr1 (Ext.pres eB), RdS.cells hr1, RdS.len (OS.rd ho4_4) sl26, RdS.idx (OS.rd ho4_4) sl26, RdS.cellN (OS.rd ho4_4), RdS.cells (OS.rd ho4_4), wrap_id, Int.toNat_zero]
  refine hK _ _ ?_
  clear hK K
  refine den_block ?_
  refine den_sel [7, 25, 0, 5, 6, 23, 24] ?_
  intro env_2
  simp only [go_sem]
  refine den_loopS (σ := Nat × Value × List Nat) (fun st_ => [(7, st_.2.1), (25, .int .i64 (st_.1 : Int))]) (fun st_ H => (st_.1 ≤ R.length) ∧ (O2 H st_.2.1 ((List.range st_.1).map fun i => R.getD i default ++ unitP R.length i) st_.2.2) ∧ (Fresh (h.size) st_.2.2) ∧ (Sub [h.size] h4_4.size st_.2.2) ∧ (Chg [h.size] h4_4 H)) (fun st_ => R.length - st_.1) (0, v4_4, [h.size]) ?_ ?_
  ·exact ⟨by first | (simp; done) | (dsimp only; omega) | (simp; omega), by simpa using ho4_4, hfho4_4, Sub.refl, Chg.refl _ _⟩
  ·rintro ⟨k, vhL, fphL⟩ h5 ee4 ⟨hi0, hL, hfhL, sbhL, cL3⟩
   dsimp only at hi0 hL hfhL sbhL cL3
   have := cL3.size
   replace eB := Ext.then eB cL3 (ge_of hfho4_4 (by omega))
   have hlhL := OS.lt hL
   simp only [List.cons_append, List.nil_append]
   have hlo_ : ((List.range k).map fun i => R.getD i default ++ unitP R.length i).length = k := by simp
   refine den_seq ?_
   refine den_region TTok ?_
   intro K hK
   simp -implicitDefEqProofs (disch := first | decide | assumption | omega) only [go_sem, RdS.len rR sl26, RdS.idx rR sl26, RdS.cellB rR (Ext.pres eB), RdS.cells rR, RdS.len hr1 sl22, RdS.idx hr1 sl22, R1.intB hr1 (Ext.pres eB), RdS.cells hr1, RdS.len (OS.rd hL) sl26, RdS.idx (OS.rd hL) sl26, RdS.cellN (OS.rd hL), RdS.cells (OS.rd hL), wrap_id, Int.toNat_zero]
   refine hK _ _ ?_
   clear hK K
   refine den_seq ?_
   refine den_cond rfl (fun c1 => ?_) (fun c1 => ?_)
   ·try simp only [decide_eq_true_eq, decide_eq_false_iff_not, beq_iff_eq, beq_eq_false_iff_ne, bne_iff_ne, ne_eq, Bool.not_eq_true', Bool.not_eq_false', Bool.and_eq_true, Bool.or_eq_true, bne_eq_false_iff_eq] at c1
    refine den_skip ?_
    refine den_seq ?_
    refine den_block ?_
    refine den_seq ?_
    refine den_region TTok ?_
    intro K hK
    have hr6 := RdS.rowN rR k (by omega)
    have hlhr6 := RdS.le hr6
    simp -implicitDefEqProofs (disch := first | decide | assumption | omega) only [go_sem, ld22, RdS.len rR sl26, RdS.idx rR sl26, RdS.cellB rR (Ext.pres eB), RdS.cells rR, RdS.len hr1 sl22, RdS.idx hr1 sl22, R1.intB hr1 (Ext.pres eB), RdS.cells hr1, RdS.len hr6 sl22, RdS.idx hr6 sl22, R1.intB hr6 (Ext.pres eB), RdS.cells hr6, RdS.len (OS.rd hL) sl26, RdS.idx (OS.rd hL) sl26, RdS.cellN (OS.rd hL), RdS.cells (OS.rd hL), wrap_id, Int.toNat_zero]
    refine hK _ _ ?_
    clear hK K
    refine den_seq ?_
    have hRk := hT _ (getD_mem (show k < R.length by omega))
    refine den_region TTok ?_
    intro K hK
    simp -implicitDefEqProofs (disch := first | decide | assumption | omega) only [go_sem, RdS.len rR sl26, RdS.idx rR sl26, RdS.cellB rR (Ext.pres eB), RdS.cells rR, RdS.len hr1 sl22, RdS.idx hr1 sl22, R1.intB hr1 (Ext.pres eB), RdS.cells hr1, RdS.len hr6 sl22, RdS.idx hr6 sl22, R1.intB hr6 (Ext.pres eB), RdS.cells hr6, RdS.len (OS.rd hL) sl26, RdS.idx (OS.rd hL) sl26, RdS.cellN (OS.rd hL), RdS.cells (OS.rd hL), wrap_id, Int.toNat_zero]
    try simp -implicitDefEqProofs (disch := first | decide | assumption | omega) only [go_sem, RdS.len rR sl26, RdS.idx rR sl26, RdS.cellB rR (Ext.pres eB), RdS.cells rR, RdS.len hr1 sl22, RdS.idx hr1 sl22, R1.intB hr1 (Ext.pres eB), RdS.cells hr1, RdS.len hr6 sl22, RdS.idx hr6 sl22, R1.intB hr6 (Ext.pres eB), RdS.cells hr6, RdS.len (OS.rd hL) sl26, RdS.idx (OS.rd hL) sl26, RdS.cellN (OS.rd hL), RdS.cells (OS.rd hL), wrap_id, Int.toNat_zero]
    refine CallA.mono (clone1_ok _ ((R).getD k default) _ (RdS.pres hr6 (Ext.pres eB)) (by omega)) ?_
    intro vw8_1_0 h8_1
    rintro ⟨zvw8_1_0, fw8_1_0, rfl, how8_1_0, hfw8_1_0, e8_1⟩
    replace hL := OS.ext hL e8_1
    have := Ext.size e8_1
    replace eB := Ext.trans eB e8_1
    replace cL3 := Chg.stepE cL3 e8_1
    have hlhow8_1_0 := OS.lt how8_1_0
    try simp -implicitDefEqProofs (disch := first | decide | assumption | omega) only [go_sem, RdS.len rR sl26, RdS.idx rR sl26, RdS.cellB rR (Ext.pres eB), RdS.cells rR, RdS.len hr1 sl22, RdS.idx hr1 sl22, R1.intB hr1 (Ext.pres eB), RdS.cells hr1, RdS.len hr6 sl22, RdS.idx hr6 sl22, R1.intB hr6 (Ext.pres eB), RdS.cells hr6, RdS.len (OS.rd hL) sl26, RdS.idx (OS.rd hL) sl26, RdS.cellN (OS.rd hL), RdS.cells (OS.rd hL), RdS.len (OS.rd how8_1_0) sl22, RdS.idx (OS.rd how8_1_0) sl22, R1.intN (OS.rd how8_1_0), RdS.cells (OS.rd how8_1_0), wrap_id, Int.toNat_zero]
    refine op_appendZ (by kernel_rfl) how8_1_0 rfl (by omega) (by first | omega | (simp; omega)) rfl ?_
    intro v8_3 h8_3 fp8_3 ho8_3 hn8_3 hs8_3 c8_3
    have hsz8_3 := c8_3.size
    have hfho8_3 : Fresh h5.size fp8_3 := Fresh.appd hfw8_1_0 (Fresh.nil h8_1.size) (by omega) (by omega) hn8_3 hs8_3
    replace hL := OS.chg hL c8_3 (apart_lt hlhL hfw8_1_0 (by omega))
    have := c8_3.size
    replace eB := Ext.then eB c8_3 (ge_of hfw8_1_0 (by omega))
    replace cL3 := Chg.step cL3 c8_3 (Sub.fresh hfw8_1_0 (by omega))
    have hlho8_3 := OS.lt ho8_3
    try simp -implicitDefEqProofs (disch := first | decide | assumption | omega) only [go_sem, RdS.len rR sl26, RdS.idx rR sl26, RdS.cellB rR (Ext.pres eB), RdS.cells rR, RdS.len hr1 sl22, RdS.idx hr1 sl22, R1.intB hr1 (Ext.pres eB), RdS.cells hr1, RdS.len hr6 sl22, RdS.idx hr6 sl22, R1.intB hr6 (Ext.pres eB), RdS.cells hr6, RdS.len (OS.rd hL) sl26, RdS.idx (OS.rd hL) sl26, RdS.cellN (OS.rd hL), RdS.cells (OS.rd hL), RdS.len (OS.rd ho8_3) sl22, RdS.idx (OS.rd ho8_3) sl22, R1.intN (OS.rd ho8_3), RdS.cells (OS.rd ho8_3), wrap_id, Int.toNat_zero]
    refine hK _ _ ?_
    clear hK K
    refine den_seq ?_
    have hl9 : (R.getD k default ++ List.replicate ((R.length : Int)).toNat 0).length = w + R.length := by rw [List.length_append, hRk.1, List.length_replicate, Int.toNat_natCast]
    refine den_region TTok ?_
    intro K hK
    simp -implicitDefEqProofs (disch := first | decide | assumption | omega) only [go_sem, RdS.len rR sl26, RdS.idx rR sl26, RdS.cellB rR (Ext.pres eB), RdS.cells rR, RdS.len hr1 sl22, RdS.idx hr1 sl22, R1.intB hr1 (Ext.pres eB), RdS.cells hr1, RdS.len hr6 sl22, RdS.idx hr6 sl22, R1.intB hr6 (Ext.pres eB), RdS.cells hr6, RdS.len (OS.rd hL) sl26, RdS.idx (OS.rd hL) sl26, RdS.cellN (OS.rd hL), RdS.cells (OS.rd hL), RdS.len (OS.rd ho8_3) sl22, RdS.idx (OS.rd ho8_3) sl22, R1.intN (OS.rd ho8_3), RdS.cells (OS.rd ho8_3), wrap_id, Int.toNat_zero]
    refine op_store1 (j := (((w : Int) + (k : Int))).toNat) st2 ho8_3 hfho8_3.nodup (by first | omega | (simp; omega)) rfl rfl ?_
    intro h9_5 ho9_5 c9_5
    have hsz9_5 := c9_5.size
    replace hL := OS.chg hL c9_5 (apart_lt hlhL hfho8_3 (by omega))
    have := c9_5.size
    replace eB := Ext.then eB c9_5 (ge_of hfho8_3 (by omega))
    replace cL3 := Chg.step cL3 c9_5 (Sub.fresh hfho8_3 (by omega))
    have hlho9_5 := hlho8_3
    have hlenho9_5 : ((((R).getD k default) ++ List.replicate (((R).length : Int)).toNat 0).set ((((w : Int) + (k : Int))).toNat) (1 : Int) : List Int).length = (((R).getD k default) ++ List.replicate (((R).length : Int)).toNat 0 : List Int).length := List.length_set
    rw [show ((w : Int) + (k : Int)).toNat = w + k by omega, Int.toNat_natCast, set_unit hRk.1 (by omega)] at ho9_5
    try simp -implicitDefEqProofs (disch := first | decide | assumption | omega) only [go_sem, RdS.len rR sl26, RdS.idx rR sl26, RdS.cellB rR (Ext.pres eB), RdS.cells rR, RdS.len hr1 sl22, RdS.idx hr1 sl22, R1.intB hr1 (Ext.pres eB), RdS.cells hr1, RdS.len hr6 sl22, RdS.idx hr6 sl22, R1.intB hr6 (Ext.pres eB), RdS.cells hr6, RdS.len (OS.rd hL) sl26, RdS.idx (OS.rd hL) sl26, RdS.cellN (OS.rd hL), RdS.cells (OS.rd hL), RdS.len (OS.rd ho9_5) sl22, RdS.idx (OS.rd ho9_5) sl22, R1.intN (OS.rd ho9_5), RdS.cells (OS.rd ho9_5), wrap_id, Int.toNat_zero]
    refine hK _ _ ?_
    clear hK K
    refine den_region TTok ?_
    intro K hK
    simp -implicitDefEqProofs (disch := first | decide | assumption | omega) only [go_sem, RdS.len rR sl26, RdS.idx rR sl26, RdS.cellB rR (Ext.pres eB), RdS.cells rR, RdS.len hr1 sl22, RdS.idx hr1 sl22, R1.intB hr1 (Ext.pres eB), RdS.cells hr1, RdS.len hr6 sl22, RdS.idx hr6 sl22, R1.intB hr6 (Ext.pres eB), RdS.cells hr6, RdS.len (OS.rd hL) sl26, RdS.idx (OS.rd hL) sl26, RdS.cellN (OS.rd hL), RdS.cells (OS.rd hL), RdS.len (OS.rd ho9_5) sl22, RdS.idx (OS.rd ho9_5) sl22, R1.intN (OS.rd ho9_5), RdS.cells (OS.rd ho9_5), wrap_id, Int.toNat_zero]
    refine op_bs1 sz26 rfl (OS.one ho9_5).2 ?_
    try simp -implicitDefEqProofs (disch := first | decide | assumption | omega) only [go_sem, RdS.len rR sl26, RdS.idx rR sl26, RdS.cellB rR (Ext.pres eB), RdS.cells rR, RdS.len hr1 sl22, RdS.idx hr1 sl22, R1.intB hr1 (Ext.pres eB), RdS.cells hr1, RdS.len hr6 sl22, RdS.idx hr6 sl22, R1.intB hr6 (Ext.pres eB), RdS.cells hr6, RdS.len (OS.rd hL) sl26, RdS.idx (OS.rd hL) sl26, RdS.cellN (OS.rd hL), RdS.cells (OS.rd hL), RdS.len (OS.rd ho9_5) sl22, RdS.idx (OS.rd ho9_5) sl22, R1.intN (OS.rd ho9_5), RdS.cells (OS.rd ho9_5), wrap_id, Int.toNat_zero]
    refine op_append1 sz26 hL hfhL.nodup ho9_5 hfho8_3.nodup (apart_lt hlhL hfho8_3 (by omega)) (by first | omega | (simp; omega)) rfl rfl ?_
    intro v10_3 h10_3 fp10_3 ho10_3 hn10_3 hs10_3 c10_3
    have hsz10_3 := c10_3.size
    have hfho10_3 : Fresh h.size fp10_3 := Fresh.appd hfhL hfho8_3 (by omega) (by omega) hn10_3 hs10_3
    have sb7 : Sub [h.size] h4_4.size fp10_3 := Sub.grow sbhL (Sub.fresh hfho8_3 (by omega)) (by omega) hs10_3
    have := c10_3.size
    replace eB := Ext.then eB c10_3 (ge_of hfhL (by omega))
    replace cL3 := Chg.step cL3 c10_3 sbhL
    have hlho10_3 := OS.lt ho10_3
    try simp -implicitDefEqProofs (disch := first | decide | assumption | omega) only [go_sem, RdS.len rR sl26, RdS.idx rR sl26, RdS.cellB rR (Ext.pres eB), RdS.cells rR, RdS.len hr1 sl22, RdS.idx hr1 sl22, R1.intB hr1 (Ext.pres eB), RdS.cells hr1, RdS.len hr6 sl22, RdS.idx hr6 sl22, R1.intB hr6 (Ext.pres eB), RdS.cells hr6, RdS.len (OS.rd ho10_3) sl26, RdS.idx (OS.rd ho10_3) sl26, RdS.cellN (OS.rd ho10_3), RdS.cells (OS.rd ho10_3), wrap_id, Int.toNat_zero]
    refine hK _ _ ?_
    clear hK K
    refine den_blk ?_
    refine den_region TTok ?_
    intro K hK
    simp -implicitDefEqProofs (disch := first | decide | assumption | omega) only [go_sem, RdS.len rR sl26, RdS.idx rR sl26, RdS.cellB rR (Ext.pres eB), RdS.cells rR, RdS.len hr1 sl22, RdS.idx hr1 sl22, R1.intB hr1 (Ext.pres eB), RdS.cells hr1, RdS.len hr6 sl22, RdS.idx hr6 sl22, R1.intB hr6 (Ext.pres eB), RdS.cells hr6, RdS.len (OS.rd ho10_3) sl26, RdS.idx (OS.rd ho10_3) sl26, RdS.cellN (OS.rd ho10_3), RdS.cells (OS.rd ho10_3), wrap_id, Int.toNat_zero]
    refine hK _ _ ?_
    clear hK K
    refine den_stop ?_
    rw [longP_step (by omega)] at ho10_3
    exact ⟨(k + 1, v10_3, fp10_3), by simp [HasL, puts_at], ⟨by first | omega | (dsimp only; omega), ho10_3, hfho10_3, sb7, cL3⟩, by first | omega | (dsimp only; omega)⟩
   ·try simp only [decide_eq_true_eq, decide_eq_false_iff_not, beq_iff_eq, beq_eq_false_iff_ne, bne_iff_ne, ne_eq, Bool.not_eq_true', Bool.not_eq_false', Bool.and_eq_true, Bool.or_eq_true, bne_eq_false_iff_eq] at c1
    refine den_exit ?_
    refine denX_code ?_
    refine denX_stop ?_
    refine denX_hit ?_
    refine den_seq ?_
    refine den_region TTok ?_
    intro K hK
    simp -implicitDefEqProofs (disch := first | decide | assumption | omega) only [go_sem, RdS.len rR sl26, RdS.idx rR sl26, RdS.cellB rR (Ext.pres eB), RdS.cells rR, RdS.len hr1 sl22, RdS.idx hr1 sl22, R1.intB hr1 (Ext.pres eB), RdS.cells hr1, RdS.len (OS.rd hL) sl26, RdS.idx (OS.rd hL) sl26, RdS.cellN (OS.rd hL), RdS.cells (OS.rd hL), wrap_id, Int.toNat_zero]
    refine op_bs0 sz26 O1 ?_
    intro v12_0 h12_0 ho12_0 e12_0
    replace hL := OS.ext hL e12_0
    have := Ext.size e12_0
    replace eB := Ext.trans eB e12_0
    have hfho12_0 : Fresh h5.size [h5.size] := Fresh.one _
    have hlho12_0 := OS.lt ho12_0
    try simp -implicitDefEqProofs (disch := first | decide | assumption | omega) only [go_sem, RdS.len rR sl26, RdS.idx rR sl26, RdS.cellB rR (Ext.pres eB), RdS.cells rR, RdS.len hr1 sl22, RdS.idx hr1 sl22, R1.intB hr1 (Ext.pres eB), RdS.cells hr1, RdS.len (OS.rd hL) sl26, RdS.idx (OS.rd hL) sl26, RdS.cellN (OS.rd hL), RdS.cells (OS.rd hL), RdS.len (OS.rd ho12_0) sl26, RdS.idx (OS.rd ho12_0) sl26, RdS.cellN (OS.rd ho12_0), RdS.cells (OS.rd ho12_0), wrap_id, Int.toNat_zero]
    refine hK _ _ ?_
    clear hK K
    refine den_seq ?_
    refine den_seq ?_
    rw [show ((List.range k).map fun i => R.getD i default ++ unitP R.length i) = longP R by rw [longP, show R.length = k by omega]] at hL
    have hredT := hLT
    refine den_region TTok ?_
    intro K hK
    simp -implicitDefEqProofs (disch := first | decide | assumption | omega) only [go_sem, RdS.len rR sl26, RdS.idx rR sl26, RdS.cellB rR (Ext.pres eB), RdS.cells rR, RdS.len hr1 sl22, RdS.idx hr1 sl22, R1.intB hr1 (Ext.pres eB), RdS.cells hr1, RdS.len (OS.rd hL) sl26, RdS.idx (OS.rd hL) sl26, RdS.cellN (OS.rd hL), RdS.cells (OS.rd hL), RdS.len (OS.rd ho12_0) sl26, RdS.idx (OS.rd ho12_0) sl26, RdS.cellN (OS.rd ho12_0), RdS.cells (OS.rd ho12_0), wrap_id, Int.toNat_zero]
    try simp -implicitDefEqProofs (disch := first | decide | assumption | omega) only [go_sem, RdS.len rR sl26, RdS.idx rR sl26, RdS.cellB rR (Ext.pres eB), RdS.cells rR, RdS.len hr1 sl22, RdS.idx hr1 sl22, R1.intB hr1 (Ext.pres eB), RdS.cells hr1, RdS.len (OS.rd hL) sl26, RdS.idx (OS.rd hL) sl26, RdS.cellN (OS.rd hL), RdS.cells (OS.rd hL), RdS.len (OS.rd ho12_0) sl26, RdS.idx (OS.rd ho12_0) sl26, RdS.cellN (OS.rd ho12_0), RdS.cells (OS.rd ho12_0), wrap_id, Int.toNat_zero]
    refine CallA.mono (iReduce_ok _ p (longP R) _ (OS.rd hL) hP hredT (by omega) (by omega)) ?_
    intro vw13_2_0 h13_2
    rintro ⟨zvw13_2_0, fw13_2_0, rfl, how13_2_0, hfw13_2_0, e13_2⟩
    replace hL := OS.ext hL e13_2
    replace ho12_0 := OS.ext ho12_0 e13_2
    have := Ext.size e13_2
    replace eB := Ext.trans eB e13_2
    have hlhow13_2_0 := OS.lt how13_2_0
    try simp -implicitDefEqProofs (disch := first | decide | assumption | omega) only [go_sem, RdS.len rR sl26, RdS.idx rR sl26, RdS.cellB rR (Ext.pres eB), RdS.cells rR, RdS.len hr1 sl22, RdS.idx hr1 sl22, R1.intB hr1 (Ext.pres eB), RdS.cells hr1, RdS.len (OS.rd hL) sl26, RdS.idx (OS.rd hL) sl26, RdS.cellN (OS.rd hL), RdS.cells (OS.rd hL), RdS.len (OS.rd ho12_0) sl26, RdS.idx (OS.rd ho12_0) sl26, RdS.cellN (OS.rd ho12_0), RdS.cells (OS.rd ho12_0), RdS.len (OS.rd how13_2_0) sl26, RdS.idx (OS.rd how13_2_0) sl26, RdS.cellN (OS.rd how13_2_0), RdS.cells (OS.rd how13_2_0), wrap_id, Int.toNat_zero]
    refine hK _ _ ?_
    clear hK K
    refine den_block ?_
    have hkl := hlhow13_2_0
    have hka := (apart_gt hfw13_2_0 hlho12_0 (by omega))
    refine den_sel [11, 49, 0, 6, 47, 48] ?_
    intro env_8
    simp only [go_sem]
    refine den_loopS (σ := Nat × Value × List Nat) (fun st_ => [(11, st_.2.1), (49, .int .i64 (st_.1 : Int))]) (fun st_ H => (st_.1 ≤ (ech p (longP R)).length) ∧ (O2S h13_2 fw13_2_0 H st_.2.1 ((((ech p (longP R)).take st_.1).filter (fun r : List Int => decide ((w : Int) ≤ leadP r))).map (fun r : List Int => r.drop w)) st_.2.2) ∧ (Fresh (h5.size) st_.2.2) ∧ (Sub [h5.size] h13_2.size st_.2.2) ∧ (Chg [h5.size] h13_2 H)) (fun st_ => (ech p (longP R)).length - st_.1) (0, v12_0, [h5.size]) ?_ ?_
    ·exact ⟨by simp, by simpa using O2S.nil ho12_0, hfho12_0, Sub.refl, Chg.refl _ _⟩
    ·rintro ⟨k, vhN, fphN⟩ h11 ee10 ⟨hk, hN, hfhN, sbhN, cL9⟩
     dsimp only at hk hN hfhN sbhN cL9
     replace hL := OS.chg hL cL9 (apart_lt hlhL hfho12_0 (by omega))
     replace how13_2_0 := OS.chg how13_2_0 cL9 (apart_gt hfw13_2_0 hlho12_0 (by omega))
     have := cL9.size
     replace eB := Ext.then eB cL9 (ge_of hfho12_0 (by omega))
     have ap12 : Apart fw13_2_0 fphN := Apart.sub_ hlhow13_2_0 (by omega) (apart_gt hfw13_2_0 hlho12_0 (by omega)) sbhN
     have hlhN := OS.lt hN
     simp only [List.cons_append, List.nil_append]
     have hol := fm_len (f := (fun r : List Int => decide ((w : Int) ≤ leadP r))) (g := (fun r : List Int => r.drop w)) (xs := (ech p (longP R))) hk
     refine den_seq ?_
     refine den_region TTok ?_
     intro K hK
     simp -implicitDefEqProofs (disch := first | decide | assumption | omega) only [go_sem, RdS.len rR sl26, RdS.idx rR sl26, RdS.cellB rR (Ext.pres eB), RdS.cells rR, RdS.len hr1 sl22, RdS.idx hr1 sl22, R1.intB hr1 (Ext.pres eB), RdS.cells hr1, RdS.len (OS.rd how13_2_0) sl26, RdS.idx (OS.rd how13_2_0) sl26, RdS.cellN (OS.rd how13_2_0), RdS.cells (OS.rd how13_2_0), wrap_id, Int.toNat_zero]
     refine hK _ _ ?_
     clear hK K
     refine den_seq ?_
     refine den_cond rfl (fun c2 => ?_) (fun c2 => ?_)
     ·try simp only [decide_eq_true_eq, decide_eq_false_iff_not, beq_iff_eq, beq_eq_false_iff_ne, bne_iff_ne, ne_eq, Bool.not_eq_true', Bool.not_eq_false', Bool.and_eq_true, Bool.or_eq_true, bne_eq_false_iff_eq] at c2
      refine den_skip ?_
      refine den_seq ?_
      refine den_block ?_
      refine den_seq ?_
      refine den_region TTok ?_
      intro K hK
      have hr13 := RdS.rowN (OS.rd how13_2_0) k (by omega)
      have hlhr13 := RdS.le hr13
      have xr14 := Ext.refl h11
      simp -implicitDefEqProofs (disch := first | decide | assumption | omega) only [go_sem, ld22, RdS.len rR sl26, RdS.idx rR sl26, RdS.cellB rR (Ext.pres eB), RdS.cells rR, RdS.len hr1 sl22, RdS.idx hr1 sl22, R1.intB hr1 (Ext.pres eB), RdS.cells hr1, RdS.len (OS.rd how13_2_0) sl26, RdS.idx (OS.rd how13_2_0) sl26, RdS.cellN (OS.rd how13_2_0), RdS.cells (OS.rd how13_2_0), RdS.len hr13 sl22, RdS.idx hr13 sl22, R1.intB hr13 (Ext.pres xr14), RdS.cells hr13, wrap_id, Int.toNat_zero]
      refine hK _ _ ?_
      clear hK K
      refine den_seq ?_
      obtain ⟨vs, hes, hRs17⟩ := RdS.dropV (k := .i64) (RdS.rowN (OS.rd how13_2_0) k (by omega)) sl22 (lo := (w : Int)) (by omega) (by have := hrE.len k (by omega); omega)
      have hES := fun H => ES.mk (H := H) how13_2_0 hfw13_2_0.nodup (h0 := h13_2) (fun b hb => cL9.block b (hkl b hb) (hka b hb)) (show k < (ech p (longP R)).length by omega) (k := .i64) (lo := (w : Int)) (by omega) (by have := hrE.len k (by omega); omega) hes
      simp only [Int.toNat_natCast] at hES
      obtain ⟨vz, hez, hRz⟩ := RdS.takeV (k := .i64) (RdS.rowN (OS.rd how13_2_0) k (by omega)) sl22 (hi := (w : Int)) (by omega) (by have := hrE.len k (by omega); omega)
      rw [Int.toNat_natCast] at hRz
      have hzt := zero_take (w := w) hrE (i := k) (by omega)
      refine den_region TTok ?_
      intro K hK
      simp -implicitDefEqProofs (disch := first | decide | assumption | omega) only [go_sem, RdS.len rR sl26, RdS.idx rR sl26, RdS.cellB rR (Ext.pres eB), RdS.cells rR, RdS.len hr1 sl22, RdS.idx hr1 sl22, R1.intB hr1 (Ext.pres eB), RdS.cells hr1, RdS.len (OS.rd how13_2_0) sl26, RdS.idx (OS.rd how13_2_0) sl26, RdS.cellN (OS.rd how13_2_0), RdS.cells (OS.rd how13_2_0), RdS.len hr13 sl22, RdS.idx hr13 sl22, R1.intB hr13 (Ext.pres xr14), RdS.cells hr13, wrap_id, Int.toNat_zero, hez, Option.map_some, Option.map_none]
      try simp -implicitDefEqProofs (disch := first | decide | assumption | omega) only [go_sem, RdS.len rR sl26, RdS.idx rR sl26, RdS.cellB rR (Ext.pres eB), RdS.cells rR, RdS.len hr1 sl22, RdS.idx hr1 sl22, R1.intB hr1 (Ext.pres eB), RdS.cells hr1, RdS.len (OS.rd how13_2_0) sl26, RdS.idx (OS.rd how13_2_0) sl26, RdS.cellN (OS.rd how13_2_0), RdS.cells (OS.rd how13_2_0), RdS.len hr13 sl22, RdS.idx hr13 sl22, R1.intB hr13 (Ext.pres xr14), RdS.cells hr13, wrap_id, Int.toNat_zero, hez, Option.map_some, Option.map_none]
      refine CallA.mono (isZero_ok _ _ _ hRz) ?_
      intro v_ h16_3
      rintro ⟨rfl, e16_3⟩
      replace how13_2_0 := OS.ext how13_2_0 e16_3
      replace hN := OS.ext hN e16_3
      have := Ext.size e16_3
      replace eB := Ext.trans eB e16_3
      replace xr14 := Ext.trans xr14 e16_3
      replace cL9 := Chg.stepE cL9 e16_3
      try simp -implicitDefEqProofs (disch := first | decide | assumption | omega) only [go_sem, RdS.len rR sl26, RdS.idx rR sl26, RdS.cellB rR (Ext.pres eB), RdS.cells rR, RdS.len hr1 sl22, RdS.idx hr1 sl22, R1.intB hr1 (Ext.pres eB), RdS.cells hr1, RdS.len (OS.rd how13_2_0) sl26, RdS.idx (OS.rd how13_2_0) sl26, RdS.cellN (OS.rd how13_2_0), RdS.cells (OS.rd how13_2_0), RdS.len hr13 sl22, RdS.idx hr13 sl22, R1.intB hr13 (Ext.pres xr14), RdS.cells hr13, wrap_id, Int.toNat_zero, hez, Option.map_some, Option.map_none]
      refine hK _ _ ?_
      clear hK K
      refine den_cond rfl (fun c3 => ?_) (fun c3 => ?_)
      ·try simp only [decide_eq_true_eq, decide_eq_false_iff_not, beq_iff_eq, beq_eq_false_iff_ne, bne_iff_ne, ne_eq, Bool.not_eq_true', Bool.not_eq_false', Bool.and_eq_true, Bool.or_eq_true, bne_eq_false_iff_eq] at c3
       refine den_region TTok ?_
       intro K hK
       simp -implicitDefEqProofs (disch := first | decide | assumption | omega) only [go_sem, RdS.len rR sl26, RdS.idx rR sl26, RdS.cellB rR (Ext.pres eB), RdS.cells rR, RdS.len hr1 sl22, RdS.idx hr1 sl22, R1.intB hr1 (Ext.pres eB), RdS.cells hr1, RdS.len (OS.rd how13_2_0) sl26, RdS.idx (OS.rd how13_2_0) sl26, RdS.cellN (OS.rd how13_2_0), RdS.cells (OS.rd how13_2_0), RdS.len hr13 sl22, RdS.idx hr13 sl22, R1.intB hr13 (Ext.pres xr14), RdS.cells hr13, wrap_id, Int.toNat_zero, hes, Option.map_some, Option.map_none]
       refine op_bs1 sz26 rfl (RdS.cells hRs17) ?_
       try simp -implicitDefEqProofs (disch := first | decide | assumption | omega) only [go_sem, RdS.len rR sl26, RdS.idx rR sl26, RdS.cellB rR (Ext.pres eB), RdS.cells rR, RdS.len hr1 sl22, RdS.idx hr1 sl22, R1.intB hr1 (Ext.pres eB), RdS.cells hr1, RdS.len (OS.rd how13_2_0) sl26, RdS.idx (OS.rd how13_2_0) sl26, RdS.cellN (OS.rd how13_2_0), RdS.cells (OS.rd how13_2_0), RdS.len hr13 sl22, RdS.idx hr13 sl22, R1.intB hr13 (Ext.pres xr14), RdS.cells hr13, wrap_id, Int.toNat_zero, hes, Option.map_some, Option.map_none]
       refine op_append1 sz26 hN hfhN.nodup (hES _) List.nodup_nil (Apart.nil _) (by first | omega | (simp; omega)) rfl rfl ?_
       intro v17_5 h17_5 fp17_5 ho17_5 hn17_5 hs17_5 c17_5
       have hsz17_5 := c17_5.size
       have hfho17_5 : Fresh h5.size fp17_5 := Fresh.appd hfhN (Fresh.nil h16_3.size) (by omega) (by omega) hn17_5 hs17_5
       have sb15 : Sub [h5.size] h13_2.size fp17_5 := Sub.grow sbhN Sub.nil (by omega) hs17_5
       replace how13_2_0 := OS.chg how13_2_0 c17_5 ap12
       have := c17_5.size
       replace eB := Ext.then eB c17_5 (ge_of hfhN (by omega))
       replace cL9 := Chg.step cL9 c17_5 sbhN
       have ap16 : Apart fw13_2_0 fp17_5 := Apart.grow hlhow13_2_0 (by omega) ap12 (Apart.nil _) hs17_5
       have hlho17_5 := OS.lt ho17_5
       try simp -implicitDefEqProofs (disch := first | decide | assumption | omega) only [go_sem, RdS.len rR sl26, RdS.idx rR sl26, RdS.cellB rR (Ext.pres eB), RdS.cells rR, RdS.len hr1 sl22, RdS.idx hr1 sl22, R1.intB hr1 (Ext.pres eB), RdS.cells hr1, RdS.len (OS.rd how13_2_0) sl26, RdS.idx (OS.rd how13_2_0) sl26, RdS.cellN (OS.rd how13_2_0), RdS.cells (OS.rd how13_2_0), wrap_id, Int.toNat_zero, hes, Option.map_some, Option.map_none]
       refine hK _ _ ?_
       clear hK K
       refine den_blk ?_
       refine den_region TTok ?_
       intro K hK
       simp -implicitDefEqProofs (disch := first | decide | assumption | omega) only [go_sem, RdS.len rR sl26, RdS.idx rR sl26, RdS.cellB rR (Ext.pres eB), RdS.cells rR, RdS.len hr1 sl22, RdS.idx hr1 sl22, R1.intB hr1 (Ext.pres eB), RdS.cells hr1, RdS.len (OS.rd how13_2_0) sl26, RdS.idx (OS.rd how13_2_0) sl26, RdS.cellN (OS.rd how13_2_0), RdS.cells (OS.rd how13_2_0), wrap_id, Int.toNat_zero]
       refine hK _ _ ?_
       clear hK K
       refine den_stop ?_
       first | rw [fm_yes (f := (fun r : List Int => decide ((w : Int) ≤ leadP r))) (g := (fun r : List Int => r.drop w)) (by omega) (hzt.symm.trans (by simpa using c3))] at ho17_5 | rw [fm_no (f := (fun r : List Int => decide ((w : Int) ≤ leadP r))) (g := (fun r : List Int => r.drop w)) (d := default) (by omega) (hzt.symm.trans (by simpa using c3))] at ho17_5
       exact ⟨(k + 1, v17_5, fp17_5), by simp [HasL, puts_at], ⟨by first | omega | (dsimp only; omega), ho17_5, hfho17_5, sb15, cL9⟩, by first | omega | (dsimp only; omega)⟩
      ·try simp only [decide_eq_true_eq, decide_eq_false_iff_not, beq_iff_eq, beq_eq_false_iff_ne, bne_iff_ne, ne_eq, Bool.not_eq_true', Bool.not_eq_false', Bool.and_eq_true, Bool.or_eq_true, bne_eq_false_iff_eq] at c3
       refine den_skip ?_
       refine den_blk ?_
       refine den_region TTok ?_
       intro K hK
       simp -implicitDefEqProofs (disch := first | decide | assumption | omega) only [go_sem, RdS.len rR sl26, RdS.idx rR sl26, RdS.cellB rR (Ext.pres eB), RdS.cells rR, RdS.len hr1 sl22, RdS.idx hr1 sl22, R1.intB hr1 (Ext.pres eB), RdS.cells hr1, RdS.len (OS.rd how13_2_0) sl26, RdS.idx (OS.rd how13_2_0) sl26, RdS.cellN (OS.rd how13_2_0), RdS.cells (OS.rd how13_2_0), RdS.len hr13 sl22, RdS.idx hr13 sl22, R1.intB hr13 (Ext.pres xr14), RdS.cells hr13, wrap_id, Int.toNat_zero]
       refine hK _ _ ?_
       clear hK K
       refine den_stop ?_
       first | rw [fm_yes (f := (fun r : List Int => decide ((w : Int) ≤ leadP r))) (g := (fun r : List Int => r.drop w)) (by omega) (hzt.symm.trans (by simpa using c3))] at hN | rw [fm_no (f := (fun r : List Int => decide ((w : Int) ≤ leadP r))) (g := (fun r : List Int => r.drop w)) (d := default) (by omega) (hzt.symm.trans (by simpa using c3))] at hN
       exact ⟨(k + 1, vhN, fphN), by simp [HasL, puts_at], ⟨by first | omega | (dsimp only; omega), hN, hfhN, sbhN, cL9⟩, by first | omega | (dsimp only; omega)⟩
     ·try simp only [decide_eq_true_eq, decide_eq_false_iff_not, beq_iff_eq, beq_eq_false_iff_ne, bne_iff_ne, ne_eq, Bool.not_eq_true', Bool.not_eq_false', Bool.and_eq_true, Bool.or_eq_true, bne_eq_false_iff_eq] at c2
      refine den_exit ?_
      refine denX_code ?_
      refine denX_stop ?_
      refine denX_hit ?_
      refine den_seq ?_
      rw [show ((((ech p (longP R)).take k).filter (fun r : List Int => decide ((w : Int) ≤ leadP r))).map (fun r : List Int => r.drop w)) = kerP p w R by rw [kerP, List.take_of_length_le (by omega)]] at hN
      obtain ⟨lk, hkr⟩ := kerP_rr hP hT
      have hkl2 : (kerP p w R).length ≤ 1000 := by have := hkr.le_w; omega
      refine den_region TTok ?_
      intro K hK
      simp -implicitDefEqProofs (disch := first | decide | assumption | omega) only [go_sem, RdS.len rR sl26, RdS.idx rR sl26, RdS.cellB rR (Ext.pres eB), RdS.cells rR, RdS.len hr1 sl22, RdS.idx hr1 sl22, R1.intB hr1 (Ext.pres eB), RdS.cells hr1, wrap_id, Int.toNat_zero]
      try simp -implicitDefEqProofs (disch := first | decide | assumption | omega) only [go_sem, RdS.len rR sl26, RdS.idx rR sl26, RdS.cellB rR (Ext.pres eB), RdS.cells rR, RdS.len hr1 sl22, RdS.idx hr1 sl22, R1.intB hr1 (Ext.pres eB), RdS.cells hr1, wrap_id, Int.toNat_zero]
      refine CallA.mono (iReduce_ok _ p (kerP p w R) _ (O2S.rd hN (fun b hb => cL9.block b (hkl b hb) (hka b hb))) hP (kerP_tbl hP hT) (by omega) hkl2) ?_
      intro vw19_2 h19_2
      rintro ⟨zw19_2, fw19_2, rfl, how19_2, hfw19_2, e19_2⟩
      replace hN := OS.ext hN e19_2
      have := Ext.size e19_2
      replace eB := Ext.trans eB e19_2
      have hlhow19_2 := OS.lt how19_2
      try simp -implicitDefEqProofs (disch := first | decide | assumption | omega) only [go_sem, RdS.len rR sl26, RdS.idx rR sl26, RdS.cellB rR (Ext.pres eB), RdS.cells rR, RdS.len hr1 sl22, RdS.idx hr1 sl22, R1.intB hr1 (Ext.pres eB), RdS.cells hr1, RdS.len (OS.rd how19_2) sl26, RdS.idx (OS.rd how19_2) sl26, RdS.cellN (OS.rd how19_2), RdS.cells (OS.rd how19_2), wrap_id, Int.toNat_zero]
      refine hK _ _ ?_
      clear hK K
      refine den_ret ?_
      simp (disch := decide) only [resP_1, puts_same, puts_ne]
      have hec : ech p (kerP p w R) = kerQ p R := by rw [kerQ_w hT hR0]; exact hkr.self hP
      rw [hec] at how19_2
      exact ⟨_, _, rfl, how19_2, hfw19_2.mono (by omega), eB⟩
end Go.Proofs.Ytjjjgllbocgkbaa
