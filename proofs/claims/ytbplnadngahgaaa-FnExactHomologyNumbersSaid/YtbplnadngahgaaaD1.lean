/-
  Walks: reduced lists of rows, plain.
  Conditions: each theorem's own.
-/
import Derived.Test.YtbplnadngahgaaaC5
import Derived.Test.YtbplnadngahgaaaA2
set_option linter.unusedVariables false
set_option linter.unusedSimpArgs false
namespace Go.Proofs.Ytbplnadngahgaaa
open Go
theorem sclR_len (p k : Int) (r : List Int) : (sclRow p k r).length = r.length := by simp [sclRow]
theorem sclR_get (p k : Int) {r : List Int} {c : Nat} (h : c < r.length) : (sclRow p k r).getD c 0 = (k * r.getD c 0) % p := getD_map_range (α := Int) (fun q : Nat => (k * r.getD q 0) % p) h
/-- Congruence modulo p. -/
def Cg (p a b : Int) : Prop := a % p = b % p
theorem Cg.refl {p : Int} (a : Int) : Cg p a a := rfl
theorem Cg.symm {p a b : Int} (h : Cg p a b) : Cg p b a := Eq.symm h
theorem Cg.trans {p a b c : Int} (h : Cg p a b) (k : Cg p b c) : Cg p a c := Eq.trans h k
theorem Cg.add {p a b c d : Int} (h : Cg p a b) (k : Cg p c d) : Cg p (a + c) (b + d) := by
  unfold Cg at *; rw [Int.add_emod, h, k, ← Int.add_emod]
theorem Cg.mul {p a b c d : Int} (h : Cg p a b) (k : Cg p c d) : Cg p (a * c) (b * d) := by
  unfold Cg at *; rw [Int.mul_emod, h, k, ← Int.mul_emod]
theorem Cg.neg {p a b : Int} (h : Cg p a b) : Cg p (-a) (-b) := by
  have := Cg.mul (Cg.refl (p := p) (-1)) h
  rwa [Int.neg_one_mul, Int.neg_one_mul] at this
theorem Cg.sub {p a b c d : Int} (h : Cg p a b) (k : Cg p c d) : Cg p (a - c) (b - d) := by
  rw [Int.sub_eq_add_neg, Int.sub_eq_add_neg]; exact h.add k.neg
theorem Cg.mod {p : Int} (a : Int) : Cg p (a % p) a := Int.emod_emod a p
theorem Cg.eq {p a b : Int} (h : Cg p a b) (ha : 0 ≤ a ∧ a < p) (hb : 0 ≤ b ∧ b < p) : a = b := by
  unfold Cg at h
  rwa [Int.emod_eq_of_lt ha.1 ha.2, Int.emod_eq_of_lt hb.1 hb.2] at h
theorem Cg.of_eq {p a b : Int} (h : a = b) : Cg p a b := by rw [h]; exact Cg.refl _
/-- A sum. -/
def sm : Nat → (Nat → Int) → Int
  | 0, _ => 0
  | n + 1, f => sm n f + f n
theorem sm_cg {p : Int} : ∀ {n : Nat} {f g : Nat → Int}, (∀ i, i < n → Cg p (f i) (g i)) → Cg p (sm n f) (sm n g)
  | 0, _, _, _ => Cg.refl _
  | n + 1, f, g, h => (sm_cg (n := n) fun i hi => h i (by omega)).add (h n (by omega))
theorem sm_eq : ∀ {n : Nat} {f g : Nat → Int}, (∀ i, i < n → f i = g i) → sm n f = sm n g
  | 0, _, _, _ => rfl
  | n + 1, f, g, h => by rw [sm, sm, sm_eq (n := n) fun i hi => h i (by omega), h n (by omega)]
theorem sm_zero : ∀ {n : Nat} {f : Nat → Int}, (∀ i, i < n → f i = 0) → sm n f = 0
  | 0, _, _ => rfl
  | n + 1, f, h => by rw [sm, sm_zero (n := n) fun i hi => h i (by omega), h n (by omega)]; rfl
theorem sm_add : ∀ (n : Nat) (f g : Nat → Int), sm n (fun i => f i + g i) = sm n f + sm n g
  | 0, _, _ => rfl
  | n + 1, f, g => by simp only [sm]; rw [sm_add n f g]; omega
theorem sm_mul : ∀ (n : Nat) (k : Int) (f : Nat → Int), sm n (fun i => k * f i) = k * sm n f
  | 0, _, _ => by simp [sm]
  | n + 1, k, f => by simp only [sm]; rw [sm_mul n k f, Int.mul_add]
theorem sm_one : ∀ {n k : Nat} {f : Nat → Int}, k < n → (∀ i, i < n → i ≠ k → f i = 0) → sm n f = f k
  | n + 1, k, f, hk, h => by
    rw [sm]
    by_cases e : k = n
    · subst e; rw [sm_zero fun i hi => h i (by omega) (by omega), Int.zero_add]
    · rw [sm_one (n := n) (k := k) (by omega) fun i hi he => h i (by omega) he, h n (by omega) (fun e' => e e'.symm), Int.add_zero]
theorem sm_swap : ∀ (n m : Nat) (f : Nat → Nat → Int), sm n (fun i => sm m (f i)) = sm m (fun j => sm n fun i => f i j)
  | 0, m, f => (sm_zero fun _ _ => rfl).symm
  | n + 1, m, f => by simp only [sm]; rw [sm_swap n m f, ← sm_add]
abbrev g2 (L : List (List Int)) (i j : Nat) : Int := (L.getD i default).getD j 0
/-- v is a sum of multiples of the rows of L, modulo p. -/
def Sp (p : Int) (L : List (List Int)) (v : Nat → Int) : Prop := ∃ c : Nat → Int, ∀ j, Cg p (v j) (sm L.length fun i => c i * g2 L i j)
theorem Sp.row {p : Int} {L : List (List Int)} {i : Nat} (hi : i < L.length) : Sp p L (g2 L i) :=
  ⟨fun k => if k = i then 1 else 0, fun j => by
    rw [sm_one (k := i) hi (fun k _ hk => by simp [hk])]
    simp only [if_true, Int.one_mul]; exact Cg.refl _⟩
theorem Sp.zero {p : Int} {L : List (List Int)} : Sp p L fun _ => 0 := ⟨fun _ => 0, fun j => by rw [sm_zero fun i _ => Int.zero_mul _]; exact Cg.refl _⟩
theorem Sp.add {p : Int} {L : List (List Int)} {v w : Nat → Int} : Sp p L v → Sp p L w → Sp p L fun j => v j + w j
  | ⟨c, hc⟩, ⟨d, hd⟩ => ⟨fun i => c i + d i, fun j => by
    rw [show (fun i => (c i + d i) * g2 L i j) = fun i => c i * g2 L i j + d i * g2 L i j from funext fun i => Int.add_mul _ _ _, sm_add]
    exact (hc j).add (hd j)⟩
theorem Sp.mul {p : Int} {L : List (List Int)} {v : Nat → Int} (k : Int) : Sp p L v → Sp p L fun j => k * v j
  | ⟨c, hc⟩ => ⟨fun i => k * c i, fun j => by
    rw [show (fun i => k * c i * g2 L i j) = fun i => k * (c i * g2 L i j) from funext fun i => Int.mul_assoc _ _ _, sm_mul]
    exact (Cg.refl k).mul (hc j)⟩
theorem Sp.cg {p : Int} {L : List (List Int)} {v w : Nat → Int} (h : ∀ j, Cg p (w j) (v j)) : Sp p L v → Sp p L w
  | ⟨c, hc⟩ => ⟨c, fun j => (h j).trans (hc j)⟩
theorem Sp.sub {p : Int} {L : List (List Int)} {v w : Nat → Int} (k : Int) (h1 : Sp p L v) (h2 : Sp p L w) : Sp p L fun j => v j - k * w j :=
  (h1.add (h2.mul (-k))).cg fun j => Cg.of_eq (by rw [Int.neg_mul]; omega)
/-- All rows of A are in the span of B. -/
def Le (p : Int) (A B : List (List Int)) : Prop := ∀ i, i < A.length → Sp p B (g2 A i)
theorem Sp.sm {p : Int} {B : List (List Int)} {v : Nat → Nat → Int} : ∀ {n : Nat} (_ : ∀ i, i < n → Sp p B (v i)) (c : Nat → Int), Sp p B fun j => sm n fun i => c i * v i j
  | 0, _, _ => Sp.zero
  | n + 1, h, c => (Sp.sm (n := n) (fun i hi => h i (by omega)) c).add ((h n (by omega)).mul (c n))
theorem Sp.le {p : Int} {A B : List (List Int)} {v : Nat → Int} (h : Le p A B) : Sp p A v → Sp p B v
  | ⟨c, hc⟩ => (Sp.sm h c).cg hc
theorem Le.refl {p : Int} {A : List (List Int)} : Le p A A := fun _ hi => Sp.row hi
theorem Le.trans {p : Int} {A B C : List (List Int)} (h : Le p A B) (k : Le p B C) : Le p A C := fun i hi => (h i hi).le k
def Eqv (p : Int) (A B : List (List Int)) : Prop := Le p A B ∧ Le p B A
theorem Eqv.refl {p : Int} {A : List (List Int)} : Eqv p A A := ⟨Le.refl, Le.refl⟩
theorem Eqv.symm {p : Int} {A B : List (List Int)} (h : Eqv p A B) : Eqv p B A := ⟨h.2, h.1⟩
theorem Eqv.trans {p : Int} {A B C : List (List Int)} (h : Eqv p A B) (k : Eqv p B C) : Eqv p A C := ⟨h.1.trans k.1, k.2.trans h.2⟩
/-- L is reduced: its rows begin with a 1 at the places l, from left to right, and have 0 at the others' places. -/
structure Rr (p : Int) (w : Nat) (L : List (List Int)) (l : Nat → Nat) : Prop where
  len : ∀ i, i < L.length → (L.getD i default).length = w
  bnd : ∀ i, i < L.length → Bnd p (L.getD i default)
  lt : ∀ i, i < L.length → l i < w
  one : ∀ i, i < L.length → g2 L i (l i) = 1
  zb : ∀ i j, i < L.length → j < l i → g2 L i j = 0
  inc : ∀ i k, i < k → k < L.length → l i < l k
  cl : ∀ i k, i < L.length → k < L.length → k ≠ i → g2 L k (l i) = 0
theorem g2_out {L : List (List Int)} {i j : Nat} (h : (L.getD i default).length ≤ j) : g2 L i j = 0 := by
  rw [g2, List.getD_eq_getElem?_getD, List.getElem?_eq_none h]; rfl
theorem Rr.coef {p : Int} {w : Nat} {L : List (List Int)} {l : Nat → Nat} (r : Rr p w L l) {v : Nat → Int} : Sp p L v → ∀ j, Cg p (v j) (sm L.length fun i => v (l i) * g2 L i j)
  | ⟨c, hc⟩ => fun j => (hc j).trans (sm_cg fun i hi => Cg.mul (Cg.symm ((hc (l i)).trans (Cg.of_eq (by
    rw [sm_one (k := i) hi (fun k hk he => by rw [r.cl i k hi hk he, Int.mul_zero]), r.one i hi, Int.mul_one])))) (Cg.refl _))
theorem Rr.lead_mem {p : Int} (hp : 1 < p) {w : Nat} {L : List (List Int)} {l : Nat → Nat} (r : Rr p w L l) {v : Nat → Int} (hv : Sp p L v) {m : Nat} (h1 : ¬ Cg p (v m) 0) (h0 : ∀ j, j < m → Cg p (v j) 0) : ∃ i, i < L.length ∧ l i = m := by
  have hc := r.coef hv
  -- the first place at which v is not 0
  have key : ∀ n, n ≤ L.length → (∀ i, i < n → Cg p (v (l i)) 0) ∨ ∃ i, i < n ∧ ¬ Cg p (v (l i)) 0 ∧ ∀ q, q < i → Cg p (v (l q)) 0 := by
    intro n
    induction n with
    | zero => intro _; exact .inl fun i hi => by omega
    | succ n ih =>
      intro hn
      rcases ih (by omega) with h | ⟨i, hi, h⟩
      · by_cases e : Cg p (v (l n)) 0
        · exact .inl fun i hi => by
            rcases Nat.lt_succ_iff_lt_or_eq.1 hi with h' | h'
            · exact h i h'
            · rw [h']; exact e
        · exact .inr ⟨n, by omega, e, h⟩
      · exact .inr ⟨i, by omega, h⟩
  rcases key L.length (Nat.le_refl _) with h | ⟨i, hi, h2, h3⟩
  · exact absurd ((hc m).trans ((sm_cg fun i hi => ((h i hi).mul (Cg.refl _)).trans (Cg.of_eq (Int.zero_mul _))).trans (Cg.of_eq (sm_zero (n := L.length) (f := fun _ => 0) fun _ _ => rfl)))) h1
  · refine ⟨i, hi, ?_⟩
    have a : ¬ l i < m := fun hlt => h2 (h0 _ hlt)
    have b : ¬ m < l i := fun hlt => h1 ((hc m).trans ((sm_cg (g := fun _ => 0) fun q hq => by
      rcases Nat.lt_or_ge q i with hqi | hqi
      · exact ((h3 q hqi).mul (Cg.refl _)).trans (Cg.of_eq (Int.zero_mul _))
      · have : l i ≤ l q := by
          rcases Nat.lt_or_eq_of_le hqi with h' | h'
          · exact Nat.le_of_lt (r.inc i q h' hq)
          · rw [h']; exact Nat.le_refl _
        rw [r.zb q m hq (by omega), Int.mul_zero]; exact Cg.refl _).trans (Cg.of_eq (sm_zero fun _ _ => rfl))))
    omega
theorem not_cg_one {p : Int} (hp : 1 < p) : ¬ Cg p 1 0 := by
  unfold Cg; rw [Int.emod_eq_of_lt (by omega) hp, Int.zero_emod]; decide
theorem Rr.leads_in {p : Int} (hp : 1 < p) {w : Nat} {L M : List (List Int)} {l m : Nat → Nat} (r : Rr p w L l) {w' : Nat} (s : Rr p w' M m) (h : Le p M L) {k : Nat} (hk : k < M.length) : ∃ i, i < L.length ∧ l i = m k :=
  r.lead_mem hp (h k hk) (by rw [s.one k hk]; exact not_cg_one hp) (fun j hj => by rw [s.zb k j hk hj]; exact Cg.refl _)
/-- Two lists of places, each from left to right, with the same places. -/
theorem places_eq {a b : Nat} {l m : Nat → Nat} (hl : ∀ i k, i < k → k < a → l i < l k) (hm : ∀ i k, i < k → k < b → m i < m k) (h1 : ∀ k, k < a → ∃ i, i < b ∧ m i = l k) (h2 : ∀ k, k < b → ∃ i, i < a ∧ l i = m k) : ∀ k, k < a → k < b ∧ m k = l k := by
  intro k
  induction k using Nat.strongRecOn with
  | _ k ih =>
    intro hk
    obtain ⟨q, hq, eq⟩ := h1 k hk
    have hqk : k ≤ q := Nat.le_of_not_lt fun hlt => by
      have := (ih q hlt (by omega)).2
      have := hl q k hlt hk
      omega
    have hkb : k < b := by omega
    obtain ⟨i, hi, ei⟩ := h2 k hkb
    have hik : k ≤ i := Nat.le_of_not_lt fun hlt => by
      have := (ih i hlt (by omega)).2
      have := hm i k hlt hkb
      omega
    have x : l k ≤ l i := by
      rcases Nat.lt_or_eq_of_le hik with h' | h'
      · exact Nat.le_of_lt (hl k i h' hi)
      · rw [h']; exact Nat.le_refl _
    have y : m k ≤ m q := by
      rcases Nat.lt_or_eq_of_le hqk with h' | h'
      · exact Nat.le_of_lt (hm k q h' hq)
      · rw [h']; exact Nat.le_refl _
    exact ⟨hkb, by omega⟩
theorem rows_ext {A B : List (List Int)} (hl : A.length = B.length) (hr : ∀ i, i < A.length → (A.getD i default).length = (B.getD i default).length) (h : ∀ i j, i < A.length → j < (A.getD i default).length → g2 A i j = g2 B i j) : A = B := by
  apply List.ext_getElem hl
  intro i h1 h2
  have e1 : A.getD i default = A[i] := by rw [List.getD_eq_getElem?_getD, List.getElem?_eq_getElem h1]; rfl
  have e2 : B.getD i default = B[i] := by rw [List.getD_eq_getElem?_getD, List.getElem?_eq_getElem h2]; rfl
  have hri := hr i h1
  have hi := h i
  simp only [g2] at hi
  rw [e1, e2] at hri hi
  apply List.ext_getElem hri
  intro j k1 k2
  have := hi j h1 k1
  rwa [List.getD_eq_getElem?_getD, List.getD_eq_getElem?_getD, List.getElem?_eq_getElem k1, List.getElem?_eq_getElem k2] at this
/-- With the same places, a reduced list in the span of another one is that one. -/
theorem Rr.same {p : Int} {w : Nat} {L M : List (List Int)} {l m : Nat → Nat} (r : Rr p w L l) (s : Rr p w M m) (hlen : L.length = M.length) (hlm : ∀ k, k < L.length → m k = l k) (h : Le p L M) : L = M := by
  refine rows_ext hlen (fun i hi => by rw [r.len i hi, s.len i (by omega)]) (fun i j hi hj => ?_)
  have hc := s.coef (h i hi) j
  have e : sm M.length (fun k => g2 L i (m k) * g2 M k j) = g2 M i j := by
    rw [sm_one (k := i) (by omega) (fun k hk he => by rw [hlm k (by omega), r.cl k i (by omega) hi (Ne.symm he), Int.zero_mul]), hlm i hi, r.one i hi, Int.one_mul]
  rw [e] at hc
  rw [r.len i hi] at hj
  exact hc.eq ((r.bnd i hi).at (by rw [r.len i hi]; exact hj)) ((s.bnd i (by omega)).at (by rw [s.len i (by omega)]; exact hj))
theorem Rr.unique {p : Int} (hp : 1 < p) {w : Nat} {L M : List (List Int)} {l m : Nat → Nat} (r : Rr p w L l) (s : Rr p w M m) (h : Eqv p L M) : L = M ∧ ∀ k, k < L.length → m k = l k := by
  have h1 := places_eq r.inc s.inc (fun k hk => s.leads_in hp r h.1 hk) (fun k hk => r.leads_in hp s h.2 hk)
  have h2 := places_eq s.inc r.inc (fun k hk => r.leads_in hp s h.2 hk) (fun k hk => s.leads_in hp r h.1 hk)
  have hlen : L.length = M.length := by
    apply Nat.le_antisymm
    · apply Nat.le_of_not_lt; intro hlt; exact Nat.lt_irrefl _ (h1 M.length hlt).1
    · apply Nat.le_of_not_lt; intro hlt; exact Nat.lt_irrefl _ (h2 L.length hlt).1
  exact ⟨r.same s hlen (fun k hk => (h1 k hk).2) h.1, fun k hk => (h1 k hk).2⟩
/-- A reduced list in the span of another one has at most so many rows, and the same rows if as many. -/
theorem inc_inj {a : Nat} {l : Nat → Nat} (hl : ∀ i k, i < k → k < a → l i < l k) {i k : Nat} (hi : i < a) (hk : k < a) (e : l i = l k) : i = k := by
  rcases Nat.lt_trichotomy i k with h | h | h
  · have := hl i k h hk; omega
  · exact h
  · have := hl k i h hi; omega
/-- Places from left to right among others: the k-th one is no further left than the k-th of those. -/
theorem places_sub {a b : Nat} {l m : Nat → Nat} (hl : ∀ i k, i < k → k < a → l i < l k) (hm : ∀ i k, i < k → k < b → m i < m k) (h1 : ∀ k, k < a → ∃ i, i < b ∧ m i = l k) : ∀ k, k < a → ∃ i, k ≤ i ∧ i < b ∧ m i = l k := by
  intro k
  induction k with
  | zero => intro hk; obtain ⟨i, hi, e⟩ := h1 0 hk; exact ⟨i, by omega, hi, e⟩
  | succ k ih =>
    intro hk
    obtain ⟨q, hq, hqb, eq⟩ := ih (by omega)
    obtain ⟨i, hi, e⟩ := h1 (k + 1) hk
    refine ⟨i, ?_, hi, e⟩
    have := hl k (k + 1) (by omega) hk
    have : q < i := Nat.lt_of_not_le fun hle => by
      rcases Nat.lt_or_eq_of_le hle with h' | h'
      · have := hm i q h' hqb; omega
      · rw [h'] at e; omega
    omega
theorem Rr.le_len {p : Int} (hp : 1 < p) {w : Nat} {L M : List (List Int)} {l m : Nat → Nat} (r : Rr p w L l) (s : Rr p w M m) (h : Le p L M) : L.length ≤ M.length := by
  apply Nat.le_of_not_lt
  intro hlt
  obtain ⟨i, h1, h2, _⟩ := places_sub r.inc s.inc (fun k hk => s.leads_in hp r h hk) M.length hlt
  omega
theorem Rr.eq_of_len {p : Int} (hp : 1 < p) {w : Nat} {L M : List (List Int)} {l m : Nat → Nat} (r : Rr p w L l) (s : Rr p w M m) (h : Le p L M) (hlen : L.length = M.length) : L = M := by
  have hs := places_sub r.inc s.inc (fun k hk => s.leads_in hp r h hk)
  -- from the right: the last ones are equal
  have key : ∀ n, ∀ k, k < L.length → L.length - k ≤ n → m k = l k := by
    intro n
    induction n with
    | zero => intro k hk h; omega
    | succ n ih =>
      intro k hk hn
      obtain ⟨i, h1, h2, e⟩ := hs k hk
      rcases Nat.lt_or_eq_of_le h1 with h' | h'
      · have a := ih i (by omega) (by omega)
        have b := r.inc k i h' (by omega)
        omega
      · subst h'; exact e
  exact r.same s hlen (fun k hk => key L.length k hk (by omega)) h
/-- The reduced list of the span of some rows. -/
def wd (rows : List (List Int)) : Nat := (rows.getD 0 default).length
def IsEch (p : Int) (rows L : List (List Int)) : Prop := (∃ l, Rr p (wd rows) L l) ∧ Eqv p L rows
noncomputable def ech (p : Int) (rows : List (List Int)) : List (List Int) := Classical.epsilon (IsEch p rows)
theorem Rr.nil {p : Int} {w : Nat} {l : Nat → Nat} : Rr p w [] l := ⟨fun i h => by simp at h, fun i h => by simp at h, fun i h => by simp at h, fun i h => by simp at h, fun i j h => by simp at h, fun i k _ h => by simp at h, fun i k h => by simp at h⟩
theorem ech_eq {p : Int} (hp : 1 < p) {rows L : List (List Int)} {w : Nat} {l : Nat → Nat} (r : Rr p w L l) (h : Eqv p L rows) (hw : rows ≠ [] → wd rows = w) : ech p rows = L := by
  have hL : IsEch p rows L := by
    refine ⟨⟨l, ?_⟩, h⟩
    by_cases e : rows = []
    · subst e
      -- no row of L can be in the span of nothing
      have : L = [] := by
        cases L with
        | nil => rfl
        | cons a t =>
          obtain ⟨c, hc⟩ := h.1 0 (by simp)
          have := hc (l 0)
          rw [r.one 0 (by simp)] at this
          exact absurd this (not_cg_one hp)
      subst this; exact Rr.nil
    · rw [hw e]; exact r
  have he : IsEch p rows (ech p rows) := Classical.epsilon_spec ⟨L, hL⟩
  obtain ⟨⟨l1, r1⟩, e1⟩ := hL
  obtain ⟨⟨l2, r2⟩, e2⟩ := he
  exact (r2.unique hp r1 (e2.trans e1.symm)).1
theorem lessRow_len (p k : Int) (a b : List Int) : (lessRow p k a b).length = a.length := by simp [lessRow]
theorem lessRow_get (p k : Int) {a b : List Int} {c : Nat} (h : c < a.length) : (lessRow p k a b).getD c 0 = (a.getD c 0 - k * b.getD c 0) % p := getD_map_range (α := Int) (fun q : Nat => (a.getD q 0 - k * b.getD q 0) % p) h
theorem getD_out {xs : List Int} {j : Nat} (h : xs.length ≤ j) : xs.getD j 0 = 0 := by rw [List.getD_eq_getElem?_getD, List.getElem?_eq_none h]; rfl
theorem lessRow_cg (p k : Int) {a b : List Int} (hl : b.length ≤ a.length) (j : Nat) : Cg p ((lessRow p k a b).getD j 0) (a.getD j 0 - k * b.getD j 0) := by
  rcases Nat.lt_or_ge j a.length with h | h
  · rw [lessRow_get p k h]; exact Cg.mod _
  · rw [getD_out (by rw [lessRow_len]; exact h), getD_out h, getD_out (by omega), Int.mul_zero]; exact Cg.refl _
theorem sclRow_cg (p k : Int) (r : List Int) (j : Nat) : Cg p ((sclRow p k r).getD j 0) (k * r.getD j 0) := by
  rcases Nat.lt_or_ge j r.length with h | h
  · rw [sclR_get p k h]; exact Cg.mod _
  · rw [getD_out (by rw [sclR_len]; exact h), getD_out h, Int.mul_zero]; exact Cg.refl _
theorem bnd_map {p : Int} (hp : 0 < p) (f : Nat → Int) (n : Nat) : Bnd p ((List.range n).map fun q => f q % p) := fun x hx => by
  obtain ⟨q, _, rfl⟩ := List.mem_map.1 hx
  exact ⟨Int.emod_nonneg _ (by omega), Int.emod_lt_of_pos _ hp⟩
theorem lessRow_bnd {p : Int} (hp : 0 < p) (k : Int) (a b : List Int) : Bnd p (lessRow p k a b) := bnd_map hp _ _
theorem sclRow_bnd {p : Int} (hp : 0 < p) (k : Int) (r : List Int) : Bnd p (sclRow p k r) := bnd_map hp _ _
theorem bnd_zero {p : Int} {v : List Int} (h : Bnd p v) {j : Nat} (e : Cg p (v.getD j 0) 0) : v.getD j 0 = 0 := by
  rcases Nat.lt_or_ge j v.length with hj | hj
  · have := h.at hj
    exact e.eq this ⟨by omega, by omega⟩
  · exact getD_out hj
/-- What is left of a row behind k rows of a list. -/
def restN (p : Int) (L : List (List Int)) (v : List Int) : Nat → List Int
  | 0 => v
  | k + 1 => lessRow p ((restN p L v k).getD (leadP (L.getD k default)).toNat 0) (restN p L v k) (L.getD k default)
def restP (p : Int) (L : List (List Int)) (v : List Int) : List Int := restN p L v L.length
theorem restN_len (p : Int) (L : List (List Int)) (v : List Int) : ∀ k, (restN p L v k).length = v.length
  | 0 => rfl
  | k + 1 => by rw [restN, lessRow_len, restN_len p L v k]
theorem restN_bnd {p : Int} (hp : 0 < p) {L : List (List Int)} {v : List Int} (hv : Bnd p v) : ∀ k, Bnd p (restN p L v k)
  | 0 => hv
  | k + 1 => lessRow_bnd hp _ _ _
theorem restP_len (p : Int) (L : List (List Int)) (v : List Int) : (restP p L v).length = v.length := restN_len p L v _
theorem restP_bnd {p : Int} (hp : 0 < p) {L : List (List Int)} {v : List Int} (hv : Bnd p v) : Bnd p (restP p L v) := restN_bnd hp hv _
section
variable {p : Int} {w : Nat} {L : List (List Int)} {l : Nat → Nat}
theorem Rr.lead (r : Rr p w L l) {i : Nat} (hi : i < L.length) : leadP (L.getD i default) = l i :=
  leadP_at (by rw [r.len i hi]; exact r.lt i hi) (fun j hj => r.zb i j hi hj) (by rw [show (L.getD i default).getD (l i) 0 = 1 from r.one i hi]; decide)
theorem restN_sub (r : Rr p w L l) {v : List Int} (hv : v.length = w) : ∀ k, k ≤ L.length → ∃ s, Sp p L s ∧ ∀ j, Cg p ((restN p L v k).getD j 0) (v.getD j 0 - s j)
  | 0, _ => ⟨fun _ => 0, Sp.zero, fun j => Cg.of_eq (Int.sub_zero _).symm⟩
  | k + 1, hk => by
    obtain ⟨s, hs, h⟩ := restN_sub r hv k (by omega)
    refine ⟨fun j => s j + ((restN p L v k).getD (leadP (L.getD k default)).toNat 0) * g2 L k j, hs.add ((Sp.row (by omega)).mul _), fun j => ?_⟩
    refine (lessRow_cg p _ (by rw [restN_len, hv, r.len k (by omega)]; exact Nat.le_refl _) j).trans (((h j).sub (Cg.refl _)).trans (Cg.of_eq ?_))
    show _ = v.getD j 0 - (s j + _ * (L.getD k default).getD j 0)
    omega
theorem restN_zero (r : Rr p w L l) {v : List Int} (hv : v.length = w) : ∀ k, k ≤ L.length → ∀ i, i < k → Cg p ((restN p L v k).getD (l i) 0) 0
  | k + 1, hk, i, hi => by
    refine (lessRow_cg p _ (by rw [restN_len, hv, r.len k (by omega)]; exact Nat.le_refl _) _).trans ?_
    rcases Nat.lt_succ_iff_lt_or_eq.1 hi with h | h
    · rw [show (L.getD k default).getD (l i) 0 = 0 from r.cl i k (by omega) (by omega) (by omega), Int.mul_zero, Int.sub_zero]
      exact restN_zero r hv k (by omega) i h
    · subst h
      rw [show (L.getD i default).getD (l i) 0 = 1 from r.one i (by omega), Int.mul_one, r.lead (by omega), Int.toNat_natCast, Int.sub_self]
      exact Cg.refl _
theorem restP_sub (r : Rr p w L l) {v : List Int} (hv : v.length = w) : ∃ s, Sp p L s ∧ ∀ j, Cg p ((restP p L v).getD j 0) (v.getD j 0 - s j) := restN_sub r hv _ (Nat.le_refl _)
theorem restP_zero (r : Rr p w L l) (hp : 0 < p) {v : List Int} (hv : v.length = w) (hb : Bnd p v) {i : Nat} (hi : i < L.length) : (restP p L v).getD (l i) 0 = 0 :=
  bnd_zero (restP_bnd hp hb) (restN_zero r hv _ (Nat.le_refl _) i hi)
/-- In the span of a reduced list, nothing but 0 has 0 at all its places. -/
theorem Rr.zero (r : Rr p w L l) {v : Nat → Int} (h : Sp p L v) (hz : ∀ i, i < L.length → Cg p (v (l i)) 0) (j : Nat) : Cg p (v j) 0 :=
  (r.coef h j).trans ((sm_cg (g := fun _ => 0) fun i hi => ((hz i hi).mul (Cg.refl _)).trans (Cg.of_eq (Int.zero_mul _))).trans (Cg.of_eq (sm_zero fun _ _ => rfl)))
theorem restP_iff (r : Rr p w L l) (hp : 0 < p) {v : List Int} (hv : v.length = w) (hb : Bnd p v) : (∀ j, (restP p L v).getD j 0 = 0) ↔ Sp p L fun j => v.getD j 0 := by
  obtain ⟨s, hs, h⟩ := restP_sub r hv
  constructor
  · intro hz
    refine hs.cg fun j => ?_
    have := h j
    rw [hz j] at this
    have := (Cg.add this (Cg.refl (s j))).symm
    rwa [Int.zero_add, show v.getD j 0 - s j + s j = v.getD j 0 by omega] at this
  · intro hsp j
    refine bnd_zero (restP_bnd hp hb) ?_
    have hd : Sp p L fun j => (restP p L v).getD j 0 := (hsp.sub 1 hs).cg fun j => (h j).trans (Cg.of_eq (by rw [Int.one_mul]))
    exact r.zero hd (fun i hi => by rw [restP_zero r hp hv hb hi]; exact Cg.refl _) j
end
-- ---- the inverse of a number
def invP (p x : Int) : Int := ((((List.range 7).find? fun k : Nat => decide (((k : Int) * x) % p = 1)).getD 0 : Nat) : Int)
theorem invP_ok {p x : Int} (hp : isP p = true) (h0 : 0 < x) (h1 : x < p) : (1 ≤ invP p x ∧ invP p x < p) ∧ (invP p x * x) % p = 1 ∧ ∀ k : Int, 1 ≤ k → k < invP p x → (k * x) % p ≠ 1 := by
  have h : p = 2 ∨ p = 3 ∨ p = 5 ∨ p = 7 := by
    simp only [isP, Bool.or_eq_true, beq_iff_eq] at hp; omega
  have key : ∀ p x : Fin 8, (p.val = 2 ∨ p.val = 3 ∨ p.val = 5 ∨ p.val = 7) → 0 < x.val → x.val < p.val → (1 ≤ invP p.val x.val ∧ invP p.val x.val < p.val) ∧ (invP p.val x.val * x.val) % (p.val : Int) = 1 ∧ ∀ k : Fin 8, 1 ≤ k.val → (k.val : Int) < invP p.val x.val → ((k.val : Int) * x.val) % (p.val : Int) ≠ 1 := by decide
  have k := key ⟨p.toNat, by omega⟩ ⟨x.toNat, by omega⟩ (by simp only; omega) (by simp only; omega) (by simp only; omega)
  simp only [show ((p.toNat : Nat) : Int) = p by omega, show ((x.toNat : Nat) : Int) = x by omega] at k
  refine ⟨k.1, k.2.1, fun q hq hl => ?_⟩
  have := k.2.2 ⟨q.toNat, by omega⟩ (by simp only; omega) (by simp only; omega)
  simpa only [show ((q.toNat : Nat) : Int) = q by omega] using this
theorem isP_two {p : Int} (h : isP p = true) : 1 < p ∧ p ≤ 7 := by
  simp only [isP, Bool.or_eq_true, beq_iff_eq] at h; omega
-- ---- the reference's list: one row more
def redR (p : Int) (own : List Int) (at_ : Nat) (r : List Int) : List Int := lessRow p (r.getD at_ 0) r own
/-- How many places of a list lie left of one. -/
def posP (L : List (List Int)) (at_ : Nat) : Nat := (L.filter fun r => decide (leadP r < at_)).length
def nextP (p : Int) (L : List (List Int)) (own : List Int) (at_ pos : Nat) (k : Nat) : List (List Int) := if k ≤ pos then (L.take k).map (redR p own at_) else (L.take pos).map (redR p own at_) ++ own :: ((L.take k).drop pos).map (redR p own at_)
def putP (p : Int) (L : List (List Int)) (own : List Int) (at_ pos : Nat) : List (List Int) := (L.take pos).map (redR p own at_) ++ own :: (L.drop pos).map (redR p own at_)
theorem Rr.tail {p : Int} {w : Nat} {a : List Int} {L : List (List Int)} {l : Nat → Nat} (r : Rr p w (a :: L) l) : Rr p w L fun i => l (i + 1) :=
  have e : ∀ i, (a :: L).getD (i + 1) default = L.getD i default := fun i => rfl
  ⟨fun i hi => r.len (i + 1) (by simpa using hi), fun i hi => r.bnd (i + 1) (by simpa using hi), fun i hi => r.lt (i + 1) (by simpa using hi), fun i hi => r.one (i + 1) (by simpa using hi), fun i j hi hj => r.zb (i + 1) j (by simpa using hi) hj, fun i k hik hk => r.inc (i + 1) (k + 1) (by omega) (by simpa using hk), fun i k hi hk hne => r.cl (i + 1) (k + 1) (by simpa using hi) (by simpa using hk) (by omega)⟩
theorem posP_ok {p : Int} {w at_ : Nat} : ∀ {L : List (List Int)} {l : Nat → Nat}, Rr p w L l → posP L at_ ≤ L.length ∧ (∀ i, i < posP L at_ → l i < at_) ∧ ∀ i, i < L.length → posP L at_ ≤ i → at_ ≤ l i
  | [], _, _ => ⟨by simp [posP], fun i hi => by simp [posP] at hi, fun i hi => by simp at hi⟩
  | a :: L, l, r => by
    have h0 : leadP a = l 0 := r.lead (i := 0) (by simp)
    obtain ⟨t1, t2, t3⟩ := posP_ok (at_ := at_) r.tail
    by_cases hc : l 0 < at_
    · have e : posP (a :: L) at_ = posP L at_ + 1 := by simp [posP, h0, hc]
      rw [e]
      refine ⟨by simpa using t1, fun i hi => ?_, fun i hi hle => ?_⟩
      · cases i with
        | zero => exact hc
        | succ i => exact t2 i (by omega)
      · cases i with
        | zero => omega
        | succ i => exact t3 i (by simpa using hi) (by omega)
    · have hz : posP L at_ = 0 := by
        apply Nat.eq_zero_of_not_pos
        intro hpos
        have a1 := t2 0 hpos
        have a2 := r.inc 0 1 (by omega) (by simp; omega)
        simp only [Nat.zero_add] at a1
        omega
      have e : posP (a :: L) at_ = 0 := by
        rw [← hz]; simp only [posP, List.filter_cons, h0]; rw [if_neg (by simpa using hc)]
      rw [e]
      refine ⟨Nat.zero_le _, fun i hi => by omega, fun i hi _ => ?_⟩
      rcases Nat.eq_zero_or_pos i with h | h
      · rw [h]; omega
      · have := r.inc 0 i h hi; omega
theorem putP_len {p : Int} {L : List (List Int)} {own : List Int} {at_ pos : Nat} (h : pos ≤ L.length) : (putP p L own at_ pos).length = L.length + 1 := by
  simp [putP]; omega
theorem putP_get {p : Int} {L : List (List Int)} {own : List Int} {at_ pos : Nat} (h : pos ≤ L.length) {i : Nat} (hi : i < L.length + 1) : (putP p L own at_ pos).getD i default = if i < pos then redR p own at_ (L.getD i default) else if i = pos then own else redR p own at_ (L.getD (i - 1) default) := by
  have hl : ((L.take pos).map (redR p own at_)).length = pos := by simp; omega
  rw [putP, List.getD_eq_getElem?_getD]
  by_cases h1 : i < pos
  · rw [if_pos h1, List.getElem?_append_left (by omega), List.getElem?_map, List.getElem?_take, if_pos h1, List.getElem?_eq_getElem (by omega), List.getD_eq_getElem?_getD, List.getElem?_eq_getElem (by omega)]; rfl
  · rw [if_neg h1, List.getElem?_append_right (by omega), hl]
    by_cases h2 : i = pos
    · rw [if_pos h2, h2, Nat.sub_self]; rfl
    · rw [if_neg h2]
      obtain ⟨q, rfl⟩ : ∃ q, i = pos + q + 1 := ⟨i - pos - 1, by omega⟩
      rw [show pos + q + 1 - pos = q + 1 by omega, show pos + q + 1 - 1 = pos + q by omega, List.getElem?_cons_succ, List.getElem?_map, List.getElem?_drop, List.getElem?_eq_getElem (by omega), List.getD_eq_getElem?_getD, List.getElem?_eq_getElem (by omega)]; rfl
section
variable {p : Int} {w : Nat} {L : List (List Int)} {l : Nat → Nat} {own : List Int} {at_ : Nat}
theorem redR_get {r : List Int} {j : Nat} (hj : j < r.length) : (redR p own at_ r).getD j 0 = (r.getD j 0 - r.getD at_ 0 * own.getD j 0) % p := lessRow_get p _ hj
structure OwnOk (p : Int) (w : Nat) (L : List (List Int)) (l : Nat → Nat) (own : List Int) (at_ : Nat) : Prop where
  len : own.length = w
  bnd : Bnd p own
  lt : at_ < w
  one : own.getD at_ 0 = 1
  zb : ∀ j, j < at_ → own.getD j 0 = 0
  cl : ∀ i, i < L.length → own.getD (l i) 0 = 0
theorem OwnOk.ne (o : OwnOk p w L l own at_) {i : Nat} (hi : i < L.length) : l i ≠ at_ := fun e => by
  have := o.cl i hi
  rw [e, o.one] at this; omega
theorem red_at (hp : 1 < p) (r : Rr p w L l) (o : OwnOk p w L l own at_) {i : Nat} (hi : i < L.length) : (redR p own at_ (L.getD i default)).getD at_ 0 = 0 := by
  rw [redR_get (by rw [r.len i hi]; exact o.lt), o.one, Int.mul_one, Int.sub_self, Int.zero_emod]
theorem red_lead (hp : 1 < p) (r : Rr p w L l) (o : OwnOk p w L l own at_) {i k : Nat} (hi : i < L.length) (hk : k < L.length) : (redR p own at_ (L.getD i default)).getD (l k) 0 = if k = i then 1 else 0 := by
  rw [redR_get (by rw [r.len i hi]; exact r.lt k hk), o.cl k hk, Int.mul_zero, Int.sub_zero]
  split
  · rename_i e; subst e
    rw [show (L.getD k default).getD (l k) 0 = 1 from r.one k hk, Int.emod_eq_of_lt (by omega) hp]
  · rename_i e
    rw [show (L.getD i default).getD (l k) 0 = 0 from r.cl k i hk hi (Ne.symm e), Int.zero_emod]
theorem red_zb (hp : 1 < p) (r : Rr p w L l) (o : OwnOk p w L l own at_) {i j : Nat} (hi : i < L.length) (hj : j < l i) : (redR p own at_ (L.getD i default)).getD j 0 = 0 := by
  have := r.lt i hi
  rw [redR_get (by rw [r.len i hi]; omega), show (L.getD i default).getD j 0 = 0 from r.zb i j hi hj]
  rcases Nat.lt_or_ge j at_ with h | h
  · rw [o.zb j h, Int.mul_zero, Int.sub_self, Int.zero_emod]
  · rw [show (L.getD i default).getD at_ 0 = 0 from r.zb i at_ hi (by omega), Int.zero_mul, Int.sub_self, Int.zero_emod]
theorem putP_rr (hp : 1 < p) (r : Rr p w L l) (o : OwnOk p w L l own at_) : Rr p w (putP p L own at_ (posP L at_)) fun i => if i < posP L at_ then l i else if i = posP L at_ then at_ else l (i - 1) := by
  obtain ⟨p1, p2, p3⟩ := posP_ok (at_ := at_) r
  have p3' : ∀ i, i < L.length → posP L at_ ≤ i → at_ < l i := fun i hi hle => by
    have := p3 i hi hle
    have := o.ne hi
    omega
  generalize posP L at_ = q at *
  have hl := putP_len (p := p) (own := own) (at_ := at_) p1
  have gt := fun {i : Nat} (hi : i < L.length + 1) => putP_get (p := p) (own := own) (at_ := at_) p1 hi
  have rl : ∀ i, i < L.length → (redR p own at_ (L.getD i default)).length = w := fun i hi => by rw [redR, lessRow_len, r.len i hi]
  refine ⟨fun i hi => ?_, fun i hi => ?_, fun i hi => ?_, fun i hi => ?_, fun i j hi hj => ?_, fun i k hik hk => ?_, fun i k hi hk hne => ?_⟩
  · rw [hl] at hi
    rw [gt hi]
    split
    · exact rl i (by omega)
    · split
      · exact o.len
      · exact rl (i - 1) (by omega)
  · rw [hl] at hi
    rw [gt hi]
    split
    · exact lessRow_bnd (by omega) _ _ _
    · split
      · exact o.bnd
      · exact lessRow_bnd (by omega) _ _ _
  · rw [hl] at hi
    show (if i < q then l i else if i = q then at_ else l (i - 1)) < w
    split
    · exact r.lt i (by omega)
    · split
      · exact o.lt
      · exact r.lt (i - 1) (by omega)
  · rw [hl] at hi
    rw [g2, gt hi]
    show _ = (1 : Int)
    by_cases h1 : i < q
    · simp only [if_pos h1]
      rw [red_lead hp r o (by omega) (by omega), if_pos rfl]
    · simp only [if_neg h1]
      by_cases h2 : i = q
      · simp only [if_pos h2]; exact o.one
      · simp only [if_neg h2]
        rw [red_lead hp r o (by omega) (by omega), if_pos rfl]
  · rw [hl] at hi
    rw [g2, gt hi]
    by_cases h1 : i < q
    · simp only [if_pos h1] at hj ⊢
      exact red_zb hp r o (by omega) hj
    · simp only [if_neg h1] at hj ⊢
      by_cases h2 : i = q
      · simp only [if_pos h2] at hj ⊢; exact o.zb j hj
      · simp only [if_neg h2] at hj ⊢
        exact red_zb hp r o (by omega) hj
  · rw [hl] at hk
    show (if i < q then l i else if i = q then at_ else l (i - 1)) < (if k < q then l k else if k = q then at_ else l (k - 1))
    by_cases h1 : i < q
    · rw [if_pos h1]
      by_cases h2 : k < q
      · rw [if_pos h2]; exact r.inc i k hik (by omega)
      · rw [if_neg h2]
        by_cases h3 : k = q
        · rw [if_pos h3]; exact p2 i h1
        · rw [if_neg h3]
          have := p2 i h1
          have := p3' (k - 1) (by omega) (by omega)
          omega
    · rw [if_neg h1]
      by_cases h2 : i = q
      · rw [if_pos h2, if_neg (by omega), if_neg (by omega)]
        exact p3' (k - 1) (by omega) (by omega)
      · rw [if_neg h2, if_neg (by omega), if_neg (by omega)]
        exact r.inc (i - 1) (k - 1) (by omega) (by omega)
  · rw [hl] at hi hk
    rw [g2, gt hk]
    show _ = (0 : Int)
    by_cases h1 : k < q
    · simp only [if_pos h1]
      by_cases h2 : i < q
      · simp only [if_pos h2]; rw [red_lead hp r o (by omega) (by omega), if_neg (Ne.symm hne)]
      · simp only [if_neg h2]
        by_cases h3 : i = q
        · simp only [if_pos h3]; exact red_at hp r o (by omega)
        · simp only [if_neg h3]; rw [red_lead hp r o (by omega) (by omega), if_neg (by omega)]
    · simp only [if_neg h1]
      by_cases h2 : k = q
      · simp only [if_pos h2]
        by_cases h3 : i < q
        · simp only [if_pos h3]; exact o.cl i (by omega)
        · simp only [if_neg h3, if_neg (show ¬ i = q by omega)]; exact o.cl (i - 1) (by omega)
      · simp only [if_neg h2]
        by_cases h3 : i < q
        · simp only [if_pos h3]; rw [red_lead hp r o (by omega) (by omega), if_neg (by omega)]
        · simp only [if_neg h3]
          by_cases h4 : i = q
          · simp only [if_pos h4]; exact red_at hp r o (by omega)
          · simp only [if_neg h4]; rw [red_lead hp r o (by omega) (by omega), if_neg (by omega)]
theorem getD_app1 {α : Type} {L : List α} {row d : α} {i : Nat} (hi : i < L.length) : (L ++ [row]).getD i d = L.getD i d := by
  rw [List.getD_eq_getElem?_getD, List.getElem?_append_left hi, List.getD_eq_getElem?_getD]
theorem getD_app2 {α : Type} {L : List α} {row d : α} : (L ++ [row]).getD L.length d = row := by
  rw [List.getD_eq_getElem?_getD, List.getElem?_append_right (Nat.le_refl _), Nat.sub_self]; rfl
theorem Sp.at {L : List (List Int)} {i : Nat} {r : List Int} (hi : i < L.length) (e : L.getD i default = r) : Sp p L fun j => r.getD j 0 := by
  have := Sp.row (p := p) hi
  subst e; exact this
theorem Le.app1 {L : List (List Int)} {row : List Int} : Le p L (L ++ [row]) := fun i hi => Sp.at (by simp; omega) (getD_app1 hi)
theorem Sp.last {L : List (List Int)} {row : List Int} : Sp p (L ++ [row]) fun j => row.getD j 0 := Sp.at (by simp) getD_app2
theorem Le.snoc {L M : List (List Int)} {row : List Int} (h : Le p L M) (k : Sp p M fun j => row.getD j 0) : Le p (L ++ [row]) M := fun i hi => by
  rw [List.length_append, List.length_singleton] at hi
  rcases Nat.lt_succ_iff_lt_or_eq.1 hi with h' | h'
  · have := h i h'
    unfold g2 at *
    rwa [getD_app1 h']
  · subst h'
    show Sp p M fun j => ((L ++ [row]).getD L.length default).getD j 0
    rwa [getD_app2]
theorem Eqv.snoc {L M : List (List Int)} {row : List Int} (h : Eqv p L M) : Eqv p (L ++ [row]) (M ++ [row]) :=
  ⟨Le.snoc (h.1.trans Le.app1) Sp.last, Le.snoc (h.2.trans Le.app1) Sp.last⟩
theorem putP_eqv (r : Rr p w L l) (ol : own.length = w) {q : Nat} (hq : q ≤ L.length) {row : List Int} (h1 : Sp p (L ++ [row]) fun j => own.getD j 0) {k : Int} {s : Nat → Int} (hs : Sp p L s) (h2 : ∀ j, Cg p (row.getD j 0) (k * own.getD j 0 + s j)) : Eqv p (putP p L own at_ q) (L ++ [row]) := by
  have hl := putP_len (p := p) (own := own) (at_ := at_) hq
  have gt := fun {i : Nat} (hi : i < L.length + 1) => putP_get (p := p) (own := own) (at_ := at_) hq hi
  have cg : ∀ i, i < L.length → ∀ j, Cg p ((redR p own at_ (L.getD i default)).getD j 0) (g2 L i j - g2 L i at_ * own.getD j 0) := fun i hi j => lessRow_cg p _ (by rw [ol, r.len i hi]; exact Nat.le_refl _) j
  have a1 : ∀ i, i < L.length → Sp p (L ++ [row]) fun j => (redR p own at_ (L.getD i default)).getD j 0 := fun i hi => ((Le.app1 i hi).sub (g2 L i at_) h1).cg (cg i hi)
  have o1 : Sp p (putP p L own at_ q) fun j => own.getD j 0 := Sp.at (i := q) (by rw [hl]; omega) (by rw [gt (by omega), if_neg (by omega), if_pos rfl])
  have b1 : ∀ i, i < L.length → Sp p (putP p L own at_ q) fun j => (redR p own at_ (L.getD i default)).getD j 0 := fun i hi => by
    by_cases h : i < q
    · exact Sp.at (i := i) (by rw [hl]; omega) (by rw [gt (by omega), if_pos h])
    · exact Sp.at (i := i + 1) (by rw [hl]; omega) (by rw [gt (by omega), if_neg (by omega), if_neg (by omega), Nat.add_sub_cancel])
  have b2 : Le p L (putP p L own at_ q) := fun i hi => ((b1 i hi).add (o1.mul (g2 L i at_))).cg fun j => ((Cg.add (cg i hi j) (Cg.refl _)).trans (Cg.of_eq (by omega))).symm
  refine ⟨fun i hi => ?_, Le.snoc b2 (((o1.mul k).add (hs.le b2)).cg h2)⟩
  rw [hl] at hi
  unfold g2
  rw [gt hi]
  split
  · exact a1 i (by omega)
  · split
    · exact h1
    · exact a1 (i - 1) (by omega)
theorem lead_cases (xs : List Int) : (leadP xs = -1 ∧ ∀ j, xs.getD j 0 = 0) ∨ ∃ k : Nat, k < xs.length ∧ leadP xs = k ∧ (∀ j, j < k → xs.getD j 0 = 0) ∧ xs.getD k 0 ≠ 0 := by
  have key : ∀ n, n ≤ xs.length → (∀ j, j < n → xs.getD j 0 = 0) ∨ ∃ k : Nat, k < n ∧ (∀ j, j < k → xs.getD j 0 = 0) ∧ xs.getD k 0 ≠ 0 := by
    intro n
    induction n with
    | zero => intro _; exact .inl fun j hj => by omega
    | succ n ih =>
      intro hn
      rcases ih (by omega) with h | ⟨k, hk, h⟩
      · by_cases e : xs.getD n 0 = 0
        · exact .inl fun j hj => by
            rcases Nat.lt_succ_iff_lt_or_eq.1 hj with h' | h'
            · exact h j h'
            · rw [h']; exact e
        · exact .inr ⟨n, by omega, h, e⟩
      · exact .inr ⟨k, by omega, h⟩
  rcases key xs.length (Nat.le_refl _) with h | ⟨k, hk, h1, h2⟩
  · refine .inl ⟨leadP_all (zeros_all h), fun j => ?_⟩
    rcases Nat.lt_or_ge j xs.length with h' | h'
    · exact h j h'
    · exact getD_out h'
  · exact .inr ⟨k, hk, leadP_at hk h1 h2, h1, h2⟩
/-- So far, a list is the reduced one of some rows. -/
def Red (p : Int) (w : Nat) (L rows : List (List Int)) : Prop := (∃ l, Rr p w L l) ∧ Eqv p L rows
theorem Red.nil : Red p w [] [] := ⟨⟨fun i => i, Rr.nil⟩, Eqv.refl⟩
/-- The row that comes to a list: what is left of it, begun with a 1. -/
def ownP (p : Int) (L : List (List Int)) (row : List Int) : List Int := sclRow p (invP p ((restP p L row).getD (leadP (restP p L row)).toNat 0)) (restP p L row)
theorem Red.skip {L rows : List (List Int)} {row : List Int} (h : Red p w L rows) (hp : 1 < p) (hl : row.length = w) (hb : Bnd p row) (hz : leadP (restP p L row) < 0) : Red p w L (rows ++ [row]) := by
  obtain ⟨⟨l, r⟩, e⟩ := h
  refine ⟨⟨l, r⟩, Eqv.trans ?_ e.snoc⟩
  rcases lead_cases (restP p L row) with ⟨_, h0⟩ | ⟨k, _, h1, _⟩
  · exact ⟨Le.app1, Le.snoc Le.refl ((restP_iff r (by omega) hl hb).1 h0)⟩
  · omega
theorem ownP_ok (hP : isP p = true) (r : Rr p w L l) {row : List Int} (hl : row.length = w) (hb : Bnd p row) {k : Nat} (hk : leadP (restP p L row) = k) : OwnOk p w L l (ownP p L row) k ∧ (Sp p (L ++ [row]) fun j => (ownP p L row).getD j 0) ∧ ∃ c s, Sp p L s ∧ ∀ j, Cg p (row.getD j 0) (c * (ownP p L row).getD j 0 + s j) := by
  have hp := isP_two hP
  have rl := restP_len p L row
  have rb := restP_bnd (p := p) (L := L) (by omega) hb
  have rz : ∀ i, i < L.length → (restP p L row).getD (l i) 0 = 0 := fun i hi => restP_zero r (by omega) hl hb hi
  obtain ⟨s, hs, hc⟩ := restP_sub r hl
  rcases lead_cases (restP p L row) with ⟨h0, _⟩ | ⟨k', hk', h1, h2, h3⟩
  · omega
  · obtain rfl : k = k' := by omega
    have hx := rb.at hk'
    obtain ⟨i1, i2, _⟩ := invP_ok hP (x := (restP p L row).getD k 0) (by omega) hx.2
    have og : ∀ j, j < w → (ownP p L row).getD j 0 = (invP p ((restP p L row).getD k 0) * (restP p L row).getD j 0) % p := fun j hj => by
      rw [ownP, h1, Int.toNat_natCast, sclR_get _ _ (by rw [rl, hl]; exact hj)]
    have ocg : ∀ j, Cg p ((ownP p L row).getD j 0) (invP p ((restP p L row).getD k 0) * (restP p L row).getD j 0) := fun j => by
      rw [ownP, h1, Int.toNat_natCast]; exact sclRow_cg _ _ _ j
    have own_ok : OwnOk p w L l (ownP p L row) k := ⟨by rw [ownP, sclR_len, rl, hl], sclRow_bnd (by omega) _ _, by omega, by rw [og k (by omega)]; exact i2, fun j hj => by rw [og j (by omega), h2 j hj, Int.mul_zero, Int.zero_emod], fun i hi => by rw [og _ (r.lt i hi), rz i hi, Int.mul_zero, Int.zero_emod]⟩
    refine ⟨own_ok, ?_, (restP p L row).getD k 0, s, hs, fun j => ?_⟩
    · have : Sp p (L ++ [row]) fun j => (restP p L row).getD j 0 := ((Sp.last (p := p) (L := L) (row := row)).sub 1 (hs.le Le.app1)).cg fun j => (hc j).trans (Cg.of_eq (by rw [Int.one_mul]))
      exact (this.mul _).cg ocg
    · have a := hc j
      have b : Cg p (row.getD j 0) ((restP p L row).getD j 0 + s j) := ((Cg.add a (Cg.refl (s j))).trans (Cg.of_eq (by omega))).symm
      refine b.trans (Cg.add ?_ (Cg.refl _))
      have c : Cg p ((restP p L row).getD k 0 * (ownP p L row).getD j 0) ((restP p L row).getD k 0 * (invP p ((restP p L row).getD k 0) * (restP p L row).getD j 0)) := (Cg.refl _).mul (ocg j)
      have d : Cg p (invP p ((restP p L row).getD k 0) * (restP p L row).getD k 0) 1 := by
        show _ % p = 1 % p
        rw [i2, Int.emod_eq_of_lt (by omega) hp.1]
      have e : Cg p ((restP p L row).getD k 0 * (invP p ((restP p L row).getD k 0) * (restP p L row).getD j 0)) ((restP p L row).getD j 0) := by
        refine Cg.trans (Cg.of_eq ?_) ((d.mul (Cg.refl ((restP p L row).getD j 0))).trans (Cg.of_eq (Int.one_mul _)))
        rw [← Int.mul_assoc, Int.mul_comm ((restP p L row).getD k 0)]
      exact (c.trans e).symm
theorem Red.put {L rows : List (List Int)} {row : List Int} (h : Red p w L rows) (hP : isP p = true) (hl : row.length = w) (hb : Bnd p row) {k : Nat} (hk : leadP (restP p L row) = k) : Red p w (putP p L (ownP p L row) k (posP L k)) (rows ++ [row]) := by
  obtain ⟨⟨l, r⟩, e⟩ := h
  obtain ⟨o, h1, c, s, hs, h2⟩ := ownP_ok hP r hl hb hk
  exact ⟨⟨_, putP_rr (isP_two hP).1 r o⟩, (putP_eqv r o.len (posP_ok r).1 h1 hs h2).trans e.snoc⟩
theorem take_snoc {rows : List (List Int)} {n : Nat} (hn : n < rows.length) : rows.take (n + 1) = rows.take n ++ [rows.getD n default] := by
  rw [List.take_succ_eq_append_getElem hn, List.getD_eq_getElem?_getD, List.getElem?_eq_getElem hn]; rfl
theorem Red.exists (hP : isP p = true) {rows : List (List Int)} (h : ∀ r ∈ rows, r.length = w ∧ Bnd p r) : ∀ n, n ≤ rows.length → ∃ L, Red p w L (rows.take n)
  | 0, _ => ⟨[], by rw [List.take_zero]; exact Red.nil⟩
  | n + 1, hn => by
    obtain ⟨L, hL⟩ := Red.exists hP h n (by omega)
    have hr := h (rows.getD n default) (by rw [List.getD_eq_getElem?_getD, List.getElem?_eq_getElem hn]; exact List.getElem_mem hn)
    rw [take_snoc hn]
    rcases lead_cases (restP p L (rows.getD n default)) with ⟨h0, _⟩ | ⟨k, _, h1, _⟩
    · exact ⟨L, hL.skip (isP_two hP).1 hr.1 hr.2 (by omega)⟩
    · exact ⟨_, hL.put hP hr.1 hr.2 h1⟩
theorem wd_ok {rows : List (List Int)} (h : ∀ r ∈ rows, r.length = w ∧ Bnd p r) (hn : rows ≠ []) : wd rows = w := by
  cases rows with
  | nil => exact absurd rfl hn
  | cons a t => exact (h a (by simp)).1
theorem Red.ech (hP : isP p = true) {L rows : List (List Int)} (h : ∀ r ∈ rows, r.length = w ∧ Bnd p r) (hL : Red p w L rows) : ech p rows = L := by
  obtain ⟨⟨l, r⟩, e⟩ := hL
  exact ech_eq (isP_two hP).1 r e (wd_ok h)
theorem ech_red (hP : isP p = true) {rows : List (List Int)} (h : ∀ r ∈ rows, r.length = w ∧ Bnd p r) : Red p w (ech p rows) rows := by
  obtain ⟨L, hL⟩ := Red.exists hP h rows.length (Nat.le_refl _)
  rw [List.take_length] at hL
  rw [hL.ech hP h]; exact hL
/-- A reduced list is its own. -/
theorem Rr.self (hP : isP p = true) (r : Rr p w L l) : ech p L = L := by
  refine Red.ech hP (w := w) (fun x hx => ?_) ⟨⟨l, r⟩, Eqv.refl⟩
  obtain ⟨i, hi, rfl⟩ := List.getElem_of_mem hx
  have a := r.len i hi
  have b := r.bnd i hi
  rw [List.getD_eq_getElem?_getD, List.getElem?_eq_getElem hi] at a b
  exact ⟨a, b⟩
theorem Rr.le_w (r : Rr p w L l) : L.length ≤ w := by
  have key : ∀ i, i < L.length → i ≤ l i := by
    intro i
    induction i with
    | zero => intro _; exact Nat.zero_le _
    | succ i ih => intro hi; have := ih (by omega); have := r.inc i (i + 1) (by omega) hi; omega
  rcases Nat.eq_zero_or_pos L.length with h | h
  · omega
  · have := key (L.length - 1) (by omega)
    have := r.lt (L.length - 1) (by omega)
    omega
end
def swapP {α : Type} [Inhabited α] (M : List α) (d a : Nat) : List α := (M.set d (M.getD a default)).set a (M.getD d default)
theorem swapP_len {α : Type} [Inhabited α] (M : List α) (d a : Nat) : (swapP M d a).length = M.length := by simp [swapP]
theorem swapP_get {α : Type} [Inhabited α] {M : List α} {d a : Nat} (hd : d < M.length) (ha : a < M.length) (i : Nat) : (swapP M d a).getD i default = if a = i then M.getD d default else if d = i then M.getD a default else M.getD i default := by
  rw [swapP, getD_set (by rw [List.length_set]; exact ha)]
  split
  · rfl
  · rw [getD_set hd]
def clrP (p : Int) (d c : Nat) (M : List (List Int)) (n : Nat) : List (List Int) := (List.range M.length).map fun i => if i < n ∧ i ≠ d then lessRow p (g2 M i c) (M.getD i default) (M.getD d default) else M.getD i default
theorem clrP_len (p : Int) (d c : Nat) (M : List (List Int)) (n : Nat) : (clrP p d c M n).length = M.length := by simp [clrP]
theorem clrP_get {p : Int} {d c : Nat} {M : List (List Int)} {n i : Nat} (hi : i < M.length) : (clrP p d c M n).getD i default = if i < n ∧ i ≠ d then lessRow p (g2 M i c) (M.getD i default) (M.getD d default) else M.getD i default := getD_map_range (α := List Int) (fun i : Nat => if i < n ∧ i ≠ d then lessRow p (g2 M i c) (M.getD i default) (M.getD d default) else M.getD i default) hi
section
variable {p : Int} {w : Nat} {rows M : List (List Int)} {l : Nat → Nat} {d c : Nat}
/-- The program's reduction behind c columns, of which d have brought a row. -/
structure RI (p : Int) (w : Nat) (rows M : List (List Int)) (l : Nat → Nat) (d c : Nat) : Prop where
  ln : M.length = rows.length
  len : ∀ i, i < M.length → (M.getD i default).length = w
  bnd : ∀ i, i < M.length → Bnd p (M.getD i default)
  eqv : Eqv p M rows
  dl : d ≤ M.length
  lt : ∀ i, i < d → l i < c
  one : ∀ i, i < d → g2 M i (l i) = 1
  zb : ∀ i j, i < d → j < l i → g2 M i j = 0
  inc : ∀ i k, i < k → k < d → l i < l k
  cl : ∀ i k, i < d → k < M.length → k ≠ i → g2 M k (l i) = 0
  nul : ∀ k j, d ≤ k → k < M.length → j < c → g2 M k j = 0
theorem RI.start (h : ∀ r ∈ rows, r.length = w ∧ Bnd p r) : RI p w rows rows l 0 0 := by
  have at_ : ∀ i, i < rows.length → (rows.getD i default).length = w ∧ Bnd p (rows.getD i default) := fun i hi => h _ (by rw [List.getD_eq_getElem?_getD, List.getElem?_eq_getElem hi]; exact List.getElem_mem hi)
  exact ⟨rfl, fun i hi => (at_ i hi).1, fun i hi => (at_ i hi).2, Eqv.refl, Nat.zero_le _, fun i hi => by omega, fun i hi => by omega, fun i j hi => by omega, fun i k _ hk => by omega, fun i k hi => by omega, fun k j _ _ hj => by omega⟩
theorem RI.skip (r : RI p w rows M l d c) (h : ∀ k, d ≤ k → k < M.length → g2 M k c = 0) : RI p w rows M l d (c + 1) :=
  ⟨r.ln, r.len, r.bnd, r.eqv, r.dl, fun i hi => Nat.lt_succ_of_lt (r.lt i hi), r.one, r.zb, r.inc, r.cl, fun k j h1 h2 hj => by
    rcases Nat.lt_succ_iff_lt_or_eq.1 hj with h' | h'
    · exact r.nul k j h1 h2 h'
    · rw [h']; exact h k h1 h2⟩
theorem RI.swap (r : RI p w rows M l d c) {a : Nat} (hd : d ≤ a) (ha : a < M.length) : RI p w rows (swapP M d a) l d c := by
  have hdm : d < M.length := by omega
  have gt := swapP_get hdm ha
  have pm : ∀ i, i < M.length → ∃ k, k < M.length ∧ (swapP M d a).getD i default = M.getD k default ∧ (i < d → k = i) ∧ (d ≤ i → d ≤ k) ∧ ∀ q, q < d → (i ≠ q → k ≠ q) := fun i hi => by
    rw [gt i]
    split
    · exact ⟨d, hdm, rfl, by omega, by omega, by omega⟩
    · split
      · exact ⟨a, ha, rfl, by omega, by omega, by omega⟩
      · exact ⟨i, hi, rfl, fun _ => rfl, fun h => h, fun q _ h => h⟩
  have hl := swapP_len M d a
  have gs : ∀ i, i < M.length → ∃ k, k < M.length ∧ (∀ j, g2 (swapP M d a) i j = g2 M k j) ∧ (i < d → k = i) ∧ (d ≤ i → d ≤ k) ∧ ∀ q, q < d → (i ≠ q → k ≠ q) := fun i hi => by
    obtain ⟨k, h1, h2, h3⟩ := pm i hi
    exact ⟨k, h1, fun j => by rw [g2, h2], h3⟩
  refine ⟨by rw [hl]; exact r.ln, fun i hi => ?_, fun i hi => ?_, ⟨fun i hi => ?_, fun i hi => ?_⟩, by rw [hl]; exact r.dl, r.lt, fun i hi => ?_, fun i j hi hj => ?_, r.inc, fun i k hi hk hne => ?_, fun k j h1 h2 hj => ?_⟩
  · rw [hl] at hi; obtain ⟨k, h1, h2, _⟩ := pm i hi; rw [h2]; exact r.len k h1
  · rw [hl] at hi; obtain ⟨k, h1, h2, _⟩ := pm i hi; rw [h2]; exact r.bnd k h1
  · rw [hl] at hi
    obtain ⟨k, h1, h2, _⟩ := gs i hi
    exact (r.eqv.1 k h1).cg fun j => Cg.of_eq (h2 j)
  · have h := r.eqv.2 i hi
    refine h.le fun k hk => ?_
    by_cases e1 : k = d
    · subst e1
      exact Sp.at (i := a) (by rw [hl]; exact ha) (by rw [gt, if_pos rfl])
    · by_cases e2 : k = a
      · subst e2
        exact Sp.at (i := d) (by rw [hl]; exact hdm) (by
          rw [gt]
          split
          · rename_i e; rw [e]
          · rw [if_pos rfl])
      · exact Sp.at (i := k) (by rw [hl]; exact hk) (by rw [gt, if_neg (Ne.symm e2), if_neg (Ne.symm e1)])
  · obtain ⟨k, h1, h2, h3, _⟩ := gs i (by omega)
    rw [h2, h3 hi]; exact r.one i hi
  · obtain ⟨k, h1, h2, h3, _⟩ := gs i (by omega)
    rw [h2, h3 hi]; exact r.zb i j hi hj
  · rw [hl] at hk
    obtain ⟨q, h1, h2, _, _, h5⟩ := gs k hk
    rw [h2]; exact r.cl i q hi h1 (h5 i hi hne)
  · rw [hl] at h2
    obtain ⟨q, h3, h4, _, h5, _⟩ := gs k h2
    rw [h4]; exact r.nul q j (h5 h1) h3 hj
theorem RI.scale (hP : isP p = true) (r : RI p w rows M l d c) (hd : d < M.length) (hc : c < w) (hx : g2 M d c ≠ 0) : RI p w rows (M.set d (sclRow p (invP p (g2 M d c)) (M.getD d default))) l d c ∧ g2 (M.set d (sclRow p (invP p (g2 M d c)) (M.getD d default))) d c = 1 := by
  have hp := isP_two hP
  have hb := (r.bnd d hd).at (k := c) (by rw [r.len d hd]; exact hc)
  have hb' : 0 ≤ g2 M d c ∧ g2 M d c < p := hb
  obtain ⟨i1, i2, _⟩ := invP_ok hP (x := g2 M d c) (by omega) hb'.2
  generalize hk : invP p (g2 M d c) = k at *
  have hl : (M.set d (sclRow p k (M.getD d default))).length = M.length := List.length_set
  have gt : ∀ i, (M.set d (sclRow p k (M.getD d default))).getD i default = if d = i then sclRow p k (M.getD d default) else M.getD i default := fun i => getD_set hd
  have gd : ∀ j, j < w → (sclRow p k (M.getD d default)).getD j 0 = (k * g2 M d j) % p := fun j hj => sclR_get _ _ (by rw [r.len d hd]; exact hj)
  have gn : ∀ i j, i ≠ d → g2 (M.set d (sclRow p k (M.getD d default))) i j = g2 M i j := fun i j hne => by rw [g2, gt, if_neg (Ne.symm hne)]
  have gz : ∀ j, g2 M d j = 0 → g2 (M.set d (sclRow p k (M.getD d default))) d j = 0 := fun j e => by
    rw [g2, gt, if_pos rfl]
    rcases Nat.lt_or_ge j w with h | h
    · rw [gd j h, e, Int.mul_zero, Int.zero_emod]
    · exact getD_out (by rw [sclR_len, r.len d hd]; exact h)
  refine ⟨⟨by rw [hl]; exact r.ln, fun i hi => ?_, fun i hi => ?_, ⟨fun i hi => ?_, fun i hi => ?_⟩, by rw [hl]; exact r.dl, r.lt, fun i hi => ?_, fun i j hi hj => ?_, r.inc, fun i q hi hq hne => ?_, fun q j h1 h2 hj => ?_⟩, ?_⟩
  · rw [hl] at hi; rw [gt]
    split
    · rw [sclR_len]; exact r.len d hd
    · exact r.len i hi
  · rw [hl] at hi; rw [gt]
    split
    · exact sclRow_bnd (by omega) _ _
    · exact r.bnd i hi
  · rw [hl] at hi
    by_cases e : i = d
    · subst e
      refine ((r.eqv.1 i hi).mul k).cg fun j => ?_
      show Cg p (((M.set i (sclRow p k (M.getD i default))).getD i default).getD j 0) _
      rw [gt, if_pos rfl]; exact sclRow_cg _ _ _ j
    · exact (r.eqv.1 i hi).cg fun j => Cg.of_eq (gn i j e)
  · refine (r.eqv.2 i hi).le fun q hq => ?_
    by_cases e : q = d
    · subst e
      refine ((Sp.at (p := p) (L := M.set q (sclRow p k (M.getD q default))) (i := q) (by rw [hl]; exact hq) (by rw [gt, if_pos rfl])).mul (g2 M q c)).cg fun j => ?_
      have a : Cg p (g2 M q c * (sclRow p k (M.getD q default)).getD j 0) (g2 M q c * (k * g2 M q j)) := (Cg.refl _).mul (sclRow_cg _ _ _ j)
      have b : Cg p (k * g2 M q c) 1 := by
        show _ % p = 1 % p
        rw [i2, Int.emod_eq_of_lt (by omega) hp.1]
      refine (a.trans (Cg.trans (Cg.of_eq ?_) ((b.mul (Cg.refl (g2 M q j))).trans (Cg.of_eq (Int.one_mul _))))).symm
      rw [← Int.mul_assoc, Int.mul_comm (g2 M q c)]
    · exact Sp.at (i := q) (by rw [hl]; exact hq) (by rw [gt, if_neg (Ne.symm e)])
  · rw [gn i _ (by omega)]; exact r.one i hi
  · rw [gn i _ (by omega)]; exact r.zb i j hi hj
  · rw [hl] at hq
    by_cases e : q = d
    · subst e; exact gz _ (r.cl i q hi hq hne)
    · rw [gn q _ e]; exact r.cl i q hi hq hne
  · rw [hl] at h2
    by_cases e : q = d
    · subst e; exact gz _ (r.nul q j h1 h2 hj)
    · rw [gn q _ e]; exact r.nul q j h1 h2 hj
  · rw [g2, gt, if_pos rfl, gd c hc]; exact i2
theorem RI.clear (hP : isP p = true) (r : RI p w rows M l d c) (hd : d < M.length) (hc : c < w) (h1 : g2 M d c = 1) : RI p w rows (clrP p d c M M.length) (fun i => if i = d then c else l i) (d + 1) (c + 1) := by
  have hp := isP_two hP
  have hl := clrP_len p d c M M.length
  have gt := fun {i : Nat} (hi : i < M.length) => clrP_get (p := p) (d := d) (c := c) (n := M.length) hi
  have gd : ∀ j, g2 (clrP p d c M M.length) d j = g2 M d j := fun j => by rw [g2, gt hd, if_neg (by omega)]
  have gn : ∀ i j, i < M.length → i ≠ d → j < w → g2 (clrP p d c M M.length) i j = (g2 M i j - g2 M i c * g2 M d j) % p := fun i j hi hne hj => by
    rw [g2, gt hi, if_pos ⟨hi, hne⟩, lessRow_get p _ (by rw [r.len i hi]; exact hj)]
  have cg : ∀ i j, i < M.length → i ≠ d → Cg p (g2 (clrP p d c M M.length) i j) (g2 M i j - g2 M i c * g2 M d j) := fun i j hi hne => by
    rw [g2, gt hi, if_pos ⟨hi, hne⟩]
    exact lessRow_cg p _ (by rw [r.len i hi, r.len d hd]; exact Nat.le_refl _) j
  have small : ∀ {x : Int}, 0 ≤ x ∧ x < p → x % p = x := fun h => Int.emod_eq_of_lt h.1 h.2
  -- left of column c nothing has changed
  have old : ∀ i j, i < M.length → j < c → g2 (clrP p d c M M.length) i j = g2 M i j := fun i j hi hj => by
    by_cases e : i = d
    · subst e; exact gd j
    · rw [gn i j hi e (by omega), r.nul d j (Nat.le_refl _) hd hj, Int.mul_zero, Int.sub_zero]
      exact small ((r.bnd i hi).at (k := j) (by rw [r.len i hi]; omega))
  have atc : ∀ i, i < M.length → i ≠ d → g2 (clrP p d c M M.length) i c = 0 := fun i hi hne => by
    rw [gn i c hi hne hc, h1, Int.mul_one, Int.sub_self, Int.zero_emod]
  refine ⟨by rw [hl]; exact r.ln, fun i hi => ?_, fun i hi => ?_, ⟨fun i hi => ?_, fun i hi => ?_⟩, by rw [hl]; exact hd, fun i hi => ?_, fun i hi => ?_, fun i j hi hj => ?_, fun i k hik hk => ?_, fun i k hi hk hne => ?_, fun k j hk hk2 hj => ?_⟩
  · rw [hl] at hi; rw [gt hi]
    split
    · rw [lessRow_len]; exact r.len i hi
    · exact r.len i hi
  · rw [hl] at hi; rw [gt hi]
    split
    · exact lessRow_bnd (by omega) _ _ _
    · exact r.bnd i hi
  · rw [hl] at hi
    by_cases e : i = d
    · subst e; exact (r.eqv.1 i hi).cg fun j => Cg.of_eq (gd j)
    · exact ((r.eqv.1 i hi).sub (g2 M i c) (r.eqv.1 d hd)).cg fun j => cg i j hi e
  · refine (r.eqv.2 i hi).le fun q hq => ?_
    have sd : Sp p (clrP p d c M M.length) (g2 M d) := (Sp.row (p := p) (L := clrP p d c M M.length) (i := d) (by rw [hl]; exact hd)).cg fun j => Cg.of_eq (gd j).symm
    by_cases e : q = d
    · subst e; exact sd
    · refine ((Sp.row (p := p) (L := clrP p d c M M.length) (i := q) (by rw [hl]; exact hq)).add (sd.mul (g2 M q c))).cg fun j => ?_
      exact ((Cg.add (cg q j hq e) (Cg.refl _)).trans (Cg.of_eq (by omega))).symm
  · show (if i = d then c else l i) < c + 1
    split
    · omega
    · have := r.lt i (by omega); omega
  · show g2 _ i (if i = d then c else l i) = 1
    by_cases e : i = d
    · rw [if_pos e, e, gd]; exact h1
    · rw [if_neg e, old i _ (by omega) (r.lt i (by omega))]; exact r.one i (by omega)
  · by_cases e : i = d
    · simp only [if_pos e] at hj
      rw [e, gd]; exact r.nul d j (Nat.le_refl _) hd hj
    · simp only [if_neg e] at hj
      have := r.lt i (by omega)
      rw [old i j (by omega) (by omega)]; exact r.zb i j (by omega) hj
  · show (if i = d then c else l i) < (if k = d then c else l k)
    rw [if_neg (by omega)]
    by_cases e : k = d
    · rw [if_pos e]; exact r.lt i (by omega)
    · rw [if_neg e]; exact r.inc i k hik (by omega)
  · rw [hl] at hk
    show g2 _ k (if i = d then c else l i) = 0
    by_cases e : i = d
    · rw [if_pos e]; exact atc k hk (by omega)
    · rw [if_neg e, old k _ hk (r.lt i (by omega))]; exact r.cl i k (by omega) hk hne
  · rw [hl] at hk2
    rcases Nat.lt_succ_iff_lt_or_eq.1 hj with h' | h'
    · rw [old k j hk2 h']; exact r.nul k j (by omega) hk2 h'
    · rw [h']; exact atc k hk2 (by omega)
theorem take_get {α : Type} {xs : List α} {d : α} {i n : Nat} (hi : i < n) : (xs.take n).getD i d = xs.getD i d := by
  rw [List.getD_eq_getElem?_getD, List.getElem?_take, if_pos hi, List.getD_eq_getElem?_getD]
theorem RI.end (hP : isP p = true) (r : RI p w rows M l d c) (h : d = M.length ∨ w ≤ c) : Red p w (M.take d) rows := by
  have hl : (M.take d).length = d := by have := r.dl; simp; omega
  have gt : ∀ i j, i < d → g2 (M.take d) i j = g2 M i j := fun i j hi => by rw [g2, take_get hi]
  have dl := r.dl
  have out : ∀ i j, i < M.length → w ≤ j → g2 M i j = 0 := fun i j hi hj => g2_out (by rw [r.len i hi]; exact hj)
  have ltw : ∀ i, i < d → l i < w := fun i hi => by
    apply Nat.lt_of_not_le
    intro hle
    have := r.one i hi
    rw [out i _ (by omega) hle] at this; omega
  refine ⟨⟨l, ⟨fun i hi => ?_, fun i hi => ?_, fun i hi => ?_, fun i hi => ?_, fun i j hi hj => ?_, fun i k hik hk => ?_, fun i k hi hk hne => ?_⟩⟩, ⟨fun i hi => ?_, fun i hi => ?_⟩⟩
  · rw [hl] at hi; rw [take_get hi]; exact r.len i (by omega)
  · rw [hl] at hi; rw [take_get hi]; exact r.bnd i (by omega)
  · rw [hl] at hi; exact ltw i hi
  · rw [hl] at hi; rw [gt i _ hi]; exact r.one i hi
  · rw [hl] at hi; rw [gt i _ hi]; exact r.zb i j hi hj
  · rw [hl] at hk; exact r.inc i k hik hk
  · rw [hl] at hi hk; rw [gt k _ hk]; exact r.cl i k hi (by omega) hne
  · rw [hl] at hi; exact (r.eqv.1 i (by omega)).cg fun j => Cg.of_eq (gt i j hi)
  · refine (r.eqv.2 i hi).le fun k hk => ?_
    rcases Nat.lt_or_ge k d with h1 | h1
    · exact Sp.at (i := k) (by rw [hl]; exact h1) (take_get h1)
    · refine Sp.zero.cg fun j => Cg.of_eq ?_
      rcases h with h2 | h2
      · omega
      · rcases Nat.lt_or_ge j c with h3 | h3
        · exact r.nul k j h1 hk h3
        · exact out k j hk (by omega)
theorem RI.ech (hP : isP p = true) (h0 : ∀ r ∈ rows, r.length = w ∧ Bnd p r) (r : RI p w rows M l d c) (h : d = M.length ∨ w ≤ c) : ech p rows = M.take d := (r.end hP h).ech hP h0
end
-- ---- kernels
def longP (rows : List (List Int)) : List (List Int) := (List.range rows.length).map fun i => rows.getD i default ++ unitP rows.length i
noncomputable def kerP (p : Int) (w : Nat) (rows : List (List Int)) : List (List Int) := ((ech p (longP rows)).filter fun r => decide ((w : Int) ≤ leadP r)).map fun r => r.drop w
theorem longP_tbl {p : Int} {w : Nat} (hp : 1 < p) {rows : List (List Int)} (h : ∀ r ∈ rows, r.length = w ∧ Bnd p r) : ∀ r ∈ longP rows, r.length = w + rows.length ∧ Bnd p r := fun r hr => by
  obtain ⟨i, hi, rfl⟩ := List.mem_map.1 hr
  rw [List.mem_range] at hi
  have hi' := h (rows.getD i default) (by rw [List.getD_eq_getElem?_getD, List.getElem?_eq_getElem hi]; exact List.getElem_mem hi)
  refine ⟨by rw [List.length_append, hi'.1]; simp [unitP], fun x hx => ?_⟩
  rcases List.mem_append.1 hx with h1 | h1
  · exact hi'.2 x h1
  · rcases List.mem_or_eq_of_mem_set h1 with h2 | h2
    · have := List.eq_of_mem_replicate h2; omega
    · omega
theorem filter_suffix {p : Int} {W w : Nat} : ∀ {L : List (List Int)} {l : Nat → Nat}, Rr p W L l → L.filter (fun r => decide ((w : Int) ≤ leadP r)) = L.drop (posP L w)
  | [], _, _ => rfl
  | a :: L, l, r => by
    have h0 : leadP a = l 0 := r.lead (i := 0) (by simp)
    obtain ⟨t1, t2, t3⟩ := posP_ok (at_ := w) r
    by_cases hc : l 0 < w
    · have e : posP (a :: L) w = posP L w + 1 := by simp [posP, h0, hc]
      rw [e, List.drop_succ_cons, List.filter_cons, if_neg (by simp [h0]; omega)]
      exact filter_suffix r.tail
    · have e : posP (a :: L) w = 0 := Nat.eq_zero_of_not_pos fun hpos => hc (t2 0 hpos)
      rw [e, List.drop_zero]
      apply List.filter_eq_self.2
      intro x hx
      obtain ⟨i, hi, rfl⟩ := List.getElem_of_mem hx
      have := r.lead hi
      rw [List.getD_eq_getElem?_getD, List.getElem?_eq_getElem hi] at this
      simp only [Option.getD_some] at this
      have := t3 i hi (by omega)
      simp only [decide_eq_true_eq]
      omega
theorem kerP_rr {p : Int} {w : Nat} (hP : isP p = true) {rows : List (List Int)} (h : ∀ r ∈ rows, r.length = w ∧ Bnd p r) : ∃ l, Rr p rows.length (kerP p w rows) l := by
  obtain ⟨⟨l, r⟩, _⟩ := ech_red (w := w + rows.length) hP (longP_tbl (isP_two hP).1 h)
  obtain ⟨t1, t2, t3⟩ := posP_ok (at_ := w) r
  rw [kerP, filter_suffix r]
  generalize ech p (longP rows) = E at *
  generalize posP E w = q at *
  have hl : ((E.drop q).map fun r => r.drop w).length = E.length - q := by simp
  have gt : ∀ i, i < E.length - q → ((E.drop q).map fun r => r.drop w).getD i default = (E.getD (q + i) default).drop w := fun i hi => by
    rw [List.getD_eq_getElem?_getD, List.getElem?_map, List.getElem?_drop, List.getD_eq_getElem?_getD, List.getElem?_eq_getElem (by omega)]; rfl
  have gg : ∀ i j, i < E.length - q → g2 ((E.drop q).map fun r => r.drop w) i j = g2 E (q + i) (w + j) := fun i j hi => by
    rw [g2, gt i hi, List.getD_eq_getElem?_getD, List.getElem?_drop, g2, List.getD_eq_getElem?_getD (l := E.getD (q + i) default)]
  refine ⟨fun i => l (q + i) - w, fun i hi => ?_, fun i hi => ?_, fun i hi => ?_, fun i hi => ?_, fun i j hi hj => ?_, fun i k hik hk => ?_, fun i k hi hk hne => ?_⟩
  · rw [hl] at hi; rw [gt i hi, List.length_drop, r.len (q + i) (by omega)]; omega
  · rw [hl] at hi; rw [gt i hi]; exact fun x hx => r.bnd (q + i) (by omega) x (List.mem_of_mem_drop hx)
  · rw [hl] at hi
    have := r.lt (q + i) (by omega)
    have := t3 (q + i) (by omega) (by omega)
    omega
  · rw [hl] at hi
    have := t3 (q + i) (by omega) (by omega)
    rw [gg i _ hi, show w + (l (q + i) - w) = l (q + i) by omega]; exact r.one (q + i) (by omega)
  · rw [hl] at hi
    rw [gg i j hi]; exact r.zb (q + i) _ (by omega) (by omega)
  · rw [hl] at hk
    have := t3 (q + i) (by omega) (by omega)
    have := r.inc (q + i) (q + k) (by omega) (by omega)
    omega
  · rw [hl] at hi hk
    have := t3 (q + i) (by omega) (by omega)
    rw [gg k _ hk, show w + (l (q + i) - w) = l (q + i) by omega]; exact r.cl (q + i) (q + k) (by omega) (by omega) (by omega)

end Go.Proofs.Ytbplnadngahgaaa
