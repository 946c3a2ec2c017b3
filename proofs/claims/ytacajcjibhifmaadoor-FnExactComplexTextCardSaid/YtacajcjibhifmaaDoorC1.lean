/-
  Walks: all numbers of a complex.
  Conditions: each theorem's own.
-/
import Derived.Test.YtacajcjibhifmaaDoorA4
set_option linter.unusedVariables false
set_option linter.unusedSimpArgs false
namespace Go.Proofs.YtacajcjibhifmaaDoor
open Go
abbrev M3 := List (List (List Int))
/-- A number is added at a place, modulo p. -/
def upd3 (p : Int) (M : M3) (k r c : Nat) (x : Int) : M3 := M.set k ((M.getD k default).set r (((M.getD k default).getD r default).set c ((((M.getD k default).getD r default).getD c 0 + x) % p)))
def get3 (M : M3) (k r c : Nat) : Int := ((M.getD k default).getD r default).getD c 0
/-- How long a table of tables is, row by row. -/
structure Sh (L : Nat) (A B : Nat → Nat) (M : M3) : Prop where
  len : M.length = L
  rows : ∀ k, k < L → (M.getD k default).length = A k
  cols : ∀ k r, k < L → r < A k → ((M.getD k default).getD r default).length = B k
theorem getD_set {α : Type} {xs : List α} {k j : Nat} {x d : α} (h : k < xs.length) : (xs.set k x).getD j d = if k = j then x else xs.getD j d := by
  simp only [List.getD_eq_getElem?_getD, List.getElem?_set]
  split
  · rename_i e; subst e; first | rfl | (rw [if_pos h]; rfl)
  · rfl
theorem upd3_sh {L : Nat} {A B : Nat → Nat} {M : M3} {p x : Int} {k r c : Nat} (s : Sh L A B M) (hk : k < L) (hr : r < A k) : Sh L A B (upd3 p M k r c x) := by
  have hk' : k < M.length := by have := s.len; omega
  have hr' : r < (M.getD k default).length := by have := s.rows k hk; omega
  refine ⟨by rw [upd3, List.length_set]; exact s.len, fun j hj => ?_, fun j q hj hq => ?_⟩
  · rw [upd3, getD_set hk']
    split
    · rename_i e; subst e; rw [List.length_set]; exact s.rows _ hk
    · exact s.rows j hj
  · rw [upd3, getD_set hk']
    split
    · rename_i e; subst e
      rw [getD_set hr']
      split
      · rename_i e; subst e; rw [List.length_set]; exact s.cols _ _ hk hr
      · exact s.cols _ q hj hq
    · exact s.cols j q hj hq
theorem upd3_get {L : Nat} {A B : Nat → Nat} {M : M3} {p x : Int} {k r c : Nat} (s : Sh L A B M) (hk : k < L) (hr : r < A k) (hc : c < B k) (k' r' c' : Nat) : get3 (upd3 p M k r c x) k' r' c' = if (k, r, c) = (k', r', c') then (get3 M k' r' c' + x) % p else get3 M k' r' c' := by
  have hk' : k < M.length := by have := s.len; omega
  have hr' : r < (M.getD k default).length := by have := s.rows k hk; omega
  have hc' : c < ((M.getD k default).getD r default).length := by have := s.cols k r hk hr; omega
  by_cases e1 : k = k'
  · subst e1
    by_cases e2 : r = r'
    · subst e2
      by_cases e3 : c = c'
      · subst e3
        simp only [get3, upd3, getD_set hk', getD_set hr', getD_set hc', if_true]
      · rw [if_neg (by simp [e3])]
        simp only [get3, upd3, getD_set hk', getD_set hr', getD_set hc', if_true, if_neg e3]
    · rw [if_neg (by simp [e2])]
      simp only [get3, upd3, getD_set hk', getD_set hr', if_true, if_neg e2]
  · rw [if_neg (by simp [e1])]
    simp only [get3, upd3, getD_set hk', if_neg e1]
theorem Sh.ext {L : Nat} {A B : Nat → Nat} {M N : M3} (s : Sh L A B M) (t : Sh L A B N) (h : ∀ k r c, k < L → r < A k → c < B k → get3 M k r c = get3 N k r c) : M = N := by
  have g3 : ∀ {α : Type} [Inhabited α] {xs ys : List α}, xs.length = ys.length → (∀ i, i < xs.length → xs.getD i default = ys.getD i default) → xs = ys := by
    intro α _ xs ys hl hh
    apply List.ext_getElem hl
    intro i h1 h2
    have := hh i h1
    rwa [List.getD_eq_getElem?_getD, List.getD_eq_getElem?_getD, List.getElem?_eq_getElem h1, List.getElem?_eq_getElem h2] at this
  refine g3 (by rw [s.len, t.len]) (fun k hk => ?_)
  rw [s.len] at hk
  refine g3 (by rw [s.rows k hk, t.rows k hk]) (fun r hr => ?_)
  rw [s.rows k hk] at hr
  refine g3 (by rw [s.cols k r hk hr, t.cols k r hk hr]) (fun c hc => ?_)
  rw [s.cols k r hk hr] at hc
  exact h k r c hk hr hc
def In3 (p : Int) (L : Nat) (A B : Nat → Nat) (M : M3) : Prop := ∀ k r c, k < L → r < A k → c < B k → 0 ≤ get3 M k r c ∧ get3 M k r c < p
abbrev Upd := (Nat × Nat × Nat) × Int
def applyU (p : Int) : M3 → List Upd → M3
  | M, [] => M
  | M, u :: l => applyU p (upd3 p M u.1.1 u.1.2.1 u.1.2.2 u.2) l
theorem applyU_app (p : Int) : ∀ (l m : List Upd) (M : M3), applyU p M (l ++ m) = applyU p (applyU p M l) m
  | [], _, _ => rfl
  | u :: l, m, M => by rw [List.cons_append, applyU, applyU, applyU_app p l m]
/-- What the updates of a list bring to a place. -/
def sumT (t : Nat × Nat × Nat) : List Upd → Int
  | [] => 0
  | u :: l => (if u.1 = t then u.2 else 0) + sumT t l
theorem sumT_app (t : Nat × Nat × Nat) : ∀ l m : List Upd, sumT t (l ++ m) = sumT t l + sumT t m
  | [], m => by simp [sumT]
  | u :: l, m => by rw [List.cons_append, sumT, sumT, sumT_app t l m, Int.add_assoc]
def InU (L : Nat) (A B : Nat → Nat) (u : Upd) : Prop := u.1.1 < L ∧ u.1.2.1 < A u.1.1 ∧ u.1.2.2 < B u.1.1
theorem applyU_sh {L : Nat} {A B : Nat → Nat} {p : Int} : ∀ {l : List Upd} {M : M3}, Sh L A B M → (∀ u ∈ l, InU L A B u) → Sh L A B (applyU p M l)
  | [], _, s, _ => s
  | u :: l, M, s, h => by
    rw [applyU]
    exact applyU_sh (upd3_sh s (h u (by simp)).1 (h u (by simp)).2.1) (fun v hv => h v (List.mem_cons_of_mem _ hv))
theorem upd3_in {L : Nat} {A B : Nat → Nat} {p : Int} {M : M3} {u : Upd} (hp : 0 < p) (s : Sh L A B M) (hi : In3 p L A B M) (hu : InU L A B u) : In3 p L A B (upd3 p M u.1.1 u.1.2.1 u.1.2.2 u.2) := by
  intro k r c h1 h2 h3
  rw [upd3_get s hu.1 hu.2.1 hu.2.2]
  split
  · exact ⟨Int.emod_nonneg _ (by omega), Int.emod_lt_of_pos _ hp⟩
  · exact hi k r c h1 h2 h3
theorem applyU_in {L : Nat} {A B : Nat → Nat} {p : Int} (hp : 0 < p) : ∀ {l : List Upd} {M : M3}, Sh L A B M → In3 p L A B M → (∀ u ∈ l, InU L A B u) → In3 p L A B (applyU p M l)
  | [], _, _, hi, _ => hi
  | u :: l, M, s, hi, h => by
    rw [applyU]
    exact applyU_in hp (upd3_sh s (h u (by simp)).1 (h u (by simp)).2.1) (upd3_in hp s hi (h u (by simp))) (fun v hv => h v (List.mem_cons_of_mem _ hv))
theorem applyU_get {L : Nat} {A B : Nat → Nat} {p : Int} (hp : 0 < p) {k r c : Nat} (h1 : k < L) (h2 : r < A k) (h3 : c < B k) : ∀ {l : List Upd} {M : M3}, Sh L A B M → In3 p L A B M → (∀ u ∈ l, InU L A B u) → get3 (applyU p M l) k r c = (get3 M k r c + sumT (k, r, c) l) % p
  | [], M, s, hi, _ => by
    have := hi k r c h1 h2 h3
    rw [applyU, sumT, Int.add_zero, Int.emod_eq_of_lt this.1 this.2]
  | u :: l, M, s, hi, h => by
    have hu := h u (by simp)
    rw [applyU, applyU_get hp h1 h2 h3 (upd3_sh s hu.1 hu.2.1) (upd3_in hp s hi hu) (fun v hv => h v (List.mem_cons_of_mem _ hv)), upd3_get s hu.1 hu.2.1 hu.2.2, sumT]
    by_cases e : u.1 = (k, r, c)
    · rw [if_pos (show (u.1.1, u.1.2.1, u.1.2.2) = (k, r, c) from e), if_pos e, Int.emod_add_emod]
      congr 1; omega
    · rw [if_neg (show ¬ (u.1.1, u.1.2.1, u.1.2.2) = (k, r, c) from e), if_neg e, Int.zero_add]
-- the updates of all numbers of a complex's maps
abbrev UF := Nat → Nat → Nat → Int → List Upd
def uJ (U : UF) (k i : Nat) (row : List Int) : Nat → List Upd
  | 0 => []
  | m + 1 => uJ U k i row m ++ U k i m (row.getD m 0)
def uI (U : UF) (k : Nat) (R : List (List Int)) : Nat → List Upd
  | 0 => []
  | m + 1 => uI U k R m ++ uJ U k m (R.getD m default) (R.getD m default).length
def uK (U : UF) (M : M3) : Nat → List Upd
  | 0 => []
  | m + 1 => uK U M m ++ uI U m (M.getD m default) (M.getD m default).length
/-- An element of a nested row of one's own. -/
theorem OS.row2 {h : Heap} {vm : Value} {M : M3} {f : List Nat} (hm : O3 h vm M f) (hn : f.Nodup) {k r : Nat} (hk : k < M.length) (hr : r < (M.getD k default).length) :
    ∃ f2, O1 h (rowV h (rowV h vm k) r) ((M.getD k default).getD r default) f2 ∧ f2.Nodup ∧ (∀ b ∈ f2, b ∈ f) ∧ ∀ h' x', Chg f2 h h' → O1 h' (rowV h (rowV h vm k) r) x' f2 → O3 h' vm (M.set k ((M.getD k default).set r x')) f := by
  obtain ⟨f1, hE1, hs1, hn1, hb1⟩ := OS.elem hm hn k hk
  obtain ⟨f2, hE2, hs2, hn2, hb2⟩ := OS.elem hE1 hn1 r hr
  exact ⟨f2, hE2, hn2, fun b hb => hs1 b (hs2 b hb), fun h' x' c o => hb1 h' _ (c.mono hs2) (hb2 h' _ c o)⟩

end Go.Proofs.YtacajcjibhifmaaDoor
