/-
  What the statement FnExactStablePage uses of the walks, part 1.
  Conditions: each theorem's own.
-/
import Derived.Test.YtjjjgllbocgkbaaG16
import Derived.Test.YtjjjgllbocgkbaaG17
import Derived.Test.YtjjjgllbocgkbaaG14
import Derived.Test.YtjjjgllbocgkbaaG13
import Derived.Test.YtjjjgllbocgkbaaG15
import Derived.Test.YtjjjgllbocgkbaaG18
import Derived.Test.YtjjjgllbocgkbaaG19
set_option linter.unusedVariables false
set_option linter.unusedSimpArgs false
namespace Go.Proofs.Ytjjjgllbocgkbaa
open Go
abbrev Apart (fp fq : List Nat) : Prop := ∀ b ∈ fp, b ∉ fq
def Sub (fp0 : List Nat) (n : Nat) (fp : List Nat) : Prop := ∀ b ∈ fp, b ∈ fp0 ∨ n ≤ b
theorem apart_lt {fp fq : List Nat} {m lo : Nat} (l : ∀ b ∈ fp, b < m) (f : Fresh lo fq) (h : m ≤ lo) : Apart fp fq := fun b hb hq => by
 have := l b hb; have := f.ge b hq; omega
theorem apart_gt {fp fq : List Nat} {m lo : Nat} (f : Fresh lo fp) (l : ∀ b ∈ fq, b < m) (h : m ≤ lo) : Apart fp fq := fun b hb hq => by
 have := l b hq; have := f.ge b hb; omega
theorem Apart.symm {fp fq : List Nat} (h : Apart fp fq) : Apart fq fp := fun b hb hq => h b hq hb
theorem Apart.app {fp f1 f2 : List Nat} (h1 : Apart fp f1) (h2 : Apart fp f2) : Apart fp (f1 ++ f2) := fun b hb hq => by
 rcases List.mem_append.1 hq with h | h
 ·exact h1 b hb h
 ·exact h2 b hb h
theorem Apart.nil (fp : List Nat) : Apart fp [] := fun b hb hq => by cases hq
/-- What has grown out of a list, an element and new blocks lies apart from what was apart from both and is older. -/
theorem Apart.grow {fo fp fx fp' : List Nat} {m k : Nat} (hl : ∀ b ∈ fo, b < k) (hk : k ≤ m) (h1 : Apart fo fp) (h2 : Apart fo fx) (hs : ∀ b ∈ fp', b ∈ fp ∨ b ∈ fx ∨ m ≤ b) : Apart fo fp' := fun b hb hp => by
 rcases hs b hp with h | h | h
 ·exact h1 b hb h
 ·exact h2 b hb h
 ·have := hl b hb; omega
theorem Fresh.appd {lo lx m : Nat} {fp fx fp' : List Nat} (f : Fresh lo fp) (g : Fresh lx fx) (hx : lo ≤ lx) (hm : lo ≤ m) (hn : fp'.Nodup) (hs : ∀ b ∈ fp', b ∈ fp ∨ b ∈ fx ∨ m ≤ b) : Fresh lo fp' :=
 ⟨hn, fun b hb => by
  rcases hs b hb with h | h | h
  ·exact f.ge b h
  ·have := g.ge b h; omega
  ·omega⟩
theorem Sub.refl {fp0 : List Nat} {n : Nat} : Sub fp0 n fp0 := fun _ h => .inl h
theorem Sub.left {f1 f2 fp : List Nat} {n : Nat} (h : Sub f1 n fp) : Sub (f1 ++ f2) n fp := fun b hb => (h b hb).elim (fun h => .inl (List.mem_append_left _ h)) .inr
theorem Sub.right {f1 f2 fp : List Nat} {n : Nat} (h : Sub f2 n fp) : Sub (f1 ++ f2) n fp := fun b hb => (h b hb).elim (fun h => .inl (List.mem_append_right _ h)) .inr
theorem Sub.app {fp0 f1 f2 : List Nat} {n : Nat} (h1 : Sub fp0 n f1) (h2 : Sub fp0 n f2) : Sub fp0 n (f1 ++ f2) := fun b hb => by
 rcases List.mem_append.1 hb with h | h
 ·exact h1 b h
 ·exact h2 b h
theorem Sub.fresh {fp0 fp : List Nat} {n lo : Nat} (f : Fresh lo fp) (h : n ≤ lo) : Sub fp0 n fp := fun b hb => .inr (Nat.le_trans h (f.ge b hb))
theorem Sub.grow {fp0 fp fx fp' : List Nat} {n m : Nat} (h1 : Sub fp0 n fp) (h2 : Sub fp0 n fx) (hm : n ≤ m) (hs : ∀ b ∈ fp', b ∈ fp ∨ b ∈ fx ∨ m ≤ b) : Sub fp0 n fp' := fun b hb => by
 rcases hs b hb with h | h | h
 ·exact h1 b h
 ·exact h2 b h
 ·exact .inr (Nat.le_trans hm h)
theorem Sub.trans {fp0 fp1 fp : List Nat} {n m : Nat} (h : Sub fp1 m fp) (k : Sub fp0 n fp1) (hm : n ≤ m) : Sub fp0 n fp := fun b hb => by
 rcases h b hb with h | h
 ·exact k b h
 ·exact .inr (Nat.le_trans hm h)
theorem Sub.nil {fp0 : List Nat} {n : Nat} : Sub fp0 n [] := fun b hb => by cases hb
theorem ge_of {lo m : Nat} {fp : List Nat} (f : Fresh lo fp) (h : m ≤ lo) : ∀ b ∈ fp, m ≤ b := fun b hb => Nat.le_trans h (f.ge b hb)
theorem ge_app {m : Nat} {f1 f2 : List Nat} (h1 : ∀ b ∈ f1, m ≤ b) (h2 : ∀ b ∈ f2, m ≤ b) : ∀ b ∈ f1 ++ f2, m ≤ b := fun b hb => by
 rcases List.mem_append.1 hb with h | h
 ·exact h1 b h
 ·exact h2 b h
theorem Chg.step {fp0 fp : List Nat} {a b c : Heap} (h : Chg fp0 a b) (k : Chg fp b c) (s : Sub fp0 a.size fp) : Chg fp0 a c :=
 ⟨Nat.le_trans h.size k.size, fun q hq hn => (k.block q (Nat.lt_of_lt_of_le hq h.size) (fun hm => by
  rcases s q hm with h1 | h1
  ·exact hn h1
  ·omega)).trans (h.block q hq hn)⟩
theorem Chg.stepE {fp0 : List Nat} {a b c : Heap} (h : Chg fp0 a b) (k : Ext b c) : Chg fp0 a c := h.trans (k.chg _)
theorem Apart.sub_ {fz fp0 fp : List Nat} {m n : Nat} (hl : ∀ b ∈ fz, b < m) (hm : m ≤ n) (a : Apart fz fp0) (s : Sub fp0 n fp) : Apart fz fp := fun b hb hp => by
 rcases s b hp with h | h
 ·exact a b hb h
 ·have := hl b hb; omega
theorem Fresh.two {l1 l2 lo : Nat} {fp fq : List Nat} (f1 : Fresh l1 fp) (f2 : Fresh l2 fq) (ap : Apart fp fq) (h1 : lo ≤ l1) (h2 : lo ≤ l2) : Fresh lo (fp ++ fq) :=
 ⟨List.nodup_append.2 ⟨f1.nodup, f2.nodup, fun b hb c hc e => ap b hb (e ▸ hc)⟩, fun b hb => by
  rcases List.mem_append.1 hb with h | h
  ·exact Nat.le_trans h1 (f1.ge b h)
  ·exact Nat.le_trans h2 (f2.ge b h)⟩
theorem apart_nodup {lo : Nat} {f1 f2 : List Nat} (h : Fresh lo (f1 ++ f2)) : Apart f1 f2 := fun b hb hm => (List.nodup_append.1 h.nodup).2.2 b hb b hm rfl
theorem one_lt {b n : Nat} (h : b < n) : ∀ q ∈ [b], q < n := fun q hq => by simp at hq; omega
theorem BoxAt.chgA {h h' : Heap} {b : Nat} {cs : Array Value} {t : TypeId} {fp : List Nat} (hb : BoxAt h b cs t) (c : Chg fp h h') (hn : Apart [b] fp) : BoxAt h' b cs t := hb.chg c (hn b (by simp))
theorem map_takeA {α β : Type} {f : α → β} {xs : List α} {d : α} {k : Nat} (hk : k < xs.length) : (xs.take k).map f ++ [f (xs.getD k d)] = (xs.take (k + 1)).map f := by
 rw [List.take_succ_eq_append_getElem hk, List.map_append, List.getD_eq_getElem?_getD, List.getElem?_eq_getElem hk]; rfl
theorem map_endA {α β : Type} {f : α → β} {xs : List α} {k : Nat} (hk : ¬ k < xs.length) : (xs.take k).map f = xs.map f := by rw [List.take_of_length_le (by omega)]
theorem range_step {β : Type} (f : Nat → β) (k : Nat) : (List.range k).map f ++ [f k] = (List.range (k + 1)).map f := by simp [List.range_succ]
theorem mod_twice {p x : Int} (hp : 0 < p) : (x.tmod p + p).tmod p = x % p := by
 have h1 : -p < x.tmod p := by
  have := Int.lt_tmod_of_pos x hp; omega
 rw [Int.tmod_eq_emod_of_nonneg (by omega), Int.add_emod_right, Int.tmod_def, Int.sub_mul_emod_self_left]
theorem tmod_in {p x : Int} (hp : 0 < p) : -p < x.tmod p ∧ x.tmod p < p := ⟨by have := Int.lt_tmod_of_pos x hp; omega, Int.tmod_lt_of_pos x hp⟩
theorem binV_eqB (a b : Bool) : binV TT .eql 4 (.bool a) (.bool b) = some (.bool (a == b)) := by simp [binV, T4]
theorem binV_neB (a b : Bool) : binV TT .neq 4 (.bool a) (.bool b) = some (.bool (!(a == b))) := by simp [binV, T4]
theorem binV_eqNil (A : Option Addr) (n c : Nat) : binV TT .eql 22 (.slice A n c) (.slice none 0 0) = some (.bool A.isNone) := by cases A <;> simp [binV, T22]
attribute [go_sem] binV_eqB binV_neB binV_eqNil
end Go.Proofs.Ytjjjgllbocgkbaa

namespace Go.Proofs.Ytjjjgllbocgkbaa
open Go
def szI (xs : List Int) (left : Int) : Int := if left - xs.length < 0 then -1 else left - xs.length
def szRows {α : Type} (f : α → Int → Int) : List α → Int → Int
 | [], l => l
 | x :: r, l => if f x l < 0 then -1 else szRows f r (f x l)
def szL {α : Type} (f : α → Int → Int) (xs : List α) (left : Int) : Int := if left - xs.length < 0 then -1 else szRows f xs (left - xs.length)
def sz2 : List (List Int) → Int → Int := szL szI
theorem szI_le (xs : List Int) (l : Int) (h : 0 ≤ l) : -1 ≤ szI xs l ∧ szI xs l ≤ l := by unfold szI; split <;> omega
theorem szRows_le {α : Type} (f : α → Int → Int) (hf : ∀ x l, 0 ≤ l → -1 ≤ f x l ∧ f x l ≤ l) : ∀ (r : List α) (l : Int), 0 ≤ l → -1 ≤ szRows f r l ∧ szRows f r l ≤ l
 | [], l, h => by simp [szRows]; omega
 | x :: r, l, h => by
  unfold szRows
  have := hf x l h
  split
  ·omega
  ·have := szRows_le f hf r (f x l) (by omega); omega
theorem szL_le {α : Type} (f : α → Int → Int) (hf : ∀ x l, 0 ≤ l → -1 ≤ f x l ∧ f x l ≤ l) (r : List α) (l : Int) (h : 0 ≤ l) : -1 ≤ szL f r l ∧ szL f r l ≤ l := by
 unfold szL
 split
 ·omega
 ·have := szRows_le f hf r (l - r.length) (by omega); omega
theorem sz2_le (r : List (List Int)) (l : Int) (h : 0 ≤ l) : -1 ≤ sz2 r l ∧ sz2 r l ≤ l := szL_le szI szI_le r l h
theorem szRows_drop {α : Type} [Inhabited α] (f : α → Int → Int) (xs : List α) (k : Nat) (l : Int) (h : (k : Int) < xs.length) : szRows f (xs.drop k) l = if f (xs.getD k default) l < 0 then -1 else szRows f (xs.drop (k + 1)) (f (xs.getD k default) l) := by
 have hk : k < xs.length := by omega
 rw [List.drop_eq_getElem_cons hk, szRows, List.getD_eq_getElem?_getD, List.getElem?_eq_getElem hk]
 rfl

set_option maxRecDepth 100000 in
theorem szS_ok (v : Value) (xs : List Int) (left : Int) (h : Heap) (hv : R1 h v xs) (h0 : 0 ≤ left) (h1 : left ≤ 1048576) : CallA Try.prog 108 #[v, .int .i64 left] h fun v h' => v = .int .i64 (szI xs left) ∧ h' = h := by
 have hle := RdS.le hv
 refine callA_intro TTok (args := [_, _]) Try.func108 (by kernel_rfl) rfl 12 rfl (by simp) [.tmp 4] rfl ?_
 simp only [idxs, Nat.reduceAdd]
 refine den_seq ?_
 refine den_region TTok ?_
 intro K hK
 simp -implicitDefEqProofs (disch := first | decide | assumption | omega) only [go_sem, RdS.len hv sl22, RdS.idx hv sl22, R1.intB hv (HPres.refl _), RdS.cells hv, wrap_id]
 refine hK _ _ ?_
 clear hK K
 refine den_seq ?_
 refine den_region TTok ?_
 intro K hK
 simp -implicitDefEqProofs (disch := first | decide | assumption | omega) only [go_sem, RdS.len hv sl22, RdS.idx hv sl22, R1.intB hv (HPres.refl _), RdS.cells hv, wrap_id]
 refine hK _ _ ?_
 clear hK K
 refine den_seq ?_
 refine den_seq ?_
 refine den_region TTok ?_
 intro K hK
 simp -implicitDefEqProofs (disch := first | decide | assumption | omega) only [go_sem, RdS.len hv sl22, RdS.idx hv sl22, R1.intB hv (HPres.refl _), RdS.cells hv, wrap_id]
 refine hK _ _ ?_
 clear hK K
 refine den_cond rfl (fun c0 => ?_) (fun c0 => ?_)
 ·try simp only [decide_eq_true_eq, decide_eq_false_iff_not, beq_iff_eq, beq_eq_false_iff_ne, bne_iff_ne, ne_eq, Bool.not_eq_true', Bool.not_eq_false', Bool.and_eq_true, Bool.or_eq_true, bne_eq_false_iff_eq] at c0
  refine den_seq ?_
  refine den_region TTok ?_
  intro K hK
  simp -implicitDefEqProofs (disch := first | decide | assumption | omega) only [go_sem, RdS.len hv sl22, RdS.idx hv sl22, R1.intB hv (HPres.refl _), RdS.cells hv, wrap_id]
  refine hK _ _ ?_
  clear hK K
  refine den_ret ?_
  simp (disch := decide) only [resP_1, puts_same, puts_ne]
  exact ⟨vint (by rw [szI, if_pos c0]), trivial⟩
 ·try simp only [decide_eq_true_eq, decide_eq_false_iff_not, beq_iff_eq, beq_eq_false_iff_ne, bne_iff_ne, ne_eq, Bool.not_eq_true', Bool.not_eq_false', Bool.and_eq_true, Bool.or_eq_true, bne_eq_false_iff_eq] at c0
  refine den_skip ?_
  refine den_seq ?_
  refine den_region TTok ?_
  intro K hK
  simp -implicitDefEqProofs (disch := first | decide | assumption | omega) only [go_sem, RdS.len hv sl22, RdS.idx hv sl22, R1.intB hv (HPres.refl _), RdS.cells hv, wrap_id]
  refine hK _ _ ?_
  clear hK K
  refine den_ret ?_
  simp (disch := decide) only [resP_1, puts_same, puts_ne]
  exact ⟨vint (by rw [szI, if_neg c0]), trivial⟩

set_option maxRecDepth 100000 in
theorem szSS_ok (v : Value) (R : List (List Int)) (left : Int) (h : Heap) (hv : R2 h v R) (h0 : 0 ≤ left) (h1 : left ≤ 1048576) : CallA Try.prog 67 #[v, .int .i64 left] h fun v h' => v = .int .i64 (sz2 R left) ∧ h' = h := by
 have hle := RdS.le hv
 refine callA_intro TTok (args := [_, _]) Try.func67 (by kernel_rfl) rfl 27 rfl (by simp) [.tmp 4] rfl ?_
 simp only [idxs, Nat.reduceAdd]
 refine den_seq ?_
 refine den_region TTok ?_
 intro K hK
 simp -implicitDefEqProofs (disch := first | decide | assumption | omega) only [go_sem, RdS.len hv sl26, RdS.idx hv sl26, RdS.cellB hv (HPres.refl _), RdS.cells hv, wrap_id]
 refine hK _ _ ?_
 clear hK K
 refine den_seq ?_
 refine den_region TTok ?_
 intro K hK
 simp -implicitDefEqProofs (disch := first | decide | assumption | omega) only [go_sem, RdS.len hv sl26, RdS.idx hv sl26, RdS.cellB hv (HPres.refl _), RdS.cells hv, wrap_id]
 refine hK _ _ ?_
 clear hK K
 refine den_seq ?_
 refine den_seq ?_
 refine den_region TTok ?_
 intro K hK
 simp -implicitDefEqProofs (disch := first | decide | assumption | omega) only [go_sem, RdS.len hv sl26, RdS.idx hv sl26, RdS.cellB hv (HPres.refl _), RdS.cells hv, wrap_id]
 refine hK _ _ ?_
 clear hK K
 refine den_cond rfl (fun c0 => ?_) (fun c0 => ?_)
 ·try simp only [decide_eq_true_eq, decide_eq_false_iff_not, beq_iff_eq, beq_eq_false_iff_ne, bne_iff_ne, ne_eq, Bool.not_eq_true', Bool.not_eq_false', Bool.and_eq_true, Bool.or_eq_true, bne_eq_false_iff_eq] at c0
  refine den_seq ?_
  refine den_region TTok ?_
  intro K hK
  simp -implicitDefEqProofs (disch := first | decide | assumption | omega) only [go_sem, RdS.len hv sl26, RdS.idx hv sl26, RdS.cellB hv (HPres.refl _), RdS.cells hv, wrap_id]
  refine hK _ _ ?_
  clear hK K
  refine den_ret ?_
  simp (disch := decide) only [resP_1, puts_same, puts_ne]
  exact ⟨vint (by rw [sz2, szL, if_pos c0]), trivial⟩
 ·try simp only [decide_eq_true_eq, decide_eq_false_iff_not, beq_iff_eq, beq_eq_false_iff_ne, bne_iff_ne, ne_eq, Bool.not_eq_true', Bool.not_eq_false', Bool.and_eq_true, Bool.or_eq_true, bne_eq_false_iff_eq] at c0
  refine den_skip ?_
  refine den_seq ?_
  refine den_seq ?_
  refine den_region TTok ?_
  intro K hK
  simp -implicitDefEqProofs (disch := first | decide | assumption | omega) only [go_sem, RdS.len hv sl26, RdS.idx hv sl26, RdS.cellB hv (HPres.refl _), RdS.cells hv, wrap_id]
  refine hK _ _ ?_
  clear hK K
  refine den_block ?_
  refine den_sel [1, 5, 0] ?_
  intro env_1
  simp only [go_sem]
  refine den_loopP (σ := Nat × Int) (fun s => [(1, .int .i64 s.2), (5, .int .i64 (s.1 : Int))]) (fun s => s.1 ≤ R.length ∧ 0 ≤ s.2 ∧ s.2 ≤ 1048576 ∧ szRows szI (R.drop s.1) s.2 = szRows szI R (left - R.length)) (fun s => R.length - s.1) (0, left - R.length) ?_ ?_
  ·exact ⟨rfl, by simp, by simp; omega, by simp; omega, rfl⟩
  ·rintro ⟨k, l⟩ ee3 ⟨hk, hl0, hl1, heq⟩
   simp only [List.cons_append, List.nil_append]
   refine den_seq ?_
   refine den_seq ?_
   refine den_region TTok ?_
   intro K hK
   simp -implicitDefEqProofs (disch := first | decide | assumption | omega) only [go_sem, RdS.len hv sl26, RdS.idx hv sl26, RdS.cellB hv (HPres.refl _), RdS.cells hv, wrap_id]
   refine hK _ _ ?_
   clear hK K
   refine den_cond rfl (fun c1 => ?_) (fun c1 => ?_)
   ·try simp only [decide_eq_true_eq, decide_eq_false_iff_not, beq_iff_eq, beq_eq_false_iff_ne, bne_iff_ne, ne_eq, Bool.not_eq_true', Bool.not_eq_false', Bool.and_eq_true, Bool.or_eq_true, bne_eq_false_iff_eq] at c1
    refine den_skip ?_
    refine den_seq ?_
    refine den_block ?_
    refine den_seq ?_
    refine den_region TTok ?_
    intro K hK
    have hr4 := RdS.rowN hv k (by omega)
    have hlhr4 := RdS.le hr4
    simp -implicitDefEqProofs (disch := first | decide | assumption | omega) only [go_sem, ld22, RdS.len hv sl26, RdS.idx hv sl26, RdS.cellB hv (HPres.refl _), RdS.cells hv, RdS.len hr4 sl22, RdS.idx hr4 sl22, R1.intB hr4 (HPres.refl _), RdS.cells hr4, wrap_id]
    try simp -implicitDefEqProofs (disch := first | decide | assumption | omega) only [go_sem, RdS.len hv sl26, RdS.idx hv sl26, RdS.cellB hv (HPres.refl _), RdS.cells hv, RdS.len hr4 sl22, RdS.idx hr4 sl22, R1.intB hr4 (HPres.refl _), RdS.cells hr4, wrap_id]
    refine CallA.pure (szS_ok _ _ _ _ hr4 (by omega) (by omega)) ?_
    try simp -implicitDefEqProofs (disch := first | decide | assumption | omega) only [go_sem, RdS.len hv sl26, RdS.idx hv sl26, RdS.cellB hv (HPres.refl _), RdS.cells hv, RdS.len hr4 sl22, RdS.idx hr4 sl22, R1.intB hr4 (HPres.refl _), RdS.cells hr4, wrap_id]
    refine hK _ _ ?_
    clear hK K
    refine den_seq ?_
    refine den_region TTok ?_
    intro K hK
    simp -implicitDefEqProofs (disch := first | decide | assumption | omega) only [go_sem, RdS.len hv sl26, RdS.idx hv sl26, RdS.cellB hv (HPres.refl _), RdS.cells hv, RdS.len hr4 sl22, RdS.idx hr4 sl22, R1.intB hr4 (HPres.refl _), RdS.cells hr4, wrap_id]
    refine hK _ _ ?_
    clear hK K
    refine den_cond rfl (fun c2 => ?_) (fun c2 => ?_)
    ·try simp only [decide_eq_true_eq, decide_eq_false_iff_not, beq_iff_eq, beq_eq_false_iff_ne, bne_iff_ne, ne_eq, Bool.not_eq_true', Bool.not_eq_false', Bool.and_eq_true, Bool.or_eq_true, bne_eq_false_iff_eq] at c2
     refine den_seq ?_
     refine den_region TTok ?_
     intro K hK
     simp -implicitDefEqProofs (disch := first | decide | assumption | omega) only [go_sem, RdS.len hv sl26, RdS.idx hv sl26, RdS.cellB hv (HPres.refl _), RdS.cells hv, RdS.len hr4 sl22, RdS.idx hr4 sl22, R1.intB hr4 (HPres.refl _), RdS.cells hr4, wrap_id]
     refine hK _ _ ?_
     clear hK K
     refine den_ret ?_
     simp (disch := decide) only [resP_1, puts_same, puts_ne]
     have hd := szRows_drop szI R k l c1
     rw [if_pos c2] at hd
     exact ⟨vint (by rw [sz2, szL, if_neg c0, ← heq]; exact hd.symm), trivial⟩
    ·try simp only [decide_eq_true_eq, decide_eq_false_iff_not, beq_iff_eq, beq_eq_false_iff_ne, bne_iff_ne, ne_eq, Bool.not_eq_true', Bool.not_eq_false', Bool.and_eq_true, Bool.or_eq_true, bne_eq_false_iff_eq] at c2
     refine den_skip ?_
     refine den_blk ?_
     refine den_region TTok ?_
     intro K hK
     simp -implicitDefEqProofs (disch := first | decide | assumption | omega) only [go_sem, RdS.len hv sl26, RdS.idx hv sl26, RdS.cellB hv (HPres.refl _), RdS.cells hv, RdS.len hr4 sl22, RdS.idx hr4 sl22, R1.intB hr4 (HPres.refl _), RdS.cells hr4, wrap_id]
     refine hK _ _ ?_
     clear hK K
     refine den_stop ?_
     have hd := szRows_drop szI R k l c1
     rw [if_neg c2] at hd
     have hb := szI_le (R.getD k default) l hl0
     exact ⟨(k + 1, szI (R.getD k default) l), by simp [HasL, puts_at], ⟨rfl, by dsimp only; omega, by dsimp only; omega, by dsimp only; omega, by rw [← hd]; exact heq⟩, by dsimp only; omega⟩
   ·try simp only [decide_eq_true_eq, decide_eq_false_iff_not, beq_iff_eq, beq_eq_false_iff_ne, bne_iff_ne, ne_eq, Bool.not_eq_true', Bool.not_eq_false', Bool.and_eq_true, Bool.or_eq_true, bne_eq_false_iff_eq] at c1
    refine den_exit ?_
    refine denX_code ?_
    refine denX_stop ?_
    refine denX_hit ?_
    refine den_seq ?_
    refine den_region TTok ?_
    intro K hK
    simp -implicitDefEqProofs (disch := first | decide | assumption | omega) only [go_sem, RdS.len hv sl26, RdS.idx hv sl26, RdS.cellB hv (HPres.refl _), RdS.cells hv, wrap_id]
    refine hK _ _ ?_
    clear hK K
    refine den_ret ?_
    simp (disch := decide) only [resP_1, puts_same, puts_ne]
    exact ⟨vint (by rw [sz2, szL, if_neg c0, ← heq, List.drop_of_length_le (by simp only at hk ⊢; omega)]; rfl), trivial⟩
end Go.Proofs.Ytjjjgllbocgkbaa

namespace Go.Proofs.Ytjjjgllbocgkbaa
open Go
def HM1 (xs : List Int) : Prop := (xs.length : Int) ≤ 1048576
def HM2 (R : List (List Int)) : Prop := (R.length : Int) ≤ 1048576 ∧ ∀ r ∈ R, HM1 r
def HM3 (R : List (List (List Int))) : Prop := (R.length : Int) ≤ 1048576 ∧ ∀ r ∈ R, HM2 r
theorem HM2.len {R : List (List Int)} (h : HM2 R) : (R.length : Int) ≤ 1048576 := h.1
theorem HM3.len {R : List (List (List Int))} (h : HM3 R) : (R.length : Int) ≤ 1048576 := h.1
theorem getD_mem {α : Type} [Inhabited α] {R : List α} {k : Nat} (hk : k < R.length) : R.getD k default ∈ R := by rw [List.getD_eq_getElem?_getD, List.getElem?_eq_getElem hk]; exact List.getElem_mem hk
theorem HM2.at {R : List (List Int)} (h : HM2 R) (k : Nat) (hk : k < R.length) : HM1 (R.getD k default) := h.2 _ (getD_mem hk)
theorem HM3.at {R : List (List (List Int))} (h : HM3 R) (k : Nat) (hk : k < R.length) : HM2 (R.getD k default) := h.2 _ (getD_mem hk)
set_option maxRecDepth 100000 in
theorem toS_ok (v : Value) (xs : List Int) (h : Heap) (hv : R1 h v xs) (hm : (xs.length : Int) ≤ 1048576) : CallA Try.prog 111 #[v] h fun v h' => ∃ fp, O1 h' v xs fp ∧ Fresh h.size fp ∧ Ext h h' := by
 refine callA_intro TTok (args := [_]) Try.func111 (by kernel_rfl) rfl 22 rfl (by simp) [.tmp 2] rfl ?_
 simp only [idxs, Nat.reduceAdd]
 refine den_seq ?_
 refine den_region TTok ?_
 intro K hK
 simp -implicitDefEqProofs (disch := first | decide | assumption | omega) only [go_sem, RdS.len hv sl22, RdS.idx hv sl22, R1.intB hv (HPres.refl _), RdS.cells hv, wrap_id]
 refine hK _ _ ?_
 clear hK K
 refine den_seq ?_
 refine den_region TTok ?_
 intro K hK
 simp -implicitDefEqProofs (disch := first | decide | assumption | omega) only [go_sem, RdS.len hv sl22, RdS.idx hv sl22, R1.intB hv (HPres.refl _), RdS.cells hv, wrap_id]
 refine op_make sz22 rfl rfl (by omega) (by omega) OI 0 (fun _ => ⟨rfl, rfl⟩) ?_
 intro v1_2 h1_2 ho1_2 e1_2
 have := Ext.size e1_2
 have eB := e1_2
 try simp -implicitDefEqProofs (disch := first | decide | assumption | omega) only [go_sem, RdS.len hv sl22, RdS.idx hv sl22, R1.intB hv (Ext.pres eB), RdS.cells hv, RdS.len (OS.rd ho1_2) sl22, RdS.idx (OS.rd ho1_2) sl22, R1.intN (OS.rd ho1_2), RdS.cells (OS.rd ho1_2), wrap_id]
 refine hK _ _ ?_
 clear hK K
 refine den_seq ?_
 refine den_seq ?_
 refine den_region TTok ?_
 intro K hK
 simp -implicitDefEqProofs (disch := first | decide | assumption | omega) only [go_sem, RdS.len hv sl22, RdS.idx hv sl22, R1.intB hv (Ext.pres eB), RdS.cells hv, RdS.len (OS.rd ho1_2) sl22, RdS.idx (OS.rd ho1_2) sl22, R1.intN (OS.rd ho1_2), RdS.cells (OS.rd ho1_2), wrap_id]
 refine hK _ _ ?_
 clear hK K
 refine den_block ?_
 refine den_sel [4, 0, 3] ?_
 intro env_1
 simp only [go_sem]
 refine den_loopS (σ := Nat) (fun s => [(4, .int .i64 (s : Int))]) (fun s H => Ext h H ∧ s ≤ xs.length ∧ O1 H v1_2 (xs.take s ++ List.replicate (xs.length - s) 0) [h.size]) (fun s => xs.length - s) 0 ?_ ?_
 ·exact ⟨eB, by omega, by rw [fill_zero]; simpa using ho1_2⟩
 ·rintro k h4 ee3 ⟨eB, hk, ho⟩
  simp only [List.cons_append, List.nil_append]
  have := Ext.size eB
  refine den_seq ?_
  refine den_seq ?_
  refine den_region TTok ?_
  intro K hK
  simp -implicitDefEqProofs (disch := first | decide | assumption | omega) only [go_sem, RdS.len hv sl22, RdS.idx hv sl22, R1.intB hv (Ext.pres eB), RdS.cells hv, RdS.len (OS.rd ho) sl22, RdS.idx (OS.rd ho) sl22, R1.intN (OS.rd ho), RdS.cells (OS.rd ho), wrap_id]
  refine hK _ _ ?_
  clear hK K
  refine den_cond rfl (fun c0 => ?_) (fun c0 => ?_)
  ·try simp only [decide_eq_true_eq, decide_eq_false_iff_not, beq_iff_eq, beq_eq_false_iff_ne, bne_iff_ne, ne_eq, Bool.not_eq_true', Bool.not_eq_false', Bool.and_eq_true, Bool.or_eq_true, bne_eq_false_iff_eq] at c0
   refine den_skip ?_
   refine den_seq ?_
   refine den_block ?_
   have hlen := fill_len xs 0 k hk
   refine den_region TTok ?_
   intro K hK
   simp -implicitDefEqProofs (disch := first | decide | assumption | omega) only [go_sem, ld2, RdS.len hv sl22, RdS.idx hv sl22, R1.intB hv (Ext.pres eB), RdS.cells hv, RdS.len (OS.rd ho) sl22, RdS.idx (OS.rd ho) sl22, R1.intN (OS.rd ho), RdS.cells (OS.rd ho), wrap_id]
   refine op_store1 (j := k) st2 ho (by simp) (by omega) rfl rfl ?_
   intro h8 ho8 c8
   replace eB := Ext.then eB c8 (fun b hb => by simp at hb; omega)
   rw [fill_step xs 0 0 k (by omega)] at ho8
   try simp -implicitDefEqProofs (disch := first | decide | assumption | omega) only [go_sem, RdS.len hv sl22, RdS.idx hv sl22, R1.intB hv (Ext.pres eB), RdS.cells hv, RdS.len (OS.rd ho) sl22, RdS.idx (OS.rd ho) sl22, R1.intN (OS.rd ho), RdS.cells (OS.rd ho), wrap_id]
   refine hK _ _ ?_
   clear hK K
   refine den_blk ?_
   refine den_region TTok ?_
   intro K hK
   simp -implicitDefEqProofs (disch := first | decide | assumption | omega) only [go_sem, RdS.len hv sl22, RdS.idx hv sl22, R1.intB hv (Ext.pres eB), RdS.cells hv, RdS.len (OS.rd ho) sl22, RdS.idx (OS.rd ho) sl22, R1.intN (OS.rd ho), RdS.cells (OS.rd ho), wrap_id]
   refine hK _ _ ?_
   clear hK K
   refine den_stop ?_
   exact ⟨k + 1, by simp [HasL, puts_at], ⟨eB, by omega, ho8⟩, by omega⟩
  ·try simp only [decide_eq_true_eq, decide_eq_false_iff_not, beq_iff_eq, beq_eq_false_iff_ne, bne_iff_ne, ne_eq, Bool.not_eq_true', Bool.not_eq_false', Bool.and_eq_true, Bool.or_eq_true, bne_eq_false_iff_eq] at c0
   refine den_exit ?_
   refine denX_code ?_
   refine denX_stop ?_
   refine denX_hit ?_
   refine den_seq ?_
   refine den_region TTok ?_
   intro K hK
   simp -implicitDefEqProofs (disch := first | decide | assumption | omega) only [go_sem, RdS.len hv sl22, RdS.idx hv sl22, R1.intB hv (Ext.pres eB), RdS.cells hv, RdS.len (OS.rd ho) sl22, RdS.idx (OS.rd ho) sl22, R1.intN (OS.rd ho), RdS.cells (OS.rd ho), wrap_id]
   refine hK _ _ ?_
   clear hK K
   refine den_ret ?_
   simp (disch := decide) only [resP_1, puts_same, puts_ne]
   rw [fill_end _ _ _ (by omega)] at ho
   exact ⟨_, ho, Fresh.one _, eB⟩

set_option maxRecDepth 100000 in
theorem toSS_ok (v : Value) (R : List (List Int)) (h : Heap) (hv : R2 h v R) (hm : HM2 R) : CallA Try.prog 69 #[v] h fun v h' => ∃ fp, O2 h' v R fp ∧ Fresh h.size fp ∧ Ext h h' := by
 have hml := HM2.len hm
 refine callA_intro TTok (args := [_]) Try.func69 (by kernel_rfl) rfl 23 rfl (by simp) [.tmp 2] rfl ?_
 simp only [idxs, Nat.reduceAdd]
 refine den_seq ?_
 refine den_region TTok ?_
 intro K hK
 simp -implicitDefEqProofs (disch := first | decide | assumption | omega) only [go_sem, RdS.len hv sl26, RdS.idx hv sl26, RdS.cellB hv (HPres.refl _), RdS.cells hv, wrap_id]
 refine hK _ _ ?_
 clear hK K
 refine den_seq ?_
 refine den_region TTok ?_
 intro K hK
 simp -implicitDefEqProofs (disch := first | decide | assumption | omega) only [go_sem, RdS.len hv sl26, RdS.idx hv sl26, RdS.cellB hv (HPres.refl _), RdS.cells hv, wrap_id]
 refine op_make sz26 rfl rfl (by omega) (by omega) O1 [] (fun _ => OS.nil) ?_
 intro v1_2 h1_2 ho1_2 e1_2
 have := Ext.size e1_2
 have eB := e1_2
 try simp -implicitDefEqProofs (disch := first | decide | assumption | omega) only [go_sem, RdS.len hv sl26, RdS.idx hv sl26, RdS.cellB hv (Ext.pres eB), RdS.cells hv, RdS.len (OS.rd ho1_2) sl26, RdS.idx (OS.rd ho1_2) sl26, RdS.cellN (OS.rd ho1_2), RdS.cells (OS.rd ho1_2), wrap_id]
 refine hK _ _ ?_
 clear hK K
 refine den_seq ?_
 refine den_seq ?_
 refine den_region TTok ?_
 intro K hK
 simp -implicitDefEqProofs (disch := first | decide | assumption | omega) only [go_sem, RdS.len hv sl26, RdS.idx hv sl26, RdS.cellB hv (Ext.pres eB), RdS.cells hv, RdS.len (OS.rd ho1_2) sl26, RdS.idx (OS.rd ho1_2) sl26, RdS.cellN (OS.rd ho1_2), RdS.cells (OS.rd ho1_2), wrap_id]
 refine hK _ _ ?_
 clear hK K
 refine den_block ?_
 refine den_sel [4, 0, 3] ?_
 intro env_1
 simp only [go_sem]
 refine den_loopS (σ := Nat) (fun s => [(4, .int .i64 (s : Int))]) (fun s H => Ext h H ∧ s ≤ R.length ∧ ∃ fp, O2 H v1_2 (R.take s ++ List.replicate (R.length - s) []) fp ∧ Fresh h.size fp) (fun s => R.length - s) 0 ?_ ?_
 ·exact ⟨eB, by omega, _, by rw [fill_zero]; simpa using ho1_2, Fresh.one _⟩
 ·rintro k h4 ee3 ⟨eB, hk, fp, ho, hf⟩
  simp only [List.cons_append, List.nil_append]
  have := Ext.size eB
  refine den_seq ?_
  refine den_seq ?_
  refine den_region TTok ?_
  intro K hK
  simp -implicitDefEqProofs (disch := first | decide | assumption | omega) only [go_sem, RdS.len hv sl26, RdS.idx hv sl26, RdS.cellB hv (Ext.pres eB), RdS.cells hv, RdS.len (OS.rd ho) sl26, RdS.idx (OS.rd ho) sl26, RdS.cellN (OS.rd ho), RdS.cells (OS.rd ho), wrap_id]
  refine hK _ _ ?_
  clear hK K
  refine den_cond rfl (fun c0 => ?_) (fun c0 => ?_)
  ·try simp only [decide_eq_true_eq, decide_eq_false_iff_not, beq_iff_eq, beq_eq_false_iff_ne, bne_iff_ne, ne_eq, Bool.not_eq_true', Bool.not_eq_false', Bool.and_eq_true, Bool.or_eq_true, bne_eq_false_iff_eq] at c0
   refine den_skip ?_
   refine den_seq ?_
   refine den_block ?_
   have hlen := fill_len R [] k hk
   refine den_region TTok ?_
   intro K hK
   have hr5 := RdS.rowN hv k (by omega)
   have hlhr5 := RdS.le hr5
   simp -implicitDefEqProofs (disch := first | decide | assumption | omega) only [go_sem, ld22, RdS.len hv sl26, RdS.idx hv sl26, RdS.cellB hv (Ext.pres eB), RdS.cells hv, RdS.len hr5 sl22, RdS.idx hr5 sl22, R1.intB hr5 (Ext.pres eB), RdS.cells hr5, RdS.len (OS.rd ho) sl26, RdS.idx (OS.rd ho) sl26, RdS.cellN (OS.rd ho), RdS.cells (OS.rd ho), wrap_id]
   try simp -implicitDefEqProofs (disch := first | decide | assumption | omega) only [go_sem, RdS.len hv sl26, RdS.idx hv sl26, RdS.cellB hv (Ext.pres eB), RdS.cells hv, RdS.len hr5 sl22, RdS.idx hr5 sl22, R1.intB hr5 (Ext.pres eB), RdS.cells hr5, RdS.len (OS.rd ho) sl26, RdS.idx (OS.rd ho) sl26, RdS.cellN (OS.rd ho), RdS.cells (OS.rd ho), wrap_id]
   have hlt := OS.lt ho
   have hs0 := eB.size
   refine CallA.mono (toS_ok _ _ _ (RdS.pres hr5 (Ext.pres eB)) (HM2.at hm k (by omega))) ?_
   intro v_ h5_6
   rintro ⟨f5_6, ho5_6, hf5_6, e5_6⟩
   replace ho := OS.ext ho e5_6
   have := Ext.size e5_6
   replace eB := Ext.trans eB e5_6
   try simp -implicitDefEqProofs (disch := first | decide | assumption | omega) only [go_sem, RdS.len hv sl26, RdS.idx hv sl26, RdS.cellB hv (Ext.pres eB), RdS.cells hv, RdS.len hr5 sl22, RdS.idx hr5 sl22, R1.intB hr5 (Ext.pres eB), RdS.cells hr5, RdS.len (OS.rd ho) sl26, RdS.idx (OS.rd ho) sl26, RdS.cellN (OS.rd ho), RdS.cells (OS.rd ho), wrap_id]
   refine op_put (j := k) st22 ho hf.nodup (by omega) ho5_6 hf5_6.nodup (Fresh.apart hlt hf5_6) rfl rfl ?_
   intro h8 fp8 ho8 hn8 hs8 c8
   replace eB := Ext.then eB c8 hf.ge
   rw [fill_step R [] default k (by omega)] at ho8
   try simp -implicitDefEqProofs (disch := first | decide | assumption | omega) only [go_sem, RdS.len hv sl26, RdS.idx hv sl26, RdS.cellB hv (Ext.pres eB), RdS.cells hv, RdS.len hr5 sl22, RdS.idx hr5 sl22, R1.intB hr5 (Ext.pres eB), RdS.cells hr5, RdS.len (OS.rd ho) sl26, RdS.idx (OS.rd ho) sl26, RdS.cellN (OS.rd ho), RdS.cells (OS.rd ho), wrap_id]
   refine hK _ _ ?_
   clear hK K
   refine den_blk ?_
   refine den_region TTok ?_
   intro K hK
   simp -implicitDefEqProofs (disch := first | decide | assumption | omega) only [go_sem, RdS.len hv sl26, RdS.idx hv sl26, RdS.cellB hv (Ext.pres eB), RdS.cells hv, RdS.len hr5 sl22, RdS.idx hr5 sl22, R1.intB hr5 (Ext.pres eB), RdS.cells hr5, RdS.len (OS.rd ho) sl26, RdS.idx (OS.rd ho) sl26, RdS.cellN (OS.rd ho), RdS.cells (OS.rd ho), wrap_id]
   refine hK _ _ ?_
   clear hK K
   refine den_stop ?_
   exact ⟨k + 1, by simp [HasL, puts_at], ⟨eB, by omega, fp8, ho8, hf.put hf5_6 hs0 hn8 hs8⟩, by omega⟩
  ·try simp only [decide_eq_true_eq, decide_eq_false_iff_not, beq_iff_eq, beq_eq_false_iff_ne, bne_iff_ne, ne_eq, Bool.not_eq_true', Bool.not_eq_false', Bool.and_eq_true, Bool.or_eq_true, bne_eq_false_iff_eq] at c0
   refine den_exit ?_
   refine denX_code ?_
   refine denX_stop ?_
   refine denX_hit ?_
   refine den_seq ?_
   refine den_region TTok ?_
   intro K hK
   simp -implicitDefEqProofs (disch := first | decide | assumption | omega) only [go_sem, RdS.len hv sl26, RdS.idx hv sl26, RdS.cellB hv (Ext.pres eB), RdS.cells hv, RdS.len (OS.rd ho) sl26, RdS.idx (OS.rd ho) sl26, RdS.cellN (OS.rd ho), RdS.cells (OS.rd ho), wrap_id]
   refine hK _ _ ?_
   clear hK K
   refine den_ret ?_
   simp (disch := decide) only [resP_1, puts_same, puts_ne]
   rw [fill_end _ _ _ (by omega)] at ho
   exact ⟨_, ho, hf, eB⟩
end Go.Proofs.Ytjjjgllbocgkbaa

namespace Go.Proofs.Ytjjjgllbocgkbaa
open Go
def eqC (X Y : Cx) : Bool := decide (X.p = Y.p) && (decide (X.dims = Y.dims) && decide (X.maps = Y.maps))
theorem eqC_self (X : Cx) : eqC X X = true := by simp [eqC]
def HMC (X : Cx) : Prop := HM1 X.dims ∧ HM3 X.maps

set_option maxRecDepth 100000 in
theorem eqS_ok (v w : Value) (xs ys : List Int) (h : Heap) (hv : R1 h v xs) (hw : R1 h w ys) : CallA Try.prog 48 #[v, w] h fun v h' => v = .bool (decide (xs = ys)) ∧ h' = h := by
 have hle := RdS.le hv
 refine callA_intro TTok (args := [_, _]) Try.func48 (by kernel_rfl) rfl 26 rfl (by simp) [.tmp 4] rfl ?_
 simp only [idxs, Nat.reduceAdd]
 refine den_seq ?_
 refine den_region TTok ?_
 intro K hK
 simp -implicitDefEqProofs (disch := first | decide | assumption | omega) only [go_sem, RdS.len hv sl22, RdS.idx hv sl22, R1.intB hv (HPres.refl _), RdS.cells hv, RdS.len hw sl22, RdS.idx hw sl22, R1.intB hw (HPres.refl _), RdS.cells hw, wrap_id]
 refine hK _ _ ?_
 clear hK K
 refine den_seq ?_
 refine den_seq ?_
 refine den_region TTok ?_
 intro K hK
 simp -implicitDefEqProofs (disch := first | decide | assumption | omega) only [go_sem, RdS.len hv sl22, RdS.idx hv sl22, R1.intB hv (HPres.refl _), RdS.cells hv, RdS.len hw sl22, RdS.idx hw sl22, R1.intB hw (HPres.refl _), RdS.cells hw, wrap_id]
 refine hK _ _ ?_
 clear hK K
 refine den_cond rfl (fun c0 => ?_) (fun c0 => ?_)
 ·try simp only [decide_eq_true_eq, decide_eq_false_iff_not, beq_iff_eq, beq_eq_false_iff_ne, bne_iff_ne, ne_eq, Bool.not_eq_true', Bool.not_eq_false', Bool.and_eq_true, Bool.or_eq_true, bne_eq_false_iff_eq] at c0
  refine den_seq ?_
  refine den_region TTok ?_
  intro K hK
  simp -implicitDefEqProofs (disch := first | decide | assumption | omega) only [go_sem, RdS.len hv sl22, RdS.idx hv sl22, R1.intB hv (HPres.refl _), RdS.cells hv, RdS.len hw sl22, RdS.idx hw sl22, R1.intB hw (HPres.refl _), RdS.cells hw, wrap_id]
  refine hK _ _ ?_
  clear hK K
  refine den_ret ?_
  simp (disch := decide) only [resP_1, puts_same, puts_ne]
  exact ⟨vbool (by simp; intro he; rw [he] at c0; omega), trivial⟩
 ·try simp only [decide_eq_true_eq, decide_eq_false_iff_not, beq_iff_eq, beq_eq_false_iff_ne, bne_iff_ne, ne_eq, Bool.not_eq_true', Bool.not_eq_false', Bool.and_eq_true, Bool.or_eq_true, bne_eq_false_iff_eq] at c0
  refine den_skip ?_
  refine den_seq ?_
  refine den_seq ?_
  refine den_region TTok ?_
  intro K hK
  simp -implicitDefEqProofs (disch := first | decide | assumption | omega) only [go_sem, RdS.len hv sl22, RdS.idx hv sl22, R1.intB hv (HPres.refl _), RdS.cells hv, RdS.len hw sl22, RdS.idx hw sl22, R1.intB hw (HPres.refl _), RdS.cells hw, wrap_id]
  refine hK _ _ ?_
  clear hK K
  refine den_block ?_
  refine den_sel [5, 0, 1] ?_
  intro env_1
  simp only [go_sem]
  refine den_loopP (σ := Nat) (fun s => [(5, .int .i64 (s : Int))]) (fun s => s ≤ xs.length ∧ xs.take s = ys.take s) (fun s => xs.length - s) 0 ?_ ?_
  ·exact ⟨rfl, by omega, by simp⟩
  ·rintro k ee3 ⟨hk, heq⟩
   simp only [List.cons_append, List.nil_append]
   refine den_seq ?_
   refine den_seq ?_
   refine den_region TTok ?_
   intro K hK
   simp -implicitDefEqProofs (disch := first | decide | assumption | omega) only [go_sem, RdS.len hv sl22, RdS.idx hv sl22, R1.intB hv (HPres.refl _), RdS.cells hv, RdS.len hw sl22, RdS.idx hw sl22, R1.intB hw (HPres.refl _), RdS.cells hw, wrap_id]
   refine hK _ _ ?_
   clear hK K
   refine den_cond rfl (fun c1 => ?_) (fun c1 => ?_)
   ·try simp only [decide_eq_true_eq, decide_eq_false_iff_not, beq_iff_eq, beq_eq_false_iff_ne, bne_iff_ne, ne_eq, Bool.not_eq_true', Bool.not_eq_false', Bool.and_eq_true, Bool.or_eq_true, bne_eq_false_iff_eq] at c1
    refine den_skip ?_
    refine den_seq ?_
    refine den_block ?_
    refine den_seq ?_
    refine den_draw TTok mixed [] [(0, true), (1, true), (2, true), (3, true), (4, true), (5, true), (6, true), (7, true), (8, true)] (by kernel_rfl) ?_
    intro K hK
    simp -implicitDefEqProofs (disch := first | decide | assumption | omega) only [go_sem, ld2, RdS.len hv sl22, RdS.idx hv sl22, R1.intB hv (HPres.refl _), RdS.cells hv, RdS.len hw sl22, RdS.idx hw sl22, R1.intB hw (HPres.refl _), RdS.cells hw, wrap_id]
    refine hK _ _ ?_
    clear hK K
    refine den_cond rfl (fun c2 => ?_) (fun c2 => ?_)
    ·try simp only [decide_eq_true_eq, decide_eq_false_iff_not, beq_iff_eq, beq_eq_false_iff_ne, bne_iff_ne, ne_eq, Bool.not_eq_true', Bool.not_eq_false', Bool.and_eq_true, Bool.or_eq_true, bne_eq_false_iff_eq] at c2
     refine den_seq ?_
     refine den_region TTok ?_
     intro K hK
     simp -implicitDefEqProofs (disch := first | decide | assumption | omega) only [go_sem, RdS.len hv sl22, RdS.idx hv sl22, R1.intB hv (HPres.refl _), RdS.cells hv, RdS.len hw sl22, RdS.idx hw sl22, R1.intB hw (HPres.refl _), RdS.cells hw, wrap_id]
     refine hK _ _ ?_
     clear hK K
     refine den_ret ?_
     simp (disch := decide) only [resP_1, puts_same, puts_ne]
     exact ⟨vbool (by simp; exact eq_stop (d := 0) (by simpa using c2)), trivial⟩
    ·try simp only [decide_eq_true_eq, decide_eq_false_iff_not, beq_iff_eq, beq_eq_false_iff_ne, bne_iff_ne, ne_eq, Bool.not_eq_true', Bool.not_eq_false', Bool.and_eq_true, Bool.or_eq_true, bne_eq_false_iff_eq] at c2
     refine den_skip ?_
     refine den_blk ?_
     refine den_region TTok ?_
     intro K hK
     simp -implicitDefEqProofs (disch := first | decide | assumption | omega) only [go_sem, RdS.len hv sl22, RdS.idx hv sl22, R1.intB hv (HPres.refl _), RdS.cells hv, RdS.len hw sl22, RdS.idx hw sl22, R1.intB hw (HPres.refl _), RdS.cells hw, wrap_id]
     refine hK _ _ ?_
     clear hK K
     refine den_stop ?_
     exact ⟨k + 1, by simp [HasL, puts_at], ⟨rfl, by omega, eq_step (by omega) (by omega) heq (d := 0) (d' := 0) (by simpa using c2)⟩, by omega⟩
   ·try simp only [decide_eq_true_eq, decide_eq_false_iff_not, beq_iff_eq, beq_eq_false_iff_ne, bne_iff_ne, ne_eq, Bool.not_eq_true', Bool.not_eq_false', Bool.and_eq_true, Bool.or_eq_true, bne_eq_false_iff_eq] at c1
    refine den_exit ?_
    refine denX_code ?_
    refine denX_stop ?_
    refine denX_hit ?_
    refine den_seq ?_
    refine den_region TTok ?_
    intro K hK
    simp -implicitDefEqProofs (disch := first | decide | assumption | omega) only [go_sem, RdS.len hv sl22, RdS.idx hv sl22, R1.intB hv (HPres.refl _), RdS.cells hv, RdS.len hw sl22, RdS.idx hw sl22, R1.intB hw (HPres.refl _), RdS.cells hw, wrap_id]
    refine hK _ _ ?_
    clear hK K
    refine den_ret ?_
    simp (disch := decide) only [resP_1, puts_same, puts_ne]
    exact ⟨vbool (by simp; exact eq_end (by omega) (by omega) heq), trivial⟩

set_option maxRecDepth 100000 in
theorem eqSS_ok (v w : Value) (xs ys : List (List Int)) (h : Heap) (hv : R2 h v xs) (hw : R2 h w ys) : CallA Try.prog 26 #[v, w] h fun v h' => v = .bool (decide (xs = ys)) ∧ h' = h := by
 have hle := RdS.le hv
 refine callA_intro TTok (args := [_, _]) Try.func26 (by kernel_rfl) rfl 27 rfl (by simp) [.tmp 4] rfl ?_
 simp only [idxs, Nat.reduceAdd]
 refine den_seq ?_
 refine den_region TTok ?_
 intro K hK
 simp -implicitDefEqProofs (disch := first | decide | assumption | omega) only [go_sem, RdS.len hv sl26, RdS.idx hv sl26, RdS.cellB hv (HPres.refl _), RdS.cells hv, RdS.len hw sl26, RdS.idx hw sl26, RdS.cellB hw (HPres.refl _), RdS.cells hw, wrap_id]
 refine hK _ _ ?_
 clear hK K
 refine den_seq ?_
 refine den_seq ?_
 refine den_region TTok ?_
 intro K hK
 simp -implicitDefEqProofs (disch := first | decide | assumption | omega) only [go_sem, RdS.len hv sl26, RdS.idx hv sl26, RdS.cellB hv (HPres.refl _), RdS.cells hv, RdS.len hw sl26, RdS.idx hw sl26, RdS.cellB hw (HPres.refl _), RdS.cells hw, wrap_id]
 refine hK _ _ ?_
 clear hK K
 refine den_cond rfl (fun c0 => ?_) (fun c0 => ?_)
 ·try simp only [decide_eq_true_eq, decide_eq_false_iff_not, beq_iff_eq, beq_eq_false_iff_ne, bne_iff_ne, ne_eq, Bool.not_eq_true', Bool.not_eq_false', Bool.and_eq_true, Bool.or_eq_true, bne_eq_false_iff_eq] at c0
  refine den_seq ?_
  refine den_region TTok ?_
  intro K hK
  simp -implicitDefEqProofs (disch := first | decide | assumption | omega) only [go_sem, RdS.len hv sl26, RdS.idx hv sl26, RdS.cellB hv (HPres.refl _), RdS.cells hv, RdS.len hw sl26, RdS.idx hw sl26, RdS.cellB hw (HPres.refl _), RdS.cells hw, wrap_id]
  refine hK _ _ ?_
  clear hK K
  refine den_ret ?_
  simp (disch := decide) only [resP_1, puts_same, puts_ne]
  exact ⟨vbool (by simp; intro he; rw [he] at c0; omega), trivial⟩
 ·try simp only [decide_eq_true_eq, decide_eq_false_iff_not, beq_iff_eq, beq_eq_false_iff_ne, bne_iff_ne, ne_eq, Bool.not_eq_true', Bool.not_eq_false', Bool.and_eq_true, Bool.or_eq_true, bne_eq_false_iff_eq] at c0
  refine den_skip ?_
  refine den_seq ?_
  refine den_seq ?_
  refine den_region TTok ?_
  intro K hK
  simp -implicitDefEqProofs (disch := first | decide | assumption | omega) only [go_sem, RdS.len hv sl26, RdS.idx hv sl26, RdS.cellB hv (HPres.refl _), RdS.cells hv, RdS.len hw sl26, RdS.idx hw sl26, RdS.cellB hw (HPres.refl _), RdS.cells hw, wrap_id]
  refine hK _ _ ?_
  clear hK K
  refine den_block ?_
  refine den_sel [5, 0, 1] ?_
  intro env_1
  simp only [go_sem]
  refine den_loopP (σ := Nat) (fun s => [(5, .int .i64 (s : Int))]) (fun s => s ≤ xs.length ∧ xs.take s = ys.take s) (fun s => xs.length - s) 0 ?_ ?_
  ·exact ⟨rfl, by omega, by simp⟩
  ·rintro k ee3 ⟨hk, heq⟩
   simp only [List.cons_append, List.nil_append]
   refine den_seq ?_
   refine den_seq ?_
   refine den_region TTok ?_
   intro K hK
   simp -implicitDefEqProofs (disch := first | decide | assumption | omega) only [go_sem, RdS.len hv sl26, RdS.idx hv sl26, RdS.cellB hv (HPres.refl _), RdS.cells hv, RdS.len hw sl26, RdS.idx hw sl26, RdS.cellB hw (HPres.refl _), RdS.cells hw, wrap_id]
   refine hK _ _ ?_
   clear hK K
   refine den_cond rfl (fun c1 => ?_) (fun c1 => ?_)
   ·try simp only [decide_eq_true_eq, decide_eq_false_iff_not, beq_iff_eq, beq_eq_false_iff_ne, bne_iff_ne, ne_eq, Bool.not_eq_true', Bool.not_eq_false', Bool.and_eq_true, Bool.or_eq_true, bne_eq_false_iff_eq] at c1
    refine den_skip ?_
    refine den_seq ?_
    refine den_block ?_
    refine den_seq ?_
    refine den_draw TTok mixed [] [(0, true), (1, true), (2, true), (3, true), (4, true), (5, true), (6, true), (7, true), (8, false), (9, true)] (by kernel_rfl) ?_
    intro K hK
    have hr4 := RdS.rowN hv k (by omega)
    have hlhr4 := RdS.le hr4
    have hr5 := RdS.rowN hw k (by omega)
    have hlhr5 := RdS.le hr5
    simp -implicitDefEqProofs (disch := first | decide | assumption | omega) only [go_sem, ld22, RdS.len hv sl26, RdS.idx hv sl26, RdS.cellB hv (HPres.refl _), RdS.cells hv, RdS.len hw sl26, RdS.idx hw sl26, RdS.cellB hw (HPres.refl _), RdS.cells hw, RdS.len hr4 sl22, RdS.idx hr4 sl22, R1.intB hr4 (HPres.refl _), RdS.cells hr4, RdS.len hr5 sl22, RdS.idx hr5 sl22, R1.intB hr5 (HPres.refl _), RdS.cells hr5, wrap_id]
    try simp -implicitDefEqProofs (disch := first | decide | assumption | omega) only [go_sem, RdS.len hv sl26, RdS.idx hv sl26, RdS.cellB hv (HPres.refl _), RdS.cells hv, RdS.len hw sl26, RdS.idx hw sl26, RdS.cellB hw (HPres.refl _), RdS.cells hw, RdS.len hr4 sl22, RdS.idx hr4 sl22, R1.intB hr4 (HPres.refl _), RdS.cells hr4, RdS.len hr5 sl22, RdS.idx hr5 sl22, R1.intB hr5 (HPres.refl _), RdS.cells hr5, wrap_id]
    refine CallA.pure (eqS_ok _ _ _ _ _ hr4 hr5) ?_
    try simp -implicitDefEqProofs (disch := first | decide | assumption | omega) only [go_sem, RdS.len hv sl26, RdS.idx hv sl26, RdS.cellB hv (HPres.refl _), RdS.cells hv, RdS.len hw sl26, RdS.idx hw sl26, RdS.cellB hw (HPres.refl _), RdS.cells hw, RdS.len hr4 sl22, RdS.idx hr4 sl22, R1.intB hr4 (HPres.refl _), RdS.cells hr4, RdS.len hr5 sl22, RdS.idx hr5 sl22, R1.intB hr5 (HPres.refl _), RdS.cells hr5, wrap_id]
    refine hK _ _ ?_
    clear hK K
    refine den_cond rfl (fun c2 => ?_) (fun c2 => ?_)
    ·try simp only [decide_eq_true_eq, decide_eq_false_iff_not, beq_iff_eq, beq_eq_false_iff_ne, bne_iff_ne, ne_eq, Bool.not_eq_true', Bool.not_eq_false', Bool.and_eq_true, Bool.or_eq_true, bne_eq_false_iff_eq] at c2
     refine den_seq ?_
     refine den_region TTok ?_
     intro K hK
     simp -implicitDefEqProofs (disch := first | decide | assumption | omega) only [go_sem, RdS.len hv sl26, RdS.idx hv sl26, RdS.cellB hv (HPres.refl _), RdS.cells hv, RdS.len hw sl26, RdS.idx hw sl26, RdS.cellB hw (HPres.refl _), RdS.cells hw, RdS.len hr4 sl22, RdS.idx hr4 sl22, R1.intB hr4 (HPres.refl _), RdS.cells hr4, RdS.len hr5 sl22, RdS.idx hr5 sl22, R1.intB hr5 (HPres.refl _), RdS.cells hr5, wrap_id]
     refine hK _ _ ?_
     clear hK K
     refine den_ret ?_
     simp (disch := decide) only [resP_1, puts_same, puts_ne]
     exact ⟨vbool (by simp; exact eq_stop (d := default) (by simpa using c2)), trivial⟩
    ·try simp only [decide_eq_true_eq, decide_eq_false_iff_not, beq_iff_eq, beq_eq_false_iff_ne, bne_iff_ne, ne_eq, Bool.not_eq_true', Bool.not_eq_false', Bool.and_eq_true, Bool.or_eq_true, bne_eq_false_iff_eq] at c2
     refine den_skip ?_
     refine den_blk ?_
     refine den_region TTok ?_
     intro K hK
     simp -implicitDefEqProofs (disch := first | decide | assumption | omega) only [go_sem, RdS.len hv sl26, RdS.idx hv sl26, RdS.cellB hv (HPres.refl _), RdS.cells hv, RdS.len hw sl26, RdS.idx hw sl26, RdS.cellB hw (HPres.refl _), RdS.cells hw, RdS.len hr4 sl22, RdS.idx hr4 sl22, R1.intB hr4 (HPres.refl _), RdS.cells hr4, RdS.len hr5 sl22, RdS.idx hr5 sl22, R1.intB hr5 (HPres.refl _), RdS.cells hr5, wrap_id]
     refine hK _ _ ?_
     clear hK K
     refine den_stop ?_
     exact ⟨k + 1, by simp [HasL, puts_at], ⟨rfl, by omega, eq_step (by omega) (by omega) heq (d := default) (d' := default) (by simpa using c2)⟩, by omega⟩
   ·try simp only [decide_eq_true_eq, decide_eq_false_iff_not, beq_iff_eq, beq_eq_false_iff_ne, bne_iff_ne, ne_eq, Bool.not_eq_true', Bool.not_eq_false', Bool.and_eq_true, Bool.or_eq_true, bne_eq_false_iff_eq] at c1
    refine den_exit ?_
    refine denX_code ?_
    refine denX_stop ?_
    refine denX_hit ?_
    refine den_seq ?_
    refine den_region TTok ?_
    intro K hK
    simp -implicitDefEqProofs (disch := first | decide | assumption | omega) only [go_sem, RdS.len hv sl26, RdS.idx hv sl26, RdS.cellB hv (HPres.refl _), RdS.cells hv, RdS.len hw sl26, RdS.idx hw sl26, RdS.cellB hw (HPres.refl _), RdS.cells hw, wrap_id]
    refine hK _ _ ?_
    clear hK K
    refine den_ret ?_
    simp (disch := decide) only [resP_1, puts_same, puts_ne]
    exact ⟨vbool (by simp; exact eq_end (by omega) (by omega) heq), trivial⟩
end Go.Proofs.Ytjjjgllbocgkbaa

namespace Go.Proofs.Ytjjjgllbocgkbaa
open Go
def in3 (n lo hi : Int) : Bool := decide (lo ≤ n) && decide (n ≤ hi)
def isP (p : Int) : Bool := ((p == 2 || p == 3) || p == 5) || p == 7
def dimP (X : Cx) (n : Int) : Int := if in3 n 0 ((X.dims.length : Int) - 1) then X.dims.getD n.toNat 0 else 0
theorem in3_iff {n lo hi : Int} : in3 n lo hi = true ↔ lo ≤ n ∧ n ≤ hi := by simp [in3]
set_option maxRecDepth 100000 in
theorem sIn_ok (n lo hi : Int) (h : Heap) : CallA Try.prog 77 #[.int .i64 n, .int .i64 lo, .int .i64 hi] h fun v h' => v = .bool (in3 n lo hi) ∧ h' = h := by
 refine callA_intro TTok (args := [_, _, _]) Try.func77 (by kernel_rfl) rfl 15 rfl (by simp) [.tmp 6] rfl ?_
 simp only [idxs, Nat.reduceAdd]
 refine den_seq ?_
 refine den_region TTok ?_
 intro K hK
 simp -implicitDefEqProofs (disch := first | decide | assumption | omega) only [go_sem]
 refine hK _ _ ?_
 clear hK K
 refine den_seq ?_
 refine den_mergeH [(6, .bool (((decide (lo ≤ n)) && (decide (n ≤ hi)))))] [] ?_ ?_
  -- a way
 ·refine den_region TTok ?_
  intro K hK
  simp -implicitDefEqProofs (disch := first | decide | assumption | (simp (disch := decide) only [slotOf_zero, slotOf_succ, Option.map_some, puts_same, puts_ne, gv_bool, gv_undef, tt, tf, ft, ff, eq_self, if_true, if_false, Bool.false_eq_true, Bool.not_true, Bool.not_false]; done) | omega) only [go_sem]
  refine opsP_T (by simp (disch := decide) only [slotOf_zero, slotOf_succ, Option.map_some, puts_same, puts_ne, gv_bool, gv_undef, tt, tf, ft, ff, eq_self, if_true, if_false, Bool.false_eq_true, Bool.not_true, Bool.not_false]; rfl) (fun g1 => ?_) (fun g1 => ?_)
  ·try simp -implicitDefEqProofs (disch := first | decide | assumption | (simp (disch := decide) only [slotOf_zero, slotOf_succ, Option.map_some, puts_same, puts_ne, gv_bool, gv_undef, tt, tf, ft, ff, eq_self, if_true, if_false, Bool.false_eq_true, Bool.not_true, Bool.not_false, g1]; done) | omega) only [go_sem, g1, eq_self, if_true, if_false, Bool.false_eq_true]
   refine hK _ _ ?_
   clear hK K
   refine den_stop ?_
   refine ⟨?_, rfl⟩
   first | (simp (disch := decide) only [go_sem, g1, eq_self, Bool.true_and, Bool.and_true, Bool.false_and, Bool.and_false, Bool.true_or, Bool.or_true, Bool.false_or, Bool.or_false, if_true, if_false, Bool.false_eq_true]; done) | simp [HasL, sel, puts_at, g1]
  ·try simp -implicitDefEqProofs (disch := first | decide | assumption | (simp (disch := decide) only [slotOf_zero, slotOf_succ, Option.map_some, puts_same, puts_ne, gv_bool, gv_undef, tt, tf, ft, ff, eq_self, if_true, if_false, Bool.false_eq_true, Bool.not_true, Bool.not_false, g1]; done) | omega) only [go_sem, g1, eq_self, if_true, if_false, Bool.false_eq_true]
   refine hK _ _ ?_
   clear hK K
   refine den_stop ?_
   refine ⟨?_, rfl⟩
   first | (simp (disch := decide) only [go_sem, g1, eq_self, Bool.true_and, Bool.and_true, Bool.false_and, Bool.and_false, Bool.true_or, Bool.or_true, Bool.false_or, Bool.or_false, if_true, if_false, Bool.false_eq_true]; done) | simp [HasL, sel, puts_at, g1]
 intro en2
 simp (disch := decide) only [go_sem]
 refine den_ret ?_
 simp (disch := decide) only [resP_1, puts_same, puts_ne]
 exact ⟨by first | rfl | trivial, trivial⟩

set_option maxRecDepth 100000 in
theorem iIn_ok (n lo hi : Int) (h : Heap) : CallA Try.prog 74 #[.int .i64 n, .int .i64 lo, .int .i64 hi] h fun v h' => v = .bool (in3 n lo hi) ∧ h' = h := by
 refine callA_intro TTok (args := [_, _, _]) Try.func74 (by kernel_rfl) rfl 15 rfl (by simp) [.tmp 6] rfl ?_
 simp only [idxs, Nat.reduceAdd]
 refine den_seq ?_
 refine den_region TTok ?_
 intro K hK
 simp -implicitDefEqProofs (disch := first | decide | assumption | omega) only [go_sem]
 refine hK _ _ ?_
 clear hK K
 refine den_seq ?_
 refine den_mergeH [(6, .bool (((decide (lo ≤ n)) && (decide (n ≤ hi)))))] [] ?_ ?_
  -- a way
 ·refine den_region TTok ?_
  intro K hK
  simp -implicitDefEqProofs (disch := first | decide | assumption | (simp (disch := decide) only [slotOf_zero, slotOf_succ, Option.map_some, puts_same, puts_ne, gv_bool, gv_undef, tt, tf, ft, ff, eq_self, if_true, if_false, Bool.false_eq_true, Bool.not_true, Bool.not_false]; done) | omega) only [go_sem]
  refine opsP_T (by simp (disch := decide) only [slotOf_zero, slotOf_succ, Option.map_some, puts_same, puts_ne, gv_bool, gv_undef, tt, tf, ft, ff, eq_self, if_true, if_false, Bool.false_eq_true, Bool.not_true, Bool.not_false]; rfl) (fun g1 => ?_) (fun g1 => ?_)
  ·try simp -implicitDefEqProofs (disch := first | decide | assumption | (simp (disch := decide) only [slotOf_zero, slotOf_succ, Option.map_some, puts_same, puts_ne, gv_bool, gv_undef, tt, tf, ft, ff, eq_self, if_true, if_false, Bool.false_eq_true, Bool.not_true, Bool.not_false, g1]; done) | omega) only [go_sem, g1, eq_self, if_true, if_false, Bool.false_eq_true]
   refine hK _ _ ?_
   clear hK K
   refine den_stop ?_
   refine ⟨?_, rfl⟩
   first | (simp (disch := decide) only [go_sem, g1, eq_self, Bool.true_and, Bool.and_true, Bool.false_and, Bool.and_false, Bool.true_or, Bool.or_true, Bool.false_or, Bool.or_false, if_true, if_false, Bool.false_eq_true]; done) | simp [HasL, sel, puts_at, g1]
  ·try simp -implicitDefEqProofs (disch := first | decide | assumption | (simp (disch := decide) only [slotOf_zero, slotOf_succ, Option.map_some, puts_same, puts_ne, gv_bool, gv_undef, tt, tf, ft, ff, eq_self, if_true, if_false, Bool.false_eq_true, Bool.not_true, Bool.not_false, g1]; done) | omega) only [go_sem, g1, eq_self, if_true, if_false, Bool.false_eq_true]
   refine hK _ _ ?_
   clear hK K
   refine den_stop ?_
   refine ⟨?_, rfl⟩
   first | (simp (disch := decide) only [go_sem, g1, eq_self, Bool.true_and, Bool.and_true, Bool.false_and, Bool.and_false, Bool.true_or, Bool.or_true, Bool.false_or, Bool.or_false, if_true, if_false, Bool.false_eq_true]; done) | simp [HasL, sel, puts_at, g1]
 intro en2
 simp (disch := decide) only [go_sem]
 refine den_ret ?_
 simp (disch := decide) only [resP_1, puts_same, puts_ne]
 exact ⟨by first | rfl | trivial, trivial⟩

set_option maxRecDepth 100000 in
theorem sPrime_ok (p : Int) (h : Heap) : CallA Try.prog 176 #[.int .i64 p] h fun v h' => v = .bool (isP p) ∧ h' = h := by
 refine callA_intro TTok (args := [_]) Try.func176 (by kernel_rfl) rfl 17 rfl (by simp) [.tmp 2] rfl ?_
 simp only [idxs, Nat.reduceAdd]
 refine den_seq ?_
 refine den_region TTok ?_
 intro K hK
 simp -implicitDefEqProofs (disch := first | decide | assumption | omega) only [go_sem]
 refine hK _ _ ?_
 clear hK K
 refine den_seq ?_
 refine den_mergeH [(2, .bool (((((p == (2 : Int)) || (p == (3 : Int))) || (p == (5 : Int))) || (p == (7 : Int)))))] [] ?_ ?_
  -- a way
 ·refine den_region TTok ?_
  intro K hK
  simp -implicitDefEqProofs (disch := first | decide | assumption | (simp (disch := decide) only [slotOf_zero, slotOf_succ, Option.map_some, puts_same, puts_ne, gv_bool, gv_undef, tt, tf, ft, ff, eq_self, if_true, if_false, Bool.false_eq_true, Bool.not_true, Bool.not_false]; done) | omega) only [go_sem]
  refine opsP_F (by simp (disch := decide) only [slotOf_zero, slotOf_succ, Option.map_some, puts_same, puts_ne, gv_bool, gv_undef, tt, tf, ft, ff, eq_self, if_true, if_false, Bool.false_eq_true, Bool.not_true, Bool.not_false]; rfl) (fun g1 => ?_) (fun g1 => ?_)
  ·try simp -implicitDefEqProofs (disch := first | decide | assumption | (simp (disch := decide) only [slotOf_zero, slotOf_succ, Option.map_some, puts_same, puts_ne, gv_bool, gv_undef, tt, tf, ft, ff, eq_self, if_true, if_false, Bool.false_eq_true, Bool.not_true, Bool.not_false, g1]; done) | omega) only [go_sem, g1, eq_self, if_true, if_false, Bool.false_eq_true]
   refine opsP_F (by simp (disch := decide) only [slotOf_zero, slotOf_succ, Option.map_some, puts_same, puts_ne, gv_bool, gv_undef, tt, tf, ft, ff, eq_self, if_true, if_false, Bool.false_eq_true, Bool.not_true, Bool.not_false, g1]; rfl) (fun g2 => ?_) (fun g2 => ?_)
   ·try simp -implicitDefEqProofs (disch := first | decide | assumption | (simp (disch := decide) only [slotOf_zero, slotOf_succ, Option.map_some, puts_same, puts_ne, gv_bool, gv_undef, tt, tf, ft, ff, eq_self, if_true, if_false, Bool.false_eq_true, Bool.not_true, Bool.not_false, g1, g2]; done) | omega) only [go_sem, g1, g2, eq_self, if_true, if_false, Bool.false_eq_true]
    refine opsP_F (by simp (disch := decide) only [slotOf_zero, slotOf_succ, Option.map_some, puts_same, puts_ne, gv_bool, gv_undef, tt, tf, ft, ff, eq_self, if_true, if_false, Bool.false_eq_true, Bool.not_true, Bool.not_false, g1, g2]; rfl) (fun g3 => ?_) (fun g3 => ?_)
    ·try simp -implicitDefEqProofs (disch := first | decide | assumption | (simp (disch := decide) only [slotOf_zero, slotOf_succ, Option.map_some, puts_same, puts_ne, gv_bool, gv_undef, tt, tf, ft, ff, eq_self, if_true, if_false, Bool.false_eq_true, Bool.not_true, Bool.not_false, g1, g2, g3]; done) | omega) only [go_sem, g1, g2, g3, eq_self, if_true, if_false, Bool.false_eq_true]
     refine hK _ _ ?_
     clear hK K
     refine den_stop ?_
     refine ⟨?_, rfl⟩
     first | (simp (disch := decide) only [go_sem, g1, g2, g3, eq_self, Bool.true_and, Bool.and_true, Bool.false_and, Bool.and_false, Bool.true_or, Bool.or_true, Bool.false_or, Bool.or_false, if_true, if_false, Bool.false_eq_true]; done) | simp [HasL, sel, puts_at, g1, g2, g3]
    ·try simp -implicitDefEqProofs (disch := first | decide | assumption | (simp (disch := decide) only [slotOf_zero, slotOf_succ, Option.map_some, puts_same, puts_ne, gv_bool, gv_undef, tt, tf, ft, ff, eq_self, if_true, if_false, Bool.false_eq_true, Bool.not_true, Bool.not_false, g1, g2, g3]; done) | omega) only [go_sem, g1, g2, g3, eq_self, if_true, if_false, Bool.false_eq_true]
     refine hK _ _ ?_
     clear hK K
     refine den_stop ?_
     refine ⟨?_, rfl⟩
     first | (simp (disch := decide) only [go_sem, g1, g2, g3, eq_self, Bool.true_and, Bool.and_true, Bool.false_and, Bool.and_false, Bool.true_or, Bool.or_true, Bool.false_or, Bool.or_false, if_true, if_false, Bool.false_eq_true]; done) | simp [HasL, sel, puts_at, g1, g2, g3]
   ·try simp -implicitDefEqProofs (disch := first | decide | assumption | (simp (disch := decide) only [slotOf_zero, slotOf_succ, Option.map_some, puts_same, puts_ne, gv_bool, gv_undef, tt, tf, ft, ff, eq_self, if_true, if_false, Bool.false_eq_true, Bool.not_true, Bool.not_false, g1, g2]; done) | omega) only [go_sem, g1, g2, eq_self, if_true, if_false, Bool.false_eq_true]
    try simp -implicitDefEqProofs (disch := first | decide | assumption | (simp (disch := decide) only [slotOf_zero, slotOf_succ, Option.map_some, puts_same, puts_ne, gv_bool, gv_undef, tt, tf, ft, ff, eq_self, if_true, if_false, Bool.false_eq_true, Bool.not_true, Bool.not_false, g1, g2]; done) | omega) only [go_sem, g1, g2, eq_self, if_true, if_false, Bool.false_eq_true]
    refine hK _ _ ?_
    clear hK K
    refine den_stop ?_
    refine ⟨?_, rfl⟩
    first | (simp (disch := decide) only [go_sem, g1, g2, eq_self, Bool.true_and, Bool.and_true, Bool.false_and, Bool.and_false, Bool.true_or, Bool.or_true, Bool.false_or, Bool.or_false, if_true, if_false, Bool.false_eq_true]; done) | simp [HasL, sel, puts_at, g1, g2]
  ·try simp -implicitDefEqProofs (disch := first | decide | assumption | (simp (disch := decide) only [slotOf_zero, slotOf_succ, Option.map_some, puts_same, puts_ne, gv_bool, gv_undef, tt, tf, ft, ff, eq_self, if_true, if_false, Bool.false_eq_true, Bool.not_true, Bool.not_false, g1]; done) | omega) only [go_sem, g1, eq_self, if_true, if_false, Bool.false_eq_true]
   try simp -implicitDefEqProofs (disch := first | decide | assumption | (simp (disch := decide) only [slotOf_zero, slotOf_succ, Option.map_some, puts_same, puts_ne, gv_bool, gv_undef, tt, tf, ft, ff, eq_self, if_true, if_false, Bool.false_eq_true, Bool.not_true, Bool.not_false, g1]; done) | omega) only [go_sem, g1, eq_self, if_true, if_false, Bool.false_eq_true]
   try simp -implicitDefEqProofs (disch := first | decide | assumption | (simp (disch := decide) only [slotOf_zero, slotOf_succ, Option.map_some, puts_same, puts_ne, gv_bool, gv_undef, tt, tf, ft, ff, eq_self, if_true, if_false, Bool.false_eq_true, Bool.not_true, Bool.not_false, g1]; done) | omega) only [go_sem, g1, eq_self, if_true, if_false, Bool.false_eq_true]
   refine hK _ _ ?_
   clear hK K
   refine den_stop ?_
   refine ⟨?_, rfl⟩
   first | (simp (disch := decide) only [go_sem, g1, eq_self, Bool.true_and, Bool.and_true, Bool.false_and, Bool.and_false, Bool.true_or, Bool.or_true, Bool.false_or, Bool.or_false, if_true, if_false, Bool.false_eq_true]; done) | simp [HasL, sel, puts_at, g1]
 intro en4
 simp (disch := decide) only [go_sem]
 refine den_ret ?_
 simp (disch := decide) only [resP_1, puts_same, puts_ne]
 exact ⟨by first | rfl | trivial, trivial⟩

set_option maxRecDepth 100000 in
theorem iPrime_ok (p : Int) (h : Heap) : CallA Try.prog 134 #[.int .i64 p] h fun v h' => v = .bool (isP p) ∧ h' = h := by
 refine callA_intro TTok (args := [_]) Try.func134 (by kernel_rfl) rfl 17 rfl (by simp) [.tmp 2] rfl ?_
 simp only [idxs, Nat.reduceAdd]
 refine den_seq ?_
 refine den_region TTok ?_
 intro K hK
 simp -implicitDefEqProofs (disch := first | decide | assumption | omega) only [go_sem]
 refine hK _ _ ?_
 clear hK K
 refine den_seq ?_
 refine den_mergeH [(2, .bool (((((p == (2 : Int)) || (p == (3 : Int))) || (p == (5 : Int))) || (p == (7 : Int)))))] [] ?_ ?_
  -- a way
 ·refine den_region TTok ?_
  intro K hK
  simp -implicitDefEqProofs (disch := first | decide | assumption | (simp (disch := decide) only [slotOf_zero, slotOf_succ, Option.map_some, puts_same, puts_ne, gv_bool, gv_undef, tt, tf, ft, ff, eq_self, if_true, if_false, Bool.false_eq_true, Bool.not_true, Bool.not_false]; done) | omega) only [go_sem]
  refine opsP_F (by simp (disch := decide) only [slotOf_zero, slotOf_succ, Option.map_some, puts_same, puts_ne, gv_bool, gv_undef, tt, tf, ft, ff, eq_self, if_true, if_false, Bool.false_eq_true, Bool.not_true, Bool.not_false]; rfl) (fun g1 => ?_) (fun g1 => ?_)
  ·try simp -implicitDefEqProofs (disch := first | decide | assumption | (simp (disch := decide) only [slotOf_zero, slotOf_succ, Option.map_some, puts_same, puts_ne, gv_bool, gv_undef, tt, tf, ft, ff, eq_self, if_true, if_false, Bool.false_eq_true, Bool.not_true, Bool.not_false, g1]; done) | omega) only [go_sem, g1, eq_self, if_true, if_false, Bool.false_eq_true]
   refine opsP_F (by simp (disch := decide) only [slotOf_zero, slotOf_succ, Option.map_some, puts_same, puts_ne, gv_bool, gv_undef, tt, tf, ft, ff, eq_self, if_true, if_false, Bool.false_eq_true, Bool.not_true, Bool.not_false, g1]; rfl) (fun g2 => ?_) (fun g2 => ?_)
   ·try simp -implicitDefEqProofs (disch := first | decide | assumption | (simp (disch := decide) only [slotOf_zero, slotOf_succ, Option.map_some, puts_same, puts_ne, gv_bool, gv_undef, tt, tf, ft, ff, eq_self, if_true, if_false, Bool.false_eq_true, Bool.not_true, Bool.not_false, g1, g2]; done) | omega) only [go_sem, g1, g2, eq_self, if_true, if_false, Bool.false_eq_true]
    refine opsP_F (by simp (disch := decide) only [slotOf_zero, slotOf_succ, Option.map_some, puts_same, puts_ne, gv_bool, gv_undef, tt, tf, ft, ff, eq_self, if_true, if_false, Bool.false_eq_true, Bool.not_true, Bool.not_false, g1, g2]; rfl) (fun g3 => ?_) (fun g3 => ?_)
    ·try simp -implicitDefEqProofs (disch := first | decide | assumption | (simp (disch := decide) only [slotOf_zero, slotOf_succ, Option.map_some, puts_same, puts_ne, gv_bool, gv_undef, tt, tf, ft, ff, eq_self, if_true, if_false, Bool.false_eq_true, Bool.not_true, Bool.not_false, g1, g2, g3]; done) | omega) only [go_sem, g1, g2, g3, eq_self, if_true, if_false, Bool.false_eq_true]
     refine hK _ _ ?_
     clear hK K
     refine den_stop ?_
     refine ⟨?_, rfl⟩
     first | (simp (disch := decide) only [go_sem, g1, g2, g3, eq_self, Bool.true_and, Bool.and_true, Bool.false_and, Bool.and_false, Bool.true_or, Bool.or_true, Bool.false_or, Bool.or_false, if_true, if_false, Bool.false_eq_true]; done) | simp [HasL, sel, puts_at, g1, g2, g3]
    ·try simp -implicitDefEqProofs (disch := first | decide | assumption | (simp (disch := decide) only [slotOf_zero, slotOf_succ, Option.map_some, puts_same, puts_ne, gv_bool, gv_undef, tt, tf, ft, ff, eq_self, if_true, if_false, Bool.false_eq_true, Bool.not_true, Bool.not_false, g1, g2, g3]; done) | omega) only [go_sem, g1, g2, g3, eq_self, if_true, if_false, Bool.false_eq_true]
     refine hK _ _ ?_
     clear hK K
     refine den_stop ?_
     refine ⟨?_, rfl⟩
     first | (simp (disch := decide) only [go_sem, g1, g2, g3, eq_self, Bool.true_and, Bool.and_true, Bool.false_and, Bool.and_false, Bool.true_or, Bool.or_true, Bool.false_or, Bool.or_false, if_true, if_false, Bool.false_eq_true]; done) | simp [HasL, sel, puts_at, g1, g2, g3]
   ·try simp -implicitDefEqProofs (disch := first | decide | assumption | (simp (disch := decide) only [slotOf_zero, slotOf_succ, Option.map_some, puts_same, puts_ne, gv_bool, gv_undef, tt, tf, ft, ff, eq_self, if_true, if_false, Bool.false_eq_true, Bool.not_true, Bool.not_false, g1, g2]; done) | omega) only [go_sem, g1, g2, eq_self, if_true, if_false, Bool.false_eq_true]
    try simp -implicitDefEqProofs (disch := first | decide | assumption | (simp (disch := decide) only [slotOf_zero, slotOf_succ, Option.map_some, puts_same, puts_ne, gv_bool, gv_undef, tt, tf, ft, ff, eq_self, if_true, if_false, Bool.false_eq_true, Bool.not_true, Bool.not_false, g1, g2]; done) | omega) only [go_sem, g1, g2, eq_self, if_true, if_false, Bool.false_eq_true]
    refine hK _ _ ?_
    clear hK K
    refine den_stop ?_
    refine ⟨?_, rfl⟩
    first | (simp (disch := decide) only [go_sem, g1, g2, eq_self, Bool.true_and, Bool.and_true, Bool.false_and, Bool.and_false, Bool.true_or, Bool.or_true, Bool.false_or, Bool.or_false, if_true, if_false, Bool.false_eq_true]; done) | simp [HasL, sel, puts_at, g1, g2]
  ·try simp -implicitDefEqProofs (disch := first | decide | assumption | (simp (disch := decide) only [slotOf_zero, slotOf_succ, Option.map_some, puts_same, puts_ne, gv_bool, gv_undef, tt, tf, ft, ff, eq_self, if_true, if_false, Bool.false_eq_true, Bool.not_true, Bool.not_false, g1]; done) | omega) only [go_sem, g1, eq_self, if_true, if_false, Bool.false_eq_true]
   try simp -implicitDefEqProofs (disch := first | decide | assumption | (simp (disch := decide) only [slotOf_zero, slotOf_succ, Option.map_some, puts_same, puts_ne, gv_bool, gv_undef, tt, tf, ft, ff, eq_self, if_true, if_false, Bool.false_eq_true, Bool.not_true, Bool.not_false, g1]; done) | omega) only [go_sem, g1, eq_self, if_true, if_false, Bool.false_eq_true]
   try simp -implicitDefEqProofs (disch := first | decide | assumption | (simp (disch := decide) only [slotOf_zero, slotOf_succ, Option.map_some, puts_same, puts_ne, gv_bool, gv_undef, tt, tf, ft, ff, eq_self, if_true, if_false, Bool.false_eq_true, Bool.not_true, Bool.not_false, g1]; done) | omega) only [go_sem, g1, eq_self, if_true, if_false, Bool.false_eq_true]
   refine hK _ _ ?_
   clear hK K
   refine den_stop ?_
   refine ⟨?_, rfl⟩
   first | (simp (disch := decide) only [go_sem, g1, eq_self, Bool.true_and, Bool.and_true, Bool.false_and, Bool.and_false, Bool.true_or, Bool.or_true, Bool.false_or, Bool.or_false, if_true, if_false, Bool.false_eq_true]; done) | simp [HasL, sel, puts_at, g1]
 intro en4
 simp (disch := decide) only [go_sem]
 refine den_ret ?_
 simp (disch := decide) only [resP_1, puts_same, puts_ne]
 exact ⟨by first | rfl | trivial, trivial⟩

set_option maxRecDepth 100000 in
theorem size1_ok (v : Value) (xs : List Int) (h : Heap) (hv : R1 h v xs) : CallA Try.prog 71 #[v] h fun v h' => v = .int .i64 (xs.length : Int) ∧ h' = h := by
 have hle := RdS.le hv
 refine callA_intro TTok (args := [_]) Try.func71 (by kernel_rfl) rfl 5 rfl (by simp) [.tmp 2] rfl ?_
 simp only [idxs, Nat.reduceAdd]
 refine den_seq ?_
 refine den_region TTok ?_
 intro K hK
 simp -implicitDefEqProofs (disch := first | decide | assumption | omega) only [go_sem, RdS.len hv sl22, RdS.idx hv sl22, R1.intB hv (HPres.refl _), RdS.cells hv, wrap_id]
 refine hK _ _ ?_
 clear hK K
 refine den_seq ?_
 refine den_region TTok ?_
 intro K hK
 simp -implicitDefEqProofs (disch := first | decide | assumption | omega) only [go_sem, RdS.len hv sl22, RdS.idx hv sl22, R1.intB hv (HPres.refl _), RdS.cells hv, wrap_id]
 refine hK _ _ ?_
 clear hK K
 refine den_ret ?_
 simp (disch := decide) only [resP_1, puts_same, puts_ne]
 exact ⟨by first | rfl | trivial, trivial⟩

set_option maxRecDepth 100000 in
theorem size2_ok (v : Value) (xs : List (List Int)) (h : Heap) (hv : R2 h v xs) : CallA Try.prog 104 #[v] h fun v h' => v = .int .i64 (xs.length : Int) ∧ h' = h := by
 have hle := RdS.le hv
 refine callA_intro TTok (args := [_]) Try.func104 (by kernel_rfl) rfl 5 rfl (by simp) [.tmp 2] rfl ?_
 simp only [idxs, Nat.reduceAdd]
 refine den_seq ?_
 refine den_region TTok ?_
 intro K hK
 simp -implicitDefEqProofs (disch := first | decide | assumption | omega) only [go_sem, RdS.len hv sl26, RdS.idx hv sl26, RdS.cellB hv (HPres.refl _), RdS.cells hv, wrap_id]
 refine hK _ _ ?_
 clear hK K
 refine den_seq ?_
 refine den_region TTok ?_
 intro K hK
 simp -implicitDefEqProofs (disch := first | decide | assumption | omega) only [go_sem, RdS.len hv sl26, RdS.idx hv sl26, RdS.cellB hv (HPres.refl _), RdS.cells hv, wrap_id]
 refine hK _ _ ?_
 clear hK K
 refine den_ret ?_
 simp (disch := decide) only [resP_1, puts_same, puts_ne]
 exact ⟨by first | rfl | trivial, trivial⟩
end Go.Proofs.Ytjjjgllbocgkbaa

namespace Go.Proofs.Ytjjjgllbocgkbaa
open Go
theorem all_step {α : Type} {f : α → Bool} {xs : List α} {d : α} {k : Nat} (hk : k < xs.length) (h : (xs.take k).all f = true) (e : f (xs.getD k d) = true) : (xs.take (k + 1)).all f = true := by
 rw [List.getD_eq_getElem?_getD, List.getElem?_eq_getElem hk] at e
 simp only [Option.getD_some] at e
 rw [List.take_succ_eq_append_getElem hk, List.all_append, h]
 simp [e]
theorem all_stop {α : Type} {f : α → Bool} {xs : List α} {d : α} {k : Nat} (hk : k < xs.length) (e : f (xs.getD k d) = false) : xs.all f = false := by
 rw [List.getD_eq_getElem?_getD, List.getElem?_eq_getElem hk] at e
 simp only [Option.getD_some] at e
 rw [List.all_eq_false]
 exact ⟨_, List.getElem_mem hk, by simp [e]⟩
theorem all_end {α : Type} {f : α → Bool} {xs : List α} {k : Nat} (hk : ¬ k < xs.length) (h : (xs.take k).all f = true) : xs.all f = true := by rwa [List.take_of_length_le (by omega)] at h
theorem all_at {α : Type} {f : α → Bool} {xs : List α} {d : α} {k : Nat} (h : xs.all f = true) (hk : k < xs.length) : f (xs.getD k d) = true := by
 rw [List.getD_eq_getElem?_getD, List.getElem?_eq_getElem hk]
 exact List.all_eq_true.1 h _ (List.getElem_mem hk)
def mix {α : Type} (A B : List α) (m : Nat) : List α := A.take m ++ B.drop m
theorem mix_len {α : Type} (A B : List α) (m : Nat) (h : A.length = B.length) : (mix A B m).length = B.length := by
 simp [mix, List.length_take, List.length_drop]; omega
theorem mix_get {α : Type} (A B : List α) (m : Nat) (d : α) (h : A.length = B.length) (hm : m < B.length) : (mix A B m).getD m d = B.getD m d := by
 rw [List.getD_eq_getElem?_getD, List.getD_eq_getElem?_getD, mix, List.getElem?_append_right (by rw [List.length_take]; omega), List.length_take, Nat.min_eq_left (by omega), List.getElem?_drop]
 simp
theorem mix_set {α : Type} (A B : List α) (m : Nat) (d : α) (h : A.length = B.length) (hm : m < B.length) : (mix A B m).set m (A.getD m d) = mix A B (m + 1) := by
 have hl : (A.take m).length = m := by rw [List.length_take]; omega
 rw [mix, mix, List.set_append_right _ _ (by omega), hl, Nat.sub_self, List.drop_eq_getElem_cons hm, List.set_cons_zero, List.take_succ_eq_append_getElem (by omega), List.append_assoc, List.getD_eq_getElem?_getD, List.getElem?_eq_getElem (by omega)]
 rfl
theorem mix_zero {α : Type} (A B : List α) : mix A B 0 = B := by simp [mix]
theorem mix_end {α : Type} (A B : List α) (m : Nat) (h : A.length = B.length) (hm : ¬ m < B.length) : mix A B m = A := by
 rw [mix, List.take_of_length_le (by omega), List.drop_eq_nil_of_le (by omega), List.append_nil]
/-- The place of the first number other than 0. -/
def leadP : List Int → Int
 | [] => -1
 | x :: r => if x ≠ 0 then 0 else if leadP r < 0 then -1 else leadP r + 1
theorem leadP_all : ∀ {xs : List Int}, (∀ x ∈ xs, x = 0) → leadP xs = -1
 | [], _ => rfl
 | x :: r, h => by
  rw [leadP, if_neg (by simp [h x]), leadP_all (fun y hy => h y (List.mem_cons_of_mem _ hy))]; rfl
theorem leadP_at : ∀ {xs : List Int} {k : Nat}, k < xs.length → (∀ j, j < k → xs.getD j 0 = 0) → xs.getD k 0 ≠ 0 → leadP xs = k
 | x :: r, 0, _, _, h => by rw [leadP, if_pos (by simpa using h)]; rfl
 | x :: r, k + 1, hk, hz, h => by
  have := leadP_at (xs := r) (k := k) (by simpa using hk) (fun j hj => by simpa using hz (j + 1) (by omega)) (by simpa using h)
  rw [leadP, if_neg (by simpa using hz 0 (by omega)), this, if_neg (by omega)]; omega
theorem zeros_all {xs : List Int} (h : ∀ j, j < xs.length → xs.getD j 0 = 0) : ∀ x ∈ xs, x = 0 := by
 intro x hx
 obtain ⟨j, hj, rfl⟩ := List.getElem_of_mem hx
 have := h j hj
 rwa [List.getD_eq_getElem?_getD, List.getElem?_eq_getElem hj] at this
def isRow (p n : Int) (r : List Int) : Bool := decide ((r.length : Int) = n) && r.all (fun x => in3 x 0 (p - 1))
def tableP (p : Int) (rows : List (List Int)) (c w : Int) : Bool := decide ((rows.length : Int) = c) && rows.all (isRow p w)

set_option maxRecDepth 100000 in
theorem sLead_ok (v : Value) (xs : List Int) (h : Heap) (hv : R1 h v xs) : CallA Try.prog 178 #[v] h fun v h' => v = .int .i64 (leadP xs) ∧ h' = h := by
 have hle := RdS.le hv
 refine callA_intro TTok (args := [_]) Try.func178 (by kernel_rfl) rfl 16 rfl (by simp) [.tmp 2] rfl ?_
 simp only [idxs, Nat.reduceAdd]
 refine den_seq ?_
 refine den_region TTok ?_
 intro K hK
 simp -implicitDefEqProofs (disch := first | decide | assumption | omega) only [go_sem, RdS.len hv sl22, RdS.idx hv sl22, R1.intB hv (HPres.refl _), RdS.cells hv, wrap_id]
 refine hK _ _ ?_
 clear hK K
 refine den_seq ?_
 refine den_seq ?_
 refine den_region TTok ?_
 intro K hK
 simp -implicitDefEqProofs (disch := first | decide | assumption | omega) only [go_sem, RdS.len hv sl22, RdS.idx hv sl22, R1.intB hv (HPres.refl _), RdS.cells hv, wrap_id]
 refine hK _ _ ?_
 clear hK K
 refine den_block ?_
 refine den_sel [3, 0] ?_
 intro env_1
 simp only [go_sem]
 refine den_loopP (σ := Nat) (fun s => [(3, .int .i64 (s : Int))]) (fun s => s ≤ xs.length ∧ ∀ j, j < s → xs.getD j 0 = 0) (fun s => xs.length - s) 0 ?_ ?_
 ·exact ⟨rfl, by omega, fun j hj => by omega⟩
 ·rintro k ee3 ⟨hk, hz⟩
  simp only [List.cons_append, List.nil_append]
  refine den_seq ?_
  refine den_seq ?_
  refine den_region TTok ?_
  intro K hK
  simp -implicitDefEqProofs (disch := first | decide | assumption | omega) only [go_sem, RdS.len hv sl22, RdS.idx hv sl22, R1.intB hv (HPres.refl _), RdS.cells hv, wrap_id]
  refine hK _ _ ?_
  clear hK K
  refine den_cond rfl (fun c0 => ?_) (fun c0 => ?_)
  ·try simp only [decide_eq_true_eq, decide_eq_false_iff_not, beq_iff_eq, beq_eq_false_iff_ne, bne_iff_ne, ne_eq, Bool.not_eq_true', Bool.not_eq_false', Bool.and_eq_true, Bool.or_eq_true, bne_eq_false_iff_eq] at c0
   refine den_skip ?_
   refine den_seq ?_
   refine den_block ?_
   refine den_seq ?_
   refine den_region TTok ?_
   intro K hK
   simp -implicitDefEqProofs (disch := first | decide | assumption | omega) only [go_sem, ld2, RdS.len hv sl22, RdS.idx hv sl22, R1.intB hv (HPres.refl _), RdS.cells hv, wrap_id]
   refine hK _ _ ?_
   clear hK K
   refine den_cond rfl (fun c1 => ?_) (fun c1 => ?_)
   ·try simp only [decide_eq_true_eq, decide_eq_false_iff_not, beq_iff_eq, beq_eq_false_iff_ne, bne_iff_ne, ne_eq, Bool.not_eq_true', Bool.not_eq_false', Bool.and_eq_true, Bool.or_eq_true, bne_eq_false_iff_eq] at c1
    refine den_seq ?_
    refine den_region TTok ?_
    intro K hK
    simp -implicitDefEqProofs (disch := first | decide | assumption | omega) only [go_sem, RdS.len hv sl22, RdS.idx hv sl22, R1.intB hv (HPres.refl _), RdS.cells hv, wrap_id]
    refine hK _ _ ?_
    clear hK K
    refine den_ret ?_
    simp (disch := decide) only [resP_1, puts_same, puts_ne]
    exact ⟨vint (leadP_at (by omega) hz c1).symm, trivial⟩
   ·try simp only [decide_eq_true_eq, decide_eq_false_iff_not, beq_iff_eq, beq_eq_false_iff_ne, bne_iff_ne, ne_eq, Bool.not_eq_true', Bool.not_eq_false', Bool.and_eq_true, Bool.or_eq_true, bne_eq_false_iff_eq] at c1
    refine den_skip ?_
    refine den_blk ?_
    refine den_region TTok ?_
    intro K hK
    simp -implicitDefEqProofs (disch := first | decide | assumption | omega) only [go_sem, RdS.len hv sl22, RdS.idx hv sl22, R1.intB hv (HPres.refl _), RdS.cells hv, wrap_id]
    refine hK _ _ ?_
    clear hK K
    refine den_stop ?_
    exact ⟨k + 1, by simp [HasL, puts_at], ⟨rfl, by omega, fun j hj => by
     rcases Nat.lt_succ_iff_lt_or_eq.1 hj with h1 | h1
     ·exact hz j h1
     ·rw [h1]; exact c1⟩, by omega⟩
  ·try simp only [decide_eq_true_eq, decide_eq_false_iff_not, beq_iff_eq, beq_eq_false_iff_ne, bne_iff_ne, ne_eq, Bool.not_eq_true', Bool.not_eq_false', Bool.and_eq_true, Bool.or_eq_true, bne_eq_false_iff_eq] at c0
   refine den_exit ?_
   refine denX_code ?_
   refine denX_stop ?_
   refine denX_hit ?_
   refine den_seq ?_
   refine den_region TTok ?_
   intro K hK
   simp -implicitDefEqProofs (disch := first | decide | assumption | omega) only [go_sem, RdS.len hv sl22, RdS.idx hv sl22, R1.intB hv (HPres.refl _), RdS.cells hv, wrap_id]
   refine hK _ _ ?_
   clear hK K
   refine den_ret ?_
   simp (disch := decide) only [resP_1, puts_same, puts_ne]
   exact ⟨vint (leadP_all (zeros_all fun j hj => hz j (by omega))).symm, trivial⟩

set_option maxRecDepth 100000 in
theorem sTable_ok (p : Int) (v : Value) (R : List (List Int)) (c w : Int) (h : Heap) (hv : R2 h v R) (hp : -9223372036854775807 ≤ p ∧ p ≤ 9223372036854775807) : CallA Try.prog 177 #[.int .i64 p, v, .int .i64 c, .int .i64 w] h fun v h' => v = .bool (tableP p R c w) ∧ h' = h := by
 have hle := RdS.le hv
 refine callA_intro TTok (args := [_, _, _, _]) Try.func177 (by kernel_rfl) rfl 48 rfl (by simp) [.tmp 8] rfl ?_
 simp only [idxs, Nat.reduceAdd]
 refine den_seq ?_
 refine den_region TTok ?_
 intro K hK
 simp -implicitDefEqProofs (disch := first | decide | assumption | omega) only [go_sem, RdS.len hv sl26, RdS.idx hv sl26, RdS.cellB hv (HPres.refl _), RdS.cells hv, wrap_id]
 refine hK _ _ ?_
 clear hK K
 refine den_seq ?_
 refine den_seq ?_
 refine den_region TTok ?_
 intro K hK
 simp -implicitDefEqProofs (disch := first | decide | assumption | omega) only [go_sem, RdS.len hv sl26, RdS.idx hv sl26, RdS.cellB hv (HPres.refl _), RdS.cells hv, wrap_id]
 refine hK _ _ ?_
 clear hK K
 refine den_cond rfl (fun c0 => ?_) (fun c0 => ?_)
 ·try simp only [decide_eq_true_eq, decide_eq_false_iff_not, beq_iff_eq, beq_eq_false_iff_ne, bne_iff_ne, ne_eq, Bool.not_eq_true', Bool.not_eq_false', Bool.and_eq_true, Bool.or_eq_true, bne_eq_false_iff_eq] at c0
  refine den_seq ?_
  refine den_region TTok ?_
  intro K hK
  simp -implicitDefEqProofs (disch := first | decide | assumption | omega) only [go_sem, RdS.len hv sl26, RdS.idx hv sl26, RdS.cellB hv (HPres.refl _), RdS.cells hv, wrap_id]
  refine hK _ _ ?_
  clear hK K
  refine den_ret ?_
  simp (disch := decide) only [resP_1, puts_same, puts_ne]
  exact ⟨vbool (by rw [tableP, decide_eq_false (by omega)]; rfl), trivial⟩
 ·try simp only [decide_eq_true_eq, decide_eq_false_iff_not, beq_iff_eq, beq_eq_false_iff_ne, bne_iff_ne, ne_eq, Bool.not_eq_true', Bool.not_eq_false', Bool.and_eq_true, Bool.or_eq_true, bne_eq_false_iff_eq] at c0
  refine den_skip ?_
  refine den_seq ?_
  refine den_seq ?_
  refine den_region TTok ?_
  intro K hK
  simp -implicitDefEqProofs (disch := first | decide | assumption | omega) only [go_sem, RdS.len hv sl26, RdS.idx hv sl26, RdS.cellB hv (HPres.refl _), RdS.cells hv, wrap_id]
  refine hK _ _ ?_
  clear hK K
  refine den_block ?_
  refine den_sel [9, 0, 1, 3] ?_
  intro env_1
  simp only [go_sem]
  refine den_loopP (σ := Nat) (fun s => [(9, .int .i64 (s : Int))]) (fun s => s ≤ R.length ∧ (R.take s).all (isRow p w) = true) (fun s => R.length - s) 0 ?_ ?_
  ·exact ⟨rfl, by omega, by simp⟩
  ·rintro k ee3 ⟨hk, ha⟩
   simp only [List.cons_append, List.nil_append]
   refine den_seq ?_
   refine den_seq ?_
   refine den_region TTok ?_
   intro K hK
   simp -implicitDefEqProofs (disch := first | decide | assumption | omega) only [go_sem, RdS.len hv sl26, RdS.idx hv sl26, RdS.cellB hv (HPres.refl _), RdS.cells hv, wrap_id]
   refine hK _ _ ?_
   clear hK K
   refine den_cond rfl (fun c1 => ?_) (fun c1 => ?_)
   ·try simp only [decide_eq_true_eq, decide_eq_false_iff_not, beq_iff_eq, beq_eq_false_iff_ne, bne_iff_ne, ne_eq, Bool.not_eq_true', Bool.not_eq_false', Bool.and_eq_true, Bool.or_eq_true, bne_eq_false_iff_eq] at c1
    refine den_skip ?_
    refine den_seq ?_
    refine den_block ?_
    refine den_seq ?_
    refine den_seq ?_
    refine den_region TTok ?_
    intro K hK
    have hr4 := RdS.rowN hv k (by omega)
    have hlhr4 := RdS.le hr4
    simp -implicitDefEqProofs (disch := first | decide | assumption | omega) only [go_sem, ld22, RdS.len hv sl26, RdS.idx hv sl26, RdS.cellB hv (HPres.refl _), RdS.cells hv, RdS.len hr4 sl22, RdS.idx hr4 sl22, R1.intB hr4 (HPres.refl _), RdS.cells hr4, wrap_id]
    refine hK _ _ ?_
    clear hK K
    refine den_cond rfl (fun c2 => ?_) (fun c2 => ?_)
    ·try simp only [decide_eq_true_eq, decide_eq_false_iff_not, beq_iff_eq, beq_eq_false_iff_ne, bne_iff_ne, ne_eq, Bool.not_eq_true', Bool.not_eq_false', Bool.and_eq_true, Bool.or_eq_true, bne_eq_false_iff_eq] at c2
     refine den_seq ?_
     refine den_region TTok ?_
     intro K hK
     simp -implicitDefEqProofs (disch := first | decide | assumption | omega) only [go_sem, RdS.len hv sl26, RdS.idx hv sl26, RdS.cellB hv (HPres.refl _), RdS.cells hv, RdS.len hr4 sl22, RdS.idx hr4 sl22, R1.intB hr4 (HPres.refl _), RdS.cells hr4, wrap_id]
     refine hK _ _ ?_
     clear hK K
     refine den_ret ?_
     simp (disch := decide) only [resP_1, puts_same, puts_ne]
     exact ⟨vbool (by rw [tableP, all_stop (d := default) (k := k) (by omega) (by rw [isRow, decide_eq_false (by omega)]; rfl)]; simp), trivial⟩
    ·try simp only [decide_eq_true_eq, decide_eq_false_iff_not, beq_iff_eq, beq_eq_false_iff_ne, bne_iff_ne, ne_eq, Bool.not_eq_true', Bool.not_eq_false', Bool.and_eq_true, Bool.or_eq_true, bne_eq_false_iff_eq] at c2
     refine den_skip ?_
     refine den_seq ?_
     refine den_region TTok ?_
     intro K hK
     simp -implicitDefEqProofs (disch := first | decide | assumption | omega) only [go_sem, RdS.len hv sl26, RdS.idx hv sl26, RdS.cellB hv (HPres.refl _), RdS.cells hv, RdS.len hr4 sl22, RdS.idx hr4 sl22, R1.intB hr4 (HPres.refl _), RdS.cells hr4, wrap_id]
     refine hK _ _ ?_
     clear hK K
     refine den_block ?_
     refine den_sel [10, 0, 1, 3, 9] ?_
     intro env_5
     simp only [go_sem]
     refine den_loopP (σ := Nat) (fun s => [(10, .int .i64 (s : Int))]) (fun s => s ≤ (R.getD k default).length ∧ ((R.getD k default).take s).all (fun x => in3 x 0 (p - 1)) = true) (fun s => (R.getD k default).length - s) 0 ?_ ?_
     ·exact ⟨rfl, by omega, by simp⟩
     ·rintro m ee7 ⟨hm, hb⟩
      simp only [List.cons_append, List.nil_append]
      refine den_seq ?_
      refine den_seq ?_
      refine den_region TTok ?_
      intro K hK
      have hr8 := RdS.rowN hv k (by omega)
      have hlhr8 := RdS.le hr8
      simp -implicitDefEqProofs (disch := first | decide | assumption | omega) only [go_sem, ld22, RdS.len hv sl26, RdS.idx hv sl26, RdS.cellB hv (HPres.refl _), RdS.cells hv, RdS.len hr4 sl22, RdS.idx hr4 sl22, R1.intB hr4 (HPres.refl _), RdS.cells hr4, RdS.len hr8 sl22, RdS.idx hr8 sl22, R1.intB hr8 (HPres.refl _), RdS.cells hr8, wrap_id]
      refine hK _ _ ?_
      clear hK K
      refine den_cond rfl (fun c3 => ?_) (fun c3 => ?_)
      ·try simp only [decide_eq_true_eq, decide_eq_false_iff_not, beq_iff_eq, beq_eq_false_iff_ne, bne_iff_ne, ne_eq, Bool.not_eq_true', Bool.not_eq_false', Bool.and_eq_true, Bool.or_eq_true, bne_eq_false_iff_eq] at c3
       refine den_skip ?_
       refine den_seq ?_
       refine den_block ?_
       refine den_seq ?_
       refine den_region TTok ?_
       intro K hK
       have hr9 := RdS.rowN hv k (by omega)
       have hlhr9 := RdS.le hr9
       simp -implicitDefEqProofs (disch := first | decide | assumption | omega) only [go_sem, ld22, ld2, RdS.len hv sl26, RdS.idx hv sl26, RdS.cellB hv (HPres.refl _), RdS.cells hv, RdS.len hr4 sl22, RdS.idx hr4 sl22, R1.intB hr4 (HPres.refl _), RdS.cells hr4, RdS.len hr8 sl22, RdS.idx hr8 sl22, R1.intB hr8 (HPres.refl _), RdS.cells hr8, RdS.len hr9 sl22, RdS.idx hr9 sl22, R1.intB hr9 (HPres.refl _), RdS.cells hr9, wrap_id]
       try simp -implicitDefEqProofs (disch := first | decide | assumption | omega) only [go_sem, RdS.len hv sl26, RdS.idx hv sl26, RdS.cellB hv (HPres.refl _), RdS.cells hv, RdS.len hr4 sl22, RdS.idx hr4 sl22, R1.intB hr4 (HPres.refl _), RdS.cells hr4, RdS.len hr8 sl22, RdS.idx hr8 sl22, R1.intB hr8 (HPres.refl _), RdS.cells hr8, RdS.len hr9 sl22, RdS.idx hr9 sl22, R1.intB hr9 (HPres.refl _), RdS.cells hr9, wrap_id]
       refine CallA.pure (sIn_ok _ _ _ _) ?_
       try simp -implicitDefEqProofs (disch := first | decide | assumption | omega) only [go_sem, RdS.len hv sl26, RdS.idx hv sl26, RdS.cellB hv (HPres.refl _), RdS.cells hv, RdS.len hr4 sl22, RdS.idx hr4 sl22, R1.intB hr4 (HPres.refl _), RdS.cells hr4, RdS.len hr8 sl22, RdS.idx hr8 sl22, R1.intB hr8 (HPres.refl _), RdS.cells hr8, RdS.len hr9 sl22, RdS.idx hr9 sl22, R1.intB hr9 (HPres.refl _), RdS.cells hr9, wrap_id]
       refine hK _ _ ?_
       clear hK K
       refine den_cond rfl (fun c4 => ?_) (fun c4 => ?_)
       ·try simp only [decide_eq_true_eq, decide_eq_false_iff_not, beq_iff_eq, beq_eq_false_iff_ne, bne_iff_ne, ne_eq, Bool.not_eq_true', Bool.not_eq_false', Bool.and_eq_true, Bool.or_eq_true, bne_eq_false_iff_eq] at c4
        refine den_seq ?_
        refine den_region TTok ?_
        intro K hK
        simp -implicitDefEqProofs (disch := first | decide | assumption | omega) only [go_sem, RdS.len hv sl26, RdS.idx hv sl26, RdS.cellB hv (HPres.refl _), RdS.cells hv, RdS.len hr4 sl22, RdS.idx hr4 sl22, R1.intB hr4 (HPres.refl _), RdS.cells hr4, RdS.len hr8 sl22, RdS.idx hr8 sl22, R1.intB hr8 (HPres.refl _), RdS.cells hr8, RdS.len hr9 sl22, RdS.idx hr9 sl22, R1.intB hr9 (HPres.refl _), RdS.cells hr9, wrap_id]
        refine hK _ _ ?_
        clear hK K
        refine den_ret ?_
        simp (disch := decide) only [resP_1, puts_same, puts_ne]
        exact ⟨vbool (by rw [tableP, all_stop (d := default) (k := k) (by omega) (by rw [isRow, all_stop (d := 0) (k := m) (by omega) (by simpa using c4)]; simp)]; simp), trivial⟩
       ·try simp only [decide_eq_true_eq, decide_eq_false_iff_not, beq_iff_eq, beq_eq_false_iff_ne, bne_iff_ne, ne_eq, Bool.not_eq_true', Bool.not_eq_false', Bool.and_eq_true, Bool.or_eq_true, bne_eq_false_iff_eq] at c4
        refine den_skip ?_
        refine den_blk ?_
        refine den_region TTok ?_
        intro K hK
        simp -implicitDefEqProofs (disch := first | decide | assumption | omega) only [go_sem, RdS.len hv sl26, RdS.idx hv sl26, RdS.cellB hv (HPres.refl _), RdS.cells hv, RdS.len hr4 sl22, RdS.idx hr4 sl22, R1.intB hr4 (HPres.refl _), RdS.cells hr4, RdS.len hr8 sl22, RdS.idx hr8 sl22, R1.intB hr8 (HPres.refl _), RdS.cells hr8, RdS.len hr9 sl22, RdS.idx hr9 sl22, R1.intB hr9 (HPres.refl _), RdS.cells hr9, wrap_id]
        refine hK _ _ ?_
        clear hK K
        refine den_stop ?_
        exact ⟨m + 1, by simp [HasL, puts_at], ⟨rfl, by omega, all_step (d := 0) (by omega) hb (by simpa using c4)⟩, by omega⟩
      ·try simp only [decide_eq_true_eq, decide_eq_false_iff_not, beq_iff_eq, beq_eq_false_iff_ne, bne_iff_ne, ne_eq, Bool.not_eq_true', Bool.not_eq_false', Bool.and_eq_true, Bool.or_eq_true, bne_eq_false_iff_eq] at c3
       refine den_exit ?_
       refine denX_code ?_
       refine denX_stop ?_
       refine denX_hit ?_
       refine den_blk ?_
       refine den_region TTok ?_
       intro K hK
       simp -implicitDefEqProofs (disch := first | decide | assumption | omega) only [go_sem, RdS.len hv sl26, RdS.idx hv sl26, RdS.cellB hv (HPres.refl _), RdS.cells hv, RdS.len hr4 sl22, RdS.idx hr4 sl22, R1.intB hr4 (HPres.refl _), RdS.cells hr4, RdS.len hr8 sl22, RdS.idx hr8 sl22, R1.intB hr8 (HPres.refl _), RdS.cells hr8, wrap_id]
       refine hK _ _ ?_
       clear hK K
       refine den_stop ?_
       exact ⟨k + 1, by simp [HasL, puts_at], ⟨rfl, by omega, all_step (d := default) (by omega) ha (by rw [isRow, all_end (by omega) hb, decide_eq_true (by omega)]; rfl)⟩, by omega⟩
   ·try simp only [decide_eq_true_eq, decide_eq_false_iff_not, beq_iff_eq, beq_eq_false_iff_ne, bne_iff_ne, ne_eq, Bool.not_eq_true', Bool.not_eq_false', Bool.and_eq_true, Bool.or_eq_true, bne_eq_false_iff_eq] at c1
    refine den_exit ?_
    refine denX_code ?_
    refine denX_stop ?_
    refine denX_hit ?_
    refine den_seq ?_
    refine den_region TTok ?_
    intro K hK
    simp -implicitDefEqProofs (disch := first | decide | assumption | omega) only [go_sem, RdS.len hv sl26, RdS.idx hv sl26, RdS.cellB hv (HPres.refl _), RdS.cells hv, wrap_id]
    refine hK _ _ ?_
    clear hK K
    refine den_ret ?_
    simp (disch := decide) only [resP_1, puts_same, puts_ne]
    exact ⟨vbool (by rw [tableP, all_end (by omega) ha]; simpa using c0), trivial⟩
end Go.Proofs.Ytjjjgllbocgkbaa

namespace Go.Proofs.Ytjjjgllbocgkbaa
open Go
/-- One row, times x, is added. -/
def stepRow (p x : Int) (row acc : List Int) : List Int := List.zipWith (fun o y => (o + x * y).tmod p) acc row
def accP (p : Int) : List Int → List (List Int) → List Int → List Int
 | x :: v, r :: rows, acc => accP p v rows (stepRow p x r acc)
 | _, _, acc => acc
def Bnd (p : Int) (v : List Int) : Prop := ∀ x ∈ v, 0 ≤ x ∧ x < p
theorem Bnd.at {p : Int} {v : List Int} (h : Bnd p v) {k : Nat} (hk : k < v.length) : 0 ≤ v.getD k 0 ∧ v.getD k 0 < p := by
 rw [List.getD_eq_getElem?_getD, List.getElem?_eq_getElem hk]; exact h _ (List.getElem_mem hk)
theorem Bnd.zeros {p : Int} (hp : 0 < p) (m : Nat) : Bnd p (List.replicate m 0) := fun x hx => by
 rw [List.eq_of_mem_replicate hx]; omega
theorem stepRow_len {p x : Int} {row acc : List Int} (h : row.length = acc.length) : (stepRow p x row acc).length = acc.length := by simp [stepRow, h]
theorem stepRow_get {p x : Int} {row acc : List Int} (h : row.length = acc.length) {m : Nat} (hm : m < acc.length) : (stepRow p x row acc).getD m 0 = (acc.getD m 0 + x * row.getD m 0).tmod p := by
 simp only [stepRow, List.getD_eq_getElem?_getD, List.getElem?_zipWith, List.getElem?_eq_getElem hm, List.getElem?_eq_getElem (by omega : m < row.length), Option.getD_some]
theorem mul36 {x y p : Int} (hx : 0 ≤ x ∧ x < p) (hy : 0 ≤ y ∧ y < p) (hp : p ≤ 7) : 0 ≤ x * y ∧ x * y ≤ 36 := by
 refine ⟨Int.mul_nonneg hx.1 hy.1, ?_⟩
 have := Int.mul_le_mul (show x ≤ 6 by omega) (show y ≤ 6 by omega) hy.1 (by omega : (0 : Int) ≤ 6)
 simpa using this
theorem tmod_bnd {a p : Int} (h : 0 ≤ a) (hp : 0 < p) : 0 ≤ a.tmod p ∧ a.tmod p < p := ⟨Int.tmod_nonneg _ h, Int.tmod_lt_of_pos _ hp⟩
theorem stepRow_bnd {p x : Int} {row acc : List Int} (hp : 0 < p) (hx : 0 ≤ x) (hr : Bnd p row) (ha : Bnd p acc) : Bnd p (stepRow p x row acc) := by
 intro z hz
 rw [stepRow, List.mem_iff_getElem] at hz
 obtain ⟨i, hi, rfl⟩ := hz
 rw [List.getElem_zipWith]
 exact tmod_bnd (Int.add_nonneg (ha _ (List.getElem_mem _)).1 (Int.mul_nonneg hx (hr _ (List.getElem_mem _)).1)) hp
theorem step_set {p x : Int} {row acc : List Int} {m : Nat} (h : row.length = acc.length) (hm : m < acc.length) :
  (mix (stepRow p x row acc) acc m).set m (((mix (stepRow p x row acc) acc m).getD m 0 + x * row.getD m 0).tmod p) = mix (stepRow p x row acc) acc (m + 1) := by
 rw [mix_get _ _ _ _ (stepRow_len h) hm, ← stepRow_get h hm, mix_set _ _ _ _ (stepRow_len h) hm]
theorem drop_get {α : Type} {xs : List α} {k : Nat} (d : α) (hk : k < xs.length) : xs.drop k = xs.getD k d :: xs.drop (k + 1) := by
 rw [List.drop_eq_getElem_cons hk, List.getD_eq_getElem?_getD, List.getElem?_eq_getElem hk]; rfl
theorem accP_step {p : Int} {v : List Int} {rows : List (List Int)} {acc : List Int} {k : Nat} (hk : k < v.length) (hr : k < rows.length) : accP p (v.drop k) (rows.drop k) acc = accP p (v.drop (k + 1)) (rows.drop (k + 1)) (stepRow p (v.getD k 0) (rows.getD k default) acc) := by
 rw [drop_get 0 hk, drop_get default hr]; rfl
theorem accP_end {p : Int} {v : List Int} {rows : List (List Int)} {acc : List Int} {k : Nat} (hk : ¬ k < v.length) : accP p (v.drop k) (rows.drop k) acc = acc := by
 rw [List.drop_eq_nil_of_le (by omega)]
 cases rows.drop k <;> rfl
/-- Rows of w numbers modulo p. -/
def Tbl (p w : Int) (rows : List (List Int)) : Prop := ∀ r ∈ rows, (r.length : Int) = w ∧ Bnd p r
theorem Tbl.at {p w : Int} {rows : List (List Int)} (h : Tbl p w rows) {k : Nat} (hk : k < rows.length) : ((rows.getD k default).length : Int) = w ∧ Bnd p (rows.getD k default) := h _ (getD_mem hk)
theorem isRow_iff {p n : Int} {r : List Int} : isRow p n r = true ↔ (r.length : Int) = n ∧ Bnd p r := by
 simp only [isRow, Bool.and_eq_true, decide_eq_true_eq, List.all_eq_true, in3_iff, Bnd]
 constructor <;> rintro ⟨h1, h2⟩ <;> exact ⟨h1, fun x hx => by have := h2 x hx; omega⟩
theorem tableP_iff {p : Int} {rows : List (List Int)} {c w : Int} : tableP p rows c w = true ↔ (rows.length : Int) = c ∧ Tbl p w rows := by
 simp only [tableP, Bool.and_eq_true, decide_eq_true_eq, List.all_eq_true, isRow_iff, Tbl]
theorem accP_bnd {p : Int} (hp : 0 < p) : ∀ {v : List Int} {rows : List (List Int)} {acc : List Int} {w : Int}, Bnd p v → Tbl p w rows → Bnd p acc → Bnd p (accP p v rows acc)
 | [], _, _, _, _, _, h => h
 | _ :: _, [], _, _, _, _, h => h
 | x :: v, r :: rows, acc, w, hv, ht, h => by
  rw [accP]
  exact accP_bnd hp (fun y hy => hv y (List.mem_cons_of_mem _ hy)) (w := w) (fun y hy => ht y (List.mem_cons_of_mem _ hy)) (stepRow_bnd hp (hv x (by simp)).1 (ht r (by simp)).2 h)
theorem accP_len {p : Int} : ∀ {v : List Int} {rows : List (List Int)} {acc : List Int}, Tbl p acc.length rows → (accP p v rows acc).length = acc.length
 | [], _, _, _ => rfl
 | _ :: _, [], _, _ => rfl
 | x :: v, r :: rows, acc, ht => by
  have h1 := (ht r (by simp)).1
  have h2 := stepRow_len (p := p) (x := x) (row := r) (acc := acc) (by omega)
  rw [accP, accP_len (by rw [h2]; exact fun y hy => ht y (List.mem_cons_of_mem _ hy)), h2]

set_option maxRecDepth 100000 in
theorem sApply_ok (p : Int) (vr vv : Value) (rows : List (List Int)) (v : List Int) (w : Int) (h : Heap) (hv : R1 h vv v) (hr : R2 h vr rows) (hp : 0 < p ∧ p ≤ 7) (hw : 0 ≤ w ∧ w ≤ 1048576) (hl : v.length ≤ rows.length) (hv0 : Bnd p v) (hr0 : Tbl p w rows) : CallA Try.prog 163 #[.int .i64 p, vr, vv, .int .i64 w] h fun v' h' => ∃ f, O1 h' v' (accP p v rows (List.replicate w.toNat 0)) f ∧ Fresh h.size f ∧ Ext h h' := by
 have hle := RdS.le hv
 refine callA_intro TTok (args := [_, _, _, _]) Try.func163 (by kernel_rfl) rfl 49 rfl (by simp) [.tmp 8] rfl ?_
 simp only [idxs, Nat.reduceAdd]
 refine den_seq ?_
 refine den_region TTok ?_
 intro K hK
 simp -implicitDefEqProofs (disch := first | decide | assumption | omega) only [go_sem, RdS.len hr sl26, RdS.idx hr sl26, RdS.cellB hr (HPres.refl _), RdS.cells hr, RdS.len hv sl22, RdS.idx hv sl22, R1.intB hv (HPres.refl _), RdS.cells hv, wrap_id]
 refine hK _ _ ?_
 clear hK K
 refine den_seq ?_
 refine den_region TTok ?_
 intro K hK
 simp -implicitDefEqProofs (disch := first | decide | assumption | omega) only [go_sem, RdS.len hr sl26, RdS.idx hr sl26, RdS.cellB hr (HPres.refl _), RdS.cells hr, RdS.len hv sl22, RdS.idx hv sl22, R1.intB hv (HPres.refl _), RdS.cells hv, wrap_id]
 refine op_make sz22 rfl rfl (by omega) (by omega) OI 0 (fun _ => ⟨rfl, rfl⟩) ?_
 intro v1_1 h1_1 ho1_1 e1_1
 have := Ext.size e1_1
 have eB := e1_1
 try simp -implicitDefEqProofs (disch := first | decide | assumption | omega) only [go_sem, RdS.len hr sl26, RdS.idx hr sl26, RdS.cellB hr (Ext.pres eB), RdS.cells hr, RdS.len hv sl22, RdS.idx hv sl22, R1.intB hv (Ext.pres eB), RdS.cells hv, RdS.len (OS.rd ho1_1) sl22, RdS.idx (OS.rd ho1_1) sl22, R1.intN (OS.rd ho1_1), RdS.cells (OS.rd ho1_1), wrap_id]
 refine hK _ _ ?_
 clear hK K
 refine den_seq ?_
 refine den_seq ?_
 refine den_region TTok ?_
 intro K hK
 simp -implicitDefEqProofs (disch := first | decide | assumption | omega) only [go_sem, RdS.len hr sl26, RdS.idx hr sl26, RdS.cellB hr (Ext.pres eB), RdS.cells hr, RdS.len hv sl22, RdS.idx hv sl22, R1.intB hv (Ext.pres eB), RdS.cells hv, RdS.len (OS.rd ho1_1) sl22, RdS.idx (OS.rd ho1_1) sl22, R1.intN (OS.rd ho1_1), RdS.cells (OS.rd ho1_1), wrap_id]
 refine hK _ _ ?_
 clear hK K
 refine den_block ?_
 refine den_sel [10, 0, 1, 2, 9] ?_
 intro env_1
 simp only [go_sem]
 refine den_loopS (σ := Nat × List Int) (fun s => [(10, .int .i64 (s.1 : Int))]) (fun s H => Ext h H ∧ s.1 ≤ v.length ∧ O1 H v1_1 s.2 [h.size] ∧ (s.2.length : Int) = w ∧ Bnd p s.2 ∧ accP p (v.drop s.1) (rows.drop s.1) s.2 = accP p v rows (List.replicate w.toNat 0)) (fun s => v.length - s.1) (0, List.replicate w.toNat 0) ?_ ?_
 ·exact ⟨eB, by simp, by simpa using ho1_1, by simp; omega, Bnd.zeros hp.1 _, rfl⟩
 ·rintro ⟨k, acc⟩ h4 ee3 ⟨eB, hk, ho, hol, hob, hac⟩
  simp only [List.cons_append, List.nil_append]
  have := Ext.size eB
  dsimp only at hk ho hol hob hac
  refine den_seq ?_
  refine den_seq ?_
  refine den_region TTok ?_
  intro K hK
  simp -implicitDefEqProofs (disch := first | decide | assumption | omega) only [go_sem, RdS.len hr sl26, RdS.idx hr sl26, RdS.cellB hr (Ext.pres eB), RdS.cells hr, RdS.len hv sl22, RdS.idx hv sl22, R1.intB hv (Ext.pres eB), RdS.cells hv, RdS.len (OS.rd ho) sl22, RdS.idx (OS.rd ho) sl22, R1.intN (OS.rd ho), RdS.cells (OS.rd ho), wrap_id]
  refine hK _ _ ?_
  clear hK K
  refine den_cond rfl (fun c0 => ?_) (fun c0 => ?_)
  ·try simp only [decide_eq_true_eq, decide_eq_false_iff_not, beq_iff_eq, beq_eq_false_iff_ne, bne_iff_ne, ne_eq, Bool.not_eq_true', Bool.not_eq_false', Bool.and_eq_true, Bool.or_eq_true, bne_eq_false_iff_eq] at c0
   refine den_skip ?_
   refine den_seq ?_
   refine den_block ?_
   refine den_seq ?_
   refine den_region TTok ?_
   intro K hK
   simp -implicitDefEqProofs (disch := first | decide | assumption | omega) only [go_sem, RdS.len hr sl26, RdS.idx hr sl26, RdS.cellB hr (Ext.pres eB), RdS.cells hr, RdS.len hv sl22, RdS.idx hv sl22, R1.intB hv (Ext.pres eB), RdS.cells hv, RdS.len (OS.rd ho) sl22, RdS.idx (OS.rd ho) sl22, R1.intN (OS.rd ho), RdS.cells (OS.rd ho), wrap_id]
   refine hK _ _ ?_
   clear hK K
   refine den_block ?_
   refine den_sel [11, 0, 1, 2, 9, 10] ?_
   intro env_5
   simp only [go_sem]
   refine den_loopS (σ := Nat) (fun s => [(11, .int .i64 (s : Int))]) (fun s H => Ext h H ∧ s ≤ acc.length ∧ O1 H v1_1 (mix (stepRow p (v.getD k 0) (rows.getD k default) acc) acc s) [h.size]) (fun s => acc.length - s) 0 ?_ ?_
   ·exact ⟨eB, by omega, by rw [mix_zero]; exact ho⟩
   ·rintro m h8 ee7 ⟨eB, hm, ho⟩
    simp only [List.cons_append, List.nil_append]
    have := Ext.size eB
    refine den_seq ?_
    refine den_seq ?_
    have hml := mix_len (stepRow p (v.getD k 0) (rows.getD k default) acc) acc m (stepRow_len (by have := (hr0.at (k := k) (by omega)).1; omega))
    refine den_region TTok ?_
    intro K hK
    simp -implicitDefEqProofs (disch := first | decide | assumption | omega) only [go_sem, RdS.len hr sl26, RdS.idx hr sl26, RdS.cellB hr (Ext.pres eB), RdS.cells hr, RdS.len hv sl22, RdS.idx hv sl22, R1.intB hv (Ext.pres eB), RdS.cells hv, RdS.len (OS.rd ho) sl22, RdS.idx (OS.rd ho) sl22, R1.intN (OS.rd ho), RdS.cells (OS.rd ho), wrap_id]
    refine hK _ _ ?_
    clear hK K
    refine den_cond rfl (fun c1 => ?_) (fun c1 => ?_)
    ·try simp only [decide_eq_true_eq, decide_eq_false_iff_not, beq_iff_eq, beq_eq_false_iff_ne, bne_iff_ne, ne_eq, Bool.not_eq_true', Bool.not_eq_false', Bool.and_eq_true, Bool.or_eq_true, bne_eq_false_iff_eq] at c1
     refine den_skip ?_
     refine den_seq ?_
     refine den_block ?_
     have hrl := hr0.at (k := k) (by omega)
     have hx := hv0.at (k := k) (by omega)
     have hy := hrl.2.at (k := m) (by omega)
     have ho2 := hob.at (k := m) (by omega)
     have hxy := mul36 hx hy hp.2
     have hmg := mix_get (stepRow p (v.getD k 0) (rows.getD k default) acc) acc m 0 (stepRow_len (by omega)) (by omega)
     refine den_draw TTok mixed [22] [(0, true), (1, true), (2, true), (3, true), (4, true), (5, true), (6, true), (7, true), (8, true), (9, true), (10, true), (11, true), (12, true), (13, true), (14, true), (15, true), (16, true), (17, true), (18, true), (19, true), (20, true), (21, true), (22, false)] (by kernel_rfl) ?_
     intro K hK
     have hr9 := RdS.rowN hr k (by omega)
     have hlhr9 := RdS.le hr9
     simp -implicitDefEqProofs (disch := first | decide | assumption | omega) only [go_sem, ld22, ld2, RdS.len hr sl26, RdS.idx hr sl26, RdS.cellB hr (Ext.pres eB), RdS.cells hr, RdS.len hv sl22, RdS.idx hv sl22, R1.intB hv (Ext.pres eB), RdS.cells hv, RdS.len hr9 sl22, RdS.idx hr9 sl22, R1.intB hr9 (Ext.pres eB), RdS.cells hr9, RdS.len (OS.rd ho) sl22, RdS.idx (OS.rd ho) sl22, R1.intN (OS.rd ho), RdS.cells (OS.rd ho), wrap_id]
     refine op_store1 (j := m) st2 ho (by simp) (by omega) rfl rfl ?_
     intro h8 ho8 c8
     replace eB := Ext.then eB c8 (fun b hb => by simp at hb; omega)
     rw [step_set (by omega) (by omega)] at ho8
     try simp (disch := decide) only [outv_some, outv_none, put_puts]
     refine plK_last (by decide) ?_
     try simp -implicitDefEqProofs (disch := first | decide | assumption | omega) only [go_sem, RdS.len hr sl26, RdS.idx hr sl26, RdS.cellB hr (Ext.pres eB), RdS.cells hr, RdS.len hv sl22, RdS.idx hv sl22, R1.intB hv (Ext.pres eB), RdS.cells hv, RdS.len hr9 sl22, RdS.idx hr9 sl22, R1.intB hr9 (Ext.pres eB), RdS.cells hr9, RdS.len (OS.rd ho) sl22, RdS.idx (OS.rd ho) sl22, R1.intN (OS.rd ho), RdS.cells (OS.rd ho), wrap_id]
     refine hK _ _ ?_
     clear hK K
     refine den_blk ?_
     refine den_region TTok ?_
     intro K hK
     simp -implicitDefEqProofs (disch := first | decide | assumption | omega) only [go_sem, RdS.len hr sl26, RdS.idx hr sl26, RdS.cellB hr (Ext.pres eB), RdS.cells hr, RdS.len hv sl22, RdS.idx hv sl22, R1.intB hv (Ext.pres eB), RdS.cells hv, RdS.len hr9 sl22, RdS.idx hr9 sl22, R1.intB hr9 (Ext.pres eB), RdS.cells hr9, RdS.len (OS.rd ho) sl22, RdS.idx (OS.rd ho) sl22, R1.intN (OS.rd ho), RdS.cells (OS.rd ho), wrap_id]
     refine hK _ _ ?_
     clear hK K
     refine den_stop ?_
     exact ⟨m + 1, by simp [HasL, puts_at], ⟨eB, by omega, ho8⟩, by omega⟩
    ·try simp only [decide_eq_true_eq, decide_eq_false_iff_not, beq_iff_eq, beq_eq_false_iff_ne, bne_iff_ne, ne_eq, Bool.not_eq_true', Bool.not_eq_false', Bool.and_eq_true, Bool.or_eq_true, bne_eq_false_iff_eq] at c1
     refine den_exit ?_
     refine denX_code ?_
     refine denX_stop ?_
     refine denX_hit ?_
     refine den_blk ?_
     refine den_region TTok ?_
     intro K hK
     simp -implicitDefEqProofs (disch := first | decide | assumption | omega) only [go_sem, RdS.len hr sl26, RdS.idx hr sl26, RdS.cellB hr (Ext.pres eB), RdS.cells hr, RdS.len hv sl22, RdS.idx hv sl22, R1.intB hv (Ext.pres eB), RdS.cells hv, RdS.len (OS.rd ho) sl22, RdS.idx (OS.rd ho) sl22, R1.intN (OS.rd ho), RdS.cells (OS.rd ho), wrap_id]
     refine hK _ _ ?_
     clear hK K
     refine den_stop ?_
     have hrl := hr0.at (k := k) (by omega)
     rw [mix_end _ _ _ (stepRow_len (by omega)) (by omega)] at ho
     exact ⟨(k + 1, stepRow p (v.getD k 0) (rows.getD k default) acc), by simp [HasL, puts_at], ⟨eB, by dsimp only; omega, ho, by rw [stepRow_len (by omega)]; exact hol, stepRow_bnd hp.1 (hv0.at (by omega)).1 hrl.2 hob, by rw [← accP_step (by omega) (by omega)]; exact hac⟩, by dsimp only; omega⟩
  ·try simp only [decide_eq_true_eq, decide_eq_false_iff_not, beq_iff_eq, beq_eq_false_iff_ne, bne_iff_ne, ne_eq, Bool.not_eq_true', Bool.not_eq_false', Bool.and_eq_true, Bool.or_eq_true, bne_eq_false_iff_eq] at c0
   refine den_exit ?_
   refine denX_code ?_
   refine denX_stop ?_
   refine denX_hit ?_
   refine den_seq ?_
   refine den_region TTok ?_
   intro K hK
   simp -implicitDefEqProofs (disch := first | decide | assumption | omega) only [go_sem, RdS.len hr sl26, RdS.idx hr sl26, RdS.cellB hr (Ext.pres eB), RdS.cells hr, RdS.len hv sl22, RdS.idx hv sl22, R1.intB hv (Ext.pres eB), RdS.cells hv, RdS.len (OS.rd ho) sl22, RdS.idx (OS.rd ho) sl22, R1.intN (OS.rd ho), RdS.cells (OS.rd ho), wrap_id]
   refine hK _ _ ?_
   clear hK K
   refine den_ret ?_
   simp (disch := decide) only [resP_1, puts_same, puts_ne]
   rw [accP_end (by omega)] at hac
   subst hac
   exact ⟨_, ho, Fresh.one _, eB⟩

set_option maxRecDepth 100000 in
theorem iApply_ok (p : Int) (w : Int) (vv vr : Value) (v : List Int) (rows : List (List Int)) (h : Heap) (hv : R1 h vv v) (hr : R2 h vr rows) (hp : 0 < p ∧ p ≤ 7) (hw : 0 ≤ w ∧ w ≤ 1048576) (hl : v.length ≤ rows.length) (hv0 : Bnd p v) (hr0 : Tbl p w rows) : CallA Try.prog 169 #[.int .i64 p, .int .i64 w, vv, vr] h fun v' h' => ∃ f, O1 h' v' (accP p v rows (List.replicate w.toNat 0)) f ∧ Fresh h.size f ∧ Ext h h' := by
 have hle := RdS.le hv
 refine callA_intro TTok (args := [_, _, _, _]) Try.func169 (by kernel_rfl) rfl 49 rfl (by simp) [.tmp 8] rfl ?_
 simp only [idxs, Nat.reduceAdd]
 refine den_seq ?_
 refine den_region TTok ?_
 intro K hK
 simp -implicitDefEqProofs (disch := first | decide | assumption | omega) only [go_sem, RdS.len hr sl26, RdS.idx hr sl26, RdS.cellB hr (HPres.refl _), RdS.cells hr, RdS.len hv sl22, RdS.idx hv sl22, R1.intB hv (HPres.refl _), RdS.cells hv, wrap_id]
 refine hK _ _ ?_
 clear hK K
 refine den_seq ?_
 refine den_region TTok ?_
 intro K hK
 simp -implicitDefEqProofs (disch := first | decide | assumption | omega) only [go_sem, RdS.len hr sl26, RdS.idx hr sl26, RdS.cellB hr (HPres.refl _), RdS.cells hr, RdS.len hv sl22, RdS.idx hv sl22, R1.intB hv (HPres.refl _), RdS.cells hv, wrap_id]
 refine op_make sz22 rfl rfl (by omega) (by omega) OI 0 (fun _ => ⟨rfl, rfl⟩) ?_
 intro v1_1 h1_1 ho1_1 e1_1
 have := Ext.size e1_1
 have eB := e1_1
 try simp -implicitDefEqProofs (disch := first | decide | assumption | omega) only [go_sem, RdS.len hr sl26, RdS.idx hr sl26, RdS.cellB hr (Ext.pres eB), RdS.cells hr, RdS.len hv sl22, RdS.idx hv sl22, R1.intB hv (Ext.pres eB), RdS.cells hv, RdS.len (OS.rd ho1_1) sl22, RdS.idx (OS.rd ho1_1) sl22, R1.intN (OS.rd ho1_1), RdS.cells (OS.rd ho1_1), wrap_id]
 refine hK _ _ ?_
 clear hK K
 refine den_seq ?_
 refine den_seq ?_
 refine den_region TTok ?_
 intro K hK
 simp -implicitDefEqProofs (disch := first | decide | assumption | omega) only [go_sem, RdS.len hr sl26, RdS.idx hr sl26, RdS.cellB hr (Ext.pres eB), RdS.cells hr, RdS.len hv sl22, RdS.idx hv sl22, R1.intB hv (Ext.pres eB), RdS.cells hv, RdS.len (OS.rd ho1_1) sl22, RdS.idx (OS.rd ho1_1) sl22, R1.intN (OS.rd ho1_1), RdS.cells (OS.rd ho1_1), wrap_id]
 refine hK _ _ ?_
 clear hK K
 refine den_block ?_
 refine den_sel [18, 0, 3, 9, 16, 17] ?_
 intro env_1
 simp only [go_sem]
 refine den_loopS (σ := Nat × List Int) (fun s => [(18, .int .i64 (s.1 : Int))]) (fun s H => Ext h H ∧ s.1 ≤ v.length ∧ O1 H v1_1 s.2 [h.size] ∧ (s.2.length : Int) = w ∧ Bnd p s.2 ∧ accP p (v.drop s.1) (rows.drop s.1) s.2 = accP p v rows (List.replicate w.toNat 0)) (fun s => v.length - s.1) (0, List.replicate w.toNat 0) ?_ ?_
 ·exact ⟨eB, by simp, by simpa using ho1_1, by simp; omega, Bnd.zeros hp.1 _, rfl⟩
 ·rintro ⟨k, acc⟩ h4 ee3 ⟨eB, hk, ho, hol, hob, hac⟩
  simp only [List.cons_append, List.nil_append]
  have := Ext.size eB
  dsimp only at hk ho hol hob hac
  refine den_seq ?_
  refine den_region TTok ?_
  intro K hK
  simp -implicitDefEqProofs (disch := first | decide | assumption | omega) only [go_sem, RdS.len hr sl26, RdS.idx hr sl26, RdS.cellB hr (Ext.pres eB), RdS.cells hr, RdS.len hv sl22, RdS.idx hv sl22, R1.intB hv (Ext.pres eB), RdS.cells hv, RdS.len (OS.rd ho) sl22, RdS.idx (OS.rd ho) sl22, R1.intN (OS.rd ho), RdS.cells (OS.rd ho), wrap_id]
  refine hK _ _ ?_
  clear hK K
  refine den_seq ?_
  refine den_cond rfl (fun c0 => ?_) (fun c0 => ?_)
  ·try simp only [decide_eq_true_eq, decide_eq_false_iff_not, beq_iff_eq, beq_eq_false_iff_ne, bne_iff_ne, ne_eq, Bool.not_eq_true', Bool.not_eq_false', Bool.and_eq_true, Bool.or_eq_true, bne_eq_false_iff_eq] at c0
   refine den_skip ?_
   refine den_seq ?_
   refine den_block ?_
   refine den_seq ?_
   refine den_region TTok ?_
   intro K hK
   simp -implicitDefEqProofs (disch := first | decide | assumption | omega) only [go_sem, ld2, RdS.len hr sl26, RdS.idx hr sl26, RdS.cellB hr (Ext.pres eB), RdS.cells hr, RdS.len hv sl22, RdS.idx hv sl22, R1.intB hv (Ext.pres eB), RdS.cells hv, RdS.len (OS.rd ho) sl22, RdS.idx (OS.rd ho) sl22, R1.intN (OS.rd ho), RdS.cells (OS.rd ho), wrap_id]
   refine hK _ _ ?_
   clear hK K
   refine den_seq ?_
   refine den_region TTok ?_
   intro K hK
   have hr5 := RdS.rowN hr k (by omega)
   have hlhr5 := RdS.le hr5
   simp -implicitDefEqProofs (disch := first | decide | assumption | omega) only [go_sem, ld22, RdS.len hr sl26, RdS.idx hr sl26, RdS.cellB hr (Ext.pres eB), RdS.cells hr, RdS.len hv sl22, RdS.idx hv sl22, R1.intB hv (Ext.pres eB), RdS.cells hv, RdS.len hr5 sl22, RdS.idx hr5 sl22, R1.intB hr5 (Ext.pres eB), RdS.cells hr5, RdS.len (OS.rd ho) sl22, RdS.idx (OS.rd ho) sl22, R1.intN (OS.rd ho), RdS.cells (OS.rd ho), wrap_id]
   refine hK _ _ ?_
   clear hK K
   refine den_block ?_
   refine den_sel [28, 0, 3, 9, 11, 16, 17, 18, 26, 27] ?_
   intro env_6
   simp only [go_sem]
   refine den_loopS (σ := Nat) (fun s => [(28, .int .i64 (s : Int))]) (fun s H => Ext h H ∧ s ≤ acc.length ∧ O1 H v1_1 (mix (stepRow p (v.getD k 0) (rows.getD k default) acc) acc s) [h.size]) (fun s => acc.length - s) 0 ?_ ?_
   ·exact ⟨eB, by omega, by rw [mix_zero]; exact ho⟩
   ·rintro m h9 ee8 ⟨eB, hm, ho⟩
    simp only [List.cons_append, List.nil_append]
    have := Ext.size eB
    refine den_seq ?_
    have hml := mix_len (stepRow p (v.getD k 0) (rows.getD k default) acc) acc m (stepRow_len (by have := (hr0.at (k := k) (by omega)).1; omega))
    refine den_region TTok ?_
    intro K hK
    simp -implicitDefEqProofs (disch := first | decide | assumption | omega) only [go_sem, RdS.len hr sl26, RdS.idx hr sl26, RdS.cellB hr (Ext.pres eB), RdS.cells hr, RdS.len hv sl22, RdS.idx hv sl22, R1.intB hv (Ext.pres eB), RdS.cells hv, RdS.len hr5 sl22, RdS.idx hr5 sl22, R1.intB hr5 (Ext.pres eB), RdS.cells hr5, RdS.len (OS.rd ho) sl22, RdS.idx (OS.rd ho) sl22, R1.intN (OS.rd ho), RdS.cells (OS.rd ho), wrap_id]
    refine hK _ _ ?_
    clear hK K
    refine den_seq ?_
    refine den_cond rfl (fun c1 => ?_) (fun c1 => ?_)
    ·try simp only [decide_eq_true_eq, decide_eq_false_iff_not, beq_iff_eq, beq_eq_false_iff_ne, bne_iff_ne, ne_eq, Bool.not_eq_true', Bool.not_eq_false', Bool.and_eq_true, Bool.or_eq_true, bne_eq_false_iff_eq] at c1
     refine den_skip ?_
     refine den_seq ?_
     refine den_block ?_
     refine den_seq ?_
     refine den_region TTok ?_
     intro K hK
     simp -implicitDefEqProofs (disch := first | decide | assumption | omega) only [go_sem, ld2, RdS.len hr sl26, RdS.idx hr sl26, RdS.cellB hr (Ext.pres eB), RdS.cells hr, RdS.len hv sl22, RdS.idx hv sl22, R1.intB hv (Ext.pres eB), RdS.cells hv, RdS.len hr5 sl22, RdS.idx hr5 sl22, R1.intB hr5 (Ext.pres eB), RdS.cells hr5, RdS.len (OS.rd ho) sl22, RdS.idx (OS.rd ho) sl22, R1.intN (OS.rd ho), RdS.cells (OS.rd ho), wrap_id]
     refine hK _ _ ?_
     clear hK K
     have hrl := hr0.at (k := k) (by omega)
     have hx := hv0.at (k := k) (by omega)
     have hy := hrl.2.at (k := m) (by omega)
     have ho2 := hob.at (k := m) (by omega)
     have hxy := mul36 hx hy hp.2
     have hmg := mix_get (stepRow p (v.getD k 0) (rows.getD k default) acc) acc m 0 (stepRow_len (by omega)) (by omega)
     refine den_region TTok ?_
     intro K hK
     simp -implicitDefEqProofs (disch := first | decide | assumption | omega) only [go_sem, ld2, RdS.len hr sl26, RdS.idx hr sl26, RdS.cellB hr (Ext.pres eB), RdS.cells hr, RdS.len hv sl22, RdS.idx hv sl22, R1.intB hv (Ext.pres eB), RdS.cells hv, RdS.len hr5 sl22, RdS.idx hr5 sl22, R1.intB hr5 (Ext.pres eB), RdS.cells hr5, RdS.len (OS.rd ho) sl22, RdS.idx (OS.rd ho) sl22, R1.intN (OS.rd ho), RdS.cells (OS.rd ho), wrap_id]
     refine op_store1 (j := m) st2 ho (by simp) (by omega) rfl rfl ?_
     intro h8 ho8 c8
     replace eB := Ext.then eB c8 (fun b hb => by simp at hb; omega)
     rw [step_set (by omega) (by omega)] at ho8
     try simp -implicitDefEqProofs (disch := first | decide | assumption | omega) only [go_sem, RdS.len hr sl26, RdS.idx hr sl26, RdS.cellB hr (Ext.pres eB), RdS.cells hr, RdS.len hv sl22, RdS.idx hv sl22, R1.intB hv (Ext.pres eB), RdS.cells hv, RdS.len hr5 sl22, RdS.idx hr5 sl22, R1.intB hr5 (Ext.pres eB), RdS.cells hr5, RdS.len (OS.rd ho) sl22, RdS.idx (OS.rd ho) sl22, R1.intN (OS.rd ho), RdS.cells (OS.rd ho), wrap_id]
     refine hK _ _ ?_
     clear hK K
     refine den_blk ?_
     refine den_region TTok ?_
     intro K hK
     simp -implicitDefEqProofs (disch := first | decide | assumption | omega) only [go_sem, RdS.len hr sl26, RdS.idx hr sl26, RdS.cellB hr (Ext.pres eB), RdS.cells hr, RdS.len hv sl22, RdS.idx hv sl22, R1.intB hv (Ext.pres eB), RdS.cells hv, RdS.len hr5 sl22, RdS.idx hr5 sl22, R1.intB hr5 (Ext.pres eB), RdS.cells hr5, RdS.len (OS.rd ho) sl22, RdS.idx (OS.rd ho) sl22, R1.intN (OS.rd ho), RdS.cells (OS.rd ho), wrap_id]
     refine hK _ _ ?_
     clear hK K
     refine den_stop ?_
     exact ⟨m + 1, by simp [HasL, puts_at], ⟨eB, by omega, ho8⟩, by omega⟩
    ·try simp only [decide_eq_true_eq, decide_eq_false_iff_not, beq_iff_eq, beq_eq_false_iff_ne, bne_iff_ne, ne_eq, Bool.not_eq_true', Bool.not_eq_false', Bool.and_eq_true, Bool.or_eq_true, bne_eq_false_iff_eq] at c1
     refine den_exit ?_
     refine denX_code ?_
     refine denX_stop ?_
     refine denX_hit ?_
     refine den_blk ?_
     refine den_region TTok ?_
     intro K hK
     simp -implicitDefEqProofs (disch := first | decide | assumption | omega) only [go_sem, RdS.len hr sl26, RdS.idx hr sl26, RdS.cellB hr (Ext.pres eB), RdS.cells hr, RdS.len hv sl22, RdS.idx hv sl22, R1.intB hv (Ext.pres eB), RdS.cells hv, RdS.len hr5 sl22, RdS.idx hr5 sl22, R1.intB hr5 (Ext.pres eB), RdS.cells hr5, RdS.len (OS.rd ho) sl22, RdS.idx (OS.rd ho) sl22, R1.intN (OS.rd ho), RdS.cells (OS.rd ho), wrap_id]
     refine hK _ _ ?_
     clear hK K
     refine den_stop ?_
     have hrl := hr0.at (k := k) (by omega)
     rw [mix_end _ _ _ (stepRow_len (by omega)) (by omega)] at ho
     exact ⟨(k + 1, stepRow p (v.getD k 0) (rows.getD k default) acc), by simp [HasL, puts_at], ⟨eB, by dsimp only; omega, ho, by rw [stepRow_len (by omega)]; exact hol, stepRow_bnd hp.1 (hv0.at (by omega)).1 hrl.2 hob, by rw [← accP_step (by omega) (by omega)]; exact hac⟩, by dsimp only; omega⟩
  ·try simp only [decide_eq_true_eq, decide_eq_false_iff_not, beq_iff_eq, beq_eq_false_iff_ne, bne_iff_ne, ne_eq, Bool.not_eq_true', Bool.not_eq_false', Bool.and_eq_true, Bool.or_eq_true, bne_eq_false_iff_eq] at c0
   refine den_exit ?_
   refine denX_code ?_
   refine denX_stop ?_
   refine denX_hit ?_
   refine den_seq ?_
   refine den_region TTok ?_
   intro K hK
   simp -implicitDefEqProofs (disch := first | decide | assumption | omega) only [go_sem, RdS.len hr sl26, RdS.idx hr sl26, RdS.cellB hr (Ext.pres eB), RdS.cells hr, RdS.len hv sl22, RdS.idx hv sl22, R1.intB hv (Ext.pres eB), RdS.cells hv, RdS.len (OS.rd ho) sl22, RdS.idx (OS.rd ho) sl22, R1.intN (OS.rd ho), RdS.cells (OS.rd ho), wrap_id]
   refine hK _ _ ?_
   clear hK K
   refine den_ret ?_
   simp (disch := decide) only [resP_1, puts_same, puts_ne]
   rw [accP_end (by omega)] at hac
   subst hac
   exact ⟨_, ho, Fresh.one _, eB⟩
end Go.Proofs.Ytjjjgllbocgkbaa

namespace Go.Proofs.Ytjjjgllbocgkbaa
open Go
/-- The place of the first element that f takes. -/
def idxP {α : Type} (f : α → Bool) : List α → Int
 | [] => -1
 | x :: r => if f x = true then 0 else if idxP f r < 0 then -1 else idxP f r + 1
theorem idxP_none {α : Type} {f : α → Bool} : ∀ {xs : List α}, (∀ x ∈ xs, f x = false) → idxP f xs = -1
 | [], _ => rfl
 | x :: r, h => by
  rw [idxP, if_neg (by simp [h x]), idxP_none (fun y hy => h y (List.mem_cons_of_mem _ hy))]; rfl
theorem idxP_at {α : Type} {f : α → Bool} {d : α} : ∀ {xs : List α} {k : Nat}, k < xs.length → (∀ j, j < k → f (xs.getD j d) = false) → f (xs.getD k d) = true → idxP f xs = k
 | x :: r, 0, _, _, h => by rw [idxP, if_pos (by simpa using h)]; rfl
 | x :: r, k + 1, hk, hz, h => by
  have := idxP_at (xs := r) (k := k) (d := d) (by simpa using hk) (fun j hj => by simpa using hz (j + 1) (by omega)) (by simpa using h)
  rw [idxP, if_neg (by simpa using hz 0 (by omega)), this, if_neg (by omega)]; omega
theorem all_getD {α : Type} {P : α → Prop} {d : α} {xs : List α} (h : ∀ j, j < xs.length → P (xs.getD j d)) : ∀ x ∈ xs, P x := by
 intro x hx
 obtain ⟨j, hj, rfl⟩ := List.getElem_of_mem hx
 have := h j hj
 rwa [List.getD_eq_getElem?_getD, List.getElem?_eq_getElem hj] at this
theorem idxP_ge {α : Type} {f : α → Bool} : ∀ {xs : List α}, -1 ≤ idxP f xs
 | [] => by simp [idxP]
 | x :: r => by
  have := idxP_ge (f := f) (xs := r)
  rw [idxP]
  split
  ·omega
  ·split <;> omega
theorem idxP_any {α : Type} {f : α → Bool} : ∀ {xs : List α}, decide (0 ≤ idxP f xs) = xs.any f
 | [] => rfl
 | x :: r => by
  have := idxP_any (f := f) (xs := r)
  rw [idxP, List.any_cons, ← this]
  by_cases hf : f x = true
  ·simp [hf]
  ·have h0 := idxP_ge (f := f) (xs := r)
   rw [if_neg hf, Bool.not_eq_true] at *
   rw [hf, Bool.false_or]
   apply decide_eq_decide.2
   split <;> omega
theorem leadP_idx : ∀ xs : List Int, leadP xs = idxP (fun x => x != 0) xs
 | [] => rfl
 | x :: r => by
  rw [leadP, idxP, leadP_idx r]
  by_cases h : x = 0 <;> simp [h]

set_option maxRecDepth 100000 in
theorem idx1_ok (v : Value) (xs : List Int) (g : FuncId) (cs : Array Value) (f : Int → Bool) (h : Heap) (hv : R1 h v xs) (hf : ∀ j, j < xs.length → ∀ h', Ext h h' → CallA Try.prog g (#[.int .i64 (xs.getD j 0)] ++ cs) h' fun u h'' => u = .bool (f (xs.getD j 0)) ∧ Ext h' h'') : CallA Try.prog 141 #[v, .func (.func g) #[] cs] h fun v' h' => v' = .int .i64 (idxP f xs) ∧ Ext h h' := by
 have hle := RdS.le hv
 refine callA_intro TTok (args := [_, _]) Try.func141 (by kernel_rfl) rfl 19 rfl (by simp) [.tmp 4] rfl ?_
 simp only [idxs, Nat.reduceAdd]
 refine den_seq ?_
 refine den_region TTok ?_
 intro K hK
 simp -implicitDefEqProofs (disch := first | decide | assumption | omega) only [go_sem, RdS.len hv sl22, RdS.idx hv sl22, R1.intB hv (HPres.refl _), RdS.cells hv, wrap_id]
 refine hK _ _ ?_
 clear hK K
 refine den_seq ?_
 refine den_seq ?_
 refine den_region TTok ?_
 intro K hK
 simp -implicitDefEqProofs (disch := first | decide | assumption | omega) only [go_sem, RdS.len hv sl22, RdS.idx hv sl22, R1.intB hv (HPres.refl _), RdS.cells hv, wrap_id]
 refine hK _ _ ?_
 clear hK K
 refine den_block ?_
 refine den_sel [8, 0, 1, 7] ?_
 intro env_1
 simp only [go_sem]
 refine den_loopS (σ := Nat) (fun s => [(8, .int .i64 (s : Int))]) (fun s H => Ext h H ∧ s ≤ xs.length ∧ ∀ j, j < s → f (xs.getD j 0) = false) (fun s => xs.length - s) 0 ?_ ?_
 ·exact ⟨Ext.refl _, by omega, fun j hj => by omega⟩
 ·rintro k h4 ee3 ⟨eB, hk, hz⟩
  simp only [List.cons_append, List.nil_append]
  have := Ext.size eB
  refine den_seq ?_
  refine den_region TTok ?_
  intro K hK
  simp -implicitDefEqProofs (disch := first | decide | assumption | omega) only [go_sem, RdS.len hv sl22, RdS.idx hv sl22, R1.intB hv (Ext.pres eB), RdS.cells hv, wrap_id]
  refine hK _ _ ?_
  clear hK K
  refine den_seq ?_
  refine den_cond rfl (fun c0 => ?_) (fun c0 => ?_)
  ·try simp only [decide_eq_true_eq, decide_eq_false_iff_not, beq_iff_eq, beq_eq_false_iff_ne, bne_iff_ne, ne_eq, Bool.not_eq_true', Bool.not_eq_false', Bool.and_eq_true, Bool.or_eq_true, bne_eq_false_iff_eq] at c0
   refine den_skip ?_
   refine den_seq ?_
   refine den_block ?_
   refine den_seq ?_
   refine den_region TTok ?_
   intro K hK
   simp -implicitDefEqProofs (disch := first | decide | assumption | omega) only [go_sem, RdS.len hv sl22, RdS.idx hv sl22, R1.intB hv (Ext.pres eB), RdS.cells hv, wrap_id]
   refine hK _ _ ?_
   clear hK K
   refine den_seq ?_
   refine den_region TTok ?_
   intro K hK
   simp -implicitDefEqProofs (disch := first | decide | assumption | omega) only [go_sem, ld2, RdS.len hv sl22, RdS.idx hv sl22, R1.intB hv (Ext.pres eB), RdS.cells hv, wrap_id]
   try simp -implicitDefEqProofs (disch := first | decide | assumption | omega) only [go_sem, RdS.len hv sl22, RdS.idx hv sl22, R1.intB hv (Ext.pres eB), RdS.cells hv, wrap_id]
   refine CallA.mono (hf k (by omega) _ eB) ?_
   intro v_ h4_5
   rintro ⟨rfl, e4_5⟩
   have := Ext.size e4_5
   replace eB := Ext.trans eB e4_5
   try simp -implicitDefEqProofs (disch := first | decide | assumption | omega) only [go_sem, RdS.len hv sl22, RdS.idx hv sl22, R1.intB hv (Ext.pres eB), RdS.cells hv, wrap_id]
   refine hK _ _ ?_
   clear hK K
   refine den_cond rfl (fun c1 => ?_) (fun c1 => ?_)
   ·try simp only [decide_eq_true_eq, decide_eq_false_iff_not, beq_iff_eq, beq_eq_false_iff_ne, bne_iff_ne, ne_eq, Bool.not_eq_true', Bool.not_eq_false', Bool.and_eq_true, Bool.or_eq_true, bne_eq_false_iff_eq] at c1
    refine den_seq ?_
    refine den_region TTok ?_
    intro K hK
    simp -implicitDefEqProofs (disch := first | decide | assumption | omega) only [go_sem, RdS.len hv sl22, RdS.idx hv sl22, R1.intB hv (Ext.pres eB), RdS.cells hv, wrap_id]
    refine hK _ _ ?_
    clear hK K
    refine den_ret ?_
    simp (disch := decide) only [resP_1, puts_same, puts_ne]
    exact ⟨vint (idxP_at (by omega) hz (by simpa using c1)).symm, eB⟩
   ·try simp only [decide_eq_true_eq, decide_eq_false_iff_not, beq_iff_eq, beq_eq_false_iff_ne, bne_iff_ne, ne_eq, Bool.not_eq_true', Bool.not_eq_false', Bool.and_eq_true, Bool.or_eq_true, bne_eq_false_iff_eq] at c1
    refine den_skip ?_
    refine den_blk ?_
    refine den_region TTok ?_
    intro K hK
    simp -implicitDefEqProofs (disch := first | decide | assumption | omega) only [go_sem, RdS.len hv sl22, RdS.idx hv sl22, R1.intB hv (Ext.pres eB), RdS.cells hv, wrap_id]
    refine hK _ _ ?_
    clear hK K
    refine den_stop ?_
    exact ⟨k + 1, by simp [HasL, puts_at], ⟨eB, by omega, fun j hj => by
     rcases Nat.lt_succ_iff_lt_or_eq.1 hj with h1 | h1
     ·exact hz j h1
     ·rw [h1]; simpa using c1⟩, by omega⟩
  ·try simp only [decide_eq_true_eq, decide_eq_false_iff_not, beq_iff_eq, beq_eq_false_iff_ne, bne_iff_ne, ne_eq, Bool.not_eq_true', Bool.not_eq_false', Bool.and_eq_true, Bool.or_eq_true, bne_eq_false_iff_eq] at c0
   refine den_exit ?_
   refine denX_code ?_
   refine denX_stop ?_
   refine denX_hit ?_
   refine den_seq ?_
   refine den_region TTok ?_
   intro K hK
   simp -implicitDefEqProofs (disch := first | decide | assumption | omega) only [go_sem, RdS.len hv sl22, RdS.idx hv sl22, R1.intB hv (Ext.pres eB), RdS.cells hv, wrap_id]
   refine hK _ _ ?_
   clear hK K
   refine den_ret ?_
   simp (disch := decide) only [resP_1, puts_same, puts_ne]
   exact ⟨vint (idxP_none (all_getD (d := 0) fun j hj => hz j (by omega))).symm, eB⟩

set_option maxRecDepth 100000 in
theorem has1_ok (v : Value) (xs : List Int) (g : FuncId) (cs : Array Value) (f : Int → Bool) (h : Heap) (hv : R1 h v xs) (hf : ∀ j, j < xs.length → ∀ h', Ext h h' → CallA Try.prog g (#[.int .i64 (xs.getD j 0)] ++ cs) h' fun u h'' => u = .bool (f (xs.getD j 0)) ∧ Ext h' h'') : CallA Try.prog 72 #[v, .func (.func g) #[] cs] h fun v' h' => v' = .bool (xs.any f) ∧ Ext h h' := by
 refine callA_intro TTok (args := [_, _]) Try.func72 (by kernel_rfl) rfl 9 rfl (by simp) [.tmp 4] rfl ?_
 simp only [idxs, Nat.reduceAdd]
 refine den_seq ?_
 refine den_region TTok ?_
 intro K hK
 simp -implicitDefEqProofs (disch := first | decide | assumption | omega) only [go_sem, RdS.len hv sl22, RdS.idx hv sl22, R1.intB hv (HPres.refl _), RdS.cells hv]
 refine hK _ _ ?_
 clear hK K
 refine den_seq ?_
 refine den_region TTok ?_
 intro K hK
 simp -implicitDefEqProofs (disch := first | decide | assumption | omega) only [go_sem, RdS.len hv sl22, RdS.idx hv sl22, R1.intB hv (HPres.refl _), RdS.cells hv]
 try simp -implicitDefEqProofs (disch := first | decide | assumption | omega) only [go_sem, RdS.len hv sl22, RdS.idx hv sl22, R1.intB hv (HPres.refl _), RdS.cells hv]
 refine CallA.mono (idx1_ok _ xs _ _ f _ hv hf) ?_
 intro v_ h1_2
 rintro ⟨rfl, e1_2⟩
 have := Ext.size e1_2
 have eB := e1_2
 try simp -implicitDefEqProofs (disch := first | decide | assumption | omega) only [go_sem, RdS.len hv sl22, RdS.idx hv sl22, R1.intB hv (Ext.pres eB), RdS.cells hv]
 refine hK _ _ ?_
 clear hK K
 refine den_ret ?_
 simp (disch := decide) only [resP_1, puts_same, puts_ne]
 exact ⟨vbool idxP_any, eB⟩

set_option maxRecDepth 100000 in
theorem idx2_ok (v : Value) (xs : List (List Int)) (g : FuncId) (cs : Array Value) (f : List Int → Bool) (h : Heap) (hv : R2 h v xs) (hf : ∀ j, j < xs.length → ∀ h', Ext h h' → CallA Try.prog g (#[rowV h v j] ++ cs) h' fun u h'' => u = .bool (f (xs.getD j default)) ∧ Ext h' h'') : CallA Try.prog 171 #[v, .func (.func g) #[] cs] h fun v' h' => v' = .int .i64 (idxP f xs) ∧ Ext h h' := by
 have hle := RdS.le hv
 refine callA_intro TTok (args := [_, _]) Try.func171 (by kernel_rfl) rfl 19 rfl (by simp) [.tmp 4] rfl ?_
 simp only [idxs, Nat.reduceAdd]
 refine den_seq ?_
 refine den_region TTok ?_
 intro K hK
 simp -implicitDefEqProofs (disch := first | decide | assumption | omega) only [go_sem, RdS.len hv sl26, RdS.idx hv sl26, RdS.cellB hv (HPres.refl _), RdS.cells hv, wrap_id]
 refine hK _ _ ?_
 clear hK K
 refine den_seq ?_
 refine den_seq ?_
 refine den_region TTok ?_
 intro K hK
 simp -implicitDefEqProofs (disch := first | decide | assumption | omega) only [go_sem, RdS.len hv sl26, RdS.idx hv sl26, RdS.cellB hv (HPres.refl _), RdS.cells hv, wrap_id]
 refine hK _ _ ?_
 clear hK K
 refine den_block ?_
 refine den_sel [8, 0, 1, 7] ?_
 intro env_1
 simp only [go_sem]
 refine den_loopS (σ := Nat) (fun s => [(8, .int .i64 (s : Int))]) (fun s H => Ext h H ∧ s ≤ xs.length ∧ ∀ j, j < s → f (xs.getD j default) = false) (fun s => xs.length - s) 0 ?_ ?_
 ·exact ⟨Ext.refl _, by omega, fun j hj => by omega⟩
 ·rintro k h4 ee3 ⟨eB, hk, hz⟩
  simp only [List.cons_append, List.nil_append]
  have := Ext.size eB
  refine den_seq ?_
  refine den_region TTok ?_
  intro K hK
  simp -implicitDefEqProofs (disch := first | decide | assumption | omega) only [go_sem, RdS.len hv sl26, RdS.idx hv sl26, RdS.cellB hv (Ext.pres eB), RdS.cells hv, wrap_id]
  refine hK _ _ ?_
  clear hK K
  refine den_seq ?_
  refine den_cond rfl (fun c0 => ?_) (fun c0 => ?_)
  ·try simp only [decide_eq_true_eq, decide_eq_false_iff_not, beq_iff_eq, beq_eq_false_iff_ne, bne_iff_ne, ne_eq, Bool.not_eq_true', Bool.not_eq_false', Bool.and_eq_true, Bool.or_eq_true, bne_eq_false_iff_eq] at c0
   refine den_skip ?_
   refine den_seq ?_
   refine den_block ?_
   refine den_seq ?_
   refine den_region TTok ?_
   intro K hK
   simp -implicitDefEqProofs (disch := first | decide | assumption | omega) only [go_sem, RdS.len hv sl26, RdS.idx hv sl26, RdS.cellB hv (Ext.pres eB), RdS.cells hv, wrap_id]
   refine hK _ _ ?_
   clear hK K
   refine den_seq ?_
   refine den_region TTok ?_
   intro K hK
   have hr5 := RdS.rowN hv k (by omega)
   have hlhr5 := RdS.le hr5
   simp -implicitDefEqProofs (disch := first | decide | assumption | omega) only [go_sem, ld22, RdS.len hv sl26, RdS.idx hv sl26, RdS.cellB hv (Ext.pres eB), RdS.cells hv, RdS.len hr5 sl22, RdS.idx hr5 sl22, R1.intB hr5 (Ext.pres eB), RdS.cells hr5, wrap_id]
   try simp -implicitDefEqProofs (disch := first | decide | assumption | omega) only [go_sem, RdS.len hv sl26, RdS.idx hv sl26, RdS.cellB hv (Ext.pres eB), RdS.cells hv, RdS.len hr5 sl22, RdS.idx hr5 sl22, R1.intB hr5 (Ext.pres eB), RdS.cells hr5, wrap_id]
   refine CallA.mono (hf k (by omega) _ eB) ?_
   intro v_ h4_5
   rintro ⟨rfl, e4_5⟩
   have := Ext.size e4_5
   replace eB := Ext.trans eB e4_5
   try simp -implicitDefEqProofs (disch := first | decide | assumption | omega) only [go_sem, RdS.len hv sl26, RdS.idx hv sl26, RdS.cellB hv (Ext.pres eB), RdS.cells hv, RdS.len hr5 sl22, RdS.idx hr5 sl22, R1.intB hr5 (Ext.pres eB), RdS.cells hr5, wrap_id]
   refine hK _ _ ?_
   clear hK K
   refine den_cond rfl (fun c1 => ?_) (fun c1 => ?_)
   ·try simp only [decide_eq_true_eq, decide_eq_false_iff_not, beq_iff_eq, beq_eq_false_iff_ne, bne_iff_ne, ne_eq, Bool.not_eq_true', Bool.not_eq_false', Bool.and_eq_true, Bool.or_eq_true, bne_eq_false_iff_eq] at c1
    refine den_seq ?_
    refine den_region TTok ?_
    intro K hK
    simp -implicitDefEqProofs (disch := first | decide | assumption | omega) only [go_sem, RdS.len hv sl26, RdS.idx hv sl26, RdS.cellB hv (Ext.pres eB), RdS.cells hv, RdS.len hr5 sl22, RdS.idx hr5 sl22, R1.intB hr5 (Ext.pres eB), RdS.cells hr5, wrap_id]
    refine hK _ _ ?_
    clear hK K
    refine den_ret ?_
    simp (disch := decide) only [resP_1, puts_same, puts_ne]
    exact ⟨vint (idxP_at (by omega) hz (by simpa using c1)).symm, eB⟩
   ·try simp only [decide_eq_true_eq, decide_eq_false_iff_not, beq_iff_eq, beq_eq_false_iff_ne, bne_iff_ne, ne_eq, Bool.not_eq_true', Bool.not_eq_false', Bool.and_eq_true, Bool.or_eq_true, bne_eq_false_iff_eq] at c1
    refine den_skip ?_
    refine den_blk ?_
    refine den_region TTok ?_
    intro K hK
    simp -implicitDefEqProofs (disch := first | decide | assumption | omega) only [go_sem, RdS.len hv sl26, RdS.idx hv sl26, RdS.cellB hv (Ext.pres eB), RdS.cells hv, RdS.len hr5 sl22, RdS.idx hr5 sl22, R1.intB hr5 (Ext.pres eB), RdS.cells hr5, wrap_id]
    refine hK _ _ ?_
    clear hK K
    refine den_stop ?_
    exact ⟨k + 1, by simp [HasL, puts_at], ⟨eB, by omega, fun j hj => by
     rcases Nat.lt_succ_iff_lt_or_eq.1 hj with h1 | h1
     ·exact hz j h1
     ·rw [h1]; simpa using c1⟩, by omega⟩
  ·try simp only [decide_eq_true_eq, decide_eq_false_iff_not, beq_iff_eq, beq_eq_false_iff_ne, bne_iff_ne, ne_eq, Bool.not_eq_true', Bool.not_eq_false', Bool.and_eq_true, Bool.or_eq_true, bne_eq_false_iff_eq] at c0
   refine den_exit ?_
   refine denX_code ?_
   refine denX_stop ?_
   refine denX_hit ?_
   refine den_seq ?_
   refine den_region TTok ?_
   intro K hK
   simp -implicitDefEqProofs (disch := first | decide | assumption | omega) only [go_sem, RdS.len hv sl26, RdS.idx hv sl26, RdS.cellB hv (Ext.pres eB), RdS.cells hv, wrap_id]
   refine hK _ _ ?_
   clear hK K
   refine den_ret ?_
   simp (disch := decide) only [resP_1, puts_same, puts_ne]
   exact ⟨vint (idxP_none (all_getD (d := default) fun j hj => hz j (by omega))).symm, eB⟩

set_option maxRecDepth 100000 in
theorem has2_ok (v : Value) (xs : List (List Int)) (g : FuncId) (cs : Array Value) (f : List Int → Bool) (h : Heap) (hv : R2 h v xs) (hf : ∀ j, j < xs.length → ∀ h', Ext h h' → CallA Try.prog g (#[rowV h v j] ++ cs) h' fun u h'' => u = .bool (f (xs.getD j default)) ∧ Ext h' h'') : CallA Try.prog 200 #[v, .func (.func g) #[] cs] h fun v' h' => v' = .bool (xs.any f) ∧ Ext h h' := by
 refine callA_intro TTok (args := [_, _]) Try.func200 (by kernel_rfl) rfl 9 rfl (by simp) [.tmp 4] rfl ?_
 simp only [idxs, Nat.reduceAdd]
 refine den_seq ?_
 refine den_region TTok ?_
 intro K hK
 simp -implicitDefEqProofs (disch := first | decide | assumption | omega) only [go_sem, RdS.len hv sl26, RdS.idx hv sl26, RdS.cellB hv (HPres.refl _), RdS.cells hv]
 refine hK _ _ ?_
 clear hK K
 refine den_seq ?_
 refine den_region TTok ?_
 intro K hK
 simp -implicitDefEqProofs (disch := first | decide | assumption | omega) only [go_sem, RdS.len hv sl26, RdS.idx hv sl26, RdS.cellB hv (HPres.refl _), RdS.cells hv]
 try simp -implicitDefEqProofs (disch := first | decide | assumption | omega) only [go_sem, RdS.len hv sl26, RdS.idx hv sl26, RdS.cellB hv (HPres.refl _), RdS.cells hv]
 refine CallA.mono (idx2_ok _ xs _ _ f _ hv hf) ?_
 intro v_ h1_2
 rintro ⟨rfl, e1_2⟩
 have := Ext.size e1_2
 have eB := e1_2
 try simp -implicitDefEqProofs (disch := first | decide | assumption | omega) only [go_sem, RdS.len hv sl26, RdS.idx hv sl26, RdS.cellB hv (Ext.pres eB), RdS.cells hv]
 refine hK _ _ ?_
 clear hK K
 refine den_ret ?_
 simp (disch := decide) only [resP_1, puts_same, puts_ne]
 exact ⟨vbool idxP_any, eB⟩
end Go.Proofs.Ytjjjgllbocgkbaa

namespace Go.Proofs.Ytjjjgllbocgkbaa
open Go
theorem isRow_any {p n : Int} {xs : List Int} : (((xs.length : Int) == n) && !(xs.any fun x => !in3 x 0 (p - 1))) = isRow p n xs := by
 rw [isRow, List.not_any_eq_all_not]
 congr 1
 congr 1
 funext x
 exact Bool.not_not _
theorem rows_any {p n : Int} {R : List (List Int)} : (!(R.any fun r => !isRow p n r)) = R.all (isRow p n) := by
 rw [List.not_any_eq_all_not]
 congr 1
 funext x
 exact Bool.not_not _
theorem isP_bnd {p : Int} (h : isP p = true) : 0 < p ∧ p ≤ 7 := by
 simp only [isP, Bool.or_eq_true, beq_iff_eq] at h; omega

set_option maxRecDepth 100000 in
theorem isVec1_ok (p x : Int) (b : Nat) (h : Heap) (hb : BoxAt h b #[.int .i64 p] 2) (hp : -9223372036854775807 ≤ p ∧ p ≤ 9223372036854775807) : CallA Try.prog 215 #[.int .i64 x, .pointer (some ⟨b, 0, none⟩)] h fun v h' => v = .bool (!in3 x 0 (p - 1)) ∧ h' = h := by
 refine callA_intro TTok (args := [_, _]) Try.func215 (by kernel_rfl) rfl 9 rfl (by simp) [.tmp 3] rfl ?_
 simp only [idxs, Nat.reduceAdd]
 refine den_seq ?_
 refine den_region TTok ?_
 intro K hK
 simp -implicitDefEqProofs (disch := first | decide | assumption | omega) only [go_sem, BoxAt.cell hb, wrap_id]
 refine hK _ _ ?_
 clear hK K
 refine den_seq ?_
 refine den_region TTok ?_
 intro K hK
 simp -implicitDefEqProofs (disch := first | decide | assumption | omega) only [go_sem, ld2, BoxAt.cell hb, wrap_id]
 try simp -implicitDefEqProofs (disch := first | decide | assumption | omega) only [go_sem, BoxAt.cell hb, wrap_id]
 refine CallA.pure (iIn_ok _ _ _ _) ?_
 try simp -implicitDefEqProofs (disch := first | decide | assumption | omega) only [go_sem, BoxAt.cell hb, wrap_id]
 refine hK _ _ ?_
 clear hK K
 refine den_ret ?_
 simp (disch := decide) only [resP_1, puts_same, puts_ne]
 exact ⟨by first | rfl | trivial, trivial⟩

set_option maxRecDepth 100000 in
theorem isVec_ok (p n : Int) (v : Value) (xs : List Int) (h : Heap) (hv : R1 h v xs) (hp : -9223372036854775807 ≤ p ∧ p ≤ 9223372036854775807) : CallA Try.prog 202 #[.int .i64 p, .int .i64 n, v] h fun v' h' => v' = .bool (isRow p n xs) ∧ Ext h h' := by
 refine callA_intro TTok (args := [_, _, _]) Try.func202 (by kernel_rfl) rfl 17 rfl (by simp) [.tmp 6] rfl ?_
 simp only [idxs, Nat.reduceAdd]
 refine den_seq ?_
 refine den_region TTok ?_
 intro K hK
 simp -implicitDefEqProofs (disch := first | decide | assumption | omega) only [go_sem, RdS.len hv sl22, RdS.idx hv sl22, R1.intB hv (HPres.refl _), RdS.cells hv]
 refine op_box (cs := #[.int .i64 (p)]) rfl ?_
 intro h0_0 e0_0 hb0_0 z0_0
 replace hv := RdS.pres hv (Ext.pres e0_0)
 try simp -implicitDefEqProofs (disch := first | decide | assumption | omega) only [go_sem, RdS.len hv sl22, RdS.idx hv sl22, R1.intB hv (HPres.refl _), RdS.cells hv, BoxAt.cell hb0_0]
 refine hK _ _ ?_
 clear hK K
 refine den_seq ?_
 refine den_merge [(6, .bool (((((xs).length : Int) == n) && (!((xs.any fun x => !in3 x 0 (p - 1)))))))] [] (fun H => Ext h0_0 H) ?_ ?_
  -- a way
 ·refine den_region TTok ?_
  intro K hK
  simp -implicitDefEqProofs (disch := first | decide | assumption | (simp (disch := decide) only [slotOf_zero, slotOf_succ, Option.map_some, puts_same, puts_ne, gv_bool, gv_undef, tt, tf, ft, ff, eq_self, if_true, if_false, Bool.false_eq_true, Bool.not_true, Bool.not_false]; done) | omega) only [go_sem, RdS.len hv sl22, RdS.idx hv sl22, R1.intB hv (HPres.refl _), RdS.cells hv, BoxAt.cell hb0_0]
  try simp -implicitDefEqProofs (disch := first | decide | assumption | omega) only [go_sem, RdS.len hv sl22, RdS.idx hv sl22, R1.intB hv (HPres.refl _), RdS.cells hv, BoxAt.cell hb0_0]
  refine CallA.pure (size1_ok _ _ _ hv) ?_
  try simp -implicitDefEqProofs (disch := first | decide | assumption | (simp (disch := decide) only [slotOf_zero, slotOf_succ, Option.map_some, puts_same, puts_ne, gv_bool, gv_undef, tt, tf, ft, ff, eq_self, if_true, if_false, Bool.false_eq_true, Bool.not_true, Bool.not_false]; done) | omega) only [go_sem, RdS.len hv sl22, RdS.idx hv sl22, R1.intB hv (HPres.refl _), RdS.cells hv, BoxAt.cell hb0_0]
  refine opsP_T (by simp (disch := decide) only [slotOf_zero, slotOf_succ, Option.map_some, puts_same, puts_ne, gv_bool, gv_undef, tt, tf, ft, ff, eq_self, if_true, if_false, Bool.false_eq_true, Bool.not_true, Bool.not_false]; rfl) (fun g1 => ?_) (fun g1 => ?_)
  ·try simp -implicitDefEqProofs (disch := first | decide | assumption | (simp (disch := decide) only [slotOf_zero, slotOf_succ, Option.map_some, puts_same, puts_ne, gv_bool, gv_undef, tt, tf, ft, ff, eq_self, if_true, if_false, Bool.false_eq_true, Bool.not_true, Bool.not_false, g1]; done) | omega) only [go_sem, RdS.len hv sl22, RdS.idx hv sl22, R1.intB hv (HPres.refl _), RdS.cells hv, BoxAt.cell hb0_0, g1, eq_self, if_true, if_false, Bool.false_eq_true]
   try simp -implicitDefEqProofs (disch := first | decide | assumption | omega) only [go_sem, RdS.len hv sl22, RdS.idx hv sl22, R1.intB hv (HPres.refl _), RdS.cells hv, BoxAt.cell hb0_0]
   refine CallA.mono (has1_ok _ xs _ _ (fun x => !in3 x 0 (p - 1)) _ hv (fun j hj h' e => by
   simp only [List.append_toArray, List.cons_append, List.nil_append]
   exact CallA.mono (isVec1_ok p _ _ _ (BoxAt.ext hb0_0 e) hp) (fun _ _ ⟨e1, e2⟩ => ⟨e1, e2 ▸ Ext.refl _⟩))) ?_
   intro v_ h1_7
   rintro ⟨rfl, e1_7⟩
   have := Ext.size e1_7
   have eB := e1_7
   try simp -implicitDefEqProofs (disch := first | decide | assumption | (simp (disch := decide) only [slotOf_zero, slotOf_succ, Option.map_some, puts_same, puts_ne, gv_bool, gv_undef, tt, tf, ft, ff, eq_self, if_true, if_false, Bool.false_eq_true, Bool.not_true, Bool.not_false, g1]; done) | omega) only [go_sem, RdS.len hv sl22, RdS.idx hv sl22, R1.intB hv (Ext.pres eB), RdS.cells hv, BoxAt.cellB hb0_0 eB, g1, eq_self, if_true, if_false, Bool.false_eq_true]
   refine hK _ _ ?_
   clear hK K
   refine den_stop ?_
   refine ⟨?_, e1_7⟩
   first | (simp (disch := decide) only [go_sem, g1, eq_self, Bool.true_and, Bool.and_true, Bool.false_and, Bool.and_false, Bool.true_or, Bool.or_true, Bool.false_or, Bool.or_false, if_true, if_false, Bool.false_eq_true]; done) | simp [HasL, sel, puts_at, g1]
  ·try simp -implicitDefEqProofs (disch := first | decide | assumption | (simp (disch := decide) only [slotOf_zero, slotOf_succ, Option.map_some, puts_same, puts_ne, gv_bool, gv_undef, tt, tf, ft, ff, eq_self, if_true, if_false, Bool.false_eq_true, Bool.not_true, Bool.not_false, g1]; done) | omega) only [go_sem, RdS.len hv sl22, RdS.idx hv sl22, R1.intB hv (HPres.refl _), RdS.cells hv, BoxAt.cell hb0_0, g1, eq_self, if_true, if_false, Bool.false_eq_true]
   refine hK _ _ ?_
   clear hK K
   refine den_stop ?_
   refine ⟨?_, Ext.refl _⟩
   first | (simp (disch := decide) only [go_sem, g1, eq_self, Bool.true_and, Bool.and_true, Bool.false_and, Bool.and_false, Bool.true_or, Bool.or_true, Bool.false_or, Bool.or_false, if_true, if_false, Bool.false_eq_true]; done) | simp [HasL, sel, puts_at, g1]
 intro en2 h3 e4
 have := Ext.size e4
 have eB := e4
 simp (disch := decide) only [go_sem]
 refine den_ret ?_
 simp (disch := decide) only [resP_1, puts_same, puts_ne]
 exact ⟨vbool isRow_any, (Ext.trans e0_0 eB)⟩

set_option maxRecDepth 100000 in
theorem areRows1_ok (p n : Int) (v : Value) (xs : List Int) (b c : Nat) (h : Heap) (hv : R1 h v xs) (hb : BoxAt h b #[.int .i64 p] 2) (hc : BoxAt h c #[.int .i64 n] 2) (hp : -9223372036854775807 ≤ p ∧ p ≤ 9223372036854775807) : CallA Try.prog 201 #[v, .pointer (some ⟨b, 0, none⟩), .pointer (some ⟨c, 0, none⟩)] h fun v' h' => v' = .bool (!isRow p n xs) ∧ Ext h h' := by
 refine callA_intro TTok (args := [_, _, _]) Try.func201 (by kernel_rfl) rfl 10 rfl (by simp) [.tmp 4] rfl ?_
 simp only [idxs, Nat.reduceAdd]
 refine den_seq ?_
 refine den_region TTok ?_
 intro K hK
 simp -implicitDefEqProofs (disch := first | decide | assumption | omega) only [go_sem, RdS.len hv sl22, RdS.idx hv sl22, R1.intB hv (HPres.refl _), RdS.cells hv, BoxAt.cell hb, BoxAt.cell hc]
 refine hK _ _ ?_
 clear hK K
 refine den_seq ?_
 refine den_region TTok ?_
 intro K hK
 simp -implicitDefEqProofs (disch := first | decide | assumption | omega) only [go_sem, ld2, RdS.len hv sl22, RdS.idx hv sl22, R1.intB hv (HPres.refl _), RdS.cells hv, BoxAt.cell hb, BoxAt.cell hc]
 try simp -implicitDefEqProofs (disch := first | decide | assumption | omega) only [go_sem, RdS.len hv sl22, RdS.idx hv sl22, R1.intB hv (HPres.refl _), RdS.cells hv, BoxAt.cell hb, BoxAt.cell hc]
 refine CallA.mono (isVec_ok _ _ _ _ _ hv (by omega)) ?_
 intro v_ h1_3
 rintro ⟨rfl, e1_3⟩
 have := Ext.size e1_3
 have eB := e1_3
 try simp -implicitDefEqProofs (disch := first | decide | assumption | omega) only [go_sem, RdS.len hv sl22, RdS.idx hv sl22, R1.intB hv (Ext.pres eB), RdS.cells hv, BoxAt.cellB hb eB, BoxAt.cellB hc eB]
 refine hK _ _ ?_
 clear hK K
 refine den_ret ?_
 simp (disch := decide) only [resP_1, puts_same, puts_ne]
 exact ⟨by first | rfl | trivial, eB⟩

set_option maxRecDepth 100000 in
theorem areRows_ok (p n : Int) (v : Value) (R : List (List Int)) (h : Heap) (hv : R2 h v R) (hp : -9223372036854775807 ≤ p ∧ p ≤ 9223372036854775807) : CallA Try.prog 138 #[.int .i64 p, .int .i64 n, v] h fun v' h' => v' = .bool (R.all (isRow p n)) ∧ Ext h h' := by
 refine callA_intro TTok (args := [_, _, _]) Try.func138 (by kernel_rfl) rfl 11 rfl (by simp) [.tmp 6] rfl ?_
 simp only [idxs, Nat.reduceAdd]
 refine den_seq ?_
 refine den_region TTok ?_
 intro K hK
 simp -implicitDefEqProofs (disch := first | decide | assumption | omega) only [go_sem, RdS.len hv sl26, RdS.idx hv sl26, RdS.cellB hv (HPres.refl _), RdS.cells hv]
 refine op_box (cs := #[.int .i64 (p)]) rfl ?_
 intro h0_0 e0_0 hb0_0 z0_0
 replace hv := RdS.pres hv (Ext.pres e0_0)
 try simp -implicitDefEqProofs (disch := first | decide | assumption | omega) only [go_sem, RdS.len hv sl26, RdS.idx hv sl26, RdS.cellB hv (HPres.refl _), RdS.cells hv, BoxAt.cell hb0_0]
 refine op_box (cs := #[.int .i64 (n)]) rfl ?_
 intro h0_1 e0_1 hb0_1 z0_1
 replace hv := RdS.pres hv (Ext.pres e0_1)
 replace hb0_0 := BoxAt.ext hb0_0 e0_1
 try simp -implicitDefEqProofs (disch := first | decide | assumption | omega) only [go_sem, RdS.len hv sl26, RdS.idx hv sl26, RdS.cellB hv (HPres.refl _), RdS.cells hv, BoxAt.cell hb0_0, BoxAt.cell hb0_1]
 refine hK _ _ ?_
 clear hK K
 refine den_seq ?_
 refine den_region TTok ?_
 intro K hK
 simp -implicitDefEqProofs (disch := first | decide | assumption | omega) only [go_sem, RdS.len hv sl26, RdS.idx hv sl26, RdS.cellB hv (HPres.refl _), RdS.cells hv, BoxAt.cell hb0_0, BoxAt.cell hb0_1]
 try simp -implicitDefEqProofs (disch := first | decide | assumption | omega) only [go_sem, RdS.len hv sl26, RdS.idx hv sl26, RdS.cellB hv (HPres.refl _), RdS.cells hv, BoxAt.cell hb0_0, BoxAt.cell hb0_1]
 refine CallA.mono (has2_ok _ R _ _ (fun r => !isRow p n r) _ hv (fun j hj h' e => by
   simp only [List.append_toArray, List.cons_append, List.nil_append]
   exact CallA.mono (areRows1_ok p n _ _ _ _ _ ((RdS.rowN hv j hj).pres (Ext.pres e)) (BoxAt.ext hb0_0 e) (BoxAt.ext hb0_1 e) hp) (fun _ _ ⟨e1, e2⟩ => ⟨e1, e2⟩))) ?_
 intro v_ h1_2
 rintro ⟨rfl, e1_2⟩
 have := Ext.size e1_2
 have eB := e1_2
 try simp -implicitDefEqProofs (disch := first | decide | assumption | omega) only [go_sem, RdS.len hv sl26, RdS.idx hv sl26, RdS.cellB hv (Ext.pres eB), RdS.cells hv, BoxAt.cellB hb0_0 eB, BoxAt.cellB hb0_1 eB]
 refine hK _ _ ?_
 clear hK K
 refine den_ret ?_
 simp (disch := decide) only [resP_1, puts_same, puts_ne]
 exact ⟨vbool rows_any, (Ext.trans (Ext.trans e0_0 e0_1) eB)⟩

set_option maxRecDepth 100000 in
theorem isZero1_ok (x : Int) (h : Heap) : CallA Try.prog 203 #[.int .i64 x] h fun v h' => v = .bool (x != 0) ∧ h' = h := by
 refine callA_intro TTok (args := [_]) Try.func203 (by kernel_rfl) rfl 5 rfl (by simp) [.tmp 2] rfl ?_
 simp only [idxs, Nat.reduceAdd]
 refine den_seq ?_
 refine den_region TTok ?_
 intro K hK
 simp -implicitDefEqProofs (disch := first | decide | assumption | omega) only [go_sem]
 refine hK _ _ ?_
 clear hK K
 refine den_seq ?_
 refine den_region TTok ?_
 intro K hK
 simp -implicitDefEqProofs (disch := first | decide | assumption | omega) only [go_sem]
 refine hK _ _ ?_
 clear hK K
 refine den_ret ?_
 simp (disch := decide) only [resP_1, puts_same, puts_ne]
 exact ⟨by first | rfl | trivial, trivial⟩

set_option maxRecDepth 100000 in
theorem isZero_ok (v : Value) (xs : List Int) (h : Heap) (hv : R1 h v xs) : CallA Try.prog 139 #[v] h fun v' h' => v' = .bool (!xs.any (fun x => x != 0)) ∧ Ext h h' := by
 refine callA_intro TTok (args := [_]) Try.func139 (by kernel_rfl) rfl 6 rfl (by simp) [.tmp 2] rfl ?_
 simp only [idxs, Nat.reduceAdd]
 refine den_seq ?_
 refine den_region TTok ?_
 intro K hK
 simp -implicitDefEqProofs (disch := first | decide | assumption | omega) only [go_sem, RdS.len hv sl22, RdS.idx hv sl22, R1.intB hv (HPres.refl _), RdS.cells hv]
 refine hK _ _ ?_
 clear hK K
 refine den_seq ?_
 refine den_region TTok ?_
 intro K hK
 simp -implicitDefEqProofs (disch := first | decide | assumption | omega) only [go_sem, RdS.len hv sl22, RdS.idx hv sl22, R1.intB hv (HPres.refl _), RdS.cells hv]
 try simp -implicitDefEqProofs (disch := first | decide | assumption | omega) only [go_sem, RdS.len hv sl22, RdS.idx hv sl22, R1.intB hv (HPres.refl _), RdS.cells hv]
 refine CallA.mono (has1_ok _ xs _ _ (fun x => x != 0) _ hv (fun j hj h' e => by
   simp only [List.append_toArray, List.cons_append, List.nil_append]
   exact CallA.mono (isZero1_ok _ _) (fun _ _ ⟨e1, e2⟩ => ⟨e1, e2 ▸ Ext.refl _⟩))) ?_
 intro v_ h1_1
 rintro ⟨rfl, e1_1⟩
 have := Ext.size e1_1
 have eB := e1_1
 try simp -implicitDefEqProofs (disch := first | decide | assumption | omega) only [go_sem, RdS.len hv sl22, RdS.idx hv sl22, R1.intB hv (Ext.pres eB), RdS.cells hv]
 refine hK _ _ ?_
 clear hK K
 refine den_ret ?_
 simp (disch := decide) only [resP_1, puts_same, puts_ne]
 exact ⟨by first | rfl | trivial, eB⟩
end Go.Proofs.Ytjjjgllbocgkbaa

namespace Go.Proofs.Ytjjjgllbocgkbaa
open Go
def tbAt (X : Cx) (k : Nat) : Prop := tableP X.p (X.maps.getD k default) (X.dims.getD ((k : Int) + 1).toNat 0) (X.dims.getD k 0) = true
/-- Row i of map k, sent on by the map before. -/
def sqv (X : Cx) (k i : Nat) : List Int := accP X.p ((X.maps.getD k default).getD i default) (X.maps.getD ((k : Int) - 1).toNat default) (List.replicate (X.dims.getD ((k : Int) - 1).toNat 0).toNat 0)
structure IsC (X : Cx) : Prop where
 p : isP X.p = true
 len : 1 ≤ X.dims.length ∧ X.dims.length ≤ 6
 ml : X.maps.length + 1 = X.dims.length
 dm : X.dims.all (fun x => in3 x 0 8) = true
 tb : ∀ k, k < X.maps.length → tbAt X k
 sq : ∀ k, k < X.maps.length → 0 < k → ∀ i, i < (X.maps.getD k default).length → leadP (sqv X k i) < 0
theorem dm_at {X : Cx} (h : X.dims.all (fun x => in3 x 0 8) = true) {k : Nat} (hk : k < X.dims.length) : 0 ≤ X.dims.getD k 0 ∧ X.dims.getD k 0 ≤ 8 := in3_iff.1 (all_at (d := 0) h hk)
end Go.Proofs.Ytjjjgllbocgkbaa

namespace Go.Proofs.Ytjjjgllbocgkbaa
open Go
structure PreC (X : Cx) : Prop where
 p : 0 < X.p ∧ X.p ≤ 7
 ml : X.maps.length + 1 = X.dims.length
 dm : X.dims.all (fun x => in3 x 0 8) = true
 tb : ∀ k, k < X.maps.length → tbAt X k
theorem PreC.app {X : Cx} (h : PreC X) {n : Int} (h0 : 0 < n) (h1 : n ≤ (X.dims.length : Int) - 1) : (0 ≤ X.dims.getD (n - 1).toNat 0 ∧ X.dims.getD (n - 1).toNat 0 ≤ 8) ∧ ((X.maps.getD (n - 1).toNat default).length : Int) = X.dims.getD n.toNat 0 ∧ Tbl X.p (X.dims.getD (n - 1).toNat 0) (X.maps.getD (n - 1).toNat default) := by
 have hm := h.ml
 have t := tableP_iff.1 (h.tb (n - 1).toNat (by omega))
 have e : ((((n - 1).toNat : Nat) : Int) + 1).toNat = n.toNat := by omega
 rw [e] at t
 exact ⟨dm_at h.dm (by omega), t⟩
end Go.Proofs.Ytjjjgllbocgkbaa

namespace Go.Proofs.Ytjjjgllbocgkbaa
open Go
theorem szI_ok {xs : List Int} {l : Int} (hl : l ≤ 1048576) (h : ¬ szI xs l < 0) : HM1 xs := by
 unfold szI at h
 unfold HM1
 split at h <;> omega
theorem szRows_ok {α : Type} {f : α → Int → Int} {P : α → Prop} (hle : ∀ x l, 0 ≤ l → -1 ≤ f x l ∧ f x l ≤ l) (hP : ∀ x l, 0 ≤ l → l ≤ 1048576 → ¬ f x l < 0 → P x) : ∀ (r : List α) (l : Int), 0 ≤ l → l ≤ 1048576 → ¬ szRows f r l < 0 → ∀ x ∈ r, P x
 | [], _, _, _, _, x, hx => by cases hx
 | y :: r, l, h0, h1, h, x, hx => by
  unfold szRows at h
  split at h
  ·omega
  ·rename_i hc
   have := hle y l h0
   rcases List.mem_cons.1 hx with rfl | hx
   ·exact hP _ l h0 h1 hc
   ·exact szRows_ok hle hP r (f y l) (by omega) (by omega) h x hx
theorem szL_ok {α : Type} {f : α → Int → Int} {P : α → Prop} (hle : ∀ x l, 0 ≤ l → -1 ≤ f x l ∧ f x l ≤ l) (hP : ∀ x l, 0 ≤ l → l ≤ 1048576 → ¬ f x l < 0 → P x) {r : List α} {l : Int} (h1 : l ≤ 1048576) (h : ¬ szL f r l < 0) : (r.length : Int) ≤ 1048576 ∧ ∀ x ∈ r, P x := by
 unfold szL at h
 split at h
 ·omega
 ·exact ⟨by omega, szRows_ok hle hP r _ (by omega) (by omega) h⟩
theorem sz2_ok {r : List (List Int)} {l : Int} (h0 : 0 ≤ l) (h1 : l ≤ 1048576) (h : ¬ sz2 r l < 0) : HM2 r := szL_ok szI_le (fun x l _ h1 h => szI_ok h1 h) h1 h
theorem Fresh.left {lo : Nat} {f1 f2 : List Nat} (h : Fresh lo (f1 ++ f2)) : Fresh lo f1 := ⟨(List.nodup_append.1 h.nodup).1, fun b hb => h.ge b (List.mem_append_left _ hb)⟩
theorem Fresh.right {lo : Nat} {f1 f2 : List Nat} (h : Fresh lo (f1 ++ f2)) : Fresh lo f2 := ⟨(List.nodup_append.1 h.nodup).2.1, fun b hb => h.ge b (List.mem_append_right _ hb)⟩
end Go.Proofs.Ytjjjgllbocgkbaa

namespace Go.Proofs.Ytjjjgllbocgkbaa
open Go
def cntL {α : Type} (ct : α → Int) : List α → Int
 | [] => 0
 | x :: r => ct x + cntL ct r
def cnt1 (xs : List Int) : Int := xs.length
section
variable {α : Type} {mk : α → Int → α} {ct : α → Int}
theorem cntL_nonneg (h : ∀ x, 0 ≤ ct x) : ∀ xs : List α, 0 ≤ cntL ct xs
 | [] => by simp [cntL]
 | x :: r => by have := h x; have := cntL_nonneg h r; simp only [cntL]; omega
end
theorem cnt1_nn (x : List Int) : 0 ≤ cnt1 x := by unfold cnt1; omega
end Go.Proofs.Ytjjjgllbocgkbaa

namespace Go.Proofs.Ytjjjgllbocgkbaa
open Go
theorem szI_cntA {xs : List Int} {l : Int} (h : ¬ szI xs l < 0) : cnt1 xs ≤ l - szI xs l := by
 unfold szI at *
 unfold cnt1
 split at h
 ·omega
 ·rename_i hc; rw [if_neg hc]; omega
theorem szRows_cntA {α : Type} {f : α → Int → Int} {ct : α → Int} (hc : ∀ x l, ¬ f x l < 0 → ct x ≤ l - f x l) : ∀ (r : List α) (l : Int), ¬ szRows f r l < 0 → cntL ct r ≤ l - szRows f r l
 | [], l, _ => by simp [cntL, szRows]
 | x :: r, l, h => by
  unfold szRows at *
  split at h
  ·omega
  ·rename_i hx
   have h1 := hc x l hx
   have h2 := szRows_cntA hc r (f x l) h
   rw [if_neg hx, cntL]; omega
theorem szL_cntA {α : Type} {f : α → Int → Int} {ct : α → Int} (hc : ∀ x l, ¬ f x l < 0 → ct x ≤ l - f x l) (r : List α) (l : Int) (h : ¬ szL f r l < 0) : cntL ct r ≤ l - szL f r l := by
 unfold szL at *
 split at h
 ·omega
 ·rename_i hx
  have := szRows_cntA hc r _ h
  rw [if_neg hx]; omega
theorem eqSS_same (v w : Value) (xs : List (List Int)) (h : Heap) (hv : R2 h v xs) (hw : R2 h w xs) : CallA Try.prog 26 #[v, w] h fun u h' => u = .bool true ∧ h' = h := (eqSS_ok v w xs xs h hv hw).mono fun u h' e => ⟨by rw [e.1]; simp, e.2⟩
end Go.Proofs.Ytjjjgllbocgkbaa

namespace Go.Proofs.Ytjjjgllbocgkbaa
open Go
/-- A filtered complex, as data. -/
structure Fl where
 c : Cx
 lv : List (List Int)
def RF (h : Heap) (v : Value) (X : Fl) : Prop := ∃ vd vm vl, v = .agg #[.int .i64 X.c.p, vd, vm, vl] ∧ R1 h vd X.c.dims ∧ R3 h vm X.c.maps ∧ R2 h vl X.lv
instance : Mono RF := ⟨fun hp ⟨vd, vm, vl, e, h1, h2, h3⟩ => ⟨vd, vm, vl, e, h1.pres hp, h2.pres hp, h3.pres hp⟩⟩
theorem RF.pres {h h' : Heap} {v : Value} {X : Fl} (hv : RF h v X) (hp : HPres h h') : RF h' v X := Mono.mono hp hv
theorem Apart.lft {fp f1 f2 : List Nat} (h : Apart fp (f1 ++ f2)) : Apart fp f1 := fun b hb hq => h b hb (List.mem_append_left _ hq)
theorem Apart.rgt {fp f1 f2 : List Nat} (h : Apart fp (f1 ++ f2)) : Apart fp f2 := fun b hb hq => h b hb (List.mem_append_right _ hq)
structure HMF (X : Fl) : Prop where
 c : HMC X.c
 lv : HM2 X.lv
open Go.ChangeShapes Go.WideShapes Go.ChangeAt Go.RowKit Go.Joins
end Go.Proofs.Ytjjjgllbocgkbaa

namespace Go.Proofs.Ytjjjgllbocgkbaa
open Go
/-- A couple, as data. -/
structure Cp where
 p : Int
 d : Int
 e : Int
 i : List (List Int)
 j : List (List Int)
 k : List (List Int)
def RP (h : Heap) (v : Value) (X : Cp) : Prop := ∃ vi vj vk, v = .agg #[.int .i64 X.p, .int .i64 X.d, .int .i64 X.e, vi, vj, vk] ∧ R2 h vi X.i ∧ R2 h vj X.j ∧ R2 h vk X.k
instance : Mono RP := ⟨fun hp ⟨vd, vm, vl, e, h1, h2, h3⟩ => ⟨vd, vm, vl, e, h1.pres hp, h2.pres hp, h3.pres hp⟩⟩
theorem RP.pres {h h' : Heap} {v : Value} {X : Cp} (hv : RP h v X) (hp : HPres h h') : RP h' v X := Mono.mono hp hv

def szP (X : Cp) (l : Int) : Int := if sz2 X.i l < 0 then -1 else if sz2 X.j (sz2 X.i l) < 0 then -1 else if sz2 X.k (sz2 X.j (sz2 X.i l)) < 0 then -1 else sz2 X.k (sz2 X.j (sz2 X.i l))
theorem szP_le (X : Cp) (l : Int) (h : 0 ≤ l) : -1 ≤ szP X l ∧ szP X l ≤ l := by
 unfold szP
 have h0 := sz2_le X.i l h
 split
 ·omega
 have h1 := sz2_le X.j (sz2 X.i l) (by omega)
 split
 ·omega
 have h2 := sz2_le X.k (sz2 X.j (sz2 X.i l)) (by omega)
 split
 ·omega
 omega
structure HMP (X : Cp) : Prop where
 i : HM2 X.i
 j : HM2 X.j
 k : HM2 X.k
theorem szP_ok' {X : Cp} {l : Int} (h0 : 0 ≤ l) (h1 : l ≤ 1048576) (h : ¬ szP X l < 0) : HMP X := by
 unfold szP at h
 have g0 := sz2_le X.i l (by omega)
 split at h
 ·omega
 rename_i c0
 have g1 := sz2_le X.j (sz2 X.i l) (by omega)
 split at h
 ·omega
 rename_i c1
 have g2 := sz2_le X.k (sz2 X.j (sz2 X.i l)) (by omega)
 split at h
 ·omega
 rename_i c2
 exact ⟨sz2_ok (by omega) (by omega) c0, sz2_ok (by omega) (by omega) c1, sz2_ok (by omega) (by omega) c2⟩
theorem szP_cntA {X : Cp} {l : Int} (h0 : 0 ≤ l) (h1 : l ≤ 1048576) (h : ¬ szP X l < 0) : 0 ≤ cntL cnt1 X.i ∧ 0 ≤ cntL cnt1 X.j ∧ 0 ≤ cntL cnt1 X.k ∧ cntL cnt1 X.i + cntL cnt1 X.j + cntL cnt1 X.k ≤ 1048576 := by
 unfold szP at h
 have g0 := sz2_le X.i l (by omega)
 split at h
 ·omega
 rename_i c0
 have a0 := szL_cntA (f := szI) (ct := cnt1) (fun x l hx => szI_cntA hx) X.i l c0
 have e0 : szL szI X.i l = sz2 X.i l := rfl
 have g1 := sz2_le X.j (sz2 X.i l) (by omega)
 split at h
 ·omega
 rename_i c1
 have a1 := szL_cntA (f := szI) (ct := cnt1) (fun x l hx => szI_cntA hx) X.j (sz2 X.i l) c1
 have e1 : szL szI X.j (sz2 X.i l) = sz2 X.j (sz2 X.i l) := rfl
 have g2 := sz2_le X.k (sz2 X.j (sz2 X.i l)) (by omega)
 split at h
 ·omega
 rename_i c2
 have a2 := szL_cntA (f := szI) (ct := cnt1) (fun x l hx => szI_cntA hx) X.k (sz2 X.j (sz2 X.i l)) c2
 have e2 : szL szI X.k (sz2 X.j (sz2 X.i l)) = sz2 X.k (sz2 X.j (sz2 X.i l)) := rfl
 exact ⟨cntL_nonneg cnt1_nn _, cntL_nonneg cnt1_nn _, cntL_nonneg cnt1_nn _, by omega⟩
set_option maxRecDepth 100000 in
theorem szP_ok (vX : Value) (X : Cp) (left : Int) (h : Heap) (rX : RP h vX X) (h0 : 0 ≤ left) (h1 : left ≤ 1048576) : CallA Try.prog 37 #[vX, .int .i64 left] h fun v' h' => v' = .int .i64 (szP X left) ∧ Ext h h' := by
 obtain ⟨viX, vjX, vkX, rfl, hiX, hjX, hkX⟩ := rX
 have hleiX := RdS.le hiX
 have hlejX := RdS.le hjX
 have hlekX := RdS.le hkX
 refine callA_intro TTok (args := [_, _]) Try.func37 (by kernel_rfl) rfl 24 rfl (by simp) [.tmp 4] rfl ?_
 simp only [idxs, Nat.reduceAdd]
 refine den_seq ?_
 refine den_region TTok ?_
 intro K hK
 simp -implicitDefEqProofs (disch := first | decide | assumption | omega) only [go_sem, wrap_id]
 refine op_box (cs := #[.int .i64 (X.p), .int .i64 (X.d), .int .i64 (X.e), viX, vjX, vkX]) rfl ?_
 intro h0_0 e0_0 hb0_0 z0_0
 have := Ext.size e0_0
 have eB := e0_0
 have hfhb0_0 : Fresh h.size [h.size] := Fresh.one _
 have hlhb0_0 := one_lt (show h.size < h0_0.size by omega)
 try simp -implicitDefEqProofs (disch := first | decide | assumption | omega) only [go_sem, wrap_id]
 refine hK _ _ ?_
 clear hK K
 refine den_seq ?_
 refine den_region TTok ?_
 intro K hK
 simp -implicitDefEqProofs (disch := first | decide | assumption | omega) only [go_sem, fa51_3, ld26, RdS.len hiX sl26, RdS.idx hiX sl26, RdS.cellB hiX (Ext.pres eB), RdS.cells hiX, RdS.len hjX sl26, RdS.idx hjX sl26, RdS.cellB hjX (Ext.pres eB), RdS.cells hjX, RdS.len hkX sl26, RdS.idx hkX sl26, RdS.cellB hkX (Ext.pres eB), RdS.cells hkX, BoxAt.cell hb0_0, wrap_id]
 try simp -implicitDefEqProofs (disch := first | decide | assumption | omega) only [go_sem, wrap_id]
 refine CallA.pure (szSS_ok _ X.i _ _ (RdS.pres hiX (Ext.pres eB)) (by omega) (by omega)) ?_
 have := sz2_le X.i left (by omega)
 try simp -implicitDefEqProofs (disch := first | decide | assumption | omega) only [go_sem, wrap_id]
 refine hK _ _ ?_
 clear hK K
 refine den_seq ?_
 refine den_seq ?_
 refine den_region TTok ?_
 intro K hK
 simp -implicitDefEqProofs (disch := first | decide | assumption | omega) only [go_sem, wrap_id]
 refine hK _ _ ?_
 clear hK K
 refine den_cond rfl (fun c0 => ?_) (fun c0 => ?_)
 ·try simp only [decide_eq_true_eq, decide_eq_false_iff_not, beq_iff_eq, beq_eq_false_iff_ne, bne_iff_ne, ne_eq, Bool.not_eq_true', Bool.not_eq_false', Bool.and_eq_true, Bool.or_eq_true, bne_eq_false_iff_eq] at c0
  refine den_seq ?_
  refine den_region TTok ?_
  intro K hK
  simp -implicitDefEqProofs (disch := first | decide | assumption | omega) only [go_sem, wrap_id]
  refine hK _ _ ?_
  clear hK K
  refine den_ret ?_
  simp (disch := decide) only [resP_1, puts_same, puts_ne]
  exact ⟨vint (by rw [szP, if_pos c0]), eB⟩
 ·try simp only [decide_eq_true_eq, decide_eq_false_iff_not, beq_iff_eq, beq_eq_false_iff_ne, bne_iff_ne, ne_eq, Bool.not_eq_true', Bool.not_eq_false', Bool.and_eq_true, Bool.or_eq_true, bne_eq_false_iff_eq] at c0
  refine den_skip ?_
  refine den_seq ?_
  refine den_region TTok ?_
  intro K hK
  simp -implicitDefEqProofs (disch := first | decide | assumption | omega) only [go_sem, fa51_4, ld26, RdS.len hiX sl26, RdS.idx hiX sl26, RdS.cellB hiX (Ext.pres eB), RdS.cells hiX, RdS.len hjX sl26, RdS.idx hjX sl26, RdS.cellB hjX (Ext.pres eB), RdS.cells hjX, RdS.len hkX sl26, RdS.idx hkX sl26, RdS.cellB hkX (Ext.pres eB), RdS.cells hkX, BoxAt.cell hb0_0, wrap_id]
  try simp -implicitDefEqProofs (disch := first | decide | assumption | omega) only [go_sem, wrap_id]
  refine CallA.pure (szSS_ok _ X.j _ _ (RdS.pres hjX (Ext.pres eB)) (by omega) (by omega)) ?_
  have := sz2_le X.j (sz2 X.i left) (by omega)
  try simp -implicitDefEqProofs (disch := first | decide | assumption | omega) only [go_sem, wrap_id]
  refine hK _ _ ?_
  clear hK K
  refine den_seq ?_
  refine den_seq ?_
  refine den_region TTok ?_
  intro K hK
  simp -implicitDefEqProofs (disch := first | decide | assumption | omega) only [go_sem, wrap_id]
  refine hK _ _ ?_
  clear hK K
  refine den_cond rfl (fun c1 => ?_) (fun c1 => ?_)
  ·try simp only [decide_eq_true_eq, decide_eq_false_iff_not, beq_iff_eq, beq_eq_false_iff_ne, bne_iff_ne, ne_eq, Bool.not_eq_true', Bool.not_eq_false', Bool.and_eq_true, Bool.or_eq_true, bne_eq_false_iff_eq] at c1
   refine den_seq ?_
   refine den_region TTok ?_
   intro K hK
   simp -implicitDefEqProofs (disch := first | decide | assumption | omega) only [go_sem, wrap_id]
   refine hK _ _ ?_
   clear hK K
   refine den_ret ?_
   simp (disch := decide) only [resP_1, puts_same, puts_ne]
   exact ⟨vint (by rw [szP, if_neg c0, if_pos c1]), eB⟩
  ·try simp only [decide_eq_true_eq, decide_eq_false_iff_not, beq_iff_eq, beq_eq_false_iff_ne, bne_iff_ne, ne_eq, Bool.not_eq_true', Bool.not_eq_false', Bool.and_eq_true, Bool.or_eq_true, bne_eq_false_iff_eq] at c1
   refine den_skip ?_
   refine den_seq ?_
   refine den_region TTok ?_
   intro K hK
   simp -implicitDefEqProofs (disch := first | decide | assumption | omega) only [go_sem, fa51_5, ld26, RdS.len hiX sl26, RdS.idx hiX sl26, RdS.cellB hiX (Ext.pres eB), RdS.cells hiX, RdS.len hjX sl26, RdS.idx hjX sl26, RdS.cellB hjX (Ext.pres eB), RdS.cells hjX, RdS.len hkX sl26, RdS.idx hkX sl26, RdS.cellB hkX (Ext.pres eB), RdS.cells hkX, BoxAt.cell hb0_0, wrap_id]
   try simp -implicitDefEqProofs (disch := first | decide | assumption | omega) only [go_sem, wrap_id]
   refine CallA.pure (szSS_ok _ X.k _ _ (RdS.pres hkX (Ext.pres eB)) (by omega) (by omega)) ?_
   have := sz2_le X.k (sz2 X.j (sz2 X.i left)) (by omega)
   try simp -implicitDefEqProofs (disch := first | decide | assumption | omega) only [go_sem, wrap_id]
   refine hK _ _ ?_
   clear hK K
   refine den_seq ?_
   refine den_seq ?_
   refine den_region TTok ?_
   intro K hK
   simp -implicitDefEqProofs (disch := first | decide | assumption | omega) only [go_sem, wrap_id]
   refine hK _ _ ?_
   clear hK K
   refine den_cond rfl (fun c2 => ?_) (fun c2 => ?_)
   ·try simp only [decide_eq_true_eq, decide_eq_false_iff_not, beq_iff_eq, beq_eq_false_iff_ne, bne_iff_ne, ne_eq, Bool.not_eq_true', Bool.not_eq_false', Bool.and_eq_true, Bool.or_eq_true, bne_eq_false_iff_eq] at c2
    refine den_seq ?_
    refine den_region TTok ?_
    intro K hK
    simp -implicitDefEqProofs (disch := first | decide | assumption | omega) only [go_sem, wrap_id]
    refine hK _ _ ?_
    clear hK K
    refine den_ret ?_
    simp (disch := decide) only [resP_1, puts_same, puts_ne]
    exact ⟨vint (by rw [szP, if_neg c0, if_neg c1, if_pos c2]), eB⟩
   ·try simp only [decide_eq_true_eq, decide_eq_false_iff_not, beq_iff_eq, beq_eq_false_iff_ne, bne_iff_ne, ne_eq, Bool.not_eq_true', Bool.not_eq_false', Bool.and_eq_true, Bool.or_eq_true, bne_eq_false_iff_eq] at c2
    refine den_skip ?_
    refine den_seq ?_
    refine den_region TTok ?_
    intro K hK
    simp -implicitDefEqProofs (disch := first | decide | assumption | omega) only [go_sem, wrap_id]
    refine hK _ _ ?_
    clear hK K
    refine den_ret ?_
    simp (disch := decide) only [resP_1, puts_same, puts_ne]
    exact ⟨vint (by rw [szP, if_neg c0, if_neg c1, if_neg c2]), eB⟩

set_option maxRecDepth 100000 in
theorem toP_ok (vX : Value) (X : Cp) (h : Heap) (rX : RP h vX X) (hMX : HMP X) : CallA Try.prog 39 #[vX] h fun v' h' => ∃ wi0 wj0 wk0 fi0 fj0 fk0, v' = .agg #[.int .i64 (X).p, .int .i64 (X).d, .int .i64 (X).e, wi0, wj0, wk0] ∧ O2 h' wi0 (X).i fi0 ∧ O2 h' wj0 (X).j fj0 ∧ O2 h' wk0 (X).k fk0 ∧ Fresh h.size (fi0 ++ (fj0 ++ fk0)) ∧ Ext h h' := by
 obtain ⟨viX, vjX, vkX, rfl, hiX, hjX, hkX⟩ := rX
 have hleiX := RdS.le hiX
 have hlejX := RdS.le hjX
 have hlekX := RdS.le hkX
 refine callA_intro TTok (args := [_]) Try.func39 (by kernel_rfl) rfl 26 rfl (by simp) [.cell 2 53] rfl ?_
 simp only [idxs, Nat.reduceAdd]
 refine den_seq ?_
 refine den_region TTok ?_
 intro K hK
 simp -implicitDefEqProofs (disch := first | decide | assumption | omega) only [go_sem, wrap_id]
 refine op_box (cs := #[.int .i64 (X.p), .int .i64 (X.d), .int .i64 (X.e), viX, vjX, vkX]) rfl ?_
 intro h0_0 e0_0 hb0_0 z0_0
 have := Ext.size e0_0
 have eB := e0_0
 have hfhb0_0 : Fresh h.size [h.size] := Fresh.one _
 have hlhb0_0 := one_lt (show h.size < h0_0.size by omega)
 try simp -implicitDefEqProofs (disch := first | decide | assumption | omega) only [go_sem, wrap_id]
 refine op_alloc (cs := #[.int .i64 0, .int .i64 0, .int .i64 0, .slice none 0 0, .slice none 0 0, .slice none 0 0]) (by kernel_rfl) ?_
 intro h0_1 e0_1 hb0_1 z0_1
 replace hb0_0 := BoxAt.ext hb0_0 e0_1
 have := Ext.size e0_1
 replace eB := Ext.trans eB e0_1
 have hfhb0_1 : Fresh h0_0.size [h0_0.size] := Fresh.one _
 have hlhb0_1 := one_lt (show h0_0.size < h0_1.size by omega)
 try simp -implicitDefEqProofs (disch := first | decide | assumption | omega) only [go_sem, BoxAt.cell hb0_1, wrap_id]
 refine hK _ _ ?_
 clear hK K
 refine den_seq ?_
 refine den_region TTok ?_
 intro K hK
 simp -implicitDefEqProofs (disch := first | decide | assumption | omega) only [go_sem, BoxAt.cell hb0_1, wrap_id]
 refine op_alloc (cs := #[.int .i64 0, .int .i64 0, .int .i64 0, .slice none 0 0, .slice none 0 0, .slice none 0 0]) (by kernel_rfl) ?_
 intro h1_0 e1_0 hb1_0 z1_0
 replace hb0_0 := BoxAt.ext hb0_0 e1_0
 replace hb0_1 := BoxAt.ext hb0_1 e1_0
 have := Ext.size e1_0
 replace eB := Ext.trans eB e1_0
 have hfhb1_0 : Fresh h0_1.size [h0_1.size] := Fresh.one _
 have hlhb1_0 := one_lt (show h0_1.size < h1_0.size by omega)
 try simp -implicitDefEqProofs (disch := first | decide | assumption | omega) only [go_sem, BoxAt.cell hb0_1, wrap_id]
 refine hK _ _ ?_
 clear hK K
 refine den_seq ?_
 refine den_region TTok ?_
 intro K hK
 simp -implicitDefEqProofs (disch := first | decide | assumption | omega) only [go_sem, fa53_0, fa51_0, ld2, RdS.len hiX sl26, RdS.idx hiX sl26, RdS.cellB hiX (Ext.pres eB), RdS.cells hiX, RdS.len hjX sl26, RdS.idx hjX sl26, RdS.cellB hjX (Ext.pres eB), RdS.cells hjX, RdS.len hkX sl26, RdS.idx hkX sl26, RdS.cellB hkX (Ext.pres eB), RdS.cells hkX, BoxAt.cell hb0_0, BoxAt.cell hb1_0, wrap_id]
 refine op_storeB (cs' := #[.int .i64 (X.p), .int .i64 0, .int .i64 0, .slice none 0 0, .slice none 0 0, .slice none 0 0]) st2 hb1_0 rfl rfl rfl (by simp) (allOne_mem (l := [.int .i64 (X.p)]) ⟨rfl, trivial⟩) rfl ?_
 intro h2_3 hb1_0 c2_3
 replace hb0_0 := BoxAt.chgA hb0_0 c2_3 (apart_lt hlhb0_0 hfhb1_0 (by omega))
 replace hb0_1 := BoxAt.chgA hb0_1 c2_3 (apart_lt hlhb0_1 hfhb1_0 (by omega))
 have := c2_3.size
 replace eB := Ext.then eB c2_3 (ge_of hfhb1_0 (by omega))
 try simp -implicitDefEqProofs (disch := first | decide | assumption | omega) only [go_sem, BoxAt.cell hb0_1, wrap_id]
 refine hK _ _ ?_
 clear hK K
 refine den_seq ?_
 refine den_region TTok ?_
 intro K hK
 simp -implicitDefEqProofs (disch := first | decide | assumption | omega) only [go_sem, fa53_1, fa51_1, ld2, RdS.len hiX sl26, RdS.idx hiX sl26, RdS.cellB hiX (Ext.pres eB), RdS.cells hiX, RdS.len hjX sl26, RdS.idx hjX sl26, RdS.cellB hjX (Ext.pres eB), RdS.cells hjX, RdS.len hkX sl26, RdS.idx hkX sl26, RdS.cellB hkX (Ext.pres eB), RdS.cells hkX, BoxAt.cell hb0_0, BoxAt.cell hb1_0, wrap_id]
 refine op_storeB (cs' := #[.int .i64 (X.p), .int .i64 (X.d), .int .i64 0, .slice none 0 0, .slice none 0 0, .slice none 0 0]) st2 hb1_0 rfl rfl rfl (by simp) (allOne_mem (l := [.int .i64 (X.d)]) ⟨rfl, trivial⟩) rfl ?_
 intro h3_3 hb1_0 c3_3
 replace hb0_0 := BoxAt.chgA hb0_0 c3_3 (apart_lt hlhb0_0 hfhb1_0 (by omega))
 replace hb0_1 := BoxAt.chgA hb0_1 c3_3 (apart_lt hlhb0_1 hfhb1_0 (by omega))
 have := c3_3.size
 replace eB := Ext.then eB c3_3 (ge_of hfhb1_0 (by omega))
 try simp -implicitDefEqProofs (disch := first | decide | assumption | omega) only [go_sem, BoxAt.cell hb0_1, wrap_id]
 refine hK _ _ ?_
 clear hK K
 refine den_seq ?_
 refine den_region TTok ?_
 intro K hK
 simp -implicitDefEqProofs (disch := first | decide | assumption | omega) only [go_sem, fa53_2, fa51_2, ld2, RdS.len hiX sl26, RdS.idx hiX sl26, RdS.cellB hiX (Ext.pres eB), RdS.cells hiX, RdS.len hjX sl26, RdS.idx hjX sl26, RdS.cellB hjX (Ext.pres eB), RdS.cells hjX, RdS.len hkX sl26, RdS.idx hkX sl26, RdS.cellB hkX (Ext.pres eB), RdS.cells hkX, BoxAt.cell hb0_0, BoxAt.cell hb1_0, wrap_id]
 refine op_storeB (cs' := #[.int .i64 (X.p), .int .i64 (X.d), .int .i64 (X.e), .slice none 0 0, .slice none 0 0, .slice none 0 0]) st2 hb1_0 rfl rfl rfl (by simp) (allOne_mem (l := [.int .i64 (X.e)]) ⟨rfl, trivial⟩) rfl ?_
 intro h4_3 hb1_0 c4_3
 replace hb0_0 := BoxAt.chgA hb0_0 c4_3 (apart_lt hlhb0_0 hfhb1_0 (by omega))
 replace hb0_1 := BoxAt.chgA hb0_1 c4_3 (apart_lt hlhb0_1 hfhb1_0 (by omega))
 have := c4_3.size
 replace eB := Ext.then eB c4_3 (ge_of hfhb1_0 (by omega))
 try simp -implicitDefEqProofs (disch := first | decide | assumption | omega) only [go_sem, BoxAt.cell hb0_1, wrap_id]
 refine hK _ _ ?_
 clear hK K
 refine den_seq ?_
 refine den_region TTok ?_
 intro K hK
 simp -implicitDefEqProofs (disch := first | decide | assumption | omega) only [go_sem, fa51_3, ld26, RdS.len hiX sl26, RdS.idx hiX sl26, RdS.cellB hiX (Ext.pres eB), RdS.cells hiX, RdS.len hjX sl26, RdS.idx hjX sl26, RdS.cellB hjX (Ext.pres eB), RdS.cells hjX, RdS.len hkX sl26, RdS.idx hkX sl26, RdS.cellB hkX (Ext.pres eB), RdS.cells hkX, BoxAt.cell hb0_0, wrap_id]
 try simp -implicitDefEqProofs (disch := first | decide | assumption | omega) only [go_sem, BoxAt.cell hb0_1, wrap_id]
 refine CallA.mono (toSS_ok _ X.i _ (RdS.pres hiX (Ext.pres eB)) hMX.i) ?_
 intro v5_2 h5_2
 rintro ⟨f5_2, ho5_2, hf5_2, e5_2⟩
 replace hb0_0 := BoxAt.ext hb0_0 e5_2
 replace hb0_1 := BoxAt.ext hb0_1 e5_2
 replace hb1_0 := BoxAt.ext hb1_0 e5_2
 have := Ext.size e5_2
 replace eB := Ext.trans eB e5_2
 have hlho5_2 := OS.lt ho5_2
 try simp -implicitDefEqProofs (disch := first | decide | assumption | omega) only [go_sem, fa53_3, BoxAt.cell hb1_0, wrap_id]
 refine op_storeB (cs' := #[.int .i64 (X.p), .int .i64 (X.d), .int .i64 (X.e), v5_2, .slice none 0 0, .slice none 0 0]) st26 hb1_0 rfl (OS.one ho5_2).2 rfl (by simp) (allOne_mem (l := [v5_2]) ⟨(OS.one ho5_2).1, trivial⟩) rfl ?_
 intro h5_4 hb1_0 c5_4
 replace ho5_2 := OS.chg ho5_2 c5_4 (apart_gt hf5_2 hlhb1_0 (by omega))
 replace hb0_0 := BoxAt.chgA hb0_0 c5_4 (apart_lt hlhb0_0 hfhb1_0 (by omega))
 replace hb0_1 := BoxAt.chgA hb0_1 c5_4 (apart_lt hlhb0_1 hfhb1_0 (by omega))
 have := c5_4.size
 replace eB := Ext.then eB c5_4 (ge_of hfhb1_0 (by omega))
 try simp -implicitDefEqProofs (disch := first | decide | assumption | omega) only [go_sem, BoxAt.cell hb0_1, wrap_id]
 refine hK _ _ ?_
 clear hK K
 refine den_seq ?_
 refine den_region TTok ?_
 intro K hK
 simp -implicitDefEqProofs (disch := first | decide | assumption | omega) only [go_sem, fa51_4, ld26, RdS.len hiX sl26, RdS.idx hiX sl26, RdS.cellB hiX (Ext.pres eB), RdS.cells hiX, RdS.len hjX sl26, RdS.idx hjX sl26, RdS.cellB hjX (Ext.pres eB), RdS.cells hjX, RdS.len hkX sl26, RdS.idx hkX sl26, RdS.cellB hkX (Ext.pres eB), RdS.cells hkX, BoxAt.cell hb0_0, wrap_id]
 try simp -implicitDefEqProofs (disch := first | decide | assumption | omega) only [go_sem, BoxAt.cell hb0_1, wrap_id]
 refine CallA.mono (toSS_ok _ X.j _ (RdS.pres hjX (Ext.pres eB)) hMX.j) ?_
 intro v6_2 h6_2
 rintro ⟨f6_2, ho6_2, hf6_2, e6_2⟩
 replace ho5_2 := OS.ext ho5_2 e6_2
 replace hb0_0 := BoxAt.ext hb0_0 e6_2
 replace hb0_1 := BoxAt.ext hb0_1 e6_2
 replace hb1_0 := BoxAt.ext hb1_0 e6_2
 have := Ext.size e6_2
 replace eB := Ext.trans eB e6_2
 have hlho6_2 := OS.lt ho6_2
 try simp -implicitDefEqProofs (disch := first | decide | assumption | omega) only [go_sem, fa53_4, RdS.len (OS.rd ho5_2) sl26, RdS.idx (OS.rd ho5_2) sl26, RdS.cellN (OS.rd ho5_2), RdS.cells (OS.rd ho5_2), BoxAt.cell hb1_0, wrap_id]
 refine op_storeB (cs' := #[.int .i64 (X.p), .int .i64 (X.d), .int .i64 (X.e), v5_2, v6_2, .slice none 0 0]) st26 hb1_0 rfl (OS.one ho6_2).2 rfl (by simp) (allOne_mem (l := [v6_2]) ⟨(OS.one ho6_2).1, trivial⟩) rfl ?_
 intro h6_4 hb1_0 c6_4
 replace ho5_2 := OS.chg ho5_2 c6_4 (apart_gt hf5_2 hlhb1_0 (by omega))
 replace ho6_2 := OS.chg ho6_2 c6_4 (apart_gt hf6_2 hlhb1_0 (by omega))
 replace hb0_0 := BoxAt.chgA hb0_0 c6_4 (apart_lt hlhb0_0 hfhb1_0 (by omega))
 replace hb0_1 := BoxAt.chgA hb0_1 c6_4 (apart_lt hlhb0_1 hfhb1_0 (by omega))
 have := c6_4.size
 replace eB := Ext.then eB c6_4 (ge_of hfhb1_0 (by omega))
 try simp -implicitDefEqProofs (disch := first | decide | assumption | omega) only [go_sem, BoxAt.cell hb0_1, wrap_id]
 refine hK _ _ ?_
 clear hK K
 refine den_seq ?_
 refine den_region TTok ?_
 intro K hK
 simp -implicitDefEqProofs (disch := first | decide | assumption | omega) only [go_sem, fa51_5, ld26, RdS.len hiX sl26, RdS.idx hiX sl26, RdS.cellB hiX (Ext.pres eB), RdS.cells hiX, RdS.len hjX sl26, RdS.idx hjX sl26, RdS.cellB hjX (Ext.pres eB), RdS.cells hjX, RdS.len hkX sl26, RdS.idx hkX sl26, RdS.cellB hkX (Ext.pres eB), RdS.cells hkX, BoxAt.cell hb0_0, wrap_id]
 try simp -implicitDefEqProofs (disch := first | decide | assumption | omega) only [go_sem, BoxAt.cell hb0_1, wrap_id]
 refine CallA.mono (toSS_ok _ X.k _ (RdS.pres hkX (Ext.pres eB)) hMX.k) ?_
 intro v7_2 h7_2
 rintro ⟨f7_2, ho7_2, hf7_2, e7_2⟩
 replace ho5_2 := OS.ext ho5_2 e7_2
 replace ho6_2 := OS.ext ho6_2 e7_2
 replace hb0_0 := BoxAt.ext hb0_0 e7_2
 replace hb0_1 := BoxAt.ext hb0_1 e7_2
 replace hb1_0 := BoxAt.ext hb1_0 e7_2
 have := Ext.size e7_2
 replace eB := Ext.trans eB e7_2
 have hlho7_2 := OS.lt ho7_2
 try simp -implicitDefEqProofs (disch := first | decide | assumption | omega) only [go_sem, fa53_5, RdS.len (OS.rd ho5_2) sl26, RdS.idx (OS.rd ho5_2) sl26, RdS.cellN (OS.rd ho5_2), RdS.cells (OS.rd ho5_2), RdS.len (OS.rd ho6_2) sl26, RdS.idx (OS.rd ho6_2) sl26, RdS.cellN (OS.rd ho6_2), RdS.cells (OS.rd ho6_2), BoxAt.cell hb1_0, wrap_id]
 refine op_storeB (cs' := #[.int .i64 (X.p), .int .i64 (X.d), .int .i64 (X.e), v5_2, v6_2, v7_2]) st26 hb1_0 rfl (OS.one ho7_2).2 rfl (by simp) (allOne_mem (l := [v7_2]) ⟨(OS.one ho7_2).1, trivial⟩) rfl ?_
 intro h7_4 hb1_0 c7_4
 replace ho5_2 := OS.chg ho5_2 c7_4 (apart_gt hf5_2 hlhb1_0 (by omega))
 replace ho6_2 := OS.chg ho6_2 c7_4 (apart_gt hf6_2 hlhb1_0 (by omega))
 replace ho7_2 := OS.chg ho7_2 c7_4 (apart_gt hf7_2 hlhb1_0 (by omega))
 replace hb0_0 := BoxAt.chgA hb0_0 c7_4 (apart_lt hlhb0_0 hfhb1_0 (by omega))
 replace hb0_1 := BoxAt.chgA hb0_1 c7_4 (apart_lt hlhb0_1 hfhb1_0 (by omega))
 have := c7_4.size
 replace eB := Ext.then eB c7_4 (ge_of hfhb1_0 (by omega))
 try simp -implicitDefEqProofs (disch := first | decide | assumption | omega) only [go_sem, BoxAt.cell hb0_1, wrap_id]
 refine hK _ _ ?_
 clear hK K
 refine den_seq ?_
 refine den_region TTok ?_
 intro K hK
 simp -implicitDefEqProofs (disch := first | decide | assumption | omega) only [go_sem, ld53, RdS.len (OS.rd ho5_2) sl26, RdS.idx (OS.rd ho5_2) sl26, RdS.cellN (OS.rd ho5_2), RdS.cells (OS.rd ho5_2), RdS.len (OS.rd ho6_2) sl26, RdS.idx (OS.rd ho6_2) sl26, RdS.cellN (OS.rd ho6_2), RdS.cells (OS.rd ho6_2), RdS.len (OS.rd ho7_2) sl26, RdS.idx (OS.rd ho7_2) sl26, RdS.cellN (OS.rd ho7_2), RdS.cells (OS.rd ho7_2), BoxAt.cell hb1_0, wrap_id]
 refine op_storeB (cs' := #[.int .i64 (X.p), .int .i64 (X.d), .int .i64 (X.e), v5_2, v6_2, v7_2]) st53 hb0_1 rfl rfl rfl (by simp) (allOne_mem (l := [.int .i64 (X.p), .int .i64 (X.d), .int .i64 (X.e), v5_2, v6_2, v7_2]) ⟨rfl, rfl, rfl, (OS.one ho5_2).1, (OS.one ho6_2).1, (OS.one ho7_2).1, trivial⟩) rfl ?_
 intro h8_1 hb0_1 c8_1
 replace ho5_2 := OS.chg ho5_2 c8_1 (apart_gt hf5_2 hlhb0_1 (by omega))
 replace ho6_2 := OS.chg ho6_2 c8_1 (apart_gt hf6_2 hlhb0_1 (by omega))
 replace ho7_2 := OS.chg ho7_2 c8_1 (apart_gt hf7_2 hlhb0_1 (by omega))
 replace hb1_0 := BoxAt.chgA hb1_0 c8_1 (apart_gt hfhb1_0 hlhb0_1 (by omega))
 have := c8_1.size
 replace eB := Ext.then eB c8_1 (ge_of hfhb0_1 (by omega))
 try simp -implicitDefEqProofs (disch := first | decide | assumption | omega) only [go_sem, RdS.len (OS.rd ho5_2) sl26, RdS.idx (OS.rd ho5_2) sl26, RdS.cellN (OS.rd ho5_2), RdS.cells (OS.rd ho5_2), RdS.len (OS.rd ho6_2) sl26, RdS.idx (OS.rd ho6_2) sl26, RdS.cellN (OS.rd ho6_2), RdS.cells (OS.rd ho6_2), RdS.len (OS.rd ho7_2) sl26, RdS.idx (OS.rd ho7_2) sl26, RdS.cellN (OS.rd ho7_2), RdS.cells (OS.rd ho7_2), BoxAt.cell hb0_1, wrap_id]
 refine hK _ _ ?_
 clear hK K
 refine den_ret ?_
 simp -implicitDefEqProofs (disch := first | decide | assumption | omega) only [go_sem, RdS.len (OS.rd ho5_2) sl26, RdS.idx (OS.rd ho5_2) sl26, RdS.cellN (OS.rd ho5_2), RdS.cells (OS.rd ho5_2), RdS.len (OS.rd ho6_2) sl26, RdS.idx (OS.rd ho6_2) sl26, RdS.cellN (OS.rd ho6_2), RdS.cells (OS.rd ho6_2), RdS.len (OS.rd ho7_2) sl26, RdS.idx (OS.rd ho7_2) sl26, RdS.cellN (OS.rd ho7_2), RdS.cells (OS.rd ho7_2), BoxAt.cell hb0_1, wrap_id, resP_c1, ld53]
 exact ⟨_, _, _, _, _, _, rfl, ho5_2, ho6_2, ho7_2, (Fresh.two (lo := h.size) hf5_2 (Fresh.two (lo := h.size) hf6_2 hf7_2 (apart_lt hlho6_2 hf7_2 (by omega)) (by omega) (by omega)) (Apart.app (apart_lt hlho5_2 hf6_2 (by omega)) (apart_lt hlho5_2 hf7_2 (by omega))) (by omega) (by omega)), eB⟩

set_option maxRecDepth 100000 in
theorem eqP_same (v w : Value) (X : Cp) (h : Heap) (rX : RP h v X) (rY : RP h w X) : CallA Try.prog 41 #[v, w] h fun u h' => u = .bool true ∧ Ext h h' := by
 obtain ⟨viX, vjX, vkX, rfl, hiX, hjX, hkX⟩ := rX
 obtain ⟨viY, vjY, vkY, rfl, hiY, hjY, hkY⟩ := rY
 refine callA_intro TTok (args := [_, _]) Try.func41 (by kernel_rfl) rfl 38 rfl (by simp) [.tmp 4] rfl ?_
 simp only [idxs, Nat.reduceAdd]
 refine den_seq ?_
 refine den_region TTok ?_
 intro K hK
 simp -implicitDefEqProofs (disch := first | decide | assumption | omega) only [go_sem, wrap_id]
 refine op_box (cs := #[.int .i64 (X.p), .int .i64 (X.d), .int .i64 (X.e), viX, vjX, vkX]) rfl ?_
 intro h0_0 e0_0 hb0_0 z0_0
 have := Ext.size e0_0
 have eB := e0_0
 have hfhb0_0 : Fresh h.size [h.size] := Fresh.one _
 have hlhb0_0 := one_lt (show h.size < h0_0.size by omega)
 try simp -implicitDefEqProofs (disch := first | decide | assumption | omega) only [go_sem, wrap_id]
 refine op_box (cs := #[.int .i64 (X.p), .int .i64 (X.d), .int .i64 (X.e), viY, vjY, vkY]) rfl ?_
 intro h0_1 e0_1 hb0_1 z0_1
 replace hb0_0 := BoxAt.ext hb0_0 e0_1
 have := Ext.size e0_1
 replace eB := Ext.trans eB e0_1
 have hfhb0_1 : Fresh h0_0.size [h0_0.size] := Fresh.one _
 have hlhb0_1 := one_lt (show h0_0.size < h0_1.size by omega)
 try simp -implicitDefEqProofs (disch := first | decide | assumption | omega) only [go_sem, wrap_id]
 refine hK _ _ ?_
 clear hK K
 refine den_seq ?_
 refine den_seq ?_
 refine den_region TTok ?_
 intro K hK
 simp -implicitDefEqProofs (disch := first | decide | assumption | omega) only [go_sem, fa53_0, ld2, RdS.len hiX sl26, RdS.idx hiX sl26, RdS.cellB hiX (Ext.pres eB), RdS.cells hiX, RdS.len hjX sl26, RdS.idx hjX sl26, RdS.cellB hjX (Ext.pres eB), RdS.cells hjX, RdS.len hkX sl26, RdS.idx hkX sl26, RdS.cellB hkX (Ext.pres eB), RdS.cells hkX, RdS.len hiY sl26, RdS.idx hiY sl26, RdS.cellB hiY (Ext.pres eB), RdS.cells hiY, RdS.len hjY sl26, RdS.idx hjY sl26, RdS.cellB hjY (Ext.pres eB), RdS.cells hjY, RdS.len hkY sl26, RdS.idx hkY sl26, RdS.cellB hkY (Ext.pres eB), RdS.cells hkY, BoxAt.cell hb0_0, BoxAt.cell hb0_1, wrap_id]
 refine hK _ _ ?_
 clear hK K
 refine den_cond rfl (fun c0 => ?_) (fun c0 => ?_)
 ·try simp only [decide_eq_true_eq, decide_eq_false_iff_not, beq_iff_eq, beq_eq_false_iff_ne, bne_iff_ne, ne_eq, Bool.not_eq_true', Bool.not_eq_false', Bool.and_eq_true, Bool.or_eq_true, bne_eq_false_iff_eq] at c0
  refine den_seq ?_
  refine den_region TTok ?_
  intro K hK
  simp -implicitDefEqProofs (disch := first | decide | assumption | omega) only [go_sem, wrap_id]
  refine hK _ _ ?_
  clear hK K
  refine den_ret ?_
  simp (disch := decide) only [resP_1, puts_same, puts_ne]
  exact absurd c0 (by simp)
 ·try simp only [decide_eq_true_eq, decide_eq_false_iff_not, beq_iff_eq, beq_eq_false_iff_ne, bne_iff_ne, ne_eq, Bool.not_eq_true', Bool.not_eq_false', Bool.and_eq_true, Bool.or_eq_true, bne_eq_false_iff_eq] at c0
  refine den_skip ?_
  refine den_seq ?_
  refine den_seq ?_
  refine den_region TTok ?_
  intro K hK
  simp -implicitDefEqProofs (disch := first | decide | assumption | omega) only [go_sem, fa53_1, ld2, RdS.len hiX sl26, RdS.idx hiX sl26, RdS.cellB hiX (Ext.pres eB), RdS.cells hiX, RdS.len hjX sl26, RdS.idx hjX sl26, RdS.cellB hjX (Ext.pres eB), RdS.cells hjX, RdS.len hkX sl26, RdS.idx hkX sl26, RdS.cellB hkX (Ext.pres eB), RdS.cells hkX, RdS.len hiY sl26, RdS.idx hiY sl26, RdS.cellB hiY (Ext.pres eB), RdS.cells hiY, RdS.len hjY sl26, RdS.idx hjY sl26, RdS.cellB hjY (Ext.pres eB), RdS.cells hjY, RdS.len hkY sl26, RdS.idx hkY sl26, RdS.cellB hkY (Ext.pres eB), RdS.cells hkY, BoxAt.cell hb0_0, BoxAt.cell hb0_1, wrap_id]
  refine hK _ _ ?_
  clear hK K
  refine den_cond rfl (fun c1 => ?_) (fun c1 => ?_)
  ·try simp only [decide_eq_true_eq, decide_eq_false_iff_not, beq_iff_eq, beq_eq_false_iff_ne, bne_iff_ne, ne_eq, Bool.not_eq_true', Bool.not_eq_false', Bool.and_eq_true, Bool.or_eq_true, bne_eq_false_iff_eq] at c1
   refine den_seq ?_
   refine den_region TTok ?_
   intro K hK
   simp -implicitDefEqProofs (disch := first | decide | assumption | omega) only [go_sem, wrap_id]
   refine hK _ _ ?_
   clear hK K
   refine den_ret ?_
   simp (disch := decide) only [resP_1, puts_same, puts_ne]
   exact absurd c1 (by simp)
  ·try simp only [decide_eq_true_eq, decide_eq_false_iff_not, beq_iff_eq, beq_eq_false_iff_ne, bne_iff_ne, ne_eq, Bool.not_eq_true', Bool.not_eq_false', Bool.and_eq_true, Bool.or_eq_true, bne_eq_false_iff_eq] at c1
   refine den_skip ?_
   refine den_seq ?_
   refine den_seq ?_
   refine den_region TTok ?_
   intro K hK
   simp -implicitDefEqProofs (disch := first | decide | assumption | omega) only [go_sem, fa53_2, ld2, RdS.len hiX sl26, RdS.idx hiX sl26, RdS.cellB hiX (Ext.pres eB), RdS.cells hiX, RdS.len hjX sl26, RdS.idx hjX sl26, RdS.cellB hjX (Ext.pres eB), RdS.cells hjX, RdS.len hkX sl26, RdS.idx hkX sl26, RdS.cellB hkX (Ext.pres eB), RdS.cells hkX, RdS.len hiY sl26, RdS.idx hiY sl26, RdS.cellB hiY (Ext.pres eB), RdS.cells hiY, RdS.len hjY sl26, RdS.idx hjY sl26, RdS.cellB hjY (Ext.pres eB), RdS.cells hjY, RdS.len hkY sl26, RdS.idx hkY sl26, RdS.cellB hkY (Ext.pres eB), RdS.cells hkY, BoxAt.cell hb0_0, BoxAt.cell hb0_1, wrap_id]
   refine hK _ _ ?_
   clear hK K
   refine den_cond rfl (fun c2 => ?_) (fun c2 => ?_)
   ·try simp only [decide_eq_true_eq, decide_eq_false_iff_not, beq_iff_eq, beq_eq_false_iff_ne, bne_iff_ne, ne_eq, Bool.not_eq_true', Bool.not_eq_false', Bool.and_eq_true, Bool.or_eq_true, bne_eq_false_iff_eq] at c2
    refine den_seq ?_
    refine den_region TTok ?_
    intro K hK
    simp -implicitDefEqProofs (disch := first | decide | assumption | omega) only [go_sem, wrap_id]
    refine hK _ _ ?_
    clear hK K
    refine den_ret ?_
    simp (disch := decide) only [resP_1, puts_same, puts_ne]
    exact absurd c2 (by simp)
   ·try simp only [decide_eq_true_eq, decide_eq_false_iff_not, beq_iff_eq, beq_eq_false_iff_ne, bne_iff_ne, ne_eq, Bool.not_eq_true', Bool.not_eq_false', Bool.and_eq_true, Bool.or_eq_true, bne_eq_false_iff_eq] at c2
    refine den_skip ?_
    refine den_seq ?_
    refine den_seq ?_
    refine den_region TTok ?_
    intro K hK
    simp -implicitDefEqProofs (disch := first | decide | assumption | omega) only [go_sem, fa53_3, ld26, RdS.len hiX sl26, RdS.idx hiX sl26, RdS.cellB hiX (Ext.pres eB), RdS.cells hiX, RdS.len hjX sl26, RdS.idx hjX sl26, RdS.cellB hjX (Ext.pres eB), RdS.cells hjX, RdS.len hkX sl26, RdS.idx hkX sl26, RdS.cellB hkX (Ext.pres eB), RdS.cells hkX, RdS.len hiY sl26, RdS.idx hiY sl26, RdS.cellB hiY (Ext.pres eB), RdS.cells hiY, RdS.len hjY sl26, RdS.idx hjY sl26, RdS.cellB hjY (Ext.pres eB), RdS.cells hjY, RdS.len hkY sl26, RdS.idx hkY sl26, RdS.cellB hkY (Ext.pres eB), RdS.cells hkY, BoxAt.cell hb0_0, BoxAt.cell hb0_1, wrap_id]
    try simp -implicitDefEqProofs (disch := first | decide | assumption | omega) only [go_sem, wrap_id]
    refine CallA.pure (eqSS_same _ _ _ _ (RdS.pres hiX (Ext.pres eB)) (RdS.pres hiY (Ext.pres eB))) ?_
    try simp -implicitDefEqProofs (disch := first | decide | assumption | omega) only [go_sem, wrap_id]
    refine hK _ _ ?_
    clear hK K
    refine den_cond rfl (fun c3 => ?_) (fun c3 => ?_)
    ·try simp only [decide_eq_true_eq, decide_eq_false_iff_not, beq_iff_eq, beq_eq_false_iff_ne, bne_iff_ne, ne_eq, Bool.not_eq_true', Bool.not_eq_false', Bool.and_eq_true, Bool.or_eq_true, bne_eq_false_iff_eq] at c3
     refine den_seq ?_
     refine den_region TTok ?_
     intro K hK
     simp -implicitDefEqProofs (disch := first | decide | assumption | omega) only [go_sem, wrap_id]
     refine hK _ _ ?_
     clear hK K
     refine den_ret ?_
     simp (disch := decide) only [resP_1, puts_same, puts_ne]
     exact absurd c3 (by simp)
    ·try simp only [decide_eq_true_eq, decide_eq_false_iff_not, beq_iff_eq, beq_eq_false_iff_ne, bne_iff_ne, ne_eq, Bool.not_eq_true', Bool.not_eq_false', Bool.and_eq_true, Bool.or_eq_true, bne_eq_false_iff_eq] at c3
     refine den_skip ?_
     refine den_seq ?_
     refine den_seq ?_
     refine den_region TTok ?_
     intro K hK
     simp -implicitDefEqProofs (disch := first | decide | assumption | omega) only [go_sem, fa53_4, ld26, RdS.len hiX sl26, RdS.idx hiX sl26, RdS.cellB hiX (Ext.pres eB), RdS.cells hiX, RdS.len hjX sl26, RdS.idx hjX sl26, RdS.cellB hjX (Ext.pres eB), RdS.cells hjX, RdS.len hkX sl26, RdS.idx hkX sl26, RdS.cellB hkX (Ext.pres eB), RdS.cells hkX, RdS.len hiY sl26, RdS.idx hiY sl26, RdS.cellB hiY (Ext.pres eB), RdS.cells hiY, RdS.len hjY sl26, RdS.idx hjY sl26, RdS.cellB hjY (Ext.pres eB), RdS.cells hjY, RdS.len hkY sl26, RdS.idx hkY sl26, RdS.cellB hkY (Ext.pres eB), RdS.cells hkY, BoxAt.cell hb0_0, BoxAt.cell hb0_1, wrap_id]
     try simp -implicitDefEqProofs (disch := first | decide | assumption | omega) only [go_sem, wrap_id]
     refine CallA.pure (eqSS_same _ _ _ _ (RdS.pres hjX (Ext.pres eB)) (RdS.pres hjY (Ext.pres eB))) ?_
     try simp -implicitDefEqProofs (disch := first | decide | assumption | omega) only [go_sem, wrap_id]
     refine hK _ _ ?_
     clear hK K
     refine den_cond rfl (fun c4 => ?_) (fun c4 => ?_)
     ·try simp only [decide_eq_true_eq, decide_eq_false_iff_not, beq_iff_eq, beq_eq_false_iff_ne, bne_iff_ne, ne_eq, Bool.not_eq_true', Bool.not_eq_false', Bool.and_eq_true, Bool.or_eq_true, bne_eq_false_iff_eq] at c4
      refine den_seq ?_
      refine den_region TTok ?_
      intro K hK
      simp -implicitDefEqProofs (disch := first | decide | assumption | omega) only [go_sem, wrap_id]
      refine hK _ _ ?_
      clear hK K
      refine den_ret ?_
      simp (disch := decide) only [resP_1, puts_same, puts_ne]
      exact absurd c4 (by simp)
     ·try simp only [decide_eq_true_eq, decide_eq_false_iff_not, beq_iff_eq, beq_eq_false_iff_ne, bne_iff_ne, ne_eq, Bool.not_eq_true', Bool.not_eq_false', Bool.and_eq_true, Bool.or_eq_true, bne_eq_false_iff_eq] at c4
      refine den_skip ?_
      refine den_seq ?_
      refine den_seq ?_
      refine den_region TTok ?_
      intro K hK
      simp -implicitDefEqProofs (disch := first | decide | assumption | omega) only [go_sem, fa53_5, ld26, RdS.len hiX sl26, RdS.idx hiX sl26, RdS.cellB hiX (Ext.pres eB), RdS.cells hiX, RdS.len hjX sl26, RdS.idx hjX sl26, RdS.cellB hjX (Ext.pres eB), RdS.cells hjX, RdS.len hkX sl26, RdS.idx hkX sl26, RdS.cellB hkX (Ext.pres eB), RdS.cells hkX, RdS.len hiY sl26, RdS.idx hiY sl26, RdS.cellB hiY (Ext.pres eB), RdS.cells hiY, RdS.len hjY sl26, RdS.idx hjY sl26, RdS.cellB hjY (Ext.pres eB), RdS.cells hjY, RdS.len hkY sl26, RdS.idx hkY sl26, RdS.cellB hkY (Ext.pres eB), RdS.cells hkY, BoxAt.cell hb0_0, BoxAt.cell hb0_1, wrap_id]
      try simp -implicitDefEqProofs (disch := first | decide | assumption | omega) only [go_sem, wrap_id]
      refine CallA.pure (eqSS_same _ _ _ _ (RdS.pres hkX (Ext.pres eB)) (RdS.pres hkY (Ext.pres eB))) ?_
      try simp -implicitDefEqProofs (disch := first | decide | assumption | omega) only [go_sem, wrap_id]
      refine hK _ _ ?_
      clear hK K
      refine den_cond rfl (fun c5 => ?_) (fun c5 => ?_)
      ·try simp only [decide_eq_true_eq, decide_eq_false_iff_not, beq_iff_eq, beq_eq_false_iff_ne, bne_iff_ne, ne_eq, Bool.not_eq_true', Bool.not_eq_false', Bool.and_eq_true, Bool.or_eq_true, bne_eq_false_iff_eq] at c5
       refine den_seq ?_
       refine den_region TTok ?_
       intro K hK
       simp -implicitDefEqProofs (disch := first | decide | assumption | omega) only [go_sem, wrap_id]
       refine hK _ _ ?_
       clear hK K
       refine den_ret ?_
       simp (disch := decide) only [resP_1, puts_same, puts_ne]
       exact absurd c5 (by simp)
      ·try simp only [decide_eq_true_eq, decide_eq_false_iff_not, beq_iff_eq, beq_eq_false_iff_ne, bne_iff_ne, ne_eq, Bool.not_eq_true', Bool.not_eq_false', Bool.and_eq_true, Bool.or_eq_true, bne_eq_false_iff_eq] at c5
       refine den_skip ?_
       refine den_seq ?_
       refine den_region TTok ?_
       intro K hK
       simp -implicitDefEqProofs (disch := first | decide | assumption | omega) only [go_sem, wrap_id]
       refine hK _ _ ?_
       clear hK K
       refine den_ret ?_
       simp (disch := decide) only [resP_1, puts_same, puts_ne]
       exact ⟨by first | rfl | trivial, eB⟩

open Go.ChangeShapes Go.WideShapes Go.ChangeAt Go.RowKit Go.Joins
theorem array6 {α : Type} {cs : Array α} (h : cs.size = 6) : ∃ a b c d e f, cs = #[a, b, c, d, e, f] := by
 obtain ⟨l⟩ := cs
 match l, h with
 | [a, b, c, d, e, f], _ => exact ⟨a, b, c, d, e, f, rfl⟩
set_option maxRecDepth 100000 in
theorem open_cp {H : Type} {enc : TypeId × Value → H} {w : World} {base : Nat} {spare : Nat → Bool} {held : Bool} {r : Reach} {b0 : Nat} {v : Value} {d : DataW H} {p : List MemPlace}
  (hv : Value.okWide Try.prog w r b0 51 v) (h : DataW.Trod enc Try.prog w base spare held 51 v d p) : ∃ X, RP w.heap v X := by
 obtain ⟨cs, rfl, hsz⟩ := okWide_struct Try.underlying51 hv
 have hc : Try.prog.cellsOf 51 = 6 := by kernel_rfl
 obtain ⟨c0, c1, c2, c3, c4, c5, rfl⟩ := array6 (hsz.trans hc)
 obtain ⟨fuel, hf⟩ := h
 obtain ⟨xs, n, _, _, _, hl, hg⟩ := DataW.trod_struct Try.underlying51 hf
 have ki : Try.prog.cellsOf 2 = 1 := by kernel_rfl
 have k2 : Try.prog.cellsOf 26 = 1 := by kernel_rfl
 have hn : ∀ q, q < 6 → ∃ y, xs[q]? = some y := fun q hq => ⟨_, List.getElem?_eq_getElem (by rw [hl]; exact hq)⟩
 obtain ⟨y0, e0⟩ := hn 0 (by decide)
 obtain ⟨y1, e1⟩ := hn 1 (by decide)
 obtain ⟨y2, e2⟩ := hn 2 (by decide)
 obtain ⟨y3, e3⟩ := hn 3 (by decide)
 obtain ⟨y4, e4⟩ := hn 4 (by decide)
 obtain ⟨y5, e5⟩ := hn 5 (by decide)
 have g0 := hg 0 _ rfl
 have g1 := hg 1 _ rfl
 have g2_ := hg 2 _ rfl
 have g3 := hg 3 _ rfl
 have g4 := hg 4 _ rfl
 have g5 := hg 5 _ rfl
 simp only [ki, k2, Value.cells, List.drop_zero, List.drop_succ_cons, List.take_succ_cons, List.take_zero, e0, e1, e2, e3, e4, e5] at g0 g1 g2_ g3 g4 g5
 obtain ⟨u0, a0, f0, q0⟩ := opens_int Try.underlying2 _ _ _ _ _ _ _ _ _ g0
 obtain ⟨u1, a1, f1, q1⟩ := opens_int Try.underlying2 _ _ _ _ _ _ _ _ _ g1
 obtain ⟨u2, a2, f2, q2⟩ := opens_int Try.underlying2 _ _ _ _ _ _ _ _ _ g2_
 obtain ⟨u3, a3, f3, q3⟩ := opens2 _ _ _ _ _ _ _ _ _ g3
 obtain ⟨u4, a4, f4, q4⟩ := opens2 _ _ _ _ _ _ _ _ _ g4
 obtain ⟨u5, a5, f5, q5⟩ := opens2 _ _ _ _ _ _ _ _ _ g5
 injection f0 with f0
 injection f1 with f1
 injection f2 with f2
 injection f3 with f3
 injection f4 with f4
 injection f5 with f5
 subst f0; subst f1; subst f2; subst f3; subst f4; subst f5
 exact ⟨⟨a0, a1, a2, a3, a4, a5⟩, _, _, _, by rw [show c0 = .int .i64 a0 from q0, show c1 = .int .i64 a1 from q1, show c2 = .int .i64 a2 from q2], q3, q4, q5⟩
end Go.Proofs.Ytjjjgllbocgkbaa

namespace Go.Proofs.Ytjjjgllbocgkbaa
open Go
def unitP (n i : Nat) : List Int := (List.replicate n 0).set i 1
set_option maxRecDepth 100000 in
theorem iUnit_ok (n : Int) (i : Int) (h : Heap)  (hn : 0 ≤ i ∧ i < n ∧ n ≤ 1048576) : CallA Try.prog 210 #[.int .i64 n, .int .i64 i] h fun v' h' => ∃ w0 f0, v' = w0 ∧ O1 h' w0 (unitP n.toNat i.toNat) f0 ∧ Fresh h.size f0 ∧ Ext h h' := by
 refine callA_intro TTok (args := [_, _]) Try.func210 (by kernel_rfl) rfl 12 rfl (by simp) [.tmp 4] rfl ?_
 simp only [idxs, Nat.reduceAdd]
 refine den_seq ?_
 refine den_region TTok ?_
 intro K hK
 simp -implicitDefEqProofs (disch := first | decide | assumption | omega) only [go_sem, wrap_id]
 refine hK _ _ ?_
 clear hK K
 refine den_seq ?_
 refine den_region TTok ?_
 intro K hK
 simp -implicitDefEqProofs (disch := first | decide | assumption | omega) only [go_sem, wrap_id]
 refine op_make sz22 rfl rfl (by omega) (by omega) OI 0 (fun _ => ⟨rfl, rfl⟩) ?_
 intro v1_1 h1_1 ho1_1 e1_1
 have := Ext.size e1_1
 have eB := e1_1
 have hfho1_1 : Fresh h.size [h.size] := Fresh.one _
 have hlenho1_1 : (List.replicate (n).toNat (0 : Int)).length = (n).toNat := List.length_replicate
 have hlho1_1 := OS.lt ho1_1
 try simp -implicitDefEqProofs (disch := first | decide | assumption | omega) only [go_sem, RdS.len (OS.rd ho1_1) sl22, RdS.idx (OS.rd ho1_1) sl22, R1.intN (OS.rd ho1_1), RdS.cells (OS.rd ho1_1), wrap_id]
 refine hK _ _ ?_
 clear hK K
 refine den_seq ?_
 refine den_region TTok ?_
 intro K hK
 simp -implicitDefEqProofs (disch := first | decide | assumption | omega) only [go_sem, RdS.len (OS.rd ho1_1) sl22, RdS.idx (OS.rd ho1_1) sl22, R1.intN (OS.rd ho1_1), RdS.cells (OS.rd ho1_1), wrap_id]
 refine op_store1 (j := (i).toNat) st2 ho1_1 hfho1_1.nodup (by first | omega | (simp; omega)) rfl rfl ?_
 intro h2_3 ho2_3 c2_3
 have hsz2_3 := c2_3.size
 have := c2_3.size
 replace eB := Ext.then eB c2_3 (ge_of hfho1_1 (by omega))
 have hlho2_3 := OS.lt ho2_3
 have hlenho2_3 : ((List.replicate (n).toNat 0).set ((i).toNat) (1 : Int) : List Int).length = (List.replicate (n).toNat 0 : List Int).length := List.length_set
 try simp -implicitDefEqProofs (disch := first | decide | assumption | omega) only [go_sem, RdS.len (OS.rd ho2_3) sl22, RdS.idx (OS.rd ho2_3) sl22, R1.intN (OS.rd ho2_3), RdS.cells (OS.rd ho2_3), wrap_id]
 refine hK _ _ ?_
 clear hK K
 refine den_seq ?_
 refine den_region TTok ?_
 intro K hK
 simp -implicitDefEqProofs (disch := first | decide | assumption | omega) only [go_sem, RdS.len (OS.rd ho2_3) sl22, RdS.idx (OS.rd ho2_3) sl22, R1.intN (OS.rd ho2_3), RdS.cells (OS.rd ho2_3), wrap_id]
 refine hK _ _ ?_
 clear hK K
 refine den_ret ?_
 simp (disch := decide) only [resP_1, puts_same, puts_ne]
 exact ⟨_, _, rfl, ho2_3, hfho1_1.mono (by omega), eB⟩
end Go.Proofs.Ytjjjgllbocgkbaa

namespace Go.Proofs.Ytjjjgllbocgkbaa
open Go
abbrev M3 := List (List (List Int))
def get3 (M : M3) (k r c : Nat) : Int := ((M.getD k default).getD r default).getD c 0
/-- How long a table of tables is, row by row. -/
structure Sh (L : Nat) (A B : Nat → Nat) (M : M3) : Prop where
 len : M.length = L
 rows : ∀ k, k < L → (M.getD k default).length = A k
 cols : ∀ k r, k < L → r < A k → ((M.getD k default).getD r default).length = B k
theorem getD_set {α : Type} {xs : List α} {k j : Nat} {x d : α} (h : k < xs.length) : (xs.set k x).getD j d = if k = j then x else xs.getD j d := by
 simp only [List.getD_eq_getElem?_getD, List.getElem?_set]
 split
 ·rename_i e; subst e; first | rfl | (rw [if_pos h]; rfl)
 ·rfl
theorem Sh.ext {L : Nat} {A B : Nat → Nat} {M N : M3} (s : Sh L A B M) (t : Sh L A B N) (h : ∀ k r c, k < L → r < A k → c < B k → get3 M k r c = get3 N k r c) : M = N := by
 have g3 : ∀ {α : Type} [Inhabited α] {xs ys : List α}, xs.length = ys.length → (∀ i, i < xs.length → xs.getD i default = ys.getD i default) → xs = ys := by
  intro α _ xs ys hl hh
  apply List.ext_getElem hl
  intro i h1 h2
  have := hh i h1
  rwa [List.getD_eq_getElem?_getD, List.getD_eq_getElem?_getD, List.getElem?_eq_getElem h1, List.getElem?_eq_getElem h2] at this
 refine g3 (by rw [s.len, t.len]) (fun k hk => ?_)
 rw [s.len] at hk
 refine g3 (by rw [s.rows k hk, t.rows k hk]) (fun r hr => ?_)
 rw [s.rows k hk] at hr
 refine g3 (by rw [s.cols k r hk hr, t.cols k r hk hr]) (fun c hc => ?_)
 rw [s.cols k r hk hr] at hc
 exact h k r c hk hr hc
def In3 (p : Int) (L : Nat) (A B : Nat → Nat) (M : M3) : Prop := ∀ k r c, k < L → r < A k → c < B k → 0 ≤ get3 M k r c ∧ get3 M k r c < p
abbrev Upd := (Nat × Nat × Nat) × Int
-- the updates of all numbers of a complex's maps
abbrev UF := Nat → Nat → Nat → Int → List Upd
end Go.Proofs.Ytjjjgllbocgkbaa

namespace Go.Proofs.Ytjjjgllbocgkbaa
open Go
theorem OS.isSl {α : Type} {e : TypeId} {E : Heap → Value → α → List Nat → Prop} {h : Heap} {v : Value} {xs : List α} {fp : List Nat} (ho : OS e E h v xs fp) : ∃ A n c, v = .slice A n c := by
 rcases ho with ⟨rfl, _⟩ | ⟨b, c, cur, fps, rfl, r⟩
 ·exact ⟨_, _, _, rfl⟩
 ·exact ⟨_, _, _, r.val⟩
theorem getD_map_range {α : Type} [Inhabited α] (f : Nat → α) {n k : Nat} (h : k < n) : ((List.range n).map f).getD k default = f k := by
 rw [List.getD_eq_getElem?_getD, List.getElem?_eq_getElem (by simpa using h)]; simp
theorem getD_repl {α : Type} {x d : α} {n k : Nat} (h : k < n) : (List.replicate n x).getD k d = x := by
 rw [List.getD_eq_getElem?_getD, List.getElem?_eq_getElem (by simpa using h)]; simp
end Go.Proofs.Ytjjjgllbocgkbaa

namespace Go.Proofs.Ytjjjgllbocgkbaa
open Go
/-- A function that is called for each number updates a table of one's own. -/
structure ORel (p : Int) (h0 : Heap) (vw : Value) (fw : List Nat) (L : Nat) (A B : Nat → Nat) (Ot : Heap → Prop) (s : M3) (H : Heap) : Prop where
 o : O3 H vw s fw
 sh : Sh L A B s
 i3 : In3 p L A B s
 e : Ext h0 H
 ot : Ot H
section
variable {U : UF} {τ : Nat → Nat → Nat → Nat × Nat × Nat} {ω : Nat → Nat → Nat → Int → Int}
end
theorem IsC.lens {X : Cx} (hC : IsC X) {k : Nat} (hk : k < X.maps.length) : ((X.maps.getD k default).length : Int) = X.dims.getD (k + 1) 0 ∧ ∀ i, i < (X.maps.getD k default).length → (((X.maps.getD k default).getD i default).length : Int) = X.dims.getD k 0 := by
 have t := tableP_iff.1 (hC.tb k hk)
 rw [show ((k : Int) + 1).toNat = k + 1 by omega] at t
 exact ⟨t.1, fun i hi => (t.2.at hi).1⟩

set_option maxRecDepth 100000 in
theorem clone1_ok (vu : Value) (u : List Int) (h : Heap) (ru : R1 h vu u) (hl : (u.length : Int) ≤ 1048576) : CallA Try.prog 170 #[vu] h fun v' h' => ∃ w0 f0, v' = w0 ∧ O1 h' w0 (u) f0 ∧ Fresh h.size f0 ∧ Ext h h' := by
 have hleu := RdS.le ru
 have ru' := ru
 obtain ⟨A, cc, rfl, hA, _⟩ := ru'
 refine callA_intro TTok (args := [_]) Try.func170 (by kernel_rfl) rfl 8 rfl (by simp) [.tmp 2] rfl ?_
 simp only [idxs, Nat.reduceAdd]
 refine den_seq ?_
 refine den_region TTok ?_
 intro K hK
 simp -implicitDefEqProofs (disch := first | decide | assumption | omega) only [go_sem, RdS.len ru sl22, RdS.idx ru sl22, R1.intB ru (HPres.refl _), RdS.cells ru, wrap_id]
 refine hK _ _ ?_
 clear hK K
 refine den_seq ?_
 refine den_seq ?_
 refine den_region TTok ?_
 intro K hK
 simp -implicitDefEqProofs (disch := first | decide | assumption | omega) only [go_sem, RdS.len ru sl22, RdS.idx ru sl22, R1.intB ru (HPres.refl _), RdS.cells ru, wrap_id]
 refine hK _ _ ?_
 clear hK K
 refine den_cond rfl (fun c0 => ?_) (fun c0 => ?_)
 ·try simp only [decide_eq_true_eq, decide_eq_false_iff_not, beq_iff_eq, beq_eq_false_iff_ne, bne_iff_ne, ne_eq, Bool.not_eq_true', Bool.not_eq_false', Bool.and_eq_true, Bool.or_eq_true, bne_eq_false_iff_eq] at c0
  refine den_seq ?_
  refine den_region TTok ?_
  intro K hK
  simp -implicitDefEqProofs (disch := first | decide | assumption | omega) only [go_sem, RdS.len ru sl22, RdS.idx ru sl22, R1.intB ru (HPres.refl _), RdS.cells ru, wrap_id]
  refine hK _ _ ?_
  clear hK K
  refine den_ret ?_
  simp (disch := decide) only [resP_1, puts_same, puts_ne]
  have e : u = [] := List.length_eq_zero_iff.1 (hA.resolve_left (by rw [Option.isNone_iff_eq_none.1 c0]; decide))
  subst e
  exact ⟨_, [], rfl, OS.nil, Fresh.nil _, (Ext.refl _)⟩
 ·try simp only [decide_eq_true_eq, decide_eq_false_iff_not, beq_iff_eq, beq_eq_false_iff_ne, bne_iff_ne, ne_eq, Bool.not_eq_true', Bool.not_eq_false', Bool.and_eq_true, Bool.or_eq_true, bne_eq_false_iff_eq] at c0
  refine den_skip ?_
  refine den_seq ?_
  refine den_region TTok ?_
  intro K hK
  simp -implicitDefEqProofs (disch := first | decide | assumption | omega) only [go_sem, RdS.len ru sl22, RdS.idx ru sl22, R1.intB ru (HPres.refl _), RdS.cells ru, wrap_id]
  refine op_bs0 sz22 OI ?_
  intro v3_0 h3_0 ho3_0 e3_0
  have := Ext.size e3_0
  have eB := e3_0
  have hfho3_0 : Fresh h.size [h.size] := Fresh.one _
  have hlho3_0 := OS.lt ho3_0
  try simp -implicitDefEqProofs (disch := first | decide | assumption | omega) only [go_sem, RdS.len ru sl22, RdS.idx ru sl22, R1.intB ru (Ext.pres eB), RdS.cells ru, RdS.len (OS.rd ho3_0) sl22, RdS.idx (OS.rd ho3_0) sl22, R1.intN (OS.rd ho3_0), RdS.cells (OS.rd ho3_0), wrap_id]
  refine op_appendR ho3_0 (RdS.pres ru (Ext.pres eB)) (by first | omega | (simp; omega)) rfl ?_
  intro v3_2 h3_2 fp3_2 ho3_2 hn3_2 hs3_2 c3_2
  have hsz3_2 := c3_2.size
  have hfho3_2 : Fresh h.size fp3_2 := Fresh.appd hfho3_0 (Fresh.nil h3_0.size) (by omega) (by omega) hn3_2 hs3_2
  have := c3_2.size
  replace eB := Ext.then eB c3_2 (ge_of hfho3_0 (by omega))
  have hlho3_2 := OS.lt ho3_2
  try simp -implicitDefEqProofs (disch := first | decide | assumption | omega) only [go_sem, RdS.len ru sl22, RdS.idx ru sl22, R1.intB ru (Ext.pres eB), RdS.cells ru, RdS.len (OS.rd ho3_2) sl22, RdS.idx (OS.rd ho3_2) sl22, R1.intN (OS.rd ho3_2), RdS.cells (OS.rd ho3_2), wrap_id]
  refine hK _ _ ?_
  clear hK K
  refine den_ret ?_
  simp (disch := decide) only [resP_1, puts_same, puts_ne]
  exact ⟨_, _, rfl, ho3_2, hfho3_2.mono (by omega), eB⟩
end Go.Proofs.Ytjjjgllbocgkbaa

namespace Go.Proofs.Ytjjjgllbocgkbaa
open Go
/-- A row times k, modulo p. -/
def sclRow (p k : Int) (r : List Int) : List Int := (List.range r.length).map fun q : Nat => (k * r.getD q 0) % p
def lessRow (p k : Int) (a b : List Int) : List Int := (List.range a.length).map fun q : Nat => (a.getD q 0 - k * b.getD q 0) % p
theorem mul42A {k y p : Int} (hk : -6 ≤ k ∧ k ≤ 6) (hy : 0 ≤ y ∧ y < p) (hp : p ≤ 7) : -36 ≤ k * y ∧ k * y ≤ 36 := by
 have h1 : k * y ≤ 6 * y := Int.mul_le_mul_of_nonneg_right hk.2 hy.1
 have h2 : (-6) * y ≤ k * y := Int.mul_le_mul_of_nonneg_right hk.1 hy.1
 omega

set_option maxRecDepth 100000 in
theorem sMod_ok (p : Int) (x : Int) (h : Heap)  (hp : 0 < p ∧ p ≤ 7) (hx : -1000000 ≤ x ∧ x ≤ 1000000) : CallA Try.prog 209 #[.int .i64 p, .int .i64 x] h fun v' h' => v' = .int .i64 (x % p) ∧ Ext h h' := by
 have htm := tmod_in (x := x) hp.1
 refine callA_intro TTok (args := [_, _]) Try.func209 (by kernel_rfl) rfl 12 rfl (by simp) [.tmp 4] rfl ?_
 simp only [idxs, Nat.reduceAdd]
 refine den_seq ?_
 refine den_region TTok ?_
 intro K hK
 simp -implicitDefEqProofs (disch := first | decide | assumption | omega) only [go_sem, wrap_id]
 refine hK _ _ ?_
 clear hK K
 refine den_seq ?_
 refine den_region TTok ?_
 intro K hK
 simp -implicitDefEqProofs (disch := first | decide | assumption | omega) only [go_sem, wrap_id]
 refine hK _ _ ?_
 clear hK K
 refine den_ret ?_
 simp (disch := decide) only [resP_1, puts_same, puts_ne]
 exact ⟨vint (mod_twice hp.1), (Ext.refl _)⟩

set_option maxRecDepth 100000 in
theorem sOwn_ok (vu : Value) (u : List Int) (h : Heap) (ru : R1 h vu u) (hl : (u.length : Int) ≤ 1048576) : CallA Try.prog 207 #[vu] h fun v' h' => ∃ w0 f0, v' = w0 ∧ O1 h' w0 (u) f0 ∧ Fresh h.size f0 ∧ Ext h h' := by
 have hleu := RdS.le ru
 refine callA_intro TTok (args := [_]) Try.func207 (by kernel_rfl) rfl 6 rfl (by simp) [.tmp 2] rfl ?_
 simp only [idxs, Nat.reduceAdd]
 refine den_seq ?_
 refine den_region TTok ?_
 intro K hK
 simp -implicitDefEqProofs (disch := first | decide | assumption | omega) only [go_sem, RdS.len ru sl22, RdS.idx ru sl22, R1.intB ru (HPres.refl _), RdS.cells ru, wrap_id]
 refine hK _ _ ?_
 clear hK K
 refine den_seq ?_
 refine den_region TTok ?_
 intro K hK
 simp -implicitDefEqProofs (disch := first | decide | assumption | omega) only [go_sem, RdS.len ru sl22, RdS.idx ru sl22, R1.intB ru (HPres.refl _), RdS.cells ru, wrap_id]
 refine op_bs0 sz22 OI ?_
 intro v1_0 h1_0 ho1_0 e1_0
 have := Ext.size e1_0
 have eB := e1_0
 have hfho1_0 : Fresh h.size [h.size] := Fresh.one _
 have hlho1_0 := OS.lt ho1_0
 try simp -implicitDefEqProofs (disch := first | decide | assumption | omega) only [go_sem, RdS.len ru sl22, RdS.idx ru sl22, R1.intB ru (Ext.pres eB), RdS.cells ru, RdS.len (OS.rd ho1_0) sl22, RdS.idx (OS.rd ho1_0) sl22, R1.intN (OS.rd ho1_0), RdS.cells (OS.rd ho1_0), wrap_id]
 refine op_appendR ho1_0 (RdS.pres ru (Ext.pres eB)) (by first | omega | (simp; omega)) rfl ?_
 intro v1_2 h1_2 fp1_2 ho1_2 hn1_2 hs1_2 c1_2
 have hsz1_2 := c1_2.size
 have hfho1_2 : Fresh h.size fp1_2 := Fresh.appd hfho1_0 (Fresh.nil h1_0.size) (by omega) (by omega) hn1_2 hs1_2
 have := c1_2.size
 replace eB := Ext.then eB c1_2 (ge_of hfho1_0 (by omega))
 have hlho1_2 := OS.lt ho1_2
 try simp -implicitDefEqProofs (disch := first | decide | assumption | omega) only [go_sem, RdS.len ru sl22, RdS.idx ru sl22, R1.intB ru (Ext.pres eB), RdS.cells ru, RdS.len (OS.rd ho1_2) sl22, RdS.idx (OS.rd ho1_2) sl22, R1.intN (OS.rd ho1_2), RdS.cells (OS.rd ho1_2), wrap_id]
 refine hK _ _ ?_
 clear hK K
 refine den_ret ?_
 simp (disch := decide) only [resP_1, puts_same, puts_ne]
 exact ⟨_, _, rfl, ho1_2, hfho1_2.mono (by omega), eB⟩

set_option maxRecDepth 100000 in
theorem sLess_ok (va vb : Value) (p : Int) (a : List Int) (b : List Int) (k : Int) (h : Heap) (ra : R1 h va a) (rb : R1 h vb b) (hp : 0 < p ∧ p ≤ 7) (hl : a.length ≤ b.length ∧ a.length ≤ 1000) (ha : Bnd p a) (hb : Bnd p b) (hk : -6 ≤ k ∧ k ≤ 6) : CallA Try.prog 205 #[.int .i64 p, va, vb, .int .i64 k] h fun v' h' => ∃ w0 f0, v' = w0 ∧ O1 h' w0 (lessRow p k a b) f0 ∧ Fresh h.size f0 ∧ Ext h h' := by
 have hlea := RdS.le ra
 have hleb := RdS.le rb
 refine callA_intro TTok (args := [_, _, _, _]) Try.func205 (by kernel_rfl) rfl 35 rfl (by simp) [.tmp 8] rfl ?_
 simp only [idxs, Nat.reduceAdd]
 refine den_seq ?_
 refine den_region TTok ?_
 intro K hK
 simp -implicitDefEqProofs (disch := first | decide | assumption | omega) only [go_sem, RdS.len ra sl22, RdS.idx ra sl22, R1.intB ra (HPres.refl _), RdS.cells ra, RdS.len rb sl22, RdS.idx rb sl22, R1.intB rb (HPres.refl _), RdS.cells rb, wrap_id]
 refine hK _ _ ?_
 clear hK K
 refine den_seq ?_
 refine den_region TTok ?_
 intro K hK
 simp -implicitDefEqProofs (disch := first | decide | assumption | omega) only [go_sem, RdS.len ra sl22, RdS.idx ra sl22, R1.intB ra (HPres.refl _), RdS.cells ra, RdS.len rb sl22, RdS.idx rb sl22, R1.intB rb (HPres.refl _), RdS.cells rb, wrap_id]
 refine op_bs0 sz22 OI ?_
 intro v1_0 h1_0 ho1_0 e1_0
 have := Ext.size e1_0
 have eB := e1_0
 have hfho1_0 : Fresh h.size [h.size] := Fresh.one _
 have hlho1_0 := OS.lt ho1_0
 try simp -implicitDefEqProofs (disch := first | decide | assumption | omega) only [go_sem, RdS.len ra sl22, RdS.idx ra sl22, R1.intB ra (Ext.pres eB), RdS.cells ra, RdS.len rb sl22, RdS.idx rb sl22, R1.intB rb (Ext.pres eB), RdS.cells rb, RdS.len (OS.rd ho1_0) sl22, RdS.idx (OS.rd ho1_0) sl22, R1.intN (OS.rd ho1_0), RdS.cells (OS.rd ho1_0), wrap_id]
 refine hK _ _ ?_
 clear hK K
 refine den_seq ?_
 refine den_seq ?_
 refine den_region TTok ?_
 intro K hK
 simp -implicitDefEqProofs (disch := first | decide | assumption | omega) only [go_sem, RdS.len ra sl22, RdS.idx ra sl22, R1.intB ra (Ext.pres eB), RdS.cells ra, RdS.len rb sl22, RdS.idx rb sl22, R1.intB rb (Ext.pres eB), RdS.cells rb, RdS.len (OS.rd ho1_0) sl22, RdS.idx (OS.rd ho1_0) sl22, R1.intN (OS.rd ho1_0), RdS.cells (OS.rd ho1_0), wrap_id]
 refine hK _ _ ?_
 clear hK K
 refine den_block ?_
 refine den_sel [9, 10, 0, 1, 2, 3] ?_
 intro env_1
 simp only [go_sem]
 refine den_loopS (σ := Nat × Value × List Nat) (fun st_ => [(9, st_.2.1), (10, .int .i64 (st_.1 : Int))]) (fun st_ H => (st_.1 ≤ a.length) ∧ (O1 H st_.2.1 ((List.range st_.1).map fun q : Nat => (a.getD q 0 - k * b.getD q 0) % p) st_.2.2) ∧ (Fresh (h.size) st_.2.2) ∧ (Sub [h.size] h1_0.size st_.2.2) ∧ (Chg [h.size] h1_0 H)) (fun st_ => a.length - st_.1) (0, v1_0, [h.size]) ?_ ?_
 ·exact ⟨by first | (simp; done) | (dsimp only; omega) | (simp; omega), by simpa using ho1_0, hfho1_0, Sub.refl, Chg.refl _ _⟩
 ·rintro ⟨i, vhO, fphO⟩ h4 ee3 ⟨hi0, hO, hfhO, sbhO, cL2⟩
  dsimp only at hi0 hO hfhO sbhO cL2
  have := cL2.size
  replace eB := Ext.then eB cL2 (ge_of hfho1_0 (by omega))
  have hlhO := OS.lt hO
  simp only [List.cons_append, List.nil_append]
  have hlo : ((List.range i).map fun q : Nat => (a.getD q 0 - k * b.getD q 0) % p).length = i := by simp
  refine den_seq ?_
  refine den_seq ?_
  refine den_region TTok ?_
  intro K hK
  simp -implicitDefEqProofs (disch := first | decide | assumption | omega) only [go_sem, RdS.len ra sl22, RdS.idx ra sl22, R1.intB ra (Ext.pres eB), RdS.cells ra, RdS.len rb sl22, RdS.idx rb sl22, R1.intB rb (Ext.pres eB), RdS.cells rb, RdS.len (OS.rd hO) sl22, RdS.idx (OS.rd hO) sl22, R1.intN (OS.rd hO), RdS.cells (OS.rd hO), wrap_id]
  refine hK _ _ ?_
  clear hK K
  refine den_cond rfl (fun c0 => ?_) (fun c0 => ?_)
  ·try simp only [decide_eq_true_eq, decide_eq_false_iff_not, beq_iff_eq, beq_eq_false_iff_ne, bne_iff_ne, ne_eq, Bool.not_eq_true', Bool.not_eq_false', Bool.and_eq_true, Bool.or_eq_true, bne_eq_false_iff_eq] at c0
   refine den_skip ?_
   refine den_seq ?_
   refine den_block ?_
   have hxa := ha.at (k := i) (by omega)
   have hxb := hb.at (k := i) (by omega)
   have hky := mul42A hk hxb hp.2
   refine den_draw TTok mixed [15] [(0, true), (1, true), (2, true), (3, true), (4, true), (5, true), (6, true), (7, true), (8, true), (9, true), (10, true), (11, true), (12, true), (13, false), (14, false), (15, false), (16, true)] (by kernel_rfl) ?_
   intro K hK
   simp -implicitDefEqProofs (disch := first | decide | assumption | omega) only [go_sem, ld2, RdS.len ra sl22, RdS.idx ra sl22, R1.intB ra (Ext.pres eB), RdS.cells ra, RdS.len rb sl22, RdS.idx rb sl22, R1.intB rb (Ext.pres eB), RdS.cells rb, RdS.len (OS.rd hO) sl22, RdS.idx (OS.rd hO) sl22, R1.intN (OS.rd hO), RdS.cells (OS.rd hO), wrap_id]
   try simp -implicitDefEqProofs (disch := first | decide | assumption | omega) only [go_sem, RdS.len ra sl22, RdS.idx ra sl22, R1.intB ra (Ext.pres eB), RdS.cells ra, RdS.len rb sl22, RdS.idx rb sl22, R1.intB rb (Ext.pres eB), RdS.cells rb, RdS.len (OS.rd hO) sl22, RdS.idx (OS.rd hO) sl22, R1.intN (OS.rd hO), RdS.cells (OS.rd hO), wrap_id]
   refine CallA.mono (sMod_ok  p (((a).getD i 0) - (k * ((b).getD i 0))) _  (by omega) (by omega)) ?_
   intro v_ h5_13
   rintro ⟨rfl, e5_13⟩
   replace hO := OS.ext hO e5_13
   have := Ext.size e5_13
   replace eB := Ext.trans eB e5_13
   replace cL2 := Chg.stepE cL2 e5_13
   try simp (disch := decide) only [outv_some, outv_none, put_puts]
   refine plK_pres (Ext.pres e5_13) ?_
   try simp -implicitDefEqProofs (disch := first | decide | assumption | omega) only [go_sem, RdS.len ra sl22, RdS.idx ra sl22, R1.intB ra (Ext.pres eB), RdS.cells ra, RdS.len rb sl22, RdS.idx rb sl22, R1.intB rb (Ext.pres eB), RdS.cells rb, RdS.len (OS.rd hO) sl22, RdS.idx (OS.rd hO) sl22, R1.intN (OS.rd hO), RdS.cells (OS.rd hO), wrap_id]
   refine op_bs1 sz22 rfl rfl ?_
   try simp (disch := decide) only [outv_some, outv_none, put_puts]
   refine plK_pres (Ext.pres (Ext.push _ _)) ?_
   try simp -implicitDefEqProofs (disch := first | decide | assumption | omega) only [go_sem, RdS.len ra sl22, RdS.idx ra sl22, R1.intB ra (Ext.pres eB), RdS.cells ra, RdS.len rb sl22, RdS.idx rb sl22, R1.intB rb (Ext.pres eB), RdS.cells rb, RdS.len (OS.rd hO) sl22, RdS.idx (OS.rd hO) sl22, R1.intN (OS.rd hO), RdS.cells (OS.rd hO), wrap_id]
   refine op_append1 sz22 hO hfhO.nodup ⟨rfl, rfl⟩ List.nodup_nil (Apart.nil _) (by first | omega | (simp; omega)) rfl rfl ?_
   intro v5_15 h5_15 fp5_15 ho5_15 hn5_15 hs5_15 c5_15
   have hsz5_15 := c5_15.size
   have hfho5_15 : Fresh h.size fp5_15 := Fresh.appd hfhO (Fresh.nil h5_13.size) (by omega) (by omega) hn5_15 hs5_15
   have sb5 : Sub [h.size] h1_0.size fp5_15 := Sub.grow sbhO Sub.nil (by omega) hs5_15
   have := c5_15.size
   replace eB := Ext.then eB c5_15 (ge_of hfhO (by omega))
   replace cL2 := Chg.step cL2 c5_15 sbhO
   have hlho5_15 := OS.lt ho5_15
   try simp (disch := decide) only [outv_some, outv_none, put_puts]
   refine plK_last (by decide) ?_
   try simp -implicitDefEqProofs (disch := first | decide | assumption | omega) only [go_sem, RdS.len ra sl22, RdS.idx ra sl22, R1.intB ra (Ext.pres eB), RdS.cells ra, RdS.len rb sl22, RdS.idx rb sl22, R1.intB rb (Ext.pres eB), RdS.cells rb, RdS.len (OS.rd ho5_15) sl22, RdS.idx (OS.rd ho5_15) sl22, R1.intN (OS.rd ho5_15), RdS.cells (OS.rd ho5_15), wrap_id]
   refine hK _ _ ?_
   clear hK K
   refine den_blk ?_
   refine den_region TTok ?_
   intro K hK
   simp -implicitDefEqProofs (disch := first | decide | assumption | omega) only [go_sem, RdS.len ra sl22, RdS.idx ra sl22, R1.intB ra (Ext.pres eB), RdS.cells ra, RdS.len rb sl22, RdS.idx rb sl22, R1.intB rb (Ext.pres eB), RdS.cells rb, RdS.len (OS.rd ho5_15) sl22, RdS.idx (OS.rd ho5_15) sl22, R1.intN (OS.rd ho5_15), RdS.cells (OS.rd ho5_15), wrap_id]
   refine hK _ _ ?_
   clear hK K
   refine den_stop ?_
   rw [range_step (fun q : Nat => (a.getD q 0 - k * b.getD q 0) % p)] at ho5_15
   exact ⟨(i + 1, v5_15, fp5_15), by simp [HasL, puts_at], ⟨by first | omega | (dsimp only; omega), ho5_15, hfho5_15, sb5, cL2⟩, by first | omega | (dsimp only; omega)⟩
  ·try simp only [decide_eq_true_eq, decide_eq_false_iff_not, beq_iff_eq, beq_eq_false_iff_ne, bne_iff_ne, ne_eq, Bool.not_eq_true', Bool.not_eq_false', Bool.and_eq_true, Bool.or_eq_true, bne_eq_false_iff_eq] at c0
   refine den_exit ?_
   refine denX_code ?_
   refine denX_stop ?_
   refine denX_hit ?_
   refine den_seq ?_
   refine den_region TTok ?_
   intro K hK
   simp -implicitDefEqProofs (disch := first | decide | assumption | omega) only [go_sem, RdS.len ra sl22, RdS.idx ra sl22, R1.intB ra (Ext.pres eB), RdS.cells ra, RdS.len rb sl22, RdS.idx rb sl22, R1.intB rb (Ext.pres eB), RdS.cells rb, RdS.len (OS.rd hO) sl22, RdS.idx (OS.rd hO) sl22, R1.intN (OS.rd hO), RdS.cells (OS.rd hO), wrap_id]
   refine hK _ _ ?_
   clear hK K
   refine den_ret ?_
   simp (disch := decide) only [resP_1, puts_same, puts_ne]
   rw [show i = a.length by omega] at hO
   exact ⟨_, _, rfl, hO, hfhO.mono (by omega), eB⟩
end Go.Proofs.Ytjjjgllbocgkbaa
