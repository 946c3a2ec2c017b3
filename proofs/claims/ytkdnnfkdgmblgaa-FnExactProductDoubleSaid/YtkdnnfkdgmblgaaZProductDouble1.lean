/-
  What the statement FnExactProductDouble uses of the walks, part 1.
  Conditions: each theorem's own.
-/
import Derived.Test.YtkdnnfkdgmblgaaG16
import Derived.Test.YtkdnnfkdgmblgaaG17
import Derived.Test.YtkdnnfkdgmblgaaG14
import Derived.Test.YtkdnnfkdgmblgaaG13
import Derived.Test.YtkdnnfkdgmblgaaG15
import Derived.Test.YtkdnnfkdgmblgaaG18
set_option linter.unusedVariables false
set_option linter.unusedSimpArgs false
namespace Go.Proofs.Ytkdnnfkdgmblgaa
open Go
abbrev Apart (fp fq : List Nat) : Prop := ∀ b ∈ fp, b ∉ fq
def Sub (fp0 : List Nat) (n : Nat) (fp : List Nat) : Prop := ∀ b ∈ fp, b ∈ fp0 ∨ n ≤ b
theorem apart_lt {fp fq : List Nat} {m lo : Nat} (l : ∀ b ∈ fp, b < m) (f : Fresh lo fq) (h : m ≤ lo) : Apart fp fq := fun b hb hq => by
 have := l b hb; have := f.ge b hq; omega
theorem apart_gt {fp fq : List Nat} {m lo : Nat} (f : Fresh lo fp) (l : ∀ b ∈ fq, b < m) (h : m ≤ lo) : Apart fp fq := fun b hb hq => by
 have := l b hq; have := f.ge b hb; omega
theorem Apart.symm {fp fq : List Nat} (h : Apart fp fq) : Apart fq fp := fun b hb hq => h b hq hb
theorem Apart.app {fp f1 f2 : List Nat} (h1 : Apart fp f1) (h2 : Apart fp f2) : Apart fp (f1 ++ f2) := fun b hb hq => by
 rcases List.mem_append.1 hq with h | h
 ·exact h1 b hb h
 ·exact h2 b hb h
theorem Apart.nil (fp : List Nat) : Apart fp [] := fun b hb hq => by cases hq
/-- What has grown out of a list, an element and new blocks lies apart from what was apart from both and is older. -/
theorem Apart.grow {fo fp fx fp' : List Nat} {m k : Nat} (hl : ∀ b ∈ fo, b < k) (hk : k ≤ m) (h1 : Apart fo fp) (h2 : Apart fo fx) (hs : ∀ b ∈ fp', b ∈ fp ∨ b ∈ fx ∨ m ≤ b) : Apart fo fp' := fun b hb hp => by
 rcases hs b hp with h | h | h
 ·exact h1 b hb h
 ·exact h2 b hb h
 ·have := hl b hb; omega
theorem Fresh.appd {lo lx m : Nat} {fp fx fp' : List Nat} (f : Fresh lo fp) (g : Fresh lx fx) (hx : lo ≤ lx) (hm : lo ≤ m) (hn : fp'.Nodup) (hs : ∀ b ∈ fp', b ∈ fp ∨ b ∈ fx ∨ m ≤ b) : Fresh lo fp' :=
 ⟨hn, fun b hb => by
  rcases hs b hb with h | h | h
  ·exact f.ge b h
  ·have := g.ge b h; omega
  ·omega⟩
theorem Sub.refl {fp0 : List Nat} {n : Nat} : Sub fp0 n fp0 := fun _ h => .inl h
theorem Sub.left {f1 f2 fp : List Nat} {n : Nat} (h : Sub f1 n fp) : Sub (f1 ++ f2) n fp := fun b hb => (h b hb).elim (fun h => .inl (List.mem_append_left _ h)) .inr
theorem Sub.right {f1 f2 fp : List Nat} {n : Nat} (h : Sub f2 n fp) : Sub (f1 ++ f2) n fp := fun b hb => (h b hb).elim (fun h => .inl (List.mem_append_right _ h)) .inr
theorem Sub.app {fp0 f1 f2 : List Nat} {n : Nat} (h1 : Sub fp0 n f1) (h2 : Sub fp0 n f2) : Sub fp0 n (f1 ++ f2) := fun b hb => by
 rcases List.mem_append.1 hb with h | h
 ·exact h1 b h
 ·exact h2 b h
theorem Sub.fresh {fp0 fp : List Nat} {n lo : Nat} (f : Fresh lo fp) (h : n ≤ lo) : Sub fp0 n fp := fun b hb => .inr (Nat.le_trans h (f.ge b hb))
theorem Sub.grow {fp0 fp fx fp' : List Nat} {n m : Nat} (h1 : Sub fp0 n fp) (h2 : Sub fp0 n fx) (hm : n ≤ m) (hs : ∀ b ∈ fp', b ∈ fp ∨ b ∈ fx ∨ m ≤ b) : Sub fp0 n fp' := fun b hb => by
 rcases hs b hb with h | h | h
 ·exact h1 b h
 ·exact h2 b h
 ·exact .inr (Nat.le_trans hm h)
theorem Sub.trans {fp0 fp1 fp : List Nat} {n m : Nat} (h : Sub fp1 m fp) (k : Sub fp0 n fp1) (hm : n ≤ m) : Sub fp0 n fp := fun b hb => by
 rcases h b hb with h | h
 ·exact k b h
 ·exact .inr (Nat.le_trans hm h)
theorem Sub.nil {fp0 : List Nat} {n : Nat} : Sub fp0 n [] := fun b hb => by cases hb
theorem ge_of {lo m : Nat} {fp : List Nat} (f : Fresh lo fp) (h : m ≤ lo) : ∀ b ∈ fp, m ≤ b := fun b hb => Nat.le_trans h (f.ge b hb)
theorem ge_app {m : Nat} {f1 f2 : List Nat} (h1 : ∀ b ∈ f1, m ≤ b) (h2 : ∀ b ∈ f2, m ≤ b) : ∀ b ∈ f1 ++ f2, m ≤ b := fun b hb => by
 rcases List.mem_append.1 hb with h | h
 ·exact h1 b h
 ·exact h2 b h
theorem Chg.step {fp0 fp : List Nat} {a b c : Heap} (h : Chg fp0 a b) (k : Chg fp b c) (s : Sub fp0 a.size fp) : Chg fp0 a c :=
 ⟨Nat.le_trans h.size k.size, fun q hq hn => (k.block q (Nat.lt_of_lt_of_le hq h.size) (fun hm => by
  rcases s q hm with h1 | h1
  ·exact hn h1
  ·omega)).trans (h.block q hq hn)⟩
theorem Chg.stepE {fp0 : List Nat} {a b c : Heap} (h : Chg fp0 a b) (k : Ext b c) : Chg fp0 a c := h.trans (k.chg _)
theorem Fresh.two {l1 l2 lo : Nat} {fp fq : List Nat} (f1 : Fresh l1 fp) (f2 : Fresh l2 fq) (ap : Apart fp fq) (h1 : lo ≤ l1) (h2 : lo ≤ l2) : Fresh lo (fp ++ fq) :=
 ⟨List.nodup_append.2 ⟨f1.nodup, f2.nodup, fun b hb c hc e => ap b hb (e ▸ hc)⟩, fun b hb => by
  rcases List.mem_append.1 hb with h | h
  ·exact Nat.le_trans h1 (f1.ge b h)
  ·exact Nat.le_trans h2 (f2.ge b h)⟩
theorem apart_nodup {lo : Nat} {f1 f2 : List Nat} (h : Fresh lo (f1 ++ f2)) : Apart f1 f2 := fun b hb hm => (List.nodup_append.1 h.nodup).2.2 b hb b hm rfl
theorem one_lt {b n : Nat} (h : b < n) : ∀ q ∈ [b], q < n := fun q hq => by simp at hq; omega
theorem BoxAt.chgA {h h' : Heap} {b : Nat} {cs : Array Value} {t : TypeId} {fp : List Nat} (hb : BoxAt h b cs t) (c : Chg fp h h') (hn : Apart [b] fp) : BoxAt h' b cs t := hb.chg c (hn b (by simp))
theorem range_step {β : Type} (f : Nat → β) (k : Nat) : (List.range k).map f ++ [f k] = (List.range (k + 1)).map f := by simp [List.range_succ]
theorem mod_twice {p x : Int} (hp : 0 < p) : (x.tmod p + p).tmod p = x % p := by
 have h1 : -p < x.tmod p := by
  have := Int.lt_tmod_of_pos x hp; omega
 rw [Int.tmod_eq_emod_of_nonneg (by omega), Int.add_emod_right, Int.tmod_def, Int.sub_mul_emod_self_left]
theorem tmod_in {p x : Int} (hp : 0 < p) : -p < x.tmod p ∧ x.tmod p < p := ⟨by have := Int.lt_tmod_of_pos x hp; omega, Int.tmod_lt_of_pos x hp⟩
theorem resP_ct {T : Tab} {R : Value → Heap → Prop} {env : Env} {h : Heap} {a u : Nat} {t : TypeId} : resP T [.cell a t, .tmp u] R env h = Bd (asAd (env a)) fun ad => Bd (loadV T h t ad) fun v => R (.tuple #[v, env u]) h := by
 unfold resP resV resL resL resL
 cases asAd (env a) with
 | none => rfl
 | some ad => cases h1 : loadV T h t ad <;> simp [h1, Bd]
theorem binV_eqB (a b : Bool) : binV TT .eql 4 (.bool a) (.bool b) = some (.bool (a == b)) := by simp [binV, T4]
theorem binV_neB (a b : Bool) : binV TT .neq 4 (.bool a) (.bool b) = some (.bool (!(a == b))) := by simp [binV, T4]
theorem binV_eqNil (A : Option Addr) (n c : Nat) : binV TT .eql 22 (.slice A n c) (.slice none 0 0) = some (.bool A.isNone) := by cases A <;> simp [binV, T22]
attribute [go_sem] binV_eqB binV_neB binV_eqNil
end Go.Proofs.Ytkdnnfkdgmblgaa

namespace Go.Proofs.Ytkdnnfkdgmblgaa
open Go
def szI (xs : List Int) (left : Int) : Int := if left - xs.length < 0 then -1 else left - xs.length
def szRows {α : Type} (f : α → Int → Int) : List α → Int → Int
 | [], l => l
 | x :: r, l => if f x l < 0 then -1 else szRows f r (f x l)
def szL {α : Type} (f : α → Int → Int) (xs : List α) (left : Int) : Int := if left - xs.length < 0 then -1 else szRows f xs (left - xs.length)
def sz2 : List (List Int) → Int → Int := szL szI
def sz3 : List (List (List Int)) → Int → Int := szL sz2
theorem szI_le (xs : List Int) (l : Int) (h : 0 ≤ l) : -1 ≤ szI xs l ∧ szI xs l ≤ l := by unfold szI; split <;> omega
theorem szRows_le {α : Type} (f : α → Int → Int) (hf : ∀ x l, 0 ≤ l → -1 ≤ f x l ∧ f x l ≤ l) : ∀ (r : List α) (l : Int), 0 ≤ l → -1 ≤ szRows f r l ∧ szRows f r l ≤ l
 | [], l, h => by simp [szRows]; omega
 | x :: r, l, h => by
  unfold szRows
  have := hf x l h
  split
  ·omega
  ·have := szRows_le f hf r (f x l) (by omega); omega
theorem szL_le {α : Type} (f : α → Int → Int) (hf : ∀ x l, 0 ≤ l → -1 ≤ f x l ∧ f x l ≤ l) (r : List α) (l : Int) (h : 0 ≤ l) : -1 ≤ szL f r l ∧ szL f r l ≤ l := by
 unfold szL
 split
 ·omega
 ·have := szRows_le f hf r (l - r.length) (by omega); omega
theorem sz2_le (r : List (List Int)) (l : Int) (h : 0 ≤ l) : -1 ≤ sz2 r l ∧ sz2 r l ≤ l := szL_le szI szI_le r l h
theorem sz3_le (r : List (List (List Int))) (l : Int) (h : 0 ≤ l) : -1 ≤ sz3 r l ∧ sz3 r l ≤ l := szL_le sz2 sz2_le r l h
theorem szRows_drop {α : Type} [Inhabited α] (f : α → Int → Int) (xs : List α) (k : Nat) (l : Int) (h : (k : Int) < xs.length) : szRows f (xs.drop k) l = if f (xs.getD k default) l < 0 then -1 else szRows f (xs.drop (k + 1)) (f (xs.getD k default) l) := by
 have hk : k < xs.length := by omega
 rw [List.drop_eq_getElem_cons hk, szRows, List.getD_eq_getElem?_getD, List.getElem?_eq_getElem hk]
 rfl

set_option maxRecDepth 100000 in
theorem szS_ok (v : Value) (xs : List Int) (left : Int) (h : Heap) (hv : R1 h v xs) (h0 : 0 ≤ left) (h1 : left ≤ 1048576) : CallA Try.prog 13 #[v, .int .i64 left] h fun v h' => v = .int .i64 (szI xs left) ∧ h' = h := by
 have hle := RdS.le hv
 refine callA_intro TTok (args := [_, _]) Try.func13 (by kernel_rfl) rfl 12 rfl (by simp) [.tmp 4] rfl ?_
 simp only [idxs, Nat.reduceAdd]
 refine den_seq ?_
 refine den_region TTok ?_
 intro K hK
 simp -implicitDefEqProofs (disch := first | decide | assumption | omega) only [go_sem, RdS.len hv sl22, RdS.idx hv sl22, R1.intB hv (HPres.refl _), RdS.cells hv, wrap_id]
 refine hK _ _ ?_
 clear hK K
 refine den_seq ?_
 refine den_region TTok ?_
 intro K hK
 simp -implicitDefEqProofs (disch := first | decide | assumption | omega) only [go_sem, RdS.len hv sl22, RdS.idx hv sl22, R1.intB hv (HPres.refl _), RdS.cells hv, wrap_id]
 refine hK _ _ ?_
 clear hK K
 refine den_seq ?_
 refine den_seq ?_
 refine den_region TTok ?_
 intro K hK
 simp -implicitDefEqProofs (disch := first | decide | assumption | omega) only [go_sem, RdS.len hv sl22, RdS.idx hv sl22, R1.intB hv (HPres.refl _), RdS.cells hv, wrap_id]
 refine hK _ _ ?_
 clear hK K
 refine den_cond rfl (fun c0 => ?_) (fun c0 => ?_)
 ·try simp only [decide_eq_true_eq, decide_eq_false_iff_not, beq_iff_eq, beq_eq_false_iff_ne, bne_iff_ne, ne_eq, Bool.not_eq_true', Bool.not_eq_false', Bool.and_eq_true, Bool.or_eq_true, bne_eq_false_iff_eq] at c0
  refine den_seq ?_
  refine den_region TTok ?_
  intro K hK
  simp -implicitDefEqProofs (disch := first | decide | assumption | omega) only [go_sem, RdS.len hv sl22, RdS.idx hv sl22, R1.intB hv (HPres.refl _), RdS.cells hv, wrap_id]
  refine hK _ _ ?_
  clear hK K
  refine den_ret ?_
  simp (disch := decide) only [resP_1, puts_same, puts_ne]
  exact ⟨vint (by rw [szI, if_pos c0]), trivial⟩
 ·try simp only [decide_eq_true_eq, decide_eq_false_iff_not, beq_iff_eq, beq_eq_false_iff_ne, bne_iff_ne, ne_eq, Bool.not_eq_true', Bool.not_eq_false', Bool.and_eq_true, Bool.or_eq_true, bne_eq_false_iff_eq] at c0
  refine den_skip ?_
  refine den_seq ?_
  refine den_region TTok ?_
  intro K hK
  simp -implicitDefEqProofs (disch := first | decide | assumption | omega) only [go_sem, RdS.len hv sl22, RdS.idx hv sl22, R1.intB hv (HPres.refl _), RdS.cells hv, wrap_id]
  refine hK _ _ ?_
  clear hK K
  refine den_ret ?_
  simp (disch := decide) only [resP_1, puts_same, puts_ne]
  exact ⟨vint (by rw [szI, if_neg c0]), trivial⟩

set_option maxRecDepth 100000 in
theorem szSS_ok (v : Value) (R : List (List Int)) (left : Int) (h : Heap) (hv : R2 h v R) (h0 : 0 ≤ left) (h1 : left ≤ 1048576) : CallA Try.prog 35 #[v, .int .i64 left] h fun v h' => v = .int .i64 (sz2 R left) ∧ h' = h := by
 have hle := RdS.le hv
 refine callA_intro TTok (args := [_, _]) Try.func35 (by kernel_rfl) rfl 27 rfl (by simp) [.tmp 4] rfl ?_
 simp only [idxs, Nat.reduceAdd]
 refine den_seq ?_
 refine den_region TTok ?_
 intro K hK
 simp -implicitDefEqProofs (disch := first | decide | assumption | omega) only [go_sem, RdS.len hv sl27, RdS.idx hv sl27, RdS.cellB hv (HPres.refl _), RdS.cells hv, wrap_id]
 refine hK _ _ ?_
 clear hK K
 refine den_seq ?_
 refine den_region TTok ?_
 intro K hK
 simp -implicitDefEqProofs (disch := first | decide | assumption | omega) only [go_sem, RdS.len hv sl27, RdS.idx hv sl27, RdS.cellB hv (HPres.refl _), RdS.cells hv, wrap_id]
 refine hK _ _ ?_
 clear hK K
 refine den_seq ?_
 refine den_seq ?_
 refine den_region TTok ?_
 intro K hK
 simp -implicitDefEqProofs (disch := first | decide | assumption | omega) only [go_sem, RdS.len hv sl27, RdS.idx hv sl27, RdS.cellB hv (HPres.refl _), RdS.cells hv, wrap_id]
 refine hK _ _ ?_
 clear hK K
 refine den_cond rfl (fun c0 => ?_) (fun c0 => ?_)
 ·try simp only [decide_eq_true_eq, decide_eq_false_iff_not, beq_iff_eq, beq_eq_false_iff_ne, bne_iff_ne, ne_eq, Bool.not_eq_true', Bool.not_eq_false', Bool.and_eq_true, Bool.or_eq_true, bne_eq_false_iff_eq] at c0
  refine den_seq ?_
  refine den_region TTok ?_
  intro K hK
  simp -implicitDefEqProofs (disch := first | decide | assumption | omega) only [go_sem, RdS.len hv sl27, RdS.idx hv sl27, RdS.cellB hv (HPres.refl _), RdS.cells hv, wrap_id]
  refine hK _ _ ?_
  clear hK K
  refine den_ret ?_
  simp (disch := decide) only [resP_1, puts_same, puts_ne]
  exact ⟨vint (by rw [sz2, szL, if_pos c0]), trivial⟩
 ·try simp only [decide_eq_true_eq, decide_eq_false_iff_not, beq_iff_eq, beq_eq_false_iff_ne, bne_iff_ne, ne_eq, Bool.not_eq_true', Bool.not_eq_false', Bool.and_eq_true, Bool.or_eq_true, bne_eq_false_iff_eq] at c0
  refine den_skip ?_
  refine den_seq ?_
  refine den_seq ?_
  refine den_region TTok ?_
  intro K hK
  simp -implicitDefEqProofs (disch := first | decide | assumption | omega) only [go_sem, RdS.len hv sl27, RdS.idx hv sl27, RdS.cellB hv (HPres.refl _), RdS.cells hv, wrap_id]
  refine hK _ _ ?_
  clear hK K
  refine den_block ?_
  refine den_sel [1, 5, 0] ?_
  intro env_1
  simp only [go_sem]
  refine den_loopP (σ := Nat × Int) (fun s => [(1, .int .i64 s.2), (5, .int .i64 (s.1 : Int))]) (fun s => s.1 ≤ R.length ∧ 0 ≤ s.2 ∧ s.2 ≤ 1048576 ∧ szRows szI (R.drop s.1) s.2 = szRows szI R (left - R.length)) (fun s => R.length - s.1) (0, left - R.length) ?_ ?_
  ·exact ⟨rfl, by simp, by simp; omega, by simp; omega, rfl⟩
  ·rintro ⟨k, l⟩ ee3 ⟨hk, hl0, hl1, heq⟩
   simp only [List.cons_append, List.nil_append]
   refine den_seq ?_
   refine den_seq ?_
   refine den_region TTok ?_
   intro K hK
   simp -implicitDefEqProofs (disch := first | decide | assumption | omega) only [go_sem, RdS.len hv sl27, RdS.idx hv sl27, RdS.cellB hv (HPres.refl _), RdS.cells hv, wrap_id]
   refine hK _ _ ?_
   clear hK K
   refine den_cond rfl (fun c1 => ?_) (fun c1 => ?_)
   ·try simp only [decide_eq_true_eq, decide_eq_false_iff_not, beq_iff_eq, beq_eq_false_iff_ne, bne_iff_ne, ne_eq, Bool.not_eq_true', Bool.not_eq_false', Bool.and_eq_true, Bool.or_eq_true, bne_eq_false_iff_eq] at c1
    refine den_skip ?_
    refine den_seq ?_
    refine den_block ?_
    refine den_seq ?_
    refine den_region TTok ?_
    intro K hK
    have hr4 := RdS.rowN hv k (by omega)
    have hlhr4 := RdS.le hr4
    simp -implicitDefEqProofs (disch := first | decide | assumption | omega) only [go_sem, ld22, RdS.len hv sl27, RdS.idx hv sl27, RdS.cellB hv (HPres.refl _), RdS.cells hv, RdS.len hr4 sl22, RdS.idx hr4 sl22, R1.intB hr4 (HPres.refl _), RdS.cells hr4, wrap_id]
    try simp -implicitDefEqProofs (disch := first | decide | assumption | omega) only [go_sem, RdS.len hv sl27, RdS.idx hv sl27, RdS.cellB hv (HPres.refl _), RdS.cells hv, RdS.len hr4 sl22, RdS.idx hr4 sl22, R1.intB hr4 (HPres.refl _), RdS.cells hr4, wrap_id]
    refine CallA.pure (szS_ok _ _ _ _ hr4 (by omega) (by omega)) ?_
    try simp -implicitDefEqProofs (disch := first | decide | assumption | omega) only [go_sem, RdS.len hv sl27, RdS.idx hv sl27, RdS.cellB hv (HPres.refl _), RdS.cells hv, RdS.len hr4 sl22, RdS.idx hr4 sl22, R1.intB hr4 (HPres.refl _), RdS.cells hr4, wrap_id]
    refine hK _ _ ?_
    clear hK K
    refine den_seq ?_
    refine den_region TTok ?_
    intro K hK
    simp -implicitDefEqProofs (disch := first | decide | assumption | omega) only [go_sem, RdS.len hv sl27, RdS.idx hv sl27, RdS.cellB hv (HPres.refl _), RdS.cells hv, RdS.len hr4 sl22, RdS.idx hr4 sl22, R1.intB hr4 (HPres.refl _), RdS.cells hr4, wrap_id]
    refine hK _ _ ?_
    clear hK K
    refine den_cond rfl (fun c2 => ?_) (fun c2 => ?_)
    ·try simp only [decide_eq_true_eq, decide_eq_false_iff_not, beq_iff_eq, beq_eq_false_iff_ne, bne_iff_ne, ne_eq, Bool.not_eq_true', Bool.not_eq_false', Bool.and_eq_true, Bool.or_eq_true, bne_eq_false_iff_eq] at c2
     refine den_seq ?_
     refine den_region TTok ?_
     intro K hK
     simp -implicitDefEqProofs (disch := first | decide | assumption | omega) only [go_sem, RdS.len hv sl27, RdS.idx hv sl27, RdS.cellB hv (HPres.refl _), RdS.cells hv, RdS.len hr4 sl22, RdS.idx hr4 sl22, R1.intB hr4 (HPres.refl _), RdS.cells hr4, wrap_id]
     refine hK _ _ ?_
     clear hK K
     refine den_ret ?_
     simp (disch := decide) only [resP_1, puts_same, puts_ne]
     have hd := szRows_drop szI R k l c1
     rw [if_pos c2] at hd
     exact ⟨vint (by rw [sz2, szL, if_neg c0, ← heq]; exact hd.symm), trivial⟩
    ·try simp only [decide_eq_true_eq, decide_eq_false_iff_not, beq_iff_eq, beq_eq_false_iff_ne, bne_iff_ne, ne_eq, Bool.not_eq_true', Bool.not_eq_false', Bool.and_eq_true, Bool.or_eq_true, bne_eq_false_iff_eq] at c2
     refine den_skip ?_
     refine den_blk ?_
     refine den_region TTok ?_
     intro K hK
     simp -implicitDefEqProofs (disch := first | decide | assumption | omega) only [go_sem, RdS.len hv sl27, RdS.idx hv sl27, RdS.cellB hv (HPres.refl _), RdS.cells hv, RdS.len hr4 sl22, RdS.idx hr4 sl22, R1.intB hr4 (HPres.refl _), RdS.cells hr4, wrap_id]
     refine hK _ _ ?_
     clear hK K
     refine den_stop ?_
     have hd := szRows_drop szI R k l c1
     rw [if_neg c2] at hd
     have hb := szI_le (R.getD k default) l hl0
     exact ⟨(k + 1, szI (R.getD k default) l), by simp [HasL, puts_at], ⟨rfl, by dsimp only; omega, by dsimp only; omega, by dsimp only; omega, by rw [← hd]; exact heq⟩, by dsimp only; omega⟩
   ·try simp only [decide_eq_true_eq, decide_eq_false_iff_not, beq_iff_eq, beq_eq_false_iff_ne, bne_iff_ne, ne_eq, Bool.not_eq_true', Bool.not_eq_false', Bool.and_eq_true, Bool.or_eq_true, bne_eq_false_iff_eq] at c1
    refine den_exit ?_
    refine denX_code ?_
    refine denX_stop ?_
    refine denX_hit ?_
    refine den_seq ?_
    refine den_region TTok ?_
    intro K hK
    simp -implicitDefEqProofs (disch := first | decide | assumption | omega) only [go_sem, RdS.len hv sl27, RdS.idx hv sl27, RdS.cellB hv (HPres.refl _), RdS.cells hv, wrap_id]
    refine hK _ _ ?_
    clear hK K
    refine den_ret ?_
    simp (disch := decide) only [resP_1, puts_same, puts_ne]
    exact ⟨vint (by rw [sz2, szL, if_neg c0, ← heq, List.drop_of_length_le (by simp only at hk ⊢; omega)]; rfl), trivial⟩

set_option maxRecDepth 100000 in
theorem szSSS_ok (v : Value) (R : List (List (List Int))) (left : Int) (h : Heap) (hv : R3 h v R) (h0 : 0 ≤ left) (h1 : left ≤ 1048576) : CallA Try.prog 14 #[v, .int .i64 left] h fun v h' => v = .int .i64 (sz3 R left) ∧ h' = h := by
 have hle := RdS.le hv
 refine callA_intro TTok (args := [_, _]) Try.func14 (by kernel_rfl) rfl 27 rfl (by simp) [.tmp 4] rfl ?_
 simp only [idxs, Nat.reduceAdd]
 refine den_seq ?_
 refine den_region TTok ?_
 intro K hK
 simp -implicitDefEqProofs (disch := first | decide | assumption | omega) only [go_sem, RdS.len hv sl23, RdS.idx hv sl23, RdS.cellB hv (HPres.refl _), RdS.cells hv, wrap_id]
 refine hK _ _ ?_
 clear hK K
 refine den_seq ?_
 refine den_region TTok ?_
 intro K hK
 simp -implicitDefEqProofs (disch := first | decide | assumption | omega) only [go_sem, RdS.len hv sl23, RdS.idx hv sl23, RdS.cellB hv (HPres.refl _), RdS.cells hv, wrap_id]
 refine hK _ _ ?_
 clear hK K
 refine den_seq ?_
 refine den_seq ?_
 refine den_region TTok ?_
 intro K hK
 simp -implicitDefEqProofs (disch := first | decide | assumption | omega) only [go_sem, RdS.len hv sl23, RdS.idx hv sl23, RdS.cellB hv (HPres.refl _), RdS.cells hv, wrap_id]
 refine hK _ _ ?_
 clear hK K
 refine den_cond rfl (fun c0 => ?_) (fun c0 => ?_)
 ·try simp only [decide_eq_true_eq, decide_eq_false_iff_not, beq_iff_eq, beq_eq_false_iff_ne, bne_iff_ne, ne_eq, Bool.not_eq_true', Bool.not_eq_false', Bool.and_eq_true, Bool.or_eq_true, bne_eq_false_iff_eq] at c0
  refine den_seq ?_
  refine den_region TTok ?_
  intro K hK
  simp -implicitDefEqProofs (disch := first | decide | assumption | omega) only [go_sem, RdS.len hv sl23, RdS.idx hv sl23, RdS.cellB hv (HPres.refl _), RdS.cells hv, wrap_id]
  refine hK _ _ ?_
  clear hK K
  refine den_ret ?_
  simp (disch := decide) only [resP_1, puts_same, puts_ne]
  exact ⟨vint (by rw [sz3, szL, if_pos c0]), trivial⟩
 ·try simp only [decide_eq_true_eq, decide_eq_false_iff_not, beq_iff_eq, beq_eq_false_iff_ne, bne_iff_ne, ne_eq, Bool.not_eq_true', Bool.not_eq_false', Bool.and_eq_true, Bool.or_eq_true, bne_eq_false_iff_eq] at c0
  refine den_skip ?_
  refine den_seq ?_
  refine den_seq ?_
  refine den_region TTok ?_
  intro K hK
  simp -implicitDefEqProofs (disch := first | decide | assumption | omega) only [go_sem, RdS.len hv sl23, RdS.idx hv sl23, RdS.cellB hv (HPres.refl _), RdS.cells hv, wrap_id]
  refine hK _ _ ?_
  clear hK K
  refine den_block ?_
  refine den_sel [1, 5, 0] ?_
  intro env_1
  simp only [go_sem]
  refine den_loopP (σ := Nat × Int) (fun s => [(1, .int .i64 s.2), (5, .int .i64 (s.1 : Int))]) (fun s => s.1 ≤ R.length ∧ 0 ≤ s.2 ∧ s.2 ≤ 1048576 ∧ szRows sz2 (R.drop s.1) s.2 = szRows sz2 R (left - R.length)) (fun s => R.length - s.1) (0, left - R.length) ?_ ?_
  ·exact ⟨rfl, by simp, by simp; omega, by simp; omega, rfl⟩
  ·rintro ⟨k, l⟩ ee3 ⟨hk, hl0, hl1, heq⟩
   simp only [List.cons_append, List.nil_append]
   refine den_seq ?_
   refine den_seq ?_
   refine den_region TTok ?_
   intro K hK
   simp -implicitDefEqProofs (disch := first | decide | assumption | omega) only [go_sem, RdS.len hv sl23, RdS.idx hv sl23, RdS.cellB hv (HPres.refl _), RdS.cells hv, wrap_id]
   refine hK _ _ ?_
   clear hK K
   refine den_cond rfl (fun c1 => ?_) (fun c1 => ?_)
   ·try simp only [decide_eq_true_eq, decide_eq_false_iff_not, beq_iff_eq, beq_eq_false_iff_ne, bne_iff_ne, ne_eq, Bool.not_eq_true', Bool.not_eq_false', Bool.and_eq_true, Bool.or_eq_true, bne_eq_false_iff_eq] at c1
    refine den_skip ?_
    refine den_seq ?_
    refine den_block ?_
    refine den_seq ?_
    refine den_region TTok ?_
    intro K hK
    have hr4 := RdS.rowN hv k (by omega)
    have hlhr4 := RdS.le hr4
    simp -implicitDefEqProofs (disch := first | decide | assumption | omega) only [go_sem, ld27, RdS.len hv sl23, RdS.idx hv sl23, RdS.cellB hv (HPres.refl _), RdS.cells hv, RdS.len hr4 sl27, RdS.idx hr4 sl27, RdS.cellB hr4 (HPres.refl _), RdS.cells hr4, wrap_id]
    try simp -implicitDefEqProofs (disch := first | decide | assumption | omega) only [go_sem, RdS.len hv sl23, RdS.idx hv sl23, RdS.cellB hv (HPres.refl _), RdS.cells hv, RdS.len hr4 sl27, RdS.idx hr4 sl27, RdS.cellB hr4 (HPres.refl _), RdS.cells hr4, wrap_id]
    refine CallA.pure (szSS_ok _ _ _ _ hr4 (by omega) (by omega)) ?_
    try simp -implicitDefEqProofs (disch := first | decide | assumption | omega) only [go_sem, RdS.len hv sl23, RdS.idx hv sl23, RdS.cellB hv (HPres.refl _), RdS.cells hv, RdS.len hr4 sl27, RdS.idx hr4 sl27, RdS.cellB hr4 (HPres.refl _), RdS.cells hr4, wrap_id]
    refine hK _ _ ?_
    clear hK K
    refine den_seq ?_
    refine den_region TTok ?_
    intro K hK
    simp -implicitDefEqProofs (disch := first | decide | assumption | omega) only [go_sem, RdS.len hv sl23, RdS.idx hv sl23, RdS.cellB hv (HPres.refl _), RdS.cells hv, RdS.len hr4 sl27, RdS.idx hr4 sl27, RdS.cellB hr4 (HPres.refl _), RdS.cells hr4, wrap_id]
    refine hK _ _ ?_
    clear hK K
    refine den_cond rfl (fun c2 => ?_) (fun c2 => ?_)
    ·try simp only [decide_eq_true_eq, decide_eq_false_iff_not, beq_iff_eq, beq_eq_false_iff_ne, bne_iff_ne, ne_eq, Bool.not_eq_true', Bool.not_eq_false', Bool.and_eq_true, Bool.or_eq_true, bne_eq_false_iff_eq] at c2
     refine den_seq ?_
     refine den_region TTok ?_
     intro K hK
     simp -implicitDefEqProofs (disch := first | decide | assumption | omega) only [go_sem, RdS.len hv sl23, RdS.idx hv sl23, RdS.cellB hv (HPres.refl _), RdS.cells hv, RdS.len hr4 sl27, RdS.idx hr4 sl27, RdS.cellB hr4 (HPres.refl _), RdS.cells hr4, wrap_id]
     refine hK _ _ ?_
     clear hK K
     refine den_ret ?_
     simp (disch := decide) only [resP_1, puts_same, puts_ne]
     have hd := szRows_drop sz2 R k l c1
     rw [if_pos c2] at hd
     exact ⟨vint (by rw [sz3, szL, if_neg c0, ← heq]; exact hd.symm), trivial⟩
    ·try simp only [decide_eq_true_eq, decide_eq_false_iff_not, beq_iff_eq, beq_eq_false_iff_ne, bne_iff_ne, ne_eq, Bool.not_eq_true', Bool.not_eq_false', Bool.and_eq_true, Bool.or_eq_true, bne_eq_false_iff_eq] at c2
     refine den_skip ?_
     refine den_blk ?_
     refine den_region TTok ?_
     intro K hK
     simp -implicitDefEqProofs (disch := first | decide | assumption | omega) only [go_sem, RdS.len hv sl23, RdS.idx hv sl23, RdS.cellB hv (HPres.refl _), RdS.cells hv, RdS.len hr4 sl27, RdS.idx hr4 sl27, RdS.cellB hr4 (HPres.refl _), RdS.cells hr4, wrap_id]
     refine hK _ _ ?_
     clear hK K
     refine den_stop ?_
     have hd := szRows_drop sz2 R k l c1
     rw [if_neg c2] at hd
     have hb := sz2_le (R.getD k default) l hl0
     exact ⟨(k + 1, sz2 (R.getD k default) l), by simp [HasL, puts_at], ⟨rfl, by dsimp only; omega, by dsimp only; omega, by dsimp only; omega, by rw [← hd]; exact heq⟩, by dsimp only; omega⟩
   ·try simp only [decide_eq_true_eq, decide_eq_false_iff_not, beq_iff_eq, beq_eq_false_iff_ne, bne_iff_ne, ne_eq, Bool.not_eq_true', Bool.not_eq_false', Bool.and_eq_true, Bool.or_eq_true, bne_eq_false_iff_eq] at c1
    refine den_exit ?_
    refine denX_code ?_
    refine denX_stop ?_
    refine denX_hit ?_
    refine den_seq ?_
    refine den_region TTok ?_
    intro K hK
    simp -implicitDefEqProofs (disch := first | decide | assumption | omega) only [go_sem, RdS.len hv sl23, RdS.idx hv sl23, RdS.cellB hv (HPres.refl _), RdS.cells hv, wrap_id]
    refine hK _ _ ?_
    clear hK K
    refine den_ret ?_
    simp (disch := decide) only [resP_1, puts_same, puts_ne]
    exact ⟨vint (by rw [sz3, szL, if_neg c0, ← heq, List.drop_of_length_le (by simp only at hk ⊢; omega)]; rfl), trivial⟩
end Go.Proofs.Ytkdnnfkdgmblgaa

namespace Go.Proofs.Ytkdnnfkdgmblgaa
open Go
def HM1 (xs : List Int) : Prop := (xs.length : Int) ≤ 1048576
def HM2 (R : List (List Int)) : Prop := (R.length : Int) ≤ 1048576 ∧ ∀ r ∈ R, HM1 r
def HM3 (R : List (List (List Int))) : Prop := (R.length : Int) ≤ 1048576 ∧ ∀ r ∈ R, HM2 r
theorem HM2.len {R : List (List Int)} (h : HM2 R) : (R.length : Int) ≤ 1048576 := h.1
theorem HM3.len {R : List (List (List Int))} (h : HM3 R) : (R.length : Int) ≤ 1048576 := h.1
theorem getD_mem {α : Type} [Inhabited α] {R : List α} {k : Nat} (hk : k < R.length) : R.getD k default ∈ R := by rw [List.getD_eq_getElem?_getD, List.getElem?_eq_getElem hk]; exact List.getElem_mem hk
theorem HM2.at {R : List (List Int)} (h : HM2 R) (k : Nat) (hk : k < R.length) : HM1 (R.getD k default) := h.2 _ (getD_mem hk)
theorem HM3.at {R : List (List (List Int))} (h : HM3 R) (k : Nat) (hk : k < R.length) : HM2 (R.getD k default) := h.2 _ (getD_mem hk)
set_option maxRecDepth 100000 in
theorem toS_ok (v : Value) (xs : List Int) (h : Heap) (hv : R1 h v xs) (hm : (xs.length : Int) ≤ 1048576) : CallA Try.prog 17 #[v] h fun v h' => ∃ fp, O1 h' v xs fp ∧ Fresh h.size fp ∧ Ext h h' := by
 refine callA_intro TTok (args := [_]) Try.func17 (by kernel_rfl) rfl 22 rfl (by simp) [.tmp 2] rfl ?_
 simp only [idxs, Nat.reduceAdd]
 refine den_seq ?_
 refine den_region TTok ?_
 intro K hK
 simp -implicitDefEqProofs (disch := first | decide | assumption | omega) only [go_sem, RdS.len hv sl22, RdS.idx hv sl22, R1.intB hv (HPres.refl _), RdS.cells hv, wrap_id]
 refine hK _ _ ?_
 clear hK K
 refine den_seq ?_
 refine den_region TTok ?_
 intro K hK
 simp -implicitDefEqProofs (disch := first | decide | assumption | omega) only [go_sem, RdS.len hv sl22, RdS.idx hv sl22, R1.intB hv (HPres.refl _), RdS.cells hv, wrap_id]
 refine op_make sz22 rfl rfl (by omega) (by omega) OI 0 (fun _ => ⟨rfl, rfl⟩) ?_
 intro v1_2 h1_2 ho1_2 e1_2
 have := Ext.size e1_2
 have eB := e1_2
 try simp -implicitDefEqProofs (disch := first | decide | assumption | omega) only [go_sem, RdS.len hv sl22, RdS.idx hv sl22, R1.intB hv (Ext.pres eB), RdS.cells hv, RdS.len (OS.rd ho1_2) sl22, RdS.idx (OS.rd ho1_2) sl22, R1.intN (OS.rd ho1_2), RdS.cells (OS.rd ho1_2), wrap_id]
 refine hK _ _ ?_
 clear hK K
 refine den_seq ?_
 refine den_seq ?_
 refine den_region TTok ?_
 intro K hK
 simp -implicitDefEqProofs (disch := first | decide | assumption | omega) only [go_sem, RdS.len hv sl22, RdS.idx hv sl22, R1.intB hv (Ext.pres eB), RdS.cells hv, RdS.len (OS.rd ho1_2) sl22, RdS.idx (OS.rd ho1_2) sl22, R1.intN (OS.rd ho1_2), RdS.cells (OS.rd ho1_2), wrap_id]
 refine hK _ _ ?_
 clear hK K
 refine den_block ?_
 refine den_sel [4, 0, 3] ?_
 intro env_1
 simp only [go_sem]
 refine den_loopS (σ := Nat) (fun s => [(4, .int .i64 (s : Int))]) (fun s H => Ext h H ∧ s ≤ xs.length ∧ O1 H v1_2 (xs.take s ++ List.replicate (xs.length - s) 0) [h.size]) (fun s => xs.length - s) 0 ?_ ?_
 ·exact ⟨eB, by omega, by rw [fill_zero]; simpa using ho1_2⟩
 ·rintro k h4 ee3 ⟨eB, hk, ho⟩
  simp only [List.cons_append, List.nil_append]
  have := Ext.size eB
  refine den_seq ?_
  refine den_seq ?_
  refine den_region TTok ?_
  intro K hK
  simp -implicitDefEqProofs (disch := first | decide | assumption | omega) only [go_sem, RdS.len hv sl22, RdS.idx hv sl22, R1.intB hv (Ext.pres eB), RdS.cells hv, RdS.len (OS.rd ho) sl22, RdS.idx (OS.rd ho) sl22, R1.intN (OS.rd ho), RdS.cells (OS.rd ho), wrap_id]
  refine hK _ _ ?_
  clear hK K
  refine den_cond rfl (fun c0 => ?_) (fun c0 => ?_)
  ·try simp only [decide_eq_true_eq, decide_eq_false_iff_not, beq_iff_eq, beq_eq_false_iff_ne, bne_iff_ne, ne_eq, Bool.not_eq_true', Bool.not_eq_false', Bool.and_eq_true, Bool.or_eq_true, bne_eq_false_iff_eq] at c0
   refine den_skip ?_
   refine den_seq ?_
   refine den_block ?_
   have hlen := fill_len xs 0 k hk
   refine den_region TTok ?_
   intro K hK
   simp -implicitDefEqProofs (disch := first | decide | assumption | omega) only [go_sem, ld2, RdS.len hv sl22, RdS.idx hv sl22, R1.intB hv (Ext.pres eB), RdS.cells hv, RdS.len (OS.rd ho) sl22, RdS.idx (OS.rd ho) sl22, R1.intN (OS.rd ho), RdS.cells (OS.rd ho), wrap_id]
   refine op_store1 (j := k) st2 ho (by simp) (by omega) rfl rfl ?_
   intro h8 ho8 c8
   replace eB := Ext.then eB c8 (fun b hb => by simp at hb; omega)
   rw [fill_step xs 0 0 k (by omega)] at ho8
   try simp -implicitDefEqProofs (disch := first | decide | assumption | omega) only [go_sem, RdS.len hv sl22, RdS.idx hv sl22, R1.intB hv (Ext.pres eB), RdS.cells hv, RdS.len (OS.rd ho) sl22, RdS.idx (OS.rd ho) sl22, R1.intN (OS.rd ho), RdS.cells (OS.rd ho), wrap_id]
   refine hK _ _ ?_
   clear hK K
   refine den_blk ?_
   refine den_region TTok ?_
   intro K hK
   simp -implicitDefEqProofs (disch := first | decide | assumption | omega) only [go_sem, RdS.len hv sl22, RdS.idx hv sl22, R1.intB hv (Ext.pres eB), RdS.cells hv, RdS.len (OS.rd ho) sl22, RdS.idx (OS.rd ho) sl22, R1.intN (OS.rd ho), RdS.cells (OS.rd ho), wrap_id]
   refine hK _ _ ?_
   clear hK K
   refine den_stop ?_
   exact ⟨k + 1, by simp [HasL, puts_at], ⟨eB, by omega, ho8⟩, by omega⟩
  ·try simp only [decide_eq_true_eq, decide_eq_false_iff_not, beq_iff_eq, beq_eq_false_iff_ne, bne_iff_ne, ne_eq, Bool.not_eq_true', Bool.not_eq_false', Bool.and_eq_true, Bool.or_eq_true, bne_eq_false_iff_eq] at c0
   refine den_exit ?_
   refine denX_code ?_
   refine denX_stop ?_
   refine denX_hit ?_
   refine den_seq ?_
   refine den_region TTok ?_
   intro K hK
   simp -implicitDefEqProofs (disch := first | decide | assumption | omega) only [go_sem, RdS.len hv sl22, RdS.idx hv sl22, R1.intB hv (Ext.pres eB), RdS.cells hv, RdS.len (OS.rd ho) sl22, RdS.idx (OS.rd ho) sl22, R1.intN (OS.rd ho), RdS.cells (OS.rd ho), wrap_id]
   refine hK _ _ ?_
   clear hK K
   refine den_ret ?_
   simp (disch := decide) only [resP_1, puts_same, puts_ne]
   rw [fill_end _ _ _ (by omega)] at ho
   exact ⟨_, ho, Fresh.one _, eB⟩

set_option maxRecDepth 100000 in
theorem toSS_ok (v : Value) (R : List (List Int)) (h : Heap) (hv : R2 h v R) (hm : HM2 R) : CallA Try.prog 44 #[v] h fun v h' => ∃ fp, O2 h' v R fp ∧ Fresh h.size fp ∧ Ext h h' := by
 have hml := HM2.len hm
 refine callA_intro TTok (args := [_]) Try.func44 (by kernel_rfl) rfl 23 rfl (by simp) [.tmp 2] rfl ?_
 simp only [idxs, Nat.reduceAdd]
 refine den_seq ?_
 refine den_region TTok ?_
 intro K hK
 simp -implicitDefEqProofs (disch := first | decide | assumption | omega) only [go_sem, RdS.len hv sl27, RdS.idx hv sl27, RdS.cellB hv (HPres.refl _), RdS.cells hv, wrap_id]
 refine hK _ _ ?_
 clear hK K
 refine den_seq ?_
 refine den_region TTok ?_
 intro K hK
 simp -implicitDefEqProofs (disch := first | decide | assumption | omega) only [go_sem, RdS.len hv sl27, RdS.idx hv sl27, RdS.cellB hv (HPres.refl _), RdS.cells hv, wrap_id]
 refine op_make sz27 rfl rfl (by omega) (by omega) O1 [] (fun _ => OS.nil) ?_
 intro v1_2 h1_2 ho1_2 e1_2
 have := Ext.size e1_2
 have eB := e1_2
 try simp -implicitDefEqProofs (disch := first | decide | assumption | omega) only [go_sem, RdS.len hv sl27, RdS.idx hv sl27, RdS.cellB hv (Ext.pres eB), RdS.cells hv, RdS.len (OS.rd ho1_2) sl27, RdS.idx (OS.rd ho1_2) sl27, RdS.cellN (OS.rd ho1_2), RdS.cells (OS.rd ho1_2), wrap_id]
 refine hK _ _ ?_
 clear hK K
 refine den_seq ?_
 refine den_seq ?_
 refine den_region TTok ?_
 intro K hK
 simp -implicitDefEqProofs (disch := first | decide | assumption | omega) only [go_sem, RdS.len hv sl27, RdS.idx hv sl27, RdS.cellB hv (Ext.pres eB), RdS.cells hv, RdS.len (OS.rd ho1_2) sl27, RdS.idx (OS.rd ho1_2) sl27, RdS.cellN (OS.rd ho1_2), RdS.cells (OS.rd ho1_2), wrap_id]
 refine hK _ _ ?_
 clear hK K
 refine den_block ?_
 refine den_sel [4, 0, 3] ?_
 intro env_1
 simp only [go_sem]
 refine den_loopS (σ := Nat) (fun s => [(4, .int .i64 (s : Int))]) (fun s H => Ext h H ∧ s ≤ R.length ∧ ∃ fp, O2 H v1_2 (R.take s ++ List.replicate (R.length - s) []) fp ∧ Fresh h.size fp) (fun s => R.length - s) 0 ?_ ?_
 ·exact ⟨eB, by omega, _, by rw [fill_zero]; simpa using ho1_2, Fresh.one _⟩
 ·rintro k h4 ee3 ⟨eB, hk, fp, ho, hf⟩
  simp only [List.cons_append, List.nil_append]
  have := Ext.size eB
  refine den_seq ?_
  refine den_seq ?_
  refine den_region TTok ?_
  intro K hK
  simp -implicitDefEqProofs (disch := first | decide | assumption | omega) only [go_sem, RdS.len hv sl27, RdS.idx hv sl27, RdS.cellB hv (Ext.pres eB), RdS.cells hv, RdS.len (OS.rd ho) sl27, RdS.idx (OS.rd ho) sl27, RdS.cellN (OS.rd ho), RdS.cells (OS.rd ho), wrap_id]
  refine hK _ _ ?_
  clear hK K
  refine den_cond rfl (fun c0 => ?_) (fun c0 => ?_)
  ·try simp only [decide_eq_true_eq, decide_eq_false_iff_not, beq_iff_eq, beq_eq_false_iff_ne, bne_iff_ne, ne_eq, Bool.not_eq_true', Bool.not_eq_false', Bool.and_eq_true, Bool.or_eq_true, bne_eq_false_iff_eq] at c0
   refine den_skip ?_
   refine den_seq ?_
   refine den_block ?_
   have hlen := fill_len R [] k hk
   refine den_region TTok ?_
   intro K hK
   have hr5 := RdS.rowN hv k (by omega)
   have hlhr5 := RdS.le hr5
   simp -implicitDefEqProofs (disch := first | decide | assumption | omega) only [go_sem, ld22, RdS.len hv sl27, RdS.idx hv sl27, RdS.cellB hv (Ext.pres eB), RdS.cells hv, RdS.len hr5 sl22, RdS.idx hr5 sl22, R1.intB hr5 (Ext.pres eB), RdS.cells hr5, RdS.len (OS.rd ho) sl27, RdS.idx (OS.rd ho) sl27, RdS.cellN (OS.rd ho), RdS.cells (OS.rd ho), wrap_id]
   try simp -implicitDefEqProofs (disch := first | decide | assumption | omega) only [go_sem, RdS.len hv sl27, RdS.idx hv sl27, RdS.cellB hv (Ext.pres eB), RdS.cells hv, RdS.len hr5 sl22, RdS.idx hr5 sl22, R1.intB hr5 (Ext.pres eB), RdS.cells hr5, RdS.len (OS.rd ho) sl27, RdS.idx (OS.rd ho) sl27, RdS.cellN (OS.rd ho), RdS.cells (OS.rd ho), wrap_id]
   have hlt := OS.lt ho
   have hs0 := eB.size
   refine CallA.mono (toS_ok _ _ _ (RdS.pres hr5 (Ext.pres eB)) (HM2.at hm k (by omega))) ?_
   intro v_ h5_6
   rintro ⟨f5_6, ho5_6, hf5_6, e5_6⟩
   replace ho := OS.ext ho e5_6
   have := Ext.size e5_6
   replace eB := Ext.trans eB e5_6
   try simp -implicitDefEqProofs (disch := first | decide | assumption | omega) only [go_sem, RdS.len hv sl27, RdS.idx hv sl27, RdS.cellB hv (Ext.pres eB), RdS.cells hv, RdS.len hr5 sl22, RdS.idx hr5 sl22, R1.intB hr5 (Ext.pres eB), RdS.cells hr5, RdS.len (OS.rd ho) sl27, RdS.idx (OS.rd ho) sl27, RdS.cellN (OS.rd ho), RdS.cells (OS.rd ho), wrap_id]
   refine op_put (j := k) st22 ho hf.nodup (by omega) ho5_6 hf5_6.nodup (Fresh.apart hlt hf5_6) rfl rfl ?_
   intro h8 fp8 ho8 hn8 hs8 c8
   replace eB := Ext.then eB c8 hf.ge
   rw [fill_step R [] default k (by omega)] at ho8
   try simp -implicitDefEqProofs (disch := first | decide | assumption | omega) only [go_sem, RdS.len hv sl27, RdS.idx hv sl27, RdS.cellB hv (Ext.pres eB), RdS.cells hv, RdS.len hr5 sl22, RdS.idx hr5 sl22, R1.intB hr5 (Ext.pres eB), RdS.cells hr5, RdS.len (OS.rd ho) sl27, RdS.idx (OS.rd ho) sl27, RdS.cellN (OS.rd ho), RdS.cells (OS.rd ho), wrap_id]
   refine hK _ _ ?_
   clear hK K
   refine den_blk ?_
   refine den_region TTok ?_
   intro K hK
   simp -implicitDefEqProofs (disch := first | decide | assumption | omega) only [go_sem, RdS.len hv sl27, RdS.idx hv sl27, RdS.cellB hv (Ext.pres eB), RdS.cells hv, RdS.len hr5 sl22, RdS.idx hr5 sl22, R1.intB hr5 (Ext.pres eB), RdS.cells hr5, RdS.len (OS.rd ho) sl27, RdS.idx (OS.rd ho) sl27, RdS.cellN (OS.rd ho), RdS.cells (OS.rd ho), wrap_id]
   refine hK _ _ ?_
   clear hK K
   refine den_stop ?_
   exact ⟨k + 1, by simp [HasL, puts_at], ⟨eB, by omega, fp8, ho8, hf.put hf5_6 hs0 hn8 hs8⟩, by omega⟩
  ·try simp only [decide_eq_true_eq, decide_eq_false_iff_not, beq_iff_eq, beq_eq_false_iff_ne, bne_iff_ne, ne_eq, Bool.not_eq_true', Bool.not_eq_false', Bool.and_eq_true, Bool.or_eq_true, bne_eq_false_iff_eq] at c0
   refine den_exit ?_
   refine denX_code ?_
   refine denX_stop ?_
   refine denX_hit ?_
   refine den_seq ?_
   refine den_region TTok ?_
   intro K hK
   simp -implicitDefEqProofs (disch := first | decide | assumption | omega) only [go_sem, RdS.len hv sl27, RdS.idx hv sl27, RdS.cellB hv (Ext.pres eB), RdS.cells hv, RdS.len (OS.rd ho) sl27, RdS.idx (OS.rd ho) sl27, RdS.cellN (OS.rd ho), RdS.cells (OS.rd ho), wrap_id]
   refine hK _ _ ?_
   clear hK K
   refine den_ret ?_
   simp (disch := decide) only [resP_1, puts_same, puts_ne]
   rw [fill_end _ _ _ (by omega)] at ho
   exact ⟨_, ho, hf, eB⟩

set_option maxRecDepth 100000 in
theorem toSSS_ok (v : Value) (R : List (List (List Int))) (h : Heap) (hv : R3 h v R) (hm : HM3 R) : CallA Try.prog 18 #[v] h fun v h' => ∃ fp, O3 h' v R fp ∧ Fresh h.size fp ∧ Ext h h' := by
 have hml := HM3.len hm
 refine callA_intro TTok (args := [_]) Try.func18 (by kernel_rfl) rfl 23 rfl (by simp) [.tmp 2] rfl ?_
 simp only [idxs, Nat.reduceAdd]
 refine den_seq ?_
 refine den_region TTok ?_
 intro K hK
 simp -implicitDefEqProofs (disch := first | decide | assumption | omega) only [go_sem, RdS.len hv sl23, RdS.idx hv sl23, RdS.cellB hv (HPres.refl _), RdS.cells hv, wrap_id]
 refine hK _ _ ?_
 clear hK K
 refine den_seq ?_
 refine den_region TTok ?_
 intro K hK
 simp -implicitDefEqProofs (disch := first | decide | assumption | omega) only [go_sem, RdS.len hv sl23, RdS.idx hv sl23, RdS.cellB hv (HPres.refl _), RdS.cells hv, wrap_id]
 refine op_make sz23 rfl rfl (by omega) (by omega) O2 [] (fun _ => OS.nil) ?_
 intro v1_2 h1_2 ho1_2 e1_2
 have := Ext.size e1_2
 have eB := e1_2
 try simp -implicitDefEqProofs (disch := first | decide | assumption | omega) only [go_sem, RdS.len hv sl23, RdS.idx hv sl23, RdS.cellB hv (Ext.pres eB), RdS.cells hv, RdS.len (OS.rd ho1_2) sl23, RdS.idx (OS.rd ho1_2) sl23, RdS.cellN (OS.rd ho1_2), RdS.cells (OS.rd ho1_2), wrap_id]
 refine hK _ _ ?_
 clear hK K
 refine den_seq ?_
 refine den_seq ?_
 refine den_region TTok ?_
 intro K hK
 simp -implicitDefEqProofs (disch := first | decide | assumption | omega) only [go_sem, RdS.len hv sl23, RdS.idx hv sl23, RdS.cellB hv (Ext.pres eB), RdS.cells hv, RdS.len (OS.rd ho1_2) sl23, RdS.idx (OS.rd ho1_2) sl23, RdS.cellN (OS.rd ho1_2), RdS.cells (OS.rd ho1_2), wrap_id]
 refine hK _ _ ?_
 clear hK K
 refine den_block ?_
 refine den_sel [4, 0, 3] ?_
 intro env_1
 simp only [go_sem]
 refine den_loopS (σ := Nat) (fun s => [(4, .int .i64 (s : Int))]) (fun s H => Ext h H ∧ s ≤ R.length ∧ ∃ fp, O3 H v1_2 (R.take s ++ List.replicate (R.length - s) []) fp ∧ Fresh h.size fp) (fun s => R.length - s) 0 ?_ ?_
 ·exact ⟨eB, by omega, _, by rw [fill_zero]; simpa using ho1_2, Fresh.one _⟩
 ·rintro k h4 ee3 ⟨eB, hk, fp, ho, hf⟩
  simp only [List.cons_append, List.nil_append]
  have := Ext.size eB
  refine den_seq ?_
  refine den_seq ?_
  refine den_region TTok ?_
  intro K hK
  simp -implicitDefEqProofs (disch := first | decide | assumption | omega) only [go_sem, RdS.len hv sl23, RdS.idx hv sl23, RdS.cellB hv (Ext.pres eB), RdS.cells hv, RdS.len (OS.rd ho) sl23, RdS.idx (OS.rd ho) sl23, RdS.cellN (OS.rd ho), RdS.cells (OS.rd ho), wrap_id]
  refine hK _ _ ?_
  clear hK K
  refine den_cond rfl (fun c0 => ?_) (fun c0 => ?_)
  ·try simp only [decide_eq_true_eq, decide_eq_false_iff_not, beq_iff_eq, beq_eq_false_iff_ne, bne_iff_ne, ne_eq, Bool.not_eq_true', Bool.not_eq_false', Bool.and_eq_true, Bool.or_eq_true, bne_eq_false_iff_eq] at c0
   refine den_skip ?_
   refine den_seq ?_
   refine den_block ?_
   have hlen := fill_len R [] k hk
   refine den_region TTok ?_
   intro K hK
   have hr5 := RdS.rowN hv k (by omega)
   have hlhr5 := RdS.le hr5
   simp -implicitDefEqProofs (disch := first | decide | assumption | omega) only [go_sem, ld27, RdS.len hv sl23, RdS.idx hv sl23, RdS.cellB hv (Ext.pres eB), RdS.cells hv, RdS.len hr5 sl27, RdS.idx hr5 sl27, RdS.cellB hr5 (Ext.pres eB), RdS.cells hr5, RdS.len (OS.rd ho) sl23, RdS.idx (OS.rd ho) sl23, RdS.cellN (OS.rd ho), RdS.cells (OS.rd ho), wrap_id]
   try simp -implicitDefEqProofs (disch := first | decide | assumption | omega) only [go_sem, RdS.len hv sl23, RdS.idx hv sl23, RdS.cellB hv (Ext.pres eB), RdS.cells hv, RdS.len hr5 sl27, RdS.idx hr5 sl27, RdS.cellB hr5 (Ext.pres eB), RdS.cells hr5, RdS.len (OS.rd ho) sl23, RdS.idx (OS.rd ho) sl23, RdS.cellN (OS.rd ho), RdS.cells (OS.rd ho), wrap_id]
   have hlt := OS.lt ho
   have hs0 := eB.size
   refine CallA.mono (toSS_ok _ _ _ (RdS.pres hr5 (Ext.pres eB)) (HM3.at hm k (by omega))) ?_
   intro v_ h5_6
   rintro ⟨f5_6, ho5_6, hf5_6, e5_6⟩
   replace ho := OS.ext ho e5_6
   have := Ext.size e5_6
   replace eB := Ext.trans eB e5_6
   try simp -implicitDefEqProofs (disch := first | decide | assumption | omega) only [go_sem, RdS.len hv sl23, RdS.idx hv sl23, RdS.cellB hv (Ext.pres eB), RdS.cells hv, RdS.len hr5 sl27, RdS.idx hr5 sl27, RdS.cellB hr5 (Ext.pres eB), RdS.cells hr5, RdS.len (OS.rd ho) sl23, RdS.idx (OS.rd ho) sl23, RdS.cellN (OS.rd ho), RdS.cells (OS.rd ho), wrap_id]
   refine op_put (j := k) st27 ho hf.nodup (by omega) ho5_6 hf5_6.nodup (Fresh.apart hlt hf5_6) rfl rfl ?_
   intro h8 fp8 ho8 hn8 hs8 c8
   replace eB := Ext.then eB c8 hf.ge
   rw [fill_step R [] default k (by omega)] at ho8
   try simp -implicitDefEqProofs (disch := first | decide | assumption | omega) only [go_sem, RdS.len hv sl23, RdS.idx hv sl23, RdS.cellB hv (Ext.pres eB), RdS.cells hv, RdS.len hr5 sl27, RdS.idx hr5 sl27, RdS.cellB hr5 (Ext.pres eB), RdS.cells hr5, RdS.len (OS.rd ho) sl23, RdS.idx (OS.rd ho) sl23, RdS.cellN (OS.rd ho), RdS.cells (OS.rd ho), wrap_id]
   refine hK _ _ ?_
   clear hK K
   refine den_blk ?_
   refine den_region TTok ?_
   intro K hK
   simp -implicitDefEqProofs (disch := first | decide | assumption | omega) only [go_sem, RdS.len hv sl23, RdS.idx hv sl23, RdS.cellB hv (Ext.pres eB), RdS.cells hv, RdS.len hr5 sl27, RdS.idx hr5 sl27, RdS.cellB hr5 (Ext.pres eB), RdS.cells hr5, RdS.len (OS.rd ho) sl23, RdS.idx (OS.rd ho) sl23, RdS.cellN (OS.rd ho), RdS.cells (OS.rd ho), wrap_id]
   refine hK _ _ ?_
   clear hK K
   refine den_stop ?_
   exact ⟨k + 1, by simp [HasL, puts_at], ⟨eB, by omega, fp8, ho8, hf.put hf5_6 hs0 hn8 hs8⟩, by omega⟩
  ·try simp only [decide_eq_true_eq, decide_eq_false_iff_not, beq_iff_eq, beq_eq_false_iff_ne, bne_iff_ne, ne_eq, Bool.not_eq_true', Bool.not_eq_false', Bool.and_eq_true, Bool.or_eq_true, bne_eq_false_iff_eq] at c0
   refine den_exit ?_
   refine denX_code ?_
   refine denX_stop ?_
   refine denX_hit ?_
   refine den_seq ?_
   refine den_region TTok ?_
   intro K hK
   simp -implicitDefEqProofs (disch := first | decide | assumption | omega) only [go_sem, RdS.len hv sl23, RdS.idx hv sl23, RdS.cellB hv (Ext.pres eB), RdS.cells hv, RdS.len (OS.rd ho) sl23, RdS.idx (OS.rd ho) sl23, RdS.cellN (OS.rd ho), RdS.cells (OS.rd ho), wrap_id]
   refine hK _ _ ?_
   clear hK K
   refine den_ret ?_
   simp (disch := decide) only [resP_1, puts_same, puts_ne]
   rw [fill_end _ _ _ (by omega)] at ho
   exact ⟨_, ho, hf, eB⟩
end Go.Proofs.Ytkdnnfkdgmblgaa

namespace Go.Proofs.Ytkdnnfkdgmblgaa
open Go
def szC (X : Cx) (l : Int) : Int := if szI X.dims l < 0 then -1 else if sz3 X.maps (szI X.dims l) < 0 then -1 else sz3 X.maps (szI X.dims l)
theorem szC_le (X : Cx) (l : Int) (h : 0 ≤ l) : -1 ≤ szC X l ∧ szC X l ≤ l := by
 unfold szC
 have h1 := szI_le X.dims l h
 split
 ·omega
 ·have h2 := sz3_le X.maps (szI X.dims l) (by omega)
  split <;> omega
def eqC (X Y : Cx) : Bool := decide (X.p = Y.p) && (decide (X.dims = Y.dims) && decide (X.maps = Y.maps))
theorem eqC_self (X : Cx) : eqC X X = true := by simp [eqC]
def HMC (X : Cx) : Prop := HM1 X.dims ∧ HM3 X.maps

set_option maxRecDepth 100000 in
theorem szC_ok (v : Value) (X : Cx) (left : Int) (h : Heap) (hv : RC h v X) (h0 : 0 ≤ left) (h1 : left ≤ 1048576) : CallA Try.prog 4 #[v, .int .i64 left] h fun v h' => v = .int .i64 (szC X left) ∧ Ext h h' := by
 obtain ⟨vd, vm, rfl, hd, hm⟩ := hv
 have hle := szI_le X.dims left h0
 refine callA_intro TTok (args := [_, _]) Try.func4 (by kernel_rfl) rfl 18 rfl (by simp) [.tmp 4] rfl ?_
 simp only [idxs, Nat.reduceAdd]
 refine den_seq ?_
 refine den_region TTok ?_
 intro K hK
 simp -implicitDefEqProofs (disch := first | decide | assumption | omega) only [go_sem, RdS.len hd sl22, RdS.idx hd sl22, R1.intB hd (HPres.refl _), RdS.cells hd, RdS.len hm sl23, RdS.idx hm sl23, RdS.cellB hm (HPres.refl _), RdS.cells hm]
 refine op_box (cs := #[.int .i64 (X.p), vd, vm]) rfl ?_
 intro h0_0 e0_0 hb0_0 z0_0
 replace hd := RdS.pres hd (Ext.pres e0_0)
 replace hm := RdS.pres hm (Ext.pres e0_0)
 try simp -implicitDefEqProofs (disch := first | decide | assumption | omega) only [go_sem, RdS.len hd sl22, RdS.idx hd sl22, R1.intB hd (HPres.refl _), RdS.cells hd, RdS.len hm sl23, RdS.idx hm sl23, RdS.cellB hm (HPres.refl _), RdS.cells hm, BoxAt.cell hb0_0]
 refine hK _ _ ?_
 clear hK K
 refine den_seq ?_
 refine den_region TTok ?_
 intro K hK
 simp -implicitDefEqProofs (disch := first | decide | assumption | omega) only [go_sem, fa25_1, ld22, RdS.len hd sl22, RdS.idx hd sl22, R1.intB hd (HPres.refl _), RdS.cells hd, RdS.len hm sl23, RdS.idx hm sl23, RdS.cellB hm (HPres.refl _), RdS.cells hm, BoxAt.cell hb0_0]
 try simp -implicitDefEqProofs (disch := first | decide | assumption | omega) only [go_sem, RdS.len hd sl22, RdS.idx hd sl22, R1.intB hd (HPres.refl _), RdS.cells hd, RdS.len hm sl23, RdS.idx hm sl23, RdS.cellB hm (HPres.refl _), RdS.cells hm, BoxAt.cell hb0_0]
 refine CallA.pure (szS_ok _ _ _ _ hd (by omega) (by omega)) ?_
 try simp -implicitDefEqProofs (disch := first | decide | assumption | omega) only [go_sem, RdS.len hd sl22, RdS.idx hd sl22, R1.intB hd (HPres.refl _), RdS.cells hd, RdS.len hm sl23, RdS.idx hm sl23, RdS.cellB hm (HPres.refl _), RdS.cells hm, BoxAt.cell hb0_0]
 refine hK _ _ ?_
 clear hK K
 refine den_seq ?_
 refine den_seq ?_
 refine den_region TTok ?_
 intro K hK
 simp -implicitDefEqProofs (disch := first | decide | assumption | omega) only [go_sem, RdS.len hd sl22, RdS.idx hd sl22, R1.intB hd (HPres.refl _), RdS.cells hd, RdS.len hm sl23, RdS.idx hm sl23, RdS.cellB hm (HPres.refl _), RdS.cells hm, BoxAt.cell hb0_0]
 refine hK _ _ ?_
 clear hK K
 refine den_cond rfl (fun c0 => ?_) (fun c0 => ?_)
 ·try simp only [decide_eq_true_eq, decide_eq_false_iff_not, beq_iff_eq, beq_eq_false_iff_ne, bne_iff_ne, ne_eq, Bool.not_eq_true', Bool.not_eq_false', Bool.and_eq_true, Bool.or_eq_true, bne_eq_false_iff_eq] at c0
  refine den_seq ?_
  refine den_region TTok ?_
  intro K hK
  simp -implicitDefEqProofs (disch := first | decide | assumption | omega) only [go_sem, RdS.len hd sl22, RdS.idx hd sl22, R1.intB hd (HPres.refl _), RdS.cells hd, RdS.len hm sl23, RdS.idx hm sl23, RdS.cellB hm (HPres.refl _), RdS.cells hm, BoxAt.cell hb0_0]
  refine hK _ _ ?_
  clear hK K
  refine den_ret ?_
  simp (disch := decide) only [resP_1, puts_same, puts_ne]
  exact ⟨vint (by rw [szC, if_pos c0]), e0_0⟩
 ·try simp only [decide_eq_true_eq, decide_eq_false_iff_not, beq_iff_eq, beq_eq_false_iff_ne, bne_iff_ne, ne_eq, Bool.not_eq_true', Bool.not_eq_false', Bool.and_eq_true, Bool.or_eq_true, bne_eq_false_iff_eq] at c0
  refine den_skip ?_
  refine den_seq ?_
  refine den_region TTok ?_
  intro K hK
  simp -implicitDefEqProofs (disch := first | decide | assumption | omega) only [go_sem, fa25_2, ld23, RdS.len hd sl22, RdS.idx hd sl22, R1.intB hd (HPres.refl _), RdS.cells hd, RdS.len hm sl23, RdS.idx hm sl23, RdS.cellB hm (HPres.refl _), RdS.cells hm, BoxAt.cell hb0_0]
  try simp -implicitDefEqProofs (disch := first | decide | assumption | omega) only [go_sem, RdS.len hd sl22, RdS.idx hd sl22, R1.intB hd (HPres.refl _), RdS.cells hd, RdS.len hm sl23, RdS.idx hm sl23, RdS.cellB hm (HPres.refl _), RdS.cells hm, BoxAt.cell hb0_0]
  refine CallA.pure (szSSS_ok _ _ _ _ hm (by omega) (by omega)) ?_
  try simp -implicitDefEqProofs (disch := first | decide | assumption | omega) only [go_sem, RdS.len hd sl22, RdS.idx hd sl22, R1.intB hd (HPres.refl _), RdS.cells hd, RdS.len hm sl23, RdS.idx hm sl23, RdS.cellB hm (HPres.refl _), RdS.cells hm, BoxAt.cell hb0_0]
  refine hK _ _ ?_
  clear hK K
  refine den_seq ?_
  refine den_seq ?_
  refine den_region TTok ?_
  intro K hK
  simp -implicitDefEqProofs (disch := first | decide | assumption | omega) only [go_sem, RdS.len hd sl22, RdS.idx hd sl22, R1.intB hd (HPres.refl _), RdS.cells hd, RdS.len hm sl23, RdS.idx hm sl23, RdS.cellB hm (HPres.refl _), RdS.cells hm, BoxAt.cell hb0_0]
  refine hK _ _ ?_
  clear hK K
  refine den_cond rfl (fun c1 => ?_) (fun c1 => ?_)
  ·try simp only [decide_eq_true_eq, decide_eq_false_iff_not, beq_iff_eq, beq_eq_false_iff_ne, bne_iff_ne, ne_eq, Bool.not_eq_true', Bool.not_eq_false', Bool.and_eq_true, Bool.or_eq_true, bne_eq_false_iff_eq] at c1
   refine den_seq ?_
   refine den_region TTok ?_
   intro K hK
   simp -implicitDefEqProofs (disch := first | decide | assumption | omega) only [go_sem, RdS.len hd sl22, RdS.idx hd sl22, R1.intB hd (HPres.refl _), RdS.cells hd, RdS.len hm sl23, RdS.idx hm sl23, RdS.cellB hm (HPres.refl _), RdS.cells hm, BoxAt.cell hb0_0]
   refine hK _ _ ?_
   clear hK K
   refine den_ret ?_
   simp (disch := decide) only [resP_1, puts_same, puts_ne]
   exact ⟨vint (by rw [szC, if_neg c0, if_pos c1]), e0_0⟩
  ·try simp only [decide_eq_true_eq, decide_eq_false_iff_not, beq_iff_eq, beq_eq_false_iff_ne, bne_iff_ne, ne_eq, Bool.not_eq_true', Bool.not_eq_false', Bool.and_eq_true, Bool.or_eq_true, bne_eq_false_iff_eq] at c1
   refine den_skip ?_
   refine den_seq ?_
   refine den_region TTok ?_
   intro K hK
   simp -implicitDefEqProofs (disch := first | decide | assumption | omega) only [go_sem, RdS.len hd sl22, RdS.idx hd sl22, R1.intB hd (HPres.refl _), RdS.cells hd, RdS.len hm sl23, RdS.idx hm sl23, RdS.cellB hm (HPres.refl _), RdS.cells hm, BoxAt.cell hb0_0]
   refine hK _ _ ?_
   clear hK K
   refine den_ret ?_
   simp (disch := decide) only [resP_1, puts_same, puts_ne]
   exact ⟨vint (by rw [szC, if_neg c0, if_neg c1]), e0_0⟩

set_option maxRecDepth 100000 in
theorem toC_ok (v : Value) (X : Cx) (h : Heap) (hv : RC h v X) (hM : HMC X) : CallA Try.prog 6 #[v] h fun v h' => ∃ vd vm f1 f2, v = .agg #[.int .i64 X.p, vd, vm] ∧ O1 h' vd X.dims f1 ∧ O3 h' vm X.maps f2 ∧ Fresh h.size (f1 ++ f2) ∧ Ext h h' := by
 obtain ⟨vd, vm, rfl, hd, hm⟩ := hv
 refine callA_intro TTok (args := [_]) Try.func6 (by kernel_rfl) rfl 16 rfl (by simp) [.cell 2 33] rfl ?_
 simp only [idxs, Nat.reduceAdd]
 refine den_seq ?_
 refine den_region TTok ?_
 intro K hK
 simp -implicitDefEqProofs (disch := first | decide | assumption | omega) only [go_sem, RdS.len hd sl22, RdS.idx hd sl22, R1.intB hd (HPres.refl _), RdS.cells hd, RdS.len hm sl23, RdS.idx hm sl23, RdS.cellB hm (HPres.refl _), RdS.cells hm]
 refine op_box (cs := #[.int .i64 (X.p), vd, vm]) rfl ?_
 intro h0_0 e0_0 hb0_0 z0_0
 replace hd := RdS.pres hd (Ext.pres e0_0)
 replace hm := RdS.pres hm (Ext.pres e0_0)
 try simp -implicitDefEqProofs (disch := first | decide | assumption | omega) only [go_sem, RdS.len hd sl22, RdS.idx hd sl22, R1.intB hd (HPres.refl _), RdS.cells hd, RdS.len hm sl23, RdS.idx hm sl23, RdS.cellB hm (HPres.refl _), RdS.cells hm, BoxAt.cell hb0_0]
 refine op_alloc (cs := #[.int .i64 0, .slice none 0 0, .slice none 0 0]) (by kernel_rfl) ?_
 intro h0_1 e0_1 hb0_1 z0_1
 have := Ext.size e0_1
 have eB := e0_1
 try simp -implicitDefEqProofs (disch := first | decide | assumption | omega) only [go_sem, RdS.len hd sl22, RdS.idx hd sl22, R1.intB hd (Ext.pres eB), RdS.cells hd, RdS.len hm sl23, RdS.idx hm sl23, RdS.cellB hm (Ext.pres eB), RdS.cells hm, BoxAt.cellB hb0_0 eB, BoxAt.cell hb0_1]
 refine hK _ _ ?_
 clear hK K
 refine den_seq ?_
 refine den_region TTok ?_
 intro K hK
 simp -implicitDefEqProofs (disch := first | decide | assumption | omega) only [go_sem, RdS.len hd sl22, RdS.idx hd sl22, R1.intB hd (Ext.pres eB), RdS.cells hd, RdS.len hm sl23, RdS.idx hm sl23, RdS.cellB hm (Ext.pres eB), RdS.cells hm, BoxAt.cellB hb0_0 eB, BoxAt.cell hb0_1]
 refine op_alloc (cs := #[.int .i64 0, .slice none 0 0, .slice none 0 0]) (by kernel_rfl) ?_
 intro h1_0 e1_0 hb1_0 z1_0
 replace hb0_1 := BoxAt.ext hb0_1 e1_0
 have := Ext.size e1_0
 replace eB := Ext.trans eB e1_0
 try simp -implicitDefEqProofs (disch := first | decide | assumption | omega) only [go_sem, RdS.len hd sl22, RdS.idx hd sl22, R1.intB hd (Ext.pres eB), RdS.cells hd, RdS.len hm sl23, RdS.idx hm sl23, RdS.cellB hm (Ext.pres eB), RdS.cells hm, BoxAt.cellB hb0_0 eB, BoxAt.cell hb0_1, BoxAt.cell hb1_0]
 refine hK _ _ ?_
 clear hK K
 refine den_seq ?_
 refine den_region TTok ?_
 intro K hK
 simp -implicitDefEqProofs (disch := first | decide | assumption | omega) only [go_sem, fa33_0, fa25_0, ld2, RdS.len hd sl22, RdS.idx hd sl22, R1.intB hd (Ext.pres eB), RdS.cells hd, RdS.len hm sl23, RdS.idx hm sl23, RdS.cellB hm (Ext.pres eB), RdS.cells hm, BoxAt.cellB hb0_0 eB, BoxAt.cell hb0_1, BoxAt.cell hb1_0]
 refine op_storeB (cs' := #[.int .i64 (X.p), .slice none 0 0, .slice none 0 0]) st2 hb1_0 rfl rfl rfl (by simp) (allOne_mem (l := [.int .i64 (X.p)]) ⟨rfl, trivial⟩) rfl ?_
 intro h2_3 hb1_0 c2_3
 replace hb0_1 := BoxAt.chg hb0_1 c2_3 (by simp; omega)
 have := c2_3.size
 replace eB := Ext.then eB c2_3 (fun b hb => by simp at hb; omega)
 try simp -implicitDefEqProofs (disch := first | decide | assumption | omega) only [go_sem, RdS.len hd sl22, RdS.idx hd sl22, R1.intB hd (Ext.pres eB), RdS.cells hd, RdS.len hm sl23, RdS.idx hm sl23, RdS.cellB hm (Ext.pres eB), RdS.cells hm, BoxAt.cellB hb0_0 eB, BoxAt.cell hb0_1, BoxAt.cell hb1_0]
 refine hK _ _ ?_
 clear hK K
 refine den_seq ?_
 refine den_region TTok ?_
 intro K hK
 simp -implicitDefEqProofs (disch := first | decide | assumption | omega) only [go_sem, fa25_1, ld22, RdS.len hd sl22, RdS.idx hd sl22, R1.intB hd (Ext.pres eB), RdS.cells hd, RdS.len hm sl23, RdS.idx hm sl23, RdS.cellB hm (Ext.pres eB), RdS.cells hm, BoxAt.cellB hb0_0 eB, BoxAt.cell hb0_1, BoxAt.cell hb1_0]
 try simp -implicitDefEqProofs (disch := first | decide | assumption | omega) only [go_sem, RdS.len hd sl22, RdS.idx hd sl22, R1.intB hd (Ext.pres eB), RdS.cells hd, RdS.len hm sl23, RdS.idx hm sl23, RdS.cellB hm (Ext.pres eB), RdS.cells hm, BoxAt.cellB hb0_0 eB, BoxAt.cell hb0_1, BoxAt.cell hb1_0]
 refine CallA.mono (toS_ok _ _ _ (RdS.pres hd (Ext.pres eB)) hM.1) ?_
 intro v3_2 h3_2
 rintro ⟨f3_2, ho3_2, hf3_2, e3_2⟩
 replace hb0_1 := BoxAt.ext hb0_1 e3_2
 replace hb1_0 := BoxAt.ext hb1_0 e3_2
 have := Ext.size e3_2
 replace eB := Ext.trans eB e3_2
 have hlho3_2 := OS.lt ho3_2
 try simp -implicitDefEqProofs (disch := first | decide | assumption | omega) only [go_sem, fa33_1, RdS.len hd sl22, RdS.idx hd sl22, R1.intB hd (Ext.pres eB), RdS.cells hd, RdS.len hm sl23, RdS.idx hm sl23, RdS.cellB hm (Ext.pres eB), RdS.cells hm, RdS.len (OS.rd ho3_2) sl22, RdS.idx (OS.rd ho3_2) sl22, R1.intN (OS.rd ho3_2), RdS.cells (OS.rd ho3_2), BoxAt.cellB hb0_0 eB, BoxAt.cell hb0_1, BoxAt.cell hb1_0]
 refine op_storeB (cs' := #[.int .i64 (X.p), v3_2, .slice none 0 0]) st22 hb1_0 rfl (OS.one ho3_2).2 rfl (by simp) (allOne_mem (l := [v3_2]) ⟨(OS.one ho3_2).1, trivial⟩) rfl ?_
 intro h3_4 hb1_0 c3_4
 replace ho3_2 := OS.chg ho3_2 c3_4 (fun b hb hm => by simp at hm; have := hf3_2.ge b hb; have := hlho3_2 b hb; omega)
 replace hb0_1 := BoxAt.chg hb0_1 c3_4 (by simp; omega)
 have := c3_4.size
 replace eB := Ext.then eB c3_4 (fun b hb => by simp at hb; omega)
 try simp -implicitDefEqProofs (disch := first | decide | assumption | omega) only [go_sem, RdS.len hd sl22, RdS.idx hd sl22, R1.intB hd (Ext.pres eB), RdS.cells hd, RdS.len hm sl23, RdS.idx hm sl23, RdS.cellB hm (Ext.pres eB), RdS.cells hm, RdS.len (OS.rd ho3_2) sl22, RdS.idx (OS.rd ho3_2) sl22, R1.intN (OS.rd ho3_2), RdS.cells (OS.rd ho3_2), BoxAt.cellB hb0_0 eB, BoxAt.cell hb0_1, BoxAt.cell hb1_0]
 refine hK _ _ ?_
 clear hK K
 refine den_seq ?_
 refine den_region TTok ?_
 intro K hK
 simp -implicitDefEqProofs (disch := first | decide | assumption | omega) only [go_sem, fa25_2, ld23, RdS.len hd sl22, RdS.idx hd sl22, R1.intB hd (Ext.pres eB), RdS.cells hd, RdS.len hm sl23, RdS.idx hm sl23, RdS.cellB hm (Ext.pres eB), RdS.cells hm, RdS.len (OS.rd ho3_2) sl22, RdS.idx (OS.rd ho3_2) sl22, R1.intN (OS.rd ho3_2), RdS.cells (OS.rd ho3_2), BoxAt.cellB hb0_0 eB, BoxAt.cell hb0_1, BoxAt.cell hb1_0]
 try simp -implicitDefEqProofs (disch := first | decide | assumption | omega) only [go_sem, RdS.len hd sl22, RdS.idx hd sl22, R1.intB hd (Ext.pres eB), RdS.cells hd, RdS.len hm sl23, RdS.idx hm sl23, RdS.cellB hm (Ext.pres eB), RdS.cells hm, RdS.len (OS.rd ho3_2) sl22, RdS.idx (OS.rd ho3_2) sl22, R1.intN (OS.rd ho3_2), RdS.cells (OS.rd ho3_2), BoxAt.cellB hb0_0 eB, BoxAt.cell hb0_1, BoxAt.cell hb1_0]
 refine CallA.mono (toSSS_ok _ _ _ (RdS.pres hm (Ext.pres eB)) hM.2) ?_
 intro v4_2 h4_2
 rintro ⟨f4_2, ho4_2, hf4_2, e4_2⟩
 replace ho3_2 := OS.ext ho3_2 e4_2
 replace hb0_1 := BoxAt.ext hb0_1 e4_2
 replace hb1_0 := BoxAt.ext hb1_0 e4_2
 have := Ext.size e4_2
 replace eB := Ext.trans eB e4_2
 have hlho4_2 := OS.lt ho4_2
 try simp -implicitDefEqProofs (disch := first | decide | assumption | omega) only [go_sem, fa33_2, RdS.len hd sl22, RdS.idx hd sl22, R1.intB hd (Ext.pres eB), RdS.cells hd, RdS.len hm sl23, RdS.idx hm sl23, RdS.cellB hm (Ext.pres eB), RdS.cells hm, RdS.len (OS.rd ho3_2) sl22, RdS.idx (OS.rd ho3_2) sl22, R1.intN (OS.rd ho3_2), RdS.cells (OS.rd ho3_2), RdS.len (OS.rd ho4_2) sl23, RdS.idx (OS.rd ho4_2) sl23, RdS.cellN (OS.rd ho4_2), RdS.cells (OS.rd ho4_2), BoxAt.cellB hb0_0 eB, BoxAt.cell hb0_1, BoxAt.cell hb1_0]
 refine op_storeB (cs' := #[.int .i64 (X.p), v3_2, v4_2]) st23 hb1_0 rfl (OS.one ho4_2).2 rfl (by simp) (allOne_mem (l := [v4_2]) ⟨(OS.one ho4_2).1, trivial⟩) rfl ?_
 intro h4_4 hb1_0 c4_4
 replace ho3_2 := OS.chg ho3_2 c4_4 (fun b hb hm => by simp at hm; have := hf3_2.ge b hb; have := hlho3_2 b hb; omega)
 replace ho4_2 := OS.chg ho4_2 c4_4 (fun b hb hm => by simp at hm; have := hf4_2.ge b hb; have := hlho4_2 b hb; omega)
 replace hb0_1 := BoxAt.chg hb0_1 c4_4 (by simp; omega)
 have := c4_4.size
 replace eB := Ext.then eB c4_4 (fun b hb => by simp at hb; omega)
 try simp -implicitDefEqProofs (disch := first | decide | assumption | omega) only [go_sem, RdS.len hd sl22, RdS.idx hd sl22, R1.intB hd (Ext.pres eB), RdS.cells hd, RdS.len hm sl23, RdS.idx hm sl23, RdS.cellB hm (Ext.pres eB), RdS.cells hm, RdS.len (OS.rd ho3_2) sl22, RdS.idx (OS.rd ho3_2) sl22, R1.intN (OS.rd ho3_2), RdS.cells (OS.rd ho3_2), RdS.len (OS.rd ho4_2) sl23, RdS.idx (OS.rd ho4_2) sl23, RdS.cellN (OS.rd ho4_2), RdS.cells (OS.rd ho4_2), BoxAt.cellB hb0_0 eB, BoxAt.cell hb0_1, BoxAt.cell hb1_0]
 refine hK _ _ ?_
 clear hK K
 refine den_seq ?_
 refine den_region TTok ?_
 intro K hK
 simp -implicitDefEqProofs (disch := first | decide | assumption | omega) only [go_sem, ld33, RdS.len hd sl22, RdS.idx hd sl22, R1.intB hd (Ext.pres eB), RdS.cells hd, RdS.len hm sl23, RdS.idx hm sl23, RdS.cellB hm (Ext.pres eB), RdS.cells hm, RdS.len (OS.rd ho3_2) sl22, RdS.idx (OS.rd ho3_2) sl22, R1.intN (OS.rd ho3_2), RdS.cells (OS.rd ho3_2), RdS.len (OS.rd ho4_2) sl23, RdS.idx (OS.rd ho4_2) sl23, RdS.cellN (OS.rd ho4_2), RdS.cells (OS.rd ho4_2), BoxAt.cellB hb0_0 eB, BoxAt.cell hb0_1, BoxAt.cell hb1_0]
 refine op_storeB (cs' := #[.int .i64 (X.p), v3_2, v4_2]) st33 hb0_1 rfl rfl rfl (by simp) (allOne_mem (l := [.int .i64 (X.p), v3_2, v4_2]) ⟨rfl, (OS.one ho3_2).1, (OS.one ho4_2).1, trivial⟩) rfl ?_
 intro h5_1 hb0_1 c5_1
 replace ho3_2 := OS.chg ho3_2 c5_1 (fun b hb hm => by simp at hm; have := hf3_2.ge b hb; have := hlho3_2 b hb; omega)
 replace ho4_2 := OS.chg ho4_2 c5_1 (fun b hb hm => by simp at hm; have := hf4_2.ge b hb; have := hlho4_2 b hb; omega)
 replace hb1_0 := BoxAt.chg hb1_0 c5_1 (by simp; omega)
 have := c5_1.size
 replace eB := Ext.then eB c5_1 (fun b hb => by simp at hb; omega)
 try simp -implicitDefEqProofs (disch := first | decide | assumption | omega) only [go_sem, RdS.len hd sl22, RdS.idx hd sl22, R1.intB hd (Ext.pres eB), RdS.cells hd, RdS.len hm sl23, RdS.idx hm sl23, RdS.cellB hm (Ext.pres eB), RdS.cells hm, RdS.len (OS.rd ho3_2) sl22, RdS.idx (OS.rd ho3_2) sl22, R1.intN (OS.rd ho3_2), RdS.cells (OS.rd ho3_2), RdS.len (OS.rd ho4_2) sl23, RdS.idx (OS.rd ho4_2) sl23, RdS.cellN (OS.rd ho4_2), RdS.cells (OS.rd ho4_2), BoxAt.cellB hb0_0 eB, BoxAt.cell hb0_1, BoxAt.cell hb1_0]
 refine hK _ _ ?_
 clear hK K
 refine den_ret ?_
 simp -implicitDefEqProofs (disch := first | decide | assumption | omega) only [go_sem, RdS.len hd sl22, RdS.idx hd sl22, R1.intB hd (Ext.pres eB), RdS.cells hd, RdS.len hm sl23, RdS.idx hm sl23, RdS.cellB hm (Ext.pres eB), RdS.cells hm, RdS.len (OS.rd ho3_2) sl22, RdS.idx (OS.rd ho3_2) sl22, R1.intN (OS.rd ho3_2), RdS.cells (OS.rd ho3_2), RdS.len (OS.rd ho4_2) sl23, RdS.idx (OS.rd ho4_2) sl23, RdS.cellN (OS.rd ho4_2), RdS.cells (OS.rd ho4_2), BoxAt.cellB hb0_0 eB, BoxAt.cell hb0_1, BoxAt.cell hb1_0, resP_c1, ld33]
 exact ⟨_, _, _, _, rfl, ho3_2, ho4_2, Fresh.append (hf3_2.mono (by omega)) (fun b hb => by have := hlho3_2 b hb; omega) (hf4_2.mono (by omega)) (by omega), (Ext.trans e0_0 eB)⟩

set_option maxRecDepth 100000 in
theorem eqS_ok (v w : Value) (xs ys : List Int) (h : Heap) (hv : R1 h v xs) (hw : R1 h w ys) : CallA Try.prog 27 #[v, w] h fun v h' => v = .bool (decide (xs = ys)) ∧ h' = h := by
 have hle := RdS.le hv
 refine callA_intro TTok (args := [_, _]) Try.func27 (by kernel_rfl) rfl 26 rfl (by simp) [.tmp 4] rfl ?_
 simp only [idxs, Nat.reduceAdd]
 refine den_seq ?_
 refine den_region TTok ?_
 intro K hK
 simp -implicitDefEqProofs (disch := first | decide | assumption | omega) only [go_sem, RdS.len hv sl22, RdS.idx hv sl22, R1.intB hv (HPres.refl _), RdS.cells hv, RdS.len hw sl22, RdS.idx hw sl22, R1.intB hw (HPres.refl _), RdS.cells hw, wrap_id]
 refine hK _ _ ?_
 clear hK K
 refine den_seq ?_
 refine den_seq ?_
 refine den_region TTok ?_
 intro K hK
 simp -implicitDefEqProofs (disch := first | decide | assumption | omega) only [go_sem, RdS.len hv sl22, RdS.idx hv sl22, R1.intB hv (HPres.refl _), RdS.cells hv, RdS.len hw sl22, RdS.idx hw sl22, R1.intB hw (HPres.refl _), RdS.cells hw, wrap_id]
 refine hK _ _ ?_
 clear hK K
 refine den_cond rfl (fun c0 => ?_) (fun c0 => ?_)
 ·try simp only [decide_eq_true_eq, decide_eq_false_iff_not, beq_iff_eq, beq_eq_false_iff_ne, bne_iff_ne, ne_eq, Bool.not_eq_true', Bool.not_eq_false', Bool.and_eq_true, Bool.or_eq_true, bne_eq_false_iff_eq] at c0
  refine den_seq ?_
  refine den_region TTok ?_
  intro K hK
  simp -implicitDefEqProofs (disch := first | decide | assumption | omega) only [go_sem, RdS.len hv sl22, RdS.idx hv sl22, R1.intB hv (HPres.refl _), RdS.cells hv, RdS.len hw sl22, RdS.idx hw sl22, R1.intB hw (HPres.refl _), RdS.cells hw, wrap_id]
  refine hK _ _ ?_
  clear hK K
  refine den_ret ?_
  simp (disch := decide) only [resP_1, puts_same, puts_ne]
  exact ⟨vbool (by simp; intro he; rw [he] at c0; omega), trivial⟩
 ·try simp only [decide_eq_true_eq, decide_eq_false_iff_not, beq_iff_eq, beq_eq_false_iff_ne, bne_iff_ne, ne_eq, Bool.not_eq_true', Bool.not_eq_false', Bool.and_eq_true, Bool.or_eq_true, bne_eq_false_iff_eq] at c0
  refine den_skip ?_
  refine den_seq ?_
  refine den_seq ?_
  refine den_region TTok ?_
  intro K hK
  simp -implicitDefEqProofs (disch := first | decide | assumption | omega) only [go_sem, RdS.len hv sl22, RdS.idx hv sl22, R1.intB hv (HPres.refl _), RdS.cells hv, RdS.len hw sl22, RdS.idx hw sl22, R1.intB hw (HPres.refl _), RdS.cells hw, wrap_id]
  refine hK _ _ ?_
  clear hK K
  refine den_block ?_
  refine den_sel [5, 0, 1] ?_
  intro env_1
  simp only [go_sem]
  refine den_loopP (σ := Nat) (fun s => [(5, .int .i64 (s : Int))]) (fun s => s ≤ xs.length ∧ xs.take s = ys.take s) (fun s => xs.length - s) 0 ?_ ?_
  ·exact ⟨rfl, by omega, by simp⟩
  ·rintro k ee3 ⟨hk, heq⟩
   simp only [List.cons_append, List.nil_append]
   refine den_seq ?_
   refine den_seq ?_
   refine den_region TTok ?_
   intro K hK
   simp -implicitDefEqProofs (disch := first | decide | assumption | omega) only [go_sem, RdS.len hv sl22, RdS.idx hv sl22, R1.intB hv (HPres.refl _), RdS.cells hv, RdS.len hw sl22, RdS.idx hw sl22, R1.intB hw (HPres.refl _), RdS.cells hw, wrap_id]
   refine hK _ _ ?_
   clear hK K
   refine den_cond rfl (fun c1 => ?_) (fun c1 => ?_)
   ·try simp only [decide_eq_true_eq, decide_eq_false_iff_not, beq_iff_eq, beq_eq_false_iff_ne, bne_iff_ne, ne_eq, Bool.not_eq_true', Bool.not_eq_false', Bool.and_eq_true, Bool.or_eq_true, bne_eq_false_iff_eq] at c1
    refine den_skip ?_
    refine den_seq ?_
    refine den_block ?_
    refine den_seq ?_
    refine den_draw TTok mixed [] [(0, true), (1, true), (2, true), (3, true), (4, true), (5, true), (6, true), (7, true), (8, true)] (by kernel_rfl) ?_
    intro K hK
    simp -implicitDefEqProofs (disch := first | decide | assumption | omega) only [go_sem, ld2, RdS.len hv sl22, RdS.idx hv sl22, R1.intB hv (HPres.refl _), RdS.cells hv, RdS.len hw sl22, RdS.idx hw sl22, R1.intB hw (HPres.refl _), RdS.cells hw, wrap_id]
    refine hK _ _ ?_
    clear hK K
    refine den_cond rfl (fun c2 => ?_) (fun c2 => ?_)
    ·try simp only [decide_eq_true_eq, decide_eq_false_iff_not, beq_iff_eq, beq_eq_false_iff_ne, bne_iff_ne, ne_eq, Bool.not_eq_true', Bool.not_eq_false', Bool.and_eq_true, Bool.or_eq_true, bne_eq_false_iff_eq] at c2
     refine den_seq ?_
     refine den_region TTok ?_
     intro K hK
     simp -implicitDefEqProofs (disch := first | decide | assumption | omega) only [go_sem, RdS.len hv sl22, RdS.idx hv sl22, R1.intB hv (HPres.refl _), RdS.cells hv, RdS.len hw sl22, RdS.idx hw sl22, R1.intB hw (HPres.refl _), RdS.cells hw, wrap_id]
     refine hK _ _ ?_
     clear hK K
     refine den_ret ?_
     simp (disch := decide) only [resP_1, puts_same, puts_ne]
     exact ⟨vbool (by simp; exact eq_stop (d := 0) (by simpa using c2)), trivial⟩
    ·try simp only [decide_eq_true_eq, decide_eq_false_iff_not, beq_iff_eq, beq_eq_false_iff_ne, bne_iff_ne, ne_eq, Bool.not_eq_true', Bool.not_eq_false', Bool.and_eq_true, Bool.or_eq_true, bne_eq_false_iff_eq] at c2
     refine den_skip ?_
     refine den_blk ?_
     refine den_region TTok ?_
     intro K hK
     simp -implicitDefEqProofs (disch := first | decide | assumption | omega) only [go_sem, RdS.len hv sl22, RdS.idx hv sl22, R1.intB hv (HPres.refl _), RdS.cells hv, RdS.len hw sl22, RdS.idx hw sl22, R1.intB hw (HPres.refl _), RdS.cells hw, wrap_id]
     refine hK _ _ ?_
     clear hK K
     refine den_stop ?_
     exact ⟨k + 1, by simp [HasL, puts_at], ⟨rfl, by omega, eq_step (by omega) (by omega) heq (d := 0) (d' := 0) (by simpa using c2)⟩, by omega⟩
   ·try simp only [decide_eq_true_eq, decide_eq_false_iff_not, beq_iff_eq, beq_eq_false_iff_ne, bne_iff_ne, ne_eq, Bool.not_eq_true', Bool.not_eq_false', Bool.and_eq_true, Bool.or_eq_true, bne_eq_false_iff_eq] at c1
    refine den_exit ?_
    refine denX_code ?_
    refine denX_stop ?_
    refine denX_hit ?_
    refine den_seq ?_
    refine den_region TTok ?_
    intro K hK
    simp -implicitDefEqProofs (disch := first | decide | assumption | omega) only [go_sem, RdS.len hv sl22, RdS.idx hv sl22, R1.intB hv (HPres.refl _), RdS.cells hv, RdS.len hw sl22, RdS.idx hw sl22, R1.intB hw (HPres.refl _), RdS.cells hw, wrap_id]
    refine hK _ _ ?_
    clear hK K
    refine den_ret ?_
    simp (disch := decide) only [resP_1, puts_same, puts_ne]
    exact ⟨vbool (by simp; exact eq_end (by omega) (by omega) heq), trivial⟩

set_option maxRecDepth 100000 in
theorem eqSS_ok (v w : Value) (xs ys : List (List Int)) (h : Heap) (hv : R2 h v xs) (hw : R2 h w ys) : CallA Try.prog 25 #[v, w] h fun v h' => v = .bool (decide (xs = ys)) ∧ h' = h := by
 have hle := RdS.le hv
 refine callA_intro TTok (args := [_, _]) Try.func25 (by kernel_rfl) rfl 27 rfl (by simp) [.tmp 4] rfl ?_
 simp only [idxs, Nat.reduceAdd]
 refine den_seq ?_
 refine den_region TTok ?_
 intro K hK
 simp -implicitDefEqProofs (disch := first | decide | assumption | omega) only [go_sem, RdS.len hv sl27, RdS.idx hv sl27, RdS.cellB hv (HPres.refl _), RdS.cells hv, RdS.len hw sl27, RdS.idx hw sl27, RdS.cellB hw (HPres.refl _), RdS.cells hw, wrap_id]
 refine hK _ _ ?_
 clear hK K
 refine den_seq ?_
 refine den_seq ?_
 refine den_region TTok ?_
 intro K hK
 simp -implicitDefEqProofs (disch := first | decide | assumption | omega) only [go_sem, RdS.len hv sl27, RdS.idx hv sl27, RdS.cellB hv (HPres.refl _), RdS.cells hv, RdS.len hw sl27, RdS.idx hw sl27, RdS.cellB hw (HPres.refl _), RdS.cells hw, wrap_id]
 refine hK _ _ ?_
 clear hK K
 refine den_cond rfl (fun c0 => ?_) (fun c0 => ?_)
 ·try simp only [decide_eq_true_eq, decide_eq_false_iff_not, beq_iff_eq, beq_eq_false_iff_ne, bne_iff_ne, ne_eq, Bool.not_eq_true', Bool.not_eq_false', Bool.and_eq_true, Bool.or_eq_true, bne_eq_false_iff_eq] at c0
  refine den_seq ?_
  refine den_region TTok ?_
  intro K hK
  simp -implicitDefEqProofs (disch := first | decide | assumption | omega) only [go_sem, RdS.len hv sl27, RdS.idx hv sl27, RdS.cellB hv (HPres.refl _), RdS.cells hv, RdS.len hw sl27, RdS.idx hw sl27, RdS.cellB hw (HPres.refl _), RdS.cells hw, wrap_id]
  refine hK _ _ ?_
  clear hK K
  refine den_ret ?_
  simp (disch := decide) only [resP_1, puts_same, puts_ne]
  exact ⟨vbool (by simp; intro he; rw [he] at c0; omega), trivial⟩
 ·try simp only [decide_eq_true_eq, decide_eq_false_iff_not, beq_iff_eq, beq_eq_false_iff_ne, bne_iff_ne, ne_eq, Bool.not_eq_true', Bool.not_eq_false', Bool.and_eq_true, Bool.or_eq_true, bne_eq_false_iff_eq] at c0
  refine den_skip ?_
  refine den_seq ?_
  refine den_seq ?_
  refine den_region TTok ?_
  intro K hK
  simp -implicitDefEqProofs (disch := first | decide | assumption | omega) only [go_sem, RdS.len hv sl27, RdS.idx hv sl27, RdS.cellB hv (HPres.refl _), RdS.cells hv, RdS.len hw sl27, RdS.idx hw sl27, RdS.cellB hw (HPres.refl _), RdS.cells hw, wrap_id]
  refine hK _ _ ?_
  clear hK K
  refine den_block ?_
  refine den_sel [5, 0, 1] ?_
  intro env_1
  simp only [go_sem]
  refine den_loopP (σ := Nat) (fun s => [(5, .int .i64 (s : Int))]) (fun s => s ≤ xs.length ∧ xs.take s = ys.take s) (fun s => xs.length - s) 0 ?_ ?_
  ·exact ⟨rfl, by omega, by simp⟩
  ·rintro k ee3 ⟨hk, heq⟩
   simp only [List.cons_append, List.nil_append]
   refine den_seq ?_
   refine den_seq ?_
   refine den_region TTok ?_
   intro K hK
   simp -implicitDefEqProofs (disch := first | decide | assumption | omega) only [go_sem, RdS.len hv sl27, RdS.idx hv sl27, RdS.cellB hv (HPres.refl _), RdS.cells hv, RdS.len hw sl27, RdS.idx hw sl27, RdS.cellB hw (HPres.refl _), RdS.cells hw, wrap_id]
   refine hK _ _ ?_
   clear hK K
   refine den_cond rfl (fun c1 => ?_) (fun c1 => ?_)
   ·try simp only [decide_eq_true_eq, decide_eq_false_iff_not, beq_iff_eq, beq_eq_false_iff_ne, bne_iff_ne, ne_eq, Bool.not_eq_true', Bool.not_eq_false', Bool.and_eq_true, Bool.or_eq_true, bne_eq_false_iff_eq] at c1
    refine den_skip ?_
    refine den_seq ?_
    refine den_block ?_
    refine den_seq ?_
    refine den_draw TTok mixed [] [(0, true), (1, true), (2, true), (3, true), (4, true), (5, true), (6, true), (7, true), (8, false), (9, true)] (by kernel_rfl) ?_
    intro K hK
    have hr4 := RdS.rowN hv k (by omega)
    have hlhr4 := RdS.le hr4
    have hr5 := RdS.rowN hw k (by omega)
    have hlhr5 := RdS.le hr5
    simp -implicitDefEqProofs (disch := first | decide | assumption | omega) only [go_sem, ld22, RdS.len hv sl27, RdS.idx hv sl27, RdS.cellB hv (HPres.refl _), RdS.cells hv, RdS.len hw sl27, RdS.idx hw sl27, RdS.cellB hw (HPres.refl _), RdS.cells hw, RdS.len hr4 sl22, RdS.idx hr4 sl22, R1.intB hr4 (HPres.refl _), RdS.cells hr4, RdS.len hr5 sl22, RdS.idx hr5 sl22, R1.intB hr5 (HPres.refl _), RdS.cells hr5, wrap_id]
    try simp -implicitDefEqProofs (disch := first | decide | assumption | omega) only [go_sem, RdS.len hv sl27, RdS.idx hv sl27, RdS.cellB hv (HPres.refl _), RdS.cells hv, RdS.len hw sl27, RdS.idx hw sl27, RdS.cellB hw (HPres.refl _), RdS.cells hw, RdS.len hr4 sl22, RdS.idx hr4 sl22, R1.intB hr4 (HPres.refl _), RdS.cells hr4, RdS.len hr5 sl22, RdS.idx hr5 sl22, R1.intB hr5 (HPres.refl _), RdS.cells hr5, wrap_id]
    refine CallA.pure (eqS_ok _ _ _ _ _ hr4 hr5) ?_
    try simp -implicitDefEqProofs (disch := first | decide | assumption | omega) only [go_sem, RdS.len hv sl27, RdS.idx hv sl27, RdS.cellB hv (HPres.refl _), RdS.cells hv, RdS.len hw sl27, RdS.idx hw sl27, RdS.cellB hw (HPres.refl _), RdS.cells hw, RdS.len hr4 sl22, RdS.idx hr4 sl22, R1.intB hr4 (HPres.refl _), RdS.cells hr4, RdS.len hr5 sl22, RdS.idx hr5 sl22, R1.intB hr5 (HPres.refl _), RdS.cells hr5, wrap_id]
    refine hK _ _ ?_
    clear hK K
    refine den_cond rfl (fun c2 => ?_) (fun c2 => ?_)
    ·try simp only [decide_eq_true_eq, decide_eq_false_iff_not, beq_iff_eq, beq_eq_false_iff_ne, bne_iff_ne, ne_eq, Bool.not_eq_true', Bool.not_eq_false', Bool.and_eq_true, Bool.or_eq_true, bne_eq_false_iff_eq] at c2
     refine den_seq ?_
     refine den_region TTok ?_
     intro K hK
     simp -implicitDefEqProofs (disch := first | decide | assumption | omega) only [go_sem, RdS.len hv sl27, RdS.idx hv sl27, RdS.cellB hv (HPres.refl _), RdS.cells hv, RdS.len hw sl27, RdS.idx hw sl27, RdS.cellB hw (HPres.refl _), RdS.cells hw, RdS.len hr4 sl22, RdS.idx hr4 sl22, R1.intB hr4 (HPres.refl _), RdS.cells hr4, RdS.len hr5 sl22, RdS.idx hr5 sl22, R1.intB hr5 (HPres.refl _), RdS.cells hr5, wrap_id]
     refine hK _ _ ?_
     clear hK K
     refine den_ret ?_
     simp (disch := decide) only [resP_1, puts_same, puts_ne]
     exact ⟨vbool (by simp; exact eq_stop (d := default) (by simpa using c2)), trivial⟩
    ·try simp only [decide_eq_true_eq, decide_eq_false_iff_not, beq_iff_eq, beq_eq_false_iff_ne, bne_iff_ne, ne_eq, Bool.not_eq_true', Bool.not_eq_false', Bool.and_eq_true, Bool.or_eq_true, bne_eq_false_iff_eq] at c2
     refine den_skip ?_
     refine den_blk ?_
     refine den_region TTok ?_
     intro K hK
     simp -implicitDefEqProofs (disch := first | decide | assumption | omega) only [go_sem, RdS.len hv sl27, RdS.idx hv sl27, RdS.cellB hv (HPres.refl _), RdS.cells hv, RdS.len hw sl27, RdS.idx hw sl27, RdS.cellB hw (HPres.refl _), RdS.cells hw, RdS.len hr4 sl22, RdS.idx hr4 sl22, R1.intB hr4 (HPres.refl _), RdS.cells hr4, RdS.len hr5 sl22, RdS.idx hr5 sl22, R1.intB hr5 (HPres.refl _), RdS.cells hr5, wrap_id]
     refine hK _ _ ?_
     clear hK K
     refine den_stop ?_
     exact ⟨k + 1, by simp [HasL, puts_at], ⟨rfl, by omega, eq_step (by omega) (by omega) heq (d := default) (d' := default) (by simpa using c2)⟩, by omega⟩
   ·try simp only [decide_eq_true_eq, decide_eq_false_iff_not, beq_iff_eq, beq_eq_false_iff_ne, bne_iff_ne, ne_eq, Bool.not_eq_true', Bool.not_eq_false', Bool.and_eq_true, Bool.or_eq_true, bne_eq_false_iff_eq] at c1
    refine den_exit ?_
    refine denX_code ?_
    refine denX_stop ?_
    refine denX_hit ?_
    refine den_seq ?_
    refine den_region TTok ?_
    intro K hK
    simp -implicitDefEqProofs (disch := first | decide | assumption | omega) only [go_sem, RdS.len hv sl27, RdS.idx hv sl27, RdS.cellB hv (HPres.refl _), RdS.cells hv, RdS.len hw sl27, RdS.idx hw sl27, RdS.cellB hw (HPres.refl _), RdS.cells hw, wrap_id]
    refine hK _ _ ?_
    clear hK K
    refine den_ret ?_
    simp (disch := decide) only [resP_1, puts_same, puts_ne]
    exact ⟨vbool (by simp; exact eq_end (by omega) (by omega) heq), trivial⟩

set_option maxRecDepth 100000 in
theorem eqSSS_ok (v w : Value) (xs ys : List (List (List Int))) (h : Heap) (hv : R3 h v xs) (hw : R3 h w ys) : CallA Try.prog 28 #[v, w] h fun v h' => v = .bool (decide (xs = ys)) ∧ h' = h := by
 have hle := RdS.le hv
 refine callA_intro TTok (args := [_, _]) Try.func28 (by kernel_rfl) rfl 27 rfl (by simp) [.tmp 4] rfl ?_
 simp only [idxs, Nat.reduceAdd]
 refine den_seq ?_
 refine den_region TTok ?_
 intro K hK
 simp -implicitDefEqProofs (disch := first | decide | assumption | omega) only [go_sem, RdS.len hv sl23, RdS.idx hv sl23, RdS.cellB hv (HPres.refl _), RdS.cells hv, RdS.len hw sl23, RdS.idx hw sl23, RdS.cellB hw (HPres.refl _), RdS.cells hw, wrap_id]
 refine hK _ _ ?_
 clear hK K
 refine den_seq ?_
 refine den_seq ?_
 refine den_region TTok ?_
 intro K hK
 simp -implicitDefEqProofs (disch := first | decide | assumption | omega) only [go_sem, RdS.len hv sl23, RdS.idx hv sl23, RdS.cellB hv (HPres.refl _), RdS.cells hv, RdS.len hw sl23, RdS.idx hw sl23, RdS.cellB hw (HPres.refl _), RdS.cells hw, wrap_id]
 refine hK _ _ ?_
 clear hK K
 refine den_cond rfl (fun c0 => ?_) (fun c0 => ?_)
 ·try simp only [decide_eq_true_eq, decide_eq_false_iff_not, beq_iff_eq, beq_eq_false_iff_ne, bne_iff_ne, ne_eq, Bool.not_eq_true', Bool.not_eq_false', Bool.and_eq_true, Bool.or_eq_true, bne_eq_false_iff_eq] at c0
  refine den_seq ?_
  refine den_region TTok ?_
  intro K hK
  simp -implicitDefEqProofs (disch := first | decide | assumption | omega) only [go_sem, RdS.len hv sl23, RdS.idx hv sl23, RdS.cellB hv (HPres.refl _), RdS.cells hv, RdS.len hw sl23, RdS.idx hw sl23, RdS.cellB hw (HPres.refl _), RdS.cells hw, wrap_id]
  refine hK _ _ ?_
  clear hK K
  refine den_ret ?_
  simp (disch := decide) only [resP_1, puts_same, puts_ne]
  exact ⟨vbool (by simp; intro he; rw [he] at c0; omega), trivial⟩
 ·try simp only [decide_eq_true_eq, decide_eq_false_iff_not, beq_iff_eq, beq_eq_false_iff_ne, bne_iff_ne, ne_eq, Bool.not_eq_true', Bool.not_eq_false', Bool.and_eq_true, Bool.or_eq_true, bne_eq_false_iff_eq] at c0
  refine den_skip ?_
  refine den_seq ?_
  refine den_seq ?_
  refine den_region TTok ?_
  intro K hK
  simp -implicitDefEqProofs (disch := first | decide | assumption | omega) only [go_sem, RdS.len hv sl23, RdS.idx hv sl23, RdS.cellB hv (HPres.refl _), RdS.cells hv, RdS.len hw sl23, RdS.idx hw sl23, RdS.cellB hw (HPres.refl _), RdS.cells hw, wrap_id]
  refine hK _ _ ?_
  clear hK K
  refine den_block ?_
  refine den_sel [5, 0, 1] ?_
  intro env_1
  simp only [go_sem]
  refine den_loopP (σ := Nat) (fun s => [(5, .int .i64 (s : Int))]) (fun s => s ≤ xs.length ∧ xs.take s = ys.take s) (fun s => xs.length - s) 0 ?_ ?_
  ·exact ⟨rfl, by omega, by simp⟩
  ·rintro k ee3 ⟨hk, heq⟩
   simp only [List.cons_append, List.nil_append]
   refine den_seq ?_
   refine den_seq ?_
   refine den_region TTok ?_
   intro K hK
   simp -implicitDefEqProofs (disch := first | decide | assumption | omega) only [go_sem, RdS.len hv sl23, RdS.idx hv sl23, RdS.cellB hv (HPres.refl _), RdS.cells hv, RdS.len hw sl23, RdS.idx hw sl23, RdS.cellB hw (HPres.refl _), RdS.cells hw, wrap_id]
   refine hK _ _ ?_
   clear hK K
   refine den_cond rfl (fun c1 => ?_) (fun c1 => ?_)
   ·try simp only [decide_eq_true_eq, decide_eq_false_iff_not, beq_iff_eq, beq_eq_false_iff_ne, bne_iff_ne, ne_eq, Bool.not_eq_true', Bool.not_eq_false', Bool.and_eq_true, Bool.or_eq_true, bne_eq_false_iff_eq] at c1
    refine den_skip ?_
    refine den_seq ?_
    refine den_block ?_
    refine den_seq ?_
    refine den_draw TTok mixed [] [(0, true), (1, true), (2, true), (3, true), (4, true), (5, true), (6, true), (7, true), (8, false), (9, true)] (by kernel_rfl) ?_
    intro K hK
    have hr4 := RdS.rowN hv k (by omega)
    have hlhr4 := RdS.le hr4
    have hr5 := RdS.rowN hw k (by omega)
    have hlhr5 := RdS.le hr5
    simp -implicitDefEqProofs (disch := first | decide | assumption | omega) only [go_sem, ld27, RdS.len hv sl23, RdS.idx hv sl23, RdS.cellB hv (HPres.refl _), RdS.cells hv, RdS.len hw sl23, RdS.idx hw sl23, RdS.cellB hw (HPres.refl _), RdS.cells hw, RdS.len hr4 sl27, RdS.idx hr4 sl27, RdS.cellB hr4 (HPres.refl _), RdS.cells hr4, RdS.len hr5 sl27, RdS.idx hr5 sl27, RdS.cellB hr5 (HPres.refl _), RdS.cells hr5, wrap_id]
    try simp -implicitDefEqProofs (disch := first | decide | assumption | omega) only [go_sem, RdS.len hv sl23, RdS.idx hv sl23, RdS.cellB hv (HPres.refl _), RdS.cells hv, RdS.len hw sl23, RdS.idx hw sl23, RdS.cellB hw (HPres.refl _), RdS.cells hw, RdS.len hr4 sl27, RdS.idx hr4 sl27, RdS.cellB hr4 (HPres.refl _), RdS.cells hr4, RdS.len hr5 sl27, RdS.idx hr5 sl27, RdS.cellB hr5 (HPres.refl _), RdS.cells hr5, wrap_id]
    refine CallA.pure (eqSS_ok _ _ _ _ _ hr4 hr5) ?_
    try simp -implicitDefEqProofs (disch := first | decide | assumption | omega) only [go_sem, RdS.len hv sl23, RdS.idx hv sl23, RdS.cellB hv (HPres.refl _), RdS.cells hv, RdS.len hw sl23, RdS.idx hw sl23, RdS.cellB hw (HPres.refl _), RdS.cells hw, RdS.len hr4 sl27, RdS.idx hr4 sl27, RdS.cellB hr4 (HPres.refl _), RdS.cells hr4, RdS.len hr5 sl27, RdS.idx hr5 sl27, RdS.cellB hr5 (HPres.refl _), RdS.cells hr5, wrap_id]
    refine hK _ _ ?_
    clear hK K
    refine den_cond rfl (fun c2 => ?_) (fun c2 => ?_)
    ·try simp only [decide_eq_true_eq, decide_eq_false_iff_not, beq_iff_eq, beq_eq_false_iff_ne, bne_iff_ne, ne_eq, Bool.not_eq_true', Bool.not_eq_false', Bool.and_eq_true, Bool.or_eq_true, bne_eq_false_iff_eq] at c2
     refine den_seq ?_
     refine den_region TTok ?_
     intro K hK
     simp -implicitDefEqProofs (disch := first | decide | assumption | omega) only [go_sem, RdS.len hv sl23, RdS.idx hv sl23, RdS.cellB hv (HPres.refl _), RdS.cells hv, RdS.len hw sl23, RdS.idx hw sl23, RdS.cellB hw (HPres.refl _), RdS.cells hw, RdS.len hr4 sl27, RdS.idx hr4 sl27, RdS.cellB hr4 (HPres.refl _), RdS.cells hr4, RdS.len hr5 sl27, RdS.idx hr5 sl27, RdS.cellB hr5 (HPres.refl _), RdS.cells hr5, wrap_id]
     refine hK _ _ ?_
     clear hK K
     refine den_ret ?_
     simp (disch := decide) only [resP_1, puts_same, puts_ne]
     exact ⟨vbool (by simp; exact eq_stop (d := default) (by simpa using c2)), trivial⟩
    ·try simp only [decide_eq_true_eq, decide_eq_false_iff_not, beq_iff_eq, beq_eq_false_iff_ne, bne_iff_ne, ne_eq, Bool.not_eq_true', Bool.not_eq_false', Bool.and_eq_true, Bool.or_eq_true, bne_eq_false_iff_eq] at c2
     refine den_skip ?_
     refine den_blk ?_
     refine den_region TTok ?_
     intro K hK
     simp -implicitDefEqProofs (disch := first | decide | assumption | omega) only [go_sem, RdS.len hv sl23, RdS.idx hv sl23, RdS.cellB hv (HPres.refl _), RdS.cells hv, RdS.len hw sl23, RdS.idx hw sl23, RdS.cellB hw (HPres.refl _), RdS.cells hw, RdS.len hr4 sl27, RdS.idx hr4 sl27, RdS.cellB hr4 (HPres.refl _), RdS.cells hr4, RdS.len hr5 sl27, RdS.idx hr5 sl27, RdS.cellB hr5 (HPres.refl _), RdS.cells hr5, wrap_id]
     refine hK _ _ ?_
     clear hK K
     refine den_stop ?_
     exact ⟨k + 1, by simp [HasL, puts_at], ⟨rfl, by omega, eq_step (by omega) (by omega) heq (d := default) (d' := default) (by simpa using c2)⟩, by omega⟩
   ·try simp only [decide_eq_true_eq, decide_eq_false_iff_not, beq_iff_eq, beq_eq_false_iff_ne, bne_iff_ne, ne_eq, Bool.not_eq_true', Bool.not_eq_false', Bool.and_eq_true, Bool.or_eq_true, bne_eq_false_iff_eq] at c1
    refine den_exit ?_
    refine denX_code ?_
    refine denX_stop ?_
    refine denX_hit ?_
    refine den_seq ?_
    refine den_region TTok ?_
    intro K hK
    simp -implicitDefEqProofs (disch := first | decide | assumption | omega) only [go_sem, RdS.len hv sl23, RdS.idx hv sl23, RdS.cellB hv (HPres.refl _), RdS.cells hv, RdS.len hw sl23, RdS.idx hw sl23, RdS.cellB hw (HPres.refl _), RdS.cells hw, wrap_id]
    refine hK _ _ ?_
    clear hK K
    refine den_ret ?_
    simp (disch := decide) only [resP_1, puts_same, puts_ne]
    exact ⟨vbool (by simp; exact eq_end (by omega) (by omega) heq), trivial⟩

set_option maxRecDepth 100000 in
theorem eqC_ok (v w : Value) (X Y : Cx) (h : Heap) (hv : RC h v X) (hw : RC h w Y) : CallA Try.prog 9 #[v, w] h fun v h' => v = .bool (eqC X Y) ∧ Ext h h' := by
 obtain ⟨vd, vm, rfl, hd, hm⟩ := hv
 obtain ⟨vdy, vmy, rfl, hdy, hmy⟩ := hw
 refine callA_intro TTok (args := [_, _]) Try.func9 (by kernel_rfl) rfl 22 rfl (by simp) [.tmp 4] rfl ?_
 simp only [idxs, Nat.reduceAdd]
 refine den_seq ?_
 refine den_region TTok ?_
 intro K hK
 simp -implicitDefEqProofs (disch := first | decide | assumption | omega) only [go_sem, RdS.len hd sl22, RdS.idx hd sl22, R1.intB hd (HPres.refl _), RdS.cells hd, RdS.len hm sl23, RdS.idx hm sl23, RdS.cellB hm (HPres.refl _), RdS.cells hm, RdS.len hdy sl22, RdS.idx hdy sl22, R1.intB hdy (HPres.refl _), RdS.cells hdy, RdS.len hmy sl23, RdS.idx hmy sl23, RdS.cellB hmy (HPres.refl _), RdS.cells hmy]
 refine op_box (cs := #[.int .i64 (X.p), vd, vm]) rfl ?_
 intro h0_0 e0_0 hb0_0 z0_0
 replace hd := RdS.pres hd (Ext.pres e0_0)
 replace hm := RdS.pres hm (Ext.pres e0_0)
 replace hdy := RdS.pres hdy (Ext.pres e0_0)
 replace hmy := RdS.pres hmy (Ext.pres e0_0)
 try simp -implicitDefEqProofs (disch := first | decide | assumption | omega) only [go_sem, RdS.len hd sl22, RdS.idx hd sl22, R1.intB hd (HPres.refl _), RdS.cells hd, RdS.len hm sl23, RdS.idx hm sl23, RdS.cellB hm (HPres.refl _), RdS.cells hm, RdS.len hdy sl22, RdS.idx hdy sl22, R1.intB hdy (HPres.refl _), RdS.cells hdy, RdS.len hmy sl23, RdS.idx hmy sl23, RdS.cellB hmy (HPres.refl _), RdS.cells hmy, BoxAt.cell hb0_0]
 refine op_box (cs := #[.int .i64 (Y.p), vdy, vmy]) rfl ?_
 intro h0_1 e0_1 hb0_1 z0_1
 replace hd := RdS.pres hd (Ext.pres e0_1)
 replace hm := RdS.pres hm (Ext.pres e0_1)
 replace hdy := RdS.pres hdy (Ext.pres e0_1)
 replace hmy := RdS.pres hmy (Ext.pres e0_1)
 replace hb0_0 := BoxAt.ext hb0_0 e0_1
 try simp -implicitDefEqProofs (disch := first | decide | assumption | omega) only [go_sem, RdS.len hd sl22, RdS.idx hd sl22, R1.intB hd (HPres.refl _), RdS.cells hd, RdS.len hm sl23, RdS.idx hm sl23, RdS.cellB hm (HPres.refl _), RdS.cells hm, RdS.len hdy sl22, RdS.idx hdy sl22, R1.intB hdy (HPres.refl _), RdS.cells hdy, RdS.len hmy sl23, RdS.idx hmy sl23, RdS.cellB hmy (HPres.refl _), RdS.cells hmy, BoxAt.cell hb0_0, BoxAt.cell hb0_1]
 refine hK _ _ ?_
 clear hK K
 refine den_seq ?_
 refine den_seq ?_
 refine den_region TTok ?_
 intro K hK
 simp -implicitDefEqProofs (disch := first | decide | assumption | omega) only [go_sem, fa33_0, ld2, RdS.len hd sl22, RdS.idx hd sl22, R1.intB hd (HPres.refl _), RdS.cells hd, RdS.len hm sl23, RdS.idx hm sl23, RdS.cellB hm (HPres.refl _), RdS.cells hm, RdS.len hdy sl22, RdS.idx hdy sl22, R1.intB hdy (HPres.refl _), RdS.cells hdy, RdS.len hmy sl23, RdS.idx hmy sl23, RdS.cellB hmy (HPres.refl _), RdS.cells hmy, BoxAt.cell hb0_0, BoxAt.cell hb0_1]
 refine hK _ _ ?_
 clear hK K
 refine den_cond rfl (fun c0 => ?_) (fun c0 => ?_)
 ·try simp only [decide_eq_true_eq, decide_eq_false_iff_not, beq_iff_eq, beq_eq_false_iff_ne, bne_iff_ne, ne_eq, Bool.not_eq_true', Bool.not_eq_false', Bool.and_eq_true, Bool.or_eq_true, bne_eq_false_iff_eq] at c0
  refine den_seq ?_
  refine den_region TTok ?_
  intro K hK
  simp -implicitDefEqProofs (disch := first | decide | assumption | omega) only [go_sem, RdS.len hd sl22, RdS.idx hd sl22, R1.intB hd (HPres.refl _), RdS.cells hd, RdS.len hm sl23, RdS.idx hm sl23, RdS.cellB hm (HPres.refl _), RdS.cells hm, RdS.len hdy sl22, RdS.idx hdy sl22, R1.intB hdy (HPres.refl _), RdS.cells hdy, RdS.len hmy sl23, RdS.idx hmy sl23, RdS.cellB hmy (HPres.refl _), RdS.cells hmy, BoxAt.cell hb0_0, BoxAt.cell hb0_1]
  refine hK _ _ ?_
  clear hK K
  refine den_ret ?_
  simp (disch := decide) only [resP_1, puts_same, puts_ne]
  exact ⟨vbool (by simp [eqC, c0]), (Ext.trans e0_0 e0_1)⟩
 ·try simp only [decide_eq_true_eq, decide_eq_false_iff_not, beq_iff_eq, beq_eq_false_iff_ne, bne_iff_ne, ne_eq, Bool.not_eq_true', Bool.not_eq_false', Bool.and_eq_true, Bool.or_eq_true, bne_eq_false_iff_eq] at c0
  refine den_skip ?_
  refine den_seq ?_
  refine den_seq ?_
  refine den_region TTok ?_
  intro K hK
  simp -implicitDefEqProofs (disch := first | decide | assumption | omega) only [go_sem, fa33_1, ld22, RdS.len hd sl22, RdS.idx hd sl22, R1.intB hd (HPres.refl _), RdS.cells hd, RdS.len hm sl23, RdS.idx hm sl23, RdS.cellB hm (HPres.refl _), RdS.cells hm, RdS.len hdy sl22, RdS.idx hdy sl22, R1.intB hdy (HPres.refl _), RdS.cells hdy, RdS.len hmy sl23, RdS.idx hmy sl23, RdS.cellB hmy (HPres.refl _), RdS.cells hmy, BoxAt.cell hb0_0, BoxAt.cell hb0_1]
  try simp -implicitDefEqProofs (disch := first | decide | assumption | omega) only [go_sem, RdS.len hd sl22, RdS.idx hd sl22, R1.intB hd (HPres.refl _), RdS.cells hd, RdS.len hm sl23, RdS.idx hm sl23, RdS.cellB hm (HPres.refl _), RdS.cells hm, RdS.len hdy sl22, RdS.idx hdy sl22, R1.intB hdy (HPres.refl _), RdS.cells hdy, RdS.len hmy sl23, RdS.idx hmy sl23, RdS.cellB hmy (HPres.refl _), RdS.cells hmy, BoxAt.cell hb0_0, BoxAt.cell hb0_1]
  refine CallA.pure (eqS_ok _ _ _ _ _ hd hdy) ?_
  try simp -implicitDefEqProofs (disch := first | decide | assumption | omega) only [go_sem, RdS.len hd sl22, RdS.idx hd sl22, R1.intB hd (HPres.refl _), RdS.cells hd, RdS.len hm sl23, RdS.idx hm sl23, RdS.cellB hm (HPres.refl _), RdS.cells hm, RdS.len hdy sl22, RdS.idx hdy sl22, R1.intB hdy (HPres.refl _), RdS.cells hdy, RdS.len hmy sl23, RdS.idx hmy sl23, RdS.cellB hmy (HPres.refl _), RdS.cells hmy, BoxAt.cell hb0_0, BoxAt.cell hb0_1]
  refine hK _ _ ?_
  clear hK K
  refine den_cond rfl (fun c1 => ?_) (fun c1 => ?_)
  ·try simp only [decide_eq_true_eq, decide_eq_false_iff_not, beq_iff_eq, beq_eq_false_iff_ne, bne_iff_ne, ne_eq, Bool.not_eq_true', Bool.not_eq_false', Bool.and_eq_true, Bool.or_eq_true, bne_eq_false_iff_eq] at c1
   refine den_seq ?_
   refine den_region TTok ?_
   intro K hK
   simp -implicitDefEqProofs (disch := first | decide | assumption | omega) only [go_sem, RdS.len hd sl22, RdS.idx hd sl22, R1.intB hd (HPres.refl _), RdS.cells hd, RdS.len hm sl23, RdS.idx hm sl23, RdS.cellB hm (HPres.refl _), RdS.cells hm, RdS.len hdy sl22, RdS.idx hdy sl22, R1.intB hdy (HPres.refl _), RdS.cells hdy, RdS.len hmy sl23, RdS.idx hmy sl23, RdS.cellB hmy (HPres.refl _), RdS.cells hmy, BoxAt.cell hb0_0, BoxAt.cell hb0_1]
   refine hK _ _ ?_
   clear hK K
   refine den_ret ?_
   simp (disch := decide) only [resP_1, puts_same, puts_ne]
   exact ⟨vbool (by simp [eqC, c1]), (Ext.trans e0_0 e0_1)⟩
  ·try simp only [decide_eq_true_eq, decide_eq_false_iff_not, beq_iff_eq, beq_eq_false_iff_ne, bne_iff_ne, ne_eq, Bool.not_eq_true', Bool.not_eq_false', Bool.and_eq_true, Bool.or_eq_true, bne_eq_false_iff_eq] at c1
   refine den_skip ?_
   refine den_seq ?_
   refine den_seq ?_
   refine den_region TTok ?_
   intro K hK
   simp -implicitDefEqProofs (disch := first | decide | assumption | omega) only [go_sem, fa33_2, ld23, RdS.len hd sl22, RdS.idx hd sl22, R1.intB hd (HPres.refl _), RdS.cells hd, RdS.len hm sl23, RdS.idx hm sl23, RdS.cellB hm (HPres.refl _), RdS.cells hm, RdS.len hdy sl22, RdS.idx hdy sl22, R1.intB hdy (HPres.refl _), RdS.cells hdy, RdS.len hmy sl23, RdS.idx hmy sl23, RdS.cellB hmy (HPres.refl _), RdS.cells hmy, BoxAt.cell hb0_0, BoxAt.cell hb0_1]
   try simp -implicitDefEqProofs (disch := first | decide | assumption | omega) only [go_sem, RdS.len hd sl22, RdS.idx hd sl22, R1.intB hd (HPres.refl _), RdS.cells hd, RdS.len hm sl23, RdS.idx hm sl23, RdS.cellB hm (HPres.refl _), RdS.cells hm, RdS.len hdy sl22, RdS.idx hdy sl22, R1.intB hdy (HPres.refl _), RdS.cells hdy, RdS.len hmy sl23, RdS.idx hmy sl23, RdS.cellB hmy (HPres.refl _), RdS.cells hmy, BoxAt.cell hb0_0, BoxAt.cell hb0_1]
   refine CallA.pure (eqSSS_ok _ _ _ _ _ hm hmy) ?_
   try simp -implicitDefEqProofs (disch := first | decide | assumption | omega) only [go_sem, RdS.len hd sl22, RdS.idx hd sl22, R1.intB hd (HPres.refl _), RdS.cells hd, RdS.len hm sl23, RdS.idx hm sl23, RdS.cellB hm (HPres.refl _), RdS.cells hm, RdS.len hdy sl22, RdS.idx hdy sl22, R1.intB hdy (HPres.refl _), RdS.cells hdy, RdS.len hmy sl23, RdS.idx hmy sl23, RdS.cellB hmy (HPres.refl _), RdS.cells hmy, BoxAt.cell hb0_0, BoxAt.cell hb0_1]
   refine hK _ _ ?_
   clear hK K
   refine den_cond rfl (fun c2 => ?_) (fun c2 => ?_)
   ·try simp only [decide_eq_true_eq, decide_eq_false_iff_not, beq_iff_eq, beq_eq_false_iff_ne, bne_iff_ne, ne_eq, Bool.not_eq_true', Bool.not_eq_false', Bool.and_eq_true, Bool.or_eq_true, bne_eq_false_iff_eq] at c2
    refine den_seq ?_
    refine den_region TTok ?_
    intro K hK
    simp -implicitDefEqProofs (disch := first | decide | assumption | omega) only [go_sem, RdS.len hd sl22, RdS.idx hd sl22, R1.intB hd (HPres.refl _), RdS.cells hd, RdS.len hm sl23, RdS.idx hm sl23, RdS.cellB hm (HPres.refl _), RdS.cells hm, RdS.len hdy sl22, RdS.idx hdy sl22, R1.intB hdy (HPres.refl _), RdS.cells hdy, RdS.len hmy sl23, RdS.idx hmy sl23, RdS.cellB hmy (HPres.refl _), RdS.cells hmy, BoxAt.cell hb0_0, BoxAt.cell hb0_1]
    refine hK _ _ ?_
    clear hK K
    refine den_ret ?_
    simp (disch := decide) only [resP_1, puts_same, puts_ne]
    exact ⟨vbool (by simp [eqC, c2]), (Ext.trans e0_0 e0_1)⟩
   ·try simp only [decide_eq_true_eq, decide_eq_false_iff_not, beq_iff_eq, beq_eq_false_iff_ne, bne_iff_ne, ne_eq, Bool.not_eq_true', Bool.not_eq_false', Bool.and_eq_true, Bool.or_eq_true, bne_eq_false_iff_eq] at c2
    refine den_skip ?_
    refine den_seq ?_
    refine den_region TTok ?_
    intro K hK
    simp -implicitDefEqProofs (disch := first | decide | assumption | omega) only [go_sem, RdS.len hd sl22, RdS.idx hd sl22, R1.intB hd (HPres.refl _), RdS.cells hd, RdS.len hm sl23, RdS.idx hm sl23, RdS.cellB hm (HPres.refl _), RdS.cells hm, RdS.len hdy sl22, RdS.idx hdy sl22, R1.intB hdy (HPres.refl _), RdS.cells hdy, RdS.len hmy sl23, RdS.idx hmy sl23, RdS.cellB hmy (HPres.refl _), RdS.cells hmy, BoxAt.cell hb0_0, BoxAt.cell hb0_1]
    refine hK _ _ ?_
    clear hK K
    refine den_ret ?_
    simp (disch := decide) only [resP_1, puts_same, puts_ne]
    exact ⟨vbool (by simp [eqC, c0, c1, c2]), (Ext.trans e0_0 e0_1)⟩
end Go.Proofs.Ytkdnnfkdgmblgaa

namespace Go.Proofs.Ytkdnnfkdgmblgaa
open Go
def in3 (n lo hi : Int) : Bool := decide (lo ≤ n) && decide (n ≤ hi)
def isP (p : Int) : Bool := ((p == 2 || p == 3) || p == 5) || p == 7
def dimP (X : Cx) (n : Int) : Int := if in3 n 0 ((X.dims.length : Int) - 1) then X.dims.getD n.toNat 0 else 0
theorem in3_iff {n lo hi : Int} : in3 n lo hi = true ↔ lo ≤ n ∧ n ≤ hi := by simp [in3]
theorem in3_f {n lo hi : Int} : in3 n lo hi = false ↔ ¬ (lo ≤ n ∧ n ≤ hi) := by rw [← in3_iff]; simp

set_option maxRecDepth 100000 in
theorem sIn_ok (n lo hi : Int) (h : Heap) : CallA Try.prog 37 #[.int .i64 n, .int .i64 lo, .int .i64 hi] h fun v h' => v = .bool (in3 n lo hi) ∧ h' = h := by
 refine callA_intro TTok (args := [_, _, _]) Try.func37 (by kernel_rfl) rfl 15 rfl (by simp) [.tmp 6] rfl ?_
 simp only [idxs, Nat.reduceAdd]
 refine den_seq ?_
 refine den_region TTok ?_
 intro K hK
 simp -implicitDefEqProofs (disch := first | decide | assumption | omega) only [go_sem]
 refine hK _ _ ?_
 clear hK K
 refine den_seq ?_
 refine den_mergeH [(6, .bool (((decide (lo ≤ n)) && (decide (n ≤ hi)))))] [] ?_ ?_
  -- a way
 ·refine den_region TTok ?_
  intro K hK
  simp -implicitDefEqProofs (disch := first | decide | assumption | (simp (disch := decide) only [slotOf_zero, slotOf_succ, Option.map_some, puts_same, puts_ne, gv_bool, gv_undef, tt, tf, ft, ff, eq_self, if_true, if_false, Bool.false_eq_true, Bool.not_true, Bool.not_false]; done) | omega) only [go_sem]
  refine opsP_T (by simp (disch := decide) only [slotOf_zero, slotOf_succ, Option.map_some, puts_same, puts_ne, gv_bool, gv_undef, tt, tf, ft, ff, eq_self, if_true, if_false, Bool.false_eq_true, Bool.not_true, Bool.not_false]; rfl) (fun g1 => ?_) (fun g1 => ?_)
  ·try simp -implicitDefEqProofs (disch := first | decide | assumption | (simp (disch := decide) only [slotOf_zero, slotOf_succ, Option.map_some, puts_same, puts_ne, gv_bool, gv_undef, tt, tf, ft, ff, eq_self, if_true, if_false, Bool.false_eq_true, Bool.not_true, Bool.not_false, g1]; done) | omega) only [go_sem, g1, eq_self, if_true, if_false, Bool.false_eq_true]
   refine hK _ _ ?_
   clear hK K
   refine den_stop ?_
   refine ⟨?_, rfl⟩
   first | (simp (disch := decide) only [go_sem, g1, eq_self, Bool.true_and, Bool.and_true, Bool.false_and, Bool.and_false, Bool.true_or, Bool.or_true, Bool.false_or, Bool.or_false, if_true, if_false, Bool.false_eq_true]; done) | simp [HasL, sel, puts_at, g1]
  ·try simp -implicitDefEqProofs (disch := first | decide | assumption | (simp (disch := decide) only [slotOf_zero, slotOf_succ, Option.map_some, puts_same, puts_ne, gv_bool, gv_undef, tt, tf, ft, ff, eq_self, if_true, if_false, Bool.false_eq_true, Bool.not_true, Bool.not_false, g1]; done) | omega) only [go_sem, g1, eq_self, if_true, if_false, Bool.false_eq_true]
   refine hK _ _ ?_
   clear hK K
   refine den_stop ?_
   refine ⟨?_, rfl⟩
   first | (simp (disch := decide) only [go_sem, g1, eq_self, Bool.true_and, Bool.and_true, Bool.false_and, Bool.and_false, Bool.true_or, Bool.or_true, Bool.false_or, Bool.or_false, if_true, if_false, Bool.false_eq_true]; done) | simp [HasL, sel, puts_at, g1]
 intro en2
 simp (disch := decide) only [go_sem]
 refine den_ret ?_
 simp (disch := decide) only [resP_1, puts_same, puts_ne]
 exact ⟨by first | rfl | trivial, trivial⟩

set_option maxRecDepth 100000 in
theorem iIn_ok (n lo hi : Int) (h : Heap) : CallA Try.prog 46 #[.int .i64 n, .int .i64 lo, .int .i64 hi] h fun v h' => v = .bool (in3 n lo hi) ∧ h' = h := by
 refine callA_intro TTok (args := [_, _, _]) Try.func46 (by kernel_rfl) rfl 15 rfl (by simp) [.tmp 6] rfl ?_
 simp only [idxs, Nat.reduceAdd]
 refine den_seq ?_
 refine den_region TTok ?_
 intro K hK
 simp -implicitDefEqProofs (disch := first | decide | assumption | omega) only [go_sem]
 refine hK _ _ ?_
 clear hK K
 refine den_seq ?_
 refine den_mergeH [(6, .bool (((decide (lo ≤ n)) && (decide (n ≤ hi)))))] [] ?_ ?_
  -- a way
 ·refine den_region TTok ?_
  intro K hK
  simp -implicitDefEqProofs (disch := first | decide | assumption | (simp (disch := decide) only [slotOf_zero, slotOf_succ, Option.map_some, puts_same, puts_ne, gv_bool, gv_undef, tt, tf, ft, ff, eq_self, if_true, if_false, Bool.false_eq_true, Bool.not_true, Bool.not_false]; done) | omega) only [go_sem]
  refine opsP_T (by simp (disch := decide) only [slotOf_zero, slotOf_succ, Option.map_some, puts_same, puts_ne, gv_bool, gv_undef, tt, tf, ft, ff, eq_self, if_true, if_false, Bool.false_eq_true, Bool.not_true, Bool.not_false]; rfl) (fun g1 => ?_) (fun g1 => ?_)
  ·try simp -implicitDefEqProofs (disch := first | decide | assumption | (simp (disch := decide) only [slotOf_zero, slotOf_succ, Option.map_some, puts_same, puts_ne, gv_bool, gv_undef, tt, tf, ft, ff, eq_self, if_true, if_false, Bool.false_eq_true, Bool.not_true, Bool.not_false, g1]; done) | omega) only [go_sem, g1, eq_self, if_true, if_false, Bool.false_eq_true]
   refine hK _ _ ?_
   clear hK K
   refine den_stop ?_
   refine ⟨?_, rfl⟩
   first | (simp (disch := decide) only [go_sem, g1, eq_self, Bool.true_and, Bool.and_true, Bool.false_and, Bool.and_false, Bool.true_or, Bool.or_true, Bool.false_or, Bool.or_false, if_true, if_false, Bool.false_eq_true]; done) | simp [HasL, sel, puts_at, g1]
  ·try simp -implicitDefEqProofs (disch := first | decide | assumption | (simp (disch := decide) only [slotOf_zero, slotOf_succ, Option.map_some, puts_same, puts_ne, gv_bool, gv_undef, tt, tf, ft, ff, eq_self, if_true, if_false, Bool.false_eq_true, Bool.not_true, Bool.not_false, g1]; done) | omega) only [go_sem, g1, eq_self, if_true, if_false, Bool.false_eq_true]
   refine hK _ _ ?_
   clear hK K
   refine den_stop ?_
   refine ⟨?_, rfl⟩
   first | (simp (disch := decide) only [go_sem, g1, eq_self, Bool.true_and, Bool.and_true, Bool.false_and, Bool.and_false, Bool.true_or, Bool.or_true, Bool.false_or, Bool.or_false, if_true, if_false, Bool.false_eq_true]; done) | simp [HasL, sel, puts_at, g1]
 intro en2
 simp (disch := decide) only [go_sem]
 refine den_ret ?_
 simp (disch := decide) only [resP_1, puts_same, puts_ne]
 exact ⟨by first | rfl | trivial, trivial⟩

set_option maxRecDepth 100000 in
theorem sPrime_ok (p : Int) (h : Heap) : CallA Try.prog 36 #[.int .i64 p] h fun v h' => v = .bool (isP p) ∧ h' = h := by
 refine callA_intro TTok (args := [_]) Try.func36 (by kernel_rfl) rfl 17 rfl (by simp) [.tmp 2] rfl ?_
 simp only [idxs, Nat.reduceAdd]
 refine den_seq ?_
 refine den_region TTok ?_
 intro K hK
 simp -implicitDefEqProofs (disch := first | decide | assumption | omega) only [go_sem]
 refine hK _ _ ?_
 clear hK K
 refine den_seq ?_
 refine den_mergeH [(2, .bool (((((p == (2 : Int)) || (p == (3 : Int))) || (p == (5 : Int))) || (p == (7 : Int)))))] [] ?_ ?_
  -- a way
 ·refine den_region TTok ?_
  intro K hK
  simp -implicitDefEqProofs (disch := first | decide | assumption | (simp (disch := decide) only [slotOf_zero, slotOf_succ, Option.map_some, puts_same, puts_ne, gv_bool, gv_undef, tt, tf, ft, ff, eq_self, if_true, if_false, Bool.false_eq_true, Bool.not_true, Bool.not_false]; done) | omega) only [go_sem]
  refine opsP_F (by simp (disch := decide) only [slotOf_zero, slotOf_succ, Option.map_some, puts_same, puts_ne, gv_bool, gv_undef, tt, tf, ft, ff, eq_self, if_true, if_false, Bool.false_eq_true, Bool.not_true, Bool.not_false]; rfl) (fun g1 => ?_) (fun g1 => ?_)
  ·try simp -implicitDefEqProofs (disch := first | decide | assumption | (simp (disch := decide) only [slotOf_zero, slotOf_succ, Option.map_some, puts_same, puts_ne, gv_bool, gv_undef, tt, tf, ft, ff, eq_self, if_true, if_false, Bool.false_eq_true, Bool.not_true, Bool.not_false, g1]; done) | omega) only [go_sem, g1, eq_self, if_true, if_false, Bool.false_eq_true]
   refine opsP_F (by simp (disch := decide) only [slotOf_zero, slotOf_succ, Option.map_some, puts_same, puts_ne, gv_bool, gv_undef, tt, tf, ft, ff, eq_self, if_true, if_false, Bool.false_eq_true, Bool.not_true, Bool.not_false, g1]; rfl) (fun g2 => ?_) (fun g2 => ?_)
   ·try simp -implicitDefEqProofs (disch := first | decide | assumption | (simp (disch := decide) only [slotOf_zero, slotOf_succ, Option.map_some, puts_same, puts_ne, gv_bool, gv_undef, tt, tf, ft, ff, eq_self, if_true, if_false, Bool.false_eq_true, Bool.not_true, Bool.not_false, g1, g2]; done) | omega) only [go_sem, g1, g2, eq_self, if_true, if_false, Bool.false_eq_true]
    refine opsP_F (by simp (disch := decide) only [slotOf_zero, slotOf_succ, Option.map_some, puts_same, puts_ne, gv_bool, gv_undef, tt, tf, ft, ff, eq_self, if_true, if_false, Bool.false_eq_true, Bool.not_true, Bool.not_false, g1, g2]; rfl) (fun g3 => ?_) (fun g3 => ?_)
    ·try simp -implicitDefEqProofs (disch := first | decide | assumption | (simp (disch := decide) only [slotOf_zero, slotOf_succ, Option.map_some, puts_same, puts_ne, gv_bool, gv_undef, tt, tf, ft, ff, eq_self, if_true, if_false, Bool.false_eq_true, Bool.not_true, Bool.not_false, g1, g2, g3]; done) | omega) only [go_sem, g1, g2, g3, eq_self, if_true, if_false, Bool.false_eq_true]
     refine hK _ _ ?_
     clear hK K
     refine den_stop ?_
     refine ⟨?_, rfl⟩
     first | (simp (disch := decide) only [go_sem, g1, g2, g3, eq_self, Bool.true_and, Bool.and_true, Bool.false_and, Bool.and_false, Bool.true_or, Bool.or_true, Bool.false_or, Bool.or_false, if_true, if_false, Bool.false_eq_true]; done) | simp [HasL, sel, puts_at, g1, g2, g3]
    ·try simp -implicitDefEqProofs (disch := first | decide | assumption | (simp (disch := decide) only [slotOf_zero, slotOf_succ, Option.map_some, puts_same, puts_ne, gv_bool, gv_undef, tt, tf, ft, ff, eq_self, if_true, if_false, Bool.false_eq_true, Bool.not_true, Bool.not_false, g1, g2, g3]; done) | omega) only [go_sem, g1, g2, g3, eq_self, if_true, if_false, Bool.false_eq_true]
     refine hK _ _ ?_
     clear hK K
     refine den_stop ?_
     refine ⟨?_, rfl⟩
     first | (simp (disch := decide) only [go_sem, g1, g2, g3, eq_self, Bool.true_and, Bool.and_true, Bool.false_and, Bool.and_false, Bool.true_or, Bool.or_true, Bool.false_or, Bool.or_false, if_true, if_false, Bool.false_eq_true]; done) | simp [HasL, sel, puts_at, g1, g2, g3]
   ·try simp -implicitDefEqProofs (disch := first | decide | assumption | (simp (disch := decide) only [slotOf_zero, slotOf_succ, Option.map_some, puts_same, puts_ne, gv_bool, gv_undef, tt, tf, ft, ff, eq_self, if_true, if_false, Bool.false_eq_true, Bool.not_true, Bool.not_false, g1, g2]; done) | omega) only [go_sem, g1, g2, eq_self, if_true, if_false, Bool.false_eq_true]
    try simp -implicitDefEqProofs (disch := first | decide | assumption | (simp (disch := decide) only [slotOf_zero, slotOf_succ, Option.map_some, puts_same, puts_ne, gv_bool, gv_undef, tt, tf, ft, ff, eq_self, if_true, if_false, Bool.false_eq_true, Bool.not_true, Bool.not_false, g1, g2]; done) | omega) only [go_sem, g1, g2, eq_self, if_true, if_false, Bool.false_eq_true]
    refine hK _ _ ?_
    clear hK K
    refine den_stop ?_
    refine ⟨?_, rfl⟩
    first | (simp (disch := decide) only [go_sem, g1, g2, eq_self, Bool.true_and, Bool.and_true, Bool.false_and, Bool.and_false, Bool.true_or, Bool.or_true, Bool.false_or, Bool.or_false, if_true, if_false, Bool.false_eq_true]; done) | simp [HasL, sel, puts_at, g1, g2]
  ·try simp -implicitDefEqProofs (disch := first | decide | assumption | (simp (disch := decide) only [slotOf_zero, slotOf_succ, Option.map_some, puts_same, puts_ne, gv_bool, gv_undef, tt, tf, ft, ff, eq_self, if_true, if_false, Bool.false_eq_true, Bool.not_true, Bool.not_false, g1]; done) | omega) only [go_sem, g1, eq_self, if_true, if_false, Bool.false_eq_true]
   try simp -implicitDefEqProofs (disch := first | decide | assumption | (simp (disch := decide) only [slotOf_zero, slotOf_succ, Option.map_some, puts_same, puts_ne, gv_bool, gv_undef, tt, tf, ft, ff, eq_self, if_true, if_false, Bool.false_eq_true, Bool.not_true, Bool.not_false, g1]; done) | omega) only [go_sem, g1, eq_self, if_true, if_false, Bool.false_eq_true]
   try simp -implicitDefEqProofs (disch := first | decide | assumption | (simp (disch := decide) only [slotOf_zero, slotOf_succ, Option.map_some, puts_same, puts_ne, gv_bool, gv_undef, tt, tf, ft, ff, eq_self, if_true, if_false, Bool.false_eq_true, Bool.not_true, Bool.not_false, g1]; done) | omega) only [go_sem, g1, eq_self, if_true, if_false, Bool.false_eq_true]
   refine hK _ _ ?_
   clear hK K
   refine den_stop ?_
   refine ⟨?_, rfl⟩
   first | (simp (disch := decide) only [go_sem, g1, eq_self, Bool.true_and, Bool.and_true, Bool.false_and, Bool.and_false, Bool.true_or, Bool.or_true, Bool.false_or, Bool.or_false, if_true, if_false, Bool.false_eq_true]; done) | simp [HasL, sel, puts_at, g1]
 intro en4
 simp (disch := decide) only [go_sem]
 refine den_ret ?_
 simp (disch := decide) only [resP_1, puts_same, puts_ne]
 exact ⟨by first | rfl | trivial, trivial⟩

set_option maxRecDepth 100000 in
theorem iPrime_ok (p : Int) (h : Heap) : CallA Try.prog 45 #[.int .i64 p] h fun v h' => v = .bool (isP p) ∧ h' = h := by
 refine callA_intro TTok (args := [_]) Try.func45 (by kernel_rfl) rfl 17 rfl (by simp) [.tmp 2] rfl ?_
 simp only [idxs, Nat.reduceAdd]
 refine den_seq ?_
 refine den_region TTok ?_
 intro K hK
 simp -implicitDefEqProofs (disch := first | decide | assumption | omega) only [go_sem]
 refine hK _ _ ?_
 clear hK K
 refine den_seq ?_
 refine den_mergeH [(2, .bool (((((p == (2 : Int)) || (p == (3 : Int))) || (p == (5 : Int))) || (p == (7 : Int)))))] [] ?_ ?_
  -- a way
 ·refine den_region TTok ?_
  intro K hK
  simp -implicitDefEqProofs (disch := first | decide | assumption | (simp (disch := decide) only [slotOf_zero, slotOf_succ, Option.map_some, puts_same, puts_ne, gv_bool, gv_undef, tt, tf, ft, ff, eq_self, if_true, if_false, Bool.false_eq_true, Bool.not_true, Bool.not_false]; done) | omega) only [go_sem]
  refine opsP_F (by simp (disch := decide) only [slotOf_zero, slotOf_succ, Option.map_some, puts_same, puts_ne, gv_bool, gv_undef, tt, tf, ft, ff, eq_self, if_true, if_false, Bool.false_eq_true, Bool.not_true, Bool.not_false]; rfl) (fun g1 => ?_) (fun g1 => ?_)
  ·try simp -implicitDefEqProofs (disch := first | decide | assumption | (simp (disch := decide) only [slotOf_zero, slotOf_succ, Option.map_some, puts_same, puts_ne, gv_bool, gv_undef, tt, tf, ft, ff, eq_self, if_true, if_false, Bool.false_eq_true, Bool.not_true, Bool.not_false, g1]; done) | omega) only [go_sem, g1, eq_self, if_true, if_false, Bool.false_eq_true]
   refine opsP_F (by simp (disch := decide) only [slotOf_zero, slotOf_succ, Option.map_some, puts_same, puts_ne, gv_bool, gv_undef, tt, tf, ft, ff, eq_self, if_true, if_false, Bool.false_eq_true, Bool.not_true, Bool.not_false, g1]; rfl) (fun g2 => ?_) (fun g2 => ?_)
   ·try simp -implicitDefEqProofs (disch := first | decide | assumption | (simp (disch := decide) only [slotOf_zero, slotOf_succ, Option.map_some, puts_same, puts_ne, gv_bool, gv_undef, tt, tf, ft, ff, eq_self, if_true, if_false, Bool.false_eq_true, Bool.not_true, Bool.not_false, g1, g2]; done) | omega) only [go_sem, g1, g2, eq_self, if_true, if_false, Bool.false_eq_true]
    refine opsP_F (by simp (disch := decide) only [slotOf_zero, slotOf_succ, Option.map_some, puts_same, puts_ne, gv_bool, gv_undef, tt, tf, ft, ff, eq_self, if_true, if_false, Bool.false_eq_true, Bool.not_true, Bool.not_false, g1, g2]; rfl) (fun g3 => ?_) (fun g3 => ?_)
    ·try simp -implicitDefEqProofs (disch := first | decide | assumption | (simp (disch := decide) only [slotOf_zero, slotOf_succ, Option.map_some, puts_same, puts_ne, gv_bool, gv_undef, tt, tf, ft, ff, eq_self, if_true, if_false, Bool.false_eq_true, Bool.not_true, Bool.not_false, g1, g2, g3]; done) | omega) only [go_sem, g1, g2, g3, eq_self, if_true, if_false, Bool.false_eq_true]
     refine hK _ _ ?_
     clear hK K
     refine den_stop ?_
     refine ⟨?_, rfl⟩
     first | (simp (disch := decide) only [go_sem, g1, g2, g3, eq_self, Bool.true_and, Bool.and_true, Bool.false_and, Bool.and_false, Bool.true_or, Bool.or_true, Bool.false_or, Bool.or_false, if_true, if_false, Bool.false_eq_true]; done) | simp [HasL, sel, puts_at, g1, g2, g3]
    ·try simp -implicitDefEqProofs (disch := first | decide | assumption | (simp (disch := decide) only [slotOf_zero, slotOf_succ, Option.map_some, puts_same, puts_ne, gv_bool, gv_undef, tt, tf, ft, ff, eq_self, if_true, if_false, Bool.false_eq_true, Bool.not_true, Bool.not_false, g1, g2, g3]; done) | omega) only [go_sem, g1, g2, g3, eq_self, if_true, if_false, Bool.false_eq_true]
     refine hK _ _ ?_
     clear hK K
     refine den_stop ?_
     refine ⟨?_, rfl⟩
     first | (simp (disch := decide) only [go_sem, g1, g2, g3, eq_self, Bool.true_and, Bool.and_true, Bool.false_and, Bool.and_false, Bool.true_or, Bool.or_true, Bool.false_or, Bool.or_false, if_true, if_false, Bool.false_eq_true]; done) | simp [HasL, sel, puts_at, g1, g2, g3]
   ·try simp -implicitDefEqProofs (disch := first | decide | assumption | (simp (disch := decide) only [slotOf_zero, slotOf_succ, Option.map_some, puts_same, puts_ne, gv_bool, gv_undef, tt, tf, ft, ff, eq_self, if_true, if_false, Bool.false_eq_true, Bool.not_true, Bool.not_false, g1, g2]; done) | omega) only [go_sem, g1, g2, eq_self, if_true, if_false, Bool.false_eq_true]
    try simp -implicitDefEqProofs (disch := first | decide | assumption | (simp (disch := decide) only [slotOf_zero, slotOf_succ, Option.map_some, puts_same, puts_ne, gv_bool, gv_undef, tt, tf, ft, ff, eq_self, if_true, if_false, Bool.false_eq_true, Bool.not_true, Bool.not_false, g1, g2]; done) | omega) only [go_sem, g1, g2, eq_self, if_true, if_false, Bool.false_eq_true]
    refine hK _ _ ?_
    clear hK K
    refine den_stop ?_
    refine ⟨?_, rfl⟩
    first | (simp (disch := decide) only [go_sem, g1, g2, eq_self, Bool.true_and, Bool.and_true, Bool.false_and, Bool.and_false, Bool.true_or, Bool.or_true, Bool.false_or, Bool.or_false, if_true, if_false, Bool.false_eq_true]; done) | simp [HasL, sel, puts_at, g1, g2]
  ·try simp -implicitDefEqProofs (disch := first | decide | assumption | (simp (disch := decide) only [slotOf_zero, slotOf_succ, Option.map_some, puts_same, puts_ne, gv_bool, gv_undef, tt, tf, ft, ff, eq_self, if_true, if_false, Bool.false_eq_true, Bool.not_true, Bool.not_false, g1]; done) | omega) only [go_sem, g1, eq_self, if_true, if_false, Bool.false_eq_true]
   try simp -implicitDefEqProofs (disch := first | decide | assumption | (simp (disch := decide) only [slotOf_zero, slotOf_succ, Option.map_some, puts_same, puts_ne, gv_bool, gv_undef, tt, tf, ft, ff, eq_self, if_true, if_false, Bool.false_eq_true, Bool.not_true, Bool.not_false, g1]; done) | omega) only [go_sem, g1, eq_self, if_true, if_false, Bool.false_eq_true]
   try simp -implicitDefEqProofs (disch := first | decide | assumption | (simp (disch := decide) only [slotOf_zero, slotOf_succ, Option.map_some, puts_same, puts_ne, gv_bool, gv_undef, tt, tf, ft, ff, eq_self, if_true, if_false, Bool.false_eq_true, Bool.not_true, Bool.not_false, g1]; done) | omega) only [go_sem, g1, eq_self, if_true, if_false, Bool.false_eq_true]
   refine hK _ _ ?_
   clear hK K
   refine den_stop ?_
   refine ⟨?_, rfl⟩
   first | (simp (disch := decide) only [go_sem, g1, eq_self, Bool.true_and, Bool.and_true, Bool.false_and, Bool.and_false, Bool.true_or, Bool.or_true, Bool.false_or, Bool.or_false, if_true, if_false, Bool.false_eq_true]; done) | simp [HasL, sel, puts_at, g1]
 intro en4
 simp (disch := decide) only [go_sem]
 refine den_ret ?_
 simp (disch := decide) only [resP_1, puts_same, puts_ne]
 exact ⟨by first | rfl | trivial, trivial⟩

set_option maxRecDepth 100000 in
theorem size1_ok (v : Value) (xs : List Int) (h : Heap) (hv : R1 h v xs) : CallA Try.prog 65 #[v] h fun v h' => v = .int .i64 (xs.length : Int) ∧ h' = h := by
 have hle := RdS.le hv
 refine callA_intro TTok (args := [_]) Try.func65 (by kernel_rfl) rfl 5 rfl (by simp) [.tmp 2] rfl ?_
 simp only [idxs, Nat.reduceAdd]
 refine den_seq ?_
 refine den_region TTok ?_
 intro K hK
 simp -implicitDefEqProofs (disch := first | decide | assumption | omega) only [go_sem, RdS.len hv sl22, RdS.idx hv sl22, R1.intB hv (HPres.refl _), RdS.cells hv, wrap_id]
 refine hK _ _ ?_
 clear hK K
 refine den_seq ?_
 refine den_region TTok ?_
 intro K hK
 simp -implicitDefEqProofs (disch := first | decide | assumption | omega) only [go_sem, RdS.len hv sl22, RdS.idx hv sl22, R1.intB hv (HPres.refl _), RdS.cells hv, wrap_id]
 refine hK _ _ ?_
 clear hK K
 refine den_ret ?_
 simp (disch := decide) only [resP_1, puts_same, puts_ne]
 exact ⟨by first | rfl | trivial, trivial⟩

set_option maxRecDepth 100000 in
theorem size2_ok (v : Value) (xs : List (List Int)) (h : Heap) (hv : R2 h v xs) : CallA Try.prog 51 #[v] h fun v h' => v = .int .i64 (xs.length : Int) ∧ h' = h := by
 have hle := RdS.le hv
 refine callA_intro TTok (args := [_]) Try.func51 (by kernel_rfl) rfl 5 rfl (by simp) [.tmp 2] rfl ?_
 simp only [idxs, Nat.reduceAdd]
 refine den_seq ?_
 refine den_region TTok ?_
 intro K hK
 simp -implicitDefEqProofs (disch := first | decide | assumption | omega) only [go_sem, RdS.len hv sl27, RdS.idx hv sl27, RdS.cellB hv (HPres.refl _), RdS.cells hv, wrap_id]
 refine hK _ _ ?_
 clear hK K
 refine den_seq ?_
 refine den_region TTok ?_
 intro K hK
 simp -implicitDefEqProofs (disch := first | decide | assumption | omega) only [go_sem, RdS.len hv sl27, RdS.idx hv sl27, RdS.cellB hv (HPres.refl _), RdS.cells hv, wrap_id]
 refine hK _ _ ?_
 clear hK K
 refine den_ret ?_
 simp (disch := decide) only [resP_1, puts_same, puts_ne]
 exact ⟨by first | rfl | trivial, trivial⟩

set_option maxRecDepth 100000 in
theorem size3_ok (v : Value) (xs : List (List (List Int))) (h : Heap) (hv : R3 h v xs) : CallA Try.prog 48 #[v] h fun v h' => v = .int .i64 (xs.length : Int) ∧ h' = h := by
 have hle := RdS.le hv
 refine callA_intro TTok (args := [_]) Try.func48 (by kernel_rfl) rfl 5 rfl (by simp) [.tmp 2] rfl ?_
 simp only [idxs, Nat.reduceAdd]
 refine den_seq ?_
 refine den_region TTok ?_
 intro K hK
 simp -implicitDefEqProofs (disch := first | decide | assumption | omega) only [go_sem, RdS.len hv sl23, RdS.idx hv sl23, RdS.cellB hv (HPres.refl _), RdS.cells hv, wrap_id]
 refine hK _ _ ?_
 clear hK K
 refine den_seq ?_
 refine den_region TTok ?_
 intro K hK
 simp -implicitDefEqProofs (disch := first | decide | assumption | omega) only [go_sem, RdS.len hv sl23, RdS.idx hv sl23, RdS.cellB hv (HPres.refl _), RdS.cells hv, wrap_id]
 refine hK _ _ ?_
 clear hK K
 refine den_ret ?_
 simp (disch := decide) only [resP_1, puts_same, puts_ne]
 exact ⟨by first | rfl | trivial, trivial⟩

set_option maxRecDepth 100000 in
theorem top_ok (v : Value) (X : Cx) (h : Heap) (hv : RC h v X) : CallA Try.prog 47 #[v] h fun v h' => v = .int .i64 ((X.dims.length : Int) - 1) ∧ Ext h h' := by
 obtain ⟨vd, vm, rfl, hd, hm⟩ := hv
 have hle := RdS.le hd
 refine callA_intro TTok (args := [_]) Try.func47 (by kernel_rfl) rfl 7 rfl (by simp) [.tmp 2] rfl ?_
 simp only [idxs, Nat.reduceAdd]
 refine den_seq ?_
 refine den_region TTok ?_
 intro K hK
 simp -implicitDefEqProofs (disch := first | decide | assumption | omega) only [go_sem, RdS.len hd sl22, RdS.idx hd sl22, R1.intB hd (HPres.refl _), RdS.cells hd, RdS.len hm sl23, RdS.idx hm sl23, RdS.cellB hm (HPres.refl _), RdS.cells hm, wrap_id]
 refine op_box (cs := #[.int .i64 (X.p), vd, vm]) rfl ?_
 intro h0_0 e0_0 hb0_0 z0_0
 replace hd := RdS.pres hd (Ext.pres e0_0)
 replace hm := RdS.pres hm (Ext.pres e0_0)
 try simp -implicitDefEqProofs (disch := first | decide | assumption | omega) only [go_sem, RdS.len hd sl22, RdS.idx hd sl22, R1.intB hd (HPres.refl _), RdS.cells hd, RdS.len hm sl23, RdS.idx hm sl23, RdS.cellB hm (HPres.refl _), RdS.cells hm, BoxAt.cell hb0_0, wrap_id]
 refine hK _ _ ?_
 clear hK K
 refine den_seq ?_
 refine den_region TTok ?_
 intro K hK
 simp -implicitDefEqProofs (disch := first | decide | assumption | omega) only [go_sem, fa33_1, ld22, RdS.len hd sl22, RdS.idx hd sl22, R1.intB hd (HPres.refl _), RdS.cells hd, RdS.len hm sl23, RdS.idx hm sl23, RdS.cellB hm (HPres.refl _), RdS.cells hm, BoxAt.cell hb0_0, wrap_id]
 try simp -implicitDefEqProofs (disch := first | decide | assumption | omega) only [go_sem, RdS.len hd sl22, RdS.idx hd sl22, R1.intB hd (HPres.refl _), RdS.cells hd, RdS.len hm sl23, RdS.idx hm sl23, RdS.cellB hm (HPres.refl _), RdS.cells hm, BoxAt.cell hb0_0, wrap_id]
 refine CallA.pure (size1_ok _ _ _ hd) ?_
 try simp -implicitDefEqProofs (disch := first | decide | assumption | omega) only [go_sem, RdS.len hd sl22, RdS.idx hd sl22, R1.intB hd (HPres.refl _), RdS.cells hd, RdS.len hm sl23, RdS.idx hm sl23, RdS.cellB hm (HPres.refl _), RdS.cells hm, BoxAt.cell hb0_0, wrap_id]
 refine hK _ _ ?_
 clear hK K
 refine den_ret ?_
 simp (disch := decide) only [resP_1, puts_same, puts_ne]
 exact ⟨trivial, e0_0⟩

set_option maxRecDepth 100000 in
theorem sDim_ok (v : Value) (X : Cx) (n : Int) (h : Heap) (hv : RC h v X) : CallA Try.prog 43 #[v, .int .i64 n] h fun v h' => v = .int .i64 (dimP X n) ∧ Ext h h' := by
 obtain ⟨vd, vm, rfl, hd, hm⟩ := hv
 have hle := RdS.le hd
 refine callA_intro TTok (args := [_, _]) Try.func43 (by kernel_rfl) rfl 17 rfl (by simp) [.tmp 4] rfl ?_
 simp only [idxs, Nat.reduceAdd]
 refine den_seq ?_
 refine den_region TTok ?_
 intro K hK
 simp -implicitDefEqProofs (disch := first | decide | assumption | omega) only [go_sem, RdS.len hd sl22, RdS.idx hd sl22, R1.intB hd (HPres.refl _), RdS.cells hd, RdS.len hm sl23, RdS.idx hm sl23, RdS.cellB hm (HPres.refl _), RdS.cells hm, wrap_id]
 refine op_box (cs := #[.int .i64 (X.p), vd, vm]) rfl ?_
 intro h0_0 e0_0 hb0_0 z0_0
 replace hd := RdS.pres hd (Ext.pres e0_0)
 replace hm := RdS.pres hm (Ext.pres e0_0)
 try simp -implicitDefEqProofs (disch := first | decide | assumption | omega) only [go_sem, RdS.len hd sl22, RdS.idx hd sl22, R1.intB hd (HPres.refl _), RdS.cells hd, RdS.len hm sl23, RdS.idx hm sl23, RdS.cellB hm (HPres.refl _), RdS.cells hm, BoxAt.cell hb0_0, wrap_id]
 refine hK _ _ ?_
 clear hK K
 refine den_seq ?_
 refine den_seq ?_
 refine den_region TTok ?_
 intro K hK
 simp -implicitDefEqProofs (disch := first | decide | assumption | omega) only [go_sem, fa33_1, ld22, RdS.len hd sl22, RdS.idx hd sl22, R1.intB hd (HPres.refl _), RdS.cells hd, RdS.len hm sl23, RdS.idx hm sl23, RdS.cellB hm (HPres.refl _), RdS.cells hm, BoxAt.cell hb0_0, wrap_id]
 try simp -implicitDefEqProofs (disch := first | decide | assumption | omega) only [go_sem, RdS.len hd sl22, RdS.idx hd sl22, R1.intB hd (HPres.refl _), RdS.cells hd, RdS.len hm sl23, RdS.idx hm sl23, RdS.cellB hm (HPres.refl _), RdS.cells hm, BoxAt.cell hb0_0, wrap_id]
 refine CallA.pure (sIn_ok _ _ _ _) ?_
 try simp -implicitDefEqProofs (disch := first | decide | assumption | omega) only [go_sem, RdS.len hd sl22, RdS.idx hd sl22, R1.intB hd (HPres.refl _), RdS.cells hd, RdS.len hm sl23, RdS.idx hm sl23, RdS.cellB hm (HPres.refl _), RdS.cells hm, BoxAt.cell hb0_0, wrap_id]
 refine hK _ _ ?_
 clear hK K
 refine den_cond rfl (fun c0 => ?_) (fun c0 => ?_)
 ·try simp only [decide_eq_true_eq, decide_eq_false_iff_not, beq_iff_eq, beq_eq_false_iff_ne, bne_iff_ne, ne_eq, Bool.not_eq_true', Bool.not_eq_false', Bool.and_eq_true, Bool.or_eq_true, bne_eq_false_iff_eq, in3_iff, in3_f] at c0
  refine den_seq ?_
  refine den_region TTok ?_
  intro K hK
  simp -implicitDefEqProofs (disch := first | decide | assumption | omega) only [go_sem, RdS.len hd sl22, RdS.idx hd sl22, R1.intB hd (HPres.refl _), RdS.cells hd, RdS.len hm sl23, RdS.idx hm sl23, RdS.cellB hm (HPres.refl _), RdS.cells hm, BoxAt.cell hb0_0, wrap_id]
  refine hK _ _ ?_
  clear hK K
  refine den_ret ?_
  simp (disch := decide) only [resP_1, puts_same, puts_ne]
  exact ⟨vint (by rw [dimP, if_neg (by rw [in3_iff]; omega)]), e0_0⟩
 ·try simp only [decide_eq_true_eq, decide_eq_false_iff_not, beq_iff_eq, beq_eq_false_iff_ne, bne_iff_ne, ne_eq, Bool.not_eq_true', Bool.not_eq_false', Bool.and_eq_true, Bool.or_eq_true, bne_eq_false_iff_eq, in3_iff, in3_f] at c0
  refine den_skip ?_
  refine den_seq ?_
  refine den_region TTok ?_
  intro K hK
  simp -implicitDefEqProofs (disch := first | decide | assumption | omega) only [go_sem, fa33_1, ld22, ld2, RdS.len hd sl22, RdS.idx hd sl22, R1.intB hd (HPres.refl _), RdS.cells hd, RdS.len hm sl23, RdS.idx hm sl23, RdS.cellB hm (HPres.refl _), RdS.cells hm, BoxAt.cell hb0_0, wrap_id]
  refine hK _ _ ?_
  clear hK K
  refine den_ret ?_
  simp (disch := decide) only [resP_1, puts_same, puts_ne]
  exact ⟨vint (by rw [dimP, if_pos (by rw [in3_iff]; omega)]), e0_0⟩

set_option maxRecDepth 100000 in
theorem iDim_ok (v : Value) (X : Cx) (n : Int) (h : Heap) (hv : RC h v X) : CallA Try.prog 23 #[v, .int .i64 n] h fun v h' => v = .int .i64 (dimP X n) ∧ Ext h h' := by
 obtain ⟨vd, vm, rfl, hd, hm⟩ := hv
 have hle := RdS.le hd
 refine callA_intro TTok (args := [_, _]) Try.func23 (by kernel_rfl) rfl 15 rfl (by simp) [.tmp 4] rfl ?_
 simp only [idxs, Nat.reduceAdd]
 refine den_seq ?_
 refine den_region TTok ?_
 intro K hK
 simp -implicitDefEqProofs (disch := first | decide | assumption | omega) only [go_sem, RdS.len hd sl22, RdS.idx hd sl22, R1.intB hd (HPres.refl _), RdS.cells hd, RdS.len hm sl23, RdS.idx hm sl23, RdS.cellB hm (HPres.refl _), RdS.cells hm, wrap_id]
 refine op_box (cs := #[.int .i64 (X.p), vd, vm]) rfl ?_
 intro h0_0 e0_0 hb0_0 z0_0
 replace hd := RdS.pres hd (Ext.pres e0_0)
 replace hm := RdS.pres hm (Ext.pres e0_0)
 try simp -implicitDefEqProofs (disch := first | decide | assumption | omega) only [go_sem, RdS.len hd sl22, RdS.idx hd sl22, R1.intB hd (HPres.refl _), RdS.cells hd, RdS.len hm sl23, RdS.idx hm sl23, RdS.cellB hm (HPres.refl _), RdS.cells hm, BoxAt.cell hb0_0, wrap_id]
 refine hK _ _ ?_
 clear hK K
 refine den_seq ?_
 refine den_seq ?_
 refine den_region TTok ?_
 intro K hK
 simp -implicitDefEqProofs (disch := first | decide | assumption | omega) only [go_sem, ld33, RdS.len hd sl22, RdS.idx hd sl22, R1.intB hd (HPres.refl _), RdS.cells hd, RdS.len hm sl23, RdS.idx hm sl23, RdS.cellB hm (HPres.refl _), RdS.cells hm, BoxAt.cell hb0_0, wrap_id]
 try simp -implicitDefEqProofs (disch := first | decide | assumption | omega) only [go_sem, RdS.len hd sl22, RdS.idx hd sl22, R1.intB hd (HPres.refl _), RdS.cells hd, RdS.len hm sl23, RdS.idx hm sl23, RdS.cellB hm (HPres.refl _), RdS.cells hm, BoxAt.cell hb0_0, wrap_id]
 refine CallA.mono (top_ok _ X _ ⟨_, _, rfl, hd, hm⟩) ?_
 intro v_ h1_2
 rintro ⟨rfl, e1_2⟩
 have := Ext.size e1_2
 have eB := e1_2
 try simp -implicitDefEqProofs (disch := first | decide | assumption | omega) only [go_sem, RdS.len hd sl22, RdS.idx hd sl22, R1.intB hd (Ext.pres eB), RdS.cells hd, RdS.len hm sl23, RdS.idx hm sl23, RdS.cellB hm (Ext.pres eB), RdS.cells hm, BoxAt.cellB hb0_0 eB, wrap_id]
 try simp -implicitDefEqProofs (disch := first | decide | assumption | omega) only [go_sem, RdS.len hd sl22, RdS.idx hd sl22, R1.intB hd (Ext.pres eB), RdS.cells hd, RdS.len hm sl23, RdS.idx hm sl23, RdS.cellB hm (Ext.pres eB), RdS.cells hm, BoxAt.cellB hb0_0 eB, wrap_id]
 refine CallA.pure (iIn_ok _ _ _ _) ?_
 try simp -implicitDefEqProofs (disch := first | decide | assumption | omega) only [go_sem, RdS.len hd sl22, RdS.idx hd sl22, R1.intB hd (Ext.pres eB), RdS.cells hd, RdS.len hm sl23, RdS.idx hm sl23, RdS.cellB hm (Ext.pres eB), RdS.cells hm, BoxAt.cellB hb0_0 eB, wrap_id]
 refine hK _ _ ?_
 clear hK K
 refine den_cond rfl (fun c0 => ?_) (fun c0 => ?_)
 ·try simp only [decide_eq_true_eq, decide_eq_false_iff_not, beq_iff_eq, beq_eq_false_iff_ne, bne_iff_ne, ne_eq, Bool.not_eq_true', Bool.not_eq_false', Bool.and_eq_true, Bool.or_eq_true, bne_eq_false_iff_eq, in3_iff, in3_f] at c0
  refine den_seq ?_
  refine den_region TTok ?_
  intro K hK
  simp -implicitDefEqProofs (disch := first | decide | assumption | omega) only [go_sem, RdS.len hd sl22, RdS.idx hd sl22, R1.intB hd (Ext.pres eB), RdS.cells hd, RdS.len hm sl23, RdS.idx hm sl23, RdS.cellB hm (Ext.pres eB), RdS.cells hm, BoxAt.cellB hb0_0 eB, wrap_id]
  refine hK _ _ ?_
  clear hK K
  refine den_ret ?_
  simp (disch := decide) only [resP_1, puts_same, puts_ne]
  exact ⟨vint (by rw [dimP, if_neg (by rw [in3_iff]; omega)]), (Ext.trans e0_0 eB)⟩
 ·try simp only [decide_eq_true_eq, decide_eq_false_iff_not, beq_iff_eq, beq_eq_false_iff_ne, bne_iff_ne, ne_eq, Bool.not_eq_true', Bool.not_eq_false', Bool.and_eq_true, Bool.or_eq_true, bne_eq_false_iff_eq, in3_iff, in3_f] at c0
  refine den_skip ?_
  refine den_seq ?_
  refine den_region TTok ?_
  intro K hK
  simp -implicitDefEqProofs (disch := first | decide | assumption | omega) only [go_sem, fa33_1, ld22, ld2, RdS.len hd sl22, RdS.idx hd sl22, R1.intB hd (Ext.pres eB), RdS.cells hd, RdS.len hm sl23, RdS.idx hm sl23, RdS.cellB hm (Ext.pres eB), RdS.cells hm, BoxAt.cellB hb0_0 eB, wrap_id]
  refine hK _ _ ?_
  clear hK K
  refine den_ret ?_
  simp (disch := decide) only [resP_1, puts_same, puts_ne]
  exact ⟨vint (by rw [dimP, if_pos (by rw [in3_iff]; omega)]), (Ext.trans e0_0 eB)⟩
end Go.Proofs.Ytkdnnfkdgmblgaa

namespace Go.Proofs.Ytkdnnfkdgmblgaa
open Go
theorem all_step {α : Type} {f : α → Bool} {xs : List α} {d : α} {k : Nat} (hk : k < xs.length) (h : (xs.take k).all f = true) (e : f (xs.getD k d) = true) : (xs.take (k + 1)).all f = true := by
 rw [List.getD_eq_getElem?_getD, List.getElem?_eq_getElem hk] at e
 simp only [Option.getD_some] at e
 rw [List.take_succ_eq_append_getElem hk, List.all_append, h]
 simp [e]
theorem all_stop {α : Type} {f : α → Bool} {xs : List α} {d : α} {k : Nat} (hk : k < xs.length) (e : f (xs.getD k d) = false) : xs.all f = false := by
 rw [List.getD_eq_getElem?_getD, List.getElem?_eq_getElem hk] at e
 simp only [Option.getD_some] at e
 rw [List.all_eq_false]
 exact ⟨_, List.getElem_mem hk, by simp [e]⟩
theorem all_end {α : Type} {f : α → Bool} {xs : List α} {k : Nat} (hk : ¬ k < xs.length) (h : (xs.take k).all f = true) : xs.all f = true := by rwa [List.take_of_length_le (by omega)] at h
theorem all_at {α : Type} {f : α → Bool} {xs : List α} {d : α} {k : Nat} (h : xs.all f = true) (hk : k < xs.length) : f (xs.getD k d) = true := by
 rw [List.getD_eq_getElem?_getD, List.getElem?_eq_getElem hk]
 exact List.all_eq_true.1 h _ (List.getElem_mem hk)
def mix {α : Type} (A B : List α) (m : Nat) : List α := A.take m ++ B.drop m
theorem mix_len {α : Type} (A B : List α) (m : Nat) (h : A.length = B.length) : (mix A B m).length = B.length := by
 simp [mix, List.length_take, List.length_drop]; omega
theorem mix_get {α : Type} (A B : List α) (m : Nat) (d : α) (h : A.length = B.length) (hm : m < B.length) : (mix A B m).getD m d = B.getD m d := by
 rw [List.getD_eq_getElem?_getD, List.getD_eq_getElem?_getD, mix, List.getElem?_append_right (by rw [List.length_take]; omega), List.length_take, Nat.min_eq_left (by omega), List.getElem?_drop]
 simp
theorem mix_set {α : Type} (A B : List α) (m : Nat) (d : α) (h : A.length = B.length) (hm : m < B.length) : (mix A B m).set m (A.getD m d) = mix A B (m + 1) := by
 have hl : (A.take m).length = m := by rw [List.length_take]; omega
 rw [mix, mix, List.set_append_right _ _ (by omega), hl, Nat.sub_self, List.drop_eq_getElem_cons hm, List.set_cons_zero, List.take_succ_eq_append_getElem (by omega), List.append_assoc, List.getD_eq_getElem?_getD, List.getElem?_eq_getElem (by omega)]
 rfl
theorem mix_zero {α : Type} (A B : List α) : mix A B 0 = B := by simp [mix]
theorem mix_end {α : Type} (A B : List α) (m : Nat) (h : A.length = B.length) (hm : ¬ m < B.length) : mix A B m = A := by
 rw [mix, List.take_of_length_le (by omega), List.drop_eq_nil_of_le (by omega), List.append_nil]
/-- The place of the first number other than 0. -/
def leadP : List Int → Int
 | [] => -1
 | x :: r => if x ≠ 0 then 0 else if leadP r < 0 then -1 else leadP r + 1
theorem leadP_all : ∀ {xs : List Int}, (∀ x ∈ xs, x = 0) → leadP xs = -1
 | [], _ => rfl
 | x :: r, h => by
  rw [leadP, if_neg (by simp [h x]), leadP_all (fun y hy => h y (List.mem_cons_of_mem _ hy))]; rfl
theorem leadP_at : ∀ {xs : List Int} {k : Nat}, k < xs.length → (∀ j, j < k → xs.getD j 0 = 0) → xs.getD k 0 ≠ 0 → leadP xs = k
 | x :: r, 0, _, _, h => by rw [leadP, if_pos (by simpa using h)]; rfl
 | x :: r, k + 1, hk, hz, h => by
  have := leadP_at (xs := r) (k := k) (by simpa using hk) (fun j hj => by simpa using hz (j + 1) (by omega)) (by simpa using h)
  rw [leadP, if_neg (by simpa using hz 0 (by omega)), this, if_neg (by omega)]; omega
theorem zeros_all {xs : List Int} (h : ∀ j, j < xs.length → xs.getD j 0 = 0) : ∀ x ∈ xs, x = 0 := by
 intro x hx
 obtain ⟨j, hj, rfl⟩ := List.getElem_of_mem hx
 have := h j hj
 rwa [List.getD_eq_getElem?_getD, List.getElem?_eq_getElem hj] at this
def isRow (p n : Int) (r : List Int) : Bool := decide ((r.length : Int) = n) && r.all (fun x => in3 x 0 (p - 1))
def tableP (p : Int) (rows : List (List Int)) (c w : Int) : Bool := decide ((rows.length : Int) = c) && rows.all (isRow p w)

set_option maxRecDepth 100000 in
theorem sLead_ok (v : Value) (xs : List Int) (h : Heap) (hv : R1 h v xs) : CallA Try.prog 39 #[v] h fun v h' => v = .int .i64 (leadP xs) ∧ h' = h := by
 have hle := RdS.le hv
 refine callA_intro TTok (args := [_]) Try.func39 (by kernel_rfl) rfl 16 rfl (by simp) [.tmp 2] rfl ?_
 simp only [idxs, Nat.reduceAdd]
 refine den_seq ?_
 refine den_region TTok ?_
 intro K hK
 simp -implicitDefEqProofs (disch := first | decide | assumption | omega) only [go_sem, RdS.len hv sl22, RdS.idx hv sl22, R1.intB hv (HPres.refl _), RdS.cells hv, wrap_id]
 refine hK _ _ ?_
 clear hK K
 refine den_seq ?_
 refine den_seq ?_
 refine den_region TTok ?_
 intro K hK
 simp -implicitDefEqProofs (disch := first | decide | assumption | omega) only [go_sem, RdS.len hv sl22, RdS.idx hv sl22, R1.intB hv (HPres.refl _), RdS.cells hv, wrap_id]
 refine hK _ _ ?_
 clear hK K
 refine den_block ?_
 refine den_sel [3, 0] ?_
 intro env_1
 simp only [go_sem]
 refine den_loopP (σ := Nat) (fun s => [(3, .int .i64 (s : Int))]) (fun s => s ≤ xs.length ∧ ∀ j, j < s → xs.getD j 0 = 0) (fun s => xs.length - s) 0 ?_ ?_
 ·exact ⟨rfl, by omega, fun j hj => by omega⟩
 ·rintro k ee3 ⟨hk, hz⟩
  simp only [List.cons_append, List.nil_append]
  refine den_seq ?_
  refine den_seq ?_
  refine den_region TTok ?_
  intro K hK
  simp -implicitDefEqProofs (disch := first | decide | assumption | omega) only [go_sem, RdS.len hv sl22, RdS.idx hv sl22, R1.intB hv (HPres.refl _), RdS.cells hv, wrap_id]
  refine hK _ _ ?_
  clear hK K
  refine den_cond rfl (fun c0 => ?_) (fun c0 => ?_)
  ·try simp only [decide_eq_true_eq, decide_eq_false_iff_not, beq_iff_eq, beq_eq_false_iff_ne, bne_iff_ne, ne_eq, Bool.not_eq_true', Bool.not_eq_false', Bool.and_eq_true, Bool.or_eq_true, bne_eq_false_iff_eq] at c0
   refine den_skip ?_
   refine den_seq ?_
   refine den_block ?_
   refine den_seq ?_
   refine den_region TTok ?_
   intro K hK
   simp -implicitDefEqProofs (disch := first | decide | assumption | omega) only [go_sem, ld2, RdS.len hv sl22, RdS.idx hv sl22, R1.intB hv (HPres.refl _), RdS.cells hv, wrap_id]
   refine hK _ _ ?_
   clear hK K
   refine den_cond rfl (fun c1 => ?_) (fun c1 => ?_)
   ·try simp only [decide_eq_true_eq, decide_eq_false_iff_not, beq_iff_eq, beq_eq_false_iff_ne, bne_iff_ne, ne_eq, Bool.not_eq_true', Bool.not_eq_false', Bool.and_eq_true, Bool.or_eq_true, bne_eq_false_iff_eq] at c1
    refine den_seq ?_
    refine den_region TTok ?_
    intro K hK
    simp -implicitDefEqProofs (disch := first | decide | assumption | omega) only [go_sem, RdS.len hv sl22, RdS.idx hv sl22, R1.intB hv (HPres.refl _), RdS.cells hv, wrap_id]
    refine hK _ _ ?_
    clear hK K
    refine den_ret ?_
    simp (disch := decide) only [resP_1, puts_same, puts_ne]
    exact ⟨vint (leadP_at (by omega) hz c1).symm, trivial⟩
   ·try simp only [decide_eq_true_eq, decide_eq_false_iff_not, beq_iff_eq, beq_eq_false_iff_ne, bne_iff_ne, ne_eq, Bool.not_eq_true', Bool.not_eq_false', Bool.and_eq_true, Bool.or_eq_true, bne_eq_false_iff_eq] at c1
    refine den_skip ?_
    refine den_blk ?_
    refine den_region TTok ?_
    intro K hK
    simp -implicitDefEqProofs (disch := first | decide | assumption | omega) only [go_sem, RdS.len hv sl22, RdS.idx hv sl22, R1.intB hv (HPres.refl _), RdS.cells hv, wrap_id]
    refine hK _ _ ?_
    clear hK K
    refine den_stop ?_
    exact ⟨k + 1, by simp [HasL, puts_at], ⟨rfl, by omega, fun j hj => by
     rcases Nat.lt_succ_iff_lt_or_eq.1 hj with h1 | h1
     ·exact hz j h1
     ·rw [h1]; exact c1⟩, by omega⟩
  ·try simp only [decide_eq_true_eq, decide_eq_false_iff_not, beq_iff_eq, beq_eq_false_iff_ne, bne_iff_ne, ne_eq, Bool.not_eq_true', Bool.not_eq_false', Bool.and_eq_true, Bool.or_eq_true, bne_eq_false_iff_eq] at c0
   refine den_exit ?_
   refine denX_code ?_
   refine denX_stop ?_
   refine denX_hit ?_
   refine den_seq ?_
   refine den_region TTok ?_
   intro K hK
   simp -implicitDefEqProofs (disch := first | decide | assumption | omega) only [go_sem, RdS.len hv sl22, RdS.idx hv sl22, R1.intB hv (HPres.refl _), RdS.cells hv, wrap_id]
   refine hK _ _ ?_
   clear hK K
   refine den_ret ?_
   simp (disch := decide) only [resP_1, puts_same, puts_ne]
   exact ⟨vint (leadP_all (zeros_all fun j hj => hz j (by omega))).symm, trivial⟩

set_option maxRecDepth 100000 in
theorem sTable_ok (p : Int) (v : Value) (R : List (List Int)) (c w : Int) (h : Heap) (hv : R2 h v R) (hp : -9223372036854775807 ≤ p ∧ p ≤ 9223372036854775807) : CallA Try.prog 38 #[.int .i64 p, v, .int .i64 c, .int .i64 w] h fun v h' => v = .bool (tableP p R c w) ∧ h' = h := by
 have hle := RdS.le hv
 refine callA_intro TTok (args := [_, _, _, _]) Try.func38 (by kernel_rfl) rfl 48 rfl (by simp) [.tmp 8] rfl ?_
 simp only [idxs, Nat.reduceAdd]
 refine den_seq ?_
 refine den_region TTok ?_
 intro K hK
 simp -implicitDefEqProofs (disch := first | decide | assumption | omega) only [go_sem, RdS.len hv sl27, RdS.idx hv sl27, RdS.cellB hv (HPres.refl _), RdS.cells hv, wrap_id]
 refine hK _ _ ?_
 clear hK K
 refine den_seq ?_
 refine den_seq ?_
 refine den_region TTok ?_
 intro K hK
 simp -implicitDefEqProofs (disch := first | decide | assumption | omega) only [go_sem, RdS.len hv sl27, RdS.idx hv sl27, RdS.cellB hv (HPres.refl _), RdS.cells hv, wrap_id]
 refine hK _ _ ?_
 clear hK K
 refine den_cond rfl (fun c0 => ?_) (fun c0 => ?_)
 ·try simp only [decide_eq_true_eq, decide_eq_false_iff_not, beq_iff_eq, beq_eq_false_iff_ne, bne_iff_ne, ne_eq, Bool.not_eq_true', Bool.not_eq_false', Bool.and_eq_true, Bool.or_eq_true, bne_eq_false_iff_eq] at c0
  refine den_seq ?_
  refine den_region TTok ?_
  intro K hK
  simp -implicitDefEqProofs (disch := first | decide | assumption | omega) only [go_sem, RdS.len hv sl27, RdS.idx hv sl27, RdS.cellB hv (HPres.refl _), RdS.cells hv, wrap_id]
  refine hK _ _ ?_
  clear hK K
  refine den_ret ?_
  simp (disch := decide) only [resP_1, puts_same, puts_ne]
  exact ⟨vbool (by rw [tableP, decide_eq_false (by omega)]; rfl), trivial⟩
 ·try simp only [decide_eq_true_eq, decide_eq_false_iff_not, beq_iff_eq, beq_eq_false_iff_ne, bne_iff_ne, ne_eq, Bool.not_eq_true', Bool.not_eq_false', Bool.and_eq_true, Bool.or_eq_true, bne_eq_false_iff_eq] at c0
  refine den_skip ?_
  refine den_seq ?_
  refine den_seq ?_
  refine den_region TTok ?_
  intro K hK
  simp -implicitDefEqProofs (disch := first | decide | assumption | omega) only [go_sem, RdS.len hv sl27, RdS.idx hv sl27, RdS.cellB hv (HPres.refl _), RdS.cells hv, wrap_id]
  refine hK _ _ ?_
  clear hK K
  refine den_block ?_
  refine den_sel [9, 0, 1, 3] ?_
  intro env_1
  simp only [go_sem]
  refine den_loopP (σ := Nat) (fun s => [(9, .int .i64 (s : Int))]) (fun s => s ≤ R.length ∧ (R.take s).all (isRow p w) = true) (fun s => R.length - s) 0 ?_ ?_
  ·exact ⟨rfl, by omega, by simp⟩
  ·rintro k ee3 ⟨hk, ha⟩
   simp only [List.cons_append, List.nil_append]
   refine den_seq ?_
   refine den_seq ?_
   refine den_region TTok ?_
   intro K hK
   simp -implicitDefEqProofs (disch := first | decide | assumption | omega) only [go_sem, RdS.len hv sl27, RdS.idx hv sl27, RdS.cellB hv (HPres.refl _), RdS.cells hv, wrap_id]
   refine hK _ _ ?_
   clear hK K
   refine den_cond rfl (fun c1 => ?_) (fun c1 => ?_)
   ·try simp only [decide_eq_true_eq, decide_eq_false_iff_not, beq_iff_eq, beq_eq_false_iff_ne, bne_iff_ne, ne_eq, Bool.not_eq_true', Bool.not_eq_false', Bool.and_eq_true, Bool.or_eq_true, bne_eq_false_iff_eq] at c1
    refine den_skip ?_
    refine den_seq ?_
    refine den_block ?_
    refine den_seq ?_
    refine den_seq ?_
    refine den_region TTok ?_
    intro K hK
    have hr4 := RdS.rowN hv k (by omega)
    have hlhr4 := RdS.le hr4
    simp -implicitDefEqProofs (disch := first | decide | assumption | omega) only [go_sem, ld22, RdS.len hv sl27, RdS.idx hv sl27, RdS.cellB hv (HPres.refl _), RdS.cells hv, RdS.len hr4 sl22, RdS.idx hr4 sl22, R1.intB hr4 (HPres.refl _), RdS.cells hr4, wrap_id]
    refine hK _ _ ?_
    clear hK K
    refine den_cond rfl (fun c2 => ?_) (fun c2 => ?_)
    ·try simp only [decide_eq_true_eq, decide_eq_false_iff_not, beq_iff_eq, beq_eq_false_iff_ne, bne_iff_ne, ne_eq, Bool.not_eq_true', Bool.not_eq_false', Bool.and_eq_true, Bool.or_eq_true, bne_eq_false_iff_eq] at c2
     refine den_seq ?_
     refine den_region TTok ?_
     intro K hK
     simp -implicitDefEqProofs (disch := first | decide | assumption | omega) only [go_sem, RdS.len hv sl27, RdS.idx hv sl27, RdS.cellB hv (HPres.refl _), RdS.cells hv, RdS.len hr4 sl22, RdS.idx hr4 sl22, R1.intB hr4 (HPres.refl _), RdS.cells hr4, wrap_id]
     refine hK _ _ ?_
     clear hK K
     refine den_ret ?_
     simp (disch := decide) only [resP_1, puts_same, puts_ne]
     exact ⟨vbool (by rw [tableP, all_stop (d := default) (k := k) (by omega) (by rw [isRow, decide_eq_false (by omega)]; rfl)]; simp), trivial⟩
    ·try simp only [decide_eq_true_eq, decide_eq_false_iff_not, beq_iff_eq, beq_eq_false_iff_ne, bne_iff_ne, ne_eq, Bool.not_eq_true', Bool.not_eq_false', Bool.and_eq_true, Bool.or_eq_true, bne_eq_false_iff_eq] at c2
     refine den_skip ?_
     refine den_seq ?_
     refine den_region TTok ?_
     intro K hK
     simp -implicitDefEqProofs (disch := first | decide | assumption | omega) only [go_sem, RdS.len hv sl27, RdS.idx hv sl27, RdS.cellB hv (HPres.refl _), RdS.cells hv, RdS.len hr4 sl22, RdS.idx hr4 sl22, R1.intB hr4 (HPres.refl _), RdS.cells hr4, wrap_id]
     refine hK _ _ ?_
     clear hK K
     refine den_block ?_
     refine den_sel [10, 0, 1, 3, 9] ?_
     intro env_5
     simp only [go_sem]
     refine den_loopP (σ := Nat) (fun s => [(10, .int .i64 (s : Int))]) (fun s => s ≤ (R.getD k default).length ∧ ((R.getD k default).take s).all (fun x => in3 x 0 (p - 1)) = true) (fun s => (R.getD k default).length - s) 0 ?_ ?_
     ·exact ⟨rfl, by omega, by simp⟩
     ·rintro m ee7 ⟨hm, hb⟩
      simp only [List.cons_append, List.nil_append]
      refine den_seq ?_
      refine den_seq ?_
      refine den_region TTok ?_
      intro K hK
      have hr8 := RdS.rowN hv k (by omega)
      have hlhr8 := RdS.le hr8
      simp -implicitDefEqProofs (disch := first | decide | assumption | omega) only [go_sem, ld22, RdS.len hv sl27, RdS.idx hv sl27, RdS.cellB hv (HPres.refl _), RdS.cells hv, RdS.len hr4 sl22, RdS.idx hr4 sl22, R1.intB hr4 (HPres.refl _), RdS.cells hr4, RdS.len hr8 sl22, RdS.idx hr8 sl22, R1.intB hr8 (HPres.refl _), RdS.cells hr8, wrap_id]
      refine hK _ _ ?_
      clear hK K
      refine den_cond rfl (fun c3 => ?_) (fun c3 => ?_)
      ·try simp only [decide_eq_true_eq, decide_eq_false_iff_not, beq_iff_eq, beq_eq_false_iff_ne, bne_iff_ne, ne_eq, Bool.not_eq_true', Bool.not_eq_false', Bool.and_eq_true, Bool.or_eq_true, bne_eq_false_iff_eq] at c3
       refine den_skip ?_
       refine den_seq ?_
       refine den_block ?_
       refine den_seq ?_
       refine den_region TTok ?_
       intro K hK
       have hr9 := RdS.rowN hv k (by omega)
       have hlhr9 := RdS.le hr9
       simp -implicitDefEqProofs (disch := first | decide | assumption | omega) only [go_sem, ld22, ld2, RdS.len hv sl27, RdS.idx hv sl27, RdS.cellB hv (HPres.refl _), RdS.cells hv, RdS.len hr4 sl22, RdS.idx hr4 sl22, R1.intB hr4 (HPres.refl _), RdS.cells hr4, RdS.len hr8 sl22, RdS.idx hr8 sl22, R1.intB hr8 (HPres.refl _), RdS.cells hr8, RdS.len hr9 sl22, RdS.idx hr9 sl22, R1.intB hr9 (HPres.refl _), RdS.cells hr9, wrap_id]
       try simp -implicitDefEqProofs (disch := first | decide | assumption | omega) only [go_sem, RdS.len hv sl27, RdS.idx hv sl27, RdS.cellB hv (HPres.refl _), RdS.cells hv, RdS.len hr4 sl22, RdS.idx hr4 sl22, R1.intB hr4 (HPres.refl _), RdS.cells hr4, RdS.len hr8 sl22, RdS.idx hr8 sl22, R1.intB hr8 (HPres.refl _), RdS.cells hr8, RdS.len hr9 sl22, RdS.idx hr9 sl22, R1.intB hr9 (HPres.refl _), RdS.cells hr9, wrap_id]
       refine CallA.pure (sIn_ok _ _ _ _) ?_
       try simp -implicitDefEqProofs (disch := first | decide | assumption | omega) only [go_sem, RdS.len hv sl27, RdS.idx hv sl27, RdS.cellB hv (HPres.refl _), RdS.cells hv, RdS.len hr4 sl22, RdS.idx hr4 sl22, R1.intB hr4 (HPres.refl _), RdS.cells hr4, RdS.len hr8 sl22, RdS.idx hr8 sl22, R1.intB hr8 (HPres.refl _), RdS.cells hr8, RdS.len hr9 sl22, RdS.idx hr9 sl22, R1.intB hr9 (HPres.refl _), RdS.cells hr9, wrap_id]
       refine hK _ _ ?_
       clear hK K
       refine den_cond rfl (fun c4 => ?_) (fun c4 => ?_)
       ·try simp only [decide_eq_true_eq, decide_eq_false_iff_not, beq_iff_eq, beq_eq_false_iff_ne, bne_iff_ne, ne_eq, Bool.not_eq_true', Bool.not_eq_false', Bool.and_eq_true, Bool.or_eq_true, bne_eq_false_iff_eq] at c4
        refine den_seq ?_
        refine den_region TTok ?_
        intro K hK
        simp -implicitDefEqProofs (disch := first | decide | assumption | omega) only [go_sem, RdS.len hv sl27, RdS.idx hv sl27, RdS.cellB hv (HPres.refl _), RdS.cells hv, RdS.len hr4 sl22, RdS.idx hr4 sl22, R1.intB hr4 (HPres.refl _), RdS.cells hr4, RdS.len hr8 sl22, RdS.idx hr8 sl22, R1.intB hr8 (HPres.refl _), RdS.cells hr8, RdS.len hr9 sl22, RdS.idx hr9 sl22, R1.intB hr9 (HPres.refl _), RdS.cells hr9, wrap_id]
        refine hK _ _ ?_
        clear hK K
        refine den_ret ?_
        simp (disch := decide) only [resP_1, puts_same, puts_ne]
        exact ⟨vbool (by rw [tableP, all_stop (d := default) (k := k) (by omega) (by rw [isRow, all_stop (d := 0) (k := m) (by omega) (by simpa using c4)]; simp)]; simp), trivial⟩
       ·try simp only [decide_eq_true_eq, decide_eq_false_iff_not, beq_iff_eq, beq_eq_false_iff_ne, bne_iff_ne, ne_eq, Bool.not_eq_true', Bool.not_eq_false', Bool.and_eq_true, Bool.or_eq_true, bne_eq_false_iff_eq] at c4
        refine den_skip ?_
        refine den_blk ?_
        refine den_region TTok ?_
        intro K hK
        simp -implicitDefEqProofs (disch := first | decide | assumption | omega) only [go_sem, RdS.len hv sl27, RdS.idx hv sl27, RdS.cellB hv (HPres.refl _), RdS.cells hv, RdS.len hr4 sl22, RdS.idx hr4 sl22, R1.intB hr4 (HPres.refl _), RdS.cells hr4, RdS.len hr8 sl22, RdS.idx hr8 sl22, R1.intB hr8 (HPres.refl _), RdS.cells hr8, RdS.len hr9 sl22, RdS.idx hr9 sl22, R1.intB hr9 (HPres.refl _), RdS.cells hr9, wrap_id]
        refine hK _ _ ?_
        clear hK K
        refine den_stop ?_
        exact ⟨m + 1, by simp [HasL, puts_at], ⟨rfl, by omega, all_step (d := 0) (by omega) hb (by simpa using c4)⟩, by omega⟩
      ·try simp only [decide_eq_true_eq, decide_eq_false_iff_not, beq_iff_eq, beq_eq_false_iff_ne, bne_iff_ne, ne_eq, Bool.not_eq_true', Bool.not_eq_false', Bool.and_eq_true, Bool.or_eq_true, bne_eq_false_iff_eq] at c3
       refine den_exit ?_
       refine denX_code ?_
       refine denX_stop ?_
       refine denX_hit ?_
       refine den_blk ?_
       refine den_region TTok ?_
       intro K hK
       simp -implicitDefEqProofs (disch := first | decide | assumption | omega) only [go_sem, RdS.len hv sl27, RdS.idx hv sl27, RdS.cellB hv (HPres.refl _), RdS.cells hv, RdS.len hr4 sl22, RdS.idx hr4 sl22, R1.intB hr4 (HPres.refl _), RdS.cells hr4, RdS.len hr8 sl22, RdS.idx hr8 sl22, R1.intB hr8 (HPres.refl _), RdS.cells hr8, wrap_id]
       refine hK _ _ ?_
       clear hK K
       refine den_stop ?_
       exact ⟨k + 1, by simp [HasL, puts_at], ⟨rfl, by omega, all_step (d := default) (by omega) ha (by rw [isRow, all_end (by omega) hb, decide_eq_true (by omega)]; rfl)⟩, by omega⟩
   ·try simp only [decide_eq_true_eq, decide_eq_false_iff_not, beq_iff_eq, beq_eq_false_iff_ne, bne_iff_ne, ne_eq, Bool.not_eq_true', Bool.not_eq_false', Bool.and_eq_true, Bool.or_eq_true, bne_eq_false_iff_eq] at c1
    refine den_exit ?_
    refine denX_code ?_
    refine denX_stop ?_
    refine denX_hit ?_
    refine den_seq ?_
    refine den_region TTok ?_
    intro K hK
    simp -implicitDefEqProofs (disch := first | decide | assumption | omega) only [go_sem, RdS.len hv sl27, RdS.idx hv sl27, RdS.cellB hv (HPres.refl _), RdS.cells hv, wrap_id]
    refine hK _ _ ?_
    clear hK K
    refine den_ret ?_
    simp (disch := decide) only [resP_1, puts_same, puts_ne]
    exact ⟨vbool (by rw [tableP, all_end (by omega) ha]; simpa using c0), trivial⟩
end Go.Proofs.Ytkdnnfkdgmblgaa

namespace Go.Proofs.Ytkdnnfkdgmblgaa
open Go
/-- One row, times x, is added. -/
def stepRow (p x : Int) (row acc : List Int) : List Int := List.zipWith (fun o y => (o + x * y).tmod p) acc row
def accP (p : Int) : List Int → List (List Int) → List Int → List Int
 | x :: v, r :: rows, acc => accP p v rows (stepRow p x r acc)
 | _, _, acc => acc
def Bnd (p : Int) (v : List Int) : Prop := ∀ x ∈ v, 0 ≤ x ∧ x < p
theorem Bnd.at {p : Int} {v : List Int} (h : Bnd p v) {k : Nat} (hk : k < v.length) : 0 ≤ v.getD k 0 ∧ v.getD k 0 < p := by
 rw [List.getD_eq_getElem?_getD, List.getElem?_eq_getElem hk]; exact h _ (List.getElem_mem hk)
theorem Bnd.zeros {p : Int} (hp : 0 < p) (m : Nat) : Bnd p (List.replicate m 0) := fun x hx => by
 rw [List.eq_of_mem_replicate hx]; omega
theorem stepRow_len {p x : Int} {row acc : List Int} (h : row.length = acc.length) : (stepRow p x row acc).length = acc.length := by simp [stepRow, h]
theorem stepRow_get {p x : Int} {row acc : List Int} (h : row.length = acc.length) {m : Nat} (hm : m < acc.length) : (stepRow p x row acc).getD m 0 = (acc.getD m 0 + x * row.getD m 0).tmod p := by
 simp only [stepRow, List.getD_eq_getElem?_getD, List.getElem?_zipWith, List.getElem?_eq_getElem hm, List.getElem?_eq_getElem (by omega : m < row.length), Option.getD_some]
theorem mul36 {x y p : Int} (hx : 0 ≤ x ∧ x < p) (hy : 0 ≤ y ∧ y < p) (hp : p ≤ 7) : 0 ≤ x * y ∧ x * y ≤ 36 := by
 refine ⟨Int.mul_nonneg hx.1 hy.1, ?_⟩
 have := Int.mul_le_mul (show x ≤ 6 by omega) (show y ≤ 6 by omega) hy.1 (by omega : (0 : Int) ≤ 6)
 simpa using this
theorem tmod_bnd {a p : Int} (h : 0 ≤ a) (hp : 0 < p) : 0 ≤ a.tmod p ∧ a.tmod p < p := ⟨Int.tmod_nonneg _ h, Int.tmod_lt_of_pos _ hp⟩
theorem stepRow_bnd {p x : Int} {row acc : List Int} (hp : 0 < p) (hx : 0 ≤ x) (hr : Bnd p row) (ha : Bnd p acc) : Bnd p (stepRow p x row acc) := by
 intro z hz
 rw [stepRow, List.mem_iff_getElem] at hz
 obtain ⟨i, hi, rfl⟩ := hz
 rw [List.getElem_zipWith]
 exact tmod_bnd (Int.add_nonneg (ha _ (List.getElem_mem _)).1 (Int.mul_nonneg hx (hr _ (List.getElem_mem _)).1)) hp
theorem step_set {p x : Int} {row acc : List Int} {m : Nat} (h : row.length = acc.length) (hm : m < acc.length) :
  (mix (stepRow p x row acc) acc m).set m (((mix (stepRow p x row acc) acc m).getD m 0 + x * row.getD m 0).tmod p) = mix (stepRow p x row acc) acc (m + 1) := by
 rw [mix_get _ _ _ _ (stepRow_len h) hm, ← stepRow_get h hm, mix_set _ _ _ _ (stepRow_len h) hm]
theorem drop_get {α : Type} {xs : List α} {k : Nat} (d : α) (hk : k < xs.length) : xs.drop k = xs.getD k d :: xs.drop (k + 1) := by
 rw [List.drop_eq_getElem_cons hk, List.getD_eq_getElem?_getD, List.getElem?_eq_getElem hk]; rfl
theorem accP_step {p : Int} {v : List Int} {rows : List (List Int)} {acc : List Int} {k : Nat} (hk : k < v.length) (hr : k < rows.length) : accP p (v.drop k) (rows.drop k) acc = accP p (v.drop (k + 1)) (rows.drop (k + 1)) (stepRow p (v.getD k 0) (rows.getD k default) acc) := by
 rw [drop_get 0 hk, drop_get default hr]; rfl
theorem accP_end {p : Int} {v : List Int} {rows : List (List Int)} {acc : List Int} {k : Nat} (hk : ¬ k < v.length) : accP p (v.drop k) (rows.drop k) acc = acc := by
 rw [List.drop_eq_nil_of_le (by omega)]
 cases rows.drop k <;> rfl
/-- Rows of w numbers modulo p. -/
def Tbl (p w : Int) (rows : List (List Int)) : Prop := ∀ r ∈ rows, (r.length : Int) = w ∧ Bnd p r
theorem Tbl.at {p w : Int} {rows : List (List Int)} (h : Tbl p w rows) {k : Nat} (hk : k < rows.length) : ((rows.getD k default).length : Int) = w ∧ Bnd p (rows.getD k default) := h _ (getD_mem hk)
theorem isRow_iff {p n : Int} {r : List Int} : isRow p n r = true ↔ (r.length : Int) = n ∧ Bnd p r := by
 simp only [isRow, Bool.and_eq_true, decide_eq_true_eq, List.all_eq_true, in3_iff, Bnd]
 constructor <;> rintro ⟨h1, h2⟩ <;> exact ⟨h1, fun x hx => by have := h2 x hx; omega⟩
theorem tableP_iff {p : Int} {rows : List (List Int)} {c w : Int} : tableP p rows c w = true ↔ (rows.length : Int) = c ∧ Tbl p w rows := by
 simp only [tableP, Bool.and_eq_true, decide_eq_true_eq, List.all_eq_true, isRow_iff, Tbl]
set_option maxRecDepth 100000 in
theorem sApply_ok (p : Int) (vr vv : Value) (rows : List (List Int)) (v : List Int) (w : Int) (h : Heap) (hv : R1 h vv v) (hr : R2 h vr rows) (hp : 0 < p ∧ p ≤ 7) (hw : 0 ≤ w ∧ w ≤ 1048576) (hl : v.length ≤ rows.length) (hv0 : Bnd p v) (hr0 : Tbl p w rows) : CallA Try.prog 40 #[.int .i64 p, vr, vv, .int .i64 w] h fun v' h' => ∃ f, O1 h' v' (accP p v rows (List.replicate w.toNat 0)) f ∧ Fresh h.size f ∧ Ext h h' := by
 have hle := RdS.le hv
 refine callA_intro TTok (args := [_, _, _, _]) Try.func40 (by kernel_rfl) rfl 49 rfl (by simp) [.tmp 8] rfl ?_
 simp only [idxs, Nat.reduceAdd]
 refine den_seq ?_
 refine den_region TTok ?_
 intro K hK
 simp -implicitDefEqProofs (disch := first | decide | assumption | omega) only [go_sem, RdS.len hr sl27, RdS.idx hr sl27, RdS.cellB hr (HPres.refl _), RdS.cells hr, RdS.len hv sl22, RdS.idx hv sl22, R1.intB hv (HPres.refl _), RdS.cells hv, wrap_id]
 refine hK _ _ ?_
 clear hK K
 refine den_seq ?_
 refine den_region TTok ?_
 intro K hK
 simp -implicitDefEqProofs (disch := first | decide | assumption | omega) only [go_sem, RdS.len hr sl27, RdS.idx hr sl27, RdS.cellB hr (HPres.refl _), RdS.cells hr, RdS.len hv sl22, RdS.idx hv sl22, R1.intB hv (HPres.refl _), RdS.cells hv, wrap_id]
 refine op_make sz22 rfl rfl (by omega) (by omega) OI 0 (fun _ => ⟨rfl, rfl⟩) ?_
 intro v1_1 h1_1 ho1_1 e1_1
 have := Ext.size e1_1
 have eB := e1_1
 try simp -implicitDefEqProofs (disch := first | decide | assumption | omega) only [go_sem, RdS.len hr sl27, RdS.idx hr sl27, RdS.cellB hr (Ext.pres eB), RdS.cells hr, RdS.len hv sl22, RdS.idx hv sl22, R1.intB hv (Ext.pres eB), RdS.cells hv, RdS.len (OS.rd ho1_1) sl22, RdS.idx (OS.rd ho1_1) sl22, R1.intN (OS.rd ho1_1), RdS.cells (OS.rd ho1_1), wrap_id]
 refine hK _ _ ?_
 clear hK K
 refine den_seq ?_
 refine den_seq ?_
 refine den_region TTok ?_
 intro K hK
 simp -implicitDefEqProofs (disch := first | decide | assumption | omega) only [go_sem, RdS.len hr sl27, RdS.idx hr sl27, RdS.cellB hr (Ext.pres eB), RdS.cells hr, RdS.len hv sl22, RdS.idx hv sl22, R1.intB hv (Ext.pres eB), RdS.cells hv, RdS.len (OS.rd ho1_1) sl22, RdS.idx (OS.rd ho1_1) sl22, R1.intN (OS.rd ho1_1), RdS.cells (OS.rd ho1_1), wrap_id]
 refine hK _ _ ?_
 clear hK K
 refine den_block ?_
 refine den_sel [10, 0, 1, 2, 9] ?_
 intro env_1
 simp only [go_sem]
 refine den_loopS (σ := Nat × List Int) (fun s => [(10, .int .i64 (s.1 : Int))]) (fun s H => Ext h H ∧ s.1 ≤ v.length ∧ O1 H v1_1 s.2 [h.size] ∧ (s.2.length : Int) = w ∧ Bnd p s.2 ∧ accP p (v.drop s.1) (rows.drop s.1) s.2 = accP p v rows (List.replicate w.toNat 0)) (fun s => v.length - s.1) (0, List.replicate w.toNat 0) ?_ ?_
 ·exact ⟨eB, by simp, by simpa using ho1_1, by simp; omega, Bnd.zeros hp.1 _, rfl⟩
 ·rintro ⟨k, acc⟩ h4 ee3 ⟨eB, hk, ho, hol, hob, hac⟩
  simp only [List.cons_append, List.nil_append]
  have := Ext.size eB
  dsimp only at hk ho hol hob hac
  refine den_seq ?_
  refine den_seq ?_
  refine den_region TTok ?_
  intro K hK
  simp -implicitDefEqProofs (disch := first | decide | assumption | omega) only [go_sem, RdS.len hr sl27, RdS.idx hr sl27, RdS.cellB hr (Ext.pres eB), RdS.cells hr, RdS.len hv sl22, RdS.idx hv sl22, R1.intB hv (Ext.pres eB), RdS.cells hv, RdS.len (OS.rd ho) sl22, RdS.idx (OS.rd ho) sl22, R1.intN (OS.rd ho), RdS.cells (OS.rd ho), wrap_id]
  refine hK _ _ ?_
  clear hK K
  refine den_cond rfl (fun c0 => ?_) (fun c0 => ?_)
  ·try simp only [decide_eq_true_eq, decide_eq_false_iff_not, beq_iff_eq, beq_eq_false_iff_ne, bne_iff_ne, ne_eq, Bool.not_eq_true', Bool.not_eq_false', Bool.and_eq_true, Bool.or_eq_true, bne_eq_false_iff_eq] at c0
   refine den_skip ?_
   refine den_seq ?_
   refine den_block ?_
   refine den_seq ?_
   refine den_region TTok ?_
   intro K hK
   simp -implicitDefEqProofs (disch := first | decide | assumption | omega) only [go_sem, RdS.len hr sl27, RdS.idx hr sl27, RdS.cellB hr (Ext.pres eB), RdS.cells hr, RdS.len hv sl22, RdS.idx hv sl22, R1.intB hv (Ext.pres eB), RdS.cells hv, RdS.len (OS.rd ho) sl22, RdS.idx (OS.rd ho) sl22, R1.intN (OS.rd ho), RdS.cells (OS.rd ho), wrap_id]
   refine hK _ _ ?_
   clear hK K
   refine den_block ?_
   refine den_sel [11, 0, 1, 2, 9, 10] ?_
   intro env_5
   simp only [go_sem]
   refine den_loopS (σ := Nat) (fun s => [(11, .int .i64 (s : Int))]) (fun s H => Ext h H ∧ s ≤ acc.length ∧ O1 H v1_1 (mix (stepRow p (v.getD k 0) (rows.getD k default) acc) acc s) [h.size]) (fun s => acc.length - s) 0 ?_ ?_
   ·exact ⟨eB, by omega, by rw [mix_zero]; exact ho⟩
   ·rintro m h8 ee7 ⟨eB, hm, ho⟩
    simp only [List.cons_append, List.nil_append]
    have := Ext.size eB
    refine den_seq ?_
    refine den_seq ?_
    have hml := mix_len (stepRow p (v.getD k 0) (rows.getD k default) acc) acc m (stepRow_len (by have := (hr0.at (k := k) (by omega)).1; omega))
    refine den_region TTok ?_
    intro K hK
    simp -implicitDefEqProofs (disch := first | decide | assumption | omega) only [go_sem, RdS.len hr sl27, RdS.idx hr sl27, RdS.cellB hr (Ext.pres eB), RdS.cells hr, RdS.len hv sl22, RdS.idx hv sl22, R1.intB hv (Ext.pres eB), RdS.cells hv, RdS.len (OS.rd ho) sl22, RdS.idx (OS.rd ho) sl22, R1.intN (OS.rd ho), RdS.cells (OS.rd ho), wrap_id]
    refine hK _ _ ?_
    clear hK K
    refine den_cond rfl (fun c1 => ?_) (fun c1 => ?_)
    ·try simp only [decide_eq_true_eq, decide_eq_false_iff_not, beq_iff_eq, beq_eq_false_iff_ne, bne_iff_ne, ne_eq, Bool.not_eq_true', Bool.not_eq_false', Bool.and_eq_true, Bool.or_eq_true, bne_eq_false_iff_eq] at c1
     refine den_skip ?_
     refine den_seq ?_
     refine den_block ?_
     have hrl := hr0.at (k := k) (by omega)
     have hx := hv0.at (k := k) (by omega)
     have hy := hrl.2.at (k := m) (by omega)
     have ho2 := hob.at (k := m) (by omega)
     have hxy := mul36 hx hy hp.2
     have hmg := mix_get (stepRow p (v.getD k 0) (rows.getD k default) acc) acc m 0 (stepRow_len (by omega)) (by omega)
     refine den_draw TTok mixed [22] [(0, true), (1, true), (2, true), (3, true), (4, true), (5, true), (6, true), (7, true), (8, true), (9, true), (10, true), (11, true), (12, true), (13, true), (14, true), (15, true), (16, true), (17, true), (18, true), (19, true), (20, true), (21, true), (22, false)] (by kernel_rfl) ?_
     intro K hK
     have hr9 := RdS.rowN hr k (by omega)
     have hlhr9 := RdS.le hr9
     simp -implicitDefEqProofs (disch := first | decide | assumption | omega) only [go_sem, ld22, ld2, RdS.len hr sl27, RdS.idx hr sl27, RdS.cellB hr (Ext.pres eB), RdS.cells hr, RdS.len hv sl22, RdS.idx hv sl22, R1.intB hv (Ext.pres eB), RdS.cells hv, RdS.len hr9 sl22, RdS.idx hr9 sl22, R1.intB hr9 (Ext.pres eB), RdS.cells hr9, RdS.len (OS.rd ho) sl22, RdS.idx (OS.rd ho) sl22, R1.intN (OS.rd ho), RdS.cells (OS.rd ho), wrap_id]
     refine op_store1 (j := m) st2 ho (by simp) (by omega) rfl rfl ?_
     intro h8 ho8 c8
     replace eB := Ext.then eB c8 (fun b hb => by simp at hb; omega)
     rw [step_set (by omega) (by omega)] at ho8
     try simp (disch := decide) only [outv_some, outv_none, put_puts]
     refine plK_last (by decide) ?_
     try simp -implicitDefEqProofs (disch := first | decide | assumption | omega) only [go_sem, RdS.len hr sl27, RdS.idx hr sl27, RdS.cellB hr (Ext.pres eB), RdS.cells hr, RdS.len hv sl22, RdS.idx hv sl22, R1.intB hv (Ext.pres eB), RdS.cells hv, RdS.len hr9 sl22, RdS.idx hr9 sl22, R1.intB hr9 (Ext.pres eB), RdS.cells hr9, RdS.len (OS.rd ho) sl22, RdS.idx (OS.rd ho) sl22, R1.intN (OS.rd ho), RdS.cells (OS.rd ho), wrap_id]
     refine hK _ _ ?_
     clear hK K
     refine den_blk ?_
     refine den_region TTok ?_
     intro K hK
     simp -implicitDefEqProofs (disch := first | decide | assumption | omega) only [go_sem, RdS.len hr sl27, RdS.idx hr sl27, RdS.cellB hr (Ext.pres eB), RdS.cells hr, RdS.len hv sl22, RdS.idx hv sl22, R1.intB hv (Ext.pres eB), RdS.cells hv, RdS.len hr9 sl22, RdS.idx hr9 sl22, R1.intB hr9 (Ext.pres eB), RdS.cells hr9, RdS.len (OS.rd ho) sl22, RdS.idx (OS.rd ho) sl22, R1.intN (OS.rd ho), RdS.cells (OS.rd ho), wrap_id]
     refine hK _ _ ?_
     clear hK K
     refine den_stop ?_
     exact ⟨m + 1, by simp [HasL, puts_at], ⟨eB, by omega, ho8⟩, by omega⟩
    ·try simp only [decide_eq_true_eq, decide_eq_false_iff_not, beq_iff_eq, beq_eq_false_iff_ne, bne_iff_ne, ne_eq, Bool.not_eq_true', Bool.not_eq_false', Bool.and_eq_true, Bool.or_eq_true, bne_eq_false_iff_eq] at c1
     refine den_exit ?_
     refine denX_code ?_
     refine denX_stop ?_
     refine denX_hit ?_
     refine den_blk ?_
     refine den_region TTok ?_
     intro K hK
     simp -implicitDefEqProofs (disch := first | decide | assumption | omega) only [go_sem, RdS.len hr sl27, RdS.idx hr sl27, RdS.cellB hr (Ext.pres eB), RdS.cells hr, RdS.len hv sl22, RdS.idx hv sl22, R1.intB hv (Ext.pres eB), RdS.cells hv, RdS.len (OS.rd ho) sl22, RdS.idx (OS.rd ho) sl22, R1.intN (OS.rd ho), RdS.cells (OS.rd ho), wrap_id]
     refine hK _ _ ?_
     clear hK K
     refine den_stop ?_
     have hrl := hr0.at (k := k) (by omega)
     rw [mix_end _ _ _ (stepRow_len (by omega)) (by omega)] at ho
     exact ⟨(k + 1, stepRow p (v.getD k 0) (rows.getD k default) acc), by simp [HasL, puts_at], ⟨eB, by dsimp only; omega, ho, by rw [stepRow_len (by omega)]; exact hol, stepRow_bnd hp.1 (hv0.at (by omega)).1 hrl.2 hob, by rw [← accP_step (by omega) (by omega)]; exact hac⟩, by dsimp only; omega⟩
  ·try simp only [decide_eq_true_eq, decide_eq_false_iff_not, beq_iff_eq, beq_eq_false_iff_ne, bne_iff_ne, ne_eq, Bool.not_eq_true', Bool.not_eq_false', Bool.and_eq_true, Bool.or_eq_true, bne_eq_false_iff_eq] at c0
   refine den_exit ?_
   refine denX_code ?_
   refine denX_stop ?_
   refine denX_hit ?_
   refine den_seq ?_
   refine den_region TTok ?_
   intro K hK
   simp -implicitDefEqProofs (disch := first | decide | assumption | omega) only [go_sem, RdS.len hr sl27, RdS.idx hr sl27, RdS.cellB hr (Ext.pres eB), RdS.cells hr, RdS.len hv sl22, RdS.idx hv sl22, R1.intB hv (Ext.pres eB), RdS.cells hv, RdS.len (OS.rd ho) sl22, RdS.idx (OS.rd ho) sl22, R1.intN (OS.rd ho), RdS.cells (OS.rd ho), wrap_id]
   refine hK _ _ ?_
   clear hK K
   refine den_ret ?_
   simp (disch := decide) only [resP_1, puts_same, puts_ne]
   rw [accP_end (by omega)] at hac
   subst hac
   exact ⟨_, ho, Fresh.one _, eB⟩

set_option maxRecDepth 100000 in
theorem iApply_ok (p : Int) (w : Int) (vv vr : Value) (v : List Int) (rows : List (List Int)) (h : Heap) (hv : R1 h vv v) (hr : R2 h vr rows) (hp : 0 < p ∧ p ≤ 7) (hw : 0 ≤ w ∧ w ≤ 1048576) (hl : v.length ≤ rows.length) (hv0 : Bnd p v) (hr0 : Tbl p w rows) : CallA Try.prog 71 #[.int .i64 p, .int .i64 w, vv, vr] h fun v' h' => ∃ f, O1 h' v' (accP p v rows (List.replicate w.toNat 0)) f ∧ Fresh h.size f ∧ Ext h h' := by
 have hle := RdS.le hv
 refine callA_intro TTok (args := [_, _, _, _]) Try.func71 (by kernel_rfl) rfl 49 rfl (by simp) [.tmp 8] rfl ?_
 simp only [idxs, Nat.reduceAdd]
 refine den_seq ?_
 refine den_region TTok ?_
 intro K hK
 simp -implicitDefEqProofs (disch := first | decide | assumption | omega) only [go_sem, RdS.len hr sl27, RdS.idx hr sl27, RdS.cellB hr (HPres.refl _), RdS.cells hr, RdS.len hv sl22, RdS.idx hv sl22, R1.intB hv (HPres.refl _), RdS.cells hv, wrap_id]
 refine hK _ _ ?_
 clear hK K
 refine den_seq ?_
 refine den_region TTok ?_
 intro K hK
 simp -implicitDefEqProofs (disch := first | decide | assumption | omega) only [go_sem, RdS.len hr sl27, RdS.idx hr sl27, RdS.cellB hr (HPres.refl _), RdS.cells hr, RdS.len hv sl22, RdS.idx hv sl22, R1.intB hv (HPres.refl _), RdS.cells hv, wrap_id]
 refine op_make sz22 rfl rfl (by omega) (by omega) OI 0 (fun _ => ⟨rfl, rfl⟩) ?_
 intro v1_1 h1_1 ho1_1 e1_1
 have := Ext.size e1_1
 have eB := e1_1
 try simp -implicitDefEqProofs (disch := first | decide | assumption | omega) only [go_sem, RdS.len hr sl27, RdS.idx hr sl27, RdS.cellB hr (Ext.pres eB), RdS.cells hr, RdS.len hv sl22, RdS.idx hv sl22, R1.intB hv (Ext.pres eB), RdS.cells hv, RdS.len (OS.rd ho1_1) sl22, RdS.idx (OS.rd ho1_1) sl22, R1.intN (OS.rd ho1_1), RdS.cells (OS.rd ho1_1), wrap_id]
 refine hK _ _ ?_
 clear hK K
 refine den_seq ?_
 refine den_seq ?_
 refine den_region TTok ?_
 intro K hK
 simp -implicitDefEqProofs (disch := first | decide | assumption | omega) only [go_sem, RdS.len hr sl27, RdS.idx hr sl27, RdS.cellB hr (Ext.pres eB), RdS.cells hr, RdS.len hv sl22, RdS.idx hv sl22, R1.intB hv (Ext.pres eB), RdS.cells hv, RdS.len (OS.rd ho1_1) sl22, RdS.idx (OS.rd ho1_1) sl22, R1.intN (OS.rd ho1_1), RdS.cells (OS.rd ho1_1), wrap_id]
 refine hK _ _ ?_
 clear hK K
 refine den_block ?_
 refine den_sel [18, 0, 3, 9, 16, 17] ?_
 intro env_1
 simp only [go_sem]
 refine den_loopS (σ := Nat × List Int) (fun s => [(18, .int .i64 (s.1 : Int))]) (fun s H => Ext h H ∧ s.1 ≤ v.length ∧ O1 H v1_1 s.2 [h.size] ∧ (s.2.length : Int) = w ∧ Bnd p s.2 ∧ accP p (v.drop s.1) (rows.drop s.1) s.2 = accP p v rows (List.replicate w.toNat 0)) (fun s => v.length - s.1) (0, List.replicate w.toNat 0) ?_ ?_
 ·exact ⟨eB, by simp, by simpa using ho1_1, by simp; omega, Bnd.zeros hp.1 _, rfl⟩
 ·rintro ⟨k, acc⟩ h4 ee3 ⟨eB, hk, ho, hol, hob, hac⟩
  simp only [List.cons_append, List.nil_append]
  have := Ext.size eB
  dsimp only at hk ho hol hob hac
  refine den_seq ?_
  refine den_region TTok ?_
  intro K hK
  simp -implicitDefEqProofs (disch := first | decide | assumption | omega) only [go_sem, RdS.len hr sl27, RdS.idx hr sl27, RdS.cellB hr (Ext.pres eB), RdS.cells hr, RdS.len hv sl22, RdS.idx hv sl22, R1.intB hv (Ext.pres eB), RdS.cells hv, RdS.len (OS.rd ho) sl22, RdS.idx (OS.rd ho) sl22, R1.intN (OS.rd ho), RdS.cells (OS.rd ho), wrap_id]
  refine hK _ _ ?_
  clear hK K
  refine den_seq ?_
  refine den_cond rfl (fun c0 => ?_) (fun c0 => ?_)
  ·try simp only [decide_eq_true_eq, decide_eq_false_iff_not, beq_iff_eq, beq_eq_false_iff_ne, bne_iff_ne, ne_eq, Bool.not_eq_true', Bool.not_eq_false', Bool.and_eq_true, Bool.or_eq_true, bne_eq_false_iff_eq] at c0
   refine den_skip ?_
   refine den_seq ?_
   refine den_block ?_
   refine den_seq ?_
   refine den_region TTok ?_
   intro K hK
   simp -implicitDefEqProofs (disch := first | decide | assumption | omega) only [go_sem, ld2, RdS.len hr sl27, RdS.idx hr sl27, RdS.cellB hr (Ext.pres eB), RdS.cells hr, RdS.len hv sl22, RdS.idx hv sl22, R1.intB hv (Ext.pres eB), RdS.cells hv, RdS.len (OS.rd ho) sl22, RdS.idx (OS.rd ho) sl22, R1.intN (OS.rd ho), RdS.cells (OS.rd ho), wrap_id]
   refine hK _ _ ?_
   clear hK K
   refine den_seq ?_
   refine den_region TTok ?_
   intro K hK
   have hr5 := RdS.rowN hr k (by omega)
   have hlhr5 := RdS.le hr5
   simp -implicitDefEqProofs (disch := first | decide | assumption | omega) only [go_sem, ld22, RdS.len hr sl27, RdS.idx hr sl27, RdS.cellB hr (Ext.pres eB), RdS.cells hr, RdS.len hv sl22, RdS.idx hv sl22, R1.intB hv (Ext.pres eB), RdS.cells hv, RdS.len hr5 sl22, RdS.idx hr5 sl22, R1.intB hr5 (Ext.pres eB), RdS.cells hr5, RdS.len (OS.rd ho) sl22, RdS.idx (OS.rd ho) sl22, R1.intN (OS.rd ho), RdS.cells (OS.rd ho), wrap_id]
   refine hK _ _ ?_
   clear hK K
   refine den_block ?_
   refine den_sel [28, 0, 3, 9, 11, 16, 17, 18, 26, 27] ?_
   intro env_6
   simp only [go_sem]
   refine den_loopS (σ := Nat) (fun s => [(28, .int .i64 (s : Int))]) (fun s H => Ext h H ∧ s ≤ acc.length ∧ O1 H v1_1 (mix (stepRow p (v.getD k 0) (rows.getD k default) acc) acc s) [h.size]) (fun s => acc.length - s) 0 ?_ ?_
   ·exact ⟨eB, by omega, by rw [mix_zero]; exact ho⟩
   ·rintro m h9 ee8 ⟨eB, hm, ho⟩
    simp only [List.cons_append, List.nil_append]
    have := Ext.size eB
    refine den_seq ?_
    have hml := mix_len (stepRow p (v.getD k 0) (rows.getD k default) acc) acc m (stepRow_len (by have := (hr0.at (k := k) (by omega)).1; omega))
    refine den_region TTok ?_
    intro K hK
    simp -implicitDefEqProofs (disch := first | decide | assumption | omega) only [go_sem, RdS.len hr sl27, RdS.idx hr sl27, RdS.cellB hr (Ext.pres eB), RdS.cells hr, RdS.len hv sl22, RdS.idx hv sl22, R1.intB hv (Ext.pres eB), RdS.cells hv, RdS.len hr5 sl22, RdS.idx hr5 sl22, R1.intB hr5 (Ext.pres eB), RdS.cells hr5, RdS.len (OS.rd ho) sl22, RdS.idx (OS.rd ho) sl22, R1.intN (OS.rd ho), RdS.cells (OS.rd ho), wrap_id]
    refine hK _ _ ?_
    clear hK K
    refine den_seq ?_
    refine den_cond rfl (fun c1 => ?_) (fun c1 => ?_)
    ·try simp only [decide_eq_true_eq, decide_eq_false_iff_not, beq_iff_eq, beq_eq_false_iff_ne, bne_iff_ne, ne_eq, Bool.not_eq_true', Bool.not_eq_false', Bool.and_eq_true, Bool.or_eq_true, bne_eq_false_iff_eq] at c1
     refine den_skip ?_
     refine den_seq ?_
     refine den_block ?_
     refine den_seq ?_
     refine den_region TTok ?_
     intro K hK
     simp -implicitDefEqProofs (disch := first | decide | assumption | omega) only [go_sem, ld2, RdS.len hr sl27, RdS.idx hr sl27, RdS.cellB hr (Ext.pres eB), RdS.cells hr, RdS.len hv sl22, RdS.idx hv sl22, R1.intB hv (Ext.pres eB), RdS.cells hv, RdS.len hr5 sl22, RdS.idx hr5 sl22, R1.intB hr5 (Ext.pres eB), RdS.cells hr5, RdS.len (OS.rd ho) sl22, RdS.idx (OS.rd ho) sl22, R1.intN (OS.rd ho), RdS.cells (OS.rd ho), wrap_id]
     refine hK _ _ ?_
     clear hK K
     have hrl := hr0.at (k := k) (by omega)
     have hx := hv0.at (k := k) (by omega)
     have hy := hrl.2.at (k := m) (by omega)
     have ho2 := hob.at (k := m) (by omega)
     have hxy := mul36 hx hy hp.2
     have hmg := mix_get (stepRow p (v.getD k 0) (rows.getD k default) acc) acc m 0 (stepRow_len (by omega)) (by omega)
     refine den_region TTok ?_
     intro K hK
     simp -implicitDefEqProofs (disch := first | decide | assumption | omega) only [go_sem, ld2, RdS.len hr sl27, RdS.idx hr sl27, RdS.cellB hr (Ext.pres eB), RdS.cells hr, RdS.len hv sl22, RdS.idx hv sl22, R1.intB hv (Ext.pres eB), RdS.cells hv, RdS.len hr5 sl22, RdS.idx hr5 sl22, R1.intB hr5 (Ext.pres eB), RdS.cells hr5, RdS.len (OS.rd ho) sl22, RdS.idx (OS.rd ho) sl22, R1.intN (OS.rd ho), RdS.cells (OS.rd ho), wrap_id]
     refine op_store1 (j := m) st2 ho (by simp) (by omega) rfl rfl ?_
     intro h8 ho8 c8
     replace eB := Ext.then eB c8 (fun b hb => by simp at hb; omega)
     rw [step_set (by omega) (by omega)] at ho8
     try simp -implicitDefEqProofs (disch := first | decide | assumption | omega) only [go_sem, RdS.len hr sl27, RdS.idx hr sl27, RdS.cellB hr (Ext.pres eB), RdS.cells hr, RdS.len hv sl22, RdS.idx hv sl22, R1.intB hv (Ext.pres eB), RdS.cells hv, RdS.len hr5 sl22, RdS.idx hr5 sl22, R1.intB hr5 (Ext.pres eB), RdS.cells hr5, RdS.len (OS.rd ho) sl22, RdS.idx (OS.rd ho) sl22, R1.intN (OS.rd ho), RdS.cells (OS.rd ho), wrap_id]
     refine hK _ _ ?_
     clear hK K
     refine den_blk ?_
     refine den_region TTok ?_
     intro K hK
     simp -implicitDefEqProofs (disch := first | decide | assumption | omega) only [go_sem, RdS.len hr sl27, RdS.idx hr sl27, RdS.cellB hr (Ext.pres eB), RdS.cells hr, RdS.len hv sl22, RdS.idx hv sl22, R1.intB hv (Ext.pres eB), RdS.cells hv, RdS.len hr5 sl22, RdS.idx hr5 sl22, R1.intB hr5 (Ext.pres eB), RdS.cells hr5, RdS.len (OS.rd ho) sl22, RdS.idx (OS.rd ho) sl22, R1.intN (OS.rd ho), RdS.cells (OS.rd ho), wrap_id]
     refine hK _ _ ?_
     clear hK K
     refine den_stop ?_
     exact ⟨m + 1, by simp [HasL, puts_at], ⟨eB, by omega, ho8⟩, by omega⟩
    ·try simp only [decide_eq_true_eq, decide_eq_false_iff_not, beq_iff_eq, beq_eq_false_iff_ne, bne_iff_ne, ne_eq, Bool.not_eq_true', Bool.not_eq_false', Bool.and_eq_true, Bool.or_eq_true, bne_eq_false_iff_eq] at c1
     refine den_exit ?_
     refine denX_code ?_
     refine denX_stop ?_
     refine denX_hit ?_
     refine den_blk ?_
     refine den_region TTok ?_
     intro K hK
     simp -implicitDefEqProofs (disch := first | decide | assumption | omega) only [go_sem, RdS.len hr sl27, RdS.idx hr sl27, RdS.cellB hr (Ext.pres eB), RdS.cells hr, RdS.len hv sl22, RdS.idx hv sl22, R1.intB hv (Ext.pres eB), RdS.cells hv, RdS.len hr5 sl22, RdS.idx hr5 sl22, R1.intB hr5 (Ext.pres eB), RdS.cells hr5, RdS.len (OS.rd ho) sl22, RdS.idx (OS.rd ho) sl22, R1.intN (OS.rd ho), RdS.cells (OS.rd ho), wrap_id]
     refine hK _ _ ?_
     clear hK K
     refine den_stop ?_
     have hrl := hr0.at (k := k) (by omega)
     rw [mix_end _ _ _ (stepRow_len (by omega)) (by omega)] at ho
     exact ⟨(k + 1, stepRow p (v.getD k 0) (rows.getD k default) acc), by simp [HasL, puts_at], ⟨eB, by dsimp only; omega, ho, by rw [stepRow_len (by omega)]; exact hol, stepRow_bnd hp.1 (hv0.at (by omega)).1 hrl.2 hob, by rw [← accP_step (by omega) (by omega)]; exact hac⟩, by dsimp only; omega⟩
  ·try simp only [decide_eq_true_eq, decide_eq_false_iff_not, beq_iff_eq, beq_eq_false_iff_ne, bne_iff_ne, ne_eq, Bool.not_eq_true', Bool.not_eq_false', Bool.and_eq_true, Bool.or_eq_true, bne_eq_false_iff_eq] at c0
   refine den_exit ?_
   refine denX_code ?_
   refine denX_stop ?_
   refine denX_hit ?_
   refine den_seq ?_
   refine den_region TTok ?_
   intro K hK
   simp -implicitDefEqProofs (disch := first | decide | assumption | omega) only [go_sem, RdS.len hr sl27, RdS.idx hr sl27, RdS.cellB hr (Ext.pres eB), RdS.cells hr, RdS.len hv sl22, RdS.idx hv sl22, R1.intB hv (Ext.pres eB), RdS.cells hv, RdS.len (OS.rd ho) sl22, RdS.idx (OS.rd ho) sl22, R1.intN (OS.rd ho), RdS.cells (OS.rd ho), wrap_id]
   refine hK _ _ ?_
   clear hK K
   refine den_ret ?_
   simp (disch := decide) only [resP_1, puts_same, puts_ne]
   rw [accP_end (by omega)] at hac
   subst hac
   exact ⟨_, ho, Fresh.one _, eB⟩
end Go.Proofs.Ytkdnnfkdgmblgaa

namespace Go.Proofs.Ytkdnnfkdgmblgaa
open Go
/-- The place of the first element that f takes. -/
def idxP {α : Type} (f : α → Bool) : List α → Int
 | [] => -1
 | x :: r => if f x = true then 0 else if idxP f r < 0 then -1 else idxP f r + 1
theorem idxP_none {α : Type} {f : α → Bool} : ∀ {xs : List α}, (∀ x ∈ xs, f x = false) → idxP f xs = -1
 | [], _ => rfl
 | x :: r, h => by
  rw [idxP, if_neg (by simp [h x]), idxP_none (fun y hy => h y (List.mem_cons_of_mem _ hy))]; rfl
theorem idxP_at {α : Type} {f : α → Bool} {d : α} : ∀ {xs : List α} {k : Nat}, k < xs.length → (∀ j, j < k → f (xs.getD j d) = false) → f (xs.getD k d) = true → idxP f xs = k
 | x :: r, 0, _, _, h => by rw [idxP, if_pos (by simpa using h)]; rfl
 | x :: r, k + 1, hk, hz, h => by
  have := idxP_at (xs := r) (k := k) (d := d) (by simpa using hk) (fun j hj => by simpa using hz (j + 1) (by omega)) (by simpa using h)
  rw [idxP, if_neg (by simpa using hz 0 (by omega)), this, if_neg (by omega)]; omega
theorem all_getD {α : Type} {P : α → Prop} {d : α} {xs : List α} (h : ∀ j, j < xs.length → P (xs.getD j d)) : ∀ x ∈ xs, P x := by
 intro x hx
 obtain ⟨j, hj, rfl⟩ := List.getElem_of_mem hx
 have := h j hj
 rwa [List.getD_eq_getElem?_getD, List.getElem?_eq_getElem hj] at this
theorem idxP_ge {α : Type} {f : α → Bool} : ∀ {xs : List α}, -1 ≤ idxP f xs
 | [] => by simp [idxP]
 | x :: r => by
  have := idxP_ge (f := f) (xs := r)
  rw [idxP]
  split
  ·omega
  ·split <;> omega
theorem idxP_any {α : Type} {f : α → Bool} : ∀ {xs : List α}, decide (0 ≤ idxP f xs) = xs.any f
 | [] => rfl
 | x :: r => by
  have := idxP_any (f := f) (xs := r)
  rw [idxP, List.any_cons, ← this]
  by_cases hf : f x = true
  ·simp [hf]
  ·have h0 := idxP_ge (f := f) (xs := r)
   rw [if_neg hf, Bool.not_eq_true] at *
   rw [hf, Bool.false_or]
   apply decide_eq_decide.2
   split <;> omega
theorem leadP_idx : ∀ xs : List Int, leadP xs = idxP (fun x => x != 0) xs
 | [] => rfl
 | x :: r => by
  rw [leadP, idxP, leadP_idx r]
  by_cases h : x = 0 <;> simp [h]

set_option maxRecDepth 100000 in
theorem idx1_ok (v : Value) (xs : List Int) (g : FuncId) (cs : Array Value) (f : Int → Bool) (h : Heap) (hv : R1 h v xs) (hf : ∀ j, j < xs.length → ∀ h', Ext h h' → CallA Try.prog g (#[.int .i64 (xs.getD j 0)] ++ cs) h' fun u h'' => u = .bool (f (xs.getD j 0)) ∧ Ext h' h'') : CallA Try.prog 66 #[v, .func (.func g) #[] cs] h fun v' h' => v' = .int .i64 (idxP f xs) ∧ Ext h h' := by
 have hle := RdS.le hv
 refine callA_intro TTok (args := [_, _]) Try.func66 (by kernel_rfl) rfl 19 rfl (by simp) [.tmp 4] rfl ?_
 simp only [idxs, Nat.reduceAdd]
 refine den_seq ?_
 refine den_region TTok ?_
 intro K hK
 simp -implicitDefEqProofs (disch := first | decide | assumption | omega) only [go_sem, RdS.len hv sl22, RdS.idx hv sl22, R1.intB hv (HPres.refl _), RdS.cells hv, wrap_id]
 refine hK _ _ ?_
 clear hK K
 refine den_seq ?_
 refine den_seq ?_
 refine den_region TTok ?_
 intro K hK
 simp -implicitDefEqProofs (disch := first | decide | assumption | omega) only [go_sem, RdS.len hv sl22, RdS.idx hv sl22, R1.intB hv (HPres.refl _), RdS.cells hv, wrap_id]
 refine hK _ _ ?_
 clear hK K
 refine den_block ?_
 refine den_sel [8, 0, 1, 7] ?_
 intro env_1
 simp only [go_sem]
 refine den_loopS (σ := Nat) (fun s => [(8, .int .i64 (s : Int))]) (fun s H => Ext h H ∧ s ≤ xs.length ∧ ∀ j, j < s → f (xs.getD j 0) = false) (fun s => xs.length - s) 0 ?_ ?_
 ·exact ⟨Ext.refl _, by omega, fun j hj => by omega⟩
 ·rintro k h4 ee3 ⟨eB, hk, hz⟩
  simp only [List.cons_append, List.nil_append]
  have := Ext.size eB
  refine den_seq ?_
  refine den_region TTok ?_
  intro K hK
  simp -implicitDefEqProofs (disch := first | decide | assumption | omega) only [go_sem, RdS.len hv sl22, RdS.idx hv sl22, R1.intB hv (Ext.pres eB), RdS.cells hv, wrap_id]
  refine hK _ _ ?_
  clear hK K
  refine den_seq ?_
  refine den_cond rfl (fun c0 => ?_) (fun c0 => ?_)
  ·try simp only [decide_eq_true_eq, decide_eq_false_iff_not, beq_iff_eq, beq_eq_false_iff_ne, bne_iff_ne, ne_eq, Bool.not_eq_true', Bool.not_eq_false', Bool.and_eq_true, Bool.or_eq_true, bne_eq_false_iff_eq] at c0
   refine den_skip ?_
   refine den_seq ?_
   refine den_block ?_
   refine den_seq ?_
   refine den_region TTok ?_
   intro K hK
   simp -implicitDefEqProofs (disch := first | decide | assumption | omega) only [go_sem, RdS.len hv sl22, RdS.idx hv sl22, R1.intB hv (Ext.pres eB), RdS.cells hv, wrap_id]
   refine hK _ _ ?_
   clear hK K
   refine den_seq ?_
   refine den_region TTok ?_
   intro K hK
   simp -implicitDefEqProofs (disch := first | decide | assumption | omega) only [go_sem, ld2, RdS.len hv sl22, RdS.idx hv sl22, R1.intB hv (Ext.pres eB), RdS.cells hv, wrap_id]
   try simp -implicitDefEqProofs (disch := first | decide | assumption | omega) only [go_sem, RdS.len hv sl22, RdS.idx hv sl22, R1.intB hv (Ext.pres eB), RdS.cells hv, wrap_id]
   refine CallA.mono (hf k (by omega) _ eB) ?_
   intro v_ h4_5
   rintro ⟨rfl, e4_5⟩
   have := Ext.size e4_5
   replace eB := Ext.trans eB e4_5
   try simp -implicitDefEqProofs (disch := first | decide | assumption | omega) only [go_sem, RdS.len hv sl22, RdS.idx hv sl22, R1.intB hv (Ext.pres eB), RdS.cells hv, wrap_id]
   refine hK _ _ ?_
   clear hK K
   refine den_cond rfl (fun c1 => ?_) (fun c1 => ?_)
   ·try simp only [decide_eq_true_eq, decide_eq_false_iff_not, beq_iff_eq, beq_eq_false_iff_ne, bne_iff_ne, ne_eq, Bool.not_eq_true', Bool.not_eq_false', Bool.and_eq_true, Bool.or_eq_true, bne_eq_false_iff_eq] at c1
    refine den_seq ?_
    refine den_region TTok ?_
    intro K hK
    simp -implicitDefEqProofs (disch := first | decide | assumption | omega) only [go_sem, RdS.len hv sl22, RdS.idx hv sl22, R1.intB hv (Ext.pres eB), RdS.cells hv, wrap_id]
    refine hK _ _ ?_
    clear hK K
    refine den_ret ?_
    simp (disch := decide) only [resP_1, puts_same, puts_ne]
    exact ⟨vint (idxP_at (by omega) hz (by simpa using c1)).symm, eB⟩
   ·try simp only [decide_eq_true_eq, decide_eq_false_iff_not, beq_iff_eq, beq_eq_false_iff_ne, bne_iff_ne, ne_eq, Bool.not_eq_true', Bool.not_eq_false', Bool.and_eq_true, Bool.or_eq_true, bne_eq_false_iff_eq] at c1
    refine den_skip ?_
    refine den_blk ?_
    refine den_region TTok ?_
    intro K hK
    simp -implicitDefEqProofs (disch := first | decide | assumption | omega) only [go_sem, RdS.len hv sl22, RdS.idx hv sl22, R1.intB hv (Ext.pres eB), RdS.cells hv, wrap_id]
    refine hK _ _ ?_
    clear hK K
    refine den_stop ?_
    exact ⟨k + 1, by simp [HasL, puts_at], ⟨eB, by omega, fun j hj => by
     rcases Nat.lt_succ_iff_lt_or_eq.1 hj with h1 | h1
     ·exact hz j h1
     ·rw [h1]; simpa using c1⟩, by omega⟩
  ·try simp only [decide_eq_true_eq, decide_eq_false_iff_not, beq_iff_eq, beq_eq_false_iff_ne, bne_iff_ne, ne_eq, Bool.not_eq_true', Bool.not_eq_false', Bool.and_eq_true, Bool.or_eq_true, bne_eq_false_iff_eq] at c0
   refine den_exit ?_
   refine denX_code ?_
   refine denX_stop ?_
   refine denX_hit ?_
   refine den_seq ?_
   refine den_region TTok ?_
   intro K hK
   simp -implicitDefEqProofs (disch := first | decide | assumption | omega) only [go_sem, RdS.len hv sl22, RdS.idx hv sl22, R1.intB hv (Ext.pres eB), RdS.cells hv, wrap_id]
   refine hK _ _ ?_
   clear hK K
   refine den_ret ?_
   simp (disch := decide) only [resP_1, puts_same, puts_ne]
   exact ⟨vint (idxP_none (all_getD (d := 0) fun j hj => hz j (by omega))).symm, eB⟩

set_option maxRecDepth 100000 in
theorem has1_ok (v : Value) (xs : List Int) (g : FuncId) (cs : Array Value) (f : Int → Bool) (h : Heap) (hv : R1 h v xs) (hf : ∀ j, j < xs.length → ∀ h', Ext h h' → CallA Try.prog g (#[.int .i64 (xs.getD j 0)] ++ cs) h' fun u h'' => u = .bool (f (xs.getD j 0)) ∧ Ext h' h'') : CallA Try.prog 49 #[v, .func (.func g) #[] cs] h fun v' h' => v' = .bool (xs.any f) ∧ Ext h h' := by
 refine callA_intro TTok (args := [_, _]) Try.func49 (by kernel_rfl) rfl 9 rfl (by simp) [.tmp 4] rfl ?_
 simp only [idxs, Nat.reduceAdd]
 refine den_seq ?_
 refine den_region TTok ?_
 intro K hK
 simp -implicitDefEqProofs (disch := first | decide | assumption | omega) only [go_sem, RdS.len hv sl22, RdS.idx hv sl22, R1.intB hv (HPres.refl _), RdS.cells hv]
 refine hK _ _ ?_
 clear hK K
 refine den_seq ?_
 refine den_region TTok ?_
 intro K hK
 simp -implicitDefEqProofs (disch := first | decide | assumption | omega) only [go_sem, RdS.len hv sl22, RdS.idx hv sl22, R1.intB hv (HPres.refl _), RdS.cells hv]
 try simp -implicitDefEqProofs (disch := first | decide | assumption | omega) only [go_sem, RdS.len hv sl22, RdS.idx hv sl22, R1.intB hv (HPres.refl _), RdS.cells hv]
 refine CallA.mono (idx1_ok _ xs _ _ f _ hv hf) ?_
 intro v_ h1_2
 rintro ⟨rfl, e1_2⟩
 have := Ext.size e1_2
 have eB := e1_2
 try simp -implicitDefEqProofs (disch := first | decide | assumption | omega) only [go_sem, RdS.len hv sl22, RdS.idx hv sl22, R1.intB hv (Ext.pres eB), RdS.cells hv]
 refine hK _ _ ?_
 clear hK K
 refine den_ret ?_
 simp (disch := decide) only [resP_1, puts_same, puts_ne]
 exact ⟨vbool idxP_any, eB⟩

set_option maxRecDepth 100000 in
theorem idx2_ok (v : Value) (xs : List (List Int)) (g : FuncId) (cs : Array Value) (f : List Int → Bool) (h : Heap) (hv : R2 h v xs) (hf : ∀ j, j < xs.length → ∀ h', Ext h h' → CallA Try.prog g (#[rowV h v j] ++ cs) h' fun u h'' => u = .bool (f (xs.getD j default)) ∧ Ext h' h'') : CallA Try.prog 72 #[v, .func (.func g) #[] cs] h fun v' h' => v' = .int .i64 (idxP f xs) ∧ Ext h h' := by
 have hle := RdS.le hv
 refine callA_intro TTok (args := [_, _]) Try.func72 (by kernel_rfl) rfl 19 rfl (by simp) [.tmp 4] rfl ?_
 simp only [idxs, Nat.reduceAdd]
 refine den_seq ?_
 refine den_region TTok ?_
 intro K hK
 simp -implicitDefEqProofs (disch := first | decide | assumption | omega) only [go_sem, RdS.len hv sl27, RdS.idx hv sl27, RdS.cellB hv (HPres.refl _), RdS.cells hv, wrap_id]
 refine hK _ _ ?_
 clear hK K
 refine den_seq ?_
 refine den_seq ?_
 refine den_region TTok ?_
 intro K hK
 simp -implicitDefEqProofs (disch := first | decide | assumption | omega) only [go_sem, RdS.len hv sl27, RdS.idx hv sl27, RdS.cellB hv (HPres.refl _), RdS.cells hv, wrap_id]
 refine hK _ _ ?_
 clear hK K
 refine den_block ?_
 refine den_sel [8, 0, 1, 7] ?_
 intro env_1
 simp only [go_sem]
 refine den_loopS (σ := Nat) (fun s => [(8, .int .i64 (s : Int))]) (fun s H => Ext h H ∧ s ≤ xs.length ∧ ∀ j, j < s → f (xs.getD j default) = false) (fun s => xs.length - s) 0 ?_ ?_
 ·exact ⟨Ext.refl _, by omega, fun j hj => by omega⟩
 ·rintro k h4 ee3 ⟨eB, hk, hz⟩
  simp only [List.cons_append, List.nil_append]
  have := Ext.size eB
  refine den_seq ?_
  refine den_region TTok ?_
  intro K hK
  simp -implicitDefEqProofs (disch := first | decide | assumption | omega) only [go_sem, RdS.len hv sl27, RdS.idx hv sl27, RdS.cellB hv (Ext.pres eB), RdS.cells hv, wrap_id]
  refine hK _ _ ?_
  clear hK K
  refine den_seq ?_
  refine den_cond rfl (fun c0 => ?_) (fun c0 => ?_)
  ·try simp only [decide_eq_true_eq, decide_eq_false_iff_not, beq_iff_eq, beq_eq_false_iff_ne, bne_iff_ne, ne_eq, Bool.not_eq_true', Bool.not_eq_false', Bool.and_eq_true, Bool.or_eq_true, bne_eq_false_iff_eq] at c0
   refine den_skip ?_
   refine den_seq ?_
   refine den_block ?_
   refine den_seq ?_
   refine den_region TTok ?_
   intro K hK
   simp -implicitDefEqProofs (disch := first | decide | assumption | omega) only [go_sem, RdS.len hv sl27, RdS.idx hv sl27, RdS.cellB hv (Ext.pres eB), RdS.cells hv, wrap_id]
   refine hK _ _ ?_
   clear hK K
   refine den_seq ?_
   refine den_region TTok ?_
   intro K hK
   have hr5 := RdS.rowN hv k (by omega)
   have hlhr5 := RdS.le hr5
   simp -implicitDefEqProofs (disch := first | decide | assumption | omega) only [go_sem, ld22, RdS.len hv sl27, RdS.idx hv sl27, RdS.cellB hv (Ext.pres eB), RdS.cells hv, RdS.len hr5 sl22, RdS.idx hr5 sl22, R1.intB hr5 (Ext.pres eB), RdS.cells hr5, wrap_id]
   try simp -implicitDefEqProofs (disch := first | decide | assumption | omega) only [go_sem, RdS.len hv sl27, RdS.idx hv sl27, RdS.cellB hv (Ext.pres eB), RdS.cells hv, RdS.len hr5 sl22, RdS.idx hr5 sl22, R1.intB hr5 (Ext.pres eB), RdS.cells hr5, wrap_id]
   refine CallA.mono (hf k (by omega) _ eB) ?_
   intro v_ h4_5
   rintro ⟨rfl, e4_5⟩
   have := Ext.size e4_5
   replace eB := Ext.trans eB e4_5
   try simp -implicitDefEqProofs (disch := first | decide | assumption | omega) only [go_sem, RdS.len hv sl27, RdS.idx hv sl27, RdS.cellB hv (Ext.pres eB), RdS.cells hv, RdS.len hr5 sl22, RdS.idx hr5 sl22, R1.intB hr5 (Ext.pres eB), RdS.cells hr5, wrap_id]
   refine hK _ _ ?_
   clear hK K
   refine den_cond rfl (fun c1 => ?_) (fun c1 => ?_)
   ·try simp only [decide_eq_true_eq, decide_eq_false_iff_not, beq_iff_eq, beq_eq_false_iff_ne, bne_iff_ne, ne_eq, Bool.not_eq_true', Bool.not_eq_false', Bool.and_eq_true, Bool.or_eq_true, bne_eq_false_iff_eq] at c1
    refine den_seq ?_
    refine den_region TTok ?_
    intro K hK
    simp -implicitDefEqProofs (disch := first | decide | assumption | omega) only [go_sem, RdS.len hv sl27, RdS.idx hv sl27, RdS.cellB hv (Ext.pres eB), RdS.cells hv, RdS.len hr5 sl22, RdS.idx hr5 sl22, R1.intB hr5 (Ext.pres eB), RdS.cells hr5, wrap_id]
    refine hK _ _ ?_
    clear hK K
    refine den_ret ?_
    simp (disch := decide) only [resP_1, puts_same, puts_ne]
    exact ⟨vint (idxP_at (by omega) hz (by simpa using c1)).symm, eB⟩
   ·try simp only [decide_eq_true_eq, decide_eq_false_iff_not, beq_iff_eq, beq_eq_false_iff_ne, bne_iff_ne, ne_eq, Bool.not_eq_true', Bool.not_eq_false', Bool.and_eq_true, Bool.or_eq_true, bne_eq_false_iff_eq] at c1
    refine den_skip ?_
    refine den_blk ?_
    refine den_region TTok ?_
    intro K hK
    simp -implicitDefEqProofs (disch := first | decide | assumption | omega) only [go_sem, RdS.len hv sl27, RdS.idx hv sl27, RdS.cellB hv (Ext.pres eB), RdS.cells hv, RdS.len hr5 sl22, RdS.idx hr5 sl22, R1.intB hr5 (Ext.pres eB), RdS.cells hr5, wrap_id]
    refine hK _ _ ?_
    clear hK K
    refine den_stop ?_
    exact ⟨k + 1, by simp [HasL, puts_at], ⟨eB, by omega, fun j hj => by
     rcases Nat.lt_succ_iff_lt_or_eq.1 hj with h1 | h1
     ·exact hz j h1
     ·rw [h1]; simpa using c1⟩, by omega⟩
  ·try simp only [decide_eq_true_eq, decide_eq_false_iff_not, beq_iff_eq, beq_eq_false_iff_ne, bne_iff_ne, ne_eq, Bool.not_eq_true', Bool.not_eq_false', Bool.and_eq_true, Bool.or_eq_true, bne_eq_false_iff_eq] at c0
   refine den_exit ?_
   refine denX_code ?_
   refine denX_stop ?_
   refine denX_hit ?_
   refine den_seq ?_
   refine den_region TTok ?_
   intro K hK
   simp -implicitDefEqProofs (disch := first | decide | assumption | omega) only [go_sem, RdS.len hv sl27, RdS.idx hv sl27, RdS.cellB hv (Ext.pres eB), RdS.cells hv, wrap_id]
   refine hK _ _ ?_
   clear hK K
   refine den_ret ?_
   simp (disch := decide) only [resP_1, puts_same, puts_ne]
   exact ⟨vint (idxP_none (all_getD (d := default) fun j hj => hz j (by omega))).symm, eB⟩

set_option maxRecDepth 100000 in
theorem has2_ok (v : Value) (xs : List (List Int)) (g : FuncId) (cs : Array Value) (f : List Int → Bool) (h : Heap) (hv : R2 h v xs) (hf : ∀ j, j < xs.length → ∀ h', Ext h h' → CallA Try.prog g (#[rowV h v j] ++ cs) h' fun u h'' => u = .bool (f (xs.getD j default)) ∧ Ext h' h'') : CallA Try.prog 67 #[v, .func (.func g) #[] cs] h fun v' h' => v' = .bool (xs.any f) ∧ Ext h h' := by
 refine callA_intro TTok (args := [_, _]) Try.func67 (by kernel_rfl) rfl 9 rfl (by simp) [.tmp 4] rfl ?_
 simp only [idxs, Nat.reduceAdd]
 refine den_seq ?_
 refine den_region TTok ?_
 intro K hK
 simp -implicitDefEqProofs (disch := first | decide | assumption | omega) only [go_sem, RdS.len hv sl27, RdS.idx hv sl27, RdS.cellB hv (HPres.refl _), RdS.cells hv]
 refine hK _ _ ?_
 clear hK K
 refine den_seq ?_
 refine den_region TTok ?_
 intro K hK
 simp -implicitDefEqProofs (disch := first | decide | assumption | omega) only [go_sem, RdS.len hv sl27, RdS.idx hv sl27, RdS.cellB hv (HPres.refl _), RdS.cells hv]
 try simp -implicitDefEqProofs (disch := first | decide | assumption | omega) only [go_sem, RdS.len hv sl27, RdS.idx hv sl27, RdS.cellB hv (HPres.refl _), RdS.cells hv]
 refine CallA.mono (idx2_ok _ xs _ _ f _ hv hf) ?_
 intro v_ h1_2
 rintro ⟨rfl, e1_2⟩
 have := Ext.size e1_2
 have eB := e1_2
 try simp -implicitDefEqProofs (disch := first | decide | assumption | omega) only [go_sem, RdS.len hv sl27, RdS.idx hv sl27, RdS.cellB hv (Ext.pres eB), RdS.cells hv]
 refine hK _ _ ?_
 clear hK K
 refine den_ret ?_
 simp (disch := decide) only [resP_1, puts_same, puts_ne]
 exact ⟨vbool idxP_any, eB⟩
end Go.Proofs.Ytkdnnfkdgmblgaa

namespace Go.Proofs.Ytkdnnfkdgmblgaa
open Go
theorem isRow_any {p n : Int} {xs : List Int} : (((xs.length : Int) == n) && !(xs.any fun x => !in3 x 0 (p - 1))) = isRow p n xs := by
 rw [isRow, List.not_any_eq_all_not]
 congr 1
 congr 1
 funext x
 exact Bool.not_not _
theorem rows_any {p n : Int} {R : List (List Int)} : (!(R.any fun r => !isRow p n r)) = R.all (isRow p n) := by
 rw [List.not_any_eq_all_not]
 congr 1
 funext x
 exact Bool.not_not _
theorem isP_bnd {p : Int} (h : isP p = true) : 0 < p ∧ p ≤ 7 := by
 simp only [isP, Bool.or_eq_true, beq_iff_eq] at h; omega

set_option maxRecDepth 100000 in
theorem isVec1_ok (p x : Int) (b : Nat) (h : Heap) (hb : BoxAt h b #[.int .i64 p] 2) (hp : -9223372036854775807 ≤ p ∧ p ≤ 9223372036854775807) : CallA Try.prog 73 #[.int .i64 x, .pointer (some ⟨b, 0, none⟩)] h fun v h' => v = .bool (!in3 x 0 (p - 1)) ∧ h' = h := by
 refine callA_intro TTok (args := [_, _]) Try.func73 (by kernel_rfl) rfl 9 rfl (by simp) [.tmp 3] rfl ?_
 simp only [idxs, Nat.reduceAdd]
 refine den_seq ?_
 refine den_region TTok ?_
 intro K hK
 simp -implicitDefEqProofs (disch := first | decide | assumption | omega) only [go_sem, BoxAt.cell hb, wrap_id]
 refine hK _ _ ?_
 clear hK K
 refine den_seq ?_
 refine den_region TTok ?_
 intro K hK
 simp -implicitDefEqProofs (disch := first | decide | assumption | omega) only [go_sem, ld2, BoxAt.cell hb, wrap_id]
 try simp -implicitDefEqProofs (disch := first | decide | assumption | omega) only [go_sem, BoxAt.cell hb, wrap_id]
 refine CallA.pure (iIn_ok _ _ _ _) ?_
 try simp -implicitDefEqProofs (disch := first | decide | assumption | omega) only [go_sem, BoxAt.cell hb, wrap_id]
 refine hK _ _ ?_
 clear hK K
 refine den_ret ?_
 simp (disch := decide) only [resP_1, puts_same, puts_ne]
 exact ⟨by first | rfl | trivial, trivial⟩

set_option maxRecDepth 100000 in
theorem isVec_ok (p n : Int) (v : Value) (xs : List Int) (h : Heap) (hv : R1 h v xs) (hp : -9223372036854775807 ≤ p ∧ p ≤ 9223372036854775807) : CallA Try.prog 69 #[.int .i64 p, .int .i64 n, v] h fun v' h' => v' = .bool (isRow p n xs) ∧ Ext h h' := by
 refine callA_intro TTok (args := [_, _, _]) Try.func69 (by kernel_rfl) rfl 17 rfl (by simp) [.tmp 6] rfl ?_
 simp only [idxs, Nat.reduceAdd]
 refine den_seq ?_
 refine den_region TTok ?_
 intro K hK
 simp -implicitDefEqProofs (disch := first | decide | assumption | omega) only [go_sem, RdS.len hv sl22, RdS.idx hv sl22, R1.intB hv (HPres.refl _), RdS.cells hv]
 refine op_box (cs := #[.int .i64 (p)]) rfl ?_
 intro h0_0 e0_0 hb0_0 z0_0
 replace hv := RdS.pres hv (Ext.pres e0_0)
 try simp -implicitDefEqProofs (disch := first | decide | assumption | omega) only [go_sem, RdS.len hv sl22, RdS.idx hv sl22, R1.intB hv (HPres.refl _), RdS.cells hv, BoxAt.cell hb0_0]
 refine hK _ _ ?_
 clear hK K
 refine den_seq ?_
 refine den_merge [(6, .bool (((((xs).length : Int) == n) && (!((xs.any fun x => !in3 x 0 (p - 1)))))))] [] (fun H => Ext h0_0 H) ?_ ?_
  -- a way
 ·refine den_region TTok ?_
  intro K hK
  simp -implicitDefEqProofs (disch := first | decide | assumption | (simp (disch := decide) only [slotOf_zero, slotOf_succ, Option.map_some, puts_same, puts_ne, gv_bool, gv_undef, tt, tf, ft, ff, eq_self, if_true, if_false, Bool.false_eq_true, Bool.not_true, Bool.not_false]; done) | omega) only [go_sem, RdS.len hv sl22, RdS.idx hv sl22, R1.intB hv (HPres.refl _), RdS.cells hv, BoxAt.cell hb0_0]
  try simp -implicitDefEqProofs (disch := first | decide | assumption | omega) only [go_sem, RdS.len hv sl22, RdS.idx hv sl22, R1.intB hv (HPres.refl _), RdS.cells hv, BoxAt.cell hb0_0]
  refine CallA.pure (size1_ok _ _ _ hv) ?_
  try simp -implicitDefEqProofs (disch := first | decide | assumption | (simp (disch := decide) only [slotOf_zero, slotOf_succ, Option.map_some, puts_same, puts_ne, gv_bool, gv_undef, tt, tf, ft, ff, eq_self, if_true, if_false, Bool.false_eq_true, Bool.not_true, Bool.not_false]; done) | omega) only [go_sem, RdS.len hv sl22, RdS.idx hv sl22, R1.intB hv (HPres.refl _), RdS.cells hv, BoxAt.cell hb0_0]
  refine opsP_T (by simp (disch := decide) only [slotOf_zero, slotOf_succ, Option.map_some, puts_same, puts_ne, gv_bool, gv_undef, tt, tf, ft, ff, eq_self, if_true, if_false, Bool.false_eq_true, Bool.not_true, Bool.not_false]; rfl) (fun g1 => ?_) (fun g1 => ?_)
  ·try simp -implicitDefEqProofs (disch := first | decide | assumption | (simp (disch := decide) only [slotOf_zero, slotOf_succ, Option.map_some, puts_same, puts_ne, gv_bool, gv_undef, tt, tf, ft, ff, eq_self, if_true, if_false, Bool.false_eq_true, Bool.not_true, Bool.not_false, g1]; done) | omega) only [go_sem, RdS.len hv sl22, RdS.idx hv sl22, R1.intB hv (HPres.refl _), RdS.cells hv, BoxAt.cell hb0_0, g1, eq_self, if_true, if_false, Bool.false_eq_true]
   try simp -implicitDefEqProofs (disch := first | decide | assumption | omega) only [go_sem, RdS.len hv sl22, RdS.idx hv sl22, R1.intB hv (HPres.refl _), RdS.cells hv, BoxAt.cell hb0_0]
   refine CallA.mono (has1_ok _ xs _ _ (fun x => !in3 x 0 (p - 1)) _ hv (fun j hj h' e => by
   simp only [List.append_toArray, List.cons_append, List.nil_append]
   exact CallA.mono (isVec1_ok p _ _ _ (BoxAt.ext hb0_0 e) hp) (fun _ _ ⟨e1, e2⟩ => ⟨e1, e2 ▸ Ext.refl _⟩))) ?_
   intro v_ h1_7
   rintro ⟨rfl, e1_7⟩
   have := Ext.size e1_7
   have eB := e1_7
   try simp -implicitDefEqProofs (disch := first | decide | assumption | (simp (disch := decide) only [slotOf_zero, slotOf_succ, Option.map_some, puts_same, puts_ne, gv_bool, gv_undef, tt, tf, ft, ff, eq_self, if_true, if_false, Bool.false_eq_true, Bool.not_true, Bool.not_false, g1]; done) | omega) only [go_sem, RdS.len hv sl22, RdS.idx hv sl22, R1.intB hv (Ext.pres eB), RdS.cells hv, BoxAt.cellB hb0_0 eB, g1, eq_self, if_true, if_false, Bool.false_eq_true]
   refine hK _ _ ?_
   clear hK K
   refine den_stop ?_
   refine ⟨?_, e1_7⟩
   first | (simp (disch := decide) only [go_sem, g1, eq_self, Bool.true_and, Bool.and_true, Bool.false_and, Bool.and_false, Bool.true_or, Bool.or_true, Bool.false_or, Bool.or_false, if_true, if_false, Bool.false_eq_true]; done) | simp [HasL, sel, puts_at, g1]
  ·try simp -implicitDefEqProofs (disch := first | decide | assumption | (simp (disch := decide) only [slotOf_zero, slotOf_succ, Option.map_some, puts_same, puts_ne, gv_bool, gv_undef, tt, tf, ft, ff, eq_self, if_true, if_false, Bool.false_eq_true, Bool.not_true, Bool.not_false, g1]; done) | omega) only [go_sem, RdS.len hv sl22, RdS.idx hv sl22, R1.intB hv (HPres.refl _), RdS.cells hv, BoxAt.cell hb0_0, g1, eq_self, if_true, if_false, Bool.false_eq_true]
   refine hK _ _ ?_
   clear hK K
   refine den_stop ?_
   refine ⟨?_, Ext.refl _⟩
   first | (simp (disch := decide) only [go_sem, g1, eq_self, Bool.true_and, Bool.and_true, Bool.false_and, Bool.and_false, Bool.true_or, Bool.or_true, Bool.false_or, Bool.or_false, if_true, if_false, Bool.false_eq_true]; done) | simp [HasL, sel, puts_at, g1]
 intro en2 h3 e4
 have := Ext.size e4
 have eB := e4
 simp (disch := decide) only [go_sem]
 refine den_ret ?_
 simp (disch := decide) only [resP_1, puts_same, puts_ne]
 exact ⟨vbool isRow_any, (Ext.trans e0_0 eB)⟩

set_option maxRecDepth 100000 in
theorem areRows1_ok (p n : Int) (v : Value) (xs : List Int) (b c : Nat) (h : Heap) (hv : R1 h v xs) (hb : BoxAt h b #[.int .i64 p] 2) (hc : BoxAt h c #[.int .i64 n] 2) (hp : -9223372036854775807 ≤ p ∧ p ≤ 9223372036854775807) : CallA Try.prog 68 #[v, .pointer (some ⟨b, 0, none⟩), .pointer (some ⟨c, 0, none⟩)] h fun v' h' => v' = .bool (!isRow p n xs) ∧ Ext h h' := by
 refine callA_intro TTok (args := [_, _, _]) Try.func68 (by kernel_rfl) rfl 10 rfl (by simp) [.tmp 4] rfl ?_
 simp only [idxs, Nat.reduceAdd]
 refine den_seq ?_
 refine den_region TTok ?_
 intro K hK
 simp -implicitDefEqProofs (disch := first | decide | assumption | omega) only [go_sem, RdS.len hv sl22, RdS.idx hv sl22, R1.intB hv (HPres.refl _), RdS.cells hv, BoxAt.cell hb, BoxAt.cell hc]
 refine hK _ _ ?_
 clear hK K
 refine den_seq ?_
 refine den_region TTok ?_
 intro K hK
 simp -implicitDefEqProofs (disch := first | decide | assumption | omega) only [go_sem, ld2, RdS.len hv sl22, RdS.idx hv sl22, R1.intB hv (HPres.refl _), RdS.cells hv, BoxAt.cell hb, BoxAt.cell hc]
 try simp -implicitDefEqProofs (disch := first | decide | assumption | omega) only [go_sem, RdS.len hv sl22, RdS.idx hv sl22, R1.intB hv (HPres.refl _), RdS.cells hv, BoxAt.cell hb, BoxAt.cell hc]
 refine CallA.mono (isVec_ok _ _ _ _ _ hv (by omega)) ?_
 intro v_ h1_3
 rintro ⟨rfl, e1_3⟩
 have := Ext.size e1_3
 have eB := e1_3
 try simp -implicitDefEqProofs (disch := first | decide | assumption | omega) only [go_sem, RdS.len hv sl22, RdS.idx hv sl22, R1.intB hv (Ext.pres eB), RdS.cells hv, BoxAt.cellB hb eB, BoxAt.cellB hc eB]
 refine hK _ _ ?_
 clear hK K
 refine den_ret ?_
 simp (disch := decide) only [resP_1, puts_same, puts_ne]
 exact ⟨by first | rfl | trivial, eB⟩

set_option maxRecDepth 100000 in
theorem areRows_ok (p n : Int) (v : Value) (R : List (List Int)) (h : Heap) (hv : R2 h v R) (hp : -9223372036854775807 ≤ p ∧ p ≤ 9223372036854775807) : CallA Try.prog 52 #[.int .i64 p, .int .i64 n, v] h fun v' h' => v' = .bool (R.all (isRow p n)) ∧ Ext h h' := by
 refine callA_intro TTok (args := [_, _, _]) Try.func52 (by kernel_rfl) rfl 11 rfl (by simp) [.tmp 6] rfl ?_
 simp only [idxs, Nat.reduceAdd]
 refine den_seq ?_
 refine den_region TTok ?_
 intro K hK
 simp -implicitDefEqProofs (disch := first | decide | assumption | omega) only [go_sem, RdS.len hv sl27, RdS.idx hv sl27, RdS.cellB hv (HPres.refl _), RdS.cells hv]
 refine op_box (cs := #[.int .i64 (p)]) rfl ?_
 intro h0_0 e0_0 hb0_0 z0_0
 replace hv := RdS.pres hv (Ext.pres e0_0)
 try simp -implicitDefEqProofs (disch := first | decide | assumption | omega) only [go_sem, RdS.len hv sl27, RdS.idx hv sl27, RdS.cellB hv (HPres.refl _), RdS.cells hv, BoxAt.cell hb0_0]
 refine op_box (cs := #[.int .i64 (n)]) rfl ?_
 intro h0_1 e0_1 hb0_1 z0_1
 replace hv := RdS.pres hv (Ext.pres e0_1)
 replace hb0_0 := BoxAt.ext hb0_0 e0_1
 try simp -implicitDefEqProofs (disch := first | decide | assumption | omega) only [go_sem, RdS.len hv sl27, RdS.idx hv sl27, RdS.cellB hv (HPres.refl _), RdS.cells hv, BoxAt.cell hb0_0, BoxAt.cell hb0_1]
 refine hK _ _ ?_
 clear hK K
 refine den_seq ?_
 refine den_region TTok ?_
 intro K hK
 simp -implicitDefEqProofs (disch := first | decide | assumption | omega) only [go_sem, RdS.len hv sl27, RdS.idx hv sl27, RdS.cellB hv (HPres.refl _), RdS.cells hv, BoxAt.cell hb0_0, BoxAt.cell hb0_1]
 try simp -implicitDefEqProofs (disch := first | decide | assumption | omega) only [go_sem, RdS.len hv sl27, RdS.idx hv sl27, RdS.cellB hv (HPres.refl _), RdS.cells hv, BoxAt.cell hb0_0, BoxAt.cell hb0_1]
 refine CallA.mono (has2_ok _ R _ _ (fun r => !isRow p n r) _ hv (fun j hj h' e => by
   simp only [List.append_toArray, List.cons_append, List.nil_append]
   exact CallA.mono (areRows1_ok p n _ _ _ _ _ ((RdS.rowN hv j hj).pres (Ext.pres e)) (BoxAt.ext hb0_0 e) (BoxAt.ext hb0_1 e) hp) (fun _ _ ⟨e1, e2⟩ => ⟨e1, e2⟩))) ?_
 intro v_ h1_2
 rintro ⟨rfl, e1_2⟩
 have := Ext.size e1_2
 have eB := e1_2
 try simp -implicitDefEqProofs (disch := first | decide | assumption | omega) only [go_sem, RdS.len hv sl27, RdS.idx hv sl27, RdS.cellB hv (Ext.pres eB), RdS.cells hv, BoxAt.cellB hb0_0 eB, BoxAt.cellB hb0_1 eB]
 refine hK _ _ ?_
 clear hK K
 refine den_ret ?_
 simp (disch := decide) only [resP_1, puts_same, puts_ne]
 exact ⟨vbool rows_any, (Ext.trans (Ext.trans e0_0 e0_1) eB)⟩

set_option maxRecDepth 100000 in
theorem isZero1_ok (x : Int) (h : Heap) : CallA Try.prog 70 #[.int .i64 x] h fun v h' => v = .bool (x != 0) ∧ h' = h := by
 refine callA_intro TTok (args := [_]) Try.func70 (by kernel_rfl) rfl 5 rfl (by simp) [.tmp 2] rfl ?_
 simp only [idxs, Nat.reduceAdd]
 refine den_seq ?_
 refine den_region TTok ?_
 intro K hK
 simp -implicitDefEqProofs (disch := first | decide | assumption | omega) only [go_sem]
 refine hK _ _ ?_
 clear hK K
 refine den_seq ?_
 refine den_region TTok ?_
 intro K hK
 simp -implicitDefEqProofs (disch := first | decide | assumption | omega) only [go_sem]
 refine hK _ _ ?_
 clear hK K
 refine den_ret ?_
 simp (disch := decide) only [resP_1, puts_same, puts_ne]
 exact ⟨by first | rfl | trivial, trivial⟩

set_option maxRecDepth 100000 in
theorem isZero_ok (v : Value) (xs : List Int) (h : Heap) (hv : R1 h v xs) : CallA Try.prog 53 #[v] h fun v' h' => v' = .bool (!xs.any (fun x => x != 0)) ∧ Ext h h' := by
 refine callA_intro TTok (args := [_]) Try.func53 (by kernel_rfl) rfl 6 rfl (by simp) [.tmp 2] rfl ?_
 simp only [idxs, Nat.reduceAdd]
 refine den_seq ?_
 refine den_region TTok ?_
 intro K hK
 simp -implicitDefEqProofs (disch := first | decide | assumption | omega) only [go_sem, RdS.len hv sl22, RdS.idx hv sl22, R1.intB hv (HPres.refl _), RdS.cells hv]
 refine hK _ _ ?_
 clear hK K
 refine den_seq ?_
 refine den_region TTok ?_
 intro K hK
 simp -implicitDefEqProofs (disch := first | decide | assumption | omega) only [go_sem, RdS.len hv sl22, RdS.idx hv sl22, R1.intB hv (HPres.refl _), RdS.cells hv]
 try simp -implicitDefEqProofs (disch := first | decide | assumption | omega) only [go_sem, RdS.len hv sl22, RdS.idx hv sl22, R1.intB hv (HPres.refl _), RdS.cells hv]
 refine CallA.mono (has1_ok _ xs _ _ (fun x => x != 0) _ hv (fun j hj h' e => by
   simp only [List.append_toArray, List.cons_append, List.nil_append]
   exact CallA.mono (isZero1_ok _ _) (fun _ _ ⟨e1, e2⟩ => ⟨e1, e2 ▸ Ext.refl _⟩))) ?_
 intro v_ h1_1
 rintro ⟨rfl, e1_1⟩
 have := Ext.size e1_1
 have eB := e1_1
 try simp -implicitDefEqProofs (disch := first | decide | assumption | omega) only [go_sem, RdS.len hv sl22, RdS.idx hv sl22, R1.intB hv (Ext.pres eB), RdS.cells hv]
 refine hK _ _ ?_
 clear hK K
 refine den_ret ?_
 simp (disch := decide) only [resP_1, puts_same, puts_ne]
 exact ⟨by first | rfl | trivial, eB⟩

set_option maxRecDepth 100000 in
theorem isC1_ok (x : Int) (h : Heap) : CallA Try.prog 50 #[.int .i64 x] h fun v h' => v = .bool (!in3 x 0 8) ∧ h' = h := by
 refine callA_intro TTok (args := [_]) Try.func50 (by kernel_rfl) rfl 6 rfl (by simp) [.tmp 2] rfl ?_
 simp only [idxs, Nat.reduceAdd]
 refine den_seq ?_
 refine den_region TTok ?_
 intro K hK
 simp -implicitDefEqProofs (disch := first | decide | assumption | omega) only [go_sem]
 refine hK _ _ ?_
 clear hK K
 refine den_seq ?_
 refine den_region TTok ?_
 intro K hK
 simp -implicitDefEqProofs (disch := first | decide | assumption | omega) only [go_sem]
 try simp -implicitDefEqProofs (disch := first | decide | assumption | omega) only [go_sem]
 refine CallA.pure (iIn_ok _ _ _ _) ?_
 try simp -implicitDefEqProofs (disch := first | decide | assumption | omega) only [go_sem]
 refine hK _ _ ?_
 clear hK K
 refine den_ret ?_
 simp (disch := decide) only [resP_1, puts_same, puts_ne]
 exact ⟨by first | rfl | trivial, trivial⟩
end Go.Proofs.Ytkdnnfkdgmblgaa

namespace Go.Proofs.Ytkdnnfkdgmblgaa
open Go
def tbAt (X : Cx) (k : Nat) : Prop := tableP X.p (X.maps.getD k default) (X.dims.getD ((k : Int) + 1).toNat 0) (X.dims.getD k 0) = true
/-- Row i of map k, sent on by the map before. -/
def sqv (X : Cx) (k i : Nat) : List Int := accP X.p ((X.maps.getD k default).getD i default) (X.maps.getD ((k : Int) - 1).toNat default) (List.replicate (X.dims.getD ((k : Int) - 1).toNat 0).toNat 0)
structure IsC (X : Cx) : Prop where
 p : isP X.p = true
 len : 1 ≤ X.dims.length ∧ X.dims.length ≤ 6
 ml : X.maps.length + 1 = X.dims.length
 dm : X.dims.all (fun x => in3 x 0 8) = true
 tb : ∀ k, k < X.maps.length → tbAt X k
 sq : ∀ k, k < X.maps.length → 0 < k → ∀ i, i < (X.maps.getD k default).length → leadP (sqv X k i) < 0
noncomputable def isC (X : Cx) : Bool := @decide (IsC X) (Classical.propDecidable _)
theorem isC_t {X : Cx} : isC X = true ↔ IsC X := by
 unfold isC
 exact @decide_eq_true_iff _ (Classical.propDecidable _)
theorem isC_no {X : Cx} (h : ¬ IsC X) : false = isC X := by
 cases e : isC X
 ·rfl
 ·exact absurd (isC_t.1 e) h
theorem isC_yes {X : Cx} (h : IsC X) : true = isC X := (isC_t.2 h).symm
theorem app_pre {X : Cx} {k i : Nat} (ht : ∀ j, j ≤ k → tbAt X j) (h0 : 0 < k) (hi : i < (X.maps.getD k default).length) :
  ((X.maps.getD k default).getD i default).length ≤ (X.maps.getD ((k : Int) - 1).toNat default).length ∧ Bnd X.p ((X.maps.getD k default).getD i default) ∧ Tbl X.p (X.dims.getD ((k : Int) - 1).toNat 0) (X.maps.getD ((k : Int) - 1).toNat default) := by
 have t1 := tableP_iff.1 (ht k (Nat.le_refl _))
 have t2 := tableP_iff.1 (ht ((k : Int) - 1).toNat (by omega))
 have e : (((((k : Int) - 1).toNat : Nat) : Int) + 1).toNat = k := by omega
 rw [e] at t2
 have t3 := t1.2.at hi
 exact ⟨by omega, t3.2, t2.2⟩
theorem dm_at {X : Cx} (h : X.dims.all (fun x => in3 x 0 8) = true) {k : Nat} (hk : k < X.dims.length) : 0 ≤ X.dims.getD k 0 ∧ X.dims.getD k 0 ≤ 8 := in3_iff.1 (all_at (d := 0) h hk)

set_option maxRecDepth 100000 in
theorem sIs_ok (v : Value) (X : Cx) (h : Heap) (hv : RC h v X) : CallA Try.prog 15 #[v] h fun v' h' => v' = .bool (isC X) ∧ Ext h h' := by
 obtain ⟨vd, vm, rfl, hd, hm⟩ := hv
 have hle := RdS.le hd
 have hlm := RdS.le hm
 refine callA_intro TTok (args := [_]) Try.func15 (by kernel_rfl) rfl 112 rfl (by simp) [.tmp 2] rfl ?_
 simp only [idxs, Nat.reduceAdd]
 refine den_seq ?_
 refine den_region TTok ?_
 intro K hK
 simp -implicitDefEqProofs (disch := first | decide | assumption | omega) only [go_sem, RdS.len hd sl22, RdS.idx hd sl22, R1.intB hd (HPres.refl _), RdS.cells hd, RdS.len hm sl23, RdS.idx hm sl23, RdS.cellB hm (HPres.refl _), RdS.cells hm, wrap_id]
 refine op_box (cs := #[.int .i64 (X.p), vd, vm]) rfl ?_
 intro h0_0 e0_0 hb0_0 z0_0
 replace hd := RdS.pres hd (Ext.pres e0_0)
 replace hm := RdS.pres hm (Ext.pres e0_0)
 try simp -implicitDefEqProofs (disch := first | decide | assumption | omega) only [go_sem, RdS.len hd sl22, RdS.idx hd sl22, R1.intB hd (HPres.refl _), RdS.cells hd, RdS.len hm sl23, RdS.idx hm sl23, RdS.cellB hm (HPres.refl _), RdS.cells hm, BoxAt.cell hb0_0, wrap_id]
 refine hK _ _ ?_
 clear hK K
 refine den_seq ?_
 refine den_seq ?_
 refine den_mergeH [(31, .bool (((((!((isP X.p))) || (decide (((X.dims).length : Int) < (1 : Int)))) || (decide ((6 : Int) < ((X.dims).length : Int)))) || (((X.maps).length : Int) != (((X.dims).length : Int) - (1 : Int))))))] [1] ?_ ?_
  -- a way
 ·refine den_region TTok ?_
  intro K hK
  simp -implicitDefEqProofs (disch := first | decide | assumption | (simp (disch := decide) only [slotOf_zero, slotOf_succ, Option.map_some, puts_same, puts_ne, gv_bool, gv_undef, tt, tf, ft, ff, eq_self, if_true, if_false, Bool.false_eq_true, Bool.not_true, Bool.not_false]; done) | omega) only [go_sem, fa33_0, ld2, RdS.len hd sl22, RdS.idx hd sl22, R1.intB hd (HPres.refl _), RdS.cells hd, RdS.len hm sl23, RdS.idx hm sl23, RdS.cellB hm (HPres.refl _), RdS.cells hm, BoxAt.cell hb0_0, wrap_id]
  try simp -implicitDefEqProofs (disch := first | decide | assumption | omega) only [go_sem, RdS.len hd sl22, RdS.idx hd sl22, R1.intB hd (HPres.refl _), RdS.cells hd, RdS.len hm sl23, RdS.idx hm sl23, RdS.cellB hm (HPres.refl _), RdS.cells hm, BoxAt.cell hb0_0, wrap_id]
  refine CallA.pure (sPrime_ok _ _) ?_
  try simp -implicitDefEqProofs (disch := first | decide | assumption | (simp (disch := decide) only [slotOf_zero, slotOf_succ, Option.map_some, puts_same, puts_ne, gv_bool, gv_undef, tt, tf, ft, ff, eq_self, if_true, if_false, Bool.false_eq_true, Bool.not_true, Bool.not_false]; done) | omega) only [go_sem, RdS.len hd sl22, RdS.idx hd sl22, R1.intB hd (HPres.refl _), RdS.cells hd, RdS.len hm sl23, RdS.idx hm sl23, RdS.cellB hm (HPres.refl _), RdS.cells hm, BoxAt.cell hb0_0, wrap_id]
  refine opsP_F (by simp (disch := decide) only [slotOf_zero, slotOf_succ, Option.map_some, puts_same, puts_ne, gv_bool, gv_undef, tt, tf, ft, ff, eq_self, if_true, if_false, Bool.false_eq_true, Bool.not_true, Bool.not_false]; rfl) (fun g1 => ?_) (fun g1 => ?_)
  ·try simp -implicitDefEqProofs (disch := first | decide | assumption | (simp (disch := decide) only [slotOf_zero, slotOf_succ, Option.map_some, puts_same, puts_ne, gv_bool, gv_undef, tt, tf, ft, ff, eq_self, if_true, if_false, Bool.false_eq_true, Bool.not_true, Bool.not_false, g1]; done) | omega) only [go_sem, fa33_1, ld22, RdS.len hd sl22, RdS.idx hd sl22, R1.intB hd (HPres.refl _), RdS.cells hd, RdS.len hm sl23, RdS.idx hm sl23, RdS.cellB hm (HPres.refl _), RdS.cells hm, BoxAt.cell hb0_0, wrap_id, g1, eq_self, if_true, if_false, Bool.false_eq_true]
   refine opsP_F (by simp (disch := decide) only [slotOf_zero, slotOf_succ, Option.map_some, puts_same, puts_ne, gv_bool, gv_undef, tt, tf, ft, ff, eq_self, if_true, if_false, Bool.false_eq_true, Bool.not_true, Bool.not_false, g1]; rfl) (fun g2 => ?_) (fun g2 => ?_)
   ·try simp -implicitDefEqProofs (disch := first | decide | assumption | (simp (disch := decide) only [slotOf_zero, slotOf_succ, Option.map_some, puts_same, puts_ne, gv_bool, gv_undef, tt, tf, ft, ff, eq_self, if_true, if_false, Bool.false_eq_true, Bool.not_true, Bool.not_false, g1, g2]; done) | omega) only [go_sem, fa33_1, ld22, RdS.len hd sl22, RdS.idx hd sl22, R1.intB hd (HPres.refl _), RdS.cells hd, RdS.len hm sl23, RdS.idx hm sl23, RdS.cellB hm (HPres.refl _), RdS.cells hm, BoxAt.cell hb0_0, wrap_id, g1, g2, eq_self, if_true, if_false, Bool.false_eq_true]
    refine opsP_F (by simp (disch := decide) only [slotOf_zero, slotOf_succ, Option.map_some, puts_same, puts_ne, gv_bool, gv_undef, tt, tf, ft, ff, eq_self, if_true, if_false, Bool.false_eq_true, Bool.not_true, Bool.not_false, g1, g2]; rfl) (fun g3 => ?_) (fun g3 => ?_)
    ·try simp -implicitDefEqProofs (disch := first | decide | assumption | (simp (disch := decide) only [slotOf_zero, slotOf_succ, Option.map_some, puts_same, puts_ne, gv_bool, gv_undef, tt, tf, ft, ff, eq_self, if_true, if_false, Bool.false_eq_true, Bool.not_true, Bool.not_false, g1, g2, g3]; done) | omega) only [go_sem, fa33_1, fa33_2, ld23, ld22, RdS.len hd sl22, RdS.idx hd sl22, R1.intB hd (HPres.refl _), RdS.cells hd, RdS.len hm sl23, RdS.idx hm sl23, RdS.cellB hm (HPres.refl _), RdS.cells hm, BoxAt.cell hb0_0, wrap_id, g1, g2, g3, eq_self, if_true, if_false, Bool.false_eq_true]
     refine hK _ _ ?_
     clear hK K
     refine den_stop ?_
     refine ⟨?_, rfl⟩
     first | (simp (disch := decide) only [go_sem, g1, g2, g3, eq_self, Bool.true_and, Bool.and_true, Bool.false_and, Bool.and_false, Bool.true_or, Bool.or_true, Bool.false_or, Bool.or_false, if_true, if_false, Bool.false_eq_true]; done) | simp [HasL, sel, puts_at, g1, g2, g3]
    ·try simp -implicitDefEqProofs (disch := first | decide | assumption | (simp (disch := decide) only [slotOf_zero, slotOf_succ, Option.map_some, puts_same, puts_ne, gv_bool, gv_undef, tt, tf, ft, ff, eq_self, if_true, if_false, Bool.false_eq_true, Bool.not_true, Bool.not_false, g1, g2, g3]; done) | omega) only [go_sem, RdS.len hd sl22, RdS.idx hd sl22, R1.intB hd (HPres.refl _), RdS.cells hd, RdS.len hm sl23, RdS.idx hm sl23, RdS.cellB hm (HPres.refl _), RdS.cells hm, BoxAt.cell hb0_0, wrap_id, g1, g2, g3, eq_self, if_true, if_false, Bool.false_eq_true]
     refine hK _ _ ?_
     clear hK K
     refine den_stop ?_
     refine ⟨?_, rfl⟩
     first | (simp (disch := decide) only [go_sem, g1, g2, g3, eq_self, Bool.true_and, Bool.and_true, Bool.false_and, Bool.and_false, Bool.true_or, Bool.or_true, Bool.false_or, Bool.or_false, if_true, if_false, Bool.false_eq_true]; done) | simp [HasL, sel, puts_at, g1, g2, g3]
   ·try simp -implicitDefEqProofs (disch := first | decide | assumption | (simp (disch := decide) only [slotOf_zero, slotOf_succ, Option.map_some, puts_same, puts_ne, gv_bool, gv_undef, tt, tf, ft, ff, eq_self, if_true, if_false, Bool.false_eq_true, Bool.not_true, Bool.not_false, g1, g2]; done) | omega) only [go_sem, RdS.len hd sl22, RdS.idx hd sl22, R1.intB hd (HPres.refl _), RdS.cells hd, RdS.len hm sl23, RdS.idx hm sl23, RdS.cellB hm (HPres.refl _), RdS.cells hm, BoxAt.cell hb0_0, wrap_id, g1, g2, eq_self, if_true, if_false, Bool.false_eq_true]
    try simp -implicitDefEqProofs (disch := first | decide | assumption | (simp (disch := decide) only [slotOf_zero, slotOf_succ, Option.map_some, puts_same, puts_ne, gv_bool, gv_undef, tt, tf, ft, ff, eq_self, if_true, if_false, Bool.false_eq_true, Bool.not_true, Bool.not_false, g1, g2]; done) | omega) only [go_sem, RdS.len hd sl22, RdS.idx hd sl22, R1.intB hd (HPres.refl _), RdS.cells hd, RdS.len hm sl23, RdS.idx hm sl23, RdS.cellB hm (HPres.refl _), RdS.cells hm, BoxAt.cell hb0_0, wrap_id, g1, g2, eq_self, if_true, if_false, Bool.false_eq_true]
    refine hK _ _ ?_
    clear hK K
    refine den_stop ?_
    refine ⟨?_, rfl⟩
    first | (simp (disch := decide) only [go_sem, g1, g2, eq_self, Bool.true_and, Bool.and_true, Bool.false_and, Bool.and_false, Bool.true_or, Bool.or_true, Bool.false_or, Bool.or_false, if_true, if_false, Bool.false_eq_true]; done) | simp [HasL, sel, puts_at, g1, g2]
  ·try simp -implicitDefEqProofs (disch := first | decide | assumption | (simp (disch := decide) only [slotOf_zero, slotOf_succ, Option.map_some, puts_same, puts_ne, gv_bool, gv_undef, tt, tf, ft, ff, eq_self, if_true, if_false, Bool.false_eq_true, Bool.not_true, Bool.not_false, g1]; done) | omega) only [go_sem, RdS.len hd sl22, RdS.idx hd sl22, R1.intB hd (HPres.refl _), RdS.cells hd, RdS.len hm sl23, RdS.idx hm sl23, RdS.cellB hm (HPres.refl _), RdS.cells hm, BoxAt.cell hb0_0, wrap_id, g1, eq_self, if_true, if_false, Bool.false_eq_true]
   try simp -implicitDefEqProofs (disch := first | decide | assumption | (simp (disch := decide) only [slotOf_zero, slotOf_succ, Option.map_some, puts_same, puts_ne, gv_bool, gv_undef, tt, tf, ft, ff, eq_self, if_true, if_false, Bool.false_eq_true, Bool.not_true, Bool.not_false, g1]; done) | omega) only [go_sem, RdS.len hd sl22, RdS.idx hd sl22, R1.intB hd (HPres.refl _), RdS.cells hd, RdS.len hm sl23, RdS.idx hm sl23, RdS.cellB hm (HPres.refl _), RdS.cells hm, BoxAt.cell hb0_0, wrap_id, g1, eq_self, if_true, if_false, Bool.false_eq_true]
   try simp -implicitDefEqProofs (disch := first | decide | assumption | (simp (disch := decide) only [slotOf_zero, slotOf_succ, Option.map_some, puts_same, puts_ne, gv_bool, gv_undef, tt, tf, ft, ff, eq_self, if_true, if_false, Bool.false_eq_true, Bool.not_true, Bool.not_false, g1]; done) | omega) only [go_sem, RdS.len hd sl22, RdS.idx hd sl22, R1.intB hd (HPres.refl _), RdS.cells hd, RdS.len hm sl23, RdS.idx hm sl23, RdS.cellB hm (HPres.refl _), RdS.cells hm, BoxAt.cell hb0_0, wrap_id, g1, eq_self, if_true, if_false, Bool.false_eq_true]
   refine hK _ _ ?_
   clear hK K
   refine den_stop ?_
   refine ⟨?_, rfl⟩
   first | (simp (disch := decide) only [go_sem, g1, eq_self, Bool.true_and, Bool.and_true, Bool.false_and, Bool.and_false, Bool.true_or, Bool.or_true, Bool.false_or, Bool.or_false, if_true, if_false, Bool.false_eq_true]; done) | simp [HasL, sel, puts_at, g1]
 intro en4
 simp (disch := decide) only [go_sem]
 refine den_cond rfl (fun c0 => ?_) (fun c0 => ?_)
 ·try simp only [decide_eq_true_eq, decide_eq_false_iff_not, beq_iff_eq, beq_eq_false_iff_ne, bne_iff_ne, ne_eq, Bool.not_eq_true', Bool.not_eq_false', Bool.and_eq_true, Bool.or_eq_true, bne_eq_false_iff_eq, Bool.or_eq_false_iff, Bool.and_eq_false_iff] at c0
  refine den_seq ?_
  refine den_region TTok ?_
  intro K hK
  simp -implicitDefEqProofs (disch := first | decide | assumption | omega) only [go_sem, RdS.len hd sl22, RdS.idx hd sl22, R1.intB hd (HPres.refl _), RdS.cells hd, RdS.len hm sl23, RdS.idx hm sl23, RdS.cellB hm (HPres.refl _), RdS.cells hm, BoxAt.cell hb0_0, wrap_id]
  refine hK _ _ ?_
  clear hK K
  refine den_ret ?_
  simp (disch := decide) only [resP_1, puts_same, puts_ne]
  exact ⟨vbool (isC_no fun hC => by
   have h1 := hC.p; have h2 := hC.len; have h3 := hC.ml
   rcases c0 with ((c | c) | c) | c
   ·rw [h1] at c; cases c
   all_goals omega), e0_0⟩
 ·try simp only [decide_eq_true_eq, decide_eq_false_iff_not, beq_iff_eq, beq_eq_false_iff_ne, bne_iff_ne, ne_eq, Bool.not_eq_true', Bool.not_eq_false', Bool.and_eq_true, Bool.or_eq_true, bne_eq_false_iff_eq, Bool.or_eq_false_iff, Bool.and_eq_false_iff] at c0
  refine den_skip ?_
  refine den_seq ?_
  refine den_seq ?_
  refine den_region TTok ?_
  intro K hK
  simp -implicitDefEqProofs (disch := first | decide | assumption | omega) only [go_sem, RdS.len hd sl22, RdS.idx hd sl22, R1.intB hd (HPres.refl _), RdS.cells hd, RdS.len hm sl23, RdS.idx hm sl23, RdS.cellB hm (HPres.refl _), RdS.cells hm, BoxAt.cell hb0_0, wrap_id]
  refine hK _ _ ?_
  clear hK K
  refine den_block ?_
  refine den_sel [3, 1] ?_
  intro env_7
  simp only [go_sem]
  refine den_loopP (σ := Nat) (fun s => [(3, .int .i64 (s : Int))]) (fun s => s ≤ X.dims.length ∧ (X.dims.take s).all (fun x => in3 x 0 8) = true) (fun s => X.dims.length - s) 0 ?_ ?_
  ·exact ⟨rfl, by omega, by simp⟩
  ·rintro k ee9 ⟨hk, ha⟩
   simp only [List.cons_append, List.nil_append]
   refine den_seq ?_
   refine den_seq ?_
   have hp7 := isP_bnd c0.1.1.1
   refine den_region TTok ?_
   intro K hK
   simp -implicitDefEqProofs (disch := first | decide | assumption | omega) only [go_sem, fa33_1, ld22, RdS.len hd sl22, RdS.idx hd sl22, R1.intB hd (HPres.refl _), RdS.cells hd, RdS.len hm sl23, RdS.idx hm sl23, RdS.cellB hm (HPres.refl _), RdS.cells hm, BoxAt.cell hb0_0, wrap_id]
   refine hK _ _ ?_
   clear hK K
   refine den_cond rfl (fun c1 => ?_) (fun c1 => ?_)
   ·try simp only [decide_eq_true_eq, decide_eq_false_iff_not, beq_iff_eq, beq_eq_false_iff_ne, bne_iff_ne, ne_eq, Bool.not_eq_true', Bool.not_eq_false', Bool.and_eq_true, Bool.or_eq_true, bne_eq_false_iff_eq, Bool.or_eq_false_iff, Bool.and_eq_false_iff] at c1
    refine den_skip ?_
    refine den_seq ?_
    refine den_block ?_
    refine den_seq ?_
    refine den_region TTok ?_
    intro K hK
    simp -implicitDefEqProofs (disch := first | decide | assumption | omega) only [go_sem, fa33_1, ld22, ld2, RdS.len hd sl22, RdS.idx hd sl22, R1.intB hd (HPres.refl _), RdS.cells hd, RdS.len hm sl23, RdS.idx hm sl23, RdS.cellB hm (HPres.refl _), RdS.cells hm, BoxAt.cell hb0_0, wrap_id]
    try simp -implicitDefEqProofs (disch := first | decide | assumption | omega) only [go_sem, RdS.len hd sl22, RdS.idx hd sl22, R1.intB hd (HPres.refl _), RdS.cells hd, RdS.len hm sl23, RdS.idx hm sl23, RdS.cellB hm (HPres.refl _), RdS.cells hm, BoxAt.cell hb0_0, wrap_id]
    refine CallA.pure (sIn_ok _ _ _ _) ?_
    try simp -implicitDefEqProofs (disch := first | decide | assumption | omega) only [go_sem, RdS.len hd sl22, RdS.idx hd sl22, R1.intB hd (HPres.refl _), RdS.cells hd, RdS.len hm sl23, RdS.idx hm sl23, RdS.cellB hm (HPres.refl _), RdS.cells hm, BoxAt.cell hb0_0, wrap_id]
    refine hK _ _ ?_
    clear hK K
    refine den_cond rfl (fun c2 => ?_) (fun c2 => ?_)
    ·try simp only [decide_eq_true_eq, decide_eq_false_iff_not, beq_iff_eq, beq_eq_false_iff_ne, bne_iff_ne, ne_eq, Bool.not_eq_true', Bool.not_eq_false', Bool.and_eq_true, Bool.or_eq_true, bne_eq_false_iff_eq, Bool.or_eq_false_iff, Bool.and_eq_false_iff] at c2
     refine den_seq ?_
     refine den_region TTok ?_
     intro K hK
     simp -implicitDefEqProofs (disch := first | decide | assumption | omega) only [go_sem, RdS.len hd sl22, RdS.idx hd sl22, R1.intB hd (HPres.refl _), RdS.cells hd, RdS.len hm sl23, RdS.idx hm sl23, RdS.cellB hm (HPres.refl _), RdS.cells hm, BoxAt.cell hb0_0, wrap_id]
     refine hK _ _ ?_
     clear hK K
     refine den_ret ?_
     simp (disch := decide) only [resP_1, puts_same, puts_ne]
     exact ⟨vbool (isC_no fun hC => by have h := all_at (d := 0) hC.dm (k := k) (by omega); rw [c2] at h; cases h), e0_0⟩
    ·try simp only [decide_eq_true_eq, decide_eq_false_iff_not, beq_iff_eq, beq_eq_false_iff_ne, bne_iff_ne, ne_eq, Bool.not_eq_true', Bool.not_eq_false', Bool.and_eq_true, Bool.or_eq_true, bne_eq_false_iff_eq, Bool.or_eq_false_iff, Bool.and_eq_false_iff] at c2
     refine den_skip ?_
     refine den_blk ?_
     refine den_region TTok ?_
     intro K hK
     simp -implicitDefEqProofs (disch := first | decide | assumption | omega) only [go_sem, RdS.len hd sl22, RdS.idx hd sl22, R1.intB hd (HPres.refl _), RdS.cells hd, RdS.len hm sl23, RdS.idx hm sl23, RdS.cellB hm (HPres.refl _), RdS.cells hm, BoxAt.cell hb0_0, wrap_id]
     refine hK _ _ ?_
     clear hK K
     refine den_stop ?_
     exact ⟨k + 1, by simp [HasL, puts_at], ⟨rfl, by omega, all_step (d := 0) (by omega) ha (by simpa using c2)⟩, by omega⟩
   ·try simp only [decide_eq_true_eq, decide_eq_false_iff_not, beq_iff_eq, beq_eq_false_iff_ne, bne_iff_ne, ne_eq, Bool.not_eq_true', Bool.not_eq_false', Bool.and_eq_true, Bool.or_eq_true, bne_eq_false_iff_eq, Bool.or_eq_false_iff, Bool.and_eq_false_iff] at c1
    refine den_exit ?_
    refine denX_code ?_
    refine denX_stop ?_
    refine denX_hit ?_
    refine den_seq ?_
    refine den_seq ?_
    have hda := all_end (by omega) ha
    refine den_region TTok ?_
    intro K hK
    simp -implicitDefEqProofs (disch := first | decide | assumption | omega) only [go_sem, RdS.len hd sl22, RdS.idx hd sl22, R1.intB hd (HPres.refl _), RdS.cells hd, RdS.len hm sl23, RdS.idx hm sl23, RdS.cellB hm (HPres.refl _), RdS.cells hm, BoxAt.cell hb0_0, wrap_id]
    refine hK _ _ ?_
    clear hK K
    refine den_block ?_
    refine den_sel [4, 1] ?_
    intro env_10
    simp only [go_sem]
    refine den_loopS (σ := Nat) (fun s => [(4, .int .i64 (s : Int))]) (fun s H => Ext h0_0 H ∧ s ≤ X.maps.length ∧ ∀ j, j < s → tbAt X j ∧ (0 < j → ∀ i, i < (X.maps.getD j default).length → leadP (sqv X j i) < 0)) (fun s => X.maps.length - s) 0 ?_ ?_
    ·exact ⟨Ext.refl _, by omega, fun j hj => by omega⟩
    ·rintro k h13 ee12 ⟨eB, hk, hz⟩
     simp only [List.cons_append, List.nil_append]
     have := Ext.size eB
     refine den_seq ?_
     refine den_seq ?_
     refine den_region TTok ?_
     intro K hK
     simp -implicitDefEqProofs (disch := first | decide | assumption | omega) only [go_sem, fa33_2, ld23, RdS.len hd sl22, RdS.idx hd sl22, R1.intB hd (Ext.pres eB), RdS.cells hd, RdS.len hm sl23, RdS.idx hm sl23, RdS.cellB hm (Ext.pres eB), RdS.cells hm, BoxAt.cellB hb0_0 eB, wrap_id]
     refine hK _ _ ?_
     clear hK K
     refine den_cond rfl (fun c3 => ?_) (fun c3 => ?_)
     ·try simp only [decide_eq_true_eq, decide_eq_false_iff_not, beq_iff_eq, beq_eq_false_iff_ne, bne_iff_ne, ne_eq, Bool.not_eq_true', Bool.not_eq_false', Bool.and_eq_true, Bool.or_eq_true, bne_eq_false_iff_eq, Bool.or_eq_false_iff, Bool.and_eq_false_iff] at c3
      refine den_skip ?_
      refine den_seq ?_
      refine den_block ?_
      refine den_seq ?_
      refine den_seq ?_
      refine den_draw TTok mixed [] [(0, true), (1, true), (2, true), (3, true), (4, true), (5, true), (6, true), (7, true), (8, true), (9, true), (10, true), (11, true), (12, true), (13, true), (14, true), (15, true), (16, true), (17, true), (18, false), (19, true)] (by kernel_rfl) ?_
      intro K hK
      have hr14 := RdS.rowN hm k (by omega)
      have hlhr14 := RdS.le hr14
      simp -implicitDefEqProofs (disch := first | decide | assumption | omega) only [go_sem, fa33_0, fa33_1, fa33_2, ld23, ld27, ld22, ld2, RdS.len hd sl22, RdS.idx hd sl22, R1.intB hd (Ext.pres eB), RdS.cells hd, RdS.len hm sl23, RdS.idx hm sl23, RdS.cellB hm (Ext.pres eB), RdS.cells hm, RdS.len hr14 sl27, RdS.idx hr14 sl27, RdS.cellB hr14 (Ext.pres eB), RdS.cells hr14, BoxAt.cellB hb0_0 eB, wrap_id]
      try simp -implicitDefEqProofs (disch := first | decide | assumption | omega) only [go_sem, RdS.len hd sl22, RdS.idx hd sl22, R1.intB hd (Ext.pres eB), RdS.cells hd, RdS.len hm sl23, RdS.idx hm sl23, RdS.cellB hm (Ext.pres eB), RdS.cells hm, RdS.len hr14 sl27, RdS.idx hr14 sl27, RdS.cellB hr14 (Ext.pres eB), RdS.cells hr14, BoxAt.cellB hb0_0 eB, wrap_id]
      refine CallA.pure (sTable_ok _ _ _ _ _ _ (RdS.pres hr14 (Ext.pres eB)) (by omega)) ?_
      try simp -implicitDefEqProofs (disch := first | decide | assumption | omega) only [go_sem, RdS.len hd sl22, RdS.idx hd sl22, R1.intB hd (Ext.pres eB), RdS.cells hd, RdS.len hm sl23, RdS.idx hm sl23, RdS.cellB hm (Ext.pres eB), RdS.cells hm, RdS.len hr14 sl27, RdS.idx hr14 sl27, RdS.cellB hr14 (Ext.pres eB), RdS.cells hr14, BoxAt.cellB hb0_0 eB, wrap_id]
      refine hK _ _ ?_
      clear hK K
      refine den_cond rfl (fun c4 => ?_) (fun c4 => ?_)
      ·try simp only [decide_eq_true_eq, decide_eq_false_iff_not, beq_iff_eq, beq_eq_false_iff_ne, bne_iff_ne, ne_eq, Bool.not_eq_true', Bool.not_eq_false', Bool.and_eq_true, Bool.or_eq_true, bne_eq_false_iff_eq, Bool.or_eq_false_iff, Bool.and_eq_false_iff] at c4
       refine den_seq ?_
       refine den_region TTok ?_
       intro K hK
       simp -implicitDefEqProofs (disch := first | decide | assumption | omega) only [go_sem, RdS.len hd sl22, RdS.idx hd sl22, R1.intB hd (Ext.pres eB), RdS.cells hd, RdS.len hm sl23, RdS.idx hm sl23, RdS.cellB hm (Ext.pres eB), RdS.cells hm, RdS.len hr14 sl27, RdS.idx hr14 sl27, RdS.cellB hr14 (Ext.pres eB), RdS.cells hr14, BoxAt.cellB hb0_0 eB, wrap_id]
       refine hK _ _ ?_
       clear hK K
       refine den_ret ?_
       simp (disch := decide) only [resP_1, puts_same, puts_ne]
       exact ⟨vbool (isC_no fun hC => by have h := hC.tb k (by omega); unfold tbAt at h; rw [c4] at h; cases h), (Ext.trans e0_0 eB)⟩
      ·try simp only [decide_eq_true_eq, decide_eq_false_iff_not, beq_iff_eq, beq_eq_false_iff_ne, bne_iff_ne, ne_eq, Bool.not_eq_true', Bool.not_eq_false', Bool.and_eq_true, Bool.or_eq_true, bne_eq_false_iff_eq, Bool.or_eq_false_iff, Bool.and_eq_false_iff] at c4
       refine den_skip ?_
       refine den_seq ?_
       refine den_region TTok ?_
       intro K hK
       simp -implicitDefEqProofs (disch := first | decide | assumption | omega) only [go_sem, RdS.len hd sl22, RdS.idx hd sl22, R1.intB hd (Ext.pres eB), RdS.cells hd, RdS.len hm sl23, RdS.idx hm sl23, RdS.cellB hm (Ext.pres eB), RdS.cells hm, RdS.len hr14 sl27, RdS.idx hr14 sl27, RdS.cellB hr14 (Ext.pres eB), RdS.cells hr14, BoxAt.cellB hb0_0 eB, wrap_id]
       refine hK _ _ ?_
       clear hK K
       refine den_block ?_
       refine den_sel [5, 1, 4] ?_
       intro env_15
       simp only [go_sem]
       refine den_loopS (σ := Nat) (fun s => [(5, .int .i64 (s : Int))]) (fun s H => Ext h0_0 H ∧ s ≤ (X.maps.getD k default).length ∧ ∀ i, i < s → leadP (sqv X k i) < 0) (fun s => (X.maps.getD k default).length - s) 0 ?_ ?_
       ·exact ⟨eB, by omega, fun j hj => by omega⟩
       ·rintro m h18 ee17 ⟨eB, hm2, hy⟩
        simp only [List.cons_append, List.nil_append]
        have := Ext.size eB
        refine den_seq ?_
        refine den_seq ?_
        refine den_mergeH [(84, .bool (((decide ((m : Int) < (((X.maps).getD k default).length : Int))) && (decide ((0 : Int) < (k : Int))))))] [1, 4, 5] ?_ ?_
         -- a way
        ·refine den_region TTok ?_
         intro K hK
         have hr19 := RdS.rowN hm k (by omega)
         have hlhr19 := RdS.le hr19
         simp -implicitDefEqProofs (disch := first | decide | assumption | (simp (disch := decide) only [slotOf_zero, slotOf_succ, Option.map_some, puts_same, puts_ne, gv_bool, gv_undef, tt, tf, ft, ff, eq_self, if_true, if_false, Bool.false_eq_true, Bool.not_true, Bool.not_false]; done) | omega) only [go_sem, fa33_2, ld23, ld27, RdS.len hd sl22, RdS.idx hd sl22, R1.intB hd (Ext.pres eB), RdS.cells hd, RdS.len hm sl23, RdS.idx hm sl23, RdS.cellB hm (Ext.pres eB), RdS.cells hm, RdS.len hr14 sl27, RdS.idx hr14 sl27, RdS.cellB hr14 (Ext.pres eB), RdS.cells hr14, RdS.len hr19 sl27, RdS.idx hr19 sl27, RdS.cellB hr19 (Ext.pres eB), RdS.cells hr19, BoxAt.cellB hb0_0 eB, wrap_id]
         refine opsP_T (by simp (disch := decide) only [slotOf_zero, slotOf_succ, Option.map_some, puts_same, puts_ne, gv_bool, gv_undef, tt, tf, ft, ff, eq_self, if_true, if_false, Bool.false_eq_true, Bool.not_true, Bool.not_false]; rfl) (fun g20 => ?_) (fun g20 => ?_)
         ·try simp -implicitDefEqProofs (disch := first | decide | assumption | (simp (disch := decide) only [slotOf_zero, slotOf_succ, Option.map_some, puts_same, puts_ne, gv_bool, gv_undef, tt, tf, ft, ff, eq_self, if_true, if_false, Bool.false_eq_true, Bool.not_true, Bool.not_false, g20]; done) | omega) only [go_sem, RdS.len hd sl22, RdS.idx hd sl22, R1.intB hd (Ext.pres eB), RdS.cells hd, RdS.len hm sl23, RdS.idx hm sl23, RdS.cellB hm (Ext.pres eB), RdS.cells hm, RdS.len hr14 sl27, RdS.idx hr14 sl27, RdS.cellB hr14 (Ext.pres eB), RdS.cells hr14, RdS.len hr19 sl27, RdS.idx hr19 sl27, RdS.cellB hr19 (Ext.pres eB), RdS.cells hr19, BoxAt.cellB hb0_0 eB, wrap_id, g20, eq_self, if_true, if_false, Bool.false_eq_true]
          refine hK _ _ ?_
          clear hK K
          refine den_stop ?_
          refine ⟨?_, rfl⟩
          first | (simp (disch := decide) only [go_sem, g20, eq_self, Bool.true_and, Bool.and_true, Bool.false_and, Bool.and_false, Bool.true_or, Bool.or_true, Bool.false_or, Bool.or_false, if_true, if_false, Bool.false_eq_true]; done) | simp [HasL, sel, puts_at, g20]
         ·try simp -implicitDefEqProofs (disch := first | decide | assumption | (simp (disch := decide) only [slotOf_zero, slotOf_succ, Option.map_some, puts_same, puts_ne, gv_bool, gv_undef, tt, tf, ft, ff, eq_self, if_true, if_false, Bool.false_eq_true, Bool.not_true, Bool.not_false, g20]; done) | omega) only [go_sem, RdS.len hd sl22, RdS.idx hd sl22, R1.intB hd (Ext.pres eB), RdS.cells hd, RdS.len hm sl23, RdS.idx hm sl23, RdS.cellB hm (Ext.pres eB), RdS.cells hm, RdS.len hr14 sl27, RdS.idx hr14 sl27, RdS.cellB hr14 (Ext.pres eB), RdS.cells hr14, RdS.len hr19 sl27, RdS.idx hr19 sl27, RdS.cellB hr19 (Ext.pres eB), RdS.cells hr19, BoxAt.cellB hb0_0 eB, wrap_id, g20, eq_self, if_true, if_false, Bool.false_eq_true]
          refine hK _ _ ?_
          clear hK K
          refine den_stop ?_
          refine ⟨?_, rfl⟩
          first | (simp (disch := decide) only [go_sem, g20, eq_self, Bool.true_and, Bool.and_true, Bool.false_and, Bool.and_false, Bool.true_or, Bool.or_true, Bool.false_or, Bool.or_false, if_true, if_false, Bool.false_eq_true]; done) | simp [HasL, sel, puts_at, g20]
        intro en21
        simp (disch := decide) only [go_sem]
        refine den_cond rfl (fun c5 => ?_) (fun c5 => ?_)
        ·try simp only [decide_eq_true_eq, decide_eq_false_iff_not, beq_iff_eq, beq_eq_false_iff_ne, bne_iff_ne, ne_eq, Bool.not_eq_true', Bool.not_eq_false', Bool.and_eq_true, Bool.or_eq_true, bne_eq_false_iff_eq, Bool.or_eq_false_iff, Bool.and_eq_false_iff] at c5
         refine den_skip ?_
         refine den_seq ?_
         refine den_block ?_
         refine den_seq ?_
         have hq := app_pre (X := X) (k := k) (i := m) (fun j hj => by
          rcases Nat.lt_or_eq_of_le hj with h1 | h1
          ·exact (hz j h1).1
          ·subst h1; exact c4) (by omega) (by omega)
         have hdk := dm_at (X := X) hda (k := ((k : Int) - 1).toNat) (by omega)
         refine den_draw TTok mixed [] [(0, true), (1, true), (2, true), (3, true), (4, true), (5, true), (6, true), (7, true), (8, true), (9, true), (10, true), (11, true), (12, true), (13, true), (14, true), (15, true), (16, true), (17, true), (18, true), (19, true), (20, true), (21, true), (22, false), (23, false), (24, true)] (by kernel_rfl) ?_
         intro K hK
         have hr24 := RdS.rowN hm (((k : Int) - (1 : Int))).toNat (by omega)
         have hlhr24 := RdS.le hr24
         have hr25 := RdS.rowN hm k (by omega)
         have hlhr25 := RdS.le hr25
         have hr26 := RdS.rowN hr25 m (by omega)
         have hlhr26 := RdS.le hr26
         simp -implicitDefEqProofs (disch := first | decide | assumption | omega) only [go_sem, fa33_0, fa33_1, fa33_2, ld23, ld27, ld22, ld2, RdS.len hd sl22, RdS.idx hd sl22, R1.intB hd (Ext.pres eB), RdS.cells hd, RdS.len hm sl23, RdS.idx hm sl23, RdS.cellB hm (Ext.pres eB), RdS.cells hm, RdS.len hr14 sl27, RdS.idx hr14 sl27, RdS.cellB hr14 (Ext.pres eB), RdS.cells hr14, RdS.len hr24 sl27, RdS.idx hr24 sl27, RdS.cellB hr24 (Ext.pres eB), RdS.cells hr24, RdS.len hr25 sl27, RdS.idx hr25 sl27, RdS.cellB hr25 (Ext.pres eB), RdS.cells hr25, RdS.len hr26 sl22, RdS.idx hr26 sl22, R1.intB hr26 (Ext.pres eB), RdS.cells hr26, BoxAt.cellB hb0_0 eB, wrap_id]
         try simp -implicitDefEqProofs (disch := first | decide | assumption | omega) only [go_sem, RdS.len hd sl22, RdS.idx hd sl22, R1.intB hd (Ext.pres eB), RdS.cells hd, RdS.len hm sl23, RdS.idx hm sl23, RdS.cellB hm (Ext.pres eB), RdS.cells hm, RdS.len hr14 sl27, RdS.idx hr14 sl27, RdS.cellB hr14 (Ext.pres eB), RdS.cells hr14, RdS.len hr24 sl27, RdS.idx hr24 sl27, RdS.cellB hr24 (Ext.pres eB), RdS.cells hr24, RdS.len hr25 sl27, RdS.idx hr25 sl27, RdS.cellB hr25 (Ext.pres eB), RdS.cells hr25, RdS.len hr26 sl22, RdS.idx hr26 sl22, R1.intB hr26 (Ext.pres eB), RdS.cells hr26, BoxAt.cellB hb0_0 eB, wrap_id]
         refine CallA.mono (sApply_ok _ _ _ _ _ _ _ (RdS.pres hr26 (Ext.pres eB)) (RdS.pres hr24 (Ext.pres eB)) hp7 (by omega) hq.1 hq.2.1 hq.2.2) ?_
         intro v16_22 h16_22
         rintro ⟨f16_22, ho16_22, hf16_22, e16_22⟩
         have := Ext.size e16_22
         replace eB := Ext.trans eB e16_22
         change O1 _ _ (sqv X k m) _ at ho16_22
         have hlho16_22 := OS.lt ho16_22
         try simp (disch := decide) only [outv_some, outv_none, put_puts]
         refine plK_pres (Ext.pres e16_22) ?_
         try simp -implicitDefEqProofs (disch := first | decide | assumption | omega) only [go_sem, RdS.len hd sl22, RdS.idx hd sl22, R1.intB hd (Ext.pres eB), RdS.cells hd, RdS.len hm sl23, RdS.idx hm sl23, RdS.cellB hm (Ext.pres eB), RdS.cells hm, RdS.len hr14 sl27, RdS.idx hr14 sl27, RdS.cellB hr14 (Ext.pres eB), RdS.cells hr14, RdS.len hr24 sl27, RdS.idx hr24 sl27, RdS.cellB hr24 (Ext.pres eB), RdS.cells hr24, RdS.len hr25 sl27, RdS.idx hr25 sl27, RdS.cellB hr25 (Ext.pres eB), RdS.cells hr25, RdS.len hr26 sl22, RdS.idx hr26 sl22, R1.intB hr26 (Ext.pres eB), RdS.cells hr26, RdS.len (OS.rd ho16_22) sl22, RdS.idx (OS.rd ho16_22) sl22, R1.intN (OS.rd ho16_22), RdS.cells (OS.rd ho16_22), BoxAt.cellB hb0_0 eB, wrap_id]
         try simp -implicitDefEqProofs (disch := first | decide | assumption | omega) only [go_sem, RdS.len hd sl22, RdS.idx hd sl22, R1.intB hd (Ext.pres eB), RdS.cells hd, RdS.len hm sl23, RdS.idx hm sl23, RdS.cellB hm (Ext.pres eB), RdS.cells hm, RdS.len hr14 sl27, RdS.idx hr14 sl27, RdS.cellB hr14 (Ext.pres eB), RdS.cells hr14, RdS.len hr24 sl27, RdS.idx hr24 sl27, RdS.cellB hr24 (Ext.pres eB), RdS.cells hr24, RdS.len hr25 sl27, RdS.idx hr25 sl27, RdS.cellB hr25 (Ext.pres eB), RdS.cells hr25, RdS.len hr26 sl22, RdS.idx hr26 sl22, R1.intB hr26 (Ext.pres eB), RdS.cells hr26, RdS.len (OS.rd ho16_22) sl22, RdS.idx (OS.rd ho16_22) sl22, R1.intN (OS.rd ho16_22), RdS.cells (OS.rd ho16_22), BoxAt.cellB hb0_0 eB, wrap_id]
         refine CallA.pure (sLead_ok _ _ _ (OS.rd ho16_22)) ?_
         try simp -implicitDefEqProofs (disch := first | decide | assumption | omega) only [go_sem, RdS.len hd sl22, RdS.idx hd sl22, R1.intB hd (Ext.pres eB), RdS.cells hd, RdS.len hm sl23, RdS.idx hm sl23, RdS.cellB hm (Ext.pres eB), RdS.cells hm, RdS.len hr14 sl27, RdS.idx hr14 sl27, RdS.cellB hr14 (Ext.pres eB), RdS.cells hr14, RdS.len hr24 sl27, RdS.idx hr24 sl27, RdS.cellB hr24 (Ext.pres eB), RdS.cells hr24, RdS.len hr25 sl27, RdS.idx hr25 sl27, RdS.cellB hr25 (Ext.pres eB), RdS.cells hr25, RdS.len hr26 sl22, RdS.idx hr26 sl22, R1.intB hr26 (Ext.pres eB), RdS.cells hr26, RdS.len (OS.rd ho16_22) sl22, RdS.idx (OS.rd ho16_22) sl22, R1.intN (OS.rd ho16_22), RdS.cells (OS.rd ho16_22), BoxAt.cellB hb0_0 eB, wrap_id]
         refine hK _ _ ?_
         clear hK K
         refine den_cond rfl (fun c6 => ?_) (fun c6 => ?_)
         ·try simp only [decide_eq_true_eq, decide_eq_false_iff_not, beq_iff_eq, beq_eq_false_iff_ne, bne_iff_ne, ne_eq, Bool.not_eq_true', Bool.not_eq_false', Bool.and_eq_true, Bool.or_eq_true, bne_eq_false_iff_eq, Bool.or_eq_false_iff, Bool.and_eq_false_iff] at c6
          refine den_seq ?_
          refine den_region TTok ?_
          intro K hK
          simp -implicitDefEqProofs (disch := first | decide | assumption | omega) only [go_sem, RdS.len hd sl22, RdS.idx hd sl22, R1.intB hd (Ext.pres eB), RdS.cells hd, RdS.len hm sl23, RdS.idx hm sl23, RdS.cellB hm (Ext.pres eB), RdS.cells hm, RdS.len hr14 sl27, RdS.idx hr14 sl27, RdS.cellB hr14 (Ext.pres eB), RdS.cells hr14, RdS.len hr24 sl27, RdS.idx hr24 sl27, RdS.cellB hr24 (Ext.pres eB), RdS.cells hr24, RdS.len hr25 sl27, RdS.idx hr25 sl27, RdS.cellB hr25 (Ext.pres eB), RdS.cells hr25, RdS.len hr26 sl22, RdS.idx hr26 sl22, R1.intB hr26 (Ext.pres eB), RdS.cells hr26, RdS.len (OS.rd ho16_22) sl22, RdS.idx (OS.rd ho16_22) sl22, R1.intN (OS.rd ho16_22), RdS.cells (OS.rd ho16_22), BoxAt.cellB hb0_0 eB, wrap_id]
          refine hK _ _ ?_
          clear hK K
          refine den_ret ?_
          simp (disch := decide) only [resP_1, puts_same, puts_ne]
          exact ⟨vbool (isC_no fun hC => by have h := hC.sq k (by omega) (by omega) m (by omega); omega), (Ext.trans e0_0 eB)⟩
         ·try simp only [decide_eq_true_eq, decide_eq_false_iff_not, beq_iff_eq, beq_eq_false_iff_ne, bne_iff_ne, ne_eq, Bool.not_eq_true', Bool.not_eq_false', Bool.and_eq_true, Bool.or_eq_true, bne_eq_false_iff_eq, Bool.or_eq_false_iff, Bool.and_eq_false_iff] at c6
          refine den_skip ?_
          refine den_blk ?_
          refine den_region TTok ?_
          intro K hK
          simp -implicitDefEqProofs (disch := first | decide | assumption | omega) only [go_sem, RdS.len hd sl22, RdS.idx hd sl22, R1.intB hd (Ext.pres eB), RdS.cells hd, RdS.len hm sl23, RdS.idx hm sl23, RdS.cellB hm (Ext.pres eB), RdS.cells hm, RdS.len hr14 sl27, RdS.idx hr14 sl27, RdS.cellB hr14 (Ext.pres eB), RdS.cells hr14, RdS.len hr24 sl27, RdS.idx hr24 sl27, RdS.cellB hr24 (Ext.pres eB), RdS.cells hr24, RdS.len hr25 sl27, RdS.idx hr25 sl27, RdS.cellB hr25 (Ext.pres eB), RdS.cells hr25, RdS.len hr26 sl22, RdS.idx hr26 sl22, R1.intB hr26 (Ext.pres eB), RdS.cells hr26, RdS.len (OS.rd ho16_22) sl22, RdS.idx (OS.rd ho16_22) sl22, R1.intN (OS.rd ho16_22), RdS.cells (OS.rd ho16_22), BoxAt.cellB hb0_0 eB, wrap_id]
          refine hK _ _ ?_
          clear hK K
          refine den_stop ?_
          exact ⟨m + 1, by simp [HasL, puts_at], ⟨eB, by omega, fun i hi => by
           rcases Nat.lt_succ_iff_lt_or_eq.1 hi with h1 | h1
           ·exact hy i h1
           ·subst h1; omega⟩, by omega⟩
        ·try simp only [decide_eq_true_eq, decide_eq_false_iff_not, beq_iff_eq, beq_eq_false_iff_ne, bne_iff_ne, ne_eq, Bool.not_eq_true', Bool.not_eq_false', Bool.and_eq_true, Bool.or_eq_true, bne_eq_false_iff_eq, Bool.or_eq_false_iff, Bool.and_eq_false_iff] at c5
         refine den_exit ?_
         refine denX_code ?_
         refine denX_stop ?_
         refine denX_hit ?_
         refine den_blk ?_
         refine den_region TTok ?_
         intro K hK
         simp -implicitDefEqProofs (disch := first | decide | assumption | omega) only [go_sem, RdS.len hd sl22, RdS.idx hd sl22, R1.intB hd (Ext.pres eB), RdS.cells hd, RdS.len hm sl23, RdS.idx hm sl23, RdS.cellB hm (Ext.pres eB), RdS.cells hm, RdS.len hr14 sl27, RdS.idx hr14 sl27, RdS.cellB hr14 (Ext.pres eB), RdS.cells hr14, BoxAt.cellB hb0_0 eB, wrap_id]
         refine hK _ _ ?_
         clear hK K
         refine den_stop ?_
         exact ⟨k + 1, by simp [HasL, puts_at], ⟨eB, by omega, fun j hj => by
          rcases Nat.lt_succ_iff_lt_or_eq.1 hj with h1 | h1
          ·exact hz j h1
          ·subst h1; exact ⟨c4, fun h0 i hi => hy i (by omega)⟩⟩, by omega⟩
     ·try simp only [decide_eq_true_eq, decide_eq_false_iff_not, beq_iff_eq, beq_eq_false_iff_ne, bne_iff_ne, ne_eq, Bool.not_eq_true', Bool.not_eq_false', Bool.and_eq_true, Bool.or_eq_true, bne_eq_false_iff_eq, Bool.or_eq_false_iff, Bool.and_eq_false_iff] at c3
      refine den_exit ?_
      refine denX_code ?_
      refine denX_stop ?_
      refine denX_hit ?_
      refine den_seq ?_
      refine den_region TTok ?_
      intro K hK
      simp -implicitDefEqProofs (disch := first | decide | assumption | omega) only [go_sem, RdS.len hd sl22, RdS.idx hd sl22, R1.intB hd (Ext.pres eB), RdS.cells hd, RdS.len hm sl23, RdS.idx hm sl23, RdS.cellB hm (Ext.pres eB), RdS.cells hm, BoxAt.cellB hb0_0 eB, wrap_id]
      refine hK _ _ ?_
      clear hK K
      refine den_ret ?_
      simp (disch := decide) only [resP_1, puts_same, puts_ne]
      exact ⟨vbool (isC_yes ⟨c0.1.1.1, by omega, by omega, hda, fun j hj => (hz j (by omega)).1, fun j hj h0 => (hz j (by omega)).2 h0⟩), (Ext.trans e0_0 eB)⟩
end Go.Proofs.Ytkdnnfkdgmblgaa
