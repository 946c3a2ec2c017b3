/-
  What the statement FnExactFilteredOf uses of the walks, part 1.
  Conditions: each theorem's own.
-/
import Derived.Test.YtacajcjibhifmaaG16
import Derived.Test.YtacajcjibhifmaaG17
import Derived.Test.YtacajcjibhifmaaG14
import Derived.Test.YtacajcjibhifmaaG13
import Derived.Test.YtacajcjibhifmaaG15
import Derived.Test.YtacajcjibhifmaaG18
import Derived.Test.YtacajcjibhifmaaG19
set_option linter.unusedVariables false
set_option linter.unusedSimpArgs false
namespace Go.Proofs.Ytacajcjibhifmaa
open Go
abbrev Apart (fp fq : List Nat) : Prop := ∀ b ∈ fp, b ∉ fq
def Sub (fp0 : List Nat) (n : Nat) (fp : List Nat) : Prop := ∀ b ∈ fp, b ∈ fp0 ∨ n ≤ b
theorem apart_lt {fp fq : List Nat} {m lo : Nat} (l : ∀ b ∈ fp, b < m) (f : Fresh lo fq) (h : m ≤ lo) : Apart fp fq := fun b hb hq => by
 have := l b hb; have := f.ge b hq; omega
theorem apart_gt {fp fq : List Nat} {m lo : Nat} (f : Fresh lo fp) (l : ∀ b ∈ fq, b < m) (h : m ≤ lo) : Apart fp fq := fun b hb hq => by
 have := l b hq; have := f.ge b hb; omega
theorem Apart.symm {fp fq : List Nat} (h : Apart fp fq) : Apart fq fp := fun b hb hq => h b hq hb
theorem Apart.app {fp f1 f2 : List Nat} (h1 : Apart fp f1) (h2 : Apart fp f2) : Apart fp (f1 ++ f2) := fun b hb hq => by
 rcases List.mem_append.1 hq with h | h
 ·exact h1 b hb h
 ·exact h2 b hb h
theorem Apart.nil (fp : List Nat) : Apart fp [] := fun b hb hq => by cases hq
/-- What has grown out of a list, an element and new blocks lies apart from what was apart from both and is older. -/
theorem Apart.grow {fo fp fx fp' : List Nat} {m k : Nat} (hl : ∀ b ∈ fo, b < k) (hk : k ≤ m) (h1 : Apart fo fp) (h2 : Apart fo fx) (hs : ∀ b ∈ fp', b ∈ fp ∨ b ∈ fx ∨ m ≤ b) : Apart fo fp' := fun b hb hp => by
 rcases hs b hp with h | h | h
 ·exact h1 b hb h
 ·exact h2 b hb h
 ·have := hl b hb; omega
theorem Fresh.appd {lo lx m : Nat} {fp fx fp' : List Nat} (f : Fresh lo fp) (g : Fresh lx fx) (hx : lo ≤ lx) (hm : lo ≤ m) (hn : fp'.Nodup) (hs : ∀ b ∈ fp', b ∈ fp ∨ b ∈ fx ∨ m ≤ b) : Fresh lo fp' :=
 ⟨hn, fun b hb => by
  rcases hs b hb with h | h | h
  ·exact f.ge b h
  ·have := g.ge b h; omega
  ·omega⟩
theorem Sub.refl {fp0 : List Nat} {n : Nat} : Sub fp0 n fp0 := fun _ h => .inl h
theorem Sub.left {f1 f2 fp : List Nat} {n : Nat} (h : Sub f1 n fp) : Sub (f1 ++ f2) n fp := fun b hb => (h b hb).elim (fun h => .inl (List.mem_append_left _ h)) .inr
theorem Sub.right {f1 f2 fp : List Nat} {n : Nat} (h : Sub f2 n fp) : Sub (f1 ++ f2) n fp := fun b hb => (h b hb).elim (fun h => .inl (List.mem_append_right _ h)) .inr
theorem Sub.app {fp0 f1 f2 : List Nat} {n : Nat} (h1 : Sub fp0 n f1) (h2 : Sub fp0 n f2) : Sub fp0 n (f1 ++ f2) := fun b hb => by
 rcases List.mem_append.1 hb with h | h
 ·exact h1 b h
 ·exact h2 b h
theorem Sub.fresh {fp0 fp : List Nat} {n lo : Nat} (f : Fresh lo fp) (h : n ≤ lo) : Sub fp0 n fp := fun b hb => .inr (Nat.le_trans h (f.ge b hb))
theorem Sub.grow {fp0 fp fx fp' : List Nat} {n m : Nat} (h1 : Sub fp0 n fp) (h2 : Sub fp0 n fx) (hm : n ≤ m) (hs : ∀ b ∈ fp', b ∈ fp ∨ b ∈ fx ∨ m ≤ b) : Sub fp0 n fp' := fun b hb => by
 rcases hs b hb with h | h | h
 ·exact h1 b h
 ·exact h2 b h
 ·exact .inr (Nat.le_trans hm h)
theorem Sub.trans {fp0 fp1 fp : List Nat} {n m : Nat} (h : Sub fp1 m fp) (k : Sub fp0 n fp1) (hm : n ≤ m) : Sub fp0 n fp := fun b hb => by
 rcases h b hb with h | h
 ·exact k b h
 ·exact .inr (Nat.le_trans hm h)
theorem Sub.nil {fp0 : List Nat} {n : Nat} : Sub fp0 n [] := fun b hb => by cases hb
theorem ge_of {lo m : Nat} {fp : List Nat} (f : Fresh lo fp) (h : m ≤ lo) : ∀ b ∈ fp, m ≤ b := fun b hb => Nat.le_trans h (f.ge b hb)
theorem ge_app {m : Nat} {f1 f2 : List Nat} (h1 : ∀ b ∈ f1, m ≤ b) (h2 : ∀ b ∈ f2, m ≤ b) : ∀ b ∈ f1 ++ f2, m ≤ b := fun b hb => by
 rcases List.mem_append.1 hb with h | h
 ·exact h1 b h
 ·exact h2 b h
theorem Chg.step {fp0 fp : List Nat} {a b c : Heap} (h : Chg fp0 a b) (k : Chg fp b c) (s : Sub fp0 a.size fp) : Chg fp0 a c :=
 ⟨Nat.le_trans h.size k.size, fun q hq hn => (k.block q (Nat.lt_of_lt_of_le hq h.size) (fun hm => by
  rcases s q hm with h1 | h1
  ·exact hn h1
  ·omega)).trans (h.block q hq hn)⟩
theorem Chg.stepE {fp0 : List Nat} {a b c : Heap} (h : Chg fp0 a b) (k : Ext b c) : Chg fp0 a c := h.trans (k.chg _)
theorem Apart.sub_ {fz fp0 fp : List Nat} {m n : Nat} (hl : ∀ b ∈ fz, b < m) (hm : m ≤ n) (a : Apart fz fp0) (s : Sub fp0 n fp) : Apart fz fp := fun b hb hp => by
 rcases s b hp with h | h
 ·exact a b hb h
 ·have := hl b hb; omega
theorem Fresh.two {l1 l2 lo : Nat} {fp fq : List Nat} (f1 : Fresh l1 fp) (f2 : Fresh l2 fq) (ap : Apart fp fq) (h1 : lo ≤ l1) (h2 : lo ≤ l2) : Fresh lo (fp ++ fq) :=
 ⟨List.nodup_append.2 ⟨f1.nodup, f2.nodup, fun b hb c hc e => ap b hb (e ▸ hc)⟩, fun b hb => by
  rcases List.mem_append.1 hb with h | h
  ·exact Nat.le_trans h1 (f1.ge b h)
  ·exact Nat.le_trans h2 (f2.ge b h)⟩
theorem apart_nodup {lo : Nat} {f1 f2 : List Nat} (h : Fresh lo (f1 ++ f2)) : Apart f1 f2 := fun b hb hm => (List.nodup_append.1 h.nodup).2.2 b hb b hm rfl
theorem one_lt {b n : Nat} (h : b < n) : ∀ q ∈ [b], q < n := fun q hq => by simp at hq; omega
theorem BoxAt.chgA {h h' : Heap} {b : Nat} {cs : Array Value} {t : TypeId} {fp : List Nat} (hb : BoxAt h b cs t) (c : Chg fp h h') (hn : Apart [b] fp) : BoxAt h' b cs t := hb.chg c (hn b (by simp))
theorem range_step {β : Type} (f : Nat → β) (k : Nat) : (List.range k).map f ++ [f k] = (List.range (k + 1)).map f := by simp [List.range_succ]
theorem mod_twice {p x : Int} (hp : 0 < p) : (x.tmod p + p).tmod p = x % p := by
 have h1 : -p < x.tmod p := by
  have := Int.lt_tmod_of_pos x hp; omega
 rw [Int.tmod_eq_emod_of_nonneg (by omega), Int.add_emod_right, Int.tmod_def, Int.sub_mul_emod_self_left]
theorem tmod_in {p x : Int} (hp : 0 < p) : -p < x.tmod p ∧ x.tmod p < p := ⟨by have := Int.lt_tmod_of_pos x hp; omega, Int.tmod_lt_of_pos x hp⟩
theorem resP_ct {T : Tab} {R : Value → Heap → Prop} {env : Env} {h : Heap} {a u : Nat} {t : TypeId} : resP T [.cell a t, .tmp u] R env h = Bd (asAd (env a)) fun ad => Bd (loadV T h t ad) fun v => R (.tuple #[v, env u]) h := by
 unfold resP resV resL resL resL
 cases asAd (env a) with
 | none => rfl
 | some ad => cases h1 : loadV T h t ad <;> simp [h1, Bd]
theorem binV_eqB (a b : Bool) : binV TT .eql 4 (.bool a) (.bool b) = some (.bool (a == b)) := by simp [binV, T4]
theorem binV_neB (a b : Bool) : binV TT .neq 4 (.bool a) (.bool b) = some (.bool (!(a == b))) := by simp [binV, T4]
theorem binV_eqNil (A : Option Addr) (n c : Nat) : binV TT .eql 55 (.slice A n c) (.slice none 0 0) = some (.bool A.isNone) := by cases A <;> simp [binV, T55]
attribute [go_sem] binV_eqB binV_neB binV_eqNil
end Go.Proofs.Ytacajcjibhifmaa

namespace Go.Proofs.Ytacajcjibhifmaa
open Go
def HM1 (xs : List Int) : Prop := (xs.length : Int) ≤ 1048576
def HM2 (R : List (List Int)) : Prop := (R.length : Int) ≤ 1048576 ∧ ∀ r ∈ R, HM1 r
def HM3 (R : List (List (List Int))) : Prop := (R.length : Int) ≤ 1048576 ∧ ∀ r ∈ R, HM2 r
theorem HM2.len {R : List (List Int)} (h : HM2 R) : (R.length : Int) ≤ 1048576 := h.1
theorem HM3.len {R : List (List (List Int))} (h : HM3 R) : (R.length : Int) ≤ 1048576 := h.1
theorem getD_mem {α : Type} [Inhabited α] {R : List α} {k : Nat} (hk : k < R.length) : R.getD k default ∈ R := by rw [List.getD_eq_getElem?_getD, List.getElem?_eq_getElem hk]; exact List.getElem_mem hk
theorem HM2.at {R : List (List Int)} (h : HM2 R) (k : Nat) (hk : k < R.length) : HM1 (R.getD k default) := h.2 _ (getD_mem hk)
theorem HM3.at {R : List (List (List Int))} (h : HM3 R) (k : Nat) (hk : k < R.length) : HM2 (R.getD k default) := h.2 _ (getD_mem hk)
end Go.Proofs.Ytacajcjibhifmaa

namespace Go.Proofs.Ytacajcjibhifmaa
open Go
def eqC (X Y : Cx) : Bool := decide (X.p = Y.p) && (decide (X.dims = Y.dims) && decide (X.maps = Y.maps))
theorem eqC_self (X : Cx) : eqC X X = true := by simp [eqC]
def HMC (X : Cx) : Prop := HM1 X.dims ∧ HM3 X.maps

set_option maxRecDepth 100000 in
theorem eqS_ok (v w : Value) (xs ys : List Int) (h : Heap) (hv : R1 h v xs) (hw : R1 h w ys) : CallA Try.prog 35 #[v, w] h fun v h' => v = .bool (decide (xs = ys)) ∧ h' = h := by
 have hle := RdS.le hv
 refine callA_intro TTok (args := [_, _]) Try.func35 (by kernel_rfl) rfl 26 rfl (by simp) [.tmp 4] rfl ?_
 simp only [idxs, Nat.reduceAdd]
 refine den_seq ?_
 refine den_region TTok ?_
 intro K hK
 simp -implicitDefEqProofs (disch := first | decide | assumption | omega) only [go_sem, RdS.len hv sl55, RdS.idx hv sl55, R1.intB hv (HPres.refl _), RdS.cells hv, RdS.len hw sl55, RdS.idx hw sl55, R1.intB hw (HPres.refl _), RdS.cells hw, wrap_id]
 refine hK _ _ ?_
 clear hK K
 refine den_seq ?_
 refine den_seq ?_
 refine den_region TTok ?_
 intro K hK
 simp -implicitDefEqProofs (disch := first | decide | assumption | omega) only [go_sem, RdS.len hv sl55, RdS.idx hv sl55, R1.intB hv (HPres.refl _), RdS.cells hv, RdS.len hw sl55, RdS.idx hw sl55, R1.intB hw (HPres.refl _), RdS.cells hw, wrap_id]
 refine hK _ _ ?_
 clear hK K
 refine den_cond rfl (fun c0 => ?_) (fun c0 => ?_)
 ·try simp only [decide_eq_true_eq, decide_eq_false_iff_not, beq_iff_eq, beq_eq_false_iff_ne, bne_iff_ne, ne_eq, Bool.not_eq_true', Bool.not_eq_false', Bool.and_eq_true, Bool.or_eq_true, bne_eq_false_iff_eq] at c0
  refine den_seq ?_
  refine den_region TTok ?_
  intro K hK
  simp -implicitDefEqProofs (disch := first | decide | assumption | omega) only [go_sem, RdS.len hv sl55, RdS.idx hv sl55, R1.intB hv (HPres.refl _), RdS.cells hv, RdS.len hw sl55, RdS.idx hw sl55, R1.intB hw (HPres.refl _), RdS.cells hw, wrap_id]
  refine hK _ _ ?_
  clear hK K
  refine den_ret ?_
  simp (disch := decide) only [resP_1, puts_same, puts_ne]
  exact ⟨vbool (by simp; intro he; rw [he] at c0; omega), trivial⟩
 ·try simp only [decide_eq_true_eq, decide_eq_false_iff_not, beq_iff_eq, beq_eq_false_iff_ne, bne_iff_ne, ne_eq, Bool.not_eq_true', Bool.not_eq_false', Bool.and_eq_true, Bool.or_eq_true, bne_eq_false_iff_eq] at c0
  refine den_skip ?_
  refine den_seq ?_
  refine den_seq ?_
  refine den_region TTok ?_
  intro K hK
  simp -implicitDefEqProofs (disch := first | decide | assumption | omega) only [go_sem, RdS.len hv sl55, RdS.idx hv sl55, R1.intB hv (HPres.refl _), RdS.cells hv, RdS.len hw sl55, RdS.idx hw sl55, R1.intB hw (HPres.refl _), RdS.cells hw, wrap_id]
  refine hK _ _ ?_
  clear hK K
  refine den_block ?_
  refine den_sel [5, 0, 1] ?_
  intro env_1
  simp only [go_sem]
  refine den_loopP (σ := Nat) (fun s => [(5, .int .i64 (s : Int))]) (fun s => s ≤ xs.length ∧ xs.take s = ys.take s) (fun s => xs.length - s) 0 ?_ ?_
  ·exact ⟨rfl, by omega, by simp⟩
  ·rintro k ee3 ⟨hk, heq⟩
   simp only [List.cons_append, List.nil_append]
   refine den_seq ?_
   refine den_seq ?_
   refine den_region TTok ?_
   intro K hK
   simp -implicitDefEqProofs (disch := first | decide | assumption | omega) only [go_sem, RdS.len hv sl55, RdS.idx hv sl55, R1.intB hv (HPres.refl _), RdS.cells hv, RdS.len hw sl55, RdS.idx hw sl55, R1.intB hw (HPres.refl _), RdS.cells hw, wrap_id]
   refine hK _ _ ?_
   clear hK K
   refine den_cond rfl (fun c1 => ?_) (fun c1 => ?_)
   ·try simp only [decide_eq_true_eq, decide_eq_false_iff_not, beq_iff_eq, beq_eq_false_iff_ne, bne_iff_ne, ne_eq, Bool.not_eq_true', Bool.not_eq_false', Bool.and_eq_true, Bool.or_eq_true, bne_eq_false_iff_eq] at c1
    refine den_skip ?_
    refine den_seq ?_
    refine den_block ?_
    refine den_seq ?_
    refine den_draw TTok mixed [] [(0, true), (1, true), (2, true), (3, true), (4, true), (5, true), (6, true), (7, true), (8, true)] (by kernel_rfl) ?_
    intro K hK
    simp -implicitDefEqProofs (disch := first | decide | assumption | omega) only [go_sem, ld2, RdS.len hv sl55, RdS.idx hv sl55, R1.intB hv (HPres.refl _), RdS.cells hv, RdS.len hw sl55, RdS.idx hw sl55, R1.intB hw (HPres.refl _), RdS.cells hw, wrap_id]
    refine hK _ _ ?_
    clear hK K
    refine den_cond rfl (fun c2 => ?_) (fun c2 => ?_)
    ·try simp only [decide_eq_true_eq, decide_eq_false_iff_not, beq_iff_eq, beq_eq_false_iff_ne, bne_iff_ne, ne_eq, Bool.not_eq_true', Bool.not_eq_false', Bool.and_eq_true, Bool.or_eq_true, bne_eq_false_iff_eq] at c2
     refine den_seq ?_
     refine den_region TTok ?_
     intro K hK
     simp -implicitDefEqProofs (disch := first | decide | assumption | omega) only [go_sem, RdS.len hv sl55, RdS.idx hv sl55, R1.intB hv (HPres.refl _), RdS.cells hv, RdS.len hw sl55, RdS.idx hw sl55, R1.intB hw (HPres.refl _), RdS.cells hw, wrap_id]
     refine hK _ _ ?_
     clear hK K
     refine den_ret ?_
     simp (disch := decide) only [resP_1, puts_same, puts_ne]
     exact ⟨vbool (by simp; exact eq_stop (d := 0) (by simpa using c2)), trivial⟩
    ·try simp only [decide_eq_true_eq, decide_eq_false_iff_not, beq_iff_eq, beq_eq_false_iff_ne, bne_iff_ne, ne_eq, Bool.not_eq_true', Bool.not_eq_false', Bool.and_eq_true, Bool.or_eq_true, bne_eq_false_iff_eq] at c2
     refine den_skip ?_
     refine den_blk ?_
     refine den_region TTok ?_
     intro K hK
     simp -implicitDefEqProofs (disch := first | decide | assumption | omega) only [go_sem, RdS.len hv sl55, RdS.idx hv sl55, R1.intB hv (HPres.refl _), RdS.cells hv, RdS.len hw sl55, RdS.idx hw sl55, R1.intB hw (HPres.refl _), RdS.cells hw, wrap_id]
     refine hK _ _ ?_
     clear hK K
     refine den_stop ?_
     exact ⟨k + 1, by simp [HasL, puts_at], ⟨rfl, by omega, eq_step (by omega) (by omega) heq (d := 0) (d' := 0) (by simpa using c2)⟩, by omega⟩
   ·try simp only [decide_eq_true_eq, decide_eq_false_iff_not, beq_iff_eq, beq_eq_false_iff_ne, bne_iff_ne, ne_eq, Bool.not_eq_true', Bool.not_eq_false', Bool.and_eq_true, Bool.or_eq_true, bne_eq_false_iff_eq] at c1
    refine den_exit ?_
    refine denX_code ?_
    refine denX_stop ?_
    refine denX_hit ?_
    refine den_seq ?_
    refine den_region TTok ?_
    intro K hK
    simp -implicitDefEqProofs (disch := first | decide | assumption | omega) only [go_sem, RdS.len hv sl55, RdS.idx hv sl55, R1.intB hv (HPres.refl _), RdS.cells hv, RdS.len hw sl55, RdS.idx hw sl55, R1.intB hw (HPres.refl _), RdS.cells hw, wrap_id]
    refine hK _ _ ?_
    clear hK K
    refine den_ret ?_
    simp (disch := decide) only [resP_1, puts_same, puts_ne]
    exact ⟨vbool (by simp; exact eq_end (by omega) (by omega) heq), trivial⟩

set_option maxRecDepth 100000 in
theorem eqSS_ok (v w : Value) (xs ys : List (List Int)) (h : Heap) (hv : R2 h v xs) (hw : R2 h w ys) : CallA Try.prog 74 #[v, w] h fun v h' => v = .bool (decide (xs = ys)) ∧ h' = h := by
 have hle := RdS.le hv
 refine callA_intro TTok (args := [_, _]) Try.func74 (by kernel_rfl) rfl 27 rfl (by simp) [.tmp 4] rfl ?_
 simp only [idxs, Nat.reduceAdd]
 refine den_seq ?_
 refine den_region TTok ?_
 intro K hK
 simp -implicitDefEqProofs (disch := first | decide | assumption | omega) only [go_sem, RdS.len hv sl59, RdS.idx hv sl59, RdS.cellB hv (HPres.refl _), RdS.cells hv, RdS.len hw sl59, RdS.idx hw sl59, RdS.cellB hw (HPres.refl _), RdS.cells hw, wrap_id]
 refine hK _ _ ?_
 clear hK K
 refine den_seq ?_
 refine den_seq ?_
 refine den_region TTok ?_
 intro K hK
 simp -implicitDefEqProofs (disch := first | decide | assumption | omega) only [go_sem, RdS.len hv sl59, RdS.idx hv sl59, RdS.cellB hv (HPres.refl _), RdS.cells hv, RdS.len hw sl59, RdS.idx hw sl59, RdS.cellB hw (HPres.refl _), RdS.cells hw, wrap_id]
 refine hK _ _ ?_
 clear hK K
 refine den_cond rfl (fun c0 => ?_) (fun c0 => ?_)
 ·try simp only [decide_eq_true_eq, decide_eq_false_iff_not, beq_iff_eq, beq_eq_false_iff_ne, bne_iff_ne, ne_eq, Bool.not_eq_true', Bool.not_eq_false', Bool.and_eq_true, Bool.or_eq_true, bne_eq_false_iff_eq] at c0
  refine den_seq ?_
  refine den_region TTok ?_
  intro K hK
  simp -implicitDefEqProofs (disch := first | decide | assumption | omega) only [go_sem, RdS.len hv sl59, RdS.idx hv sl59, RdS.cellB hv (HPres.refl _), RdS.cells hv, RdS.len hw sl59, RdS.idx hw sl59, RdS.cellB hw (HPres.refl _), RdS.cells hw, wrap_id]
  refine hK _ _ ?_
  clear hK K
  refine den_ret ?_
  simp (disch := decide) only [resP_1, puts_same, puts_ne]
  exact ⟨vbool (by simp; intro he; rw [he] at c0; omega), trivial⟩
 ·try simp only [decide_eq_true_eq, decide_eq_false_iff_not, beq_iff_eq, beq_eq_false_iff_ne, bne_iff_ne, ne_eq, Bool.not_eq_true', Bool.not_eq_false', Bool.and_eq_true, Bool.or_eq_true, bne_eq_false_iff_eq] at c0
  refine den_skip ?_
  refine den_seq ?_
  refine den_seq ?_
  refine den_region TTok ?_
  intro K hK
  simp -implicitDefEqProofs (disch := first | decide | assumption | omega) only [go_sem, RdS.len hv sl59, RdS.idx hv sl59, RdS.cellB hv (HPres.refl _), RdS.cells hv, RdS.len hw sl59, RdS.idx hw sl59, RdS.cellB hw (HPres.refl _), RdS.cells hw, wrap_id]
  refine hK _ _ ?_
  clear hK K
  refine den_block ?_
  refine den_sel [5, 0, 1] ?_
  intro env_1
  simp only [go_sem]
  refine den_loopP (σ := Nat) (fun s => [(5, .int .i64 (s : Int))]) (fun s => s ≤ xs.length ∧ xs.take s = ys.take s) (fun s => xs.length - s) 0 ?_ ?_
  ·exact ⟨rfl, by omega, by simp⟩
  ·rintro k ee3 ⟨hk, heq⟩
   simp only [List.cons_append, List.nil_append]
   refine den_seq ?_
   refine den_seq ?_
   refine den_region TTok ?_
   intro K hK
   simp -implicitDefEqProofs (disch := first | decide | assumption | omega) only [go_sem, RdS.len hv sl59, RdS.idx hv sl59, RdS.cellB hv (HPres.refl _), RdS.cells hv, RdS.len hw sl59, RdS.idx hw sl59, RdS.cellB hw (HPres.refl _), RdS.cells hw, wrap_id]
   refine hK _ _ ?_
   clear hK K
   refine den_cond rfl (fun c1 => ?_) (fun c1 => ?_)
   ·try simp only [decide_eq_true_eq, decide_eq_false_iff_not, beq_iff_eq, beq_eq_false_iff_ne, bne_iff_ne, ne_eq, Bool.not_eq_true', Bool.not_eq_false', Bool.and_eq_true, Bool.or_eq_true, bne_eq_false_iff_eq] at c1
    refine den_skip ?_
    refine den_seq ?_
    refine den_block ?_
    refine den_seq ?_
    refine den_draw TTok mixed [] [(0, true), (1, true), (2, true), (3, true), (4, true), (5, true), (6, true), (7, true), (8, false), (9, true)] (by kernel_rfl) ?_
    intro K hK
    have hr4 := RdS.rowN hv k (by omega)
    have hlhr4 := RdS.le hr4
    have hr5 := RdS.rowN hw k (by omega)
    have hlhr5 := RdS.le hr5
    simp -implicitDefEqProofs (disch := first | decide | assumption | omega) only [go_sem, ld55, RdS.len hv sl59, RdS.idx hv sl59, RdS.cellB hv (HPres.refl _), RdS.cells hv, RdS.len hw sl59, RdS.idx hw sl59, RdS.cellB hw (HPres.refl _), RdS.cells hw, RdS.len hr4 sl55, RdS.idx hr4 sl55, R1.intB hr4 (HPres.refl _), RdS.cells hr4, RdS.len hr5 sl55, RdS.idx hr5 sl55, R1.intB hr5 (HPres.refl _), RdS.cells hr5, wrap_id]
    try simp -implicitDefEqProofs (disch := first | decide | assumption | omega) only [go_sem, RdS.len hv sl59, RdS.idx hv sl59, RdS.cellB hv (HPres.refl _), RdS.cells hv, RdS.len hw sl59, RdS.idx hw sl59, RdS.cellB hw (HPres.refl _), RdS.cells hw, RdS.len hr4 sl55, RdS.idx hr4 sl55, R1.intB hr4 (HPres.refl _), RdS.cells hr4, RdS.len hr5 sl55, RdS.idx hr5 sl55, R1.intB hr5 (HPres.refl _), RdS.cells hr5, wrap_id]
    refine CallA.pure (eqS_ok _ _ _ _ _ hr4 hr5) ?_
    try simp -implicitDefEqProofs (disch := first | decide | assumption | omega) only [go_sem, RdS.len hv sl59, RdS.idx hv sl59, RdS.cellB hv (HPres.refl _), RdS.cells hv, RdS.len hw sl59, RdS.idx hw sl59, RdS.cellB hw (HPres.refl _), RdS.cells hw, RdS.len hr4 sl55, RdS.idx hr4 sl55, R1.intB hr4 (HPres.refl _), RdS.cells hr4, RdS.len hr5 sl55, RdS.idx hr5 sl55, R1.intB hr5 (HPres.refl _), RdS.cells hr5, wrap_id]
    refine hK _ _ ?_
    clear hK K
    refine den_cond rfl (fun c2 => ?_) (fun c2 => ?_)
    ·try simp only [decide_eq_true_eq, decide_eq_false_iff_not, beq_iff_eq, beq_eq_false_iff_ne, bne_iff_ne, ne_eq, Bool.not_eq_true', Bool.not_eq_false', Bool.and_eq_true, Bool.or_eq_true, bne_eq_false_iff_eq] at c2
     refine den_seq ?_
     refine den_region TTok ?_
     intro K hK
     simp -implicitDefEqProofs (disch := first | decide | assumption | omega) only [go_sem, RdS.len hv sl59, RdS.idx hv sl59, RdS.cellB hv (HPres.refl _), RdS.cells hv, RdS.len hw sl59, RdS.idx hw sl59, RdS.cellB hw (HPres.refl _), RdS.cells hw, RdS.len hr4 sl55, RdS.idx hr4 sl55, R1.intB hr4 (HPres.refl _), RdS.cells hr4, RdS.len hr5 sl55, RdS.idx hr5 sl55, R1.intB hr5 (HPres.refl _), RdS.cells hr5, wrap_id]
     refine hK _ _ ?_
     clear hK K
     refine den_ret ?_
     simp (disch := decide) only [resP_1, puts_same, puts_ne]
     exact ⟨vbool (by simp; exact eq_stop (d := default) (by simpa using c2)), trivial⟩
    ·try simp only [decide_eq_true_eq, decide_eq_false_iff_not, beq_iff_eq, beq_eq_false_iff_ne, bne_iff_ne, ne_eq, Bool.not_eq_true', Bool.not_eq_false', Bool.and_eq_true, Bool.or_eq_true, bne_eq_false_iff_eq] at c2
     refine den_skip ?_
     refine den_blk ?_
     refine den_region TTok ?_
     intro K hK
     simp -implicitDefEqProofs (disch := first | decide | assumption | omega) only [go_sem, RdS.len hv sl59, RdS.idx hv sl59, RdS.cellB hv (HPres.refl _), RdS.cells hv, RdS.len hw sl59, RdS.idx hw sl59, RdS.cellB hw (HPres.refl _), RdS.cells hw, RdS.len hr4 sl55, RdS.idx hr4 sl55, R1.intB hr4 (HPres.refl _), RdS.cells hr4, RdS.len hr5 sl55, RdS.idx hr5 sl55, R1.intB hr5 (HPres.refl _), RdS.cells hr5, wrap_id]
     refine hK _ _ ?_
     clear hK K
     refine den_stop ?_
     exact ⟨k + 1, by simp [HasL, puts_at], ⟨rfl, by omega, eq_step (by omega) (by omega) heq (d := default) (d' := default) (by simpa using c2)⟩, by omega⟩
   ·try simp only [decide_eq_true_eq, decide_eq_false_iff_not, beq_iff_eq, beq_eq_false_iff_ne, bne_iff_ne, ne_eq, Bool.not_eq_true', Bool.not_eq_false', Bool.and_eq_true, Bool.or_eq_true, bne_eq_false_iff_eq] at c1
    refine den_exit ?_
    refine denX_code ?_
    refine denX_stop ?_
    refine denX_hit ?_
    refine den_seq ?_
    refine den_region TTok ?_
    intro K hK
    simp -implicitDefEqProofs (disch := first | decide | assumption | omega) only [go_sem, RdS.len hv sl59, RdS.idx hv sl59, RdS.cellB hv (HPres.refl _), RdS.cells hv, RdS.len hw sl59, RdS.idx hw sl59, RdS.cellB hw (HPres.refl _), RdS.cells hw, wrap_id]
    refine hK _ _ ?_
    clear hK K
    refine den_ret ?_
    simp (disch := decide) only [resP_1, puts_same, puts_ne]
    exact ⟨vbool (by simp; exact eq_end (by omega) (by omega) heq), trivial⟩

set_option maxRecDepth 100000 in
theorem eqSSS_ok (v w : Value) (xs ys : List (List (List Int))) (h : Heap) (hv : R3 h v xs) (hw : R3 h w ys) : CallA Try.prog 98 #[v, w] h fun v h' => v = .bool (decide (xs = ys)) ∧ h' = h := by
 have hle := RdS.le hv
 refine callA_intro TTok (args := [_, _]) Try.func98 (by kernel_rfl) rfl 27 rfl (by simp) [.tmp 4] rfl ?_
 simp only [idxs, Nat.reduceAdd]
 refine den_seq ?_
 refine den_region TTok ?_
 intro K hK
 simp -implicitDefEqProofs (disch := first | decide | assumption | omega) only [go_sem, RdS.len hv sl56, RdS.idx hv sl56, RdS.cellB hv (HPres.refl _), RdS.cells hv, RdS.len hw sl56, RdS.idx hw sl56, RdS.cellB hw (HPres.refl _), RdS.cells hw, wrap_id]
 refine hK _ _ ?_
 clear hK K
 refine den_seq ?_
 refine den_seq ?_
 refine den_region TTok ?_
 intro K hK
 simp -implicitDefEqProofs (disch := first | decide | assumption | omega) only [go_sem, RdS.len hv sl56, RdS.idx hv sl56, RdS.cellB hv (HPres.refl _), RdS.cells hv, RdS.len hw sl56, RdS.idx hw sl56, RdS.cellB hw (HPres.refl _), RdS.cells hw, wrap_id]
 refine hK _ _ ?_
 clear hK K
 refine den_cond rfl (fun c0 => ?_) (fun c0 => ?_)
 ·try simp only [decide_eq_true_eq, decide_eq_false_iff_not, beq_iff_eq, beq_eq_false_iff_ne, bne_iff_ne, ne_eq, Bool.not_eq_true', Bool.not_eq_false', Bool.and_eq_true, Bool.or_eq_true, bne_eq_false_iff_eq] at c0
  refine den_seq ?_
  refine den_region TTok ?_
  intro K hK
  simp -implicitDefEqProofs (disch := first | decide | assumption | omega) only [go_sem, RdS.len hv sl56, RdS.idx hv sl56, RdS.cellB hv (HPres.refl _), RdS.cells hv, RdS.len hw sl56, RdS.idx hw sl56, RdS.cellB hw (HPres.refl _), RdS.cells hw, wrap_id]
  refine hK _ _ ?_
  clear hK K
  refine den_ret ?_
  simp (disch := decide) only [resP_1, puts_same, puts_ne]
  exact ⟨vbool (by simp; intro he; rw [he] at c0; omega), trivial⟩
 ·try simp only [decide_eq_true_eq, decide_eq_false_iff_not, beq_iff_eq, beq_eq_false_iff_ne, bne_iff_ne, ne_eq, Bool.not_eq_true', Bool.not_eq_false', Bool.and_eq_true, Bool.or_eq_true, bne_eq_false_iff_eq] at c0
  refine den_skip ?_
  refine den_seq ?_
  refine den_seq ?_
  refine den_region TTok ?_
  intro K hK
  simp -implicitDefEqProofs (disch := first | decide | assumption | omega) only [go_sem, RdS.len hv sl56, RdS.idx hv sl56, RdS.cellB hv (HPres.refl _), RdS.cells hv, RdS.len hw sl56, RdS.idx hw sl56, RdS.cellB hw (HPres.refl _), RdS.cells hw, wrap_id]
  refine hK _ _ ?_
  clear hK K
  refine den_block ?_
  refine den_sel [5, 0, 1] ?_
  intro env_1
  simp only [go_sem]
  refine den_loopP (σ := Nat) (fun s => [(5, .int .i64 (s : Int))]) (fun s => s ≤ xs.length ∧ xs.take s = ys.take s) (fun s => xs.length - s) 0 ?_ ?_
  ·exact ⟨rfl, by omega, by simp⟩
  ·rintro k ee3 ⟨hk, heq⟩
   simp only [List.cons_append, List.nil_append]
   refine den_seq ?_
   refine den_seq ?_
   refine den_region TTok ?_
   intro K hK
   simp -implicitDefEqProofs (disch := first | decide | assumption | omega) only [go_sem, RdS.len hv sl56, RdS.idx hv sl56, RdS.cellB hv (HPres.refl _), RdS.cells hv, RdS.len hw sl56, RdS.idx hw sl56, RdS.cellB hw (HPres.refl _), RdS.cells hw, wrap_id]
   refine hK _ _ ?_
   clear hK K
   refine den_cond rfl (fun c1 => ?_) (fun c1 => ?_)
   ·try simp only [decide_eq_true_eq, decide_eq_false_iff_not, beq_iff_eq, beq_eq_false_iff_ne, bne_iff_ne, ne_eq, Bool.not_eq_true', Bool.not_eq_false', Bool.and_eq_true, Bool.or_eq_true, bne_eq_false_iff_eq] at c1
    refine den_skip ?_
    refine den_seq ?_
    refine den_block ?_
    refine den_seq ?_
    refine den_draw TTok mixed [] [(0, true), (1, true), (2, true), (3, true), (4, true), (5, true), (6, true), (7, true), (8, false), (9, true)] (by kernel_rfl) ?_
    intro K hK
    have hr4 := RdS.rowN hv k (by omega)
    have hlhr4 := RdS.le hr4
    have hr5 := RdS.rowN hw k (by omega)
    have hlhr5 := RdS.le hr5
    simp -implicitDefEqProofs (disch := first | decide | assumption | omega) only [go_sem, ld59, RdS.len hv sl56, RdS.idx hv sl56, RdS.cellB hv (HPres.refl _), RdS.cells hv, RdS.len hw sl56, RdS.idx hw sl56, RdS.cellB hw (HPres.refl _), RdS.cells hw, RdS.len hr4 sl59, RdS.idx hr4 sl59, RdS.cellB hr4 (HPres.refl _), RdS.cells hr4, RdS.len hr5 sl59, RdS.idx hr5 sl59, RdS.cellB hr5 (HPres.refl _), RdS.cells hr5, wrap_id]
    try simp -implicitDefEqProofs (disch := first | decide | assumption | omega) only [go_sem, RdS.len hv sl56, RdS.idx hv sl56, RdS.cellB hv (HPres.refl _), RdS.cells hv, RdS.len hw sl56, RdS.idx hw sl56, RdS.cellB hw (HPres.refl _), RdS.cells hw, RdS.len hr4 sl59, RdS.idx hr4 sl59, RdS.cellB hr4 (HPres.refl _), RdS.cells hr4, RdS.len hr5 sl59, RdS.idx hr5 sl59, RdS.cellB hr5 (HPres.refl _), RdS.cells hr5, wrap_id]
    refine CallA.pure (eqSS_ok _ _ _ _ _ hr4 hr5) ?_
    try simp -implicitDefEqProofs (disch := first | decide | assumption | omega) only [go_sem, RdS.len hv sl56, RdS.idx hv sl56, RdS.cellB hv (HPres.refl _), RdS.cells hv, RdS.len hw sl56, RdS.idx hw sl56, RdS.cellB hw (HPres.refl _), RdS.cells hw, RdS.len hr4 sl59, RdS.idx hr4 sl59, RdS.cellB hr4 (HPres.refl _), RdS.cells hr4, RdS.len hr5 sl59, RdS.idx hr5 sl59, RdS.cellB hr5 (HPres.refl _), RdS.cells hr5, wrap_id]
    refine hK _ _ ?_
    clear hK K
    refine den_cond rfl (fun c2 => ?_) (fun c2 => ?_)
    ·try simp only [decide_eq_true_eq, decide_eq_false_iff_not, beq_iff_eq, beq_eq_false_iff_ne, bne_iff_ne, ne_eq, Bool.not_eq_true', Bool.not_eq_false', Bool.and_eq_true, Bool.or_eq_true, bne_eq_false_iff_eq] at c2
     refine den_seq ?_
     refine den_region TTok ?_
     intro K hK
     simp -implicitDefEqProofs (disch := first | decide | assumption | omega) only [go_sem, RdS.len hv sl56, RdS.idx hv sl56, RdS.cellB hv (HPres.refl _), RdS.cells hv, RdS.len hw sl56, RdS.idx hw sl56, RdS.cellB hw (HPres.refl _), RdS.cells hw, RdS.len hr4 sl59, RdS.idx hr4 sl59, RdS.cellB hr4 (HPres.refl _), RdS.cells hr4, RdS.len hr5 sl59, RdS.idx hr5 sl59, RdS.cellB hr5 (HPres.refl _), RdS.cells hr5, wrap_id]
     refine hK _ _ ?_
     clear hK K
     refine den_ret ?_
     simp (disch := decide) only [resP_1, puts_same, puts_ne]
     exact ⟨vbool (by simp; exact eq_stop (d := default) (by simpa using c2)), trivial⟩
    ·try simp only [decide_eq_true_eq, decide_eq_false_iff_not, beq_iff_eq, beq_eq_false_iff_ne, bne_iff_ne, ne_eq, Bool.not_eq_true', Bool.not_eq_false', Bool.and_eq_true, Bool.or_eq_true, bne_eq_false_iff_eq] at c2
     refine den_skip ?_
     refine den_blk ?_
     refine den_region TTok ?_
     intro K hK
     simp -implicitDefEqProofs (disch := first | decide | assumption | omega) only [go_sem, RdS.len hv sl56, RdS.idx hv sl56, RdS.cellB hv (HPres.refl _), RdS.cells hv, RdS.len hw sl56, RdS.idx hw sl56, RdS.cellB hw (HPres.refl _), RdS.cells hw, RdS.len hr4 sl59, RdS.idx hr4 sl59, RdS.cellB hr4 (HPres.refl _), RdS.cells hr4, RdS.len hr5 sl59, RdS.idx hr5 sl59, RdS.cellB hr5 (HPres.refl _), RdS.cells hr5, wrap_id]
     refine hK _ _ ?_
     clear hK K
     refine den_stop ?_
     exact ⟨k + 1, by simp [HasL, puts_at], ⟨rfl, by omega, eq_step (by omega) (by omega) heq (d := default) (d' := default) (by simpa using c2)⟩, by omega⟩
   ·try simp only [decide_eq_true_eq, decide_eq_false_iff_not, beq_iff_eq, beq_eq_false_iff_ne, bne_iff_ne, ne_eq, Bool.not_eq_true', Bool.not_eq_false', Bool.and_eq_true, Bool.or_eq_true, bne_eq_false_iff_eq] at c1
    refine den_exit ?_
    refine denX_code ?_
    refine denX_stop ?_
    refine denX_hit ?_
    refine den_seq ?_
    refine den_region TTok ?_
    intro K hK
    simp -implicitDefEqProofs (disch := first | decide | assumption | omega) only [go_sem, RdS.len hv sl56, RdS.idx hv sl56, RdS.cellB hv (HPres.refl _), RdS.cells hv, RdS.len hw sl56, RdS.idx hw sl56, RdS.cellB hw (HPres.refl _), RdS.cells hw, wrap_id]
    refine hK _ _ ?_
    clear hK K
    refine den_ret ?_
    simp (disch := decide) only [resP_1, puts_same, puts_ne]
    exact ⟨vbool (by simp; exact eq_end (by omega) (by omega) heq), trivial⟩

set_option maxRecDepth 100000 in
theorem eqC_ok (v w : Value) (X Y : Cx) (h : Heap) (hv : RC h v X) (hw : RC h w Y) : CallA Try.prog 73 #[v, w] h fun v h' => v = .bool (eqC X Y) ∧ Ext h h' := by
 obtain ⟨vd, vm, rfl, hd, hm⟩ := hv
 obtain ⟨vdy, vmy, rfl, hdy, hmy⟩ := hw
 refine callA_intro TTok (args := [_, _]) Try.func73 (by kernel_rfl) rfl 22 rfl (by simp) [.tmp 4] rfl ?_
 simp only [idxs, Nat.reduceAdd]
 refine den_seq ?_
 refine den_region TTok ?_
 intro K hK
 simp -implicitDefEqProofs (disch := first | decide | assumption | omega) only [go_sem, RdS.len hd sl55, RdS.idx hd sl55, R1.intB hd (HPres.refl _), RdS.cells hd, RdS.len hm sl56, RdS.idx hm sl56, RdS.cellB hm (HPres.refl _), RdS.cells hm, RdS.len hdy sl55, RdS.idx hdy sl55, R1.intB hdy (HPres.refl _), RdS.cells hdy, RdS.len hmy sl56, RdS.idx hmy sl56, RdS.cellB hmy (HPres.refl _), RdS.cells hmy]
 refine op_box (cs := #[.int .i64 (X.p), vd, vm]) rfl ?_
 intro h0_0 e0_0 hb0_0 z0_0
 replace hd := RdS.pres hd (Ext.pres e0_0)
 replace hm := RdS.pres hm (Ext.pres e0_0)
 replace hdy := RdS.pres hdy (Ext.pres e0_0)
 replace hmy := RdS.pres hmy (Ext.pres e0_0)
 try simp -implicitDefEqProofs (disch := first | decide | assumption | omega) only [go_sem, RdS.len hd sl55, RdS.idx hd sl55, R1.intB hd (HPres.refl _), RdS.cells hd, RdS.len hm sl56, RdS.idx hm sl56, RdS.cellB hm (HPres.refl _), RdS.cells hm, RdS.len hdy sl55, RdS.idx hdy sl55, R1.intB hdy (HPres.refl _), RdS.cells hdy, RdS.len hmy sl56, RdS.idx hmy sl56, RdS.cellB hmy (HPres.refl _), RdS.cells hmy, BoxAt.cell hb0_0]
 refine op_box (cs := #[.int .i64 (Y.p), vdy, vmy]) rfl ?_
 intro h0_1 e0_1 hb0_1 z0_1
 replace hd := RdS.pres hd (Ext.pres e0_1)
 replace hm := RdS.pres hm (Ext.pres e0_1)
 replace hdy := RdS.pres hdy (Ext.pres e0_1)
 replace hmy := RdS.pres hmy (Ext.pres e0_1)
 replace hb0_0 := BoxAt.ext hb0_0 e0_1
 try simp -implicitDefEqProofs (disch := first | decide | assumption | omega) only [go_sem, RdS.len hd sl55, RdS.idx hd sl55, R1.intB hd (HPres.refl _), RdS.cells hd, RdS.len hm sl56, RdS.idx hm sl56, RdS.cellB hm (HPres.refl _), RdS.cells hm, RdS.len hdy sl55, RdS.idx hdy sl55, R1.intB hdy (HPres.refl _), RdS.cells hdy, RdS.len hmy sl56, RdS.idx hmy sl56, RdS.cellB hmy (HPres.refl _), RdS.cells hmy, BoxAt.cell hb0_0, BoxAt.cell hb0_1]
 refine hK _ _ ?_
 clear hK K
 refine den_seq ?_
 refine den_seq ?_
 refine den_region TTok ?_
 intro K hK
 simp -implicitDefEqProofs (disch := first | decide | assumption | omega) only [go_sem, fa58_0, ld2, RdS.len hd sl55, RdS.idx hd sl55, R1.intB hd (HPres.refl _), RdS.cells hd, RdS.len hm sl56, RdS.idx hm sl56, RdS.cellB hm (HPres.refl _), RdS.cells hm, RdS.len hdy sl55, RdS.idx hdy sl55, R1.intB hdy (HPres.refl _), RdS.cells hdy, RdS.len hmy sl56, RdS.idx hmy sl56, RdS.cellB hmy (HPres.refl _), RdS.cells hmy, BoxAt.cell hb0_0, BoxAt.cell hb0_1]
 refine hK _ _ ?_
 clear hK K
 refine den_cond rfl (fun c0 => ?_) (fun c0 => ?_)
 ·try simp only [decide_eq_true_eq, decide_eq_false_iff_not, beq_iff_eq, beq_eq_false_iff_ne, bne_iff_ne, ne_eq, Bool.not_eq_true', Bool.not_eq_false', Bool.and_eq_true, Bool.or_eq_true, bne_eq_false_iff_eq] at c0
  refine den_seq ?_
  refine den_region TTok ?_
  intro K hK
  simp -implicitDefEqProofs (disch := first | decide | assumption | omega) only [go_sem, RdS.len hd sl55, RdS.idx hd sl55, R1.intB hd (HPres.refl _), RdS.cells hd, RdS.len hm sl56, RdS.idx hm sl56, RdS.cellB hm (HPres.refl _), RdS.cells hm, RdS.len hdy sl55, RdS.idx hdy sl55, R1.intB hdy (HPres.refl _), RdS.cells hdy, RdS.len hmy sl56, RdS.idx hmy sl56, RdS.cellB hmy (HPres.refl _), RdS.cells hmy, BoxAt.cell hb0_0, BoxAt.cell hb0_1]
  refine hK _ _ ?_
  clear hK K
  refine den_ret ?_
  simp (disch := decide) only [resP_1, puts_same, puts_ne]
  exact ⟨vbool (by simp [eqC, c0]), (Ext.trans e0_0 e0_1)⟩
 ·try simp only [decide_eq_true_eq, decide_eq_false_iff_not, beq_iff_eq, beq_eq_false_iff_ne, bne_iff_ne, ne_eq, Bool.not_eq_true', Bool.not_eq_false', Bool.and_eq_true, Bool.or_eq_true, bne_eq_false_iff_eq] at c0
  refine den_skip ?_
  refine den_seq ?_
  refine den_seq ?_
  refine den_region TTok ?_
  intro K hK
  simp -implicitDefEqProofs (disch := first | decide | assumption | omega) only [go_sem, fa58_1, ld55, RdS.len hd sl55, RdS.idx hd sl55, R1.intB hd (HPres.refl _), RdS.cells hd, RdS.len hm sl56, RdS.idx hm sl56, RdS.cellB hm (HPres.refl _), RdS.cells hm, RdS.len hdy sl55, RdS.idx hdy sl55, R1.intB hdy (HPres.refl _), RdS.cells hdy, RdS.len hmy sl56, RdS.idx hmy sl56, RdS.cellB hmy (HPres.refl _), RdS.cells hmy, BoxAt.cell hb0_0, BoxAt.cell hb0_1]
  try simp -implicitDefEqProofs (disch := first | decide | assumption | omega) only [go_sem, RdS.len hd sl55, RdS.idx hd sl55, R1.intB hd (HPres.refl _), RdS.cells hd, RdS.len hm sl56, RdS.idx hm sl56, RdS.cellB hm (HPres.refl _), RdS.cells hm, RdS.len hdy sl55, RdS.idx hdy sl55, R1.intB hdy (HPres.refl _), RdS.cells hdy, RdS.len hmy sl56, RdS.idx hmy sl56, RdS.cellB hmy (HPres.refl _), RdS.cells hmy, BoxAt.cell hb0_0, BoxAt.cell hb0_1]
  refine CallA.pure (eqS_ok _ _ _ _ _ hd hdy) ?_
  try simp -implicitDefEqProofs (disch := first | decide | assumption | omega) only [go_sem, RdS.len hd sl55, RdS.idx hd sl55, R1.intB hd (HPres.refl _), RdS.cells hd, RdS.len hm sl56, RdS.idx hm sl56, RdS.cellB hm (HPres.refl _), RdS.cells hm, RdS.len hdy sl55, RdS.idx hdy sl55, R1.intB hdy (HPres.refl _), RdS.cells hdy, RdS.len hmy sl56, RdS.idx hmy sl56, RdS.cellB hmy (HPres.refl _), RdS.cells hmy, BoxAt.cell hb0_0, BoxAt.cell hb0_1]
  refine hK _ _ ?_
  clear hK K
  refine den_cond rfl (fun c1 => ?_) (fun c1 => ?_)
  ·try simp only [decide_eq_true_eq, decide_eq_false_iff_not, beq_iff_eq, beq_eq_false_iff_ne, bne_iff_ne, ne_eq, Bool.not_eq_true', Bool.not_eq_false', Bool.and_eq_true, Bool.or_eq_true, bne_eq_false_iff_eq] at c1
   refine den_seq ?_
   refine den_region TTok ?_
   intro K hK
   simp -implicitDefEqProofs (disch := first | decide | assumption | omega) only [go_sem, RdS.len hd sl55, RdS.idx hd sl55, R1.intB hd (HPres.refl _), RdS.cells hd, RdS.len hm sl56, RdS.idx hm sl56, RdS.cellB hm (HPres.refl _), RdS.cells hm, RdS.len hdy sl55, RdS.idx hdy sl55, R1.intB hdy (HPres.refl _), RdS.cells hdy, RdS.len hmy sl56, RdS.idx hmy sl56, RdS.cellB hmy (HPres.refl _), RdS.cells hmy, BoxAt.cell hb0_0, BoxAt.cell hb0_1]
   refine hK _ _ ?_
   clear hK K
   refine den_ret ?_
   simp (disch := decide) only [resP_1, puts_same, puts_ne]
   exact ⟨vbool (by simp [eqC, c1]), (Ext.trans e0_0 e0_1)⟩
  ·try simp only [decide_eq_true_eq, decide_eq_false_iff_not, beq_iff_eq, beq_eq_false_iff_ne, bne_iff_ne, ne_eq, Bool.not_eq_true', Bool.not_eq_false', Bool.and_eq_true, Bool.or_eq_true, bne_eq_false_iff_eq] at c1
   refine den_skip ?_
   refine den_seq ?_
   refine den_seq ?_
   refine den_region TTok ?_
   intro K hK
   simp -implicitDefEqProofs (disch := first | decide | assumption | omega) only [go_sem, fa58_2, ld56, RdS.len hd sl55, RdS.idx hd sl55, R1.intB hd (HPres.refl _), RdS.cells hd, RdS.len hm sl56, RdS.idx hm sl56, RdS.cellB hm (HPres.refl _), RdS.cells hm, RdS.len hdy sl55, RdS.idx hdy sl55, R1.intB hdy (HPres.refl _), RdS.cells hdy, RdS.len hmy sl56, RdS.idx hmy sl56, RdS.cellB hmy (HPres.refl _), RdS.cells hmy, BoxAt.cell hb0_0, BoxAt.cell hb0_1]
   try simp -implicitDefEqProofs (disch := first | decide | assumption | omega) only [go_sem, RdS.len hd sl55, RdS.idx hd sl55, R1.intB hd (HPres.refl _), RdS.cells hd, RdS.len hm sl56, RdS.idx hm sl56, RdS.cellB hm (HPres.refl _), RdS.cells hm, RdS.len hdy sl55, RdS.idx hdy sl55, R1.intB hdy (HPres.refl _), RdS.cells hdy, RdS.len hmy sl56, RdS.idx hmy sl56, RdS.cellB hmy (HPres.refl _), RdS.cells hmy, BoxAt.cell hb0_0, BoxAt.cell hb0_1]
   refine CallA.pure (eqSSS_ok _ _ _ _ _ hm hmy) ?_
   try simp -implicitDefEqProofs (disch := first | decide | assumption | omega) only [go_sem, RdS.len hd sl55, RdS.idx hd sl55, R1.intB hd (HPres.refl _), RdS.cells hd, RdS.len hm sl56, RdS.idx hm sl56, RdS.cellB hm (HPres.refl _), RdS.cells hm, RdS.len hdy sl55, RdS.idx hdy sl55, R1.intB hdy (HPres.refl _), RdS.cells hdy, RdS.len hmy sl56, RdS.idx hmy sl56, RdS.cellB hmy (HPres.refl _), RdS.cells hmy, BoxAt.cell hb0_0, BoxAt.cell hb0_1]
   refine hK _ _ ?_
   clear hK K
   refine den_cond rfl (fun c2 => ?_) (fun c2 => ?_)
   ·try simp only [decide_eq_true_eq, decide_eq_false_iff_not, beq_iff_eq, beq_eq_false_iff_ne, bne_iff_ne, ne_eq, Bool.not_eq_true', Bool.not_eq_false', Bool.and_eq_true, Bool.or_eq_true, bne_eq_false_iff_eq] at c2
    refine den_seq ?_
    refine den_region TTok ?_
    intro K hK
    simp -implicitDefEqProofs (disch := first | decide | assumption | omega) only [go_sem, RdS.len hd sl55, RdS.idx hd sl55, R1.intB hd (HPres.refl _), RdS.cells hd, RdS.len hm sl56, RdS.idx hm sl56, RdS.cellB hm (HPres.refl _), RdS.cells hm, RdS.len hdy sl55, RdS.idx hdy sl55, R1.intB hdy (HPres.refl _), RdS.cells hdy, RdS.len hmy sl56, RdS.idx hmy sl56, RdS.cellB hmy (HPres.refl _), RdS.cells hmy, BoxAt.cell hb0_0, BoxAt.cell hb0_1]
    refine hK _ _ ?_
    clear hK K
    refine den_ret ?_
    simp (disch := decide) only [resP_1, puts_same, puts_ne]
    exact ⟨vbool (by simp [eqC, c2]), (Ext.trans e0_0 e0_1)⟩
   ·try simp only [decide_eq_true_eq, decide_eq_false_iff_not, beq_iff_eq, beq_eq_false_iff_ne, bne_iff_ne, ne_eq, Bool.not_eq_true', Bool.not_eq_false', Bool.and_eq_true, Bool.or_eq_true, bne_eq_false_iff_eq] at c2
    refine den_skip ?_
    refine den_seq ?_
    refine den_region TTok ?_
    intro K hK
    simp -implicitDefEqProofs (disch := first | decide | assumption | omega) only [go_sem, RdS.len hd sl55, RdS.idx hd sl55, R1.intB hd (HPres.refl _), RdS.cells hd, RdS.len hm sl56, RdS.idx hm sl56, RdS.cellB hm (HPres.refl _), RdS.cells hm, RdS.len hdy sl55, RdS.idx hdy sl55, R1.intB hdy (HPres.refl _), RdS.cells hdy, RdS.len hmy sl56, RdS.idx hmy sl56, RdS.cellB hmy (HPres.refl _), RdS.cells hmy, BoxAt.cell hb0_0, BoxAt.cell hb0_1]
    refine hK _ _ ?_
    clear hK K
    refine den_ret ?_
    simp (disch := decide) only [resP_1, puts_same, puts_ne]
    exact ⟨vbool (by simp [eqC, c0, c1, c2]), (Ext.trans e0_0 e0_1)⟩
end Go.Proofs.Ytacajcjibhifmaa

namespace Go.Proofs.Ytacajcjibhifmaa
open Go
def in3 (n lo hi : Int) : Bool := decide (lo ≤ n) && decide (n ≤ hi)
def isP (p : Int) : Bool := ((p == 2 || p == 3) || p == 5) || p == 7
def dimP (X : Cx) (n : Int) : Int := if in3 n 0 ((X.dims.length : Int) - 1) then X.dims.getD n.toNat 0 else 0
theorem in3_iff {n lo hi : Int} : in3 n lo hi = true ↔ lo ≤ n ∧ n ≤ hi := by simp [in3]
theorem in3_f {n lo hi : Int} : in3 n lo hi = false ↔ ¬ (lo ≤ n ∧ n ≤ hi) := by rw [← in3_iff]; simp

set_option maxRecDepth 100000 in
theorem sIn_ok (n lo hi : Int) (h : Heap) : CallA Try.prog 106 #[.int .i64 n, .int .i64 lo, .int .i64 hi] h fun v h' => v = .bool (in3 n lo hi) ∧ h' = h := by
 refine callA_intro TTok (args := [_, _, _]) Try.func106 (by kernel_rfl) rfl 15 rfl (by simp) [.tmp 6] rfl ?_
 simp only [idxs, Nat.reduceAdd]
 refine den_seq ?_
 refine den_region TTok ?_
 intro K hK
 simp -implicitDefEqProofs (disch := first | decide | assumption | omega) only [go_sem]
 refine hK _ _ ?_
 clear hK K
 refine den_seq ?_
 refine den_mergeH [(6, .bool (((decide (lo ≤ n)) && (decide (n ≤ hi)))))] [] ?_ ?_
  -- a way
 ·refine den_region TTok ?_
  intro K hK
  simp -implicitDefEqProofs (disch := first | decide | assumption | (simp (disch := decide) only [slotOf_zero, slotOf_succ, Option.map_some, puts_same, puts_ne, gv_bool, gv_undef, tt, tf, ft, ff, eq_self, if_true, if_false, Bool.false_eq_true, Bool.not_true, Bool.not_false]; done) | omega) only [go_sem]
  refine opsP_T (by simp (disch := decide) only [slotOf_zero, slotOf_succ, Option.map_some, puts_same, puts_ne, gv_bool, gv_undef, tt, tf, ft, ff, eq_self, if_true, if_false, Bool.false_eq_true, Bool.not_true, Bool.not_false]; rfl) (fun g1 => ?_) (fun g1 => ?_)
  ·try simp -implicitDefEqProofs (disch := first | decide | assumption | (simp (disch := decide) only [slotOf_zero, slotOf_succ, Option.map_some, puts_same, puts_ne, gv_bool, gv_undef, tt, tf, ft, ff, eq_self, if_true, if_false, Bool.false_eq_true, Bool.not_true, Bool.not_false, g1]; done) | omega) only [go_sem, g1, eq_self, if_true, if_false, Bool.false_eq_true]
   refine hK _ _ ?_
   clear hK K
   refine den_stop ?_
   refine ⟨?_, rfl⟩
   first | (simp (disch := decide) only [go_sem, g1, eq_self, Bool.true_and, Bool.and_true, Bool.false_and, Bool.and_false, Bool.true_or, Bool.or_true, Bool.false_or, Bool.or_false, if_true, if_false, Bool.false_eq_true]; done) | simp [HasL, sel, puts_at, g1]
  ·try simp -implicitDefEqProofs (disch := first | decide | assumption | (simp (disch := decide) only [slotOf_zero, slotOf_succ, Option.map_some, puts_same, puts_ne, gv_bool, gv_undef, tt, tf, ft, ff, eq_self, if_true, if_false, Bool.false_eq_true, Bool.not_true, Bool.not_false, g1]; done) | omega) only [go_sem, g1, eq_self, if_true, if_false, Bool.false_eq_true]
   refine hK _ _ ?_
   clear hK K
   refine den_stop ?_
   refine ⟨?_, rfl⟩
   first | (simp (disch := decide) only [go_sem, g1, eq_self, Bool.true_and, Bool.and_true, Bool.false_and, Bool.and_false, Bool.true_or, Bool.or_true, Bool.false_or, Bool.or_false, if_true, if_false, Bool.false_eq_true]; done) | simp [HasL, sel, puts_at, g1]
 intro en2
 simp (disch := decide) only [go_sem]
 refine den_ret ?_
 simp (disch := decide) only [resP_1, puts_same, puts_ne]
 exact ⟨by first | rfl | trivial, trivial⟩

set_option maxRecDepth 100000 in
theorem iIn_ok (n lo hi : Int) (h : Heap) : CallA Try.prog 87 #[.int .i64 n, .int .i64 lo, .int .i64 hi] h fun v h' => v = .bool (in3 n lo hi) ∧ h' = h := by
 refine callA_intro TTok (args := [_, _, _]) Try.func87 (by kernel_rfl) rfl 15 rfl (by simp) [.tmp 6] rfl ?_
 simp only [idxs, Nat.reduceAdd]
 refine den_seq ?_
 refine den_region TTok ?_
 intro K hK
 simp -implicitDefEqProofs (disch := first | decide | assumption | omega) only [go_sem]
 refine hK _ _ ?_
 clear hK K
 refine den_seq ?_
 refine den_mergeH [(6, .bool (((decide (lo ≤ n)) && (decide (n ≤ hi)))))] [] ?_ ?_
  -- a way
 ·refine den_region TTok ?_
  intro K hK
  simp -implicitDefEqProofs (disch := first | decide | assumption | (simp (disch := decide) only [slotOf_zero, slotOf_succ, Option.map_some, puts_same, puts_ne, gv_bool, gv_undef, tt, tf, ft, ff, eq_self, if_true, if_false, Bool.false_eq_true, Bool.not_true, Bool.not_false]; done) | omega) only [go_sem]
  refine opsP_T (by simp (disch := decide) only [slotOf_zero, slotOf_succ, Option.map_some, puts_same, puts_ne, gv_bool, gv_undef, tt, tf, ft, ff, eq_self, if_true, if_false, Bool.false_eq_true, Bool.not_true, Bool.not_false]; rfl) (fun g1 => ?_) (fun g1 => ?_)
  ·try simp -implicitDefEqProofs (disch := first | decide | assumption | (simp (disch := decide) only [slotOf_zero, slotOf_succ, Option.map_some, puts_same, puts_ne, gv_bool, gv_undef, tt, tf, ft, ff, eq_self, if_true, if_false, Bool.false_eq_true, Bool.not_true, Bool.not_false, g1]; done) | omega) only [go_sem, g1, eq_self, if_true, if_false, Bool.false_eq_true]
   refine hK _ _ ?_
   clear hK K
   refine den_stop ?_
   refine ⟨?_, rfl⟩
   first | (simp (disch := decide) only [go_sem, g1, eq_self, Bool.true_and, Bool.and_true, Bool.false_and, Bool.and_false, Bool.true_or, Bool.or_true, Bool.false_or, Bool.or_false, if_true, if_false, Bool.false_eq_true]; done) | simp [HasL, sel, puts_at, g1]
  ·try simp -implicitDefEqProofs (disch := first | decide | assumption | (simp (disch := decide) only [slotOf_zero, slotOf_succ, Option.map_some, puts_same, puts_ne, gv_bool, gv_undef, tt, tf, ft, ff, eq_self, if_true, if_false, Bool.false_eq_true, Bool.not_true, Bool.not_false, g1]; done) | omega) only [go_sem, g1, eq_self, if_true, if_false, Bool.false_eq_true]
   refine hK _ _ ?_
   clear hK K
   refine den_stop ?_
   refine ⟨?_, rfl⟩
   first | (simp (disch := decide) only [go_sem, g1, eq_self, Bool.true_and, Bool.and_true, Bool.false_and, Bool.and_false, Bool.true_or, Bool.or_true, Bool.false_or, Bool.or_false, if_true, if_false, Bool.false_eq_true]; done) | simp [HasL, sel, puts_at, g1]
 intro en2
 simp (disch := decide) only [go_sem]
 refine den_ret ?_
 simp (disch := decide) only [resP_1, puts_same, puts_ne]
 exact ⟨by first | rfl | trivial, trivial⟩

set_option maxRecDepth 100000 in
theorem sPrime_ok (p : Int) (h : Heap) : CallA Try.prog 60 #[.int .i64 p] h fun v h' => v = .bool (isP p) ∧ h' = h := by
 refine callA_intro TTok (args := [_]) Try.func60 (by kernel_rfl) rfl 17 rfl (by simp) [.tmp 2] rfl ?_
 simp only [idxs, Nat.reduceAdd]
 refine den_seq ?_
 refine den_region TTok ?_
 intro K hK
 simp -implicitDefEqProofs (disch := first | decide | assumption | omega) only [go_sem]
 refine hK _ _ ?_
 clear hK K
 refine den_seq ?_
 refine den_mergeH [(2, .bool (((((p == (2 : Int)) || (p == (3 : Int))) || (p == (5 : Int))) || (p == (7 : Int)))))] [] ?_ ?_
  -- a way
 ·refine den_region TTok ?_
  intro K hK
  simp -implicitDefEqProofs (disch := first | decide | assumption | (simp (disch := decide) only [slotOf_zero, slotOf_succ, Option.map_some, puts_same, puts_ne, gv_bool, gv_undef, tt, tf, ft, ff, eq_self, if_true, if_false, Bool.false_eq_true, Bool.not_true, Bool.not_false]; done) | omega) only [go_sem]
  refine opsP_F (by simp (disch := decide) only [slotOf_zero, slotOf_succ, Option.map_some, puts_same, puts_ne, gv_bool, gv_undef, tt, tf, ft, ff, eq_self, if_true, if_false, Bool.false_eq_true, Bool.not_true, Bool.not_false]; rfl) (fun g1 => ?_) (fun g1 => ?_)
  ·try simp -implicitDefEqProofs (disch := first | decide | assumption | (simp (disch := decide) only [slotOf_zero, slotOf_succ, Option.map_some, puts_same, puts_ne, gv_bool, gv_undef, tt, tf, ft, ff, eq_self, if_true, if_false, Bool.false_eq_true, Bool.not_true, Bool.not_false, g1]; done) | omega) only [go_sem, g1, eq_self, if_true, if_false, Bool.false_eq_true]
   refine opsP_F (by simp (disch := decide) only [slotOf_zero, slotOf_succ, Option.map_some, puts_same, puts_ne, gv_bool, gv_undef, tt, tf, ft, ff, eq_self, if_true, if_false, Bool.false_eq_true, Bool.not_true, Bool.not_false, g1]; rfl) (fun g2 => ?_) (fun g2 => ?_)
   ·try simp -implicitDefEqProofs (disch := first | decide | assumption | (simp (disch := decide) only [slotOf_zero, slotOf_succ, Option.map_some, puts_same, puts_ne, gv_bool, gv_undef, tt, tf, ft, ff, eq_self, if_true, if_false, Bool.false_eq_true, Bool.not_true, Bool.not_false, g1, g2]; done) | omega) only [go_sem, g1, g2, eq_self, if_true, if_false, Bool.false_eq_true]
    refine opsP_F (by simp (disch := decide) only [slotOf_zero, slotOf_succ, Option.map_some, puts_same, puts_ne, gv_bool, gv_undef, tt, tf, ft, ff, eq_self, if_true, if_false, Bool.false_eq_true, Bool.not_true, Bool.not_false, g1, g2]; rfl) (fun g3 => ?_) (fun g3 => ?_)
    ·try simp -implicitDefEqProofs (disch := first | decide | assumption | (simp (disch := decide) only [slotOf_zero, slotOf_succ, Option.map_some, puts_same, puts_ne, gv_bool, gv_undef, tt, tf, ft, ff, eq_self, if_true, if_false, Bool.false_eq_true, Bool.not_true, Bool.not_false, g1, g2, g3]; done) | omega) only [go_sem, g1, g2, g3, eq_self, if_true, if_false, Bool.false_eq_true]
     refine hK _ _ ?_
     clear hK K
     refine den_stop ?_
     refine ⟨?_, rfl⟩
     first | (simp (disch := decide) only [go_sem, g1, g2, g3, eq_self, Bool.true_and, Bool.and_true, Bool.false_and, Bool.and_false, Bool.true_or, Bool.or_true, Bool.false_or, Bool.or_false, if_true, if_false, Bool.false_eq_true]; done) | simp [HasL, sel, puts_at, g1, g2, g3]
    ·try simp -implicitDefEqProofs (disch := first | decide | assumption | (simp (disch := decide) only [slotOf_zero, slotOf_succ, Option.map_some, puts_same, puts_ne, gv_bool, gv_undef, tt, tf, ft, ff, eq_self, if_true, if_false, Bool.false_eq_true, Bool.not_true, Bool.not_false, g1, g2, g3]; done) | omega) only [go_sem, g1, g2, g3, eq_self, if_true, if_false, Bool.false_eq_true]
     refine hK _ _ ?_
     clear hK K
     refine den_stop ?_
     refine ⟨?_, rfl⟩
     first | (simp (disch := decide) only [go_sem, g1, g2, g3, eq_self, Bool.true_and, Bool.and_true, Bool.false_and, Bool.and_false, Bool.true_or, Bool.or_true, Bool.false_or, Bool.or_false, if_true, if_false, Bool.false_eq_true]; done) | simp [HasL, sel, puts_at, g1, g2, g3]
   ·try simp -implicitDefEqProofs (disch := first | decide | assumption | (simp (disch := decide) only [slotOf_zero, slotOf_succ, Option.map_some, puts_same, puts_ne, gv_bool, gv_undef, tt, tf, ft, ff, eq_self, if_true, if_false, Bool.false_eq_true, Bool.not_true, Bool.not_false, g1, g2]; done) | omega) only [go_sem, g1, g2, eq_self, if_true, if_false, Bool.false_eq_true]
    try simp -implicitDefEqProofs (disch := first | decide | assumption | (simp (disch := decide) only [slotOf_zero, slotOf_succ, Option.map_some, puts_same, puts_ne, gv_bool, gv_undef, tt, tf, ft, ff, eq_self, if_true, if_false, Bool.false_eq_true, Bool.not_true, Bool.not_false, g1, g2]; done) | omega) only [go_sem, g1, g2, eq_self, if_true, if_false, Bool.false_eq_true]
    refine hK _ _ ?_
    clear hK K
    refine den_stop ?_
    refine ⟨?_, rfl⟩
    first | (simp (disch := decide) only [go_sem, g1, g2, eq_self, Bool.true_and, Bool.and_true, Bool.false_and, Bool.and_false, Bool.true_or, Bool.or_true, Bool.false_or, Bool.or_false, if_true, if_false, Bool.false_eq_true]; done) | simp [HasL, sel, puts_at, g1, g2]
  ·try simp -implicitDefEqProofs (disch := first | decide | assumption | (simp (disch := decide) only [slotOf_zero, slotOf_succ, Option.map_some, puts_same, puts_ne, gv_bool, gv_undef, tt, tf, ft, ff, eq_self, if_true, if_false, Bool.false_eq_true, Bool.not_true, Bool.not_false, g1]; done) | omega) only [go_sem, g1, eq_self, if_true, if_false, Bool.false_eq_true]
   try simp -implicitDefEqProofs (disch := first | decide | assumption | (simp (disch := decide) only [slotOf_zero, slotOf_succ, Option.map_some, puts_same, puts_ne, gv_bool, gv_undef, tt, tf, ft, ff, eq_self, if_true, if_false, Bool.false_eq_true, Bool.not_true, Bool.not_false, g1]; done) | omega) only [go_sem, g1, eq_self, if_true, if_false, Bool.false_eq_true]
   try simp -implicitDefEqProofs (disch := first | decide | assumption | (simp (disch := decide) only [slotOf_zero, slotOf_succ, Option.map_some, puts_same, puts_ne, gv_bool, gv_undef, tt, tf, ft, ff, eq_self, if_true, if_false, Bool.false_eq_true, Bool.not_true, Bool.not_false, g1]; done) | omega) only [go_sem, g1, eq_self, if_true, if_false, Bool.false_eq_true]
   refine hK _ _ ?_
   clear hK K
   refine den_stop ?_
   refine ⟨?_, rfl⟩
   first | (simp (disch := decide) only [go_sem, g1, eq_self, Bool.true_and, Bool.and_true, Bool.false_and, Bool.and_false, Bool.true_or, Bool.or_true, Bool.false_or, Bool.or_false, if_true, if_false, Bool.false_eq_true]; done) | simp [HasL, sel, puts_at, g1]
 intro en4
 simp (disch := decide) only [go_sem]
 refine den_ret ?_
 simp (disch := decide) only [resP_1, puts_same, puts_ne]
 exact ⟨by first | rfl | trivial, trivial⟩

set_option maxRecDepth 100000 in
theorem iPrime_ok (p : Int) (h : Heap) : CallA Try.prog 58 #[.int .i64 p] h fun v h' => v = .bool (isP p) ∧ h' = h := by
 refine callA_intro TTok (args := [_]) Try.func58 (by kernel_rfl) rfl 17 rfl (by simp) [.tmp 2] rfl ?_
 simp only [idxs, Nat.reduceAdd]
 refine den_seq ?_
 refine den_region TTok ?_
 intro K hK
 simp -implicitDefEqProofs (disch := first | decide | assumption | omega) only [go_sem]
 refine hK _ _ ?_
 clear hK K
 refine den_seq ?_
 refine den_mergeH [(2, .bool (((((p == (2 : Int)) || (p == (3 : Int))) || (p == (5 : Int))) || (p == (7 : Int)))))] [] ?_ ?_
  -- a way
 ·refine den_region TTok ?_
  intro K hK
  simp -implicitDefEqProofs (disch := first | decide | assumption | (simp (disch := decide) only [slotOf_zero, slotOf_succ, Option.map_some, puts_same, puts_ne, gv_bool, gv_undef, tt, tf, ft, ff, eq_self, if_true, if_false, Bool.false_eq_true, Bool.not_true, Bool.not_false]; done) | omega) only [go_sem]
  refine opsP_F (by simp (disch := decide) only [slotOf_zero, slotOf_succ, Option.map_some, puts_same, puts_ne, gv_bool, gv_undef, tt, tf, ft, ff, eq_self, if_true, if_false, Bool.false_eq_true, Bool.not_true, Bool.not_false]; rfl) (fun g1 => ?_) (fun g1 => ?_)
  ·try simp -implicitDefEqProofs (disch := first | decide | assumption | (simp (disch := decide) only [slotOf_zero, slotOf_succ, Option.map_some, puts_same, puts_ne, gv_bool, gv_undef, tt, tf, ft, ff, eq_self, if_true, if_false, Bool.false_eq_true, Bool.not_true, Bool.not_false, g1]; done) | omega) only [go_sem, g1, eq_self, if_true, if_false, Bool.false_eq_true]
   refine opsP_F (by simp (disch := decide) only [slotOf_zero, slotOf_succ, Option.map_some, puts_same, puts_ne, gv_bool, gv_undef, tt, tf, ft, ff, eq_self, if_true, if_false, Bool.false_eq_true, Bool.not_true, Bool.not_false, g1]; rfl) (fun g2 => ?_) (fun g2 => ?_)
   ·try simp -implicitDefEqProofs (disch := first | decide | assumption | (simp (disch := decide) only [slotOf_zero, slotOf_succ, Option.map_some, puts_same, puts_ne, gv_bool, gv_undef, tt, tf, ft, ff, eq_self, if_true, if_false, Bool.false_eq_true, Bool.not_true, Bool.not_false, g1, g2]; done) | omega) only [go_sem, g1, g2, eq_self, if_true, if_false, Bool.false_eq_true]
    refine opsP_F (by simp (disch := decide) only [slotOf_zero, slotOf_succ, Option.map_some, puts_same, puts_ne, gv_bool, gv_undef, tt, tf, ft, ff, eq_self, if_true, if_false, Bool.false_eq_true, Bool.not_true, Bool.not_false, g1, g2]; rfl) (fun g3 => ?_) (fun g3 => ?_)
    ·try simp -implicitDefEqProofs (disch := first | decide | assumption | (simp (disch := decide) only [slotOf_zero, slotOf_succ, Option.map_some, puts_same, puts_ne, gv_bool, gv_undef, tt, tf, ft, ff, eq_self, if_true, if_false, Bool.false_eq_true, Bool.not_true, Bool.not_false, g1, g2, g3]; done) | omega) only [go_sem, g1, g2, g3, eq_self, if_true, if_false, Bool.false_eq_true]
     refine hK _ _ ?_
     clear hK K
     refine den_stop ?_
     refine ⟨?_, rfl⟩
     first | (simp (disch := decide) only [go_sem, g1, g2, g3, eq_self, Bool.true_and, Bool.and_true, Bool.false_and, Bool.and_false, Bool.true_or, Bool.or_true, Bool.false_or, Bool.or_false, if_true, if_false, Bool.false_eq_true]; done) | simp [HasL, sel, puts_at, g1, g2, g3]
    ·try simp -implicitDefEqProofs (disch := first | decide | assumption | (simp (disch := decide) only [slotOf_zero, slotOf_succ, Option.map_some, puts_same, puts_ne, gv_bool, gv_undef, tt, tf, ft, ff, eq_self, if_true, if_false, Bool.false_eq_true, Bool.not_true, Bool.not_false, g1, g2, g3]; done) | omega) only [go_sem, g1, g2, g3, eq_self, if_true, if_false, Bool.false_eq_true]
     refine hK _ _ ?_
     clear hK K
     refine den_stop ?_
     refine ⟨?_, rfl⟩
     first | (simp (disch := decide) only [go_sem, g1, g2, g3, eq_self, Bool.true_and, Bool.and_true, Bool.false_and, Bool.and_false, Bool.true_or, Bool.or_true, Bool.false_or, Bool.or_false, if_true, if_false, Bool.false_eq_true]; done) | simp [HasL, sel, puts_at, g1, g2, g3]
   ·try simp -implicitDefEqProofs (disch := first | decide | assumption | (simp (disch := decide) only [slotOf_zero, slotOf_succ, Option.map_some, puts_same, puts_ne, gv_bool, gv_undef, tt, tf, ft, ff, eq_self, if_true, if_false, Bool.false_eq_true, Bool.not_true, Bool.not_false, g1, g2]; done) | omega) only [go_sem, g1, g2, eq_self, if_true, if_false, Bool.false_eq_true]
    try simp -implicitDefEqProofs (disch := first | decide | assumption | (simp (disch := decide) only [slotOf_zero, slotOf_succ, Option.map_some, puts_same, puts_ne, gv_bool, gv_undef, tt, tf, ft, ff, eq_self, if_true, if_false, Bool.false_eq_true, Bool.not_true, Bool.not_false, g1, g2]; done) | omega) only [go_sem, g1, g2, eq_self, if_true, if_false, Bool.false_eq_true]
    refine hK _ _ ?_
    clear hK K
    refine den_stop ?_
    refine ⟨?_, rfl⟩
    first | (simp (disch := decide) only [go_sem, g1, g2, eq_self, Bool.true_and, Bool.and_true, Bool.false_and, Bool.and_false, Bool.true_or, Bool.or_true, Bool.false_or, Bool.or_false, if_true, if_false, Bool.false_eq_true]; done) | simp [HasL, sel, puts_at, g1, g2]
  ·try simp -implicitDefEqProofs (disch := first | decide | assumption | (simp (disch := decide) only [slotOf_zero, slotOf_succ, Option.map_some, puts_same, puts_ne, gv_bool, gv_undef, tt, tf, ft, ff, eq_self, if_true, if_false, Bool.false_eq_true, Bool.not_true, Bool.not_false, g1]; done) | omega) only [go_sem, g1, eq_self, if_true, if_false, Bool.false_eq_true]
   try simp -implicitDefEqProofs (disch := first | decide | assumption | (simp (disch := decide) only [slotOf_zero, slotOf_succ, Option.map_some, puts_same, puts_ne, gv_bool, gv_undef, tt, tf, ft, ff, eq_self, if_true, if_false, Bool.false_eq_true, Bool.not_true, Bool.not_false, g1]; done) | omega) only [go_sem, g1, eq_self, if_true, if_false, Bool.false_eq_true]
   try simp -implicitDefEqProofs (disch := first | decide | assumption | (simp (disch := decide) only [slotOf_zero, slotOf_succ, Option.map_some, puts_same, puts_ne, gv_bool, gv_undef, tt, tf, ft, ff, eq_self, if_true, if_false, Bool.false_eq_true, Bool.not_true, Bool.not_false, g1]; done) | omega) only [go_sem, g1, eq_self, if_true, if_false, Bool.false_eq_true]
   refine hK _ _ ?_
   clear hK K
   refine den_stop ?_
   refine ⟨?_, rfl⟩
   first | (simp (disch := decide) only [go_sem, g1, eq_self, Bool.true_and, Bool.and_true, Bool.false_and, Bool.and_false, Bool.true_or, Bool.or_true, Bool.false_or, Bool.or_false, if_true, if_false, Bool.false_eq_true]; done) | simp [HasL, sel, puts_at, g1]
 intro en4
 simp (disch := decide) only [go_sem]
 refine den_ret ?_
 simp (disch := decide) only [resP_1, puts_same, puts_ne]
 exact ⟨by first | rfl | trivial, trivial⟩

set_option maxRecDepth 100000 in
theorem size1_ok (v : Value) (xs : List Int) (h : Heap) (hv : R1 h v xs) : CallA Try.prog 90 #[v] h fun v h' => v = .int .i64 (xs.length : Int) ∧ h' = h := by
 have hle := RdS.le hv
 refine callA_intro TTok (args := [_]) Try.func90 (by kernel_rfl) rfl 5 rfl (by simp) [.tmp 2] rfl ?_
 simp only [idxs, Nat.reduceAdd]
 refine den_seq ?_
 refine den_region TTok ?_
 intro K hK
 simp -implicitDefEqProofs (disch := first | decide | assumption | omega) only [go_sem, RdS.len hv sl55, RdS.idx hv sl55, R1.intB hv (HPres.refl _), RdS.cells hv, wrap_id]
 refine hK _ _ ?_
 clear hK K
 refine den_seq ?_
 refine den_region TTok ?_
 intro K hK
 simp -implicitDefEqProofs (disch := first | decide | assumption | omega) only [go_sem, RdS.len hv sl55, RdS.idx hv sl55, R1.intB hv (HPres.refl _), RdS.cells hv, wrap_id]
 refine hK _ _ ?_
 clear hK K
 refine den_ret ?_
 simp (disch := decide) only [resP_1, puts_same, puts_ne]
 exact ⟨by first | rfl | trivial, trivial⟩
end Go.Proofs.Ytacajcjibhifmaa

namespace Go.Proofs.Ytacajcjibhifmaa
open Go
theorem all_at {α : Type} {f : α → Bool} {xs : List α} {d : α} {k : Nat} (h : xs.all f = true) (hk : k < xs.length) : f (xs.getD k d) = true := by
 rw [List.getD_eq_getElem?_getD, List.getElem?_eq_getElem hk]
 exact List.all_eq_true.1 h _ (List.getElem_mem hk)
def mix {α : Type} (A B : List α) (m : Nat) : List α := A.take m ++ B.drop m
theorem mix_len {α : Type} (A B : List α) (m : Nat) (h : A.length = B.length) : (mix A B m).length = B.length := by
 simp [mix, List.length_take, List.length_drop]; omega
theorem mix_get {α : Type} (A B : List α) (m : Nat) (d : α) (h : A.length = B.length) (hm : m < B.length) : (mix A B m).getD m d = B.getD m d := by
 rw [List.getD_eq_getElem?_getD, List.getD_eq_getElem?_getD, mix, List.getElem?_append_right (by rw [List.length_take]; omega), List.length_take, Nat.min_eq_left (by omega), List.getElem?_drop]
 simp
theorem mix_set {α : Type} (A B : List α) (m : Nat) (d : α) (h : A.length = B.length) (hm : m < B.length) : (mix A B m).set m (A.getD m d) = mix A B (m + 1) := by
 have hl : (A.take m).length = m := by rw [List.length_take]; omega
 rw [mix, mix, List.set_append_right _ _ (by omega), hl, Nat.sub_self, List.drop_eq_getElem_cons hm, List.set_cons_zero, List.take_succ_eq_append_getElem (by omega), List.append_assoc, List.getD_eq_getElem?_getD, List.getElem?_eq_getElem (by omega)]
 rfl
theorem mix_zero {α : Type} (A B : List α) : mix A B 0 = B := by simp [mix]
theorem mix_end {α : Type} (A B : List α) (m : Nat) (h : A.length = B.length) (hm : ¬ m < B.length) : mix A B m = A := by
 rw [mix, List.take_of_length_le (by omega), List.drop_eq_nil_of_le (by omega), List.append_nil]
/-- The place of the first number other than 0. -/
def leadP : List Int → Int
 | [] => -1
 | x :: r => if x ≠ 0 then 0 else if leadP r < 0 then -1 else leadP r + 1
def isRow (p n : Int) (r : List Int) : Bool := decide ((r.length : Int) = n) && r.all (fun x => in3 x 0 (p - 1))
def tableP (p : Int) (rows : List (List Int)) (c w : Int) : Bool := decide ((rows.length : Int) = c) && rows.all (isRow p w)
end Go.Proofs.Ytacajcjibhifmaa

namespace Go.Proofs.Ytacajcjibhifmaa
open Go
/-- One row, times x, is added. -/
def stepRow (p x : Int) (row acc : List Int) : List Int := List.zipWith (fun o y => (o + x * y).tmod p) acc row
def accP (p : Int) : List Int → List (List Int) → List Int → List Int
 | x :: v, r :: rows, acc => accP p v rows (stepRow p x r acc)
 | _, _, acc => acc
def Bnd (p : Int) (v : List Int) : Prop := ∀ x ∈ v, 0 ≤ x ∧ x < p
theorem Bnd.at {p : Int} {v : List Int} (h : Bnd p v) {k : Nat} (hk : k < v.length) : 0 ≤ v.getD k 0 ∧ v.getD k 0 < p := by
 rw [List.getD_eq_getElem?_getD, List.getElem?_eq_getElem hk]; exact h _ (List.getElem_mem hk)
/-- Rows of w numbers modulo p. -/
def Tbl (p w : Int) (rows : List (List Int)) : Prop := ∀ r ∈ rows, (r.length : Int) = w ∧ Bnd p r
theorem Tbl.at {p w : Int} {rows : List (List Int)} (h : Tbl p w rows) {k : Nat} (hk : k < rows.length) : ((rows.getD k default).length : Int) = w ∧ Bnd p (rows.getD k default) := h _ (getD_mem hk)
theorem isRow_iff {p n : Int} {r : List Int} : isRow p n r = true ↔ (r.length : Int) = n ∧ Bnd p r := by
 simp only [isRow, Bool.and_eq_true, decide_eq_true_eq, List.all_eq_true, in3_iff, Bnd]
 constructor <;> rintro ⟨h1, h2⟩ <;> exact ⟨h1, fun x hx => by have := h2 x hx; omega⟩
theorem tableP_iff {p : Int} {rows : List (List Int)} {c w : Int} : tableP p rows c w = true ↔ (rows.length : Int) = c ∧ Tbl p w rows := by
 simp only [tableP, Bool.and_eq_true, decide_eq_true_eq, List.all_eq_true, isRow_iff, Tbl]
end Go.Proofs.Ytacajcjibhifmaa

namespace Go.Proofs.Ytacajcjibhifmaa
open Go
theorem isP_bnd {p : Int} (h : isP p = true) : 0 < p ∧ p ≤ 7 := by
 simp only [isP, Bool.or_eq_true, beq_iff_eq] at h; omega
end Go.Proofs.Ytacajcjibhifmaa

namespace Go.Proofs.Ytacajcjibhifmaa
open Go
def tbAt (X : Cx) (k : Nat) : Prop := tableP X.p (X.maps.getD k default) (X.dims.getD ((k : Int) + 1).toNat 0) (X.dims.getD k 0) = true
/-- Row i of map k, sent on by the map before. -/
def sqv (X : Cx) (k i : Nat) : List Int := accP X.p ((X.maps.getD k default).getD i default) (X.maps.getD ((k : Int) - 1).toNat default) (List.replicate (X.dims.getD ((k : Int) - 1).toNat 0).toNat 0)
structure IsC (X : Cx) : Prop where
 p : isP X.p = true
 len : 1 ≤ X.dims.length ∧ X.dims.length ≤ 6
 ml : X.maps.length + 1 = X.dims.length
 dm : X.dims.all (fun x => in3 x 0 8) = true
 tb : ∀ k, k < X.maps.length → tbAt X k
 sq : ∀ k, k < X.maps.length → 0 < k → ∀ i, i < (X.maps.getD k default).length → leadP (sqv X k i) < 0
theorem dm_at {X : Cx} (h : X.dims.all (fun x => in3 x 0 8) = true) {k : Nat} (hk : k < X.dims.length) : 0 ≤ X.dims.getD k 0 ∧ X.dims.getD k 0 ≤ 8 := in3_iff.1 (all_at (d := 0) h hk)
end Go.Proofs.Ytacajcjibhifmaa

namespace Go.Proofs.Ytacajcjibhifmaa
open Go
structure PreC (X : Cx) : Prop where
 p : 0 < X.p ∧ X.p ≤ 7
 ml : X.maps.length + 1 = X.dims.length
 dm : X.dims.all (fun x => in3 x 0 8) = true
 tb : ∀ k, k < X.maps.length → tbAt X k
theorem PreC.app {X : Cx} (h : PreC X) {n : Int} (h0 : 0 < n) (h1 : n ≤ (X.dims.length : Int) - 1) : (0 ≤ X.dims.getD (n - 1).toNat 0 ∧ X.dims.getD (n - 1).toNat 0 ≤ 8) ∧ ((X.maps.getD (n - 1).toNat default).length : Int) = X.dims.getD n.toNat 0 ∧ Tbl X.p (X.dims.getD (n - 1).toNat 0) (X.maps.getD (n - 1).toNat default) := by
 have hm := h.ml
 have t := tableP_iff.1 (h.tb (n - 1).toNat (by omega))
 have e : ((((n - 1).toNat : Nat) : Int) + 1).toNat = n.toNat := by omega
 rw [e] at t
 exact ⟨dm_at h.dm (by omega), t⟩
end Go.Proofs.Ytacajcjibhifmaa

namespace Go.Proofs.Ytacajcjibhifmaa
open Go
theorem Fresh.left {lo : Nat} {f1 f2 : List Nat} (h : Fresh lo (f1 ++ f2)) : Fresh lo f1 := ⟨(List.nodup_append.1 h.nodup).1, fun b hb => h.ge b (List.mem_append_left _ hb)⟩
theorem Fresh.right {lo : Nat} {f1 f2 : List Nat} (h : Fresh lo (f1 ++ f2)) : Fresh lo f2 := ⟨(List.nodup_append.1 h.nodup).2.1, fun b hb => h.ge b (List.mem_append_right _ hb)⟩
end Go.Proofs.Ytacajcjibhifmaa

namespace Go.Proofs.Ytacajcjibhifmaa
open Go
def markI : List Int → Int → List Int
 | [], _ => []
 | _ :: r, k => k :: markI r (k + 1)
def markL {α : Type} (mk : α → Int → α) (ct : α → Int) : List α → Int → List α
 | [], _ => []
 | x :: r, k => mk x k :: markL mk ct r (k + ct x)
def cntL {α : Type} (ct : α → Int) : List α → Int
 | [] => 0
 | x :: r => ct x + cntL ct r
def cnt1 (xs : List Int) : Int := xs.length
abbrev cnt2 : List (List Int) → Int := cntL cnt1
abbrev mark2 : List (List Int) → Int → List (List Int) := markL markI cnt1
abbrev mark3 : List (List (List Int)) → Int → List (List (List Int)) := markL mark2 cnt2
theorem markI_len : ∀ (xs : List Int) (k : Int), (markI xs k).length = xs.length
 | [], _ => rfl
 | _ :: r, k => by simp [markI, markI_len r]
theorem markI_get : ∀ (xs : List Int) (k : Int) (i : Nat), i < xs.length → (markI xs k).getD i 0 = k + i
 | _ :: r, k, 0, _ => by simp [markI]
 | _ :: r, k, i + 1, h => by
  have := markI_get r (k + 1) i (by simpa using h)
  simp only [markI, List.getD_cons_succ, this]; omega
theorem mark_set {xs : List Int} {k : Int} {i : Nat} (h : i < xs.length) : (mix (markI xs k) xs i).set i (k + i) = mix (markI xs k) xs (i + 1) := by
 rw [← markI_get xs k i h, mix_set _ _ _ _ (markI_len xs k) h]
section
variable {α : Type} {mk : α → Int → α} {ct : α → Int}
theorem markL_len : ∀ (xs : List α) (k : Int), (markL mk ct xs k).length = xs.length
 | [], _ => rfl
 | _ :: r, k => by simp [markL, markL_len r]
theorem markL_get [Inhabited α] : ∀ (xs : List α) (k : Int) (i : Nat), i < xs.length → (markL mk ct xs k).getD i default = mk (xs.getD i default) (k + cntL ct (xs.take i))
 | x :: r, k, 0, _ => by simp [markL, cntL]
 | x :: r, k, i + 1, h => by
  have := markL_get r (k + ct x) i (by simpa using h)
  simp only [markL, List.getD_cons_succ, this, List.take_succ_cons, cntL]
  rw [Int.add_assoc]
theorem cntL_take [Inhabited α] : ∀ (xs : List α) (i : Nat), i < xs.length → cntL ct (xs.take (i + 1)) = cntL ct (xs.take i) + ct (xs.getD i default)
 | x :: r, 0, _ => by simp [cntL]
 | x :: r, i + 1, h => by
  have := cntL_take r i (by simpa using h)
  simp only [List.take_succ_cons, cntL, List.getD_cons_succ] at this ⊢
  omega
theorem cntL_nonneg (h : ∀ x, 0 ≤ ct x) : ∀ xs : List α, 0 ≤ cntL ct xs
 | [] => by simp [cntL]
 | x :: r => by have := h x; have := cntL_nonneg h r; simp only [cntL]; omega
theorem cntL_le (h : ∀ x, 0 ≤ ct x) : ∀ (xs : List α) (i : Nat), cntL ct (xs.take i) ≤ cntL ct xs
 | [], i => by simp
 | x :: r, 0 => by have := cntL_nonneg h (x :: r); simpa [cntL] using this
 | x :: r, i + 1 => by have := cntL_le h r i; simp only [List.take_succ_cons, cntL]; omega
theorem markL_set [Inhabited α] {xs : List α} {k : Int} {i : Nat} (h : i < xs.length) : (mix (markL mk ct xs k) xs i).set i (mk (xs.getD i default) (k + cntL ct (xs.take i))) = mix (markL mk ct xs k) xs (i + 1) := by
 rw [← markL_get (mk := mk) (ct := ct) xs k i h, mix_set _ _ _ _ (markL_len xs k) h]
end
theorem cnt1_nn (x : List Int) : 0 ≤ cnt1 x := by unfold cnt1; omega
theorem cnt2_nn (x : List (List Int)) : 0 ≤ cnt2 x := cntL_nonneg cnt1_nn x
set_option maxRecDepth 100000 in
theorem markS_ok (v : Value) (xs : List Int) (k : Int) (fp : List Nat) (h : Heap) (ho : O1 h v xs fp) (hn : fp.Nodup) (hk : 0 ≤ k ∧ k + cnt1 xs ≤ 4611686018427387904) : CallA Try.prog 36 #[v, .int .i64 k] h fun u h' => u = .int .i64 (k + cnt1 xs) ∧ O1 h' v (markI xs k) fp ∧ Chg fp h h' := by
 unfold cnt1 at *
 refine callA_intro TTok (args := [_, _]) Try.func36 (by kernel_rfl) rfl 19 rfl (by simp) [.tmp 4] rfl ?_
 simp only [idxs, Nat.reduceAdd]
 refine den_seq ?_
 refine den_region TTok ?_
 intro K hK
 simp -implicitDefEqProofs (disch := first | decide | assumption | omega) only [go_sem, RdS.len (OS.rd ho) sl55, RdS.idx (OS.rd ho) sl55, R1.intN (OS.rd ho), RdS.cells (OS.rd ho), wrap_id]
 refine hK _ _ ?_
 clear hK K
 refine den_seq ?_
 refine den_seq ?_
 refine den_region TTok ?_
 intro K hK
 simp -implicitDefEqProofs (disch := first | decide | assumption | omega) only [go_sem, RdS.len (OS.rd ho) sl55, RdS.idx (OS.rd ho) sl55, R1.intN (OS.rd ho), RdS.cells (OS.rd ho), wrap_id]
 refine hK _ _ ?_
 clear hK K
 refine den_block ?_
 refine den_sel [1, 5, 0] ?_
 intro env_1
 simp only [go_sem]
 refine den_loopS (σ := Nat × Int) (fun s => [(1, .int .i64 s.2), (5, .int .i64 (s.1 : Int))]) (fun s H => Chg fp h H ∧ s.1 ≤ xs.length ∧ s.2 = k + s.1 ∧ O1 H v (mix (markI xs k) xs s.1) fp) (fun s => xs.length - s.1) (0, k) ?_ ?_
 ·exact ⟨Chg.refl _ _, by simp, by simp, by rw [mix_zero]; exact ho⟩
 ·rintro ⟨i, q⟩ h4 ee3 ⟨hch, hi, hq, ho⟩
  simp only [List.cons_append, List.nil_append]
  dsimp only at hi hq ho
  refine den_seq ?_
  refine den_seq ?_
  have hml := mix_len (markI xs k) xs i (markI_len xs k)
  refine den_region TTok ?_
  intro K hK
  simp -implicitDefEqProofs (disch := first | decide | assumption | omega) only [go_sem, RdS.len (OS.rd ho) sl55, RdS.idx (OS.rd ho) sl55, R1.intN (OS.rd ho), RdS.cells (OS.rd ho), wrap_id]
  refine hK _ _ ?_
  clear hK K
  refine den_cond rfl (fun c0 => ?_) (fun c0 => ?_)
  ·try simp only [decide_eq_true_eq, decide_eq_false_iff_not, beq_iff_eq, beq_eq_false_iff_ne, bne_iff_ne, ne_eq, Bool.not_eq_true', Bool.not_eq_false', Bool.and_eq_true, Bool.or_eq_true, bne_eq_false_iff_eq] at c0
   refine den_skip ?_
   refine den_seq ?_
   refine den_block ?_
   refine den_seq ?_
   refine den_region TTok ?_
   intro K hK
   simp -implicitDefEqProofs (disch := first | decide | assumption | omega) only [go_sem, RdS.len (OS.rd ho) sl55, RdS.idx (OS.rd ho) sl55, R1.intN (OS.rd ho), RdS.cells (OS.rd ho), wrap_id]
   refine op_store1 (j := i) st2 ho hn (by omega) rfl rfl ?_
   intro h4 ho4 c4
   replace hch := hch.trans c4
   rw [hq, mark_set (by omega)] at ho4
   try simp -implicitDefEqProofs (disch := first | decide | assumption | omega) only [go_sem, RdS.len (OS.rd ho) sl55, RdS.idx (OS.rd ho) sl55, R1.intN (OS.rd ho), RdS.cells (OS.rd ho), wrap_id]
   refine hK _ _ ?_
   clear hK K
   refine den_region TTok ?_
   intro K hK
   simp -implicitDefEqProofs (disch := first | decide | assumption | omega) only [go_sem, RdS.len (OS.rd ho) sl55, RdS.idx (OS.rd ho) sl55, R1.intN (OS.rd ho), RdS.cells (OS.rd ho), wrap_id]
   refine hK _ _ ?_
   clear hK K
   refine den_blk ?_
   refine den_region TTok ?_
   intro K hK
   simp -implicitDefEqProofs (disch := first | decide | assumption | omega) only [go_sem, RdS.len (OS.rd ho) sl55, RdS.idx (OS.rd ho) sl55, R1.intN (OS.rd ho), RdS.cells (OS.rd ho), wrap_id]
   refine hK _ _ ?_
   clear hK K
   refine den_stop ?_
   exact ⟨(i + 1, q + 1), by simp [HasL, puts_at], ⟨hch, by dsimp only; omega, by dsimp only; omega, ho4⟩, by dsimp only; omega⟩
  ·try simp only [decide_eq_true_eq, decide_eq_false_iff_not, beq_iff_eq, beq_eq_false_iff_ne, bne_iff_ne, ne_eq, Bool.not_eq_true', Bool.not_eq_false', Bool.and_eq_true, Bool.or_eq_true, bne_eq_false_iff_eq] at c0
   refine den_exit ?_
   refine denX_code ?_
   refine denX_stop ?_
   refine denX_hit ?_
   refine den_seq ?_
   refine den_region TTok ?_
   intro K hK
   simp -implicitDefEqProofs (disch := first | decide | assumption | omega) only [go_sem, RdS.len (OS.rd ho) sl55, RdS.idx (OS.rd ho) sl55, R1.intN (OS.rd ho), RdS.cells (OS.rd ho), wrap_id]
   refine hK _ _ ?_
   clear hK K
   refine den_ret ?_
   simp (disch := decide) only [resP_1, puts_same, puts_ne]
   rw [mix_end _ _ _ (markI_len xs k) (by omega)] at ho
   exact ⟨vint (by omega), ho, hch⟩

set_option maxRecDepth 100000 in
theorem markSS_ok (v : Value) (R : List (List Int)) (k : Int) (fp : List Nat) (h : Heap) (ho : O2 h v R fp) (hn : fp.Nodup) (hk : 0 ≤ k ∧ k + cntL cnt1 R ≤ 4611686018427387904) : CallA Try.prog 76 #[v, .int .i64 k] h fun u h' => u = .int .i64 (k + cntL cnt1 R) ∧ O2 h' v (markL markI cnt1 R k) fp ∧ Chg fp h h' := by
 have hle := OS.len_le ho
 refine callA_intro TTok (args := [_, _]) Try.func76 (by kernel_rfl) rfl 19 rfl (by simp) [.tmp 4] rfl ?_
 simp only [idxs, Nat.reduceAdd]
 refine den_seq ?_
 refine den_region TTok ?_
 intro K hK
 simp -implicitDefEqProofs (disch := first | decide | assumption | omega) only [go_sem, RdS.len (OS.rd ho) sl59, RdS.idx (OS.rd ho) sl59, RdS.cellN (OS.rd ho), RdS.cells (OS.rd ho), wrap_id]
 refine hK _ _ ?_
 clear hK K
 refine den_seq ?_
 refine den_seq ?_
 refine den_region TTok ?_
 intro K hK
 simp -implicitDefEqProofs (disch := first | decide | assumption | omega) only [go_sem, RdS.len (OS.rd ho) sl59, RdS.idx (OS.rd ho) sl59, RdS.cellN (OS.rd ho), RdS.cells (OS.rd ho), wrap_id]
 refine hK _ _ ?_
 clear hK K
 refine den_block ?_
 refine den_sel [1, 5, 0] ?_
 intro env_1
 simp only [go_sem]
 refine den_loopS (σ := Nat × Int) (fun s => [(1, .int .i64 s.2), (5, .int .i64 (s.1 : Int))]) (fun s H => Chg fp h H ∧ s.1 ≤ R.length ∧ s.2 = k + cntL cnt1 (R.take s.1) ∧ O2 H v (mix (markL markI cnt1 R k) R s.1) fp) (fun s => R.length - s.1) (0, k) ?_ ?_
 ·exact ⟨Chg.refl _ _, by simp, by simp [cntL], by rw [mix_zero]; exact ho⟩
 ·rintro ⟨i, q⟩ h4 ee3 ⟨hch, hi, hq, ho⟩
  simp only [List.cons_append, List.nil_append]
  dsimp only at hi hq ho
  refine den_seq ?_
  refine den_seq ?_
  have hml := mix_len (markL markI cnt1 R k) R i (markL_len R k)
  refine den_region TTok ?_
  intro K hK
  simp -implicitDefEqProofs (disch := first | decide | assumption | omega) only [go_sem, RdS.len (OS.rd ho) sl59, RdS.idx (OS.rd ho) sl59, RdS.cellN (OS.rd ho), RdS.cells (OS.rd ho), wrap_id]
  refine hK _ _ ?_
  clear hK K
  refine den_cond rfl (fun c0 => ?_) (fun c0 => ?_)
  ·try simp only [decide_eq_true_eq, decide_eq_false_iff_not, beq_iff_eq, beq_eq_false_iff_ne, bne_iff_ne, ne_eq, Bool.not_eq_true', Bool.not_eq_false', Bool.and_eq_true, Bool.or_eq_true, bne_eq_false_iff_eq] at c0
   refine den_skip ?_
   refine den_seq ?_
   refine den_block ?_
   have hmg := mix_get (markL markI cnt1 R k) R i default (markL_len R k) (by omega)
   have hct := cntL_take (ct := cnt1) R i (by omega)
   have hcl := cntL_le cnt1_nn R (i + 1)
   have hcn := cnt1_nn (R.getD i default)
   have hcn2 := cntL_nonneg cnt1_nn (R.take i)
   refine den_region TTok ?_
   intro K hK
   simp -implicitDefEqProofs (disch := first | decide | assumption | omega) only [go_sem, ld55, RdS.len (OS.rd ho) sl59, RdS.idx (OS.rd ho) sl59, RdS.cellN (OS.rd ho), RdS.cells (OS.rd ho), wrap_id]
   try simp -implicitDefEqProofs (disch := first | decide | assumption | omega) only [go_sem, RdS.len (OS.rd ho) sl59, RdS.idx (OS.rd ho) sl59, RdS.cellN (OS.rd ho), RdS.cells (OS.rd ho), wrap_id]
   obtain ⟨f, hE, hsub, hnf, hbk⟩ := OS.elem ho hn i (by omega)
   rw [hmg] at hE
   refine CallA.mono (markS_ok _ _ q _ _ hE hnf (by have := cnt1_nn (R.getD i default); simp only [cnt1] at *; omega)) ?_
   intro v_ h4_5
   rintro ⟨rfl, hE2, c4⟩
   change O1 _ _ (markI (R.getD i default) q) _ at hE2
   have ho4 := hbk _ _ c4 hE2
   replace hch := hch.trans (c4.mono hsub)
   rw [hq, markL_set (mk := markI) (by omega)] at ho4
   try simp -implicitDefEqProofs (disch := first | decide | assumption | omega) only [go_sem, RdS.len (OS.rd ho) sl59, RdS.idx (OS.rd ho) sl59, RdS.cellN (OS.rd ho), RdS.cells (OS.rd ho), wrap_id]
   refine hK _ _ ?_
   clear hK K
   refine den_blk ?_
   refine den_region TTok ?_
   intro K hK
   simp -implicitDefEqProofs (disch := first | decide | assumption | omega) only [go_sem, RdS.len (OS.rd ho) sl59, RdS.idx (OS.rd ho) sl59, RdS.cellN (OS.rd ho), RdS.cells (OS.rd ho), wrap_id]
   refine hK _ _ ?_
   clear hK K
   refine den_stop ?_
   exact ⟨(i + 1, q + cnt1 (R.getD i default)), by simp [HasL, puts_at], ⟨hch, by dsimp only; omega, by dsimp only; omega, ho4⟩, by dsimp only; omega⟩
  ·try simp only [decide_eq_true_eq, decide_eq_false_iff_not, beq_iff_eq, beq_eq_false_iff_ne, bne_iff_ne, ne_eq, Bool.not_eq_true', Bool.not_eq_false', Bool.and_eq_true, Bool.or_eq_true, bne_eq_false_iff_eq] at c0
   refine den_exit ?_
   refine denX_code ?_
   refine denX_stop ?_
   refine denX_hit ?_
   refine den_seq ?_
   refine den_region TTok ?_
   intro K hK
   simp -implicitDefEqProofs (disch := first | decide | assumption | omega) only [go_sem, RdS.len (OS.rd ho) sl59, RdS.idx (OS.rd ho) sl59, RdS.cellN (OS.rd ho), RdS.cells (OS.rd ho), wrap_id]
   refine hK _ _ ?_
   clear hK K
   refine den_ret ?_
   simp (disch := decide) only [resP_1, puts_same, puts_ne]
   have ht : R.take i = R := List.take_of_length_le (by omega)
   rw [mix_end _ _ _ (markL_len R k) (by omega)] at ho
   rw [ht] at hq
   exact ⟨vint hq, ho, hch⟩

set_option maxRecDepth 100000 in
theorem markSSS_ok (v : Value) (R : List (List (List Int))) (k : Int) (fp : List Nat) (h : Heap) (ho : O3 h v R fp) (hn : fp.Nodup) (hk : 0 ≤ k ∧ k + cntL cnt2 R ≤ 4611686018427387904) : CallA Try.prog 99 #[v, .int .i64 k] h fun u h' => u = .int .i64 (k + cntL cnt2 R) ∧ O3 h' v (markL mark2 cnt2 R k) fp ∧ Chg fp h h' := by
 have hle := OS.len_le ho
 refine callA_intro TTok (args := [_, _]) Try.func99 (by kernel_rfl) rfl 19 rfl (by simp) [.tmp 4] rfl ?_
 simp only [idxs, Nat.reduceAdd]
 refine den_seq ?_
 refine den_region TTok ?_
 intro K hK
 simp -implicitDefEqProofs (disch := first | decide | assumption | omega) only [go_sem, RdS.len (OS.rd ho) sl56, RdS.idx (OS.rd ho) sl56, RdS.cellN (OS.rd ho), RdS.cells (OS.rd ho), wrap_id]
 refine hK _ _ ?_
 clear hK K
 refine den_seq ?_
 refine den_seq ?_
 refine den_region TTok ?_
 intro K hK
 simp -implicitDefEqProofs (disch := first | decide | assumption | omega) only [go_sem, RdS.len (OS.rd ho) sl56, RdS.idx (OS.rd ho) sl56, RdS.cellN (OS.rd ho), RdS.cells (OS.rd ho), wrap_id]
 refine hK _ _ ?_
 clear hK K
 refine den_block ?_
 refine den_sel [1, 5, 0] ?_
 intro env_1
 simp only [go_sem]
 refine den_loopS (σ := Nat × Int) (fun s => [(1, .int .i64 s.2), (5, .int .i64 (s.1 : Int))]) (fun s H => Chg fp h H ∧ s.1 ≤ R.length ∧ s.2 = k + cntL cnt2 (R.take s.1) ∧ O3 H v (mix (markL mark2 cnt2 R k) R s.1) fp) (fun s => R.length - s.1) (0, k) ?_ ?_
 ·exact ⟨Chg.refl _ _, by simp, by simp [cntL], by rw [mix_zero]; exact ho⟩
 ·rintro ⟨i, q⟩ h4 ee3 ⟨hch, hi, hq, ho⟩
  simp only [List.cons_append, List.nil_append]
  dsimp only at hi hq ho
  refine den_seq ?_
  refine den_seq ?_
  have hml := mix_len (markL mark2 cnt2 R k) R i (markL_len R k)
  refine den_region TTok ?_
  intro K hK
  simp -implicitDefEqProofs (disch := first | decide | assumption | omega) only [go_sem, RdS.len (OS.rd ho) sl56, RdS.idx (OS.rd ho) sl56, RdS.cellN (OS.rd ho), RdS.cells (OS.rd ho), wrap_id]
  refine hK _ _ ?_
  clear hK K
  refine den_cond rfl (fun c0 => ?_) (fun c0 => ?_)
  ·try simp only [decide_eq_true_eq, decide_eq_false_iff_not, beq_iff_eq, beq_eq_false_iff_ne, bne_iff_ne, ne_eq, Bool.not_eq_true', Bool.not_eq_false', Bool.and_eq_true, Bool.or_eq_true, bne_eq_false_iff_eq] at c0
   refine den_skip ?_
   refine den_seq ?_
   refine den_block ?_
   have hmg := mix_get (markL mark2 cnt2 R k) R i default (markL_len R k) (by omega)
   have hct := cntL_take (ct := cnt2) R i (by omega)
   have hcl := cntL_le cnt2_nn R (i + 1)
   have hcn := cnt2_nn (R.getD i default)
   have hcn2 := cntL_nonneg cnt2_nn (R.take i)
   refine den_region TTok ?_
   intro K hK
   simp -implicitDefEqProofs (disch := first | decide | assumption | omega) only [go_sem, ld59, RdS.len (OS.rd ho) sl56, RdS.idx (OS.rd ho) sl56, RdS.cellN (OS.rd ho), RdS.cells (OS.rd ho), wrap_id]
   try simp -implicitDefEqProofs (disch := first | decide | assumption | omega) only [go_sem, RdS.len (OS.rd ho) sl56, RdS.idx (OS.rd ho) sl56, RdS.cellN (OS.rd ho), RdS.cells (OS.rd ho), wrap_id]
   obtain ⟨f, hE, hsub, hnf, hbk⟩ := OS.elem ho hn i (by omega)
   rw [hmg] at hE
   refine CallA.mono (markSS_ok _ _ q _ _ hE hnf (by have := cnt2_nn (R.getD i default); simp only [cnt2] at *; omega)) ?_
   intro v_ h4_5
   rintro ⟨rfl, hE2, c4⟩
   change O2 _ _ (mark2 (R.getD i default) q) _ at hE2
   have ho4 := hbk _ _ c4 hE2
   replace hch := hch.trans (c4.mono hsub)
   rw [hq, markL_set (mk := mark2) (by omega)] at ho4
   try simp -implicitDefEqProofs (disch := first | decide | assumption | omega) only [go_sem, RdS.len (OS.rd ho) sl56, RdS.idx (OS.rd ho) sl56, RdS.cellN (OS.rd ho), RdS.cells (OS.rd ho), wrap_id]
   refine hK _ _ ?_
   clear hK K
   refine den_blk ?_
   refine den_region TTok ?_
   intro K hK
   simp -implicitDefEqProofs (disch := first | decide | assumption | omega) only [go_sem, RdS.len (OS.rd ho) sl56, RdS.idx (OS.rd ho) sl56, RdS.cellN (OS.rd ho), RdS.cells (OS.rd ho), wrap_id]
   refine hK _ _ ?_
   clear hK K
   refine den_stop ?_
   exact ⟨(i + 1, q + cnt2 (R.getD i default)), by simp [HasL, puts_at], ⟨hch, by dsimp only; omega, by dsimp only; omega, ho4⟩, by dsimp only; omega⟩
  ·try simp only [decide_eq_true_eq, decide_eq_false_iff_not, beq_iff_eq, beq_eq_false_iff_ne, bne_iff_ne, ne_eq, Bool.not_eq_true', Bool.not_eq_false', Bool.and_eq_true, Bool.or_eq_true, bne_eq_false_iff_eq] at c0
   refine den_exit ?_
   refine denX_code ?_
   refine denX_stop ?_
   refine denX_hit ?_
   refine den_seq ?_
   refine den_region TTok ?_
   intro K hK
   simp -implicitDefEqProofs (disch := first | decide | assumption | omega) only [go_sem, RdS.len (OS.rd ho) sl56, RdS.idx (OS.rd ho) sl56, RdS.cellN (OS.rd ho), RdS.cells (OS.rd ho), wrap_id]
   refine hK _ _ ?_
   clear hK K
   refine den_ret ?_
   simp (disch := decide) only [resP_1, puts_same, puts_ne]
   have ht : R.take i = R := List.take_of_length_le (by omega)
   rw [mix_end _ _ _ (markL_len R k) (by omega)] at ho
   rw [ht] at hq
   exact ⟨vint hq, ho, hch⟩
end Go.Proofs.Ytacajcjibhifmaa

namespace Go.Proofs.Ytacajcjibhifmaa
open Go
set_option maxRecDepth 100000 in
theorem heldS_ok (v : Value) (xs : List Int) (k : Int) (h : Heap) (hv : R1 h v (markI xs k)) (hk : 0 ≤ k ∧ k + cnt1 xs ≤ 4611686018427387904) : CallA Try.prog 37 #[v, .int .i64 k] h fun u h' => u = .int .i64 (k + cnt1 xs) ∧ h' = h := by
 unfold cnt1 at *
 have hml := markI_len xs k
 refine callA_intro TTok (args := [_, _]) Try.func37 (by kernel_rfl) rfl 21 rfl (by simp) [.tmp 4] rfl ?_
 simp only [idxs, Nat.reduceAdd]
 refine den_seq ?_
 refine den_region TTok ?_
 intro K hK
 simp -implicitDefEqProofs (disch := first | decide | assumption | omega) only [go_sem, RdS.len hv sl55, RdS.idx hv sl55, R1.intB hv (HPres.refl _), RdS.cells hv, wrap_id]
 refine hK _ _ ?_
 clear hK K
 refine den_seq ?_
 refine den_seq ?_
 refine den_region TTok ?_
 intro K hK
 simp -implicitDefEqProofs (disch := first | decide | assumption | omega) only [go_sem, RdS.len hv sl55, RdS.idx hv sl55, R1.intB hv (HPres.refl _), RdS.cells hv, wrap_id]
 refine hK _ _ ?_
 clear hK K
 refine den_block ?_
 refine den_sel [1, 5, 0] ?_
 intro env_1
 simp only [go_sem]
 refine den_loopP (σ := Nat × Int) (fun s => [(1, .int .i64 s.2), (5, .int .i64 (s.1 : Int))]) (fun s => s.1 ≤ xs.length ∧ s.2 = k + s.1) (fun s => xs.length - s.1) (0, k) ?_ ?_
 ·exact ⟨rfl, by simp, by simp⟩
 ·rintro ⟨i, q⟩ ee3 ⟨hi, hq⟩
  simp only [List.cons_append, List.nil_append]
  dsimp only at hi hq
  refine den_seq ?_
  refine den_seq ?_
  refine den_region TTok ?_
  intro K hK
  simp -implicitDefEqProofs (disch := first | decide | assumption | omega) only [go_sem, RdS.len hv sl55, RdS.idx hv sl55, R1.intB hv (HPres.refl _), RdS.cells hv, wrap_id]
  refine hK _ _ ?_
  clear hK K
  refine den_cond rfl (fun c0 => ?_) (fun c0 => ?_)
  ·try simp only [decide_eq_true_eq, decide_eq_false_iff_not, beq_iff_eq, beq_eq_false_iff_ne, bne_iff_ne, ne_eq, Bool.not_eq_true', Bool.not_eq_false', Bool.and_eq_true, Bool.or_eq_true, bne_eq_false_iff_eq] at c0
   refine den_skip ?_
   refine den_seq ?_
   refine den_block ?_
   refine den_seq ?_
   refine den_seq ?_
   refine den_region TTok ?_
   intro K hK
   simp -implicitDefEqProofs (disch := first | decide | assumption | omega) only [go_sem, ld2, RdS.len hv sl55, RdS.idx hv sl55, R1.intB hv (HPres.refl _), RdS.cells hv, wrap_id]
   refine hK _ _ ?_
   clear hK K
   refine den_cond rfl (fun c1 => ?_) (fun c1 => ?_)
   ·try simp only [decide_eq_true_eq, decide_eq_false_iff_not, beq_iff_eq, beq_eq_false_iff_ne, bne_iff_ne, ne_eq, Bool.not_eq_true', Bool.not_eq_false', Bool.and_eq_true, Bool.or_eq_true, bne_eq_false_iff_eq] at c1
    refine den_seq ?_
    refine den_region TTok ?_
    intro K hK
    simp -implicitDefEqProofs (disch := first | decide | assumption | omega) only [go_sem, RdS.len hv sl55, RdS.idx hv sl55, R1.intB hv (HPres.refl _), RdS.cells hv, wrap_id]
    refine hK _ _ ?_
    clear hK K
    refine den_ret ?_
    simp (disch := decide) only [resP_1, puts_same, puts_ne]
    exact absurd (markI_get xs k i (by omega)) (by omega)
   ·try simp only [decide_eq_true_eq, decide_eq_false_iff_not, beq_iff_eq, beq_eq_false_iff_ne, bne_iff_ne, ne_eq, Bool.not_eq_true', Bool.not_eq_false', Bool.and_eq_true, Bool.or_eq_true, bne_eq_false_iff_eq] at c1
    refine den_skip ?_
    refine den_region TTok ?_
    intro K hK
    simp -implicitDefEqProofs (disch := first | decide | assumption | omega) only [go_sem, RdS.len hv sl55, RdS.idx hv sl55, R1.intB hv (HPres.refl _), RdS.cells hv, wrap_id]
    refine hK _ _ ?_
    clear hK K
    refine den_blk ?_
    refine den_region TTok ?_
    intro K hK
    simp -implicitDefEqProofs (disch := first | decide | assumption | omega) only [go_sem, RdS.len hv sl55, RdS.idx hv sl55, R1.intB hv (HPres.refl _), RdS.cells hv, wrap_id]
    refine hK _ _ ?_
    clear hK K
    refine den_stop ?_
    exact ⟨(i + 1, q + 1), by simp [HasL, puts_at], ⟨rfl, by dsimp only; omega, by dsimp only; omega⟩, by dsimp only; omega⟩
  ·try simp only [decide_eq_true_eq, decide_eq_false_iff_not, beq_iff_eq, beq_eq_false_iff_ne, bne_iff_ne, ne_eq, Bool.not_eq_true', Bool.not_eq_false', Bool.and_eq_true, Bool.or_eq_true, bne_eq_false_iff_eq] at c0
   refine den_exit ?_
   refine denX_code ?_
   refine denX_stop ?_
   refine denX_hit ?_
   refine den_seq ?_
   refine den_region TTok ?_
   intro K hK
   simp -implicitDefEqProofs (disch := first | decide | assumption | omega) only [go_sem, RdS.len hv sl55, RdS.idx hv sl55, R1.intB hv (HPres.refl _), RdS.cells hv, wrap_id]
   refine hK _ _ ?_
   clear hK K
   refine den_ret ?_
   simp (disch := decide) only [resP_1, puts_same, puts_ne]
   exact ⟨vint (by omega), trivial⟩

set_option maxRecDepth 100000 in
theorem heldSS_ok (v : Value) (R : List (List Int)) (k : Int) (h : Heap) (hv : R2 h v (markL markI cnt1 R k)) (hk : 0 ≤ k ∧ k + cntL cnt1 R ≤ 4611686018427387904) : CallA Try.prog 78 #[v, .int .i64 k] h fun u h' => u = .int .i64 (k + cntL cnt1 R) ∧ h' = h := by
 have hle := RdS.le hv
 have hml := markL_len (mk := markI) (ct := cnt1) R k
 refine callA_intro TTok (args := [_, _]) Try.func78 (by kernel_rfl) rfl 21 rfl (by simp) [.tmp 4] rfl ?_
 simp only [idxs, Nat.reduceAdd]
 refine den_seq ?_
 refine den_region TTok ?_
 intro K hK
 simp -implicitDefEqProofs (disch := first | decide | assumption | omega) only [go_sem, RdS.len hv sl59, RdS.idx hv sl59, RdS.cellB hv (HPres.refl _), RdS.cells hv, wrap_id]
 refine hK _ _ ?_
 clear hK K
 refine den_seq ?_
 refine den_seq ?_
 refine den_region TTok ?_
 intro K hK
 simp -implicitDefEqProofs (disch := first | decide | assumption | omega) only [go_sem, RdS.len hv sl59, RdS.idx hv sl59, RdS.cellB hv (HPres.refl _), RdS.cells hv, wrap_id]
 refine hK _ _ ?_
 clear hK K
 refine den_block ?_
 refine den_sel [1, 5, 0] ?_
 intro env_1
 simp only [go_sem]
 refine den_loopP (σ := Nat × Int) (fun s => [(1, .int .i64 s.2), (5, .int .i64 (s.1 : Int))]) (fun s => s.1 ≤ R.length ∧ s.2 = k + cntL cnt1 (R.take s.1)) (fun s => R.length - s.1) (0, k) ?_ ?_
 ·exact ⟨rfl, by simp, by simp [cntL]⟩
 ·rintro ⟨i, q⟩ ee3 ⟨hi, hq⟩
  simp only [List.cons_append, List.nil_append]
  dsimp only at hi hq
  refine den_seq ?_
  refine den_seq ?_
  refine den_region TTok ?_
  intro K hK
  simp -implicitDefEqProofs (disch := first | decide | assumption | omega) only [go_sem, RdS.len hv sl59, RdS.idx hv sl59, RdS.cellB hv (HPres.refl _), RdS.cells hv, wrap_id]
  refine hK _ _ ?_
  clear hK K
  refine den_cond rfl (fun c0 => ?_) (fun c0 => ?_)
  ·try simp only [decide_eq_true_eq, decide_eq_false_iff_not, beq_iff_eq, beq_eq_false_iff_ne, bne_iff_ne, ne_eq, Bool.not_eq_true', Bool.not_eq_false', Bool.and_eq_true, Bool.or_eq_true, bne_eq_false_iff_eq] at c0
   refine den_skip ?_
   refine den_seq ?_
   refine den_block ?_
   refine den_seq ?_
   have hct := cntL_take (ct := cnt1) R i (by omega)
   have hcl := cntL_le cnt1_nn R (i + 1)
   have hcn := cnt1_nn (R.getD i default)
   have hcn2 := cntL_nonneg cnt1_nn (R.take i)
   refine den_region TTok ?_
   intro K hK
   have hr4 := RdS.rowN hv i (by omega)
   have hlhr4 := RdS.le hr4
   simp -implicitDefEqProofs (disch := first | decide | assumption | omega) only [go_sem, ld55, RdS.len hv sl59, RdS.idx hv sl59, RdS.cellB hv (HPres.refl _), RdS.cells hv, RdS.len hr4 sl55, RdS.idx hr4 sl55, R1.intB hr4 (HPres.refl _), RdS.cells hr4, wrap_id]
   try simp -implicitDefEqProofs (disch := first | decide | assumption | omega) only [go_sem, RdS.len hv sl59, RdS.idx hv sl59, RdS.cellB hv (HPres.refl _), RdS.cells hv, RdS.len hr4 sl55, RdS.idx hr4 sl55, R1.intB hr4 (HPres.refl _), RdS.cells hr4, wrap_id]
   have hr := RdS.rowN hv i (by omega)
   rw [markL_get R k i (by omega), ← hq] at hr
   refine CallA.pure (heldS_ok _ _ q _ hr (by have := cnt1_nn (R.getD i default); simp only [cnt1] at *; omega)) ?_
   try simp -implicitDefEqProofs (disch := first | decide | assumption | omega) only [go_sem, RdS.len hv sl59, RdS.idx hv sl59, RdS.cellB hv (HPres.refl _), RdS.cells hv, RdS.len hr4 sl55, RdS.idx hr4 sl55, R1.intB hr4 (HPres.refl _), RdS.cells hr4, wrap_id]
   refine hK _ _ ?_
   clear hK K
   refine den_seq ?_
   refine den_region TTok ?_
   intro K hK
   simp -implicitDefEqProofs (disch := first | decide | assumption | omega) only [go_sem, RdS.len hv sl59, RdS.idx hv sl59, RdS.cellB hv (HPres.refl _), RdS.cells hv, RdS.len hr4 sl55, RdS.idx hr4 sl55, R1.intB hr4 (HPres.refl _), RdS.cells hr4, wrap_id]
   refine hK _ _ ?_
   clear hK K
   refine den_cond rfl (fun c1 => ?_) (fun c1 => ?_)
   ·try simp only [decide_eq_true_eq, decide_eq_false_iff_not, beq_iff_eq, beq_eq_false_iff_ne, bne_iff_ne, ne_eq, Bool.not_eq_true', Bool.not_eq_false', Bool.and_eq_true, Bool.or_eq_true, bne_eq_false_iff_eq] at c1
    refine den_seq ?_
    refine den_region TTok ?_
    intro K hK
    simp -implicitDefEqProofs (disch := first | decide | assumption | omega) only [go_sem, RdS.len hv sl59, RdS.idx hv sl59, RdS.cellB hv (HPres.refl _), RdS.cells hv, RdS.len hr4 sl55, RdS.idx hr4 sl55, R1.intB hr4 (HPres.refl _), RdS.cells hr4, wrap_id]
    refine hK _ _ ?_
    clear hK K
    refine den_ret ?_
    simp (disch := decide) only [resP_1, puts_same, puts_ne]
    exact absurd c1 (by omega)
   ·try simp only [decide_eq_true_eq, decide_eq_false_iff_not, beq_iff_eq, beq_eq_false_iff_ne, bne_iff_ne, ne_eq, Bool.not_eq_true', Bool.not_eq_false', Bool.and_eq_true, Bool.or_eq_true, bne_eq_false_iff_eq] at c1
    refine den_skip ?_
    refine den_blk ?_
    refine den_region TTok ?_
    intro K hK
    simp -implicitDefEqProofs (disch := first | decide | assumption | omega) only [go_sem, RdS.len hv sl59, RdS.idx hv sl59, RdS.cellB hv (HPres.refl _), RdS.cells hv, RdS.len hr4 sl55, RdS.idx hr4 sl55, R1.intB hr4 (HPres.refl _), RdS.cells hr4, wrap_id]
    refine hK _ _ ?_
    clear hK K
    refine den_stop ?_
    exact ⟨(i + 1, q + cnt1 (R.getD i default)), by simp [HasL, puts_at], ⟨rfl, by dsimp only; omega, by dsimp only; omega⟩, by dsimp only; omega⟩
  ·try simp only [decide_eq_true_eq, decide_eq_false_iff_not, beq_iff_eq, beq_eq_false_iff_ne, bne_iff_ne, ne_eq, Bool.not_eq_true', Bool.not_eq_false', Bool.and_eq_true, Bool.or_eq_true, bne_eq_false_iff_eq] at c0
   refine den_exit ?_
   refine denX_code ?_
   refine denX_stop ?_
   refine denX_hit ?_
   refine den_seq ?_
   refine den_region TTok ?_
   intro K hK
   simp -implicitDefEqProofs (disch := first | decide | assumption | omega) only [go_sem, RdS.len hv sl59, RdS.idx hv sl59, RdS.cellB hv (HPres.refl _), RdS.cells hv, wrap_id]
   refine hK _ _ ?_
   clear hK K
   refine den_ret ?_
   simp (disch := decide) only [resP_1, puts_same, puts_ne]
   have ht : R.take i = R := List.take_of_length_le (by omega)
   rw [ht] at hq
   exact ⟨vint hq, trivial⟩

set_option maxRecDepth 100000 in
theorem heldSSS_ok (v : Value) (R : List (List (List Int))) (k : Int) (h : Heap) (hv : R3 h v (markL mark2 cnt2 R k)) (hk : 0 ≤ k ∧ k + cntL cnt2 R ≤ 4611686018427387904) : CallA Try.prog 100 #[v, .int .i64 k] h fun u h' => u = .int .i64 (k + cntL cnt2 R) ∧ h' = h := by
 have hle := RdS.le hv
 have hml := markL_len (mk := mark2) (ct := cnt2) R k
 refine callA_intro TTok (args := [_, _]) Try.func100 (by kernel_rfl) rfl 21 rfl (by simp) [.tmp 4] rfl ?_
 simp only [idxs, Nat.reduceAdd]
 refine den_seq ?_
 refine den_region TTok ?_
 intro K hK
 simp -implicitDefEqProofs (disch := first | decide | assumption | omega) only [go_sem, RdS.len hv sl56, RdS.idx hv sl56, RdS.cellB hv (HPres.refl _), RdS.cells hv, wrap_id]
 refine hK _ _ ?_
 clear hK K
 refine den_seq ?_
 refine den_seq ?_
 refine den_region TTok ?_
 intro K hK
 simp -implicitDefEqProofs (disch := first | decide | assumption | omega) only [go_sem, RdS.len hv sl56, RdS.idx hv sl56, RdS.cellB hv (HPres.refl _), RdS.cells hv, wrap_id]
 refine hK _ _ ?_
 clear hK K
 refine den_block ?_
 refine den_sel [1, 5, 0] ?_
 intro env_1
 simp only [go_sem]
 refine den_loopP (σ := Nat × Int) (fun s => [(1, .int .i64 s.2), (5, .int .i64 (s.1 : Int))]) (fun s => s.1 ≤ R.length ∧ s.2 = k + cntL cnt2 (R.take s.1)) (fun s => R.length - s.1) (0, k) ?_ ?_
 ·exact ⟨rfl, by simp, by simp [cntL]⟩
 ·rintro ⟨i, q⟩ ee3 ⟨hi, hq⟩
  simp only [List.cons_append, List.nil_append]
  dsimp only at hi hq
  refine den_seq ?_
  refine den_seq ?_
  refine den_region TTok ?_
  intro K hK
  simp -implicitDefEqProofs (disch := first | decide | assumption | omega) only [go_sem, RdS.len hv sl56, RdS.idx hv sl56, RdS.cellB hv (HPres.refl _), RdS.cells hv, wrap_id]
  refine hK _ _ ?_
  clear hK K
  refine den_cond rfl (fun c0 => ?_) (fun c0 => ?_)
  ·try simp only [decide_eq_true_eq, decide_eq_false_iff_not, beq_iff_eq, beq_eq_false_iff_ne, bne_iff_ne, ne_eq, Bool.not_eq_true', Bool.not_eq_false', Bool.and_eq_true, Bool.or_eq_true, bne_eq_false_iff_eq] at c0
   refine den_skip ?_
   refine den_seq ?_
   refine den_block ?_
   refine den_seq ?_
   have hct := cntL_take (ct := cnt2) R i (by omega)
   have hcl := cntL_le cnt2_nn R (i + 1)
   have hcn := cnt2_nn (R.getD i default)
   have hcn2 := cntL_nonneg cnt2_nn (R.take i)
   refine den_region TTok ?_
   intro K hK
   have hr4 := RdS.rowN hv i (by omega)
   have hlhr4 := RdS.le hr4
   simp -implicitDefEqProofs (disch := first | decide | assumption | omega) only [go_sem, ld59, RdS.len hv sl56, RdS.idx hv sl56, RdS.cellB hv (HPres.refl _), RdS.cells hv, RdS.len hr4 sl59, RdS.idx hr4 sl59, RdS.cellB hr4 (HPres.refl _), RdS.cells hr4, wrap_id]
   try simp -implicitDefEqProofs (disch := first | decide | assumption | omega) only [go_sem, RdS.len hv sl56, RdS.idx hv sl56, RdS.cellB hv (HPres.refl _), RdS.cells hv, RdS.len hr4 sl59, RdS.idx hr4 sl59, RdS.cellB hr4 (HPres.refl _), RdS.cells hr4, wrap_id]
   have hr := RdS.rowN hv i (by omega)
   rw [markL_get R k i (by omega), ← hq] at hr
   refine CallA.pure (heldSS_ok _ _ q _ hr (by have := cnt2_nn (R.getD i default); simp only [cnt2] at *; omega)) ?_
   try simp -implicitDefEqProofs (disch := first | decide | assumption | omega) only [go_sem, RdS.len hv sl56, RdS.idx hv sl56, RdS.cellB hv (HPres.refl _), RdS.cells hv, RdS.len hr4 sl59, RdS.idx hr4 sl59, RdS.cellB hr4 (HPres.refl _), RdS.cells hr4, wrap_id]
   refine hK _ _ ?_
   clear hK K
   refine den_seq ?_
   refine den_region TTok ?_
   intro K hK
   simp -implicitDefEqProofs (disch := first | decide | assumption | omega) only [go_sem, RdS.len hv sl56, RdS.idx hv sl56, RdS.cellB hv (HPres.refl _), RdS.cells hv, RdS.len hr4 sl59, RdS.idx hr4 sl59, RdS.cellB hr4 (HPres.refl _), RdS.cells hr4, wrap_id]
   refine hK _ _ ?_
   clear hK K
   refine den_cond rfl (fun c1 => ?_) (fun c1 => ?_)
   ·try simp only [decide_eq_true_eq, decide_eq_false_iff_not, beq_iff_eq, beq_eq_false_iff_ne, bne_iff_ne, ne_eq, Bool.not_eq_true', Bool.not_eq_false', Bool.and_eq_true, Bool.or_eq_true, bne_eq_false_iff_eq] at c1
    refine den_seq ?_
    refine den_region TTok ?_
    intro K hK
    simp -implicitDefEqProofs (disch := first | decide | assumption | omega) only [go_sem, RdS.len hv sl56, RdS.idx hv sl56, RdS.cellB hv (HPres.refl _), RdS.cells hv, RdS.len hr4 sl59, RdS.idx hr4 sl59, RdS.cellB hr4 (HPres.refl _), RdS.cells hr4, wrap_id]
    refine hK _ _ ?_
    clear hK K
    refine den_ret ?_
    simp (disch := decide) only [resP_1, puts_same, puts_ne]
    exact absurd c1 (by have e : cntL cnt1 (R.getD i default) = cnt2 (R.getD i default) := rfl; omega)
   ·try simp only [decide_eq_true_eq, decide_eq_false_iff_not, beq_iff_eq, beq_eq_false_iff_ne, bne_iff_ne, ne_eq, Bool.not_eq_true', Bool.not_eq_false', Bool.and_eq_true, Bool.or_eq_true, bne_eq_false_iff_eq] at c1
    refine den_skip ?_
    refine den_blk ?_
    refine den_region TTok ?_
    intro K hK
    simp -implicitDefEqProofs (disch := first | decide | assumption | omega) only [go_sem, RdS.len hv sl56, RdS.idx hv sl56, RdS.cellB hv (HPres.refl _), RdS.cells hv, RdS.len hr4 sl59, RdS.idx hr4 sl59, RdS.cellB hr4 (HPres.refl _), RdS.cells hr4, wrap_id]
    refine hK _ _ ?_
    clear hK K
    refine den_stop ?_
    exact ⟨(i + 1, q + cnt2 (R.getD i default)), by simp [HasL, puts_at], ⟨rfl, by dsimp only; omega, by dsimp only; omega⟩, by dsimp only; omega⟩
  ·try simp only [decide_eq_true_eq, decide_eq_false_iff_not, beq_iff_eq, beq_eq_false_iff_ne, bne_iff_ne, ne_eq, Bool.not_eq_true', Bool.not_eq_false', Bool.and_eq_true, Bool.or_eq_true, bne_eq_false_iff_eq] at c0
   refine den_exit ?_
   refine denX_code ?_
   refine denX_stop ?_
   refine denX_hit ?_
   refine den_seq ?_
   refine den_region TTok ?_
   intro K hK
   simp -implicitDefEqProofs (disch := first | decide | assumption | omega) only [go_sem, RdS.len hv sl56, RdS.idx hv sl56, RdS.cellB hv (HPres.refl _), RdS.cells hv, wrap_id]
   refine hK _ _ ?_
   clear hK K
   refine den_ret ?_
   simp (disch := decide) only [resP_1, puts_same, puts_ne]
   have ht : R.take i = R := List.take_of_length_le (by omega)
   rw [ht] at hq
   exact ⟨vint hq, trivial⟩
end Go.Proofs.Ytacajcjibhifmaa

namespace Go.Proofs.Ytacajcjibhifmaa
open Go
/-- A list whose elements count at most c each. -/
theorem cntL_bnd {α : Type} {ct : α → Int} {c : Int} (hc : 0 ≤ c) : ∀ {xs : List α} {m : Nat}, (∀ x ∈ xs, 0 ≤ ct x ∧ ct x ≤ c) → xs.length ≤ m → 0 ≤ cntL ct xs ∧ cntL ct xs ≤ m * c
 | [], m, _, _ => ⟨Int.le_refl _, Int.mul_nonneg (by omega) hc⟩
 | x :: r, m, h, hm => by
  have h1 := h x (by simp)
  simp only [List.length_cons] at hm
  obtain ⟨m', rfl⟩ : ∃ m', m = m' + 1 := ⟨m - 1, by omega⟩
  have h2 := cntL_bnd hc (xs := r) (m := m') (fun y hy => h y (List.mem_cons_of_mem _ hy)) (by omega)
  have e : ((m' + 1 : Nat) : Int) * c = (m' : Int) * c + c := by rw [Int.natCast_add, Int.add_mul]; simp
  rw [cntL, e]; omega

set_option maxRecDepth 100000 in
theorem markCx_ok (vd vm : Value) (X : Cx) (k : Int) (f1 f2 : List Nat) (h : Heap) (hod : O1 h vd X.dims f1) (hom : O3 h vm X.maps f2) (hf : (f1 ++ f2).Nodup) (hk : 0 ≤ k ∧ 0 ≤ cnt1 X.dims ∧ 0 ≤ cntL cnt2 X.maps ∧ k + cnt1 X.dims + cntL cnt2 X.maps ≤ 4611686018427387904) : CallA Try.prog 75 #[.agg #[.int .i64 X.p, vd, vm], .int .i64 k] h fun u h' => u = .int .i64 (k + cnt1 X.dims + cntL cnt2 X.maps) ∧ O1 h' vd (markI X.dims k) f1 ∧ O3 h' vm (mark3 X.maps (k + cnt1 X.dims)) f2 ∧ Chg (f1 ++ f2) h h' := by
 have hl1 := OS.lt hod
 have hn1 := (List.nodup_append.1 hf).1
 have hn2 := (List.nodup_append.1 hf).2.1
 have hap : ∀ b ∈ f2, b ∉ f1 := fun b hb hm => (List.nodup_append.1 hf).2.2 b hm b hb rfl
 refine callA_intro TTok (args := [_, _]) Try.func75 (by kernel_rfl) rfl 14 rfl (by simp) [.tmp 4] rfl ?_
 simp only [idxs, Nat.reduceAdd]
 refine den_seq ?_
 refine den_region TTok ?_
 intro K hK
 simp -implicitDefEqProofs (disch := first | decide | assumption | omega) only [go_sem, RdS.len (OS.rd hod) sl55, RdS.idx (OS.rd hod) sl55, R1.intN (OS.rd hod), RdS.cells (OS.rd hod), RdS.len (OS.rd hom) sl56, RdS.idx (OS.rd hom) sl56, RdS.cellN (OS.rd hom), RdS.cells (OS.rd hom)]
 refine op_box (cs := #[.int .i64 (X.p), vd, vm]) rfl ?_
 intro h0_0 e0_0 hb0_0 z0_0
 replace hod := OS.ext hod e0_0
 replace hom := OS.ext hom e0_0
 have := Ext.size e0_0
 have eB := e0_0
 try simp -implicitDefEqProofs (disch := first | decide | assumption | omega) only [go_sem, RdS.len (OS.rd hod) sl55, RdS.idx (OS.rd hod) sl55, R1.intN (OS.rd hod), RdS.cells (OS.rd hod), RdS.len (OS.rd hom) sl56, RdS.idx (OS.rd hom) sl56, RdS.cellN (OS.rd hom), RdS.cells (OS.rd hom), BoxAt.cell hb0_0]
 refine hK _ _ ?_
 clear hK K
 refine den_seq ?_
 refine den_region TTok ?_
 intro K hK
 simp -implicitDefEqProofs (disch := first | decide | assumption | omega) only [go_sem, fa58_1, ld55, RdS.len (OS.rd hod) sl55, RdS.idx (OS.rd hod) sl55, R1.intN (OS.rd hod), RdS.cells (OS.rd hod), RdS.len (OS.rd hom) sl56, RdS.idx (OS.rd hom) sl56, RdS.cellN (OS.rd hom), RdS.cells (OS.rd hom), BoxAt.cell hb0_0]
 try simp -implicitDefEqProofs (disch := first | decide | assumption | omega) only [go_sem, RdS.len (OS.rd hod) sl55, RdS.idx (OS.rd hod) sl55, R1.intN (OS.rd hod), RdS.cells (OS.rd hod), RdS.len (OS.rd hom) sl56, RdS.idx (OS.rd hom) sl56, RdS.cellN (OS.rd hom), RdS.cells (OS.rd hom), BoxAt.cell hb0_0]
 refine CallA.mono (markS_ok _ _ k _ _ hod hn1 (by omega)) ?_
 intro v_ h1_3
 rintro ⟨rfl, hod2, c1⟩
 replace hom := OS.chg hom c1 hap
 replace hb0_0 := BoxAt.chg hb0_0 c1 (fun hm => by have := hl1 _ hm; omega)
 try simp -implicitDefEqProofs (disch := first | decide | assumption | omega) only [go_sem, RdS.len (OS.rd hod) sl55, RdS.idx (OS.rd hod) sl55, R1.intN (OS.rd hod), RdS.cells (OS.rd hod), RdS.len (OS.rd hom) sl56, RdS.idx (OS.rd hom) sl56, RdS.cellN (OS.rd hom), RdS.cells (OS.rd hom), BoxAt.cell hb0_0]
 refine hK _ _ ?_
 clear hK K
 refine den_seq ?_
 refine den_region TTok ?_
 intro K hK
 simp -implicitDefEqProofs (disch := first | decide | assumption | omega) only [go_sem, fa58_2, ld56, RdS.len (OS.rd hod) sl55, RdS.idx (OS.rd hod) sl55, R1.intN (OS.rd hod), RdS.cells (OS.rd hod), RdS.len (OS.rd hom) sl56, RdS.idx (OS.rd hom) sl56, RdS.cellN (OS.rd hom), RdS.cells (OS.rd hom), BoxAt.cell hb0_0]
 try simp -implicitDefEqProofs (disch := first | decide | assumption | omega) only [go_sem, RdS.len (OS.rd hod) sl55, RdS.idx (OS.rd hod) sl55, R1.intN (OS.rd hod), RdS.cells (OS.rd hod), RdS.len (OS.rd hom) sl56, RdS.idx (OS.rd hom) sl56, RdS.cellN (OS.rd hom), RdS.cells (OS.rd hom), BoxAt.cell hb0_0]
 refine CallA.mono (markSSS_ok _ _ (k + cnt1 X.dims) _ _ hom hn2 (by omega)) ?_
 intro v_ h2_3
 rintro ⟨rfl, hom2, c2⟩
 try simp -implicitDefEqProofs (disch := first | decide | assumption | omega) only [go_sem, RdS.len (OS.rd hod) sl55, RdS.idx (OS.rd hod) sl55, R1.intN (OS.rd hod), RdS.cells (OS.rd hod), RdS.len (OS.rd hom) sl56, RdS.idx (OS.rd hom) sl56, RdS.cellN (OS.rd hom), RdS.cells (OS.rd hom), BoxAt.cell hb0_0]
 refine hK _ _ ?_
 clear hK K
 refine den_seq ?_
 refine den_region TTok ?_
 intro K hK
 simp -implicitDefEqProofs (disch := first | decide | assumption | omega) only [go_sem, RdS.len (OS.rd hod) sl55, RdS.idx (OS.rd hod) sl55, R1.intN (OS.rd hod), RdS.cells (OS.rd hod), RdS.len (OS.rd hom) sl56, RdS.idx (OS.rd hom) sl56, RdS.cellN (OS.rd hom), RdS.cells (OS.rd hom), BoxAt.cell hb0_0]
 refine hK _ _ ?_
 clear hK K
 refine den_ret ?_
 simp (disch := decide) only [resP_1, puts_same, puts_ne]
 exact ⟨by first | rfl | trivial, OS.chg hod2 c2 (Apart.symm hap), hom2, ((eB.chg _).trans (c1.mono (fun b hb => List.mem_append_left _ hb))).trans (c2.mono (fun b hb => List.mem_append_right _ hb))⟩

set_option maxRecDepth 100000 in
theorem heldCx_ok (vd vm : Value) (X : Cx) (k : Int) (h : Heap) (hd : R1 h vd (markI X.dims k)) (hm : R3 h vm (mark3 X.maps (k + cnt1 X.dims))) (hk : 0 ≤ k ∧ 0 ≤ cnt1 X.dims ∧ 0 ≤ cntL cnt2 X.maps ∧ k + cnt1 X.dims + cntL cnt2 X.maps ≤ 4611686018427387904) : CallA Try.prog 77 #[.agg #[.int .i64 X.p, vd, vm], .int .i64 k] h fun u h' => u = .int .i64 (k + cnt1 X.dims + cntL cnt2 X.maps) ∧ Ext h h' := by
 refine callA_intro TTok (args := [_, _]) Try.func77 (by kernel_rfl) rfl 18 rfl (by simp) [.tmp 4] rfl ?_
 simp only [idxs, Nat.reduceAdd]
 refine den_seq ?_
 refine den_region TTok ?_
 intro K hK
 simp -implicitDefEqProofs (disch := first | decide | assumption | omega) only [go_sem, RdS.len hd sl55, RdS.idx hd sl55, R1.intB hd (HPres.refl _), RdS.cells hd, RdS.len hm sl56, RdS.idx hm sl56, RdS.cellB hm (HPres.refl _), RdS.cells hm]
 refine op_box (cs := #[.int .i64 (X.p), vd, vm]) rfl ?_
 intro h0_0 e0_0 hb0_0 z0_0
 replace hd := RdS.pres hd (Ext.pres e0_0)
 replace hm := RdS.pres hm (Ext.pres e0_0)
 try simp -implicitDefEqProofs (disch := first | decide | assumption | omega) only [go_sem, RdS.len hd sl55, RdS.idx hd sl55, R1.intB hd (HPres.refl _), RdS.cells hd, RdS.len hm sl56, RdS.idx hm sl56, RdS.cellB hm (HPres.refl _), RdS.cells hm, BoxAt.cell hb0_0]
 refine hK _ _ ?_
 clear hK K
 refine den_seq ?_
 refine den_region TTok ?_
 intro K hK
 simp -implicitDefEqProofs (disch := first | decide | assumption | omega) only [go_sem, fa58_1, ld55, RdS.len hd sl55, RdS.idx hd sl55, R1.intB hd (HPres.refl _), RdS.cells hd, RdS.len hm sl56, RdS.idx hm sl56, RdS.cellB hm (HPres.refl _), RdS.cells hm, BoxAt.cell hb0_0]
 try simp -implicitDefEqProofs (disch := first | decide | assumption | omega) only [go_sem, RdS.len hd sl55, RdS.idx hd sl55, R1.intB hd (HPres.refl _), RdS.cells hd, RdS.len hm sl56, RdS.idx hm sl56, RdS.cellB hm (HPres.refl _), RdS.cells hm, BoxAt.cell hb0_0]
 refine CallA.pure (heldS_ok _ X.dims k _ hd (by omega)) ?_
 try simp -implicitDefEqProofs (disch := first | decide | assumption | omega) only [go_sem, RdS.len hd sl55, RdS.idx hd sl55, R1.intB hd (HPres.refl _), RdS.cells hd, RdS.len hm sl56, RdS.idx hm sl56, RdS.cellB hm (HPres.refl _), RdS.cells hm, BoxAt.cell hb0_0]
 refine hK _ _ ?_
 clear hK K
 refine den_seq ?_
 refine den_seq ?_
 refine den_region TTok ?_
 intro K hK
 simp -implicitDefEqProofs (disch := first | decide | assumption | omega) only [go_sem, RdS.len hd sl55, RdS.idx hd sl55, R1.intB hd (HPres.refl _), RdS.cells hd, RdS.len hm sl56, RdS.idx hm sl56, RdS.cellB hm (HPres.refl _), RdS.cells hm, BoxAt.cell hb0_0]
 refine hK _ _ ?_
 clear hK K
 refine den_cond rfl (fun c0 => ?_) (fun c0 => ?_)
 ·try simp only [decide_eq_true_eq, decide_eq_false_iff_not, beq_iff_eq, beq_eq_false_iff_ne, bne_iff_ne, ne_eq, Bool.not_eq_true', Bool.not_eq_false', Bool.and_eq_true, Bool.or_eq_true, bne_eq_false_iff_eq] at c0
  refine den_seq ?_
  refine den_region TTok ?_
  intro K hK
  simp -implicitDefEqProofs (disch := first | decide | assumption | omega) only [go_sem, RdS.len hd sl55, RdS.idx hd sl55, R1.intB hd (HPres.refl _), RdS.cells hd, RdS.len hm sl56, RdS.idx hm sl56, RdS.cellB hm (HPres.refl _), RdS.cells hm, BoxAt.cell hb0_0]
  refine hK _ _ ?_
  clear hK K
  refine den_ret ?_
  simp (disch := decide) only [resP_1, puts_same, puts_ne]
  exact absurd c0 (by omega)
 ·try simp only [decide_eq_true_eq, decide_eq_false_iff_not, beq_iff_eq, beq_eq_false_iff_ne, bne_iff_ne, ne_eq, Bool.not_eq_true', Bool.not_eq_false', Bool.and_eq_true, Bool.or_eq_true, bne_eq_false_iff_eq] at c0
  refine den_skip ?_
  refine den_seq ?_
  refine den_region TTok ?_
  intro K hK
  simp -implicitDefEqProofs (disch := first | decide | assumption | omega) only [go_sem, fa58_2, ld56, RdS.len hd sl55, RdS.idx hd sl55, R1.intB hd (HPres.refl _), RdS.cells hd, RdS.len hm sl56, RdS.idx hm sl56, RdS.cellB hm (HPres.refl _), RdS.cells hm, BoxAt.cell hb0_0]
  try simp -implicitDefEqProofs (disch := first | decide | assumption | omega) only [go_sem, RdS.len hd sl55, RdS.idx hd sl55, R1.intB hd (HPres.refl _), RdS.cells hd, RdS.len hm sl56, RdS.idx hm sl56, RdS.cellB hm (HPres.refl _), RdS.cells hm, BoxAt.cell hb0_0]
  refine CallA.pure (heldSSS_ok _ X.maps (k + cnt1 X.dims) _ hm (by omega)) ?_
  try simp -implicitDefEqProofs (disch := first | decide | assumption | omega) only [go_sem, RdS.len hd sl55, RdS.idx hd sl55, R1.intB hd (HPres.refl _), RdS.cells hd, RdS.len hm sl56, RdS.idx hm sl56, RdS.cellB hm (HPres.refl _), RdS.cells hm, BoxAt.cell hb0_0]
  refine hK _ _ ?_
  clear hK K
  refine den_seq ?_
  refine den_seq ?_
  refine den_region TTok ?_
  intro K hK
  simp -implicitDefEqProofs (disch := first | decide | assumption | omega) only [go_sem, RdS.len hd sl55, RdS.idx hd sl55, R1.intB hd (HPres.refl _), RdS.cells hd, RdS.len hm sl56, RdS.idx hm sl56, RdS.cellB hm (HPres.refl _), RdS.cells hm, BoxAt.cell hb0_0]
  refine hK _ _ ?_
  clear hK K
  refine den_cond rfl (fun c1 => ?_) (fun c1 => ?_)
  ·try simp only [decide_eq_true_eq, decide_eq_false_iff_not, beq_iff_eq, beq_eq_false_iff_ne, bne_iff_ne, ne_eq, Bool.not_eq_true', Bool.not_eq_false', Bool.and_eq_true, Bool.or_eq_true, bne_eq_false_iff_eq] at c1
   refine den_seq ?_
   refine den_region TTok ?_
   intro K hK
   simp -implicitDefEqProofs (disch := first | decide | assumption | omega) only [go_sem, RdS.len hd sl55, RdS.idx hd sl55, R1.intB hd (HPres.refl _), RdS.cells hd, RdS.len hm sl56, RdS.idx hm sl56, RdS.cellB hm (HPres.refl _), RdS.cells hm, BoxAt.cell hb0_0]
   refine hK _ _ ?_
   clear hK K
   refine den_ret ?_
   simp (disch := decide) only [resP_1, puts_same, puts_ne]
   exact absurd c1 (by omega)
  ·try simp only [decide_eq_true_eq, decide_eq_false_iff_not, beq_iff_eq, beq_eq_false_iff_ne, bne_iff_ne, ne_eq, Bool.not_eq_true', Bool.not_eq_false', Bool.and_eq_true, Bool.or_eq_true, bne_eq_false_iff_eq] at c1
   refine den_skip ?_
   refine den_seq ?_
   refine den_region TTok ?_
   intro K hK
   simp -implicitDefEqProofs (disch := first | decide | assumption | omega) only [go_sem, RdS.len hd sl55, RdS.idx hd sl55, R1.intB hd (HPres.refl _), RdS.cells hd, RdS.len hm sl56, RdS.idx hm sl56, RdS.cellB hm (HPres.refl _), RdS.cells hm, BoxAt.cell hb0_0]
   refine hK _ _ ?_
   clear hK K
   refine den_ret ?_
   simp (disch := decide) only [resP_1, puts_same, puts_ne]
   exact ⟨by first | rfl | trivial, e0_0⟩

theorem eqSS_same (v w : Value) (xs : List (List Int)) (h : Heap) (hv : R2 h v xs) (hw : R2 h w xs) : CallA Try.prog 74 #[v, w] h fun u h' => u = .bool true ∧ h' = h := (eqSS_ok v w xs xs h hv hw).mono fun u h' e => ⟨by rw [e.1]; simp, e.2⟩
theorem eqC_same (v w : Value) (X : Cx) (h : Heap) (hv : RC h v X) (hw : RC h w X) : CallA Try.prog 73 #[v, w] h fun u h' => u = .bool true ∧ Ext h h' := (eqC_ok v w X X h hv hw).mono fun u h' e => ⟨by rw [e.1, eqC_self], e.2⟩
end Go.Proofs.Ytacajcjibhifmaa

namespace Go.Proofs.Ytacajcjibhifmaa
open Go
/-- A filtered complex, as data. -/
structure Fl where
 c : Cx
 lv : List (List Int)
def RF (h : Heap) (v : Value) (X : Fl) : Prop := ∃ vd vm vl, v = .agg #[.int .i64 X.c.p, vd, vm, vl] ∧ R1 h vd X.c.dims ∧ R3 h vm X.c.maps ∧ R2 h vl X.lv
instance : Mono RF := ⟨fun hp ⟨vd, vm, vl, e, h1, h2, h3⟩ => ⟨vd, vm, vl, e, h1.pres hp, h2.pres hp, h3.pres hp⟩⟩
theorem RF.pres {h h' : Heap} {v : Value} {X : Fl} (hv : RF h v X) (hp : HPres h h') : RF h' v X := Mono.mono hp hv
theorem Apart.lft {fp f1 f2 : List Nat} (h : Apart fp (f1 ++ f2)) : Apart fp f1 := fun b hb hq => h b hb (List.mem_append_left _ hq)
theorem Apart.rgt {fp f1 f2 : List Nat} (h : Apart fp (f1 ++ f2)) : Apart fp f2 := fun b hb hq => h b hb (List.mem_append_right _ hq)
structure HMF (X : Fl) : Prop where
 c : HMC X.c
 lv : HM2 X.lv
set_option maxRecDepth 100000 in
theorem eqF_same (v w : Value) (X : Fl) (h : Heap) (rX : RF h v X) (rY : RF h w X) : CallA Try.prog 29 #[v, w] h fun u h' => u = .bool true ∧ Ext h h' := by
 obtain ⟨vdX, vmX, vvX, rfl, hdX, hmX, hvX⟩ := rX
 obtain ⟨vdY, vmY, vvY, rfl, hdY, hmY, hvY⟩ := rY
 refine callA_intro TTok (args := [_, _]) Try.func29 (by kernel_rfl) rfl 17 rfl (by simp) [.tmp 4] rfl ?_
 simp only [idxs, Nat.reduceAdd]
 refine den_seq ?_
 refine den_region TTok ?_
 intro K hK
 simp -implicitDefEqProofs (disch := first | decide | assumption | omega) only [go_sem, RdS.len hdX sl55, RdS.idx hdX sl55, R1.intB hdX (HPres.refl _), RdS.cells hdX, RdS.len hmX sl56, RdS.idx hmX sl56, RdS.cellB hmX (HPres.refl _), RdS.cells hmX, RdS.len hvX sl59, RdS.idx hvX sl59, RdS.cellB hvX (HPres.refl _), RdS.cells hvX, RdS.len hdY sl55, RdS.idx hdY sl55, R1.intB hdY (HPres.refl _), RdS.cells hdY, RdS.len hmY sl56, RdS.idx hmY sl56, RdS.cellB hmY (HPres.refl _), RdS.cells hmY, RdS.len hvY sl59, RdS.idx hvY sl59, RdS.cellB hvY (HPres.refl _), RdS.cells hvY, wrap_id]
 refine op_box (cs := #[.int .i64 (X.c.p), vdX, vmX, vvX]) rfl ?_
 intro h0_0 e0_0 hb0_0 z0_0
 have := Ext.size e0_0
 have eB := e0_0
 have hfhb0_0 : Fresh h.size [h.size] := Fresh.one _
 have hlhb0_0 := one_lt (show h.size < h0_0.size by omega)
 try simp -implicitDefEqProofs (disch := first | decide | assumption | omega) only [go_sem, RdS.len hdX sl55, RdS.idx hdX sl55, R1.intB hdX (Ext.pres eB), RdS.cells hdX, RdS.len hmX sl56, RdS.idx hmX sl56, RdS.cellB hmX (Ext.pres eB), RdS.cells hmX, RdS.len hvX sl59, RdS.idx hvX sl59, RdS.cellB hvX (Ext.pres eB), RdS.cells hvX, RdS.len hdY sl55, RdS.idx hdY sl55, R1.intB hdY (Ext.pres eB), RdS.cells hdY, RdS.len hmY sl56, RdS.idx hmY sl56, RdS.cellB hmY (Ext.pres eB), RdS.cells hmY, RdS.len hvY sl59, RdS.idx hvY sl59, RdS.cellB hvY (Ext.pres eB), RdS.cells hvY, BoxAt.cell hb0_0, wrap_id]
 refine op_box (cs := #[.int .i64 (X.c.p), vdY, vmY, vvY]) rfl ?_
 intro h0_1 e0_1 hb0_1 z0_1
 replace hb0_0 := BoxAt.ext hb0_0 e0_1
 have := Ext.size e0_1
 replace eB := Ext.trans eB e0_1
 have hfhb0_1 : Fresh h0_0.size [h0_0.size] := Fresh.one _
 have hlhb0_1 := one_lt (show h0_0.size < h0_1.size by omega)
 try simp -implicitDefEqProofs (disch := first | decide | assumption | omega) only [go_sem, RdS.len hdX sl55, RdS.idx hdX sl55, R1.intB hdX (Ext.pres eB), RdS.cells hdX, RdS.len hmX sl56, RdS.idx hmX sl56, RdS.cellB hmX (Ext.pres eB), RdS.cells hmX, RdS.len hvX sl59, RdS.idx hvX sl59, RdS.cellB hvX (Ext.pres eB), RdS.cells hvX, RdS.len hdY sl55, RdS.idx hdY sl55, R1.intB hdY (Ext.pres eB), RdS.cells hdY, RdS.len hmY sl56, RdS.idx hmY sl56, RdS.cellB hmY (Ext.pres eB), RdS.cells hmY, RdS.len hvY sl59, RdS.idx hvY sl59, RdS.cellB hvY (Ext.pres eB), RdS.cells hvY, BoxAt.cell hb0_0, BoxAt.cell hb0_1, wrap_id]
 refine hK _ _ ?_
 clear hK K
 refine den_seq ?_
 refine den_seq ?_
 refine den_region TTok ?_
 intro K hK
 simp -implicitDefEqProofs (disch := first | decide | assumption | omega) only [go_sem, fa61_0, ld58, RdS.len hdX sl55, RdS.idx hdX sl55, R1.intB hdX (Ext.pres eB), RdS.cells hdX, RdS.len hmX sl56, RdS.idx hmX sl56, RdS.cellB hmX (Ext.pres eB), RdS.cells hmX, RdS.len hvX sl59, RdS.idx hvX sl59, RdS.cellB hvX (Ext.pres eB), RdS.cells hvX, RdS.len hdY sl55, RdS.idx hdY sl55, R1.intB hdY (Ext.pres eB), RdS.cells hdY, RdS.len hmY sl56, RdS.idx hmY sl56, RdS.cellB hmY (Ext.pres eB), RdS.cells hmY, RdS.len hvY sl59, RdS.idx hvY sl59, RdS.cellB hvY (Ext.pres eB), RdS.cells hvY, BoxAt.cell hb0_0, BoxAt.cell hb0_1, wrap_id]
 try simp -implicitDefEqProofs (disch := first | decide | assumption | omega) only [go_sem, RdS.len hdX sl55, RdS.idx hdX sl55, R1.intB hdX (Ext.pres eB), RdS.cells hdX, RdS.len hmX sl56, RdS.idx hmX sl56, RdS.cellB hmX (Ext.pres eB), RdS.cells hmX, RdS.len hvX sl59, RdS.idx hvX sl59, RdS.cellB hvX (Ext.pres eB), RdS.cells hvX, RdS.len hdY sl55, RdS.idx hdY sl55, R1.intB hdY (Ext.pres eB), RdS.cells hdY, RdS.len hmY sl56, RdS.idx hmY sl56, RdS.cellB hmY (Ext.pres eB), RdS.cells hmY, RdS.len hvY sl59, RdS.idx hvY sl59, RdS.cellB hvY (Ext.pres eB), RdS.cells hvY, BoxAt.cell hb0_0, BoxAt.cell hb0_1, wrap_id]
 refine CallA.mono (eqC_same _ _ X.c _ ⟨_, _, rfl, (RdS.pres hdX (Ext.pres eB)), (RdS.pres hmX (Ext.pres eB))⟩ ⟨_, _, rfl, (RdS.pres hdY (Ext.pres eB)), (RdS.pres hmY (Ext.pres eB))⟩) ?_
 intro v_ h1_4
 rintro ⟨rfl, e1_4⟩
 replace hb0_0 := BoxAt.ext hb0_0 e1_4
 replace hb0_1 := BoxAt.ext hb0_1 e1_4
 have := Ext.size e1_4
 replace eB := Ext.trans eB e1_4
 try simp -implicitDefEqProofs (disch := first | decide | assumption | omega) only [go_sem, RdS.len hdX sl55, RdS.idx hdX sl55, R1.intB hdX (Ext.pres eB), RdS.cells hdX, RdS.len hmX sl56, RdS.idx hmX sl56, RdS.cellB hmX (Ext.pres eB), RdS.cells hmX, RdS.len hvX sl59, RdS.idx hvX sl59, RdS.cellB hvX (Ext.pres eB), RdS.cells hvX, RdS.len hdY sl55, RdS.idx hdY sl55, R1.intB hdY (Ext.pres eB), RdS.cells hdY, RdS.len hmY sl56, RdS.idx hmY sl56, RdS.cellB hmY (Ext.pres eB), RdS.cells hmY, RdS.len hvY sl59, RdS.idx hvY sl59, RdS.cellB hvY (Ext.pres eB), RdS.cells hvY, BoxAt.cell hb0_0, BoxAt.cell hb0_1, wrap_id]
 refine hK _ _ ?_
 clear hK K
 refine den_cond rfl (fun c0 => ?_) (fun c0 => ?_)
 ·try simp only [decide_eq_true_eq, decide_eq_false_iff_not, beq_iff_eq, beq_eq_false_iff_ne, bne_iff_ne, ne_eq, Bool.not_eq_true', Bool.not_eq_false', Bool.and_eq_true, Bool.or_eq_true, bne_eq_false_iff_eq] at c0
  refine den_seq ?_
  refine den_region TTok ?_
  intro K hK
  simp -implicitDefEqProofs (disch := first | decide | assumption | omega) only [go_sem, RdS.len hdX sl55, RdS.idx hdX sl55, R1.intB hdX (Ext.pres eB), RdS.cells hdX, RdS.len hmX sl56, RdS.idx hmX sl56, RdS.cellB hmX (Ext.pres eB), RdS.cells hmX, RdS.len hvX sl59, RdS.idx hvX sl59, RdS.cellB hvX (Ext.pres eB), RdS.cells hvX, RdS.len hdY sl55, RdS.idx hdY sl55, R1.intB hdY (Ext.pres eB), RdS.cells hdY, RdS.len hmY sl56, RdS.idx hmY sl56, RdS.cellB hmY (Ext.pres eB), RdS.cells hmY, RdS.len hvY sl59, RdS.idx hvY sl59, RdS.cellB hvY (Ext.pres eB), RdS.cells hvY, wrap_id]
  refine hK _ _ ?_
  clear hK K
  refine den_ret ?_
  simp (disch := decide) only [resP_1, puts_same, puts_ne]
  exact absurd c0 (by simp)
 ·try simp only [decide_eq_true_eq, decide_eq_false_iff_not, beq_iff_eq, beq_eq_false_iff_ne, bne_iff_ne, ne_eq, Bool.not_eq_true', Bool.not_eq_false', Bool.and_eq_true, Bool.or_eq_true, bne_eq_false_iff_eq] at c0
  refine den_skip ?_
  refine den_seq ?_
  refine den_seq ?_
  refine den_region TTok ?_
  intro K hK
  simp -implicitDefEqProofs (disch := first | decide | assumption | omega) only [go_sem, fa61_1, ld59, RdS.len hdX sl55, RdS.idx hdX sl55, R1.intB hdX (Ext.pres eB), RdS.cells hdX, RdS.len hmX sl56, RdS.idx hmX sl56, RdS.cellB hmX (Ext.pres eB), RdS.cells hmX, RdS.len hvX sl59, RdS.idx hvX sl59, RdS.cellB hvX (Ext.pres eB), RdS.cells hvX, RdS.len hdY sl55, RdS.idx hdY sl55, R1.intB hdY (Ext.pres eB), RdS.cells hdY, RdS.len hmY sl56, RdS.idx hmY sl56, RdS.cellB hmY (Ext.pres eB), RdS.cells hmY, RdS.len hvY sl59, RdS.idx hvY sl59, RdS.cellB hvY (Ext.pres eB), RdS.cells hvY, BoxAt.cell hb0_0, BoxAt.cell hb0_1, wrap_id]
  try simp -implicitDefEqProofs (disch := first | decide | assumption | omega) only [go_sem, RdS.len hdX sl55, RdS.idx hdX sl55, R1.intB hdX (Ext.pres eB), RdS.cells hdX, RdS.len hmX sl56, RdS.idx hmX sl56, RdS.cellB hmX (Ext.pres eB), RdS.cells hmX, RdS.len hvX sl59, RdS.idx hvX sl59, RdS.cellB hvX (Ext.pres eB), RdS.cells hvX, RdS.len hdY sl55, RdS.idx hdY sl55, R1.intB hdY (Ext.pres eB), RdS.cells hdY, RdS.len hmY sl56, RdS.idx hmY sl56, RdS.cellB hmY (Ext.pres eB), RdS.cells hmY, RdS.len hvY sl59, RdS.idx hvY sl59, RdS.cellB hvY (Ext.pres eB), RdS.cells hvY, BoxAt.cell hb0_0, BoxAt.cell hb0_1, wrap_id]
  refine CallA.pure (eqSS_same _ _ _ _ (RdS.pres hvX (Ext.pres eB)) (RdS.pres hvY (Ext.pres eB))) ?_
  try simp -implicitDefEqProofs (disch := first | decide | assumption | omega) only [go_sem, RdS.len hdX sl55, RdS.idx hdX sl55, R1.intB hdX (Ext.pres eB), RdS.cells hdX, RdS.len hmX sl56, RdS.idx hmX sl56, RdS.cellB hmX (Ext.pres eB), RdS.cells hmX, RdS.len hvX sl59, RdS.idx hvX sl59, RdS.cellB hvX (Ext.pres eB), RdS.cells hvX, RdS.len hdY sl55, RdS.idx hdY sl55, R1.intB hdY (Ext.pres eB), RdS.cells hdY, RdS.len hmY sl56, RdS.idx hmY sl56, RdS.cellB hmY (Ext.pres eB), RdS.cells hmY, RdS.len hvY sl59, RdS.idx hvY sl59, RdS.cellB hvY (Ext.pres eB), RdS.cells hvY, BoxAt.cell hb0_0, BoxAt.cell hb0_1, wrap_id]
  refine hK _ _ ?_
  clear hK K
  refine den_cond rfl (fun c1 => ?_) (fun c1 => ?_)
  ·try simp only [decide_eq_true_eq, decide_eq_false_iff_not, beq_iff_eq, beq_eq_false_iff_ne, bne_iff_ne, ne_eq, Bool.not_eq_true', Bool.not_eq_false', Bool.and_eq_true, Bool.or_eq_true, bne_eq_false_iff_eq] at c1
   refine den_seq ?_
   refine den_region TTok ?_
   intro K hK
   simp -implicitDefEqProofs (disch := first | decide | assumption | omega) only [go_sem, RdS.len hdX sl55, RdS.idx hdX sl55, R1.intB hdX (Ext.pres eB), RdS.cells hdX, RdS.len hmX sl56, RdS.idx hmX sl56, RdS.cellB hmX (Ext.pres eB), RdS.cells hmX, RdS.len hvX sl59, RdS.idx hvX sl59, RdS.cellB hvX (Ext.pres eB), RdS.cells hvX, RdS.len hdY sl55, RdS.idx hdY sl55, R1.intB hdY (Ext.pres eB), RdS.cells hdY, RdS.len hmY sl56, RdS.idx hmY sl56, RdS.cellB hmY (Ext.pres eB), RdS.cells hmY, RdS.len hvY sl59, RdS.idx hvY sl59, RdS.cellB hvY (Ext.pres eB), RdS.cells hvY, wrap_id]
   refine hK _ _ ?_
   clear hK K
   refine den_ret ?_
   simp (disch := decide) only [resP_1, puts_same, puts_ne]
   exact absurd c1 (by simp)
  ·try simp only [decide_eq_true_eq, decide_eq_false_iff_not, beq_iff_eq, beq_eq_false_iff_ne, bne_iff_ne, ne_eq, Bool.not_eq_true', Bool.not_eq_false', Bool.and_eq_true, Bool.or_eq_true, bne_eq_false_iff_eq] at c1
   refine den_skip ?_
   refine den_seq ?_
   refine den_region TTok ?_
   intro K hK
   simp -implicitDefEqProofs (disch := first | decide | assumption | omega) only [go_sem, RdS.len hdX sl55, RdS.idx hdX sl55, R1.intB hdX (Ext.pres eB), RdS.cells hdX, RdS.len hmX sl56, RdS.idx hmX sl56, RdS.cellB hmX (Ext.pres eB), RdS.cells hmX, RdS.len hvX sl59, RdS.idx hvX sl59, RdS.cellB hvX (Ext.pres eB), RdS.cells hvX, RdS.len hdY sl55, RdS.idx hdY sl55, R1.intB hdY (Ext.pres eB), RdS.cells hdY, RdS.len hmY sl56, RdS.idx hmY sl56, RdS.cellB hmY (Ext.pres eB), RdS.cells hmY, RdS.len hvY sl59, RdS.idx hvY sl59, RdS.cellB hvY (Ext.pres eB), RdS.cells hvY, wrap_id]
   refine hK _ _ ?_
   clear hK K
   refine den_ret ?_
   simp (disch := decide) only [resP_1, puts_same, puts_ne]
   exact ⟨by first | rfl | trivial, eB⟩

set_option maxRecDepth 100000 in
theorem markF_ok (vd vm vv : Value) (X : Fl) (k : Int) (fd fm fv : List Nat) (h : Heap) (hod : O1 h vd X.c.dims fd) (hom : O3 h vm X.c.maps fm) (hov : O2 h vv X.lv fv) (hf : (fd ++ (fm ++ fv)).Nodup) (hk : 0 ≤ k ∧ 0 ≤ cnt1 X.c.dims ∧ 0 ≤ cntL cnt2 X.c.maps ∧ 0 ≤ cntL cnt1 X.lv ∧ k + cnt1 X.c.dims + cntL cnt2 X.c.maps + cntL cnt1 X.lv ≤ 4611686018427387904) : CallA Try.prog 30 #[.agg #[.int .i64 X.c.p, vd, vm, vv], .int .i64 k] h fun u h' => u = .int .i64 (k + cnt1 X.c.dims + cntL cnt2 X.c.maps + cntL cnt1 X.lv) ∧ O1 h' vd (markI X.c.dims (k)) fd ∧ O3 h' vm (mark3 X.c.maps (k + cnt1 X.c.dims)) fm ∧ O2 h' vv (mark2 X.lv (k + cnt1 X.c.dims + cntL cnt2 X.c.maps)) fv ∧ Chg (fd ++ (fm ++ fv)) h h' := by
 have hF : Fresh 0 (fd ++ (fm ++ fv)) := ⟨hf, fun _ _ => Nat.zero_le _⟩
 have hfd := hF.left
 have hFr0 := hF.right
 have hfm := hFr0.left
 have hfv := hFr0.right
 have ap_d_m := Apart.lft (apart_nodup hF)
 have ap_d_v := Apart.rgt (apart_nodup hF)
 have ap_m_v := apart_nodup hFr0
 have hld := OS.lt hod
 have hlm := OS.lt hom
 have hlv := OS.lt hov
 refine callA_intro TTok (args := [_, _]) Try.func30 (by kernel_rfl) rfl 14 rfl (by simp) [.tmp 4] rfl ?_
 simp only [idxs, Nat.reduceAdd]
 refine den_seq ?_
 refine den_region TTok ?_
 intro K hK
 simp -implicitDefEqProofs (disch := first | decide | assumption | omega) only [go_sem, RdS.len (OS.rd hod) sl55, RdS.idx (OS.rd hod) sl55, R1.intN (OS.rd hod), RdS.cells (OS.rd hod), RdS.len (OS.rd hom) sl56, RdS.idx (OS.rd hom) sl56, RdS.cellN (OS.rd hom), RdS.cells (OS.rd hom), RdS.len (OS.rd hov) sl59, RdS.idx (OS.rd hov) sl59, RdS.cellN (OS.rd hov), RdS.cells (OS.rd hov), wrap_id]
 refine op_box (cs := #[.int .i64 (X.c.p), vd, vm, vv]) rfl ?_
 intro h0_0 e0_0 hb0_0 z0_0
 replace hod := OS.ext hod e0_0
 replace hom := OS.ext hom e0_0
 replace hov := OS.ext hov e0_0
 have := Ext.size e0_0
 have eB := e0_0
 try simp -implicitDefEqProofs (disch := first | decide | assumption | omega) only [go_sem, RdS.len (OS.rd hod) sl55, RdS.idx (OS.rd hod) sl55, R1.intN (OS.rd hod), RdS.cells (OS.rd hod), RdS.len (OS.rd hom) sl56, RdS.idx (OS.rd hom) sl56, RdS.cellN (OS.rd hom), RdS.cells (OS.rd hom), RdS.len (OS.rd hov) sl59, RdS.idx (OS.rd hov) sl59, RdS.cellN (OS.rd hov), RdS.cells (OS.rd hov), BoxAt.cell hb0_0, wrap_id]
 refine hK _ _ ?_
 clear hK K
 refine den_seq ?_
 refine den_region TTok ?_
 intro K hK
 simp -implicitDefEqProofs (disch := first | decide | assumption | omega) only [go_sem, fa61_0, ld58, RdS.len (OS.rd hod) sl55, RdS.idx (OS.rd hod) sl55, R1.intN (OS.rd hod), RdS.cells (OS.rd hod), RdS.len (OS.rd hom) sl56, RdS.idx (OS.rd hom) sl56, RdS.cellN (OS.rd hom), RdS.cells (OS.rd hom), RdS.len (OS.rd hov) sl59, RdS.idx (OS.rd hov) sl59, RdS.cellN (OS.rd hov), RdS.cells (OS.rd hov), BoxAt.cell hb0_0, wrap_id]
 try simp -implicitDefEqProofs (disch := first | decide | assumption | omega) only [go_sem, RdS.len (OS.rd hod) sl55, RdS.idx (OS.rd hod) sl55, R1.intN (OS.rd hod), RdS.cells (OS.rd hod), RdS.len (OS.rd hom) sl56, RdS.idx (OS.rd hom) sl56, RdS.cellN (OS.rd hom), RdS.cells (OS.rd hom), RdS.len (OS.rd hov) sl59, RdS.idx (OS.rd hov) sl59, RdS.cellN (OS.rd hov), RdS.cells (OS.rd hov), BoxAt.cell hb0_0, wrap_id]
 refine CallA.mono (markCx_ok _ _ X.c k _ _ _ hod hom (Fresh.two (lo := 0) hfd hfm ap_d_m (Nat.zero_le _) (Nat.zero_le _)).nodup (by omega)) ?_
 intro v_ h1_3
 rintro ⟨rfl, hnd, hnm, cg0⟩
 replace hod := hnd
 replace hom := hnm
 replace hov := OS.chg hov cg0 (Apart.app (Apart.symm ap_d_v) (Apart.symm ap_m_v))
 replace hb0_0 := BoxAt.chg hb0_0 cg0 (fun hm => by rcases List.mem_append.1 hm with hm | hm <;> first | (have := hld _ hm; omega) | (have := hlm _ hm; omega))
 have hsz0 := cg0.size
 try simp -implicitDefEqProofs (disch := first | decide | assumption | omega) only [go_sem, RdS.len (OS.rd hod) sl55, RdS.idx (OS.rd hod) sl55, R1.intN (OS.rd hod), RdS.cells (OS.rd hod), RdS.len (OS.rd hom) sl56, RdS.idx (OS.rd hom) sl56, RdS.cellN (OS.rd hom), RdS.cells (OS.rd hom), RdS.len (OS.rd hov) sl59, RdS.idx (OS.rd hov) sl59, RdS.cellN (OS.rd hov), RdS.cells (OS.rd hov), BoxAt.cell hb0_0, wrap_id]
 refine hK _ _ ?_
 clear hK K
 refine den_seq ?_
 refine den_region TTok ?_
 intro K hK
 simp -implicitDefEqProofs (disch := first | decide | assumption | omega) only [go_sem, fa61_1, ld59, RdS.len (OS.rd hod) sl55, RdS.idx (OS.rd hod) sl55, R1.intN (OS.rd hod), RdS.cells (OS.rd hod), RdS.len (OS.rd hom) sl56, RdS.idx (OS.rd hom) sl56, RdS.cellN (OS.rd hom), RdS.cells (OS.rd hom), RdS.len (OS.rd hov) sl59, RdS.idx (OS.rd hov) sl59, RdS.cellN (OS.rd hov), RdS.cells (OS.rd hov), BoxAt.cell hb0_0, wrap_id]
 try simp -implicitDefEqProofs (disch := first | decide | assumption | omega) only [go_sem, RdS.len (OS.rd hod) sl55, RdS.idx (OS.rd hod) sl55, R1.intN (OS.rd hod), RdS.cells (OS.rd hod), RdS.len (OS.rd hom) sl56, RdS.idx (OS.rd hom) sl56, RdS.cellN (OS.rd hom), RdS.cells (OS.rd hom), RdS.len (OS.rd hov) sl59, RdS.idx (OS.rd hov) sl59, RdS.cellN (OS.rd hov), RdS.cells (OS.rd hov), BoxAt.cell hb0_0, wrap_id]
 refine CallA.mono (markSS_ok _ X.lv (k + cnt1 X.c.dims + cntL cnt2 X.c.maps) _ _ hov hfv.nodup (by omega)) ?_
 intro v_ h2_3
 rintro ⟨rfl, hnv, cg1⟩
 replace hov := hnv
 replace hod := OS.chg hod cg1 ap_d_v
 replace hom := OS.chg hom cg1 ap_m_v
 replace hb0_0 := BoxAt.chg hb0_0 cg1 (fun hm => by have := hlv _ hm; omega)
 have hsz1 := cg1.size
 try simp -implicitDefEqProofs (disch := first | decide | assumption | omega) only [go_sem, RdS.len (OS.rd hod) sl55, RdS.idx (OS.rd hod) sl55, R1.intN (OS.rd hod), RdS.cells (OS.rd hod), RdS.len (OS.rd hom) sl56, RdS.idx (OS.rd hom) sl56, RdS.cellN (OS.rd hom), RdS.cells (OS.rd hom), RdS.len (OS.rd hov) sl59, RdS.idx (OS.rd hov) sl59, RdS.cellN (OS.rd hov), RdS.cells (OS.rd hov), BoxAt.cell hb0_0, wrap_id]
 refine hK _ _ ?_
 clear hK K
 refine den_seq ?_
 refine den_region TTok ?_
 intro K hK
 simp -implicitDefEqProofs (disch := first | decide | assumption | omega) only [go_sem, RdS.len (OS.rd hod) sl55, RdS.idx (OS.rd hod) sl55, R1.intN (OS.rd hod), RdS.cells (OS.rd hod), RdS.len (OS.rd hom) sl56, RdS.idx (OS.rd hom) sl56, RdS.cellN (OS.rd hom), RdS.cells (OS.rd hom), RdS.len (OS.rd hov) sl59, RdS.idx (OS.rd hov) sl59, RdS.cellN (OS.rd hov), RdS.cells (OS.rd hov), BoxAt.cell hb0_0, wrap_id]
 refine hK _ _ ?_
 clear hK K
 refine den_ret ?_
 simp (disch := decide) only [resP_1, puts_same, puts_ne]
 exact ⟨by first | rfl | trivial, hod, hom, hov, (((eB.chg _).trans (cg0.mono (fun b hb => by grind))).trans (cg1.mono (fun b hb => by grind)))⟩

set_option maxRecDepth 100000 in
theorem heldF_ok (vd vm vv : Value) (X : Fl) (k : Int) (h : Heap) (rd : R1 h vd (markI X.c.dims (k))) (rm : R3 h vm (mark3 X.c.maps (k + cnt1 X.c.dims))) (rv : R2 h vv (mark2 X.lv (k + cnt1 X.c.dims + cntL cnt2 X.c.maps))) (hk : 0 ≤ k ∧ 0 ≤ cnt1 X.c.dims ∧ 0 ≤ cntL cnt2 X.c.maps ∧ 0 ≤ cntL cnt1 X.lv ∧ k + cnt1 X.c.dims + cntL cnt2 X.c.maps + cntL cnt1 X.lv ≤ 4611686018427387904) : CallA Try.prog 31 #[.agg #[.int .i64 X.c.p, vd, vm, vv], .int .i64 k] h fun u h' => u = .int .i64 (k + cnt1 X.c.dims + cntL cnt2 X.c.maps + cntL cnt1 X.lv) ∧ Ext h h' := by
 refine callA_intro TTok (args := [_, _]) Try.func31 (by kernel_rfl) rfl 18 rfl (by simp) [.tmp 4] rfl ?_
 simp only [idxs, Nat.reduceAdd]
 refine den_seq ?_
 refine den_region TTok ?_
 intro K hK
 simp -implicitDefEqProofs (disch := first | decide | assumption | omega) only [go_sem, RdS.len rd sl55, RdS.idx rd sl55, R1.intB rd (HPres.refl _), RdS.cells rd, RdS.len rm sl56, RdS.idx rm sl56, RdS.cellB rm (HPres.refl _), RdS.cells rm, RdS.len rv sl59, RdS.idx rv sl59, RdS.cellB rv (HPres.refl _), RdS.cells rv, wrap_id]
 refine op_box (cs := #[.int .i64 (X.c.p), vd, vm, vv]) rfl ?_
 intro h0_0 e0_0 hb0_0 z0_0
 replace rd := RdS.pres rd (Ext.pres e0_0)
 replace rm := RdS.pres rm (Ext.pres e0_0)
 replace rv := RdS.pres rv (Ext.pres e0_0)
 try simp -implicitDefEqProofs (disch := first | decide | assumption | omega) only [go_sem, RdS.len rd sl55, RdS.idx rd sl55, R1.intB rd (HPres.refl _), RdS.cells rd, RdS.len rm sl56, RdS.idx rm sl56, RdS.cellB rm (HPres.refl _), RdS.cells rm, RdS.len rv sl59, RdS.idx rv sl59, RdS.cellB rv (HPres.refl _), RdS.cells rv, BoxAt.cell hb0_0, wrap_id]
 refine hK _ _ ?_
 clear hK K
 refine den_seq ?_
 refine den_region TTok ?_
 intro K hK
 simp -implicitDefEqProofs (disch := first | decide | assumption | omega) only [go_sem, fa61_0, ld58, RdS.len rd sl55, RdS.idx rd sl55, R1.intB rd (HPres.refl _), RdS.cells rd, RdS.len rm sl56, RdS.idx rm sl56, RdS.cellB rm (HPres.refl _), RdS.cells rm, RdS.len rv sl59, RdS.idx rv sl59, RdS.cellB rv (HPres.refl _), RdS.cells rv, BoxAt.cell hb0_0, wrap_id]
 try simp -implicitDefEqProofs (disch := first | decide | assumption | omega) only [go_sem, RdS.len rd sl55, RdS.idx rd sl55, R1.intB rd (HPres.refl _), RdS.cells rd, RdS.len rm sl56, RdS.idx rm sl56, RdS.cellB rm (HPres.refl _), RdS.cells rm, RdS.len rv sl59, RdS.idx rv sl59, RdS.cellB rv (HPres.refl _), RdS.cells rv, BoxAt.cell hb0_0, wrap_id]
 refine CallA.mono (heldCx_ok _ _ X.c k _ rd rm (by omega)) ?_
 intro v_ h1_3
 rintro ⟨rfl, e1_3⟩
 have := Ext.size e1_3
 have eB := e1_3
 try simp -implicitDefEqProofs (disch := first | decide | assumption | omega) only [go_sem, RdS.len rd sl55, RdS.idx rd sl55, R1.intB rd (Ext.pres eB), RdS.cells rd, RdS.len rm sl56, RdS.idx rm sl56, RdS.cellB rm (Ext.pres eB), RdS.cells rm, RdS.len rv sl59, RdS.idx rv sl59, RdS.cellB rv (Ext.pres eB), RdS.cells rv, BoxAt.cellB hb0_0 eB, wrap_id]
 refine hK _ _ ?_
 clear hK K
 refine den_seq ?_
 refine den_seq ?_
 refine den_region TTok ?_
 intro K hK
 simp -implicitDefEqProofs (disch := first | decide | assumption | omega) only [go_sem, RdS.len rd sl55, RdS.idx rd sl55, R1.intB rd (Ext.pres eB), RdS.cells rd, RdS.len rm sl56, RdS.idx rm sl56, RdS.cellB rm (Ext.pres eB), RdS.cells rm, RdS.len rv sl59, RdS.idx rv sl59, RdS.cellB rv (Ext.pres eB), RdS.cells rv, BoxAt.cellB hb0_0 eB, wrap_id]
 refine hK _ _ ?_
 clear hK K
 refine den_cond rfl (fun c0 => ?_) (fun c0 => ?_)
 ·try simp only [decide_eq_true_eq, decide_eq_false_iff_not, beq_iff_eq, beq_eq_false_iff_ne, bne_iff_ne, ne_eq, Bool.not_eq_true', Bool.not_eq_false', Bool.and_eq_true, Bool.or_eq_true, bne_eq_false_iff_eq] at c0
  refine den_seq ?_
  refine den_region TTok ?_
  intro K hK
  simp -implicitDefEqProofs (disch := first | decide | assumption | omega) only [go_sem, RdS.len rd sl55, RdS.idx rd sl55, R1.intB rd (Ext.pres eB), RdS.cells rd, RdS.len rm sl56, RdS.idx rm sl56, RdS.cellB rm (Ext.pres eB), RdS.cells rm, RdS.len rv sl59, RdS.idx rv sl59, RdS.cellB rv (Ext.pres eB), RdS.cells rv, BoxAt.cellB hb0_0 eB, wrap_id]
  refine hK _ _ ?_
  clear hK K
  refine den_ret ?_
  simp (disch := decide) only [resP_1, puts_same, puts_ne]
  exact absurd c0 (by omega)
 ·try simp only [decide_eq_true_eq, decide_eq_false_iff_not, beq_iff_eq, beq_eq_false_iff_ne, bne_iff_ne, ne_eq, Bool.not_eq_true', Bool.not_eq_false', Bool.and_eq_true, Bool.or_eq_true, bne_eq_false_iff_eq] at c0
  refine den_skip ?_
  refine den_seq ?_
  refine den_region TTok ?_
  intro K hK
  simp -implicitDefEqProofs (disch := first | decide | assumption | omega) only [go_sem, fa61_1, ld59, RdS.len rd sl55, RdS.idx rd sl55, R1.intB rd (Ext.pres eB), RdS.cells rd, RdS.len rm sl56, RdS.idx rm sl56, RdS.cellB rm (Ext.pres eB), RdS.cells rm, RdS.len rv sl59, RdS.idx rv sl59, RdS.cellB rv (Ext.pres eB), RdS.cells rv, BoxAt.cellB hb0_0 eB, wrap_id]
  try simp -implicitDefEqProofs (disch := first | decide | assumption | omega) only [go_sem, RdS.len rd sl55, RdS.idx rd sl55, R1.intB rd (Ext.pres eB), RdS.cells rd, RdS.len rm sl56, RdS.idx rm sl56, RdS.cellB rm (Ext.pres eB), RdS.cells rm, RdS.len rv sl59, RdS.idx rv sl59, RdS.cellB rv (Ext.pres eB), RdS.cells rv, BoxAt.cellB hb0_0 eB, wrap_id]
  refine CallA.pure (heldSS_ok _ X.lv (k + cnt1 X.c.dims + cntL cnt2 X.c.maps) _ (RdS.pres rv (Ext.pres eB)) (by omega)) ?_
  try simp -implicitDefEqProofs (disch := first | decide | assumption | omega) only [go_sem, RdS.len rd sl55, RdS.idx rd sl55, R1.intB rd (Ext.pres eB), RdS.cells rd, RdS.len rm sl56, RdS.idx rm sl56, RdS.cellB rm (Ext.pres eB), RdS.cells rm, RdS.len rv sl59, RdS.idx rv sl59, RdS.cellB rv (Ext.pres eB), RdS.cells rv, BoxAt.cellB hb0_0 eB, wrap_id]
  refine hK _ _ ?_
  clear hK K
  refine den_seq ?_
  refine den_seq ?_
  refine den_region TTok ?_
  intro K hK
  simp -implicitDefEqProofs (disch := first | decide | assumption | omega) only [go_sem, RdS.len rd sl55, RdS.idx rd sl55, R1.intB rd (Ext.pres eB), RdS.cells rd, RdS.len rm sl56, RdS.idx rm sl56, RdS.cellB rm (Ext.pres eB), RdS.cells rm, RdS.len rv sl59, RdS.idx rv sl59, RdS.cellB rv (Ext.pres eB), RdS.cells rv, BoxAt.cellB hb0_0 eB, wrap_id]
  refine hK _ _ ?_
  clear hK K
  refine den_cond rfl (fun c1 => ?_) (fun c1 => ?_)
  ·try simp only [decide_eq_true_eq, decide_eq_false_iff_not, beq_iff_eq, beq_eq_false_iff_ne, bne_iff_ne, ne_eq, Bool.not_eq_true', Bool.not_eq_false', Bool.and_eq_true, Bool.or_eq_true, bne_eq_false_iff_eq] at c1
   refine den_seq ?_
   refine den_region TTok ?_
   intro K hK
   simp -implicitDefEqProofs (disch := first | decide | assumption | omega) only [go_sem, RdS.len rd sl55, RdS.idx rd sl55, R1.intB rd (Ext.pres eB), RdS.cells rd, RdS.len rm sl56, RdS.idx rm sl56, RdS.cellB rm (Ext.pres eB), RdS.cells rm, RdS.len rv sl59, RdS.idx rv sl59, RdS.cellB rv (Ext.pres eB), RdS.cells rv, BoxAt.cellB hb0_0 eB, wrap_id]
   refine hK _ _ ?_
   clear hK K
   refine den_ret ?_
   simp (disch := decide) only [resP_1, puts_same, puts_ne]
   exact absurd c1 (by omega)
  ·try simp only [decide_eq_true_eq, decide_eq_false_iff_not, beq_iff_eq, beq_eq_false_iff_ne, bne_iff_ne, ne_eq, Bool.not_eq_true', Bool.not_eq_false', Bool.and_eq_true, Bool.or_eq_true, bne_eq_false_iff_eq] at c1
   refine den_skip ?_
   refine den_seq ?_
   refine den_region TTok ?_
   intro K hK
   simp -implicitDefEqProofs (disch := first | decide | assumption | omega) only [go_sem, RdS.len rd sl55, RdS.idx rd sl55, R1.intB rd (Ext.pres eB), RdS.cells rd, RdS.len rm sl56, RdS.idx rm sl56, RdS.cellB rm (Ext.pres eB), RdS.cells rm, RdS.len rv sl59, RdS.idx rv sl59, RdS.cellB rv (Ext.pres eB), RdS.cells rv, BoxAt.cellB hb0_0 eB, wrap_id]
   refine hK _ _ ?_
   clear hK K
   refine den_ret ?_
   simp (disch := decide) only [resP_1, puts_same, puts_ne]
   exact ⟨by first | rfl | trivial, (Ext.trans e0_0 eB)⟩

open Go.ChangeShapes Go.WideShapes Go.ChangeAt Go.RowKit Go.Joins
end Go.Proofs.Ytacajcjibhifmaa

namespace Go.Proofs.Ytacajcjibhifmaa
open Go
theorem b0 {x : Int} (h : (x == 0) = true) : x = 0 := by simpa using h
end Go.Proofs.Ytacajcjibhifmaa

namespace Go.Proofs.Ytacajcjibhifmaa
open Go
abbrev M3 := List (List (List Int))
/-- A number is added at a place, modulo p. -/
def upd3 (p : Int) (M : M3) (k r c : Nat) (x : Int) : M3 := M.set k ((M.getD k default).set r (((M.getD k default).getD r default).set c ((((M.getD k default).getD r default).getD c 0 + x) % p)))
def get3 (M : M3) (k r c : Nat) : Int := ((M.getD k default).getD r default).getD c 0
/-- How long a table of tables is, row by row. -/
structure Sh (L : Nat) (A B : Nat → Nat) (M : M3) : Prop where
 len : M.length = L
 rows : ∀ k, k < L → (M.getD k default).length = A k
 cols : ∀ k r, k < L → r < A k → ((M.getD k default).getD r default).length = B k
theorem getD_set {α : Type} {xs : List α} {k j : Nat} {x d : α} (h : k < xs.length) : (xs.set k x).getD j d = if k = j then x else xs.getD j d := by
 simp only [List.getD_eq_getElem?_getD, List.getElem?_set]
 split
 ·rename_i e; subst e; first | rfl | (rw [if_pos h]; rfl)
 ·rfl
theorem upd3_sh {L : Nat} {A B : Nat → Nat} {M : M3} {p x : Int} {k r c : Nat} (s : Sh L A B M) (hk : k < L) (hr : r < A k) : Sh L A B (upd3 p M k r c x) := by
 have hk' : k < M.length := by have := s.len; omega
 have hr' : r < (M.getD k default).length := by have := s.rows k hk; omega
 refine ⟨by rw [upd3, List.length_set]; exact s.len, fun j hj => ?_, fun j q hj hq => ?_⟩
 ·rw [upd3, getD_set hk']
  split
  ·rename_i e; subst e; rw [List.length_set]; exact s.rows _ hk
  ·exact s.rows j hj
 ·rw [upd3, getD_set hk']
  split
  ·rename_i e; subst e
   rw [getD_set hr']
   split
   ·rename_i e; subst e; rw [List.length_set]; exact s.cols _ _ hk hr
   ·exact s.cols _ q hj hq
  ·exact s.cols j q hj hq
theorem upd3_get {L : Nat} {A B : Nat → Nat} {M : M3} {p x : Int} {k r c : Nat} (s : Sh L A B M) (hk : k < L) (hr : r < A k) (hc : c < B k) (k' r' c' : Nat) : get3 (upd3 p M k r c x) k' r' c' = if (k, r, c) = (k', r', c') then (get3 M k' r' c' + x) % p else get3 M k' r' c' := by
 have hk' : k < M.length := by have := s.len; omega
 have hr' : r < (M.getD k default).length := by have := s.rows k hk; omega
 have hc' : c < ((M.getD k default).getD r default).length := by have := s.cols k r hk hr; omega
 by_cases e1 : k = k'
 ·subst e1
  by_cases e2 : r = r'
  ·subst e2
   by_cases e3 : c = c'
   ·subst e3
    simp only [get3, upd3, getD_set hk', getD_set hr', getD_set hc', if_true]
   ·rw [if_neg (by simp [e3])]
    simp only [get3, upd3, getD_set hk', getD_set hr', getD_set hc', if_true, if_neg e3]
  ·rw [if_neg (by simp [e2])]
   simp only [get3, upd3, getD_set hk', getD_set hr', if_true, if_neg e2]
 ·rw [if_neg (by simp [e1])]
  simp only [get3, upd3, getD_set hk', if_neg e1]
theorem Sh.ext {L : Nat} {A B : Nat → Nat} {M N : M3} (s : Sh L A B M) (t : Sh L A B N) (h : ∀ k r c, k < L → r < A k → c < B k → get3 M k r c = get3 N k r c) : M = N := by
 have g3 : ∀ {α : Type} [Inhabited α] {xs ys : List α}, xs.length = ys.length → (∀ i, i < xs.length → xs.getD i default = ys.getD i default) → xs = ys := by
  intro α _ xs ys hl hh
  apply List.ext_getElem hl
  intro i h1 h2
  have := hh i h1
  rwa [List.getD_eq_getElem?_getD, List.getD_eq_getElem?_getD, List.getElem?_eq_getElem h1, List.getElem?_eq_getElem h2] at this
 refine g3 (by rw [s.len, t.len]) (fun k hk => ?_)
 rw [s.len] at hk
 refine g3 (by rw [s.rows k hk, t.rows k hk]) (fun r hr => ?_)
 rw [s.rows k hk] at hr
 refine g3 (by rw [s.cols k r hk hr, t.cols k r hk hr]) (fun c hc => ?_)
 rw [s.cols k r hk hr] at hc
 exact h k r c hk hr hc
def In3 (p : Int) (L : Nat) (A B : Nat → Nat) (M : M3) : Prop := ∀ k r c, k < L → r < A k → c < B k → 0 ≤ get3 M k r c ∧ get3 M k r c < p
abbrev Upd := (Nat × Nat × Nat) × Int
def applyU (p : Int) : M3 → List Upd → M3
 | M, [] => M
 | M, u :: l => applyU p (upd3 p M u.1.1 u.1.2.1 u.1.2.2 u.2) l
/-- What the updates of a list bring to a place. -/
def sumT (t : Nat × Nat × Nat) : List Upd → Int
 | [] => 0
 | u :: l => (if u.1 = t then u.2 else 0) + sumT t l
def InU (L : Nat) (A B : Nat → Nat) (u : Upd) : Prop := u.1.1 < L ∧ u.1.2.1 < A u.1.1 ∧ u.1.2.2 < B u.1.1
theorem applyU_sh {L : Nat} {A B : Nat → Nat} {p : Int} : ∀ {l : List Upd} {M : M3}, Sh L A B M → (∀ u ∈ l, InU L A B u) → Sh L A B (applyU p M l)
 | [], _, s, _ => s
 | u :: l, M, s, h => by
  rw [applyU]
  exact applyU_sh (upd3_sh s (h u (by simp)).1 (h u (by simp)).2.1) (fun v hv => h v (List.mem_cons_of_mem _ hv))
theorem upd3_in {L : Nat} {A B : Nat → Nat} {p : Int} {M : M3} {u : Upd} (hp : 0 < p) (s : Sh L A B M) (hi : In3 p L A B M) (hu : InU L A B u) : In3 p L A B (upd3 p M u.1.1 u.1.2.1 u.1.2.2 u.2) := by
 intro k r c h1 h2 h3
 rw [upd3_get s hu.1 hu.2.1 hu.2.2]
 split
 ·exact ⟨Int.emod_nonneg _ (by omega), Int.emod_lt_of_pos _ hp⟩
 ·exact hi k r c h1 h2 h3
theorem applyU_get {L : Nat} {A B : Nat → Nat} {p : Int} (hp : 0 < p) {k r c : Nat} (h1 : k < L) (h2 : r < A k) (h3 : c < B k) : ∀ {l : List Upd} {M : M3}, Sh L A B M → In3 p L A B M → (∀ u ∈ l, InU L A B u) → get3 (applyU p M l) k r c = (get3 M k r c + sumT (k, r, c) l) % p
 | [], M, s, hi, _ => by
  have := hi k r c h1 h2 h3
  rw [applyU, sumT, Int.add_zero, Int.emod_eq_of_lt this.1 this.2]
 | u :: l, M, s, hi, h => by
  have hu := h u (by simp)
  rw [applyU, applyU_get hp h1 h2 h3 (upd3_sh s hu.1 hu.2.1) (upd3_in hp s hi hu) (fun v hv => h v (List.mem_cons_of_mem _ hv)), upd3_get s hu.1 hu.2.1 hu.2.2, sumT]
  by_cases e : u.1 = (k, r, c)
  ·rw [if_pos (show (u.1.1, u.1.2.1, u.1.2.2) = (k, r, c) from e), if_pos e, Int.emod_add_emod]
   congr 1; omega
  ·rw [if_neg (show ¬ (u.1.1, u.1.2.1, u.1.2.2) = (k, r, c) from e), if_neg e, Int.zero_add]
-- the updates of all numbers of a complex's maps
abbrev UF := Nat → Nat → Nat → Int → List Upd
/-- An element of a nested row of one's own. -/
theorem OS.row2 {h : Heap} {vm : Value} {M : M3} {f : List Nat} (hm : O3 h vm M f) (hn : f.Nodup) {k r : Nat} (hk : k < M.length) (hr : r < (M.getD k default).length) :
  ∃ f2, O1 h (rowV h (rowV h vm k) r) ((M.getD k default).getD r default) f2 ∧ f2.Nodup ∧ (∀ b ∈ f2, b ∈ f) ∧ ∀ h' x', Chg f2 h h' → O1 h' (rowV h (rowV h vm k) r) x' f2 → O3 h' vm (M.set k ((M.getD k default).set r x')) f := by
 obtain ⟨f1, hE1, hs1, hn1, hb1⟩ := OS.elem hm hn k hk
 obtain ⟨f2, hE2, hs2, hn2, hb2⟩ := OS.elem hE1 hn1 r hr
 exact ⟨f2, hE2, hn2, fun b hb => hs1 b (hs2 b hb), fun h' x' c o => hb1 h' _ (c.mono hs2) (hb2 h' _ c o)⟩

set_option maxRecDepth 100000 in
theorem addAt_ok (p : Int) (vd vm : Value) (D : List Int) (M : M3) (f : List Nat) (n r c x : Int) (h : Heap) (rd : R1 h vd D) (hom : O3 h vm M f) (hn : f.Nodup) (hp : 0 < p ∧ p ≤ 7) (h1 : 1 ≤ n ∧ n ≤ M.length) (h2 : 0 ≤ r ∧ r < (M.getD (n - 1).toNat default).length) (h3 : 0 ≤ c ∧ c < ((M.getD (n - 1).toNat default).getD r.toNat default).length) (hc : 0 ≤ get3 M (n - 1).toNat r.toNat c.toNat ∧ get3 M (n - 1).toNat r.toNat c.toNat < p) (hx : -7 ≤ x ∧ x ≤ 7) : CallA Try.prog 97 #[.agg #[.int .i64 p, vd, vm], .int .i64 n, .int .i64 r, .int .i64 c, .int .i64 x] h fun v' h' => v' = .tuple #[] ∧ O3 h' vm (upd3 p M (n - 1).toNat r.toNat c.toNat x) f ∧ Chg f h h' := by
 have hleM := OS.len_le hom
 unfold get3 at hc
 refine callA_intro TTok (args := [_, _, _, _, _]) Try.func97 (by kernel_rfl) rfl 38 rfl (by simp) [] rfl ?_
 simp only [idxs, Nat.reduceAdd]
 refine den_seq ?_
 refine den_region TTok ?_
 intro K hK
 simp -implicitDefEqProofs (disch := first | decide | assumption | omega) only [go_sem, RdS.len rd sl55, RdS.idx rd sl55, R1.intB rd (HPres.refl _), RdS.cells rd, RdS.len (OS.rd hom) sl56, RdS.idx (OS.rd hom) sl56, RdS.cellN (OS.rd hom), RdS.cells (OS.rd hom), wrap_id]
 refine op_box (cs := #[.int .i64 (p), vd, vm]) rfl ?_
 intro h0_0 e0_0 hb0_0 z0_0
 replace hom := OS.ext hom e0_0
 have := Ext.size e0_0
 have eB := e0_0
 try simp -implicitDefEqProofs (disch := first | decide | assumption | omega) only [go_sem, RdS.len rd sl55, RdS.idx rd sl55, R1.intB rd (Ext.pres eB), RdS.cells rd, RdS.len (OS.rd hom) sl56, RdS.idx (OS.rd hom) sl56, RdS.cellN (OS.rd hom), RdS.cells (OS.rd hom), BoxAt.cell hb0_0, wrap_id]
 refine hK _ _ ?_
 clear hK K
 refine den_seq ?_
 have hr1 := RdS.rowN (OS.rd hom) (n - 1).toNat (by omega)
 have hr2 := RdS.rowN hr1 r.toNat (by omega)
 obtain ⟨f2, hE, hn2, hs2, hbk⟩ := OS.row2 hom hn (k := (n - 1).toNat) (r := r.toNat) (by omega) (by omega)
 refine den_region TTok ?_
 intro K hK
 simp -implicitDefEqProofs (disch := first | decide | assumption | omega) only [go_sem, fa58_2, ld56, ld59, ld55, RdS.len rd sl55, RdS.idx rd sl55, R1.intB rd (Ext.pres eB), RdS.cells rd, RdS.len (OS.rd hom) sl56, RdS.idx (OS.rd hom) sl56, RdS.cellN (OS.rd hom), RdS.cells (OS.rd hom), BoxAt.cell hb0_0, wrap_id, RdS.idx hr1 sl59, RdS.cellN hr1, RdS.idx hr2 sl55]
 refine hK _ _ ?_
 clear hK K
 have htm := tmod_in (x := ((M.getD (n - 1).toNat default).getD r.toNat default).getD c.toNat 0 + x) hp.1
 refine den_draw TTok mixed [16] [(0, true), (1, true), (2, true), (3, true), (4, true), (5, true), (6, true), (7, true), (8, true), (9, true), (10, true), (11, true), (12, true), (13, true), (14, true), (15, true), (16, false)] (by kernel_rfl) ?_
 intro K hK
 simp -implicitDefEqProofs (disch := first | decide | assumption | omega) only [go_sem, fa58_0, ld2, RdS.len rd sl55, RdS.idx rd sl55, R1.intB rd (Ext.pres eB), RdS.cells rd, RdS.len (OS.rd hom) sl56, RdS.idx (OS.rd hom) sl56, RdS.cellN (OS.rd hom), RdS.cells (OS.rd hom), BoxAt.cell hb0_0, wrap_id, R1.intN hr2]
 refine op_store1 (j := c.toNat) st2 hE hn2 (by omega) rfl rfl ?_
 intro h16 hE2 c16
 rw [mod_twice hp.1] at hE2
 have hom2 := hbk _ _ c16 hE2
 try simp (disch := decide) only [outv_some, outv_none, put_puts]
 refine plK_last (by decide) ?_
 try simp -implicitDefEqProofs (disch := first | decide | assumption | omega) only [go_sem, RdS.len rd sl55, RdS.idx rd sl55, R1.intB rd (Ext.pres eB), RdS.cells rd, RdS.len (OS.rd hom) sl56, RdS.idx (OS.rd hom) sl56, RdS.cellN (OS.rd hom), RdS.cells (OS.rd hom), BoxAt.cell hb0_0, wrap_id, R1.intN hr2]
 refine hK _ _ ?_
 clear hK K
 refine den_nil ?_
 simp (disch := decide) only [resP_0, puts_same, puts_ne]
 exact ⟨by first | rfl | trivial, hom2, (eB.chg _).trans (c16.mono hs2)⟩
end Go.Proofs.Ytacajcjibhifmaa

namespace Go.Proofs.Ytacajcjibhifmaa
open Go
theorem bCx {v : Value} {xs : List Int} {h : Heap} (hv : R1 h v xs) (p : Int) : buildV TT 58 [(0, .int .i64 p), (1, v)] = some (.agg #[.int .i64 p, v, .slice none 0 0]) := by
 obtain ⟨A, c, rfl, _⟩ := hv
 kernel_rfl
theorem OS.isSl {α : Type} {e : TypeId} {E : Heap → Value → α → List Nat → Prop} {h : Heap} {v : Value} {xs : List α} {fp : List Nat} (ho : OS e E h v xs fp) : ∃ A n c, v = .slice A n c := by
 rcases ho with ⟨rfl, _⟩ | ⟨b, c, cur, fps, rfl, r⟩
 ·exact ⟨_, _, _, rfl⟩
 ·exact ⟨_, _, _, r.val⟩
theorem bC3 {v w : Value} (hv : ∃ A n c, v = .slice A n c) (hw : ∃ A n c, w = .slice A n c) (p : Int) : buildV TT 58 [(0, .int .i64 p), (1, v), (2, w)] = some (.agg #[.int .i64 p, v, w]) := by
 obtain ⟨A, n, c, rfl⟩ := hv
 obtain ⟨A', n', c', rfl⟩ := hw
 kernel_rfl
def zblk (D : List Int) (k : Nat) : M3 := (List.range k).map fun j => List.replicate (D.getD (j + 1) 0).toNat (List.replicate (D.getD j 0).toNat 0)
theorem zblk_step (D : List Int) (k : Nat) : zblk D k ++ [List.replicate (D.getD (k + 1) 0).toNat (List.replicate (D.getD k 0).toNat 0)] = zblk D (k + 1) := by simp [zblk, List.range_succ]
theorem zblk_len (D : List Int) (k : Nat) : (zblk D k).length = k := by simp [zblk]
theorem getD_map_range {α : Type} [Inhabited α] (f : Nat → α) {n k : Nat} (h : k < n) : ((List.range n).map f).getD k default = f k := by
 rw [List.getD_eq_getElem?_getD, List.getElem?_eq_getElem (by simpa using h)]; simp
theorem getD_repl {α : Type} {x d : α} {n k : Nat} (h : k < n) : (List.replicate n x).getD k d = x := by
 rw [List.getD_eq_getElem?_getD, List.getElem?_eq_getElem (by simpa using h)]; simp
theorem zblk_sh (D : List Int) (n : Nat) : Sh n (fun k => (D.getD (k + 1) 0).toNat) (fun k => (D.getD k 0).toNat) (zblk D n) := by
 refine ⟨zblk_len D n, fun k hk => ?_, fun k r hk hr => ?_⟩
 ·rw [zblk, getD_map_range _ hk, List.length_replicate]
 ·rw [zblk, getD_map_range _ hk, getD_repl hr, List.length_replicate]
theorem zblk_get (D : List Int) (n : Nat) {k r c : Nat} (hk : k < n) (hr : r < (D.getD (k + 1) 0).toNat) (hc : c < (D.getD k 0).toNat) : get3 (zblk D n) k r c = 0 := by
 rw [get3, zblk, getD_map_range _ hk, getD_repl hr, getD_repl hc]
theorem D_at {D : List Int} (h : D.all (fun x => in3 x 0 8) = true) {k : Nat} (hk : k < D.length) : 0 ≤ D.getD k 0 ∧ D.getD k 0 ≤ 8 := in3_iff.1 (all_at (d := 0) h hk)

set_option maxRecDepth 100000 in
theorem blank_ok (p : Int) (v : Value) (D : List Int) (h : Heap) (rD : R1 h v D) (hD : D.all (fun x => in3 x 0 8) = true) (hl : D.length ≤ 16) : CallA Try.prog 96 #[.int .i64 p, v] h fun v' h' => ∃ w fp, v' = .agg #[.int .i64 p, v, w] ∧ O3 h' w (zblk D (D.length - 1)) fp ∧ Fresh h.size fp ∧ Ext h h' := by
 have hle := RdS.le rD
 refine callA_intro TTok (args := [_, _]) Try.func96 (by kernel_rfl) rfl 41 rfl (by simp) [.cell 4 58] rfl ?_
 simp only [idxs, Nat.reduceAdd]
 refine den_seq ?_
 refine den_region TTok ?_
 intro K hK
 simp -implicitDefEqProofs (disch := first | decide | assumption | omega) only [go_sem, RdS.len rD sl55, RdS.idx rD sl55, R1.intB rD (HPres.refl _), RdS.cells rD, wrap_id, Int.add_sub_cancel, bCx rD]
 refine op_alloc (cs := #[.int .i64 0, .slice none 0 0, .slice none 0 0]) (by kernel_rfl) ?_
 intro h0_0 e0_0 hb0_0 z0_0
 have := Ext.size e0_0
 have eB := e0_0
 have hfhb0_0 : Fresh h.size [h.size] := Fresh.one _
 have hlhb0_0 := one_lt (show h.size < h0_0.size by omega)
 try simp -implicitDefEqProofs (disch := first | decide | assumption | omega) only [go_sem, RdS.len rD sl55, RdS.idx rD sl55, R1.intB rD (Ext.pres eB), RdS.cells rD, BoxAt.cell hb0_0, wrap_id, Int.add_sub_cancel, bCx rD]
 refine hK _ _ ?_
 clear hK K
 refine den_seq ?_
 refine den_region TTok ?_
 intro K hK
 simp -implicitDefEqProofs (disch := first | decide | assumption | omega) only [go_sem, RdS.len rD sl55, RdS.idx rD sl55, R1.intB rD (Ext.pres eB), RdS.cells rD, BoxAt.cell hb0_0, wrap_id, Int.add_sub_cancel, bCx rD]
 refine op_alloc (cs := #[.int .i64 0, .slice none 0 0, .slice none 0 0]) (by kernel_rfl) ?_
 intro h1_3 e1_3 hb1_3 z1_3
 replace hb0_0 := BoxAt.ext hb0_0 e1_3
 have := Ext.size e1_3
 replace eB := Ext.trans eB e1_3
 have hfhb1_3 : Fresh h0_0.size [h0_0.size] := Fresh.one _
 have hlhb1_3 := one_lt (show h0_0.size < h1_3.size by omega)
 try simp -implicitDefEqProofs (disch := first | decide | assumption | omega) only [go_sem, RdS.len rD sl55, RdS.idx rD sl55, R1.intB rD (Ext.pres eB), RdS.cells rD, BoxAt.cell hb0_0, BoxAt.cell hb1_3, wrap_id, Int.add_sub_cancel, bCx rD]
 refine op_storeB (cs' := #[.int .i64 (p), v, .slice none 0 0]) st58 hb1_3 rfl rfl rfl (by simp) (allOne_mem (l := [.int .i64 (p), v, .slice none 0 0]) ⟨rfl, (RdS.one rD), rfl, trivial⟩) rfl ?_
 intro h1_4 hb1_3 c1_4
 replace hb0_0 := BoxAt.chgA hb0_0 c1_4 (apart_lt hlhb0_0 hfhb1_3 (by omega))
 have := c1_4.size
 replace eB := Ext.then eB c1_4 (ge_of hfhb1_3 (by omega))
 try simp -implicitDefEqProofs (disch := first | decide | assumption | omega) only [go_sem, RdS.len rD sl55, RdS.idx rD sl55, R1.intB rD (Ext.pres eB), RdS.cells rD, BoxAt.cell hb0_0, BoxAt.cell hb1_3, wrap_id, Int.add_sub_cancel, bCx rD]
 refine hK _ _ ?_
 clear hK K
 refine den_seq ?_
 refine den_seq ?_
 refine den_region TTok ?_
 intro K hK
 simp -implicitDefEqProofs (disch := first | decide | assumption | omega) only [go_sem, RdS.len rD sl55, RdS.idx rD sl55, R1.intB rD (Ext.pres eB), RdS.cells rD, BoxAt.cell hb0_0, BoxAt.cell hb1_3, wrap_id, Int.add_sub_cancel, bCx rD]
 refine hK _ _ ?_
 clear hK K
 refine den_block ?_
 have hnil1 : O3 h1_4 (.slice none 0 0) [] [] := OS.nil
 have hfhnil1 : Fresh h1_4.size [] := Fresh.nil _
 have hlhnil1 := OS.lt hnil1
 refine den_sel [6, 1, 4, 5] ?_
 intro env_2
 simp only [go_sem]
 refine den_loopS (σ := Nat × Value × List Nat) (fun st_ => [(6, .int .i64 ((st_.1 : Int) + 1))]) (fun st_ H => (st_.1 = 0 ∨ st_.1 + 1 ≤ D.length) ∧ (O3 H st_.2.1 (zblk D st_.1) st_.2.2) ∧ (Fresh (h1_4.size) st_.2.2) ∧ (Sub (([] : List Nat) ++ ([h0_0.size])) h1_4.size st_.2.2) ∧ (BoxAt H (h0_0.size) #[.int .i64 (p), v, st_.2.1] 58) ∧ (Apart st_.2.2 [h0_0.size]) ∧ (Chg (([] : List Nat) ++ ([h0_0.size])) h1_4 H)) (fun st_ => D.length - st_.1) (0, .slice none 0 0, ([] : List Nat)) ?_ ?_
 ·exact ⟨Or.inl rfl, by exact hnil1, hfhnil1, (Sub.left Sub.refl), by simpa using hb1_3, (apart_gt hfhnil1 hlhb1_3 (by omega)), Chg.refl _ _⟩
 ·rintro ⟨k, vhO, fphO⟩ h5 ee4 ⟨hi0, hO, hfhO, sbhO, hbx5, ap_hO_hbx5, cL3⟩
  dsimp only at hi0 hO hfhO sbhO hbx5 ap_hO_hbx5 cL3
  replace hb0_0 := BoxAt.chgA hb0_0 cL3 (Apart.app (apart_lt hlhb0_0 hfhnil1 (by omega)) (apart_lt hlhb0_0 hfhb1_3 (by omega)))
  have := cL3.size
  replace eB := Ext.then eB cL3 (ge_app (ge_of hfhnil1 (by omega)) (ge_of hfhb1_3 (by omega)))
  have hlhO := OS.lt hO
  have hfhbx5 := hfhb1_3
  have hlhbx5 := hlhb1_3
  simp only [List.cons_append, List.nil_append]
  have hzl := zblk_len D k
  refine den_seq ?_
  refine den_seq ?_
  refine den_region TTok ?_
  intro K hK
  simp -implicitDefEqProofs (disch := first | decide | assumption | omega) only [go_sem, RdS.len rD sl55, RdS.idx rD sl55, R1.intB rD (Ext.pres eB), RdS.cells rD, RdS.len (OS.rd hO) sl56, RdS.idx (OS.rd hO) sl56, RdS.cellN (OS.rd hO), RdS.cells (OS.rd hO), BoxAt.cell hb0_0, BoxAt.cell hbx5, wrap_id, Int.add_sub_cancel, bCx rD]
  try simp -implicitDefEqProofs (disch := first | decide | assumption | omega) only [go_sem, RdS.len rD sl55, RdS.idx rD sl55, R1.intB rD (Ext.pres eB), RdS.cells rD, RdS.len (OS.rd hO) sl56, RdS.idx (OS.rd hO) sl56, RdS.cellN (OS.rd hO), RdS.cells (OS.rd hO), BoxAt.cell hb0_0, BoxAt.cell hbx5, wrap_id, Int.add_sub_cancel, bCx rD]
  refine CallA.pure (size1_ok _ _ _ (RdS.pres rD (Ext.pres eB))) ?_
  try simp -implicitDefEqProofs (disch := first | decide | assumption | omega) only [go_sem, RdS.len rD sl55, RdS.idx rD sl55, R1.intB rD (Ext.pres eB), RdS.cells rD, RdS.len (OS.rd hO) sl56, RdS.idx (OS.rd hO) sl56, RdS.cellN (OS.rd hO), RdS.cells (OS.rd hO), BoxAt.cell hb0_0, BoxAt.cell hbx5, wrap_id, Int.add_sub_cancel, bCx rD]
  refine hK _ _ ?_
  clear hK K
  refine den_cond rfl (fun c0 => ?_) (fun c0 => ?_)
  ·try simp only [decide_eq_true_eq, decide_eq_false_iff_not, beq_iff_eq, beq_eq_false_iff_ne, bne_iff_ne, ne_eq, Bool.not_eq_true', Bool.not_eq_false', Bool.and_eq_true, Bool.or_eq_true, bne_eq_false_iff_eq] at c0
   refine den_skip ?_
   refine den_seq ?_
   refine den_block ?_
   refine den_seq ?_
   have ek : ((k : Int) + 1).toNat = k + 1 := by omega
   refine den_region TTok ?_
   intro K hK
   simp -implicitDefEqProofs (disch := first | decide | assumption | omega) only [go_sem, RdS.len rD sl55, RdS.idx rD sl55, R1.intB rD (Ext.pres eB), RdS.cells rD, RdS.len (OS.rd hO) sl56, RdS.idx (OS.rd hO) sl56, RdS.cellN (OS.rd hO), RdS.cells (OS.rd hO), BoxAt.cell hb0_0, BoxAt.cell hbx5, wrap_id, Int.add_sub_cancel, bCx rD]
   refine op_bs0 sz59 O1 ?_
   intro v5_0 h5_0 ho5_0 e5_0
   replace hO := OS.ext hO e5_0
   replace hb0_0 := BoxAt.ext hb0_0 e5_0
   replace hbx5 := BoxAt.ext hbx5 e5_0
   have := Ext.size e5_0
   replace eB := Ext.trans eB e5_0
   replace cL3 := Chg.stepE cL3 e5_0
   have hfho5_0 : Fresh h5.size [h5.size] := Fresh.one _
   have hlho5_0 := OS.lt ho5_0
   try simp -implicitDefEqProofs (disch := first | decide | assumption | omega) only [go_sem, RdS.len rD sl55, RdS.idx rD sl55, R1.intB rD (Ext.pres eB), RdS.cells rD, RdS.len (OS.rd hO) sl56, RdS.idx (OS.rd hO) sl56, RdS.cellN (OS.rd hO), RdS.cells (OS.rd hO), RdS.len (OS.rd ho5_0) sl59, RdS.idx (OS.rd ho5_0) sl59, RdS.cellN (OS.rd ho5_0), RdS.cells (OS.rd ho5_0), BoxAt.cell hb0_0, BoxAt.cell hbx5, wrap_id, Int.add_sub_cancel, bCx rD]
   refine hK _ _ ?_
   clear hK K
   refine den_seq ?_
   refine den_seq ?_
   have hd2 := D_at hD (k := ((k : Int) + 1).toNat) (by omega)
   refine den_region TTok ?_
   intro K hK
   simp -implicitDefEqProofs (disch := first | decide | assumption | omega) only [go_sem, ld2, RdS.len rD sl55, RdS.idx rD sl55, R1.intB rD (Ext.pres eB), RdS.cells rD, RdS.len (OS.rd hO) sl56, RdS.idx (OS.rd hO) sl56, RdS.cellN (OS.rd hO), RdS.cells (OS.rd hO), RdS.len (OS.rd ho5_0) sl59, RdS.idx (OS.rd ho5_0) sl59, RdS.cellN (OS.rd ho5_0), RdS.cells (OS.rd ho5_0), BoxAt.cell hb0_0, BoxAt.cell hbx5, wrap_id, Int.add_sub_cancel, bCx rD]
   refine hK _ _ ?_
   clear hK K
   refine den_block ?_
   refine den_sel [7, 22, 1, 4, 5, 6, 21] ?_
   intro env_6
   simp only [go_sem]
   refine den_loopS (σ := Nat × Value × List Nat) (fun st_ => [(7, st_.2.1), (22, .int .i64 (st_.1 : Int))]) (fun st_ H => ((st_.1 : Int) ≤ D.getD ((k : Int) + 1).toNat 0) ∧ (O2 H st_.2.1 (List.replicate st_.1 (List.replicate (D.getD k 0).toNat 0)) st_.2.2) ∧ (Fresh (h5.size) st_.2.2) ∧ (Sub [h5.size] h5_0.size st_.2.2) ∧ (Chg [h5.size] h5_0 H)) (fun st_ => (D.getD ((k : Int) + 1).toNat 0).toNat - st_.1) (0, v5_0, [h5.size]) ?_ ?_
   ·exact ⟨by first | (simp; done) | (dsimp only; omega) | (simp; omega), by simpa using ho5_0, hfho5_0, Sub.refl, Chg.refl _ _⟩
   ·rintro ⟨m, vhR, fphR⟩ h9 ee8 ⟨hi0, hR, hfhR, sbhR, cL7⟩
    dsimp only at hi0 hR hfhR sbhR cL7
    replace hO := OS.chg hO cL7 (apart_lt hlhO hfho5_0 (by omega))
    replace hb0_0 := BoxAt.chgA hb0_0 cL7 (apart_lt hlhb0_0 hfho5_0 (by omega))
    replace hbx5 := BoxAt.chgA hbx5 cL7 (apart_lt hlhbx5 hfho5_0 (by omega))
    have := cL7.size
    replace eB := Ext.then eB cL7 (ge_of hfho5_0 (by omega))
    replace cL3 := Chg.step cL3 cL7 (Sub.fresh hfho5_0 (by omega))
    have hlhR := OS.lt hR
    simp only [List.cons_append, List.nil_append]
    have hlr : (List.replicate m (List.replicate (D.getD k (0 : Int)).toNat (0 : Int))).length = m := List.length_replicate
    refine den_seq ?_
    refine den_region TTok ?_
    intro K hK
    simp -implicitDefEqProofs (disch := first | decide | assumption | omega) only [go_sem, RdS.len rD sl55, RdS.idx rD sl55, R1.intB rD (Ext.pres eB), RdS.cells rD, RdS.len (OS.rd hO) sl56, RdS.idx (OS.rd hO) sl56, RdS.cellN (OS.rd hO), RdS.cells (OS.rd hO), RdS.len (OS.rd hR) sl59, RdS.idx (OS.rd hR) sl59, RdS.cellN (OS.rd hR), RdS.cells (OS.rd hR), BoxAt.cell hb0_0, BoxAt.cell hbx5, wrap_id, Int.add_sub_cancel, bCx rD]
    refine hK _ _ ?_
    clear hK K
    refine den_seq ?_
    refine den_cond rfl (fun c1 => ?_) (fun c1 => ?_)
    ·try simp only [decide_eq_true_eq, decide_eq_false_iff_not, beq_iff_eq, beq_eq_false_iff_ne, bne_iff_ne, ne_eq, Bool.not_eq_true', Bool.not_eq_false', Bool.and_eq_true, Bool.or_eq_true, bne_eq_false_iff_eq] at c1
     refine den_skip ?_
     refine den_seq ?_
     refine den_block ?_
     have hd1 := D_at hD (k := k) (by omega)
     refine den_region TTok ?_
     intro K hK
     simp -implicitDefEqProofs (disch := first | decide | assumption | omega) only [go_sem, ld2, RdS.len rD sl55, RdS.idx rD sl55, R1.intB rD (Ext.pres eB), RdS.cells rD, RdS.len (OS.rd hO) sl56, RdS.idx (OS.rd hO) sl56, RdS.cellN (OS.rd hO), RdS.cells (OS.rd hO), RdS.len (OS.rd hR) sl59, RdS.idx (OS.rd hR) sl59, RdS.cellN (OS.rd hR), RdS.cells (OS.rd hR), BoxAt.cell hb0_0, BoxAt.cell hbx5, wrap_id, Int.add_sub_cancel, bCx rD]
     refine op_make sz55 rfl rfl (by omega) (by omega) OI 0 (fun _ => ⟨rfl, rfl⟩) ?_
     intro v8_6 h8_6 ho8_6 e8_6
     replace hO := OS.ext hO e8_6
     replace hR := OS.ext hR e8_6
     replace hb0_0 := BoxAt.ext hb0_0 e8_6
     replace hbx5 := BoxAt.ext hbx5 e8_6
     have := Ext.size e8_6
     replace eB := Ext.trans eB e8_6
     replace cL3 := Chg.stepE cL3 e8_6
     replace cL7 := Chg.stepE cL7 e8_6
     have hfho8_6 : Fresh h9.size [h9.size] := Fresh.one _
     have hlenho8_6 : (List.replicate (((D).getD k 0)).toNat (0 : Int)).length = (((D).getD k 0)).toNat := List.length_replicate
     have hlho8_6 := OS.lt ho8_6
     try simp -implicitDefEqProofs (disch := first | decide | assumption | omega) only [go_sem, RdS.len rD sl55, RdS.idx rD sl55, R1.intB rD (Ext.pres eB), RdS.cells rD, RdS.len (OS.rd hO) sl56, RdS.idx (OS.rd hO) sl56, RdS.cellN (OS.rd hO), RdS.cells (OS.rd hO), RdS.len (OS.rd hR) sl59, RdS.idx (OS.rd hR) sl59, RdS.cellN (OS.rd hR), RdS.cells (OS.rd hR), RdS.len (OS.rd ho8_6) sl55, RdS.idx (OS.rd ho8_6) sl55, R1.intN (OS.rd ho8_6), RdS.cells (OS.rd ho8_6), BoxAt.cell hb0_0, BoxAt.cell hbx5, wrap_id, Int.add_sub_cancel, bCx rD]
     refine op_bs1 sz59 rfl (OS.one ho8_6).2 ?_
     try simp -implicitDefEqProofs (disch := first | decide | assumption | omega) only [go_sem, RdS.len rD sl55, RdS.idx rD sl55, R1.intB rD (Ext.pres eB), RdS.cells rD, RdS.len (OS.rd hO) sl56, RdS.idx (OS.rd hO) sl56, RdS.cellN (OS.rd hO), RdS.cells (OS.rd hO), RdS.len (OS.rd hR) sl59, RdS.idx (OS.rd hR) sl59, RdS.cellN (OS.rd hR), RdS.cells (OS.rd hR), RdS.len (OS.rd ho8_6) sl55, RdS.idx (OS.rd ho8_6) sl55, R1.intN (OS.rd ho8_6), RdS.cells (OS.rd ho8_6), BoxAt.cell hb0_0, BoxAt.cell hbx5, wrap_id, Int.add_sub_cancel, bCx rD]
     refine op_append1 sz59 hR hfhR.nodup ho8_6 hfho8_6.nodup (apart_lt hlhR hfho8_6 (by omega)) (by first | omega | (simp; omega)) rfl rfl ?_
     intro v8_8 h8_8 fp8_8 ho8_8 hn8_8 hs8_8 c8_8
     have hsz8_8 := c8_8.size
     have hfho8_8 : Fresh h5.size fp8_8 := Fresh.appd hfhR hfho8_6 (by omega) (by omega) hn8_8 hs8_8
     have sb10 : Sub [h5.size] h5_0.size fp8_8 := Sub.grow sbhR (Sub.fresh hfho8_6 (by omega)) (by omega) hs8_8
     replace hO := OS.chg hO c8_8 (apart_lt hlhO hfhR (by omega))
     replace hb0_0 := BoxAt.chgA hb0_0 c8_8 (apart_lt hlhb0_0 hfhR (by omega))
     replace hbx5 := BoxAt.chgA hbx5 c8_8 (apart_lt hlhbx5 hfhR (by omega))
     have := c8_8.size
     replace eB := Ext.then eB c8_8 (ge_of hfhR (by omega))
     replace cL3 := Chg.step cL3 c8_8 (Sub.fresh hfhR (by omega))
     replace cL7 := Chg.step cL7 c8_8 sbhR
     have hlho8_8 := OS.lt ho8_8
     try simp -implicitDefEqProofs (disch := first | decide | assumption | omega) only [go_sem, RdS.len rD sl55, RdS.idx rD sl55, R1.intB rD (Ext.pres eB), RdS.cells rD, RdS.len (OS.rd hO) sl56, RdS.idx (OS.rd hO) sl56, RdS.cellN (OS.rd hO), RdS.cells (OS.rd hO), RdS.len (OS.rd ho8_8) sl59, RdS.idx (OS.rd ho8_8) sl59, RdS.cellN (OS.rd ho8_8), RdS.cells (OS.rd ho8_8), BoxAt.cell hb0_0, BoxAt.cell hbx5, wrap_id, Int.add_sub_cancel, bCx rD]
     refine hK _ _ ?_
     clear hK K
     refine den_blk ?_
     refine den_region TTok ?_
     intro K hK
     simp -implicitDefEqProofs (disch := first | decide | assumption | omega) only [go_sem, RdS.len rD sl55, RdS.idx rD sl55, R1.intB rD (Ext.pres eB), RdS.cells rD, RdS.len (OS.rd hO) sl56, RdS.idx (OS.rd hO) sl56, RdS.cellN (OS.rd hO), RdS.cells (OS.rd hO), RdS.len (OS.rd ho8_8) sl59, RdS.idx (OS.rd ho8_8) sl59, RdS.cellN (OS.rd ho8_8), RdS.cells (OS.rd ho8_8), BoxAt.cell hb0_0, BoxAt.cell hbx5, wrap_id, Int.add_sub_cancel, bCx rD]
     refine hK _ _ ?_
     clear hK K
     refine den_stop ?_
     rw [← List.replicate_succ'] at ho8_8
     exact ⟨(m + 1, v8_8, fp8_8), by simp [HasL, puts_at], ⟨by first | omega | (dsimp only; omega), ho8_8, hfho8_8, sb10, cL7⟩, by first | omega | (dsimp only; omega)⟩
    ·try simp only [decide_eq_true_eq, decide_eq_false_iff_not, beq_iff_eq, beq_eq_false_iff_ne, bne_iff_ne, ne_eq, Bool.not_eq_true', Bool.not_eq_false', Bool.and_eq_true, Bool.or_eq_true, bne_eq_false_iff_eq] at c1
     refine den_exit ?_
     refine denX_code ?_
     refine denX_stop ?_
     refine denX_hit ?_
     refine den_region TTok ?_
     intro K hK
     simp -implicitDefEqProofs (disch := first | decide | assumption | omega) only [go_sem, fa58_2, ld56, RdS.len rD sl55, RdS.idx rD sl55, R1.intB rD (Ext.pres eB), RdS.cells rD, RdS.len (OS.rd hO) sl56, RdS.idx (OS.rd hO) sl56, RdS.cellN (OS.rd hO), RdS.cells (OS.rd hO), RdS.len (OS.rd hR) sl59, RdS.idx (OS.rd hR) sl59, RdS.cellN (OS.rd hR), RdS.cells (OS.rd hR), BoxAt.cell hb0_0, BoxAt.cell hbx5, wrap_id, Int.add_sub_cancel, bCx rD]
     refine op_bs1 sz56 rfl (OS.one hR).2 ?_
     try simp -implicitDefEqProofs (disch := first | decide | assumption | omega) only [go_sem, RdS.len rD sl55, RdS.idx rD sl55, R1.intB rD (Ext.pres eB), RdS.cells rD, RdS.len (OS.rd hO) sl56, RdS.idx (OS.rd hO) sl56, RdS.cellN (OS.rd hO), RdS.cells (OS.rd hO), RdS.len (OS.rd hR) sl59, RdS.idx (OS.rd hR) sl59, RdS.cellN (OS.rd hR), RdS.cells (OS.rd hR), BoxAt.cell hb0_0, BoxAt.cell hbx5, wrap_id, Int.add_sub_cancel, bCx rD]
     refine op_append1 sz56 hO hfhO.nodup hR hfhR.nodup (apart_lt hlhO hfhR (by omega)) (by first | omega | (simp; omega)) rfl rfl ?_
     intro v10_4 h10_4 fp10_4 ho10_4 hn10_4 hs10_4 c10_4
     have hsz10_4 := c10_4.size
     have hfho10_4 : Fresh h1_4.size fp10_4 := Fresh.appd hfhO hfhR (by omega) (by omega) hn10_4 hs10_4
     have sb11 : Sub (([] : List Nat) ++ ([h0_0.size])) h1_4.size fp10_4 := Sub.grow sbhO (Sub.fresh hfhR (by omega)) (by omega) hs10_4
     replace hb0_0 := BoxAt.chgA hb0_0 c10_4 (apart_lt hlhb0_0 hfhO (by omega))
     replace hbx5 := BoxAt.chgA hbx5 c10_4 (Apart.symm ap_hO_hbx5)
     have := c10_4.size
     replace eB := Ext.then eB c10_4 (ge_of hfhO (by omega))
     replace cL3 := Chg.step cL3 c10_4 sbhO
     have ap12 : Apart [h0_0.size] fp10_4 := Apart.grow hlhbx5 (by omega) (Apart.symm ap_hO_hbx5) (apart_lt hlhbx5 hfhR (by omega)) hs10_4
     have hlho10_4 := OS.lt ho10_4
     try simp -implicitDefEqProofs (disch := first | decide | assumption | omega) only [go_sem, fa58_2, RdS.len rD sl55, RdS.idx rD sl55, R1.intB rD (Ext.pres eB), RdS.cells rD, RdS.len (OS.rd ho10_4) sl56, RdS.idx (OS.rd ho10_4) sl56, RdS.cellN (OS.rd ho10_4), RdS.cells (OS.rd ho10_4), BoxAt.cell hb0_0, BoxAt.cell hbx5, wrap_id, Int.add_sub_cancel, bCx rD]
     refine op_storeB (cs' := #[.int .i64 (p), v, v10_4]) st56 hbx5 rfl (OS.one ho10_4).2 rfl (by simp) (allOne_mem (l := [v10_4]) ⟨(OS.one ho10_4).1, trivial⟩) rfl ?_
     intro h10_6 hbx5 c10_6
     replace ho10_4 := OS.chg ho10_4 c10_6 (Apart.symm ap12)
     replace hb0_0 := BoxAt.chgA hb0_0 c10_6 (apart_lt hlhb0_0 hfhbx5 (by omega))
     have := c10_6.size
     replace eB := Ext.then eB c10_6 (ge_of hfhbx5 (by omega))
     replace cL3 := Chg.step cL3 c10_6 (Sub.right Sub.refl)
     try simp -implicitDefEqProofs (disch := first | decide | assumption | omega) only [go_sem, RdS.len rD sl55, RdS.idx rD sl55, R1.intB rD (Ext.pres eB), RdS.cells rD, RdS.len (OS.rd ho10_4) sl56, RdS.idx (OS.rd ho10_4) sl56, RdS.cellN (OS.rd ho10_4), RdS.cells (OS.rd ho10_4), BoxAt.cell hb0_0, BoxAt.cell hbx5, wrap_id, Int.add_sub_cancel, bCx rD]
     refine hK _ _ ?_
     clear hK K
     refine den_blk ?_
     refine den_region TTok ?_
     intro K hK
     simp -implicitDefEqProofs (disch := first | decide | assumption | omega) only [go_sem, RdS.len rD sl55, RdS.idx rD sl55, R1.intB rD (Ext.pres eB), RdS.cells rD, RdS.len (OS.rd ho10_4) sl56, RdS.idx (OS.rd ho10_4) sl56, RdS.cellN (OS.rd ho10_4), RdS.cells (OS.rd ho10_4), BoxAt.cell hb0_0, BoxAt.cell hbx5, wrap_id, Int.add_sub_cancel, bCx rD]
     refine hK _ _ ?_
     clear hK K
     refine den_stop ?_
     have em : m = (D.getD (k + 1) 0).toNat := by rw [ek] at hd2 hi0 c1; omega
     rw [em, zblk_step] at ho10_4
     exact ⟨(k + 1, v10_4, fp10_4), by simp [HasL, puts_at], ⟨by first | omega | (dsimp only; omega), ho10_4, hfho10_4, sb11, hbx5, (Apart.symm ap12), cL3⟩, by first | omega | (dsimp only; omega)⟩
  ·try simp only [decide_eq_true_eq, decide_eq_false_iff_not, beq_iff_eq, beq_eq_false_iff_ne, bne_iff_ne, ne_eq, Bool.not_eq_true', Bool.not_eq_false', Bool.and_eq_true, Bool.or_eq_true, bne_eq_false_iff_eq] at c0
   refine den_exit ?_
   refine denX_code ?_
   refine denX_stop ?_
   refine denX_hit ?_
   refine den_seq ?_
   refine den_region TTok ?_
   intro K hK
   simp -implicitDefEqProofs (disch := first | decide | assumption | omega) only [go_sem, ld58, RdS.len rD sl55, RdS.idx rD sl55, R1.intB rD (Ext.pres eB), RdS.cells rD, RdS.len (OS.rd hO) sl56, RdS.idx (OS.rd hO) sl56, RdS.cellN (OS.rd hO), RdS.cells (OS.rd hO), BoxAt.cell hb0_0, BoxAt.cell hbx5, wrap_id, Int.add_sub_cancel, bCx rD]
   refine op_storeB (cs' := #[.int .i64 (p), v, vhO]) st58 hb0_0 rfl rfl rfl (by simp) (allOne_mem (l := [.int .i64 (p), v, vhO]) ⟨rfl, (RdS.one rD), (OS.one hO).1, trivial⟩) rfl ?_
   intro h11_1 hb0_0 c11_1
   replace hO := OS.chg hO c11_1 (apart_gt hfhO hlhb0_0 (by omega))
   replace hbx5 := BoxAt.chgA hbx5 c11_1 (apart_gt hfhbx5 hlhb0_0 (by omega))
   have := c11_1.size
   replace eB := Ext.then eB c11_1 (ge_of hfhb0_0 (by omega))
   try simp -implicitDefEqProofs (disch := first | decide | assumption | omega) only [go_sem, RdS.len rD sl55, RdS.idx rD sl55, R1.intB rD (Ext.pres eB), RdS.cells rD, RdS.len (OS.rd hO) sl56, RdS.idx (OS.rd hO) sl56, RdS.cellN (OS.rd hO), RdS.cells (OS.rd hO), BoxAt.cell hb0_0, BoxAt.cell hbx5, wrap_id, Int.add_sub_cancel, bCx rD]
   refine hK _ _ ?_
   clear hK K
   refine den_ret ?_
   simp -implicitDefEqProofs (disch := first | decide | assumption | omega) only [go_sem, RdS.len rD sl55, RdS.idx rD sl55, R1.intB rD (Ext.pres eB), RdS.cells rD, RdS.len (OS.rd hO) sl56, RdS.idx (OS.rd hO) sl56, RdS.cellN (OS.rd hO), RdS.cells (OS.rd hO), BoxAt.cell hb0_0, BoxAt.cell hbx5, wrap_id, Int.add_sub_cancel, bCx rD, resP_c1, ld58]
   have e : D.length - 1 = k := by omega
   rw [e]
   exact ⟨_, _, rfl, hO, hfhO.mono (by omega), eB⟩
end Go.Proofs.Ytacajcjibhifmaa

namespace Go.Proofs.Ytacajcjibhifmaa
open Go
/-- A function that is called for each number updates a table of one's own. -/
structure ORel (p : Int) (h0 : Heap) (vw : Value) (fw : List Nat) (L : Nat) (A B : Nat → Nat) (Ot : Heap → Prop) (s : M3) (H : Heap) : Prop where
 o : O3 H vw s fw
 sh : Sh L A B s
 i3 : In3 p L A B s
 e : Ext h0 H
 ot : Ot H
section
variable {U : UF} {τ : Nat → Nat → Nat → Nat × Nat × Nat} {ω : Nat → Nat → Nat → Int → Int}
end
end Go.Proofs.Ytacajcjibhifmaa

namespace Go.Proofs.Ytacajcjibhifmaa
open Go
def lessRow (p k : Int) (a b : List Int) : List Int := (List.range a.length).map fun q : Nat => (a.getD q 0 - k * b.getD q 0) % p
set_option maxRecDepth 100000 in
theorem sMod_ok (p : Int) (x : Int) (h : Heap)  (hp : 0 < p ∧ p ≤ 7) (hx : -1000000 ≤ x ∧ x ≤ 1000000) : CallA Try.prog 92 #[.int .i64 p, .int .i64 x] h fun v' h' => v' = .int .i64 (x % p) ∧ Ext h h' := by
 have htm := tmod_in (x := x) hp.1
 refine callA_intro TTok (args := [_, _]) Try.func92 (by kernel_rfl) rfl 12 rfl (by simp) [.tmp 4] rfl ?_
 simp only [idxs, Nat.reduceAdd]
 refine den_seq ?_
 refine den_region TTok ?_
 intro K hK
 simp -implicitDefEqProofs (disch := first | decide | assumption | omega) only [go_sem, wrap_id]
 refine hK _ _ ?_
 clear hK K
 refine den_seq ?_
 refine den_region TTok ?_
 intro K hK
 simp -implicitDefEqProofs (disch := first | decide | assumption | omega) only [go_sem, wrap_id]
 refine hK _ _ ?_
 clear hK K
 refine den_ret ?_
 simp (disch := decide) only [resP_1, puts_same, puts_ne]
 exact ⟨vint (mod_twice hp.1), (Ext.refl _)⟩

set_option maxRecDepth 100000 in
theorem iSign_ok (k : Int) (h : Heap)  (hk : -1000 ≤ k ∧ k ≤ 1000) : CallA Try.prog 44 #[.int .i64 k] h fun v' h' => v' = .int .i64 (1 - k.tmod 2 * 2) ∧ Ext h h' := by
 have htm := tmod_in (p := 2) (x := k) (by decide)
 refine callA_intro TTok (args := [_]) Try.func44 (by kernel_rfl) rfl 7 rfl (by simp) [.tmp 2] rfl ?_
 simp only [idxs, Nat.reduceAdd]
 refine den_seq ?_
 refine den_region TTok ?_
 intro K hK
 simp -implicitDefEqProofs (disch := first | decide | assumption | omega) only [go_sem, wrap_id]
 refine hK _ _ ?_
 clear hK K
 refine den_seq ?_
 refine den_region TTok ?_
 intro K hK
 simp -implicitDefEqProofs (disch := first | decide | assumption | omega) only [go_sem, wrap_id]
 refine hK _ _ ?_
 clear hK K
 refine den_ret ?_
 simp (disch := decide) only [resP_1, puts_same, puts_ne]
 exact ⟨by first | rfl | trivial, (Ext.refl _)⟩
end Go.Proofs.Ytacajcjibhifmaa

namespace Go.Proofs.Ytacajcjibhifmaa
open Go
/-- Congruence modulo p. -/
def Cg (p a b : Int) : Prop := a % p = b % p
theorem Cg.refl {p : Int} (a : Int) : Cg p a a := rfl
theorem Cg.symm {p a b : Int} (h : Cg p a b) : Cg p b a := Eq.symm h
theorem Cg.trans {p a b c : Int} (h : Cg p a b) (k : Cg p b c) : Cg p a c := Eq.trans h k
theorem Cg.add {p a b c d : Int} (h : Cg p a b) (k : Cg p c d) : Cg p (a + c) (b + d) := by
 unfold Cg at *; rw [Int.add_emod, h, k, ← Int.add_emod]
theorem Cg.mul {p a b c d : Int} (h : Cg p a b) (k : Cg p c d) : Cg p (a * c) (b * d) := by
 unfold Cg at *; rw [Int.mul_emod, h, k, ← Int.mul_emod]
theorem Cg.neg {p a b : Int} (h : Cg p a b) : Cg p (-a) (-b) := by
 have := Cg.mul (Cg.refl (p := p) (-1)) h
 rwa [Int.neg_one_mul, Int.neg_one_mul] at this
theorem Cg.sub {p a b c d : Int} (h : Cg p a b) (k : Cg p c d) : Cg p (a - c) (b - d) := by
 rw [Int.sub_eq_add_neg, Int.sub_eq_add_neg]; exact h.add k.neg
theorem Cg.mod {p : Int} (a : Int) : Cg p (a % p) a := Int.emod_emod a p
theorem Cg.eq {p a b : Int} (h : Cg p a b) (ha : 0 ≤ a ∧ a < p) (hb : 0 ≤ b ∧ b < p) : a = b := by
 unfold Cg at h
 rwa [Int.emod_eq_of_lt ha.1 ha.2, Int.emod_eq_of_lt hb.1 hb.2] at h
theorem Cg.of_eq {p a b : Int} (h : a = b) : Cg p a b := by rw [h]; exact Cg.refl _
/-- A sum. -/
def sm : Nat → (Nat → Int) → Int
 | 0, _ => 0
 | n + 1, f => sm n f + f n
theorem sm_cg {p : Int} : ∀ {n : Nat} {f g : Nat → Int}, (∀ i, i < n → Cg p (f i) (g i)) → Cg p (sm n f) (sm n g)
 | 0, _, _, _ => Cg.refl _
 | n + 1, f, g, h => (sm_cg (n := n) fun i hi => h i (by omega)).add (h n (by omega))
theorem sm_zero : ∀ {n : Nat} {f : Nat → Int}, (∀ i, i < n → f i = 0) → sm n f = 0
 | 0, _, _ => rfl
 | n + 1, f, h => by rw [sm, sm_zero (n := n) fun i hi => h i (by omega), h n (by omega)]; rfl
theorem sm_add : ∀ (n : Nat) (f g : Nat → Int), sm n (fun i => f i + g i) = sm n f + sm n g
 | 0, _, _ => rfl
 | n + 1, f, g => by simp only [sm]; rw [sm_add n f g]; omega
theorem sm_mul : ∀ (n : Nat) (k : Int) (f : Nat → Int), sm n (fun i => k * f i) = k * sm n f
 | 0, _, _ => by simp [sm]
 | n + 1, k, f => by simp only [sm]; rw [sm_mul n k f, Int.mul_add]
theorem sm_one : ∀ {n k : Nat} {f : Nat → Int}, k < n → (∀ i, i < n → i ≠ k → f i = 0) → sm n f = f k
 | n + 1, k, f, hk, h => by
  rw [sm]
  by_cases e : k = n
  ·subst e; rw [sm_zero fun i hi => h i (by omega) (by omega), Int.zero_add]
  ·rw [sm_one (n := n) (k := k) (by omega) fun i hi he => h i (by omega) he, h n (by omega) (fun e' => e e'.symm), Int.add_zero]
abbrev g2 (L : List (List Int)) (i j : Nat) : Int := (L.getD i default).getD j 0
/-- v is a sum of multiples of the rows of L, modulo p. -/
def Sp (p : Int) (L : List (List Int)) (v : Nat → Int) : Prop := ∃ c : Nat → Int, ∀ j, Cg p (v j) (sm L.length fun i => c i * g2 L i j)
theorem Sp.row {p : Int} {L : List (List Int)} {i : Nat} (hi : i < L.length) : Sp p L (g2 L i) :=
 ⟨fun k => if k = i then 1 else 0, fun j => by
  rw [sm_one (k := i) hi (fun k _ hk => by simp [hk])]
  simp only [if_true, Int.one_mul]; exact Cg.refl _⟩
theorem Sp.zero {p : Int} {L : List (List Int)} : Sp p L fun _ => 0 := ⟨fun _ => 0, fun j => by rw [sm_zero fun i _ => Int.zero_mul _]; exact Cg.refl _⟩
theorem Sp.add {p : Int} {L : List (List Int)} {v w : Nat → Int} : Sp p L v → Sp p L w → Sp p L fun j => v j + w j
 | ⟨c, hc⟩, ⟨d, hd⟩ => ⟨fun i => c i + d i, fun j => by
  rw [show (fun i => (c i + d i) * g2 L i j) = fun i => c i * g2 L i j + d i * g2 L i j from funext fun i => Int.add_mul _ _ _, sm_add]
  exact (hc j).add (hd j)⟩
theorem Sp.mul {p : Int} {L : List (List Int)} {v : Nat → Int} (k : Int) : Sp p L v → Sp p L fun j => k * v j
 | ⟨c, hc⟩ => ⟨fun i => k * c i, fun j => by
  rw [show (fun i => k * c i * g2 L i j) = fun i => k * (c i * g2 L i j) from funext fun i => Int.mul_assoc _ _ _, sm_mul]
  exact (Cg.refl k).mul (hc j)⟩
theorem Sp.cg {p : Int} {L : List (List Int)} {v w : Nat → Int} (h : ∀ j, Cg p (w j) (v j)) : Sp p L v → Sp p L w
 | ⟨c, hc⟩ => ⟨c, fun j => (h j).trans (hc j)⟩
theorem Sp.sub {p : Int} {L : List (List Int)} {v w : Nat → Int} (k : Int) (h1 : Sp p L v) (h2 : Sp p L w) : Sp p L fun j => v j - k * w j :=
 (h1.add (h2.mul (-k))).cg fun j => Cg.of_eq (by rw [Int.neg_mul]; omega)
/-- All rows of A are in the span of B. -/
def Le (p : Int) (A B : List (List Int)) : Prop := ∀ i, i < A.length → Sp p B (g2 A i)
theorem Sp.sm {p : Int} {B : List (List Int)} {v : Nat → Nat → Int} : ∀ {n : Nat} (_ : ∀ i, i < n → Sp p B (v i)) (c : Nat → Int), Sp p B fun j => sm n fun i => c i * v i j
 | 0, _, _ => Sp.zero
 | n + 1, h, c => (Sp.sm (n := n) (fun i hi => h i (by omega)) c).add ((h n (by omega)).mul (c n))
theorem Sp.le {p : Int} {A B : List (List Int)} {v : Nat → Int} (h : Le p A B) : Sp p A v → Sp p B v
 | ⟨c, hc⟩ => (Sp.sm h c).cg hc
theorem Le.refl {p : Int} {A : List (List Int)} : Le p A A := fun _ hi => Sp.row hi
theorem Le.trans {p : Int} {A B C : List (List Int)} (h : Le p A B) (k : Le p B C) : Le p A C := fun i hi => (h i hi).le k
def Eqv (p : Int) (A B : List (List Int)) : Prop := Le p A B ∧ Le p B A
theorem Eqv.refl {p : Int} {A : List (List Int)} : Eqv p A A := ⟨Le.refl, Le.refl⟩
theorem Eqv.symm {p : Int} {A B : List (List Int)} (h : Eqv p A B) : Eqv p B A := ⟨h.2, h.1⟩
theorem Eqv.trans {p : Int} {A B C : List (List Int)} (h : Eqv p A B) (k : Eqv p B C) : Eqv p A C := ⟨h.1.trans k.1, k.2.trans h.2⟩
/-- L is reduced: its rows begin with a 1 at the places l, from left to right, and have 0 at the others' places. -/
structure Rr (p : Int) (w : Nat) (L : List (List Int)) (l : Nat → Nat) : Prop where
 len : ∀ i, i < L.length → (L.getD i default).length = w
 bnd : ∀ i, i < L.length → Bnd p (L.getD i default)
 lt : ∀ i, i < L.length → l i < w
 one : ∀ i, i < L.length → g2 L i (l i) = 1
 zb : ∀ i j, i < L.length → j < l i → g2 L i j = 0
 inc : ∀ i k, i < k → k < L.length → l i < l k
 cl : ∀ i k, i < L.length → k < L.length → k ≠ i → g2 L k (l i) = 0
theorem g2_out {L : List (List Int)} {i j : Nat} (h : (L.getD i default).length ≤ j) : g2 L i j = 0 := by
 rw [g2, List.getD_eq_getElem?_getD, List.getElem?_eq_none h]; rfl
theorem Rr.coef {p : Int} {w : Nat} {L : List (List Int)} {l : Nat → Nat} (r : Rr p w L l) {v : Nat → Int} : Sp p L v → ∀ j, Cg p (v j) (sm L.length fun i => v (l i) * g2 L i j)
 | ⟨c, hc⟩ => fun j => (hc j).trans (sm_cg fun i hi => Cg.mul (Cg.symm ((hc (l i)).trans (Cg.of_eq (by
  rw [sm_one (k := i) hi (fun k hk he => by rw [r.cl i k hi hk he, Int.mul_zero]), r.one i hi, Int.mul_one])))) (Cg.refl _))
theorem rows_ext {A B : List (List Int)} (hl : A.length = B.length) (hr : ∀ i, i < A.length → (A.getD i default).length = (B.getD i default).length) (h : ∀ i j, i < A.length → j < (A.getD i default).length → g2 A i j = g2 B i j) : A = B := by
 apply List.ext_getElem hl
 intro i h1 h2
 have e1 : A.getD i default = A[i] := by rw [List.getD_eq_getElem?_getD, List.getElem?_eq_getElem h1]; rfl
 have e2 : B.getD i default = B[i] := by rw [List.getD_eq_getElem?_getD, List.getElem?_eq_getElem h2]; rfl
 have hri := hr i h1
 have hi := h i
 simp only [g2] at hi
 rw [e1, e2] at hri hi
 apply List.ext_getElem hri
 intro j k1 k2
 have := hi j h1 k1
 rwa [List.getD_eq_getElem?_getD, List.getD_eq_getElem?_getD, List.getElem?_eq_getElem k1, List.getElem?_eq_getElem k2] at this
/-- With the same places, a reduced list in the span of another one is that one. -/
theorem Rr.same {p : Int} {w : Nat} {L M : List (List Int)} {l m : Nat → Nat} (r : Rr p w L l) (s : Rr p w M m) (hlen : L.length = M.length) (hlm : ∀ k, k < L.length → m k = l k) (h : Le p L M) : L = M := by
 refine rows_ext hlen (fun i hi => by rw [r.len i hi, s.len i (by omega)]) (fun i j hi hj => ?_)
 have hc := s.coef (h i hi) j
 have e : sm M.length (fun k => g2 L i (m k) * g2 M k j) = g2 M i j := by
  rw [sm_one (k := i) (by omega) (fun k hk he => by rw [hlm k (by omega), r.cl k i (by omega) hi (Ne.symm he), Int.zero_mul]), hlm i hi, r.one i hi, Int.one_mul]
 rw [e] at hc
 rw [r.len i hi] at hj
 exact hc.eq ((r.bnd i hi).at (by rw [r.len i hi]; exact hj)) ((s.bnd i (by omega)).at (by rw [s.len i (by omega)]; exact hj))
theorem Rr.nil {p : Int} {w : Nat} {l : Nat → Nat} : Rr p w [] l := ⟨fun i h => by simp at h, fun i h => by simp at h, fun i h => by simp at h, fun i h => by simp at h, fun i j h => by simp at h, fun i k _ h => by simp at h, fun i k h => by simp at h⟩
theorem lessRow_len (p k : Int) (a b : List Int) : (lessRow p k a b).length = a.length := by simp [lessRow]
theorem lessRow_get (p k : Int) {a b : List Int} {c : Nat} (h : c < a.length) : (lessRow p k a b).getD c 0 = (a.getD c 0 - k * b.getD c 0) % p := getD_map_range (α := Int) (fun q : Nat => (a.getD q 0 - k * b.getD q 0) % p) h
theorem getD_out {xs : List Int} {j : Nat} (h : xs.length ≤ j) : xs.getD j 0 = 0 := by rw [List.getD_eq_getElem?_getD, List.getElem?_eq_none h]; rfl
theorem lessRow_cg (p k : Int) {a b : List Int} (hl : b.length ≤ a.length) (j : Nat) : Cg p ((lessRow p k a b).getD j 0) (a.getD j 0 - k * b.getD j 0) := by
 rcases Nat.lt_or_ge j a.length with h | h
 ·rw [lessRow_get p k h]; exact Cg.mod _
 ·rw [getD_out (by rw [lessRow_len]; exact h), getD_out h, getD_out (by omega), Int.mul_zero]; exact Cg.refl _
theorem bnd_map {p : Int} (hp : 0 < p) (f : Nat → Int) (n : Nat) : Bnd p ((List.range n).map fun q => f q % p) := fun x hx => by
 obtain ⟨q, _, rfl⟩ := List.mem_map.1 hx
 exact ⟨Int.emod_nonneg _ (by omega), Int.emod_lt_of_pos _ hp⟩
theorem lessRow_bnd {p : Int} (hp : 0 < p) (k : Int) (a b : List Int) : Bnd p (lessRow p k a b) := bnd_map hp _ _
section
variable {p : Int} {w : Nat} {L : List (List Int)} {l : Nat → Nat}
/-- In the span of a reduced list, nothing but 0 has 0 at all its places. -/
theorem Rr.zero (r : Rr p w L l) {v : Nat → Int} (h : Sp p L v) (hz : ∀ i, i < L.length → Cg p (v (l i)) 0) (j : Nat) : Cg p (v j) 0 :=
 (r.coef h j).trans ((sm_cg (g := fun _ => 0) fun i hi => ((hz i hi).mul (Cg.refl _)).trans (Cg.of_eq (Int.zero_mul _))).trans (Cg.of_eq (sm_zero fun _ _ => rfl)))
end
theorem isP_two {p : Int} (h : isP p = true) : 1 < p ∧ p ≤ 7 := by
 simp only [isP, Bool.or_eq_true, beq_iff_eq] at h; omega
section
variable {p : Int} {w : Nat} {L : List (List Int)} {l : Nat → Nat} {own : List Int} {at_ : Nat}
structure OwnOk (p : Int) (w : Nat) (L : List (List Int)) (l : Nat → Nat) (own : List Int) (at_ : Nat) : Prop where
 len : own.length = w
 bnd : Bnd p own
 lt : at_ < w
 one : own.getD at_ 0 = 1
 zb : ∀ j, j < at_ → own.getD j 0 = 0
 cl : ∀ i, i < L.length → own.getD (l i) 0 = 0
theorem Sp.at {L : List (List Int)} {i : Nat} {r : List Int} (hi : i < L.length) (e : L.getD i default = r) : Sp p L fun j => r.getD j 0 := by
 have := Sp.row (p := p) hi
 subst e; exact this
/-- So far, a list is the reduced one of some rows. -/
def Red (p : Int) (w : Nat) (L rows : List (List Int)) : Prop := (∃ l, Rr p w L l) ∧ Eqv p L rows
theorem Red.nil : Red p w [] [] := ⟨⟨fun i => i, Rr.nil⟩, Eqv.refl⟩
end
def clrP (p : Int) (d c : Nat) (M : List (List Int)) (n : Nat) : List (List Int) := (List.range M.length).map fun i => if i < n ∧ i ≠ d then lessRow p (g2 M i c) (M.getD i default) (M.getD d default) else M.getD i default
theorem clrP_len (p : Int) (d c : Nat) (M : List (List Int)) (n : Nat) : (clrP p d c M n).length = M.length := by simp [clrP]
theorem clrP_get {p : Int} {d c : Nat} {M : List (List Int)} {n i : Nat} (hi : i < M.length) : (clrP p d c M n).getD i default = if i < n ∧ i ≠ d then lessRow p (g2 M i c) (M.getD i default) (M.getD d default) else M.getD i default := getD_map_range (α := List Int) (fun i : Nat => if i < n ∧ i ≠ d then lessRow p (g2 M i c) (M.getD i default) (M.getD d default) else M.getD i default) hi
section
variable {p : Int} {w : Nat} {rows M : List (List Int)} {l : Nat → Nat} {d c : Nat}
/-- The program's reduction behind c columns, of which d have brought a row. -/
structure RI (p : Int) (w : Nat) (rows M : List (List Int)) (l : Nat → Nat) (d c : Nat) : Prop where
 ln : M.length = rows.length
 len : ∀ i, i < M.length → (M.getD i default).length = w
 bnd : ∀ i, i < M.length → Bnd p (M.getD i default)
 eqv : Eqv p M rows
 dl : d ≤ M.length
 lt : ∀ i, i < d → l i < c
 one : ∀ i, i < d → g2 M i (l i) = 1
 zb : ∀ i j, i < d → j < l i → g2 M i j = 0
 inc : ∀ i k, i < k → k < d → l i < l k
 cl : ∀ i k, i < d → k < M.length → k ≠ i → g2 M k (l i) = 0
 nul : ∀ k j, d ≤ k → k < M.length → j < c → g2 M k j = 0
theorem RI.clear (hP : isP p = true) (r : RI p w rows M l d c) (hd : d < M.length) (hc : c < w) (h1 : g2 M d c = 1) : RI p w rows (clrP p d c M M.length) (fun i => if i = d then c else l i) (d + 1) (c + 1) := by
 have hp := isP_two hP
 have hl := clrP_len p d c M M.length
 have gt := fun {i : Nat} (hi : i < M.length) => clrP_get (p := p) (d := d) (c := c) (n := M.length) hi
 have gd : ∀ j, g2 (clrP p d c M M.length) d j = g2 M d j := fun j => by rw [g2, gt hd, if_neg (by omega)]
 have gn : ∀ i j, i < M.length → i ≠ d → j < w → g2 (clrP p d c M M.length) i j = (g2 M i j - g2 M i c * g2 M d j) % p := fun i j hi hne hj => by
  rw [g2, gt hi, if_pos ⟨hi, hne⟩, lessRow_get p _ (by rw [r.len i hi]; exact hj)]
 have cg : ∀ i j, i < M.length → i ≠ d → Cg p (g2 (clrP p d c M M.length) i j) (g2 M i j - g2 M i c * g2 M d j) := fun i j hi hne => by
  rw [g2, gt hi, if_pos ⟨hi, hne⟩]
  exact lessRow_cg p _ (by rw [r.len i hi, r.len d hd]; exact Nat.le_refl _) j
 have small : ∀ {x : Int}, 0 ≤ x ∧ x < p → x % p = x := fun h => Int.emod_eq_of_lt h.1 h.2
 -- left of column c nothing has changed
 have old : ∀ i j, i < M.length → j < c → g2 (clrP p d c M M.length) i j = g2 M i j := fun i j hi hj => by
  by_cases e : i = d
  ·subst e; exact gd j
  ·rw [gn i j hi e (by omega), r.nul d j (Nat.le_refl _) hd hj, Int.mul_zero, Int.sub_zero]
   exact small ((r.bnd i hi).at (k := j) (by rw [r.len i hi]; omega))
 have atc : ∀ i, i < M.length → i ≠ d → g2 (clrP p d c M M.length) i c = 0 := fun i hi hne => by
  rw [gn i c hi hne hc, h1, Int.mul_one, Int.sub_self, Int.zero_emod]
 refine ⟨by rw [hl]; exact r.ln, fun i hi => ?_, fun i hi => ?_, ⟨fun i hi => ?_, fun i hi => ?_⟩, by rw [hl]; exact hd, fun i hi => ?_, fun i hi => ?_, fun i j hi hj => ?_, fun i k hik hk => ?_, fun i k hi hk hne => ?_, fun k j hk hk2 hj => ?_⟩
 ·rw [hl] at hi; rw [gt hi]
  split
  ·rw [lessRow_len]; exact r.len i hi
  ·exact r.len i hi
 ·rw [hl] at hi; rw [gt hi]
  split
  ·exact lessRow_bnd (by omega) _ _ _
  ·exact r.bnd i hi
 ·rw [hl] at hi
  by_cases e : i = d
  ·subst e; exact (r.eqv.1 i hi).cg fun j => Cg.of_eq (gd j)
  ·exact ((r.eqv.1 i hi).sub (g2 M i c) (r.eqv.1 d hd)).cg fun j => cg i j hi e
 ·refine (r.eqv.2 i hi).le fun q hq => ?_
  have sd : Sp p (clrP p d c M M.length) (g2 M d) := (Sp.row (p := p) (L := clrP p d c M M.length) (i := d) (by rw [hl]; exact hd)).cg fun j => Cg.of_eq (gd j).symm
  by_cases e : q = d
  ·subst e; exact sd
  ·refine ((Sp.row (p := p) (L := clrP p d c M M.length) (i := q) (by rw [hl]; exact hq)).add (sd.mul (g2 M q c))).cg fun j => ?_
   exact ((Cg.add (cg q j hq e) (Cg.refl _)).trans (Cg.of_eq (by omega))).symm
 ·show (if i = d then c else l i) < c + 1
  split
  ·omega
  ·have := r.lt i (by omega); omega
 ·show g2 _ i (if i = d then c else l i) = 1
  by_cases e : i = d
  ·rw [if_pos e, e, gd]; exact h1
  ·rw [if_neg e, old i _ (by omega) (r.lt i (by omega))]; exact r.one i (by omega)
 ·by_cases e : i = d
  ·simp only [if_pos e] at hj
   rw [e, gd]; exact r.nul d j (Nat.le_refl _) hd hj
  ·simp only [if_neg e] at hj
   have := r.lt i (by omega)
   rw [old i j (by omega) (by omega)]; exact r.zb i j (by omega) hj
 ·show (if i = d then c else l i) < (if k = d then c else l k)
  rw [if_neg (by omega)]
  by_cases e : k = d
  ·rw [if_pos e]; exact r.lt i (by omega)
  ·rw [if_neg e]; exact r.inc i k hik (by omega)
 ·rw [hl] at hk
  show g2 _ k (if i = d then c else l i) = 0
  by_cases e : i = d
  ·rw [if_pos e]; exact atc k hk (by omega)
  ·rw [if_neg e, old k _ hk (r.lt i (by omega))]; exact r.cl i k (by omega) hk hne
 ·rw [hl] at hk2
  rcases Nat.lt_succ_iff_lt_or_eq.1 hj with h' | h'
  ·rw [old k j hk2 h']; exact r.nul k j (by omega) hk2 h'
  ·rw [h']; exact atc k hk2 (by omega)
theorem take_get {α : Type} {xs : List α} {d : α} {i n : Nat} (hi : i < n) : (xs.take n).getD i d = xs.getD i d := by
 rw [List.getD_eq_getElem?_getD, List.getElem?_take, if_pos hi, List.getD_eq_getElem?_getD]
theorem RI.end (hP : isP p = true) (r : RI p w rows M l d c) (h : d = M.length ∨ w ≤ c) : Red p w (M.take d) rows := by
 have hl : (M.take d).length = d := by have := r.dl; simp; omega
 have gt : ∀ i j, i < d → g2 (M.take d) i j = g2 M i j := fun i j hi => by rw [g2, take_get hi]
 have dl := r.dl
 have out : ∀ i j, i < M.length → w ≤ j → g2 M i j = 0 := fun i j hi hj => g2_out (by rw [r.len i hi]; exact hj)
 have ltw : ∀ i, i < d → l i < w := fun i hi => by
  apply Nat.lt_of_not_le
  intro hle
  have := r.one i hi
  rw [out i _ (by omega) hle] at this; omega
 refine ⟨⟨l, ⟨fun i hi => ?_, fun i hi => ?_, fun i hi => ?_, fun i hi => ?_, fun i j hi hj => ?_, fun i k hik hk => ?_, fun i k hi hk hne => ?_⟩⟩, ⟨fun i hi => ?_, fun i hi => ?_⟩⟩
 ·rw [hl] at hi; rw [take_get hi]; exact r.len i (by omega)
 ·rw [hl] at hi; rw [take_get hi]; exact r.bnd i (by omega)
 ·rw [hl] at hi; exact ltw i hi
 ·rw [hl] at hi; rw [gt i _ hi]; exact r.one i hi
 ·rw [hl] at hi; rw [gt i _ hi]; exact r.zb i j hi hj
 ·rw [hl] at hk; exact r.inc i k hik hk
 ·rw [hl] at hi hk; rw [gt k _ hk]; exact r.cl i k hi (by omega) hne
 ·rw [hl] at hi; exact (r.eqv.1 i (by omega)).cg fun j => Cg.of_eq (gt i j hi)
 ·refine (r.eqv.2 i hi).le fun k hk => ?_
  rcases Nat.lt_or_ge k d with h1 | h1
  ·exact Sp.at (i := k) (by rw [hl]; exact h1) (take_get h1)
  ·refine Sp.zero.cg fun j => Cg.of_eq ?_
   rcases h with h2 | h2
   ·omega
   ·rcases Nat.lt_or_ge j c with h3 | h3
    ·exact r.nul k j h1 hk h3
    ·exact out k j hk (by omega)
end
end Go.Proofs.Ytacajcjibhifmaa

namespace Go.Proofs.Ytacajcjibhifmaa
open Go
/-- An algebra, as data. -/
structure Dg where
 p : Int
 s : Int
 deg : Nat → Int
 lev : Nat → Int
 dif : Nat → Nat → Int
 tab : Nat → Nat → Nat → Int
def z8 : Nat → Int := fun _ => 0
def upd (u : Nat → Int) (i : Nat) (x : Int) : Nat → Int := fun k => if k = i then x else u k
/-- Eight bytes. -/
def elA (u : Nat → Int) : Array Value := #[.int .u8 (u 0), .int .u8 (u 1), .int .u8 (u 2), .int .u8 (u 3), .int .u8 (u 4), .int .u8 (u 5), .int .u8 (u 6), .int .u8 (u 7)]
theorem nat8 {i : Nat} (h : i < 8) : i = 0 ∨ i = 1 ∨ i = 2 ∨ i = 3 ∨ i = 4 ∨ i = 5 ∨ i = 6 ∨ i = 7 := by omega
theorem elA_at {u : Nat → Int} {i : Nat} (h : i < 8) : (elA u)[i]? = some (.int .u8 (u i)) := by
 rcases nat8 h with rfl | rfl | rfl | rfl | rfl | rfl | rfl | rfl <;> rfl
theorem elA_upd {u : Nat → Int} {i : Nat} {x : Int} (h : i < 8) : ((elA u).toList.take i ++ (#[Value.int .u8 x] : Array Value).toList ++ (elA u).toList.drop (i + 1)).toArray = elA (upd u i x) := by
 rcases nat8 h with rfl | rfl | rfl | rfl | rfl | rfl | rfl | rfl <;> rfl
theorem elA_all {u v : Nat → Int} : ((elA u).toList.take 0 ++ (elA v).toList ++ (elA u).toList.drop (0 + 8)).toArray = elA v := rfl
theorem elA_one {u : Nat → Int} : ∀ v ∈ (elA u).toList, v.oneCell' = true := by
 intro v hv
 simp only [elA, List.mem_cons, List.not_mem_nil, or_false] at hv
 rcases hv with rfl | rfl | rfl | rfl | rfl | rfl | rfl | rfl <;> rfl
theorem u8_one {x : Int} : ∀ v ∈ (#[Value.int .u8 x] : Array Value).toList, v.oneCell' = true := by
 intro v hv
 simp only [List.mem_cons, List.not_mem_nil, or_false] at hv
 subst hv; rfl
theorem elA_sz (u : Nat → Int) : (elA u).size = 8 := rfl
/-- Whether the eight numbers are the same. -/
noncomputable def eqE (u v : Nat → Int) : Bool := @decide (∀ i, i < 8 → u i = v i) (Classical.propDecidable _)
theorem eqE_iff {u v : Nat → Int} : eqE u v = true ↔ ∀ i, i < 8 → u i = v i := @decide_eq_true_iff _ (Classical.propDecidable _)
theorem intsV_el (u : Nat → Int) : intsV .u8 (elA u) = some [u 0, u 1, u 2, u 3, u 4, u 5, u 6, u 7] := rfl
theorem eqE_list (u v : Nat → Int) : ([u 0, u 1, u 2, u 3, u 4, u 5, u 6, u 7] == [v 0, v 1, v 2, v 3, v 4, v 5, v 6, v 7]) = eqE u v := by
 rw [Bool.eq_iff_iff, eqE_iff, beq_iff_eq]
 constructor
 ·intro h
  simp only [List.cons.injEq, and_true] at h
  intro i hi
  rcases nat8 hi with rfl | rfl | rfl | rfl | rfl | rfl | rfl | rfl <;> simp [h]
 ·intro h
  simp only [List.cons.injEq, and_true]
  exact ⟨h 0 (by omega), h 1 (by omega), h 2 (by omega), h 3 (by omega), h 4 (by omega), h 5 (by omega), h 6 (by omega), h 7 (by omega)⟩
theorem bin_arr {T : Tab} {t e : TypeId} (ht : (T t).map (·.desc) = some (.array 8 e)) (he : (T e).map (fun y => (y.desc, y.size)) = some (.int .u8, 1)) (u v : Nat → Int) : binV T .eql t (.agg (elA u)) (.agg (elA v)) = some (.bool (eqE u v)) ∧ binV T .neq t (.agg (elA u)) (.agg (elA v)) = some (.bool (!eqE u v)) := by
 obtain ⟨x, hx, hd⟩ := Option.map_eq_some_iff.1 ht
 obtain ⟨y, hy, hs⟩ := Option.map_eq_some_iff.1 he
 simp only [Prod.mk.injEq] at hs
 constructor <;> simp [binV, hx, hd, hy, hs.1, hs.2, intsV_el, ← eqE_list]
theorem eq_el (u v : Nat → Int) : binV TT .eql 30 (.agg (elA u)) (.agg (elA v)) = some (.bool (eqE u v)) := (bin_arr (e := 5) (by kernel_rfl) (by kernel_rfl) u v).1
theorem ne_el (u v : Nat → Int) : binV TT .neq 30 (.agg (elA u)) (.agg (elA v)) = some (.bool (!eqE u v)) := (bin_arr (e := 5) (by kernel_rfl) (by kernel_rfl) u v).2
theorem build_el : buildV TT 30 [] = some (.agg (elA z8)) := by kernel_rfl
/-- The cell at a place of an algebra. -/
def dgF (X : Dg) (o : Nat) : Value := if o = 0 then .int .i64 X.p else if o = 1 then .int .i64 X.s else if o < 10 then .int .i64 (X.deg (o - 2)) else if o < 18 then .int .i64 (X.lev (o - 10)) else if o < 82 then .int .u8 (X.dif ((o - 18) / 8) ((o - 18) % 8)) else .int .u8 (X.tab ((o - 82) / 64) ((o - 82) / 8 % 8) ((o - 82) % 8))
def dgA (X : Dg) : Array Value := Array.ofFn (n := 594) fun i => dgF X i
theorem dgA_size (X : Dg) : (dgA X).size = 594 := Array.size_ofFn
theorem dgA_at {X : Dg} {o : Nat} (h : o < 594) : (dgA X)[o]? = some (dgF X o) := by
 rw [dgA, Array.getElem?_ofFn, dif_pos h]
theorem dgF_deg {X : Dg} {i : Nat} (h : i < 8) : dgF X (2 + i) = .int .i64 (X.deg i) := by
 unfold dgF
 rw [if_neg (by omega), if_neg (by omega), if_pos (by omega), show 2 + i - 2 = i by omega]
theorem dgF_lev {X : Dg} {i : Nat} (h : i < 8) : dgF X (10 + i) = .int .i64 (X.lev i) := by
 unfold dgF
 rw [if_neg (by omega), if_neg (by omega), if_neg (by omega), if_pos (by omega), show 10 + i - 10 = i by omega]
theorem dgF_dif {X : Dg} {i k : Nat} (h : i < 8) (hk : k < 8) : dgF X (18 + i * 8 + k) = .int .u8 (X.dif i k) := by
 unfold dgF
 rw [if_neg (by omega), if_neg (by omega), if_neg (by omega), if_neg (by omega), if_pos (by omega), show (18 + i * 8 + k - 18) / 8 = i by omega, show (18 + i * 8 + k - 18) % 8 = k by omega]
theorem dgF_tab {X : Dg} {i j k : Nat} (h : i < 8) (hj : j < 8) (hk : k < 8) : dgF X (82 + i * 64 + j * 8 + k) = .int .u8 (X.tab i j k) := by
 unfold dgF
 rw [if_neg (by omega), if_neg (by omega), if_neg (by omega), if_neg (by omega), if_neg (by omega), show (82 + i * 64 + j * 8 + k - 82) / 64 = i by omega, show (82 + i * 64 + j * 8 + k - 82) / 8 % 8 = j by omega, show (82 + i * 64 + j * 8 + k - 82) % 8 = k by omega]
section
variable {h : Heap} {b : Nat} {cs : Array Value} {t : TypeId} {u : Nat → Int} {X : Dg}
theorem hcells_arr (hb : BoxAt h b cs t) (f : Nat → Value) (o : Nat) : ∀ (n i : Nat), (∀ q, i ≤ q → q < i + n → cs[o + q]? = some (f q)) → hcells h ⟨b, o, none⟩ i n = some ((List.range' i n).map f)
 | 0, i, _ => rfl
 | n + 1, i, hq => by
  rw [hcells, addr_add, hb.cell, hq i (by omega) (by omega), Option.bind_some, hcells_arr hb f o n (i + 1) (fun q h1 h2 => hq q (by omega) (by omega))]
  rfl
theorem BoxAt.elC (hb : BoxAt h b (elA u) t) {i : Nat} (hi : i < 8) : hcell h ⟨b, i, none⟩ = some (.int .u8 (u i)) := by rw [hb.cell, elA_at hi]
theorem BoxAt.elL (hb : BoxAt h b (elA u) t) : loadV TT h 30 ⟨b, 0, none⟩ = some (.agg (elA u)) := by
 rw [ld30, hcells_arr hb (fun q => .int .u8 (u q)) 0 8 0 (fun q _ h2 => by rw [Nat.zero_add]; exact elA_at (by omega))]
 rfl
theorem el_at (hb : BoxAt h b (dgA X) t) {o : Nat} {v : Nat → Int} (ho : o + 8 ≤ 594) (hv : ∀ q, q < 8 → dgF X (o + q) = .int .u8 (v q)) : loadV TT h 30 ⟨b, o, none⟩ = some (.agg (elA v)) := by
 rw [ld30, hcells_arr hb (fun q => .int .u8 (v q)) o 8 0 (fun q _ h2 => by rw [dgA_at (by omega), hv q (by omega)])]
 rfl
theorem BoxAt.dgP (hb : BoxAt h b (dgA X) t) : hcell h ⟨b, 0, none⟩ = some (.int .i64 X.p) := by rw [hb.cell, dgA_at (by omega)]; rfl
theorem BoxAt.dgS (hb : BoxAt h b (dgA X) t) : hcell h ⟨b, 1, none⟩ = some (.int .i64 X.s) := by rw [hb.cell, dgA_at (by omega)]; rfl
theorem BoxAt.dgDeg (hb : BoxAt h b (dgA X) t) {i : Nat} (hi : i < 8) : hcell h ⟨b, 2 + i, none⟩ = some (.int .i64 (X.deg i)) := by rw [hb.cell, dgA_at (by omega), dgF_deg hi]
theorem BoxAt.dgLev (hb : BoxAt h b (dgA X) t) {i : Nat} (hi : i < 8) : hcell h ⟨b, 10 + i, none⟩ = some (.int .i64 (X.lev i)) := by rw [hb.cell, dgA_at (by omega), dgF_lev hi]
theorem BoxAt.dgDeg0 (hb : BoxAt h b (dgA X) t) : hcell h ⟨b, 2, none⟩ = some (.int .i64 (X.deg 0)) := hb.dgDeg (i := 0) (by omega)
theorem BoxAt.dgLev0 (hb : BoxAt h b (dgA X) t) : hcell h ⟨b, 10, none⟩ = some (.int .i64 (X.lev 0)) := hb.dgLev (i := 0) (by omega)
theorem BoxAt.dgDifL (hb : BoxAt h b (dgA X) t) {i : Nat} (hi : i < 8) : loadV TT h 30 ⟨b, 18 + i * 8, none⟩ = some (.agg (elA (X.dif i))) := el_at hb (by omega) fun q hq => dgF_dif hi hq
theorem BoxAt.dgTabL (hb : BoxAt h b (dgA X) t) {i j : Nat} (hi : i < 8) (hj : j < 8) : loadV TT h 30 ⟨b, 82 + i * 64 + j * 8, none⟩ = some (.agg (elA (X.tab i j))) := el_at hb (by omega) fun q hq => dgF_tab hi hj hq
theorem BoxAt.dgTabL0 (hb : BoxAt h b (dgA X) t) {j : Nat} (hj : j < 8) : loadV TT h 30 ⟨b, 82 + j * 8, none⟩ = some (.agg (elA (X.tab 0 j))) := hb.dgTabL (i := 0) (by omega) hj
theorem BoxAt.dgTabL1 (hb : BoxAt h b (dgA X) t) {i : Nat} (hi : i < 8) : loadV TT h 30 ⟨b, 82 + i * 64, none⟩ = some (.agg (elA (X.tab i 0))) := hb.dgTabL (j := 0) hi (by omega)
theorem BoxAt.dgTabL1' (hb : BoxAt h b (dgA X) t) {i : Nat} (hi : i < 8) : loadV TT h 30 ⟨b, 82 + i * 64 + 0, none⟩ = some (.agg (elA (X.tab i 0))) := hb.dgTabL (j := 0) hi (by omega)
theorem BoxAt.dgDifB (hb : BoxAt h b (dgA X) t) {i k : Nat} (hi : i < 8) (hk : k < 8) : hcell h ⟨b, 18 + i * 8 + k, none⟩ = some (.int .u8 (X.dif i k)) := by rw [hb.cell, dgA_at (by omega), dgF_dif hi hk]
theorem BoxAt.dgTabB (hb : BoxAt h b (dgA X) t) {i j k : Nat} (hi : i < 8) (hj : j < 8) (hk : k < 8) : hcell h ⟨b, 82 + i * 64 + j * 8 + k, none⟩ = some (.int .u8 (X.tab i j k)) := by rw [hb.cell, dgA_at (by omega), dgF_tab hi hj hk]
theorem BoxAt.dgL (hb : BoxAt h b (dgA X) t) : loadV TT h 34 ⟨b, 0, none⟩ = some (.agg (dgA X)) := by
 rw [ld34, hcells_arr hb (dgF X) 0 594 0 (fun q _ h2 => by rw [Nat.zero_add]; exact dgA_at (by omega)), Option.map_some]
 refine congrArg (fun z => some (Value.agg z)) (Array.ext_getElem? fun q => ?_)
 rw [dgA, Array.getElem?_ofFn, List.getElem?_toArray, List.getElem?_map]
 by_cases hq : q < 594
 ·rw [dif_pos hq, List.getElem?_range' hq, Option.map_some]
  simp
 ·rw [dif_neg hq, List.getElem?_eq_none (by rw [List.length_range']; omega)]; rfl
end
end Go.Proofs.Ytacajcjibhifmaa

namespace Go.Proofs.Ytacajcjibhifmaa
open Go
theorem wrap_u8 {x : Int} (h : 0 ≤ x ∧ x ≤ 255) : IntKind.u8.wrap x = x := by
 simp [IntKind.wrap, IntKind.signed, IntKind.bits]
 omega
theorem cv_u8 {k : IntKind} {x : Int} : convV TT 5 2 (.int k x) = some (.int .i64 (IntKind.i64.wrap x)) := by kernel_rfl
theorem cv_i64 {k : IntKind} {x : Int} : convV TT 2 5 (.int k x) = some (.int .u8 (IntKind.u8.wrap x)) := by kernel_rfl
/-- Bytes. -/
def By (u : Nat → Int) : Prop := ∀ i, 0 ≤ u i ∧ u i ≤ 255
theorem By.z8 : By z8 := fun _ => ⟨Int.le_refl _, by show (0 : Int) ≤ 255; omega⟩
def isEl (p s : Int) (u : Nat → Int) : Prop := ∀ i, i < 8 → u i < p ∧ (s ≤ (i : Int) → u i = 0)
noncomputable def isElB (p s : Int) (u : Nat → Int) : Bool := @decide (isEl p s u) (Classical.propDecidable _)
theorem isElB_t {p s : Int} {u : Nat → Int} : isElB p s u = true ↔ isEl p s u := @decide_eq_true_iff _ (Classical.propDecidable _)
theorem isElB_y {p s : Int} {u : Nat → Int} (h : isEl p s u) : true = isElB p s u := (isElB_t.2 h).symm
theorem isElB_n {p s : Int} {u : Nat → Int} (h : ¬ isEl p s u) : false = isElB p s u := by
 cases e : isElB p s u
 ·rfl
 ·exact absurd (isElB_t.1 e) h
def e8 (i : Nat) : Nat → Int := upd z8 i 1
theorem e8_by (i : Nat) : By (e8 i) := fun k => by unfold e8 upd z8; split <;> omega
def plusN (p : Int) (u v : Nat → Int) (k : Int) (n : Nat) : Nat → Int := fun i => if i < n then (u i + k * v i) % p else u i
theorem plusN_0 (p : Int) (u v : Nat → Int) (k : Int) : plusN p u v k 0 = u := by funext i; simp [plusN]
theorem plusN_at (p : Int) (u v : Nat → Int) (k : Int) (n : Nat) : plusN p u v k n n = u n := by simp [plusN]
theorem plusN_step (p : Int) (u v : Nat → Int) (k : Int) (n : Nat) : upd (plusN p u v k n) n ((u n + k * v n) % p) = plusN p u v k (n + 1) := by
 funext i
 unfold upd plusN
 by_cases h : i = n
 ·subst h; rw [if_pos rfl, if_pos (by omega)]
 ·rw [if_neg h]
  by_cases h2 : i < n
  ·rw [if_pos h2, if_pos (by omega)]
  ·rw [if_neg h2, if_neg (by omega)]
theorem plusN_by {p : Int} {u v : Nat → Int} {k : Int} {n : Nat} (hp : 0 < p ∧ p ≤ 7) (hu : By u) : By (plusN p u v k n) := fun i => by
 unfold plusN
 split
 ·have h1 := Int.emod_nonneg (u i + k * v i) (show p ≠ 0 by omega)
  have h2 := Int.emod_lt_of_pos (u i + k * v i) hp.1
  omega
 ·exact hu i
theorem km_ok {p k : Int} (hp : 0 < p) : Int.tmod (Int.tmod k p + p) p = k % p := by
 have h1 : k.tmod p = k % p - ↑(if 0 ≤ k ∨ p ∣ k then 0 else p.natAbs) := Int.tmod_eq_emod
 have h2 := Int.emod_nonneg k (show p ≠ 0 by omega)
 have h3 := Int.emod_lt_of_pos k hp
 rw [h1]
 split
 ·rw [show ((0 : Nat) : Int) = 0 from rfl, Int.sub_zero, Int.tmod_eq_emod_of_nonneg (by omega), Int.add_emod_right, Int.emod_emod_of_dvd _ (Int.dvd_refl p)]
 ·have e : (p.natAbs : Int) = p := by omega
  rw [e, Int.sub_add_cancel, Int.tmod_eq_emod_of_nonneg h2, Int.emod_emod_of_dvd _ (Int.dvd_refl p)]
theorem km_step {p k x y : Int} (hp : 0 < p) (hx : 0 ≤ x) (hy : 0 ≤ y) : Int.tmod (x + (k % p) * y) p = (x + k * y) % p := by
 have h2 := Int.emod_nonneg k (show p ≠ 0 by omega)
 have h3 := Int.mul_nonneg h2 hy
 rw [Int.tmod_eq_emod_of_nonneg (by omega), Int.add_emod, Int.mul_emod, Int.emod_emod_of_dvd _ (Int.dvd_refl p), ← Int.mul_emod, ← Int.add_emod]
theorem km_bnd {p k y : Int} (hp : 0 < p ∧ p ≤ 7) (hy : 0 ≤ y ∧ y ≤ 255) : 0 ≤ (k % p) * y ∧ (k % p) * y ≤ 1530 := by
 have h2 := Int.emod_nonneg k (show p ≠ 0 by omega)
 have h3 := Int.emod_lt_of_pos k hp.1
 have h4 := Int.mul_nonneg h2 hy.1
 have h5 := Int.mul_le_mul (show k % p ≤ 6 by omega) hy.2 hy.1 (by omega)
 omega

set_option maxRecDepth 100000 in
theorem iEl_ok (X : Dg) (u : Nat → Int) (h : Heap)  (hu : By u) : CallA Try.prog 48 #[.agg (dgA X), .agg (elA u)] h fun v' h' => v' = .bool (isElB X.p X.s u) ∧ Ext h h' := by
 refine callA_intro TTok (args := [_, _]) Try.func48 (by kernel_rfl) rfl 28 rfl (by simp) [.tmp 4] rfl ?_
 simp only [idxs, Nat.reduceAdd]
 refine den_seq ?_
 refine den_region TTok ?_
 intro K hK
 simp -implicitDefEqProofs (disch := first | decide | assumption | omega) only [go_sem, wrap_id, cv_u8, cv_i64, Nat.zero_add, wrap_u8, eq_el, ne_el, build_el]
 refine op_box (cs := dgA X) rfl ?_
 intro h0_0 e0_0 hb0_0 z0_0
 have := Ext.size e0_0
 have eB := e0_0
 have hfhb0_0 : Fresh h.size [h.size] := Fresh.one _
 have hlhb0_0 := one_lt (show h.size < h0_0.size by omega)
 try simp -implicitDefEqProofs (disch := first | decide | assumption | omega) only [go_sem, wrap_id, cv_u8, cv_i64, Nat.zero_add, wrap_u8, eq_el, ne_el, build_el]
 refine op_box (cs := elA u) rfl ?_
 intro h0_1 e0_1 hb0_1 z0_1
 replace hb0_0 := BoxAt.ext hb0_0 e0_1
 have := Ext.size e0_1
 replace eB := Ext.trans eB e0_1
 have hfhb0_1 : Fresh h0_0.size [h0_0.size] := Fresh.one _
 have hlhb0_1 := one_lt (show h0_0.size < h0_1.size by omega)
 try simp -implicitDefEqProofs (disch := first | decide | assumption | omega) only [go_sem, wrap_id, cv_u8, cv_i64, Nat.zero_add, wrap_u8, eq_el, ne_el, build_el]
 refine hK _ _ ?_
 clear hK K
 refine den_seq ?_
 refine den_seq ?_
 refine den_region TTok ?_
 intro K hK
 simp -implicitDefEqProofs (disch := first | decide | assumption | omega) only [go_sem, BoxAt.elC hb0_1, BoxAt.elL hb0_1, wrap_id, cv_u8, cv_i64, Nat.zero_add, wrap_u8, eq_el, ne_el, build_el]
 refine hK _ _ ?_
 clear hK K
 refine den_block ?_
 refine den_sel [8, 2, 7] ?_
 intro env_1
 simp only [go_sem]
 refine den_loopS (σ := Nat) (fun st_ => [(8, .int .i64 (st_ : Int))]) (fun st_ H => (st_ ≤ 8) ∧ (∀ a, a < st_ → u a < X.p ∧ (X.s ≤ (a : Int) → u a = 0)) ∧ (Ext h0_1 H)) (fun st_ => 8 - st_) 0 ?_ ?_
 ·exact ⟨by omega, fun a h => by omega, Ext.refl _⟩
 ·rintro i h4 ee3 ⟨hi, hz, cL2⟩
  replace hb0_0 := BoxAt.ext hb0_0 cL2
  replace hb0_1 := BoxAt.ext hb0_1 cL2
  have := Ext.size cL2
  replace eB := Ext.trans eB cL2
  simp only [List.cons_append, List.nil_append]
  have hui := hu i
  refine den_seq ?_
  refine den_region TTok ?_
  intro K hK
  simp -implicitDefEqProofs (disch := first | decide | assumption | omega) only [go_sem, wrap_id, cv_u8, cv_i64, Nat.zero_add, wrap_u8, eq_el, ne_el, build_el]
  refine hK _ _ ?_
  clear hK K
  refine den_seq ?_
  refine den_cond rfl (fun c0 => ?_) (fun c0 => ?_)
  ·try simp only [decide_eq_true_eq, decide_eq_false_iff_not, beq_iff_eq, beq_eq_false_iff_ne, bne_iff_ne, ne_eq, Bool.not_eq_true', Bool.not_eq_false', Bool.and_eq_true, Bool.or_eq_true, bne_eq_false_iff_eq, Bool.or_eq_false_iff, Bool.and_eq_false_iff] at c0
   refine den_skip ?_
   refine den_seq ?_
   refine den_block ?_
   refine den_seq ?_
   refine den_region TTok ?_
   intro K hK
   simp -implicitDefEqProofs (disch := first | decide | assumption | omega) only [go_sem, elA_at, ix30, wrap_id, cv_u8, cv_i64, Nat.zero_add, wrap_u8, eq_el, ne_el, build_el]
   refine hK _ _ ?_
   clear hK K
   refine den_seq ?_
   refine den_mergeH [(26, .bool (((decide (X.p ≤ (u i))) || ((decide (X.s ≤ (i : Int))) && ((u i) != (0 : Int))))))] [2, 7, 8] ?_ ?_
    -- a way
   ·refine den_region TTok ?_
    intro K hK
    simp -implicitDefEqProofs (disch := first | decide | assumption | (simp (disch := decide) only [slotOf_zero, slotOf_succ, Option.map_some, puts_same, puts_ne, gv_bool, gv_undef, tt, tf, ft, ff, eq_self, if_true, if_false, Bool.false_eq_true, Bool.not_true, Bool.not_false]; done) | omega) only [go_sem, T2, T5, fa34_0, ld2, BoxAt.dgL hb0_0, BoxAt.dgP hb0_0, BoxAt.dgS hb0_0, BoxAt.dgDeg hb0_0, BoxAt.dgLev hb0_0, BoxAt.dgDeg0 hb0_0, BoxAt.dgLev0 hb0_0, BoxAt.dgDifL hb0_0, BoxAt.dgTabL hb0_0, BoxAt.dgTabL0 hb0_0, BoxAt.dgTabL1 hb0_0, BoxAt.dgTabL1' hb0_0, BoxAt.dgDifB hb0_0, BoxAt.dgTabB hb0_0, wrap_id, cv_u8, cv_i64, Nat.zero_add, wrap_u8, eq_el, ne_el, build_el]
    refine opsP_F (by simp (disch := decide) only [slotOf_zero, slotOf_succ, Option.map_some, puts_same, puts_ne, gv_bool, gv_undef, tt, tf, ft, ff, eq_self, if_true, if_false, Bool.false_eq_true, Bool.not_true, Bool.not_false]; rfl) (fun g5 => ?_) (fun g5 => ?_)
    ·try simp -implicitDefEqProofs (disch := first | decide | assumption | (simp (disch := decide) only [slotOf_zero, slotOf_succ, Option.map_some, puts_same, puts_ne, gv_bool, gv_undef, tt, tf, ft, ff, eq_self, if_true, if_false, Bool.false_eq_true, Bool.not_true, Bool.not_false, g5]; done) | omega) only [go_sem, fa34_1, ld2, BoxAt.dgL hb0_0, BoxAt.dgP hb0_0, BoxAt.dgS hb0_0, BoxAt.dgDeg hb0_0, BoxAt.dgLev hb0_0, BoxAt.dgDeg0 hb0_0, BoxAt.dgLev0 hb0_0, BoxAt.dgDifL hb0_0, BoxAt.dgTabL hb0_0, BoxAt.dgTabL0 hb0_0, BoxAt.dgTabL1 hb0_0, BoxAt.dgTabL1' hb0_0, BoxAt.dgDifB hb0_0, BoxAt.dgTabB hb0_0, wrap_id, cv_u8, cv_i64, Nat.zero_add, wrap_u8, eq_el, ne_el, build_el, g5, eq_self, if_true, if_false, Bool.false_eq_true]
     refine opsP_T (by simp (disch := decide) only [slotOf_zero, slotOf_succ, Option.map_some, puts_same, puts_ne, gv_bool, gv_undef, tt, tf, ft, ff, eq_self, if_true, if_false, Bool.false_eq_true, Bool.not_true, Bool.not_false, g5]; rfl) (fun g6 => ?_) (fun g6 => ?_)
     ·try simp -implicitDefEqProofs (disch := first | decide | assumption | (simp (disch := decide) only [slotOf_zero, slotOf_succ, Option.map_some, puts_same, puts_ne, gv_bool, gv_undef, tt, tf, ft, ff, eq_self, if_true, if_false, Bool.false_eq_true, Bool.not_true, Bool.not_false, g5, g6]; done) | omega) only [go_sem, wrap_id, cv_u8, cv_i64, Nat.zero_add, wrap_u8, eq_el, ne_el, build_el, g5, g6, eq_self, if_true, if_false, Bool.false_eq_true]
      refine hK _ _ ?_
      clear hK K
      refine den_stop ?_
      refine ⟨?_, rfl⟩
      first | (simp (disch := decide) only [go_sem, g5, g6, eq_self, Bool.true_and, Bool.and_true, Bool.false_and, Bool.and_false, Bool.true_or, Bool.or_true, Bool.false_or, Bool.or_false, if_true, if_false, Bool.false_eq_true]; done) | simp [HasL, sel, puts_at, g5, g6]
     ·try simp -implicitDefEqProofs (disch := first | decide | assumption | (simp (disch := decide) only [slotOf_zero, slotOf_succ, Option.map_some, puts_same, puts_ne, gv_bool, gv_undef, tt, tf, ft, ff, eq_self, if_true, if_false, Bool.false_eq_true, Bool.not_true, Bool.not_false, g5, g6]; done) | omega) only [go_sem, wrap_id, cv_u8, cv_i64, Nat.zero_add, wrap_u8, eq_el, ne_el, build_el, g5, g6, eq_self, if_true, if_false, Bool.false_eq_true]
      refine hK _ _ ?_
      clear hK K
      refine den_stop ?_
      refine ⟨?_, rfl⟩
      first | (simp (disch := decide) only [go_sem, g5, g6, eq_self, Bool.true_and, Bool.and_true, Bool.false_and, Bool.and_false, Bool.true_or, Bool.or_true, Bool.false_or, Bool.or_false, if_true, if_false, Bool.false_eq_true]; done) | simp [HasL, sel, puts_at, g5, g6]
    ·try simp -implicitDefEqProofs (disch := first | decide | assumption | (simp (disch := decide) only [slotOf_zero, slotOf_succ, Option.map_some, puts_same, puts_ne, gv_bool, gv_undef, tt, tf, ft, ff, eq_self, if_true, if_false, Bool.false_eq_true, Bool.not_true, Bool.not_false, g5]; done) | omega) only [go_sem, wrap_id, cv_u8, cv_i64, Nat.zero_add, wrap_u8, eq_el, ne_el, build_el, g5, eq_self, if_true, if_false, Bool.false_eq_true]
     try simp -implicitDefEqProofs (disch := first | decide | assumption | (simp (disch := decide) only [slotOf_zero, slotOf_succ, Option.map_some, puts_same, puts_ne, gv_bool, gv_undef, tt, tf, ft, ff, eq_self, if_true, if_false, Bool.false_eq_true, Bool.not_true, Bool.not_false, g5]; done) | omega) only [go_sem, wrap_id, cv_u8, cv_i64, Nat.zero_add, wrap_u8, eq_el, ne_el, build_el, g5, eq_self, if_true, if_false, Bool.false_eq_true]
     refine hK _ _ ?_
     clear hK K
     refine den_stop ?_
     refine ⟨?_, rfl⟩
     first | (simp (disch := decide) only [go_sem, g5, eq_self, Bool.true_and, Bool.and_true, Bool.false_and, Bool.and_false, Bool.true_or, Bool.or_true, Bool.false_or, Bool.or_false, if_true, if_false, Bool.false_eq_true]; done) | simp [HasL, sel, puts_at, g5]
   intro en7
   simp (disch := decide) only [go_sem]
   refine den_cond rfl (fun c1 => ?_) (fun c1 => ?_)
   ·try simp only [decide_eq_true_eq, decide_eq_false_iff_not, beq_iff_eq, beq_eq_false_iff_ne, bne_iff_ne, ne_eq, Bool.not_eq_true', Bool.not_eq_false', Bool.and_eq_true, Bool.or_eq_true, bne_eq_false_iff_eq, Bool.or_eq_false_iff, Bool.and_eq_false_iff] at c1
    refine den_seq ?_
    refine den_region TTok ?_
    intro K hK
    simp -implicitDefEqProofs (disch := first | decide | assumption | omega) only [go_sem, wrap_id, cv_u8, cv_i64, Nat.zero_add, wrap_u8, eq_el, ne_el, build_el]
    refine hK _ _ ?_
    clear hK K
    refine den_ret ?_
    simp (disch := decide) only [resP_1, puts_same, puts_ne]
    exact ⟨vbool (isElB_n (fun hh => by have h1 := hh i (by omega); have h2 := c1; omega)), eB⟩
   ·try simp only [decide_eq_true_eq, decide_eq_false_iff_not, beq_iff_eq, beq_eq_false_iff_ne, bne_iff_ne, ne_eq, Bool.not_eq_true', Bool.not_eq_false', Bool.and_eq_true, Bool.or_eq_true, bne_eq_false_iff_eq, Bool.or_eq_false_iff, Bool.and_eq_false_iff] at c1
    refine den_skip ?_
    refine den_blk ?_
    refine den_region TTok ?_
    intro K hK
    simp -implicitDefEqProofs (disch := first | decide | assumption | omega) only [go_sem, wrap_id, cv_u8, cv_i64, Nat.zero_add, wrap_u8, eq_el, ne_el, build_el]
    refine hK _ _ ?_
    clear hK K
    refine den_stop ?_
    exact ⟨i + 1, by simp [HasL, puts_at], ⟨by first | omega | (dsimp only; omega), fun a ha => by
 by_cases hai : a < i
 ·exact hz a hai
 ·rw [show a = i by omega]; have h1 := c1; exact ⟨by omega, fun h2 => by omega⟩, cL2⟩, by first | omega | (dsimp only; omega)⟩
  ·try simp only [decide_eq_true_eq, decide_eq_false_iff_not, beq_iff_eq, beq_eq_false_iff_ne, bne_iff_ne, ne_eq, Bool.not_eq_true', Bool.not_eq_false', Bool.and_eq_true, Bool.or_eq_true, bne_eq_false_iff_eq, Bool.or_eq_false_iff, Bool.and_eq_false_iff] at c0
   refine den_exit ?_
   refine denX_code ?_
   refine denX_stop ?_
   refine denX_hit ?_
   refine den_seq ?_
   refine den_region TTok ?_
   intro K hK
   simp -implicitDefEqProofs (disch := first | decide | assumption | omega) only [go_sem, wrap_id, cv_u8, cv_i64, Nat.zero_add, wrap_u8, eq_el, ne_el, build_el]
   refine hK _ _ ?_
   clear hK K
   refine den_ret ?_
   simp (disch := decide) only [resP_1, puts_same, puts_ne]
   exact ⟨vbool (isElB_y (fun a ha => hz a (by omega))), eB⟩

set_option maxRecDepth 100000 in
theorem iBas_ok (X : Dg) (n : Int) (h : Heap)  (hn : 0 ≤ n ∧ n < 8) : CallA Try.prog 52 #[.agg (dgA X), .int .i64 n] h fun v' h' => v' = .agg (elA (e8 n.toNat)) ∧ Ext h h' := by
 refine callA_intro TTok (args := [_, _]) Try.func52 (by kernel_rfl) rfl 10 rfl (by simp) [.cell 4 30] rfl ?_
 simp only [idxs, Nat.reduceAdd]
 refine den_seq ?_
 refine den_region TTok ?_
 intro K hK
 simp -implicitDefEqProofs (disch := first | decide | assumption | omega) only [go_sem, wrap_id, cv_u8, cv_i64, Nat.zero_add, wrap_u8, eq_el, ne_el, build_el]
 refine op_box (cs := dgA X) rfl ?_
 intro h0_0 e0_0 hb0_0 z0_0
 have := Ext.size e0_0
 have eB := e0_0
 have hfhb0_0 : Fresh h.size [h.size] := Fresh.one _
 have hlhb0_0 := one_lt (show h.size < h0_0.size by omega)
 try simp -implicitDefEqProofs (disch := first | decide | assumption | omega) only [go_sem, wrap_id, cv_u8, cv_i64, Nat.zero_add, wrap_u8, eq_el, ne_el, build_el]
 refine op_alloc (cs := elA z8) (by kernel_rfl) ?_
 intro h0_1 e0_1 hb0_1 z0_1
 replace hb0_0 := BoxAt.ext hb0_0 e0_1
 have := Ext.size e0_1
 replace eB := Ext.trans eB e0_1
 have hfhb0_1 : Fresh h0_0.size [h0_0.size] := Fresh.one _
 have hlhb0_1 := one_lt (show h0_0.size < h0_1.size by omega)
 try simp -implicitDefEqProofs (disch := first | decide | assumption | omega) only [go_sem, BoxAt.elC hb0_1, BoxAt.elL hb0_1, wrap_id, cv_u8, cv_i64, Nat.zero_add, wrap_u8, eq_el, ne_el, build_el]
 refine hK _ _ ?_
 clear hK K
 refine den_seq ?_
 refine den_region TTok ?_
 intro K hK
 simp -implicitDefEqProofs (disch := first | decide | assumption | omega) only [go_sem, wrap_id, cv_u8, cv_i64, Nat.zero_add, wrap_u8, eq_el, ne_el, build_el]
 refine op_alloc (cs := elA z8) (by kernel_rfl) ?_
 intro h1_1 e1_1 hb1_1 z1_1
 replace hb0_1 := BoxAt.ext hb0_1 e1_1
 have := Ext.size e1_1
 replace eB := Ext.trans eB e1_1
 have hfhb1_1 : Fresh h0_1.size [h0_1.size] := Fresh.one _
 have hlhb1_1 := one_lt (show h0_1.size < h1_1.size by omega)
 try simp -implicitDefEqProofs (disch := first | decide | assumption | omega) only [go_sem, BoxAt.elC hb0_1, BoxAt.elL hb0_1, wrap_id, cv_u8, cv_i64, Nat.zero_add, wrap_u8, eq_el, ne_el, build_el]
 refine op_storeB (o := 0) (cs' := elA z8) st30 hb1_1 rfl rfl (elA_sz _) (by rw [elA_sz]; decide) elA_one elA_all ?_
 intro h1_2 hb1_1 c1_2
 replace hb0_1 := BoxAt.chgA hb0_1 c1_2 (apart_lt hlhb0_1 hfhb1_1 (by omega))
 have := c1_2.size
 replace eB := Ext.then eB c1_2 (ge_of hfhb1_1 (by omega))
 try simp -implicitDefEqProofs (disch := first | decide | assumption | omega) only [go_sem, BoxAt.elC hb0_1, BoxAt.elL hb0_1, wrap_id, cv_u8, cv_i64, Nat.zero_add, wrap_u8, eq_el, ne_el, build_el]
 refine hK _ _ ?_
 clear hK K
 refine den_seq ?_
 refine den_region TTok ?_
 intro K hK
 simp -implicitDefEqProofs (disch := first | decide | assumption | omega) only [go_sem, Int.toNat_zero, ia30, BoxAt.elC hb1_1, BoxAt.elL hb1_1, wrap_id, cv_u8, cv_i64, Nat.zero_add, wrap_u8, eq_el, ne_el, build_el]
 refine op_storeB (o := (n).toNat) (vs := #[.int .u8 (1 : Int)]) (cs' := elA (upd z8 (n).toNat (1 : Int))) st5 hb1_1 rfl rfl rfl (by show _ + 1 ≤ 8; omega) u8_one (elA_upd (by omega)) ?_
 intro h2_2 hb1_1 c2_2
 replace hb0_1 := BoxAt.chgA hb0_1 c2_2 (apart_lt hlhb0_1 hfhb1_1 (by omega))
 have := c2_2.size
 replace eB := Ext.then eB c2_2 (ge_of hfhb1_1 (by omega))
 try simp -implicitDefEqProofs (disch := first | decide | assumption | omega) only [go_sem, BoxAt.elC hb0_1, BoxAt.elL hb0_1, wrap_id, cv_u8, cv_i64, Nat.zero_add, wrap_u8, eq_el, ne_el, build_el]
 refine hK _ _ ?_
 clear hK K
 refine den_seq ?_
 refine den_region TTok ?_
 intro K hK
 simp -implicitDefEqProofs (disch := first | decide | assumption | omega) only [go_sem, BoxAt.elC hb1_1, BoxAt.elL hb1_1, wrap_id, cv_u8, cv_i64, Nat.zero_add, wrap_u8, eq_el, ne_el, build_el]
 refine op_storeB (o := 0) (cs' := elA (upd z8 (n).toNat (1 : Int))) st30 hb0_1 rfl rfl (elA_sz _) (by rw [elA_sz]; decide) elA_one elA_all ?_
 intro h3_1 hb0_1 c3_1
 replace hb1_1 := BoxAt.chgA hb1_1 c3_1 (apart_gt hfhb1_1 hlhb0_1 (by omega))
 have := c3_1.size
 replace eB := Ext.then eB c3_1 (ge_of hfhb0_1 (by omega))
 try simp -implicitDefEqProofs (disch := first | decide | assumption | omega) only [go_sem, BoxAt.elC hb0_1, BoxAt.elL hb0_1, wrap_id, cv_u8, cv_i64, Nat.zero_add, wrap_u8, eq_el, ne_el, build_el]
 refine hK _ _ ?_
 clear hK K
 refine den_ret ?_
 simp -implicitDefEqProofs (disch := first | decide | assumption | omega) only [go_sem, BoxAt.elC hb0_1, BoxAt.elL hb0_1, wrap_id, cv_u8, cv_i64, Nat.zero_add, wrap_u8, eq_el, ne_el, build_el, resP_c1, ld30]
 exact ⟨by first | rfl | trivial, eB⟩

set_option maxRecDepth 100000 in
set_option maxHeartbeats 4000000 in
theorem iPls_ok (X : Dg) (u : Nat → Int) (v : Nat → Int) (k : Int) (h : Heap)  (hp : 0 < X.p ∧ X.p ≤ 7) (hu : By u) (hv : By v) (hk : -100000 ≤ k ∧ k ≤ 100000) : CallA Try.prog 43 #[.agg (dgA X), .agg (elA u), .agg (elA v), .int .i64 k] h fun v' h' => v' = .agg (elA (plusN X.p u v k 8)) ∧ Ext h h' := by
 have hkm := km_ok (k := k) hp.1
 have htb := tmod_in (x := k) hp.1
 refine callA_intro TTok (args := [_, _, _, _]) Try.func43 (by kernel_rfl) rfl 43 rfl (by simp) [.cell 8 30] rfl ?_
 simp only [idxs, Nat.reduceAdd]
 refine den_seq ?_
 refine den_region TTok ?_
 intro K hK
 simp -implicitDefEqProofs (disch := first | decide | assumption | omega) only [go_sem, wrap_id, cv_u8, cv_i64, Nat.zero_add, wrap_u8, eq_el, ne_el, build_el]
 refine op_box (cs := dgA X) rfl ?_
 intro h0_0 e0_0 hb0_0 z0_0
 have := Ext.size e0_0
 have eB := e0_0
 have hfhb0_0 : Fresh h.size [h.size] := Fresh.one _
 have hlhb0_0 := one_lt (show h.size < h0_0.size by omega)
 try simp -implicitDefEqProofs (disch := first | decide | assumption | omega) only [go_sem, wrap_id, cv_u8, cv_i64, Nat.zero_add, wrap_u8, eq_el, ne_el, build_el]
 refine op_box (cs := elA u) rfl ?_
 intro h0_1 e0_1 hb0_1 z0_1
 replace hb0_0 := BoxAt.ext hb0_0 e0_1
 have := Ext.size e0_1
 replace eB := Ext.trans eB e0_1
 have hfhb0_1 : Fresh h0_0.size [h0_0.size] := Fresh.one _
 have hlhb0_1 := one_lt (show h0_0.size < h0_1.size by omega)
 try simp -implicitDefEqProofs (disch := first | decide | assumption | omega) only [go_sem, wrap_id, cv_u8, cv_i64, Nat.zero_add, wrap_u8, eq_el, ne_el, build_el]
 refine op_box (cs := elA v) rfl ?_
 intro h0_2 e0_2 hb0_2 z0_2
 replace hb0_0 := BoxAt.ext hb0_0 e0_2
 replace hb0_1 := BoxAt.ext hb0_1 e0_2
 have := Ext.size e0_2
 replace eB := Ext.trans eB e0_2
 have hfhb0_2 : Fresh h0_1.size [h0_1.size] := Fresh.one _
 have hlhb0_2 := one_lt (show h0_1.size < h0_2.size by omega)
 try simp -implicitDefEqProofs (disch := first | decide | assumption | omega) only [go_sem, wrap_id, cv_u8, cv_i64, Nat.zero_add, wrap_u8, eq_el, ne_el, build_el]
 refine op_alloc (cs := elA z8) (by kernel_rfl) ?_
 intro h0_3 e0_3 hb0_3 z0_3
 replace hb0_0 := BoxAt.ext hb0_0 e0_3
 replace hb0_1 := BoxAt.ext hb0_1 e0_3
 replace hb0_2 := BoxAt.ext hb0_2 e0_3
 have := Ext.size e0_3
 replace eB := Ext.trans eB e0_3
 have hfhb0_3 : Fresh h0_2.size [h0_2.size] := Fresh.one _
 have hlhb0_3 := one_lt (show h0_2.size < h0_3.size by omega)
 try simp -implicitDefEqProofs (disch := first | decide | assumption | omega) only [go_sem, BoxAt.elC hb0_3, BoxAt.elL hb0_3, wrap_id, cv_u8, cv_i64, Nat.zero_add, wrap_u8, eq_el, ne_el, build_el]
 refine hK _ _ ?_
 clear hK K
 refine den_seq ?_
 refine den_draw TTok mixed [] [(0, true), (1, true), (2, true), (3, true), (4, true), (5, true), (6, true), (7, true), (8, true), (9, true), (10, true)] (by kernel_rfl) ?_
 intro K hK
 simp -implicitDefEqProofs (disch := first | decide | assumption | omega) only [go_sem, fa34_0, ld2, BoxAt.dgL hb0_0, BoxAt.dgP hb0_0, BoxAt.dgS hb0_0, BoxAt.dgDeg hb0_0, BoxAt.dgLev hb0_0, BoxAt.dgDeg0 hb0_0, BoxAt.dgLev0 hb0_0, BoxAt.dgDifL hb0_0, BoxAt.dgTabL hb0_0, BoxAt.dgTabL0 hb0_0, BoxAt.dgTabL1 hb0_0, BoxAt.dgTabL1' hb0_0, BoxAt.dgDifB hb0_0, BoxAt.dgTabB hb0_0, wrap_id, cv_u8, cv_i64, Nat.zero_add, wrap_u8, eq_el, ne_el, build_el, hkm]
 refine hK _ _ ?_
 clear hK K
 refine den_seq ?_
 refine den_seq ?_
 refine den_region TTok ?_
 intro K hK
 simp -implicitDefEqProofs (disch := first | decide | assumption | omega) only [go_sem, BoxAt.elC hb0_2, BoxAt.elL hb0_2, wrap_id, cv_u8, cv_i64, Nat.zero_add, wrap_u8, eq_el, ne_el, build_el]
 refine hK _ _ ?_
 clear hK K
 refine den_block ?_
 refine den_sel [22, 3, 4, 5, 8, 21] ?_
 intro env_1
 simp only [go_sem]
 refine den_loopS (σ := Nat) (fun st_ => [(22, .int .i64 (st_ : Int))]) (fun st_ H => (st_ ≤ 8) ∧ (BoxAt H (h0_0.size) (elA (plusN X.p u v k st_)) 30) ∧ (Chg [h0_0.size] h0_3 H)) (fun st_ => 8 - st_) 0 ?_ ?_
 ·exact ⟨by first | (simp; done) | (dsimp only; omega) | (simp; omega), by rw [plusN_0]; exact hb0_1, Chg.refl _ _⟩
 ·rintro i h4 ee3 ⟨hi0, hbx5, cL2⟩
  replace hb0_0 := BoxAt.chgA hb0_0 cL2 (apart_lt hlhb0_0 hfhb0_1 (by omega))
  replace hb0_2 := BoxAt.chgA hb0_2 cL2 (apart_gt hfhb0_2 hlhb0_1 (by omega))
  replace hb0_3 := BoxAt.chgA hb0_3 cL2 (apart_gt hfhb0_3 hlhb0_1 (by omega))
  have := cL2.size
  replace eB := Ext.then eB cL2 (ge_of hfhb0_1 (by omega))
  have hfhbx5 := hfhb0_1
  have hlhbx5 := hlhb0_1
  simp only [List.cons_append, List.nil_append]
  refine den_seq ?_
  refine den_region TTok ?_
  intro K hK
  simp -implicitDefEqProofs (disch := first | decide | assumption | omega) only [go_sem, wrap_id, cv_u8, cv_i64, Nat.zero_add, wrap_u8, eq_el, ne_el, build_el]
  refine hK _ _ ?_
  clear hK K
  refine den_seq ?_
  refine den_cond rfl (fun c0 => ?_) (fun c0 => ?_)
  ·try simp only [decide_eq_true_eq, decide_eq_false_iff_not, beq_iff_eq, beq_eq_false_iff_ne, bne_iff_ne, ne_eq, Bool.not_eq_true', Bool.not_eq_false', Bool.and_eq_true, Bool.or_eq_true, bne_eq_false_iff_eq] at c0
   refine den_skip ?_
   refine den_seq ?_
   refine den_block ?_
   refine den_seq ?_
   refine den_region TTok ?_
   intro K hK
   simp -implicitDefEqProofs (disch := first | decide | assumption | omega) only [go_sem, elA_at, ix30, wrap_id, cv_u8, cv_i64, Nat.zero_add, wrap_u8, eq_el, ne_el, build_el]
   refine hK _ _ ?_
   clear hK K
   have hui := hu i
   have hvi := hv i
   have hpi := plusN_at X.p u v k i
   have hte := km_step (k := k) hp.1 hui.1 hvi.1
   have hkb := km_bnd (k := k) hp hvi
   have hm0 := Int.emod_nonneg (u i + k * v i) (show X.p ≠ 0 by omega)
   have hm1 := Int.emod_lt_of_pos (u i + k * v i) hp.1
   have hk0 := Int.emod_nonneg k (show X.p ≠ 0 by omega)
   have hk1 := Int.emod_lt_of_pos k hp.1
   refine den_draw TTok mixed [15] [(0, true), (1, true), (2, true), (3, true), (4, true), (5, true), (6, true), (7, true), (8, true), (9, true), (10, true), (11, true), (12, true), (13, true), (14, true), (15, false)] (by kernel_rfl) ?_
   intro K hK
   simp -implicitDefEqProofs (disch := first | decide | assumption | omega) only [go_sem, Int.toNat_zero, T2, T5, fa34_0, ia30, ld2, ld5, BoxAt.dgL hb0_0, BoxAt.dgP hb0_0, BoxAt.dgS hb0_0, BoxAt.dgDeg hb0_0, BoxAt.dgLev hb0_0, BoxAt.dgDeg0 hb0_0, BoxAt.dgLev0 hb0_0, BoxAt.dgDifL hb0_0, BoxAt.dgTabL hb0_0, BoxAt.dgTabL0 hb0_0, BoxAt.dgTabL1 hb0_0, BoxAt.dgTabL1' hb0_0, BoxAt.dgDifB hb0_0, BoxAt.dgTabB hb0_0, BoxAt.elC hbx5, BoxAt.elL hbx5, wrap_id, cv_u8, cv_i64, Nat.zero_add, wrap_u8, eq_el, ne_el, build_el, hpi, hte]
   refine op_storeB (o := i) (vs := #[.int .u8 ((u i + k * v i) % X.p)]) (cs' := elA (upd (plusN X.p u v k i) i ((u i + k * v i) % X.p))) st5 hbx5 rfl rfl rfl (by show _ + 1 ≤ 8; omega) u8_one (elA_upd (by omega)) ?_
   intro h5_15 hbx5 c5_15
   replace hb0_0 := BoxAt.chgA hb0_0 c5_15 (apart_lt hlhb0_0 hfhbx5 (by omega))
   replace hb0_3 := BoxAt.chgA hb0_3 c5_15 (apart_gt hfhb0_3 hlhbx5 (by omega))
   have := c5_15.size
   replace eB := Ext.then eB c5_15 (ge_of hfhbx5 (by omega))
   replace cL2 := Chg.step cL2 c5_15 Sub.refl
   try simp (disch := decide) only [outv_some, outv_none, put_puts]
   refine plK_last (by decide) ?_
   try simp -implicitDefEqProofs (disch := first | decide | assumption | omega) only [go_sem, BoxAt.elC hb0_3, BoxAt.elL hb0_3, wrap_id, cv_u8, cv_i64, Nat.zero_add, wrap_u8, eq_el, ne_el, build_el, hpi, hte]
   refine hK _ _ ?_
   clear hK K
   refine den_blk ?_
   refine den_region TTok ?_
   intro K hK
   simp -implicitDefEqProofs (disch := first | decide | assumption | omega) only [go_sem, wrap_id, cv_u8, cv_i64, Nat.zero_add, wrap_u8, eq_el, ne_el, build_el]
   refine hK _ _ ?_
   clear hK K
   refine den_stop ?_
   rw [plusN_step] at hbx5
   exact ⟨i + 1, by simp [HasL, puts_at], ⟨by first | omega | (dsimp only; omega), hbx5, cL2⟩, by first | omega | (dsimp only; omega)⟩
  ·try simp only [decide_eq_true_eq, decide_eq_false_iff_not, beq_iff_eq, beq_eq_false_iff_ne, bne_iff_ne, ne_eq, Bool.not_eq_true', Bool.not_eq_false', Bool.and_eq_true, Bool.or_eq_true, bne_eq_false_iff_eq] at c0
   refine den_exit ?_
   refine denX_code ?_
   refine denX_stop ?_
   refine denX_hit ?_
   refine den_seq ?_
   refine den_region TTok ?_
   intro K hK
   simp -implicitDefEqProofs (disch := first | decide | assumption | omega) only [go_sem, BoxAt.elC hbx5, BoxAt.elL hbx5, wrap_id, cv_u8, cv_i64, Nat.zero_add, wrap_u8, eq_el, ne_el, build_el]
   refine op_storeB (o := 0) (cs' := elA (plusN X.p u v k i)) st30 hb0_3 rfl rfl (elA_sz _) (by rw [elA_sz]; decide) elA_one elA_all ?_
   intro h7_1 hb0_3 c7_1
   replace hbx5 := BoxAt.chgA hbx5 c7_1 (apart_lt hlhbx5 hfhb0_3 (by omega))
   have := c7_1.size
   replace eB := Ext.then eB c7_1 (ge_of hfhb0_3 (by omega))
   try simp -implicitDefEqProofs (disch := first | decide | assumption | omega) only [go_sem, BoxAt.elC hb0_3, BoxAt.elL hb0_3, wrap_id, cv_u8, cv_i64, Nat.zero_add, wrap_u8, eq_el, ne_el, build_el]
   refine hK _ _ ?_
   clear hK K
   refine den_ret ?_
   simp -implicitDefEqProofs (disch := first | decide | assumption | omega) only [go_sem, BoxAt.elC hb0_3, BoxAt.elL hb0_3, wrap_id, cv_u8, cv_i64, Nat.zero_add, wrap_u8, eq_el, ne_el, build_el, resP_c1, ld30]
   rw [show i = 8 by omega]
   exact ⟨by first | rfl | trivial, eB⟩
end Go.Proofs.Ytacajcjibhifmaa
