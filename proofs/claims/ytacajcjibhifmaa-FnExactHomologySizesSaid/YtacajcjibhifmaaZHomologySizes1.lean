/-
  What the statement FnExactHomologySizes uses of the walks, part 1.
  Conditions: each theorem's own.
-/
import Derived.Test.YtacajcjibhifmaaG16
import Derived.Test.YtacajcjibhifmaaG17
import Derived.Test.YtacajcjibhifmaaG14
import Derived.Test.YtacajcjibhifmaaG13
import Derived.Test.YtacajcjibhifmaaG15
import Derived.Test.YtacajcjibhifmaaG18
import Derived.Test.YtacajcjibhifmaaG19
set_option linter.unusedVariables false
set_option linter.unusedSimpArgs false
namespace Go.Proofs.Ytacajcjibhifmaa
section
variable {h hc : Heap} {v : Value} {T : Tab} {t e : TypeId}
theorem R1.al {xs : List Int} (hv : R1 h v xs) (hp : HPres h hc) (ht : SlT T t e) : (lenV T t v = some (.int .i64 xs.length)) ∧ (∀ (k : IntKind) (i : Int), 0 ≤ i → i < xs.length → idxAddrV T t v (.int k i) = some (.pointer (some ((sA v).add i.toNat)))) ∧ (∀ j : Nat, j < xs.length → hcell hc ((sA v).add j) = some (.int .i64 (xs.getD j 0))) ∧ v.cells = #[v] := ⟨RdS.len hv ht, RdS.idx hv ht, R1.intB hv hp, RdS.cells hv⟩
theorem R1.an {xs : List Int} (hv : R1 h v xs) (ht : SlT T t e) : (lenV T t v = some (.int .i64 xs.length)) ∧ (∀ (k : IntKind) (i : Int), 0 ≤ i → i < xs.length → idxAddrV T t v (.int k i) = some (.pointer (some ((sA v).add i.toNat)))) ∧ (∀ j : Nat, j < xs.length → hcell h ((sA v).add j) = some (.int .i64 (xs.getD j 0))) ∧ v.cells = #[v] := ⟨RdS.len hv ht, RdS.idx hv ht, R1.intN hv, RdS.cells hv⟩
theorem RdS.al {α : Type} {E : Heap → Value → α → Prop} {xs : List α} (hv : RdS E h v xs) (hp : HPres h hc) (ht : SlT T t e) : (lenV T t v = some (.int .i64 xs.length)) ∧ (∀ (k : IntKind) (i : Int), 0 ≤ i → i < xs.length → idxAddrV T t v (.int k i) = some (.pointer (some ((sA v).add i.toNat)))) ∧ (∀ j : Nat, j < xs.length → hcell hc ((sA v).add j) = some (rowV h v j)) ∧ v.cells = #[v] := ⟨RdS.len hv ht, RdS.idx hv ht, RdS.cellB hv hp, RdS.cells hv⟩
theorem RdS.an {α : Type} {E : Heap → Value → α → Prop} {xs : List α} (hv : RdS E h v xs) (ht : SlT T t e) : (lenV T t v = some (.int .i64 xs.length)) ∧ (∀ (k : IntKind) (i : Int), 0 ≤ i → i < xs.length → idxAddrV T t v (.int k i) = some (.pointer (some ((sA v).add i.toNat)))) ∧ (∀ j : Nat, j < xs.length → hcell h ((sA v).add j) = some (rowV h v j)) ∧ v.cells = #[v] := ⟨RdS.len hv ht, RdS.idx hv ht, RdS.cellN hv, RdS.cells hv⟩
end
theorem ddA : (∀ (p : Prop) [Decidable p], (decide p = true) = p) ∧ (∀ {p : Prop} [Decidable p], (decide p = false) ↔ ¬ p) ∧ (∀ {α : Type} [BEq α] [LawfulBEq α] {a b : α}, (a == b) = true ↔ a = b) ∧ (∀ {α : Type} [BEq α] [LawfulBEq α] {a b : α}, (a == b) = false ↔ a ≠ b) ∧ (∀ {α : Type} [BEq α] [LawfulBEq α] {a b : α}, (a != b) = true ↔ a ≠ b) ∧ (∀ {α : Type} (a b : α), (a ≠ b) = ¬ (a = b)) ∧ (∀ {b : Bool}, ((!b) = true) = (b = false)) ∧ (∀ {b : Bool}, ((!b) = false) = (b = true)) ∧ (∀ (a b : Bool), ((a && b) = true) = (a = true ∧ b = true)) ∧ (∀ (a b : Bool), ((a || b) = true) = (a = true ∨ b = true)) ∧ (∀ {α : Type} [BEq α] [LawfulBEq α] {a b : α}, (a != b) = false ↔ a = b) := ⟨fun p _ => decide_eq_true_eq, decide_eq_false_iff_not, beq_iff_eq, beq_eq_false_iff_ne, bne_iff_ne, fun a b => rfl, fun {b} => by simp, fun {b} => by simp, fun a b => by simp, fun a b => by simp, bne_eq_false_iff_eq⟩
theorem gvA : (∀ {o : Oper} {l : List Oper}, slotOf (List.toArray (o :: l)) 0 = o.dst) ∧ (∀ {o : Oper} {l : List Oper} {j : Nat}, slotOf (List.toArray (o :: l)) (j + 1) = slotOf (List.toArray l) j) ∧ (∀ (f : Nat → Value) (x : Nat), Option.map f (some x) = some (f x)) ∧ (∀ {e : Env} {l : List (Nat × Value)} {t : Nat} {v : Value}, puts e ((t, v) :: l) t = v) ∧ (∀ {e : Env} {l : List (Nat × Value)} {t t' : Nat} {v : Value}, Nat.beq t t' = false → puts e ((t', v) :: l) t = puts e l t) ∧ (∀ w b : Bool, gv w (some (.bool b)) = (b == w)) ∧ (∀ w : Bool, gv w (some undef) = false) ∧ ((true == true) = true) ∧ ((true == false) = false) ∧ ((false == true) = false) ∧ ((false == false) = true) ∧ ((!true) = false) ∧ ((!false) = true) := ⟨slotOf_zero, slotOf_succ, fun _ _ => rfl, puts_same, puts_ne, gv_bool, gv_undef, rfl, rfl, rfl, rfl, rfl, rfl⟩

open Go
abbrev Apart (fp fq : List Nat) : Prop := ∀ b ∈ fp, b ∉ fq
def Sub (fp0 : List Nat) (n : Nat) (fp : List Nat) : Prop := ∀ b ∈ fp, b ∈ fp0 ∨ n ≤ b
theorem apart_lt {fp fq : List Nat} {m lo : Nat} (l : ∀ b ∈ fp, b < m) (f : Fresh lo fq) (h : m ≤ lo) : Apart fp fq := fun b hb hq => by
 have := l b hb; have := f.ge b hq; omega
theorem apart_gt {fp fq : List Nat} {m lo : Nat} (f : Fresh lo fp) (l : ∀ b ∈ fq, b < m) (h : m ≤ lo) : Apart fp fq := fun b hb hq => by
 have := l b hq; have := f.ge b hb; omega
theorem Apart.symm {fp fq : List Nat} (h : Apart fp fq) : Apart fq fp := fun b hb hq => h b hq hb
theorem Apart.app {fp f1 f2 : List Nat} (h1 : Apart fp f1) (h2 : Apart fp f2) : Apart fp (f1 ++ f2) := fun b hb hq => by
 rcases List.mem_append.1 hq with h | h
 ·exact h1 b hb h
 ·exact h2 b hb h
theorem Apart.nil (fp : List Nat) : Apart fp [] := fun b hb hq => by cases hq
/-- What has grown out of a list, an element and new blocks lies apart from what was apart from both and is older. -/
theorem Apart.grow {fo fp fx fp' : List Nat} {m k : Nat} (hl : ∀ b ∈ fo, b < k) (hk : k ≤ m) (h1 : Apart fo fp) (h2 : Apart fo fx) (hs : ∀ b ∈ fp', b ∈ fp ∨ b ∈ fx ∨ m ≤ b) : Apart fo fp' := fun b hb hp => by
 rcases hs b hp with h | h | h
 ·exact h1 b hb h
 ·exact h2 b hb h
 ·have := hl b hb; omega
theorem Fresh.appd {lo lx m : Nat} {fp fx fp' : List Nat} (f : Fresh lo fp) (g : Fresh lx fx) (hx : lo ≤ lx) (hm : lo ≤ m) (hn : fp'.Nodup) (hs : ∀ b ∈ fp', b ∈ fp ∨ b ∈ fx ∨ m ≤ b) : Fresh lo fp' :=
 ⟨hn, fun b hb => by
  rcases hs b hb with h | h | h
  ·exact f.ge b h
  ·have := g.ge b h; omega
  ·omega⟩
theorem Sub.refl {fp0 : List Nat} {n : Nat} : Sub fp0 n fp0 := fun _ h => .inl h
theorem Sub.left {f1 f2 fp : List Nat} {n : Nat} (h : Sub f1 n fp) : Sub (f1 ++ f2) n fp := fun b hb => (h b hb).elim (fun h => .inl (List.mem_append_left _ h)) .inr
theorem Sub.right {f1 f2 fp : List Nat} {n : Nat} (h : Sub f2 n fp) : Sub (f1 ++ f2) n fp := fun b hb => (h b hb).elim (fun h => .inl (List.mem_append_right _ h)) .inr
theorem Sub.app {fp0 f1 f2 : List Nat} {n : Nat} (h1 : Sub fp0 n f1) (h2 : Sub fp0 n f2) : Sub fp0 n (f1 ++ f2) := fun b hb => by
 rcases List.mem_append.1 hb with h | h
 ·exact h1 b h
 ·exact h2 b h
theorem Sub.fresh {fp0 fp : List Nat} {n lo : Nat} (f : Fresh lo fp) (h : n ≤ lo) : Sub fp0 n fp := fun b hb => .inr (Nat.le_trans h (f.ge b hb))
theorem Sub.grow {fp0 fp fx fp' : List Nat} {n m : Nat} (h1 : Sub fp0 n fp) (h2 : Sub fp0 n fx) (hm : n ≤ m) (hs : ∀ b ∈ fp', b ∈ fp ∨ b ∈ fx ∨ m ≤ b) : Sub fp0 n fp' := fun b hb => by
 rcases hs b hb with h | h | h
 ·exact h1 b h
 ·exact h2 b h
 ·exact .inr (Nat.le_trans hm h)
theorem Sub.trans {fp0 fp1 fp : List Nat} {n m : Nat} (h : Sub fp1 m fp) (k : Sub fp0 n fp1) (hm : n ≤ m) : Sub fp0 n fp := fun b hb => by
 rcases h b hb with h | h
 ·exact k b h
 ·exact .inr (Nat.le_trans hm h)
theorem Sub.nil {fp0 : List Nat} {n : Nat} : Sub fp0 n [] := fun b hb => by cases hb
theorem ge_of {lo m : Nat} {fp : List Nat} (f : Fresh lo fp) (h : m ≤ lo) : ∀ b ∈ fp, m ≤ b := fun b hb => Nat.le_trans h (f.ge b hb)
theorem ge_app {m : Nat} {f1 f2 : List Nat} (h1 : ∀ b ∈ f1, m ≤ b) (h2 : ∀ b ∈ f2, m ≤ b) : ∀ b ∈ f1 ++ f2, m ≤ b := fun b hb => by
 rcases List.mem_append.1 hb with h | h
 ·exact h1 b h
 ·exact h2 b h
theorem Chg.step {fp0 fp : List Nat} {a b c : Heap} (h : Chg fp0 a b) (k : Chg fp b c) (s : Sub fp0 a.size fp) : Chg fp0 a c :=
 ⟨Nat.le_trans h.size k.size, fun q hq hn => (k.block q (Nat.lt_of_lt_of_le hq h.size) (fun hm => by
  rcases s q hm with h1 | h1
  ·exact hn h1
  ·omega)).trans (h.block q hq hn)⟩
theorem Chg.stepE {fp0 : List Nat} {a b c : Heap} (h : Chg fp0 a b) (k : Ext b c) : Chg fp0 a c := h.trans (k.chg _)
theorem Apart.sub_ {fz fp0 fp : List Nat} {m n : Nat} (hl : ∀ b ∈ fz, b < m) (hm : m ≤ n) (a : Apart fz fp0) (s : Sub fp0 n fp) : Apart fz fp := fun b hb hp => by
 rcases s b hp with h | h
 ·exact a b hb h
 ·have := hl b hb; omega
theorem Fresh.two {l1 l2 lo : Nat} {fp fq : List Nat} (f1 : Fresh l1 fp) (f2 : Fresh l2 fq) (ap : Apart fp fq) (h1 : lo ≤ l1) (h2 : lo ≤ l2) : Fresh lo (fp ++ fq) :=
 ⟨List.nodup_append.2 ⟨f1.nodup, f2.nodup, fun b hb c hc e => ap b hb (e ▸ hc)⟩, fun b hb => by
  rcases List.mem_append.1 hb with h | h
  ·exact Nat.le_trans h1 (f1.ge b h)
  ·exact Nat.le_trans h2 (f2.ge b h)⟩
theorem apart_nodup {lo : Nat} {f1 f2 : List Nat} (h : Fresh lo (f1 ++ f2)) : Apart f1 f2 := fun b hb hm => (List.nodup_append.1 h.nodup).2.2 b hb b hm rfl
theorem one_lt {b n : Nat} (h : b < n) : ∀ q ∈ [b], q < n := fun q hq => by simp at hq; omega
theorem BoxAt.chgA {h h' : Heap} {b : Nat} {cs : Array Value} {t : TypeId} {fp : List Nat} (hb : BoxAt h b cs t) (c : Chg fp h h') (hn : Apart [b] fp) : BoxAt h' b cs t := hb.chg c (hn b (by simp))
theorem map_takeA {α β : Type} {f : α → β} {xs : List α} {d : α} {k : Nat} (hk : k < xs.length) : (xs.take k).map f ++ [f (xs.getD k d)] = (xs.take (k + 1)).map f := by
 rw [List.take_succ_eq_append_getElem hk, List.map_append, List.getD_eq_getElem?_getD, List.getElem?_eq_getElem hk]; rfl
theorem range_step {β : Type} (f : Nat → β) (k : Nat) : (List.range k).map f ++ [f k] = (List.range (k + 1)).map f := by simp [List.range_succ]
theorem mod_twice {p x : Int} (hp : 0 < p) : (x.tmod p + p).tmod p = x % p := by
 have h1 : -p < x.tmod p := by
  have := Int.lt_tmod_of_pos x hp; omega
 rw [Int.tmod_eq_emod_of_nonneg (by omega), Int.add_emod_right, Int.tmod_def, Int.sub_mul_emod_self_left]
theorem tmod_in {p x : Int} (hp : 0 < p) : -p < x.tmod p ∧ x.tmod p < p := ⟨by have := Int.lt_tmod_of_pos x hp; omega, Int.tmod_lt_of_pos x hp⟩
theorem binV_eqB (a b : Bool) : binV TT .eql 4 (.bool a) (.bool b) = some (.bool (a == b)) := by simp [binV, T4]
theorem binV_neB (a b : Bool) : binV TT .neq 4 (.bool a) (.bool b) = some (.bool (!(a == b))) := by simp [binV, T4]
theorem binV_eqNil (A : Option Addr) (n c : Nat) : binV TT .eql 55 (.slice A n c) (.slice none 0 0) = some (.bool A.isNone) := by cases A <;> simp [binV, T55]
attribute [go_sem] binV_eqB binV_neB binV_eqNil
end Go.Proofs.Ytacajcjibhifmaa

namespace Go.Proofs.Ytacajcjibhifmaa
open Go
def HM1 (xs : List Int) : Prop := (xs.length : Int) ≤ 1048576
def HM2 (R : List (List Int)) : Prop := (R.length : Int) ≤ 1048576 ∧ ∀ r ∈ R, HM1 r
def HM3 (R : List (List (List Int))) : Prop := (R.length : Int) ≤ 1048576 ∧ ∀ r ∈ R, HM2 r
theorem HM2.len {R : List (List Int)} (h : HM2 R) : (R.length : Int) ≤ 1048576 := h.1
theorem HM3.len {R : List (List (List Int))} (h : HM3 R) : (R.length : Int) ≤ 1048576 := h.1
theorem getD_mem {α : Type} [Inhabited α] {R : List α} {k : Nat} (hk : k < R.length) : R.getD k default ∈ R := by rw [List.getD_eq_getElem?_getD, List.getElem?_eq_getElem hk]; exact List.getElem_mem hk
theorem HM2.at {R : List (List Int)} (h : HM2 R) (k : Nat) (hk : k < R.length) : HM1 (R.getD k default) := h.2 _ (getD_mem hk)
theorem HM3.at {R : List (List (List Int))} (h : HM3 R) (k : Nat) (hk : k < R.length) : HM2 (R.getD k default) := h.2 _ (getD_mem hk)
end Go.Proofs.Ytacajcjibhifmaa

namespace Go.Proofs.Ytacajcjibhifmaa
open Go
def eqC (X Y : Cx) : Bool := decide (X.p = Y.p) && (decide (X.dims = Y.dims) && decide (X.maps = Y.maps))
theorem eqC_self (X : Cx) : eqC X X = true := by simp [eqC]
def HMC (X : Cx) : Prop := HM1 X.dims ∧ HM3 X.maps

set_option maxRecDepth 100000 in
theorem eqS_ok (v w : Value) (xs ys : List Int) (h : Heap) (hv : R1 h v xs) (hw : R1 h w ys) : CallA Try.prog 35 #[v, w] h fun v h' => v = .bool (decide (xs = ys)) ∧ h' = h := by
 have hle := RdS.le hv
 refine callA_intro TTok (args := [_, _]) Try.func35 (by kernel_rfl) rfl 26 rfl (by simp) [.tmp 4] rfl ?_
 simp only [idxs, Nat.reduceAdd]
 refine den_seq ?_
 refine den_region TTok ?_
 intro K hK
 simp -implicitDefEqProofs (disch := first | decide | assumption | omega) only [go_sem, R1.al hv (HPres.refl _) sl55, R1.al hw (HPres.refl _) sl55, wrap_id]
 refine hK _ _ ?_
 clear hK K
 refine den_seq ?_
 refine den_seq ?_
 refine den_region TTok ?_
 intro K hK
 simp -implicitDefEqProofs (disch := first | decide | assumption | omega) only [go_sem, R1.al hv (HPres.refl _) sl55, R1.al hw (HPres.refl _) sl55, wrap_id]
 refine hK _ _ ?_
 clear hK K
 refine den_cond rfl (fun c0 => ?_) (fun c0 => ?_)
 ·try simp only [ddA] at c0
  refine den_seq ?_
  refine den_region TTok ?_
  intro K hK
  simp -implicitDefEqProofs (disch := first | decide | assumption | omega) only [go_sem, R1.al hv (HPres.refl _) sl55, R1.al hw (HPres.refl _) sl55, wrap_id]
  refine hK _ _ ?_
  clear hK K
  refine den_ret ?_
  simp (disch := decide) only [resP_1, puts_same, puts_ne]
  exact ⟨vbool (by simp; intro he; rw [he] at c0; omega), trivial⟩
 ·try simp only [ddA] at c0
  refine den_skip ?_
  refine den_seq ?_
  refine den_seq ?_
  refine den_region TTok ?_
  intro K hK
  simp -implicitDefEqProofs (disch := first | decide | assumption | omega) only [go_sem, R1.al hv (HPres.refl _) sl55, R1.al hw (HPres.refl _) sl55, wrap_id]
  refine hK _ _ ?_
  clear hK K
  refine den_block ?_
  refine den_sel [5, 0, 1] ?_
  intro env_1
  simp only [go_sem]
  refine den_loopP (σ := Nat) (fun s => [(5, .int .i64 (s : Int))]) (fun s => s ≤ xs.length ∧ xs.take s = ys.take s) (fun s => xs.length - s) 0 ?_ ?_
  ·exact ⟨rfl, by omega, by simp⟩
  ·rintro k ee3 ⟨hk, heq⟩
   simp only [List.cons_append, List.nil_append]
   refine den_seq ?_
   refine den_seq ?_
   refine den_region TTok ?_
   intro K hK
   simp -implicitDefEqProofs (disch := first | decide | assumption | omega) only [go_sem, R1.al hv (HPres.refl _) sl55, R1.al hw (HPres.refl _) sl55, wrap_id]
   refine hK _ _ ?_
   clear hK K
   refine den_cond rfl (fun c1 => ?_) (fun c1 => ?_)
   ·try simp only [ddA] at c1
    refine den_skip ?_
    refine den_seq ?_
    refine den_block ?_
    refine den_seq ?_
    refine den_draw TTok mixed [] [(0, true), (1, true), (2, true), (3, true), (4, true), (5, true), (6, true), (7, true), (8, true)] (by kernel_rfl) ?_
    intro K hK
    simp -implicitDefEqProofs (disch := first | decide | assumption | omega) only [go_sem, ld2, R1.al hv (HPres.refl _) sl55, R1.al hw (HPres.refl _) sl55, wrap_id]
    refine hK _ _ ?_
    clear hK K
    refine den_cond rfl (fun c2 => ?_) (fun c2 => ?_)
    ·try simp only [ddA] at c2
     refine den_seq ?_
     refine den_region TTok ?_
     intro K hK
     simp -implicitDefEqProofs (disch := first | decide | assumption | omega) only [go_sem, R1.al hv (HPres.refl _) sl55, R1.al hw (HPres.refl _) sl55, wrap_id]
     refine hK _ _ ?_
     clear hK K
     refine den_ret ?_
     simp (disch := decide) only [resP_1, puts_same, puts_ne]
     exact ⟨vbool (by simp; exact eq_stop (d := 0) (by simpa using c2)), trivial⟩
    ·try simp only [ddA] at c2
     refine den_skip ?_
     refine den_blk ?_
     refine den_region TTok ?_
     intro K hK
     simp -implicitDefEqProofs (disch := first | decide | assumption | omega) only [go_sem, R1.al hv (HPres.refl _) sl55, R1.al hw (HPres.refl _) sl55, wrap_id]
     refine hK _ _ ?_
     clear hK K
     refine den_stop ?_
     exact ⟨k + 1, by simp [HasL, puts_at], ⟨rfl, by omega, eq_step (by omega) (by omega) heq (d := 0) (d' := 0) (by simpa using c2)⟩, by omega⟩
   ·try simp only [ddA] at c1
    refine den_exit ?_
    refine denX_code ?_
    refine denX_stop ?_
    refine denX_hit ?_
    refine den_seq ?_
    refine den_region TTok ?_
    intro K hK
    simp -implicitDefEqProofs (disch := first | decide | assumption | omega) only [go_sem, R1.al hv (HPres.refl _) sl55, R1.al hw (HPres.refl _) sl55, wrap_id]
    refine hK _ _ ?_
    clear hK K
    refine den_ret ?_
    simp (disch := decide) only [resP_1, puts_same, puts_ne]
    exact ⟨vbool (by simp; exact eq_end (by omega) (by omega) heq), trivial⟩
end Go.Proofs.Ytacajcjibhifmaa

namespace Go.Proofs.Ytacajcjibhifmaa
open Go
def in3 (n lo hi : Int) : Bool := decide (lo ≤ n) && decide (n ≤ hi)
def isP (p : Int) : Bool := ((p == 2 || p == 3) || p == 5) || p == 7
def dimP (X : Cx) (n : Int) : Int := if in3 n 0 ((X.dims.length : Int) - 1) then X.dims.getD n.toNat 0 else 0
theorem in3_iff {n lo hi : Int} : in3 n lo hi = true ↔ lo ≤ n ∧ n ≤ hi := by simp [in3]
theorem in3_f {n lo hi : Int} : in3 n lo hi = false ↔ ¬ (lo ≤ n ∧ n ≤ hi) := by rw [← in3_iff]; simp

set_option maxRecDepth 100000 in
theorem sIn_ok (n lo hi : Int) (h : Heap) : CallA Try.prog 106 #[.int .i64 n, .int .i64 lo, .int .i64 hi] h fun v h' => v = .bool (in3 n lo hi) ∧ h' = h := by
 refine callA_intro TTok (args := [_, _, _]) Try.func106 (by kernel_rfl) rfl 15 rfl (by simp) [.tmp 6] rfl ?_
 simp only [idxs, Nat.reduceAdd]
 refine den_seq ?_
 refine den_region TTok ?_
 intro K hK
 simp -implicitDefEqProofs (disch := first | decide | assumption | omega) only [go_sem]
 refine hK _ _ ?_
 clear hK K
 refine den_seq ?_
 refine den_mergeH [(6, .bool (((decide (lo ≤ n)) && (decide (n ≤ hi)))))] [] ?_ ?_
  -- a way
 ·refine den_region TTok ?_
  intro K hK
  simp -implicitDefEqProofs (disch := first | decide | assumption | (simp (disch := decide) only [gvA, eq_self, if_true, if_false, Bool.false_eq_true]; done) | omega) only [go_sem]
  refine opsP_T (by simp (disch := decide) only [gvA, eq_self, if_true, if_false, Bool.false_eq_true]; rfl) (fun g1 => ?_) (fun g1 => ?_)
  ·try simp -implicitDefEqProofs (disch := first | decide | assumption | (simp (disch := decide) only [gvA, eq_self, if_true, if_false, Bool.false_eq_true, g1]; done) | omega) only [go_sem, g1, eq_self, if_true, if_false, Bool.false_eq_true]
   refine hK _ _ ?_
   clear hK K
   refine den_stop ?_
   refine ⟨?_, rfl⟩
   first | (simp (disch := decide) only [go_sem, g1, eq_self, Bool.true_and, Bool.and_true, Bool.false_and, Bool.and_false, Bool.true_or, Bool.or_true, Bool.false_or, Bool.or_false, if_true, if_false, Bool.false_eq_true]; done) | simp [HasL, sel, puts_at, g1]
  ·try simp -implicitDefEqProofs (disch := first | decide | assumption | (simp (disch := decide) only [gvA, eq_self, if_true, if_false, Bool.false_eq_true, g1]; done) | omega) only [go_sem, g1, eq_self, if_true, if_false, Bool.false_eq_true]
   refine hK _ _ ?_
   clear hK K
   refine den_stop ?_
   refine ⟨?_, rfl⟩
   first | (simp (disch := decide) only [go_sem, g1, eq_self, Bool.true_and, Bool.and_true, Bool.false_and, Bool.and_false, Bool.true_or, Bool.or_true, Bool.false_or, Bool.or_false, if_true, if_false, Bool.false_eq_true]; done) | simp [HasL, sel, puts_at, g1]
 intro en2
 simp (disch := decide) only [go_sem]
 refine den_ret ?_
 simp (disch := decide) only [resP_1, puts_same, puts_ne]
 exact ⟨by first | rfl | trivial, trivial⟩

set_option maxRecDepth 100000 in
theorem iIn_ok (n lo hi : Int) (h : Heap) : CallA Try.prog 87 #[.int .i64 n, .int .i64 lo, .int .i64 hi] h fun v h' => v = .bool (in3 n lo hi) ∧ h' = h := by
 refine callA_intro TTok (args := [_, _, _]) Try.func87 (by kernel_rfl) rfl 15 rfl (by simp) [.tmp 6] rfl ?_
 simp only [idxs, Nat.reduceAdd]
 refine den_seq ?_
 refine den_region TTok ?_
 intro K hK
 simp -implicitDefEqProofs (disch := first | decide | assumption | omega) only [go_sem]
 refine hK _ _ ?_
 clear hK K
 refine den_seq ?_
 refine den_mergeH [(6, .bool (((decide (lo ≤ n)) && (decide (n ≤ hi)))))] [] ?_ ?_
  -- a way
 ·refine den_region TTok ?_
  intro K hK
  simp -implicitDefEqProofs (disch := first | decide | assumption | (simp (disch := decide) only [gvA, eq_self, if_true, if_false, Bool.false_eq_true]; done) | omega) only [go_sem]
  refine opsP_T (by simp (disch := decide) only [gvA, eq_self, if_true, if_false, Bool.false_eq_true]; rfl) (fun g1 => ?_) (fun g1 => ?_)
  ·try simp -implicitDefEqProofs (disch := first | decide | assumption | (simp (disch := decide) only [gvA, eq_self, if_true, if_false, Bool.false_eq_true, g1]; done) | omega) only [go_sem, g1, eq_self, if_true, if_false, Bool.false_eq_true]
   refine hK _ _ ?_
   clear hK K
   refine den_stop ?_
   refine ⟨?_, rfl⟩
   first | (simp (disch := decide) only [go_sem, g1, eq_self, Bool.true_and, Bool.and_true, Bool.false_and, Bool.and_false, Bool.true_or, Bool.or_true, Bool.false_or, Bool.or_false, if_true, if_false, Bool.false_eq_true]; done) | simp [HasL, sel, puts_at, g1]
  ·try simp -implicitDefEqProofs (disch := first | decide | assumption | (simp (disch := decide) only [gvA, eq_self, if_true, if_false, Bool.false_eq_true, g1]; done) | omega) only [go_sem, g1, eq_self, if_true, if_false, Bool.false_eq_true]
   refine hK _ _ ?_
   clear hK K
   refine den_stop ?_
   refine ⟨?_, rfl⟩
   first | (simp (disch := decide) only [go_sem, g1, eq_self, Bool.true_and, Bool.and_true, Bool.false_and, Bool.and_false, Bool.true_or, Bool.or_true, Bool.false_or, Bool.or_false, if_true, if_false, Bool.false_eq_true]; done) | simp [HasL, sel, puts_at, g1]
 intro en2
 simp (disch := decide) only [go_sem]
 refine den_ret ?_
 simp (disch := decide) only [resP_1, puts_same, puts_ne]
 exact ⟨by first | rfl | trivial, trivial⟩

set_option maxRecDepth 100000 in
theorem sPrime_ok (p : Int) (h : Heap) : CallA Try.prog 60 #[.int .i64 p] h fun v h' => v = .bool (isP p) ∧ h' = h := by
 refine callA_intro TTok (args := [_]) Try.func60 (by kernel_rfl) rfl 17 rfl (by simp) [.tmp 2] rfl ?_
 simp only [idxs, Nat.reduceAdd]
 refine den_seq ?_
 refine den_region TTok ?_
 intro K hK
 simp -implicitDefEqProofs (disch := first | decide | assumption | omega) only [go_sem]
 refine hK _ _ ?_
 clear hK K
 refine den_seq ?_
 refine den_mergeH [(2, .bool (((((p == (2 : Int)) || (p == (3 : Int))) || (p == (5 : Int))) || (p == (7 : Int)))))] [] ?_ ?_
  -- a way
 ·refine den_region TTok ?_
  intro K hK
  simp -implicitDefEqProofs (disch := first | decide | assumption | (simp (disch := decide) only [gvA, eq_self, if_true, if_false, Bool.false_eq_true]; done) | omega) only [go_sem]
  refine opsP_F (by simp (disch := decide) only [gvA, eq_self, if_true, if_false, Bool.false_eq_true]; rfl) (fun g1 => ?_) (fun g1 => ?_)
  ·try simp -implicitDefEqProofs (disch := first | decide | assumption | (simp (disch := decide) only [gvA, eq_self, if_true, if_false, Bool.false_eq_true, g1]; done) | omega) only [go_sem, g1, eq_self, if_true, if_false, Bool.false_eq_true]
   refine opsP_F (by simp (disch := decide) only [gvA, eq_self, if_true, if_false, Bool.false_eq_true, g1]; rfl) (fun g2 => ?_) (fun g2 => ?_)
   ·try simp -implicitDefEqProofs (disch := first | decide | assumption | (simp (disch := decide) only [gvA, eq_self, if_true, if_false, Bool.false_eq_true, g1, g2]; done) | omega) only [go_sem, g1, g2, eq_self, if_true, if_false, Bool.false_eq_true]
    refine opsP_F (by simp (disch := decide) only [gvA, eq_self, if_true, if_false, Bool.false_eq_true, g1, g2]; rfl) (fun g3 => ?_) (fun g3 => ?_)
    ·try simp -implicitDefEqProofs (disch := first | decide | assumption | (simp (disch := decide) only [gvA, eq_self, if_true, if_false, Bool.false_eq_true, g1, g2, g3]; done) | omega) only [go_sem, g1, g2, g3, eq_self, if_true, if_false, Bool.false_eq_true]
     refine hK _ _ ?_
     clear hK K
     refine den_stop ?_
     refine ⟨?_, rfl⟩
     first | (simp (disch := decide) only [go_sem, g1, g2, g3, eq_self, Bool.true_and, Bool.and_true, Bool.false_and, Bool.and_false, Bool.true_or, Bool.or_true, Bool.false_or, Bool.or_false, if_true, if_false, Bool.false_eq_true]; done) | simp [HasL, sel, puts_at, g1, g2, g3]
    ·try simp -implicitDefEqProofs (disch := first | decide | assumption | (simp (disch := decide) only [gvA, eq_self, if_true, if_false, Bool.false_eq_true, g1, g2, g3]; done) | omega) only [go_sem, g1, g2, g3, eq_self, if_true, if_false, Bool.false_eq_true]
     refine hK _ _ ?_
     clear hK K
     refine den_stop ?_
     refine ⟨?_, rfl⟩
     first | (simp (disch := decide) only [go_sem, g1, g2, g3, eq_self, Bool.true_and, Bool.and_true, Bool.false_and, Bool.and_false, Bool.true_or, Bool.or_true, Bool.false_or, Bool.or_false, if_true, if_false, Bool.false_eq_true]; done) | simp [HasL, sel, puts_at, g1, g2, g3]
   ·try simp -implicitDefEqProofs (disch := first | decide | assumption | (simp (disch := decide) only [gvA, eq_self, if_true, if_false, Bool.false_eq_true, g1, g2]; done) | omega) only [go_sem, g1, g2, eq_self, if_true, if_false, Bool.false_eq_true]
    try simp -implicitDefEqProofs (disch := first | decide | assumption | (simp (disch := decide) only [gvA, eq_self, if_true, if_false, Bool.false_eq_true, g1, g2]; done) | omega) only [go_sem, g1, g2, eq_self, if_true, if_false, Bool.false_eq_true]
    refine hK _ _ ?_
    clear hK K
    refine den_stop ?_
    refine ⟨?_, rfl⟩
    first | (simp (disch := decide) only [go_sem, g1, g2, eq_self, Bool.true_and, Bool.and_true, Bool.false_and, Bool.and_false, Bool.true_or, Bool.or_true, Bool.false_or, Bool.or_false, if_true, if_false, Bool.false_eq_true]; done) | simp [HasL, sel, puts_at, g1, g2]
  ·try simp -implicitDefEqProofs (disch := first | decide | assumption | (simp (disch := decide) only [gvA, eq_self, if_true, if_false, Bool.false_eq_true, g1]; done) | omega) only [go_sem, g1, eq_self, if_true, if_false, Bool.false_eq_true]
   try simp -implicitDefEqProofs (disch := first | decide | assumption | (simp (disch := decide) only [gvA, eq_self, if_true, if_false, Bool.false_eq_true, g1]; done) | omega) only [go_sem, g1, eq_self, if_true, if_false, Bool.false_eq_true]
   try simp -implicitDefEqProofs (disch := first | decide | assumption | (simp (disch := decide) only [gvA, eq_self, if_true, if_false, Bool.false_eq_true, g1]; done) | omega) only [go_sem, g1, eq_self, if_true, if_false, Bool.false_eq_true]
   refine hK _ _ ?_
   clear hK K
   refine den_stop ?_
   refine ⟨?_, rfl⟩
   first | (simp (disch := decide) only [go_sem, g1, eq_self, Bool.true_and, Bool.and_true, Bool.false_and, Bool.and_false, Bool.true_or, Bool.or_true, Bool.false_or, Bool.or_false, if_true, if_false, Bool.false_eq_true]; done) | simp [HasL, sel, puts_at, g1]
 intro en4
 simp (disch := decide) only [go_sem]
 refine den_ret ?_
 simp (disch := decide) only [resP_1, puts_same, puts_ne]
 exact ⟨by first | rfl | trivial, trivial⟩

set_option maxRecDepth 100000 in
theorem iPrime_ok (p : Int) (h : Heap) : CallA Try.prog 58 #[.int .i64 p] h fun v h' => v = .bool (isP p) ∧ h' = h := by
 refine callA_intro TTok (args := [_]) Try.func58 (by kernel_rfl) rfl 17 rfl (by simp) [.tmp 2] rfl ?_
 simp only [idxs, Nat.reduceAdd]
 refine den_seq ?_
 refine den_region TTok ?_
 intro K hK
 simp -implicitDefEqProofs (disch := first | decide | assumption | omega) only [go_sem]
 refine hK _ _ ?_
 clear hK K
 refine den_seq ?_
 refine den_mergeH [(2, .bool (((((p == (2 : Int)) || (p == (3 : Int))) || (p == (5 : Int))) || (p == (7 : Int)))))] [] ?_ ?_
  -- a way
 ·refine den_region TTok ?_
  intro K hK
  simp -implicitDefEqProofs (disch := first | decide | assumption | (simp (disch := decide) only [gvA, eq_self, if_true, if_false, Bool.false_eq_true]; done) | omega) only [go_sem]
  refine opsP_F (by simp (disch := decide) only [gvA, eq_self, if_true, if_false, Bool.false_eq_true]; rfl) (fun g1 => ?_) (fun g1 => ?_)
  ·try simp -implicitDefEqProofs (disch := first | decide | assumption | (simp (disch := decide) only [gvA, eq_self, if_true, if_false, Bool.false_eq_true, g1]; done) | omega) only [go_sem, g1, eq_self, if_true, if_false, Bool.false_eq_true]
   refine opsP_F (by simp (disch := decide) only [gvA, eq_self, if_true, if_false, Bool.false_eq_true, g1]; rfl) (fun g2 => ?_) (fun g2 => ?_)
   ·try simp -implicitDefEqProofs (disch := first | decide | assumption | (simp (disch := decide) only [gvA, eq_self, if_true, if_false, Bool.false_eq_true, g1, g2]; done) | omega) only [go_sem, g1, g2, eq_self, if_true, if_false, Bool.false_eq_true]
    refine opsP_F (by simp (disch := decide) only [gvA, eq_self, if_true, if_false, Bool.false_eq_true, g1, g2]; rfl) (fun g3 => ?_) (fun g3 => ?_)
    ·try simp -implicitDefEqProofs (disch := first | decide | assumption | (simp (disch := decide) only [gvA, eq_self, if_true, if_false, Bool.false_eq_true, g1, g2, g3]; done) | omega) only [go_sem, g1, g2, g3, eq_self, if_true, if_false, Bool.false_eq_true]
     refine hK _ _ ?_
     clear hK K
     refine den_stop ?_
     refine ⟨?_, rfl⟩
     first | (simp (disch := decide) only [go_sem, g1, g2, g3, eq_self, Bool.true_and, Bool.and_true, Bool.false_and, Bool.and_false, Bool.true_or, Bool.or_true, Bool.false_or, Bool.or_false, if_true, if_false, Bool.false_eq_true]; done) | simp [HasL, sel, puts_at, g1, g2, g3]
    ·try simp -implicitDefEqProofs (disch := first | decide | assumption | (simp (disch := decide) only [gvA, eq_self, if_true, if_false, Bool.false_eq_true, g1, g2, g3]; done) | omega) only [go_sem, g1, g2, g3, eq_self, if_true, if_false, Bool.false_eq_true]
     refine hK _ _ ?_
     clear hK K
     refine den_stop ?_
     refine ⟨?_, rfl⟩
     first | (simp (disch := decide) only [go_sem, g1, g2, g3, eq_self, Bool.true_and, Bool.and_true, Bool.false_and, Bool.and_false, Bool.true_or, Bool.or_true, Bool.false_or, Bool.or_false, if_true, if_false, Bool.false_eq_true]; done) | simp [HasL, sel, puts_at, g1, g2, g3]
   ·try simp -implicitDefEqProofs (disch := first | decide | assumption | (simp (disch := decide) only [gvA, eq_self, if_true, if_false, Bool.false_eq_true, g1, g2]; done) | omega) only [go_sem, g1, g2, eq_self, if_true, if_false, Bool.false_eq_true]
    try simp -implicitDefEqProofs (disch := first | decide | assumption | (simp (disch := decide) only [gvA, eq_self, if_true, if_false, Bool.false_eq_true, g1, g2]; done) | omega) only [go_sem, g1, g2, eq_self, if_true, if_false, Bool.false_eq_true]
    refine hK _ _ ?_
    clear hK K
    refine den_stop ?_
    refine ⟨?_, rfl⟩
    first | (simp (disch := decide) only [go_sem, g1, g2, eq_self, Bool.true_and, Bool.and_true, Bool.false_and, Bool.and_false, Bool.true_or, Bool.or_true, Bool.false_or, Bool.or_false, if_true, if_false, Bool.false_eq_true]; done) | simp [HasL, sel, puts_at, g1, g2]
  ·try simp -implicitDefEqProofs (disch := first | decide | assumption | (simp (disch := decide) only [gvA, eq_self, if_true, if_false, Bool.false_eq_true, g1]; done) | omega) only [go_sem, g1, eq_self, if_true, if_false, Bool.false_eq_true]
   try simp -implicitDefEqProofs (disch := first | decide | assumption | (simp (disch := decide) only [gvA, eq_self, if_true, if_false, Bool.false_eq_true, g1]; done) | omega) only [go_sem, g1, eq_self, if_true, if_false, Bool.false_eq_true]
   try simp -implicitDefEqProofs (disch := first | decide | assumption | (simp (disch := decide) only [gvA, eq_self, if_true, if_false, Bool.false_eq_true, g1]; done) | omega) only [go_sem, g1, eq_self, if_true, if_false, Bool.false_eq_true]
   refine hK _ _ ?_
   clear hK K
   refine den_stop ?_
   refine ⟨?_, rfl⟩
   first | (simp (disch := decide) only [go_sem, g1, eq_self, Bool.true_and, Bool.and_true, Bool.false_and, Bool.and_false, Bool.true_or, Bool.or_true, Bool.false_or, Bool.or_false, if_true, if_false, Bool.false_eq_true]; done) | simp [HasL, sel, puts_at, g1]
 intro en4
 simp (disch := decide) only [go_sem]
 refine den_ret ?_
 simp (disch := decide) only [resP_1, puts_same, puts_ne]
 exact ⟨by first | rfl | trivial, trivial⟩

set_option maxRecDepth 100000 in
theorem size1_ok (v : Value) (xs : List Int) (h : Heap) (hv : R1 h v xs) : CallA Try.prog 90 #[v] h fun v h' => v = .int .i64 (xs.length : Int) ∧ h' = h := by
 have hle := RdS.le hv
 refine callA_intro TTok (args := [_]) Try.func90 (by kernel_rfl) rfl 5 rfl (by simp) [.tmp 2] rfl ?_
 simp only [idxs, Nat.reduceAdd]
 refine den_seq ?_
 refine den_region TTok ?_
 intro K hK
 simp -implicitDefEqProofs (disch := first | decide | assumption | omega) only [go_sem, R1.al hv (HPres.refl _) sl55, wrap_id]
 refine hK _ _ ?_
 clear hK K
 refine den_seq ?_
 refine den_region TTok ?_
 intro K hK
 simp -implicitDefEqProofs (disch := first | decide | assumption | omega) only [go_sem, R1.al hv (HPres.refl _) sl55, wrap_id]
 refine hK _ _ ?_
 clear hK K
 refine den_ret ?_
 simp (disch := decide) only [resP_1, puts_same, puts_ne]
 exact ⟨by first | rfl | trivial, trivial⟩

set_option maxRecDepth 100000 in
theorem size2_ok (v : Value) (xs : List (List Int)) (h : Heap) (hv : R2 h v xs) : CallA Try.prog 118 #[v] h fun v h' => v = .int .i64 (xs.length : Int) ∧ h' = h := by
 have hle := RdS.le hv
 refine callA_intro TTok (args := [_]) Try.func118 (by kernel_rfl) rfl 5 rfl (by simp) [.tmp 2] rfl ?_
 simp only [idxs, Nat.reduceAdd]
 refine den_seq ?_
 refine den_region TTok ?_
 intro K hK
 simp -implicitDefEqProofs (disch := first | decide | assumption | omega) only [go_sem, RdS.al hv (HPres.refl _) sl59, wrap_id]
 refine hK _ _ ?_
 clear hK K
 refine den_seq ?_
 refine den_region TTok ?_
 intro K hK
 simp -implicitDefEqProofs (disch := first | decide | assumption | omega) only [go_sem, RdS.al hv (HPres.refl _) sl59, wrap_id]
 refine hK _ _ ?_
 clear hK K
 refine den_ret ?_
 simp (disch := decide) only [resP_1, puts_same, puts_ne]
 exact ⟨by first | rfl | trivial, trivial⟩

set_option maxRecDepth 100000 in
theorem size3_ok (v : Value) (xs : List (List (List Int))) (h : Heap) (hv : R3 h v xs) : CallA Try.prog 115 #[v] h fun v h' => v = .int .i64 (xs.length : Int) ∧ h' = h := by
 have hle := RdS.le hv
 refine callA_intro TTok (args := [_]) Try.func115 (by kernel_rfl) rfl 5 rfl (by simp) [.tmp 2] rfl ?_
 simp only [idxs, Nat.reduceAdd]
 refine den_seq ?_
 refine den_region TTok ?_
 intro K hK
 simp -implicitDefEqProofs (disch := first | decide | assumption | omega) only [go_sem, RdS.al hv (HPres.refl _) sl56, wrap_id]
 refine hK _ _ ?_
 clear hK K
 refine den_seq ?_
 refine den_region TTok ?_
 intro K hK
 simp -implicitDefEqProofs (disch := first | decide | assumption | omega) only [go_sem, RdS.al hv (HPres.refl _) sl56, wrap_id]
 refine hK _ _ ?_
 clear hK K
 refine den_ret ?_
 simp (disch := decide) only [resP_1, puts_same, puts_ne]
 exact ⟨by first | rfl | trivial, trivial⟩

set_option maxRecDepth 100000 in
theorem top_ok (v : Value) (X : Cx) (h : Heap) (hv : RC h v X) : CallA Try.prog 114 #[v] h fun v h' => v = .int .i64 ((X.dims.length : Int) - 1) ∧ Ext h h' := by
 obtain ⟨vd, vm, rfl, hd, hm⟩ := hv
 have hle := RdS.le hd
 refine callA_intro TTok (args := [_]) Try.func114 (by kernel_rfl) rfl 7 rfl (by simp) [.tmp 2] rfl ?_
 simp only [idxs, Nat.reduceAdd]
 refine den_seq ?_
 refine den_region TTok ?_
 intro K hK
 simp -implicitDefEqProofs (disch := first | decide | assumption | omega) only [go_sem, R1.al hd (HPres.refl _) sl55, RdS.al hm (HPres.refl _) sl56, wrap_id]
 refine op_box (cs := #[.int .i64 (X.p), vd, vm]) rfl ?_
 intro h0_0 e0_0 hb0_0 z0_0
 replace hd := RdS.pres hd (Ext.pres e0_0)
 replace hm := RdS.pres hm (Ext.pres e0_0)
 try simp -implicitDefEqProofs (disch := first | decide | assumption | omega) only [go_sem, R1.al hd (HPres.refl _) sl55, RdS.al hm (HPres.refl _) sl56, BoxAt.cell hb0_0, wrap_id]
 refine hK _ _ ?_
 clear hK K
 refine den_seq ?_
 refine den_region TTok ?_
 intro K hK
 simp -implicitDefEqProofs (disch := first | decide | assumption | omega) only [go_sem, fa58_1, ld55, R1.al hd (HPres.refl _) sl55, RdS.al hm (HPres.refl _) sl56, BoxAt.cell hb0_0, wrap_id]
 try simp -implicitDefEqProofs (disch := first | decide | assumption | omega) only [go_sem, R1.al hd (HPres.refl _) sl55, RdS.al hm (HPres.refl _) sl56, BoxAt.cell hb0_0, wrap_id]
 refine CallA.pure (size1_ok _ _ _ hd) ?_
 try simp -implicitDefEqProofs (disch := first | decide | assumption | omega) only [go_sem, R1.al hd (HPres.refl _) sl55, RdS.al hm (HPres.refl _) sl56, BoxAt.cell hb0_0, wrap_id]
 refine hK _ _ ?_
 clear hK K
 refine den_ret ?_
 simp (disch := decide) only [resP_1, puts_same, puts_ne]
 exact ⟨trivial, e0_0⟩

set_option maxRecDepth 100000 in
theorem sDim_ok (v : Value) (X : Cx) (n : Int) (h : Heap) (hv : RC h v X) : CallA Try.prog 111 #[v, .int .i64 n] h fun v h' => v = .int .i64 (dimP X n) ∧ Ext h h' := by
 obtain ⟨vd, vm, rfl, hd, hm⟩ := hv
 have hle := RdS.le hd
 refine callA_intro TTok (args := [_, _]) Try.func111 (by kernel_rfl) rfl 17 rfl (by simp) [.tmp 4] rfl ?_
 simp only [idxs, Nat.reduceAdd]
 refine den_seq ?_
 refine den_region TTok ?_
 intro K hK
 simp -implicitDefEqProofs (disch := first | decide | assumption | omega) only [go_sem, R1.al hd (HPres.refl _) sl55, RdS.al hm (HPres.refl _) sl56, wrap_id]
 refine op_box (cs := #[.int .i64 (X.p), vd, vm]) rfl ?_
 intro h0_0 e0_0 hb0_0 z0_0
 replace hd := RdS.pres hd (Ext.pres e0_0)
 replace hm := RdS.pres hm (Ext.pres e0_0)
 try simp -implicitDefEqProofs (disch := first | decide | assumption | omega) only [go_sem, R1.al hd (HPres.refl _) sl55, RdS.al hm (HPres.refl _) sl56, BoxAt.cell hb0_0, wrap_id]
 refine hK _ _ ?_
 clear hK K
 refine den_seq ?_
 refine den_seq ?_
 refine den_region TTok ?_
 intro K hK
 simp -implicitDefEqProofs (disch := first | decide | assumption | omega) only [go_sem, fa58_1, ld55, R1.al hd (HPres.refl _) sl55, RdS.al hm (HPres.refl _) sl56, BoxAt.cell hb0_0, wrap_id]
 try simp -implicitDefEqProofs (disch := first | decide | assumption | omega) only [go_sem, R1.al hd (HPres.refl _) sl55, RdS.al hm (HPres.refl _) sl56, BoxAt.cell hb0_0, wrap_id]
 refine CallA.pure (sIn_ok _ _ _ _) ?_
 try simp -implicitDefEqProofs (disch := first | decide | assumption | omega) only [go_sem, R1.al hd (HPres.refl _) sl55, RdS.al hm (HPres.refl _) sl56, BoxAt.cell hb0_0, wrap_id]
 refine hK _ _ ?_
 clear hK K
 refine den_cond rfl (fun c0 => ?_) (fun c0 => ?_)
 ·try simp only [ddA, in3_iff, in3_f] at c0
  refine den_seq ?_
  refine den_region TTok ?_
  intro K hK
  simp -implicitDefEqProofs (disch := first | decide | assumption | omega) only [go_sem, R1.al hd (HPres.refl _) sl55, RdS.al hm (HPres.refl _) sl56, BoxAt.cell hb0_0, wrap_id]
  refine hK _ _ ?_
  clear hK K
  refine den_ret ?_
  simp (disch := decide) only [resP_1, puts_same, puts_ne]
  exact ⟨vint (by rw [dimP, if_neg (by rw [in3_iff]; omega)]), e0_0⟩
 ·try simp only [ddA, in3_iff, in3_f] at c0
  refine den_skip ?_
  refine den_seq ?_
  refine den_region TTok ?_
  intro K hK
  simp -implicitDefEqProofs (disch := first | decide | assumption | omega) only [go_sem, fa58_1, ld55, ld2, R1.al hd (HPres.refl _) sl55, RdS.al hm (HPres.refl _) sl56, BoxAt.cell hb0_0, wrap_id]
  refine hK _ _ ?_
  clear hK K
  refine den_ret ?_
  simp (disch := decide) only [resP_1, puts_same, puts_ne]
  exact ⟨vint (by rw [dimP, if_pos (by rw [in3_iff]; omega)]), e0_0⟩

set_option maxRecDepth 100000 in
theorem iDim_ok (v : Value) (X : Cx) (n : Int) (h : Heap) (hv : RC h v X) : CallA Try.prog 137 #[v, .int .i64 n] h fun v h' => v = .int .i64 (dimP X n) ∧ Ext h h' := by
 obtain ⟨vd, vm, rfl, hd, hm⟩ := hv
 have hle := RdS.le hd
 refine callA_intro TTok (args := [_, _]) Try.func137 (by kernel_rfl) rfl 15 rfl (by simp) [.tmp 4] rfl ?_
 simp only [idxs, Nat.reduceAdd]
 refine den_seq ?_
 refine den_region TTok ?_
 intro K hK
 simp -implicitDefEqProofs (disch := first | decide | assumption | omega) only [go_sem, R1.al hd (HPres.refl _) sl55, RdS.al hm (HPres.refl _) sl56, wrap_id]
 refine op_box (cs := #[.int .i64 (X.p), vd, vm]) rfl ?_
 intro h0_0 e0_0 hb0_0 z0_0
 replace hd := RdS.pres hd (Ext.pres e0_0)
 replace hm := RdS.pres hm (Ext.pres e0_0)
 try simp -implicitDefEqProofs (disch := first | decide | assumption | omega) only [go_sem, R1.al hd (HPres.refl _) sl55, RdS.al hm (HPres.refl _) sl56, BoxAt.cell hb0_0, wrap_id]
 refine hK _ _ ?_
 clear hK K
 refine den_seq ?_
 refine den_seq ?_
 refine den_region TTok ?_
 intro K hK
 simp -implicitDefEqProofs (disch := first | decide | assumption | omega) only [go_sem, ld58, R1.al hd (HPres.refl _) sl55, RdS.al hm (HPres.refl _) sl56, BoxAt.cell hb0_0, wrap_id]
 try simp -implicitDefEqProofs (disch := first | decide | assumption | omega) only [go_sem, R1.al hd (HPres.refl _) sl55, RdS.al hm (HPres.refl _) sl56, BoxAt.cell hb0_0, wrap_id]
 refine CallA.mono (top_ok _ X _ ⟨_, _, rfl, hd, hm⟩) ?_
 intro v_ h1_2
 rintro ⟨rfl, e1_2⟩
 have := Ext.size e1_2
 have eB := e1_2
 try simp -implicitDefEqProofs (disch := first | decide | assumption | omega) only [go_sem, R1.al hd (Ext.pres eB) sl55, RdS.al hm (Ext.pres eB) sl56, BoxAt.cellB hb0_0 eB, wrap_id]
 try simp -implicitDefEqProofs (disch := first | decide | assumption | omega) only [go_sem, R1.al hd (Ext.pres eB) sl55, RdS.al hm (Ext.pres eB) sl56, BoxAt.cellB hb0_0 eB, wrap_id]
 refine CallA.pure (iIn_ok _ _ _ _) ?_
 try simp -implicitDefEqProofs (disch := first | decide | assumption | omega) only [go_sem, R1.al hd (Ext.pres eB) sl55, RdS.al hm (Ext.pres eB) sl56, BoxAt.cellB hb0_0 eB, wrap_id]
 refine hK _ _ ?_
 clear hK K
 refine den_cond rfl (fun c0 => ?_) (fun c0 => ?_)
 ·try simp only [ddA, in3_iff, in3_f] at c0
  refine den_seq ?_
  refine den_region TTok ?_
  intro K hK
  simp -implicitDefEqProofs (disch := first | decide | assumption | omega) only [go_sem, R1.al hd (Ext.pres eB) sl55, RdS.al hm (Ext.pres eB) sl56, BoxAt.cellB hb0_0 eB, wrap_id]
  refine hK _ _ ?_
  clear hK K
  refine den_ret ?_
  simp (disch := decide) only [resP_1, puts_same, puts_ne]
  exact ⟨vint (by rw [dimP, if_neg (by rw [in3_iff]; omega)]), (Ext.trans e0_0 eB)⟩
 ·try simp only [ddA, in3_iff, in3_f] at c0
  refine den_skip ?_
  refine den_seq ?_
  refine den_region TTok ?_
  intro K hK
  simp -implicitDefEqProofs (disch := first | decide | assumption | omega) only [go_sem, fa58_1, ld55, ld2, R1.al hd (Ext.pres eB) sl55, RdS.al hm (Ext.pres eB) sl56, BoxAt.cellB hb0_0 eB, wrap_id]
  refine hK _ _ ?_
  clear hK K
  refine den_ret ?_
  simp (disch := decide) only [resP_1, puts_same, puts_ne]
  exact ⟨vint (by rw [dimP, if_pos (by rw [in3_iff]; omega)]), (Ext.trans e0_0 eB)⟩
end Go.Proofs.Ytacajcjibhifmaa

namespace Go.Proofs.Ytacajcjibhifmaa
open Go
theorem all_at {α : Type} {f : α → Bool} {xs : List α} {d : α} {k : Nat} (h : xs.all f = true) (hk : k < xs.length) : f (xs.getD k d) = true := by
 rw [List.getD_eq_getElem?_getD, List.getElem?_eq_getElem hk]
 exact List.all_eq_true.1 h _ (List.getElem_mem hk)
def mix {α : Type} (A B : List α) (m : Nat) : List α := A.take m ++ B.drop m
theorem mix_len {α : Type} (A B : List α) (m : Nat) (h : A.length = B.length) : (mix A B m).length = B.length := by
 simp [mix, List.length_take, List.length_drop]; omega
theorem mix_get {α : Type} (A B : List α) (m : Nat) (d : α) (h : A.length = B.length) (hm : m < B.length) : (mix A B m).getD m d = B.getD m d := by
 rw [List.getD_eq_getElem?_getD, List.getD_eq_getElem?_getD, mix, List.getElem?_append_right (by rw [List.length_take]; omega), List.length_take, Nat.min_eq_left (by omega), List.getElem?_drop]
 simp
theorem mix_set {α : Type} (A B : List α) (m : Nat) (d : α) (h : A.length = B.length) (hm : m < B.length) : (mix A B m).set m (A.getD m d) = mix A B (m + 1) := by
 have hl : (A.take m).length = m := by rw [List.length_take]; omega
 rw [mix, mix, List.set_append_right _ _ (by omega), hl, Nat.sub_self, List.drop_eq_getElem_cons hm, List.set_cons_zero, List.take_succ_eq_append_getElem (by omega), List.append_assoc, List.getD_eq_getElem?_getD, List.getElem?_eq_getElem (by omega)]
 rfl
theorem mix_zero {α : Type} (A B : List α) : mix A B 0 = B := by simp [mix]
theorem mix_end {α : Type} (A B : List α) (m : Nat) (h : A.length = B.length) (hm : ¬ m < B.length) : mix A B m = A := by
 rw [mix, List.take_of_length_le (by omega), List.drop_eq_nil_of_le (by omega), List.append_nil]
/-- The place of the first number other than 0. -/
def leadP : List Int → Int
 | [] => -1
 | x :: r => if x ≠ 0 then 0 else if leadP r < 0 then -1 else leadP r + 1
theorem leadP_all : ∀ {xs : List Int}, (∀ x ∈ xs, x = 0) → leadP xs = -1
 | [], _ => rfl
 | x :: r, h => by
  rw [leadP, if_neg (by simp [h x]), leadP_all (fun y hy => h y (List.mem_cons_of_mem _ hy))]; rfl
theorem leadP_at : ∀ {xs : List Int} {k : Nat}, k < xs.length → (∀ j, j < k → xs.getD j 0 = 0) → xs.getD k 0 ≠ 0 → leadP xs = k
 | x :: r, 0, _, _, h => by rw [leadP, if_pos (by simpa using h)]; rfl
 | x :: r, k + 1, hk, hz, h => by
  have := leadP_at (xs := r) (k := k) (by simpa using hk) (fun j hj => by simpa using hz (j + 1) (by omega)) (by simpa using h)
  rw [leadP, if_neg (by simpa using hz 0 (by omega)), this, if_neg (by omega)]; omega
theorem zeros_all {xs : List Int} (h : ∀ j, j < xs.length → xs.getD j 0 = 0) : ∀ x ∈ xs, x = 0 := by
 intro x hx
 obtain ⟨j, hj, rfl⟩ := List.getElem_of_mem hx
 have := h j hj
 rwa [List.getD_eq_getElem?_getD, List.getElem?_eq_getElem hj] at this
def isRow (p n : Int) (r : List Int) : Bool := decide ((r.length : Int) = n) && r.all (fun x => in3 x 0 (p - 1))
def tableP (p : Int) (rows : List (List Int)) (c w : Int) : Bool := decide ((rows.length : Int) = c) && rows.all (isRow p w)

set_option maxRecDepth 100000 in
theorem sLead_ok (v : Value) (xs : List Int) (h : Heap) (hv : R1 h v xs) : CallA Try.prog 126 #[v] h fun v h' => v = .int .i64 (leadP xs) ∧ h' = h := by
 have hle := RdS.le hv
 refine callA_intro TTok (args := [_]) Try.func126 (by kernel_rfl) rfl 16 rfl (by simp) [.tmp 2] rfl ?_
 simp only [idxs, Nat.reduceAdd]
 refine den_seq ?_
 refine den_region TTok ?_
 intro K hK
 simp -implicitDefEqProofs (disch := first | decide | assumption | omega) only [go_sem, R1.al hv (HPres.refl _) sl55, wrap_id]
 refine hK _ _ ?_
 clear hK K
 refine den_seq ?_
 refine den_seq ?_
 refine den_region TTok ?_
 intro K hK
 simp -implicitDefEqProofs (disch := first | decide | assumption | omega) only [go_sem, R1.al hv (HPres.refl _) sl55, wrap_id]
 refine hK _ _ ?_
 clear hK K
 refine den_block ?_
 refine den_sel [3, 0] ?_
 intro env_1
 simp only [go_sem]
 refine den_loopP (σ := Nat) (fun s => [(3, .int .i64 (s : Int))]) (fun s => s ≤ xs.length ∧ ∀ j, j < s → xs.getD j 0 = 0) (fun s => xs.length - s) 0 ?_ ?_
 ·exact ⟨rfl, by omega, fun j hj => by omega⟩
 ·rintro k ee3 ⟨hk, hz⟩
  simp only [List.cons_append, List.nil_append]
  refine den_seq ?_
  refine den_seq ?_
  refine den_region TTok ?_
  intro K hK
  simp -implicitDefEqProofs (disch := first | decide | assumption | omega) only [go_sem, R1.al hv (HPres.refl _) sl55, wrap_id]
  refine hK _ _ ?_
  clear hK K
  refine den_cond rfl (fun c0 => ?_) (fun c0 => ?_)
  ·try simp only [ddA] at c0
   refine den_skip ?_
   refine den_seq ?_
   refine den_block ?_
   refine den_seq ?_
   refine den_region TTok ?_
   intro K hK
   simp -implicitDefEqProofs (disch := first | decide | assumption | omega) only [go_sem, ld2, R1.al hv (HPres.refl _) sl55, wrap_id]
   refine hK _ _ ?_
   clear hK K
   refine den_cond rfl (fun c1 => ?_) (fun c1 => ?_)
   ·try simp only [ddA] at c1
    refine den_seq ?_
    refine den_region TTok ?_
    intro K hK
    simp -implicitDefEqProofs (disch := first | decide | assumption | omega) only [go_sem, R1.al hv (HPres.refl _) sl55, wrap_id]
    refine hK _ _ ?_
    clear hK K
    refine den_ret ?_
    simp (disch := decide) only [resP_1, puts_same, puts_ne]
    exact ⟨vint (leadP_at (by omega) hz c1).symm, trivial⟩
   ·try simp only [ddA] at c1
    refine den_skip ?_
    refine den_blk ?_
    refine den_region TTok ?_
    intro K hK
    simp -implicitDefEqProofs (disch := first | decide | assumption | omega) only [go_sem, R1.al hv (HPres.refl _) sl55, wrap_id]
    refine hK _ _ ?_
    clear hK K
    refine den_stop ?_
    exact ⟨k + 1, by simp [HasL, puts_at], ⟨rfl, by omega, fun j hj => by
     rcases Nat.lt_succ_iff_lt_or_eq.1 hj with h1 | h1
     ·exact hz j h1
     ·rw [h1]; exact c1⟩, by omega⟩
  ·try simp only [ddA] at c0
   refine den_exit ?_
   refine denX_code ?_
   refine denX_stop ?_
   refine denX_hit ?_
   refine den_seq ?_
   refine den_region TTok ?_
   intro K hK
   simp -implicitDefEqProofs (disch := first | decide | assumption | omega) only [go_sem, R1.al hv (HPres.refl _) sl55, wrap_id]
   refine hK _ _ ?_
   clear hK K
   refine den_ret ?_
   simp (disch := decide) only [resP_1, puts_same, puts_ne]
   exact ⟨vint (leadP_all (zeros_all fun j hj => hz j (by omega))).symm, trivial⟩
end Go.Proofs.Ytacajcjibhifmaa

namespace Go.Proofs.Ytacajcjibhifmaa
open Go
/-- One row, times x, is added. -/
def stepRow (p x : Int) (row acc : List Int) : List Int := List.zipWith (fun o y => (o + x * y).tmod p) acc row
def accP (p : Int) : List Int → List (List Int) → List Int → List Int
 | x :: v, r :: rows, acc => accP p v rows (stepRow p x r acc)
 | _, _, acc => acc
def Bnd (p : Int) (v : List Int) : Prop := ∀ x ∈ v, 0 ≤ x ∧ x < p
theorem Bnd.at {p : Int} {v : List Int} (h : Bnd p v) {k : Nat} (hk : k < v.length) : 0 ≤ v.getD k 0 ∧ v.getD k 0 < p := by
 rw [List.getD_eq_getElem?_getD, List.getElem?_eq_getElem hk]; exact h _ (List.getElem_mem hk)
theorem Bnd.zeros {p : Int} (hp : 0 < p) (m : Nat) : Bnd p (List.replicate m 0) := fun x hx => by
 rw [List.eq_of_mem_replicate hx]; omega
theorem stepRow_len {p x : Int} {row acc : List Int} (h : row.length = acc.length) : (stepRow p x row acc).length = acc.length := by simp [stepRow, h]
theorem stepRow_get {p x : Int} {row acc : List Int} (h : row.length = acc.length) {m : Nat} (hm : m < acc.length) : (stepRow p x row acc).getD m 0 = (acc.getD m 0 + x * row.getD m 0).tmod p := by
 simp only [stepRow, List.getD_eq_getElem?_getD, List.getElem?_zipWith, List.getElem?_eq_getElem hm, List.getElem?_eq_getElem (by omega : m < row.length), Option.getD_some]
theorem mul36 {x y p : Int} (hx : 0 ≤ x ∧ x < p) (hy : 0 ≤ y ∧ y < p) (hp : p ≤ 7) : 0 ≤ x * y ∧ x * y ≤ 36 := by
 refine ⟨Int.mul_nonneg hx.1 hy.1, ?_⟩
 have := Int.mul_le_mul (show x ≤ 6 by omega) (show y ≤ 6 by omega) hy.1 (by omega : (0 : Int) ≤ 6)
 simpa using this
theorem tmod_bnd {a p : Int} (h : 0 ≤ a) (hp : 0 < p) : 0 ≤ a.tmod p ∧ a.tmod p < p := ⟨Int.tmod_nonneg _ h, Int.tmod_lt_of_pos _ hp⟩
theorem stepRow_bnd {p x : Int} {row acc : List Int} (hp : 0 < p) (hx : 0 ≤ x) (hr : Bnd p row) (ha : Bnd p acc) : Bnd p (stepRow p x row acc) := by
 intro z hz
 rw [stepRow, List.mem_iff_getElem] at hz
 obtain ⟨i, hi, rfl⟩ := hz
 rw [List.getElem_zipWith]
 exact tmod_bnd (Int.add_nonneg (ha _ (List.getElem_mem _)).1 (Int.mul_nonneg hx (hr _ (List.getElem_mem _)).1)) hp
theorem step_set {p x : Int} {row acc : List Int} {m : Nat} (h : row.length = acc.length) (hm : m < acc.length) :
  (mix (stepRow p x row acc) acc m).set m (((mix (stepRow p x row acc) acc m).getD m 0 + x * row.getD m 0).tmod p) = mix (stepRow p x row acc) acc (m + 1) := by
 rw [mix_get _ _ _ _ (stepRow_len h) hm, ← stepRow_get h hm, mix_set _ _ _ _ (stepRow_len h) hm]
theorem drop_get {α : Type} {xs : List α} {k : Nat} (d : α) (hk : k < xs.length) : xs.drop k = xs.getD k d :: xs.drop (k + 1) := by
 rw [List.drop_eq_getElem_cons hk, List.getD_eq_getElem?_getD, List.getElem?_eq_getElem hk]; rfl
theorem accP_step {p : Int} {v : List Int} {rows : List (List Int)} {acc : List Int} {k : Nat} (hk : k < v.length) (hr : k < rows.length) : accP p (v.drop k) (rows.drop k) acc = accP p (v.drop (k + 1)) (rows.drop (k + 1)) (stepRow p (v.getD k 0) (rows.getD k default) acc) := by
 rw [drop_get 0 hk, drop_get default hr]; rfl
theorem accP_end {p : Int} {v : List Int} {rows : List (List Int)} {acc : List Int} {k : Nat} (hk : ¬ k < v.length) : accP p (v.drop k) (rows.drop k) acc = acc := by
 rw [List.drop_eq_nil_of_le (by omega)]
 cases rows.drop k <;> rfl
/-- Rows of w numbers modulo p. -/
def Tbl (p w : Int) (rows : List (List Int)) : Prop := ∀ r ∈ rows, (r.length : Int) = w ∧ Bnd p r
theorem Tbl.at {p w : Int} {rows : List (List Int)} (h : Tbl p w rows) {k : Nat} (hk : k < rows.length) : ((rows.getD k default).length : Int) = w ∧ Bnd p (rows.getD k default) := h _ (getD_mem hk)
theorem isRow_iff {p n : Int} {r : List Int} : isRow p n r = true ↔ (r.length : Int) = n ∧ Bnd p r := by
 simp only [isRow, Bool.and_eq_true, decide_eq_true_eq, List.all_eq_true, in3_iff, Bnd]
 constructor <;> rintro ⟨h1, h2⟩ <;> exact ⟨h1, fun x hx => by have := h2 x hx; omega⟩
theorem tableP_iff {p : Int} {rows : List (List Int)} {c w : Int} : tableP p rows c w = true ↔ (rows.length : Int) = c ∧ Tbl p w rows := by
 simp only [tableP, Bool.and_eq_true, decide_eq_true_eq, List.all_eq_true, isRow_iff, Tbl]
theorem accP_bnd {p : Int} (hp : 0 < p) : ∀ {v : List Int} {rows : List (List Int)} {acc : List Int} {w : Int}, Bnd p v → Tbl p w rows → Bnd p acc → Bnd p (accP p v rows acc)
 | [], _, _, _, _, _, h => h
 | _ :: _, [], _, _, _, _, h => h
 | x :: v, r :: rows, acc, w, hv, ht, h => by
  rw [accP]
  exact accP_bnd hp (fun y hy => hv y (List.mem_cons_of_mem _ hy)) (w := w) (fun y hy => ht y (List.mem_cons_of_mem _ hy)) (stepRow_bnd hp (hv x (by simp)).1 (ht r (by simp)).2 h)
theorem accP_len {p : Int} : ∀ {v : List Int} {rows : List (List Int)} {acc : List Int}, Tbl p acc.length rows → (accP p v rows acc).length = acc.length
 | [], _, _, _ => rfl
 | _ :: _, [], _, _ => rfl
 | x :: v, r :: rows, acc, ht => by
  have h1 := (ht r (by simp)).1
  have h2 := stepRow_len (p := p) (x := x) (row := r) (acc := acc) (by omega)
  rw [accP, accP_len (by rw [h2]; exact fun y hy => ht y (List.mem_cons_of_mem _ hy)), h2]

set_option maxRecDepth 100000 in
theorem iApply_ok (p : Int) (w : Int) (vv vr : Value) (v : List Int) (rows : List (List Int)) (h : Heap) (hv : R1 h vv v) (hr : R2 h vr rows) (hp : 0 < p ∧ p ≤ 7) (hw : 0 ≤ w ∧ w ≤ 1048576) (hl : v.length ≤ rows.length) (hv0 : Bnd p v) (hr0 : Tbl p w rows) : CallA Try.prog 135 #[.int .i64 p, .int .i64 w, vv, vr] h fun v' h' => ∃ f, O1 h' v' (accP p v rows (List.replicate w.toNat 0)) f ∧ Fresh h.size f ∧ Ext h h' := by
 have hle := RdS.le hv
 refine callA_intro TTok (args := [_, _, _, _]) Try.func135 (by kernel_rfl) rfl 49 rfl (by simp) [.tmp 8] rfl ?_
 simp only [idxs, Nat.reduceAdd]
 refine den_seq ?_
 refine den_region TTok ?_
 intro K hK
 simp -implicitDefEqProofs (disch := first | decide | assumption | omega) only [go_sem, RdS.al hr (HPres.refl _) sl59, R1.al hv (HPres.refl _) sl55, wrap_id]
 refine hK _ _ ?_
 clear hK K
 refine den_seq ?_
 refine den_region TTok ?_
 intro K hK
 simp -implicitDefEqProofs (disch := first | decide | assumption | omega) only [go_sem, RdS.al hr (HPres.refl _) sl59, R1.al hv (HPres.refl _) sl55, wrap_id]
 refine op_make sz55 rfl rfl (by omega) (by omega) OI 0 (fun _ => ⟨rfl, rfl⟩) ?_
 intro v1_1 h1_1 ho1_1 e1_1
 have := Ext.size e1_1
 have eB := e1_1
 try simp -implicitDefEqProofs (disch := first | decide | assumption | omega) only [go_sem, RdS.al hr (Ext.pres eB) sl59, R1.al hv (Ext.pres eB) sl55, R1.an (OS.rd ho1_1) sl55, wrap_id]
 refine hK _ _ ?_
 clear hK K
 refine den_seq ?_
 refine den_seq ?_
 refine den_region TTok ?_
 intro K hK
 simp -implicitDefEqProofs (disch := first | decide | assumption | omega) only [go_sem, RdS.al hr (Ext.pres eB) sl59, R1.al hv (Ext.pres eB) sl55, R1.an (OS.rd ho1_1) sl55, wrap_id]
 refine hK _ _ ?_
 clear hK K
 refine den_block ?_
 refine den_sel [18, 0, 3, 9, 16, 17] ?_
 intro env_1
 simp only [go_sem]
 refine den_loopS (σ := Nat × List Int) (fun s => [(18, .int .i64 (s.1 : Int))]) (fun s H => Ext h H ∧ s.1 ≤ v.length ∧ O1 H v1_1 s.2 [h.size] ∧ (s.2.length : Int) = w ∧ Bnd p s.2 ∧ accP p (v.drop s.1) (rows.drop s.1) s.2 = accP p v rows (List.replicate w.toNat 0)) (fun s => v.length - s.1) (0, List.replicate w.toNat 0) ?_ ?_
 ·exact ⟨eB, by simp, by simpa using ho1_1, by simp; omega, Bnd.zeros hp.1 _, rfl⟩
 ·rintro ⟨k, acc⟩ h4 ee3 ⟨eB, hk, ho, hol, hob, hac⟩
  simp only [List.cons_append, List.nil_append]
  have := Ext.size eB
  dsimp only at hk ho hol hob hac
  refine den_seq ?_
  refine den_region TTok ?_
  intro K hK
  simp -implicitDefEqProofs (disch := first | decide | assumption | omega) only [go_sem, RdS.al hr (Ext.pres eB) sl59, R1.al hv (Ext.pres eB) sl55, R1.an (OS.rd ho) sl55, wrap_id]
  refine hK _ _ ?_
  clear hK K
  refine den_seq ?_
  refine den_cond rfl (fun c0 => ?_) (fun c0 => ?_)
  ·try simp only [ddA] at c0
   refine den_skip ?_
   refine den_seq ?_
   refine den_block ?_
   refine den_seq ?_
   refine den_region TTok ?_
   intro K hK
   simp -implicitDefEqProofs (disch := first | decide | assumption | omega) only [go_sem, ld2, RdS.al hr (Ext.pres eB) sl59, R1.al hv (Ext.pres eB) sl55, R1.an (OS.rd ho) sl55, wrap_id]
   refine hK _ _ ?_
   clear hK K
   refine den_seq ?_
   refine den_region TTok ?_
   intro K hK
   have hr5 := RdS.rowN hr k (by omega)
   have hlhr5 := RdS.le hr5
   simp -implicitDefEqProofs (disch := first | decide | assumption | omega) only [go_sem, ld55, RdS.al hr (Ext.pres eB) sl59, R1.al hv (Ext.pres eB) sl55, R1.al hr5 (Ext.pres eB) sl55, R1.an (OS.rd ho) sl55, wrap_id]
   refine hK _ _ ?_
   clear hK K
   refine den_block ?_
   refine den_sel [28, 0, 3, 9, 11, 16, 17, 18, 26, 27] ?_
   intro env_6
   simp only [go_sem]
   refine den_loopS (σ := Nat) (fun s => [(28, .int .i64 (s : Int))]) (fun s H => Ext h H ∧ s ≤ acc.length ∧ O1 H v1_1 (mix (stepRow p (v.getD k 0) (rows.getD k default) acc) acc s) [h.size]) (fun s => acc.length - s) 0 ?_ ?_
   ·exact ⟨eB, by omega, by rw [mix_zero]; exact ho⟩
   ·rintro m h9 ee8 ⟨eB, hm, ho⟩
    simp only [List.cons_append, List.nil_append]
    have := Ext.size eB
    refine den_seq ?_
    have hml := mix_len (stepRow p (v.getD k 0) (rows.getD k default) acc) acc m (stepRow_len (by have := (hr0.at (k := k) (by omega)).1; omega))
    refine den_region TTok ?_
    intro K hK
    simp -implicitDefEqProofs (disch := first | decide | assumption | omega) only [go_sem, RdS.al hr (Ext.pres eB) sl59, R1.al hv (Ext.pres eB) sl55, R1.al hr5 (Ext.pres eB) sl55, R1.an (OS.rd ho) sl55, wrap_id]
    refine hK _ _ ?_
    clear hK K
    refine den_seq ?_
    refine den_cond rfl (fun c1 => ?_) (fun c1 => ?_)
    ·try simp only [ddA] at c1
     refine den_skip ?_
     refine den_seq ?_
     refine den_block ?_
     refine den_seq ?_
     refine den_region TTok ?_
     intro K hK
     simp -implicitDefEqProofs (disch := first | decide | assumption | omega) only [go_sem, ld2, RdS.al hr (Ext.pres eB) sl59, R1.al hv (Ext.pres eB) sl55, R1.al hr5 (Ext.pres eB) sl55, R1.an (OS.rd ho) sl55, wrap_id]
     refine hK _ _ ?_
     clear hK K
     have hrl := hr0.at (k := k) (by omega)
     have hx := hv0.at (k := k) (by omega)
     have hy := hrl.2.at (k := m) (by omega)
     have ho2 := hob.at (k := m) (by omega)
     have hxy := mul36 hx hy hp.2
     have hmg := mix_get (stepRow p (v.getD k 0) (rows.getD k default) acc) acc m 0 (stepRow_len (by omega)) (by omega)
     refine den_region TTok ?_
     intro K hK
     simp -implicitDefEqProofs (disch := first | decide | assumption | omega) only [go_sem, ld2, RdS.al hr (Ext.pres eB) sl59, R1.al hv (Ext.pres eB) sl55, R1.al hr5 (Ext.pres eB) sl55, R1.an (OS.rd ho) sl55, wrap_id]
     refine op_store1 (j := m) st2 ho (by simp) (by omega) rfl rfl ?_
     intro h8 ho8 c8
     replace eB := Ext.then eB c8 (fun b hb => by simp at hb; omega)
     rw [step_set (by omega) (by omega)] at ho8
     try simp -implicitDefEqProofs (disch := first | decide | assumption | omega) only [go_sem, RdS.al hr (Ext.pres eB) sl59, R1.al hv (Ext.pres eB) sl55, R1.al hr5 (Ext.pres eB) sl55, R1.an (OS.rd ho) sl55, wrap_id]
     refine hK _ _ ?_
     clear hK K
     refine den_blk ?_
     refine den_region TTok ?_
     intro K hK
     simp -implicitDefEqProofs (disch := first | decide | assumption | omega) only [go_sem, RdS.al hr (Ext.pres eB) sl59, R1.al hv (Ext.pres eB) sl55, R1.al hr5 (Ext.pres eB) sl55, R1.an (OS.rd ho) sl55, wrap_id]
     refine hK _ _ ?_
     clear hK K
     refine den_stop ?_
     exact ⟨m + 1, by simp [HasL, puts_at], ⟨eB, by omega, ho8⟩, by omega⟩
    ·try simp only [ddA] at c1
     refine den_exit ?_
     refine denX_code ?_
     refine denX_stop ?_
     refine denX_hit ?_
     refine den_blk ?_
     refine den_region TTok ?_
     intro K hK
     simp -implicitDefEqProofs (disch := first | decide | assumption | omega) only [go_sem, RdS.al hr (Ext.pres eB) sl59, R1.al hv (Ext.pres eB) sl55, R1.al hr5 (Ext.pres eB) sl55, R1.an (OS.rd ho) sl55, wrap_id]
     refine hK _ _ ?_
     clear hK K
     refine den_stop ?_
     have hrl := hr0.at (k := k) (by omega)
     rw [mix_end _ _ _ (stepRow_len (by omega)) (by omega)] at ho
     exact ⟨(k + 1, stepRow p (v.getD k 0) (rows.getD k default) acc), by simp [HasL, puts_at], ⟨eB, by dsimp only; omega, ho, by rw [stepRow_len (by omega)]; exact hol, stepRow_bnd hp.1 (hv0.at (by omega)).1 hrl.2 hob, by rw [← accP_step (by omega) (by omega)]; exact hac⟩, by dsimp only; omega⟩
  ·try simp only [ddA] at c0
   refine den_exit ?_
   refine denX_code ?_
   refine denX_stop ?_
   refine denX_hit ?_
   refine den_seq ?_
   refine den_region TTok ?_
   intro K hK
   simp -implicitDefEqProofs (disch := first | decide | assumption | omega) only [go_sem, RdS.al hr (Ext.pres eB) sl59, R1.al hv (Ext.pres eB) sl55, R1.an (OS.rd ho) sl55, wrap_id]
   refine hK _ _ ?_
   clear hK K
   refine den_ret ?_
   simp (disch := decide) only [resP_1, puts_same, puts_ne]
   rw [accP_end (by omega)] at hac
   subst hac
   exact ⟨_, ho, Fresh.one _, eB⟩
end Go.Proofs.Ytacajcjibhifmaa

namespace Go.Proofs.Ytacajcjibhifmaa
open Go
/-- The place of the first element that f takes. -/
def idxP {α : Type} (f : α → Bool) : List α → Int
 | [] => -1
 | x :: r => if f x = true then 0 else if idxP f r < 0 then -1 else idxP f r + 1
theorem idxP_none {α : Type} {f : α → Bool} : ∀ {xs : List α}, (∀ x ∈ xs, f x = false) → idxP f xs = -1
 | [], _ => rfl
 | x :: r, h => by
  rw [idxP, if_neg (by simp [h x]), idxP_none (fun y hy => h y (List.mem_cons_of_mem _ hy))]; rfl
theorem idxP_at {α : Type} {f : α → Bool} {d : α} : ∀ {xs : List α} {k : Nat}, k < xs.length → (∀ j, j < k → f (xs.getD j d) = false) → f (xs.getD k d) = true → idxP f xs = k
 | x :: r, 0, _, _, h => by rw [idxP, if_pos (by simpa using h)]; rfl
 | x :: r, k + 1, hk, hz, h => by
  have := idxP_at (xs := r) (k := k) (d := d) (by simpa using hk) (fun j hj => by simpa using hz (j + 1) (by omega)) (by simpa using h)
  rw [idxP, if_neg (by simpa using hz 0 (by omega)), this, if_neg (by omega)]; omega
theorem all_getD {α : Type} {P : α → Prop} {d : α} {xs : List α} (h : ∀ j, j < xs.length → P (xs.getD j d)) : ∀ x ∈ xs, P x := by
 intro x hx
 obtain ⟨j, hj, rfl⟩ := List.getElem_of_mem hx
 have := h j hj
 rwa [List.getD_eq_getElem?_getD, List.getElem?_eq_getElem hj] at this
theorem idxP_ge {α : Type} {f : α → Bool} : ∀ {xs : List α}, -1 ≤ idxP f xs
 | [] => by simp [idxP]
 | x :: r => by
  have := idxP_ge (f := f) (xs := r)
  rw [idxP]
  split
  ·omega
  ·split <;> omega
theorem idxP_any {α : Type} {f : α → Bool} : ∀ {xs : List α}, decide (0 ≤ idxP f xs) = xs.any f
 | [] => rfl
 | x :: r => by
  have := idxP_any (f := f) (xs := r)
  rw [idxP, List.any_cons, ← this]
  by_cases hf : f x = true
  ·simp [hf]
  ·have h0 := idxP_ge (f := f) (xs := r)
   rw [if_neg hf, Bool.not_eq_true] at *
   rw [hf, Bool.false_or]
   apply decide_eq_decide.2
   split <;> omega
theorem leadP_idx : ∀ xs : List Int, leadP xs = idxP (fun x => x != 0) xs
 | [] => rfl
 | x :: r => by
  rw [leadP, idxP, leadP_idx r]
  by_cases h : x = 0 <;> simp [h]

set_option maxRecDepth 100000 in
theorem idx1_ok (v : Value) (xs : List Int) (g : FuncId) (cs : Array Value) (f : Int → Bool) (h : Heap) (hv : R1 h v xs) (hf : ∀ j, j < xs.length → ∀ h', Ext h h' → CallA Try.prog g (#[.int .i64 (xs.getD j 0)] ++ cs) h' fun u h'' => u = .bool (f (xs.getD j 0)) ∧ Ext h' h'') : CallA Try.prog 130 #[v, .func (.func g) #[] cs] h fun v' h' => v' = .int .i64 (idxP f xs) ∧ Ext h h' := by
 have hle := RdS.le hv
 refine callA_intro TTok (args := [_, _]) Try.func130 (by kernel_rfl) rfl 19 rfl (by simp) [.tmp 4] rfl ?_
 simp only [idxs, Nat.reduceAdd]
 refine den_seq ?_
 refine den_region TTok ?_
 intro K hK
 simp -implicitDefEqProofs (disch := first | decide | assumption | omega) only [go_sem, R1.al hv (HPres.refl _) sl55, wrap_id]
 refine hK _ _ ?_
 clear hK K
 refine den_seq ?_
 refine den_seq ?_
 refine den_region TTok ?_
 intro K hK
 simp -implicitDefEqProofs (disch := first | decide | assumption | omega) only [go_sem, R1.al hv (HPres.refl _) sl55, wrap_id]
 refine hK _ _ ?_
 clear hK K
 refine den_block ?_
 refine den_sel [8, 0, 1, 7] ?_
 intro env_1
 simp only [go_sem]
 refine den_loopS (σ := Nat) (fun s => [(8, .int .i64 (s : Int))]) (fun s H => Ext h H ∧ s ≤ xs.length ∧ ∀ j, j < s → f (xs.getD j 0) = false) (fun s => xs.length - s) 0 ?_ ?_
 ·exact ⟨Ext.refl _, by omega, fun j hj => by omega⟩
 ·rintro k h4 ee3 ⟨eB, hk, hz⟩
  simp only [List.cons_append, List.nil_append]
  have := Ext.size eB
  refine den_seq ?_
  refine den_region TTok ?_
  intro K hK
  simp -implicitDefEqProofs (disch := first | decide | assumption | omega) only [go_sem, R1.al hv (Ext.pres eB) sl55, wrap_id]
  refine hK _ _ ?_
  clear hK K
  refine den_seq ?_
  refine den_cond rfl (fun c0 => ?_) (fun c0 => ?_)
  ·try simp only [ddA] at c0
   refine den_skip ?_
   refine den_seq ?_
   refine den_block ?_
   refine den_seq ?_
   refine den_region TTok ?_
   intro K hK
   simp -implicitDefEqProofs (disch := first | decide | assumption | omega) only [go_sem, R1.al hv (Ext.pres eB) sl55, wrap_id]
   refine hK _ _ ?_
   clear hK K
   refine den_seq ?_
   refine den_region TTok ?_
   intro K hK
   simp -implicitDefEqProofs (disch := first | decide | assumption | omega) only [go_sem, ld2, R1.al hv (Ext.pres eB) sl55, wrap_id]
   try simp -implicitDefEqProofs (disch := first | decide | assumption | omega) only [go_sem, R1.al hv (Ext.pres eB) sl55, wrap_id]
   refine CallA.mono (hf k (by omega) _ eB) ?_
   intro v_ h4_5
   rintro ⟨rfl, e4_5⟩
   have := Ext.size e4_5
   replace eB := Ext.trans eB e4_5
   try simp -implicitDefEqProofs (disch := first | decide | assumption | omega) only [go_sem, R1.al hv (Ext.pres eB) sl55, wrap_id]
   refine hK _ _ ?_
   clear hK K
   refine den_cond rfl (fun c1 => ?_) (fun c1 => ?_)
   ·try simp only [ddA] at c1
    refine den_seq ?_
    refine den_region TTok ?_
    intro K hK
    simp -implicitDefEqProofs (disch := first | decide | assumption | omega) only [go_sem, R1.al hv (Ext.pres eB) sl55, wrap_id]
    refine hK _ _ ?_
    clear hK K
    refine den_ret ?_
    simp (disch := decide) only [resP_1, puts_same, puts_ne]
    exact ⟨vint (idxP_at (by omega) hz (by simpa using c1)).symm, eB⟩
   ·try simp only [ddA] at c1
    refine den_skip ?_
    refine den_blk ?_
    refine den_region TTok ?_
    intro K hK
    simp -implicitDefEqProofs (disch := first | decide | assumption | omega) only [go_sem, R1.al hv (Ext.pres eB) sl55, wrap_id]
    refine hK _ _ ?_
    clear hK K
    refine den_stop ?_
    exact ⟨k + 1, by simp [HasL, puts_at], ⟨eB, by omega, fun j hj => by
     rcases Nat.lt_succ_iff_lt_or_eq.1 hj with h1 | h1
     ·exact hz j h1
     ·rw [h1]; simpa using c1⟩, by omega⟩
  ·try simp only [ddA] at c0
   refine den_exit ?_
   refine denX_code ?_
   refine denX_stop ?_
   refine denX_hit ?_
   refine den_seq ?_
   refine den_region TTok ?_
   intro K hK
   simp -implicitDefEqProofs (disch := first | decide | assumption | omega) only [go_sem, R1.al hv (Ext.pres eB) sl55, wrap_id]
   refine hK _ _ ?_
   clear hK K
   refine den_ret ?_
   simp (disch := decide) only [resP_1, puts_same, puts_ne]
   exact ⟨vint (idxP_none (all_getD (d := 0) fun j hj => hz j (by omega))).symm, eB⟩

set_option maxRecDepth 100000 in
theorem has1_ok (v : Value) (xs : List Int) (g : FuncId) (cs : Array Value) (f : Int → Bool) (h : Heap) (hv : R1 h v xs) (hf : ∀ j, j < xs.length → ∀ h', Ext h h' → CallA Try.prog g (#[.int .i64 (xs.getD j 0)] ++ cs) h' fun u h'' => u = .bool (f (xs.getD j 0)) ∧ Ext h' h'') : CallA Try.prog 116 #[v, .func (.func g) #[] cs] h fun v' h' => v' = .bool (xs.any f) ∧ Ext h h' := by
 refine callA_intro TTok (args := [_, _]) Try.func116 (by kernel_rfl) rfl 9 rfl (by simp) [.tmp 4] rfl ?_
 simp only [idxs, Nat.reduceAdd]
 refine den_seq ?_
 refine den_region TTok ?_
 intro K hK
 simp -implicitDefEqProofs (disch := first | decide | assumption | omega) only [go_sem, R1.al hv (HPres.refl _) sl55]
 refine hK _ _ ?_
 clear hK K
 refine den_seq ?_
 refine den_region TTok ?_
 intro K hK
 simp -implicitDefEqProofs (disch := first | decide | assumption | omega) only [go_sem, R1.al hv (HPres.refl _) sl55]
 try simp -implicitDefEqProofs (disch := first | decide | assumption | omega) only [go_sem, R1.al hv (HPres.refl _) sl55]
 refine CallA.mono (idx1_ok _ xs _ _ f _ hv hf) ?_
 intro v_ h1_2
 rintro ⟨rfl, e1_2⟩
 have := Ext.size e1_2
 have eB := e1_2
 try simp -implicitDefEqProofs (disch := first | decide | assumption | omega) only [go_sem, R1.al hv (Ext.pres eB) sl55]
 refine hK _ _ ?_
 clear hK K
 refine den_ret ?_
 simp (disch := decide) only [resP_1, puts_same, puts_ne]
 exact ⟨vbool idxP_any, eB⟩

set_option maxRecDepth 100000 in
theorem idx2_ok (v : Value) (xs : List (List Int)) (g : FuncId) (cs : Array Value) (f : List Int → Bool) (h : Heap) (hv : R2 h v xs) (hf : ∀ j, j < xs.length → ∀ h', Ext h h' → CallA Try.prog g (#[rowV h v j] ++ cs) h' fun u h'' => u = .bool (f (xs.getD j default)) ∧ Ext h' h'') : CallA Try.prog 141 #[v, .func (.func g) #[] cs] h fun v' h' => v' = .int .i64 (idxP f xs) ∧ Ext h h' := by
 have hle := RdS.le hv
 refine callA_intro TTok (args := [_, _]) Try.func141 (by kernel_rfl) rfl 19 rfl (by simp) [.tmp 4] rfl ?_
 simp only [idxs, Nat.reduceAdd]
 refine den_seq ?_
 refine den_region TTok ?_
 intro K hK
 simp -implicitDefEqProofs (disch := first | decide | assumption | omega) only [go_sem, RdS.al hv (HPres.refl _) sl59, wrap_id]
 refine hK _ _ ?_
 clear hK K
 refine den_seq ?_
 refine den_seq ?_
 refine den_region TTok ?_
 intro K hK
 simp -implicitDefEqProofs (disch := first | decide | assumption | omega) only [go_sem, RdS.al hv (HPres.refl _) sl59, wrap_id]
 refine hK _ _ ?_
 clear hK K
 refine den_block ?_
 refine den_sel [8, 0, 1, 7] ?_
 intro env_1
 simp only [go_sem]
 refine den_loopS (σ := Nat) (fun s => [(8, .int .i64 (s : Int))]) (fun s H => Ext h H ∧ s ≤ xs.length ∧ ∀ j, j < s → f (xs.getD j default) = false) (fun s => xs.length - s) 0 ?_ ?_
 ·exact ⟨Ext.refl _, by omega, fun j hj => by omega⟩
 ·rintro k h4 ee3 ⟨eB, hk, hz⟩
  simp only [List.cons_append, List.nil_append]
  have := Ext.size eB
  refine den_seq ?_
  refine den_region TTok ?_
  intro K hK
  simp -implicitDefEqProofs (disch := first | decide | assumption | omega) only [go_sem, RdS.al hv (Ext.pres eB) sl59, wrap_id]
  refine hK _ _ ?_
  clear hK K
  refine den_seq ?_
  refine den_cond rfl (fun c0 => ?_) (fun c0 => ?_)
  ·try simp only [ddA] at c0
   refine den_skip ?_
   refine den_seq ?_
   refine den_block ?_
   refine den_seq ?_
   refine den_region TTok ?_
   intro K hK
   simp -implicitDefEqProofs (disch := first | decide | assumption | omega) only [go_sem, RdS.al hv (Ext.pres eB) sl59, wrap_id]
   refine hK _ _ ?_
   clear hK K
   refine den_seq ?_
   refine den_region TTok ?_
   intro K hK
   have hr5 := RdS.rowN hv k (by omega)
   have hlhr5 := RdS.le hr5
   simp -implicitDefEqProofs (disch := first | decide | assumption | omega) only [go_sem, ld55, RdS.al hv (Ext.pres eB) sl59, R1.al hr5 (Ext.pres eB) sl55, wrap_id]
   try simp -implicitDefEqProofs (disch := first | decide | assumption | omega) only [go_sem, RdS.al hv (Ext.pres eB) sl59, R1.al hr5 (Ext.pres eB) sl55, wrap_id]
   refine CallA.mono (hf k (by omega) _ eB) ?_
   intro v_ h4_5
   rintro ⟨rfl, e4_5⟩
   have := Ext.size e4_5
   replace eB := Ext.trans eB e4_5
   try simp -implicitDefEqProofs (disch := first | decide | assumption | omega) only [go_sem, RdS.al hv (Ext.pres eB) sl59, R1.al hr5 (Ext.pres eB) sl55, wrap_id]
   refine hK _ _ ?_
   clear hK K
   refine den_cond rfl (fun c1 => ?_) (fun c1 => ?_)
   ·try simp only [ddA] at c1
    refine den_seq ?_
    refine den_region TTok ?_
    intro K hK
    simp -implicitDefEqProofs (disch := first | decide | assumption | omega) only [go_sem, RdS.al hv (Ext.pres eB) sl59, R1.al hr5 (Ext.pres eB) sl55, wrap_id]
    refine hK _ _ ?_
    clear hK K
    refine den_ret ?_
    simp (disch := decide) only [resP_1, puts_same, puts_ne]
    exact ⟨vint (idxP_at (by omega) hz (by simpa using c1)).symm, eB⟩
   ·try simp only [ddA] at c1
    refine den_skip ?_
    refine den_blk ?_
    refine den_region TTok ?_
    intro K hK
    simp -implicitDefEqProofs (disch := first | decide | assumption | omega) only [go_sem, RdS.al hv (Ext.pres eB) sl59, R1.al hr5 (Ext.pres eB) sl55, wrap_id]
    refine hK _ _ ?_
    clear hK K
    refine den_stop ?_
    exact ⟨k + 1, by simp [HasL, puts_at], ⟨eB, by omega, fun j hj => by
     rcases Nat.lt_succ_iff_lt_or_eq.1 hj with h1 | h1
     ·exact hz j h1
     ·rw [h1]; simpa using c1⟩, by omega⟩
  ·try simp only [ddA] at c0
   refine den_exit ?_
   refine denX_code ?_
   refine denX_stop ?_
   refine denX_hit ?_
   refine den_seq ?_
   refine den_region TTok ?_
   intro K hK
   simp -implicitDefEqProofs (disch := first | decide | assumption | omega) only [go_sem, RdS.al hv (Ext.pres eB) sl59, wrap_id]
   refine hK _ _ ?_
   clear hK K
   refine den_ret ?_
   simp (disch := decide) only [resP_1, puts_same, puts_ne]
   exact ⟨vint (idxP_none (all_getD (d := default) fun j hj => hz j (by omega))).symm, eB⟩

set_option maxRecDepth 100000 in
theorem has2_ok (v : Value) (xs : List (List Int)) (g : FuncId) (cs : Array Value) (f : List Int → Bool) (h : Heap) (hv : R2 h v xs) (hf : ∀ j, j < xs.length → ∀ h', Ext h h' → CallA Try.prog g (#[rowV h v j] ++ cs) h' fun u h'' => u = .bool (f (xs.getD j default)) ∧ Ext h' h'') : CallA Try.prog 131 #[v, .func (.func g) #[] cs] h fun v' h' => v' = .bool (xs.any f) ∧ Ext h h' := by
 refine callA_intro TTok (args := [_, _]) Try.func131 (by kernel_rfl) rfl 9 rfl (by simp) [.tmp 4] rfl ?_
 simp only [idxs, Nat.reduceAdd]
 refine den_seq ?_
 refine den_region TTok ?_
 intro K hK
 simp -implicitDefEqProofs (disch := first | decide | assumption | omega) only [go_sem, RdS.al hv (HPres.refl _) sl59]
 refine hK _ _ ?_
 clear hK K
 refine den_seq ?_
 refine den_region TTok ?_
 intro K hK
 simp -implicitDefEqProofs (disch := first | decide | assumption | omega) only [go_sem, RdS.al hv (HPres.refl _) sl59]
 try simp -implicitDefEqProofs (disch := first | decide | assumption | omega) only [go_sem, RdS.al hv (HPres.refl _) sl59]
 refine CallA.mono (idx2_ok _ xs _ _ f _ hv hf) ?_
 intro v_ h1_2
 rintro ⟨rfl, e1_2⟩
 have := Ext.size e1_2
 have eB := e1_2
 try simp -implicitDefEqProofs (disch := first | decide | assumption | omega) only [go_sem, RdS.al hv (Ext.pres eB) sl59]
 refine hK _ _ ?_
 clear hK K
 refine den_ret ?_
 simp (disch := decide) only [resP_1, puts_same, puts_ne]
 exact ⟨vbool idxP_any, eB⟩
end Go.Proofs.Ytacajcjibhifmaa

namespace Go.Proofs.Ytacajcjibhifmaa
open Go
theorem isRow_any {p n : Int} {xs : List Int} : (((xs.length : Int) == n) && !(xs.any fun x => !in3 x 0 (p - 1))) = isRow p n xs := by
 rw [isRow, List.not_any_eq_all_not]
 congr 1
 congr 1
 funext x
 exact Bool.not_not _
theorem rows_any {p n : Int} {R : List (List Int)} : (!(R.any fun r => !isRow p n r)) = R.all (isRow p n) := by
 rw [List.not_any_eq_all_not]
 congr 1
 funext x
 exact Bool.not_not _
theorem isP_bnd {p : Int} (h : isP p = true) : 0 < p ∧ p ≤ 7 := by
 simp only [isP, Bool.or_eq_true, beq_iff_eq] at h; omega

set_option maxRecDepth 100000 in
theorem isVec1_ok (p x : Int) (b : Nat) (h : Heap) (hb : BoxAt h b #[.int .i64 p] 2) (hp : -9223372036854775807 ≤ p ∧ p ≤ 9223372036854775807) : CallA Try.prog 142 #[.int .i64 x, .pointer (some ⟨b, 0, none⟩)] h fun v h' => v = .bool (!in3 x 0 (p - 1)) ∧ h' = h := by
 refine callA_intro TTok (args := [_, _]) Try.func142 (by kernel_rfl) rfl 9 rfl (by simp) [.tmp 3] rfl ?_
 simp only [idxs, Nat.reduceAdd]
 refine den_seq ?_
 refine den_region TTok ?_
 intro K hK
 simp -implicitDefEqProofs (disch := first | decide | assumption | omega) only [go_sem, BoxAt.cell hb, wrap_id]
 refine hK _ _ ?_
 clear hK K
 refine den_seq ?_
 refine den_region TTok ?_
 intro K hK
 simp -implicitDefEqProofs (disch := first | decide | assumption | omega) only [go_sem, ld2, BoxAt.cell hb, wrap_id]
 try simp -implicitDefEqProofs (disch := first | decide | assumption | omega) only [go_sem, BoxAt.cell hb, wrap_id]
 refine CallA.pure (iIn_ok _ _ _ _) ?_
 try simp -implicitDefEqProofs (disch := first | decide | assumption | omega) only [go_sem, BoxAt.cell hb, wrap_id]
 refine hK _ _ ?_
 clear hK K
 refine den_ret ?_
 simp (disch := decide) only [resP_1, puts_same, puts_ne]
 exact ⟨by first | rfl | trivial, trivial⟩

set_option maxRecDepth 100000 in
theorem isVec_ok (p n : Int) (v : Value) (xs : List Int) (h : Heap) (hv : R1 h v xs) (hp : -9223372036854775807 ≤ p ∧ p ≤ 9223372036854775807) : CallA Try.prog 133 #[.int .i64 p, .int .i64 n, v] h fun v' h' => v' = .bool (isRow p n xs) ∧ Ext h h' := by
 refine callA_intro TTok (args := [_, _, _]) Try.func133 (by kernel_rfl) rfl 17 rfl (by simp) [.tmp 6] rfl ?_
 simp only [idxs, Nat.reduceAdd]
 refine den_seq ?_
 refine den_region TTok ?_
 intro K hK
 simp -implicitDefEqProofs (disch := first | decide | assumption | omega) only [go_sem, R1.al hv (HPres.refl _) sl55]
 refine op_box (cs := #[.int .i64 (p)]) rfl ?_
 intro h0_0 e0_0 hb0_0 z0_0
 replace hv := RdS.pres hv (Ext.pres e0_0)
 try simp -implicitDefEqProofs (disch := first | decide | assumption | omega) only [go_sem, R1.al hv (HPres.refl _) sl55, BoxAt.cell hb0_0]
 refine hK _ _ ?_
 clear hK K
 refine den_seq ?_
 refine den_merge [(6, .bool (((((xs).length : Int) == n) && (!((xs.any fun x => !in3 x 0 (p - 1)))))))] [] (fun H => Ext h0_0 H) ?_ ?_
  -- a way
 ·refine den_region TTok ?_
  intro K hK
  simp -implicitDefEqProofs (disch := first | decide | assumption | (simp (disch := decide) only [gvA, eq_self, if_true, if_false, Bool.false_eq_true]; done) | omega) only [go_sem, R1.al hv (HPres.refl _) sl55, BoxAt.cell hb0_0]
  try simp -implicitDefEqProofs (disch := first | decide | assumption | omega) only [go_sem, R1.al hv (HPres.refl _) sl55, BoxAt.cell hb0_0]
  refine CallA.pure (size1_ok _ _ _ hv) ?_
  try simp -implicitDefEqProofs (disch := first | decide | assumption | (simp (disch := decide) only [gvA, eq_self, if_true, if_false, Bool.false_eq_true]; done) | omega) only [go_sem, R1.al hv (HPres.refl _) sl55, BoxAt.cell hb0_0]
  refine opsP_T (by simp (disch := decide) only [gvA, eq_self, if_true, if_false, Bool.false_eq_true]; rfl) (fun g1 => ?_) (fun g1 => ?_)
  ·try simp -implicitDefEqProofs (disch := first | decide | assumption | (simp (disch := decide) only [gvA, eq_self, if_true, if_false, Bool.false_eq_true, g1]; done) | omega) only [go_sem, R1.al hv (HPres.refl _) sl55, BoxAt.cell hb0_0, g1, eq_self, if_true, if_false, Bool.false_eq_true]
   try simp -implicitDefEqProofs (disch := first | decide | assumption | omega) only [go_sem, R1.al hv (HPres.refl _) sl55, BoxAt.cell hb0_0]
   refine CallA.mono (has1_ok _ xs _ _ (fun x => !in3 x 0 (p - 1)) _ hv (fun j hj h' e => by
   simp only [List.append_toArray, List.cons_append, List.nil_append]
   exact CallA.mono (isVec1_ok p _ _ _ (BoxAt.ext hb0_0 e) hp) (fun _ _ ⟨e1, e2⟩ => ⟨e1, e2 ▸ Ext.refl _⟩))) ?_
   intro v_ h1_7
   rintro ⟨rfl, e1_7⟩
   have := Ext.size e1_7
   have eB := e1_7
   try simp -implicitDefEqProofs (disch := first | decide | assumption | (simp (disch := decide) only [gvA, eq_self, if_true, if_false, Bool.false_eq_true, g1]; done) | omega) only [go_sem, R1.al hv (Ext.pres eB) sl55, BoxAt.cellB hb0_0 eB, g1, eq_self, if_true, if_false, Bool.false_eq_true]
   refine hK _ _ ?_
   clear hK K
   refine den_stop ?_
   refine ⟨?_, e1_7⟩
   first | (simp (disch := decide) only [go_sem, g1, eq_self, Bool.true_and, Bool.and_true, Bool.false_and, Bool.and_false, Bool.true_or, Bool.or_true, Bool.false_or, Bool.or_false, if_true, if_false, Bool.false_eq_true]; done) | simp [HasL, sel, puts_at, g1]
  ·try simp -implicitDefEqProofs (disch := first | decide | assumption | (simp (disch := decide) only [gvA, eq_self, if_true, if_false, Bool.false_eq_true, g1]; done) | omega) only [go_sem, R1.al hv (HPres.refl _) sl55, BoxAt.cell hb0_0, g1, eq_self, if_true, if_false, Bool.false_eq_true]
   refine hK _ _ ?_
   clear hK K
   refine den_stop ?_
   refine ⟨?_, Ext.refl _⟩
   first | (simp (disch := decide) only [go_sem, g1, eq_self, Bool.true_and, Bool.and_true, Bool.false_and, Bool.and_false, Bool.true_or, Bool.or_true, Bool.false_or, Bool.or_false, if_true, if_false, Bool.false_eq_true]; done) | simp [HasL, sel, puts_at, g1]
 intro en2 h3 e4
 have := Ext.size e4
 have eB := e4
 simp (disch := decide) only [go_sem]
 refine den_ret ?_
 simp (disch := decide) only [resP_1, puts_same, puts_ne]
 exact ⟨vbool isRow_any, (Ext.trans e0_0 eB)⟩

set_option maxRecDepth 100000 in
theorem areRows1_ok (p n : Int) (v : Value) (xs : List Int) (b c : Nat) (h : Heap) (hv : R1 h v xs) (hb : BoxAt h b #[.int .i64 p] 2) (hc : BoxAt h c #[.int .i64 n] 2) (hp : -9223372036854775807 ≤ p ∧ p ≤ 9223372036854775807) : CallA Try.prog 132 #[v, .pointer (some ⟨b, 0, none⟩), .pointer (some ⟨c, 0, none⟩)] h fun v' h' => v' = .bool (!isRow p n xs) ∧ Ext h h' := by
 refine callA_intro TTok (args := [_, _, _]) Try.func132 (by kernel_rfl) rfl 10 rfl (by simp) [.tmp 4] rfl ?_
 simp only [idxs, Nat.reduceAdd]
 refine den_seq ?_
 refine den_region TTok ?_
 intro K hK
 simp -implicitDefEqProofs (disch := first | decide | assumption | omega) only [go_sem, R1.al hv (HPres.refl _) sl55, BoxAt.cell hb, BoxAt.cell hc]
 refine hK _ _ ?_
 clear hK K
 refine den_seq ?_
 refine den_region TTok ?_
 intro K hK
 simp -implicitDefEqProofs (disch := first | decide | assumption | omega) only [go_sem, ld2, R1.al hv (HPres.refl _) sl55, BoxAt.cell hb, BoxAt.cell hc]
 try simp -implicitDefEqProofs (disch := first | decide | assumption | omega) only [go_sem, R1.al hv (HPres.refl _) sl55, BoxAt.cell hb, BoxAt.cell hc]
 refine CallA.mono (isVec_ok _ _ _ _ _ hv (by omega)) ?_
 intro v_ h1_3
 rintro ⟨rfl, e1_3⟩
 have := Ext.size e1_3
 have eB := e1_3
 try simp -implicitDefEqProofs (disch := first | decide | assumption | omega) only [go_sem, R1.al hv (Ext.pres eB) sl55, BoxAt.cellB hb eB, BoxAt.cellB hc eB]
 refine hK _ _ ?_
 clear hK K
 refine den_ret ?_
 simp (disch := decide) only [resP_1, puts_same, puts_ne]
 exact ⟨by first | rfl | trivial, eB⟩

set_option maxRecDepth 100000 in
theorem areRows_ok (p n : Int) (v : Value) (R : List (List Int)) (h : Heap) (hv : R2 h v R) (hp : -9223372036854775807 ≤ p ∧ p ≤ 9223372036854775807) : CallA Try.prog 119 #[.int .i64 p, .int .i64 n, v] h fun v' h' => v' = .bool (R.all (isRow p n)) ∧ Ext h h' := by
 refine callA_intro TTok (args := [_, _, _]) Try.func119 (by kernel_rfl) rfl 11 rfl (by simp) [.tmp 6] rfl ?_
 simp only [idxs, Nat.reduceAdd]
 refine den_seq ?_
 refine den_region TTok ?_
 intro K hK
 simp -implicitDefEqProofs (disch := first | decide | assumption | omega) only [go_sem, RdS.al hv (HPres.refl _) sl59]
 refine op_box (cs := #[.int .i64 (p)]) rfl ?_
 intro h0_0 e0_0 hb0_0 z0_0
 replace hv := RdS.pres hv (Ext.pres e0_0)
 try simp -implicitDefEqProofs (disch := first | decide | assumption | omega) only [go_sem, RdS.al hv (HPres.refl _) sl59, BoxAt.cell hb0_0]
 refine op_box (cs := #[.int .i64 (n)]) rfl ?_
 intro h0_1 e0_1 hb0_1 z0_1
 replace hv := RdS.pres hv (Ext.pres e0_1)
 replace hb0_0 := BoxAt.ext hb0_0 e0_1
 try simp -implicitDefEqProofs (disch := first | decide | assumption | omega) only [go_sem, RdS.al hv (HPres.refl _) sl59, BoxAt.cell hb0_0, BoxAt.cell hb0_1]
 refine hK _ _ ?_
 clear hK K
 refine den_seq ?_
 refine den_region TTok ?_
 intro K hK
 simp -implicitDefEqProofs (disch := first | decide | assumption | omega) only [go_sem, RdS.al hv (HPres.refl _) sl59, BoxAt.cell hb0_0, BoxAt.cell hb0_1]
 try simp -implicitDefEqProofs (disch := first | decide | assumption | omega) only [go_sem, RdS.al hv (HPres.refl _) sl59, BoxAt.cell hb0_0, BoxAt.cell hb0_1]
 refine CallA.mono (has2_ok _ R _ _ (fun r => !isRow p n r) _ hv (fun j hj h' e => by
   simp only [List.append_toArray, List.cons_append, List.nil_append]
   exact CallA.mono (areRows1_ok p n _ _ _ _ _ ((RdS.rowN hv j hj).pres (Ext.pres e)) (BoxAt.ext hb0_0 e) (BoxAt.ext hb0_1 e) hp) (fun _ _ ⟨e1, e2⟩ => ⟨e1, e2⟩))) ?_
 intro v_ h1_2
 rintro ⟨rfl, e1_2⟩
 have := Ext.size e1_2
 have eB := e1_2
 try simp -implicitDefEqProofs (disch := first | decide | assumption | omega) only [go_sem, RdS.al hv (Ext.pres eB) sl59, BoxAt.cellB hb0_0 eB, BoxAt.cellB hb0_1 eB]
 refine hK _ _ ?_
 clear hK K
 refine den_ret ?_
 simp (disch := decide) only [resP_1, puts_same, puts_ne]
 exact ⟨vbool rows_any, (Ext.trans (Ext.trans e0_0 e0_1) eB)⟩

set_option maxRecDepth 100000 in
theorem isZero1_ok (x : Int) (h : Heap) : CallA Try.prog 134 #[.int .i64 x] h fun v h' => v = .bool (x != 0) ∧ h' = h := by
 refine callA_intro TTok (args := [_]) Try.func134 (by kernel_rfl) rfl 5 rfl (by simp) [.tmp 2] rfl ?_
 simp only [idxs, Nat.reduceAdd]
 refine den_seq ?_
 refine den_region TTok ?_
 intro K hK
 simp -implicitDefEqProofs (disch := first | decide | assumption | omega) only [go_sem]
 refine hK _ _ ?_
 clear hK K
 refine den_seq ?_
 refine den_region TTok ?_
 intro K hK
 simp -implicitDefEqProofs (disch := first | decide | assumption | omega) only [go_sem]
 refine hK _ _ ?_
 clear hK K
 refine den_ret ?_
 simp (disch := decide) only [resP_1, puts_same, puts_ne]
 exact ⟨by first | rfl | trivial, trivial⟩

set_option maxRecDepth 100000 in
theorem isZero_ok (v : Value) (xs : List Int) (h : Heap) (hv : R1 h v xs) : CallA Try.prog 120 #[v] h fun v' h' => v' = .bool (!xs.any (fun x => x != 0)) ∧ Ext h h' := by
 refine callA_intro TTok (args := [_]) Try.func120 (by kernel_rfl) rfl 6 rfl (by simp) [.tmp 2] rfl ?_
 simp only [idxs, Nat.reduceAdd]
 refine den_seq ?_
 refine den_region TTok ?_
 intro K hK
 simp -implicitDefEqProofs (disch := first | decide | assumption | omega) only [go_sem, R1.al hv (HPres.refl _) sl55]
 refine hK _ _ ?_
 clear hK K
 refine den_seq ?_
 refine den_region TTok ?_
 intro K hK
 simp -implicitDefEqProofs (disch := first | decide | assumption | omega) only [go_sem, R1.al hv (HPres.refl _) sl55]
 try simp -implicitDefEqProofs (disch := first | decide | assumption | omega) only [go_sem, R1.al hv (HPres.refl _) sl55]
 refine CallA.mono (has1_ok _ xs _ _ (fun x => x != 0) _ hv (fun j hj h' e => by
   simp only [List.append_toArray, List.cons_append, List.nil_append]
   exact CallA.mono (isZero1_ok _ _) (fun _ _ ⟨e1, e2⟩ => ⟨e1, e2 ▸ Ext.refl _⟩))) ?_
 intro v_ h1_1
 rintro ⟨rfl, e1_1⟩
 have := Ext.size e1_1
 have eB := e1_1
 try simp -implicitDefEqProofs (disch := first | decide | assumption | omega) only [go_sem, R1.al hv (Ext.pres eB) sl55]
 refine hK _ _ ?_
 clear hK K
 refine den_ret ?_
 simp (disch := decide) only [resP_1, puts_same, puts_ne]
 exact ⟨by first | rfl | trivial, eB⟩

set_option maxRecDepth 100000 in
theorem isC1_ok (x : Int) (h : Heap) : CallA Try.prog 117 #[.int .i64 x] h fun v h' => v = .bool (!in3 x 0 8) ∧ h' = h := by
 refine callA_intro TTok (args := [_]) Try.func117 (by kernel_rfl) rfl 6 rfl (by simp) [.tmp 2] rfl ?_
 simp only [idxs, Nat.reduceAdd]
 refine den_seq ?_
 refine den_region TTok ?_
 intro K hK
 simp -implicitDefEqProofs (disch := first | decide | assumption | omega) only [go_sem]
 refine hK _ _ ?_
 clear hK K
 refine den_seq ?_
 refine den_region TTok ?_
 intro K hK
 simp -implicitDefEqProofs (disch := first | decide | assumption | omega) only [go_sem]
 try simp -implicitDefEqProofs (disch := first | decide | assumption | omega) only [go_sem]
 refine CallA.pure (iIn_ok _ _ _ _) ?_
 try simp -implicitDefEqProofs (disch := first | decide | assumption | omega) only [go_sem]
 refine hK _ _ ?_
 clear hK K
 refine den_ret ?_
 simp (disch := decide) only [resP_1, puts_same, puts_ne]
 exact ⟨by first | rfl | trivial, trivial⟩
end Go.Proofs.Ytacajcjibhifmaa

namespace Go.Proofs.Ytacajcjibhifmaa
open Go
def tbAt (X : Cx) (k : Nat) : Prop := tableP X.p (X.maps.getD k default) (X.dims.getD ((k : Int) + 1).toNat 0) (X.dims.getD k 0) = true
/-- Row i of map k, sent on by the map before. -/
def sqv (X : Cx) (k i : Nat) : List Int := accP X.p ((X.maps.getD k default).getD i default) (X.maps.getD ((k : Int) - 1).toNat default) (List.replicate (X.dims.getD ((k : Int) - 1).toNat 0).toNat 0)
structure IsC (X : Cx) : Prop where
 p : isP X.p = true
 len : 1 ≤ X.dims.length ∧ X.dims.length ≤ 6
 ml : X.maps.length + 1 = X.dims.length
 dm : X.dims.all (fun x => in3 x 0 8) = true
 tb : ∀ k, k < X.maps.length → tbAt X k
 sq : ∀ k, k < X.maps.length → 0 < k → ∀ i, i < (X.maps.getD k default).length → leadP (sqv X k i) < 0
noncomputable def isC (X : Cx) : Bool := @decide (IsC X) (Classical.propDecidable _)
theorem isC_t {X : Cx} : isC X = true ↔ IsC X := by
 unfold isC
 exact @decide_eq_true_iff _ (Classical.propDecidable _)
theorem isC_no {X : Cx} (h : ¬ IsC X) : false = isC X := by
 cases e : isC X
 ·rfl
 ·exact absurd (isC_t.1 e) h
theorem isC_yes {X : Cx} (h : IsC X) : true = isC X := (isC_t.2 h).symm
theorem dm_at {X : Cx} (h : X.dims.all (fun x => in3 x 0 8) = true) {k : Nat} (hk : k < X.dims.length) : 0 ≤ X.dims.getD k 0 ∧ X.dims.getD k 0 ≤ 8 := in3_iff.1 (all_at (d := 0) h hk)
end Go.Proofs.Ytacajcjibhifmaa

namespace Go.Proofs.Ytacajcjibhifmaa
open Go
structure PreC (X : Cx) : Prop where
 p : 0 < X.p ∧ X.p ≤ 7
 ml : X.maps.length + 1 = X.dims.length
 dm : X.dims.all (fun x => in3 x 0 8) = true
 tb : ∀ k, k < X.maps.length → tbAt X k
theorem IsC.pre {X : Cx} (h : IsC X) : PreC X := ⟨isP_bnd h.p, h.ml, h.dm, h.tb⟩
def diffP (X : Cx) (n : Int) (v : List Int) : List Int := if n ≤ 0 ∨ (X.dims.length : Int) - 1 < n then [] else accP X.p v (X.maps.getD (n - 1).toNat default) (List.replicate (X.dims.getD (n - 1).toNat 0).toNat 0)
theorem PreC.app {X : Cx} (h : PreC X) {n : Int} (h0 : 0 < n) (h1 : n ≤ (X.dims.length : Int) - 1) : (0 ≤ X.dims.getD (n - 1).toNat 0 ∧ X.dims.getD (n - 1).toNat 0 ≤ 8) ∧ ((X.maps.getD (n - 1).toNat default).length : Int) = X.dims.getD n.toNat 0 ∧ Tbl X.p (X.dims.getD (n - 1).toNat 0) (X.maps.getD (n - 1).toNat default) := by
 have hm := h.ml
 have t := tableP_iff.1 (h.tb (n - 1).toNat (by omega))
 have e : ((((n - 1).toNat : Nat) : Int) + 1).toNat = n.toNat := by omega
 rw [e] at t
 exact ⟨dm_at h.dm (by omega), t⟩
theorem zero_lead {xs : List Int} : (!(xs.any fun x => x != 0)) = true ↔ leadP xs < 0 := by
 rw [leadP_idx, ← idxP_any]
 simp
theorem any_all {α : Type} {f : α → Bool} {xs : List α} (h : (xs.any fun x => !f x) = false) : xs.all f = true := by rw [List.all_eq_not_any_not, h]; rfl
theorem diff_sqv {X : Cx} {k i : Nat} (h0 : 0 < k) (h1 : (k : Int) ≤ (X.dims.length : Int) - 1) : diffP X (k : Int) ((X.maps.getD k default).getD i default) = sqv X k i := by
 rw [diffP, if_neg (by omega)]; rfl
theorem lead_zero {xs : List Int} (h : xs.any (fun x => x != 0) = false) : leadP xs < 0 := zero_lead.1 (by rw [h]; rfl)
theorem lead_some {xs : List Int} (h : xs.any (fun x => x != 0) = true) : ¬ leadP xs < 0 := fun hn => by
 have := zero_lead.2 hn
 rw [h] at this; cases this
theorem tbAt_iff {X : Cx} {k : Nat} : tbAt X k ↔ ((X.maps.getD k default).length : Int) = X.dims.getD ((k : Int) + 1).toNat 0 ∧ (X.maps.getD k default).all (isRow X.p (X.dims.getD k 0)) = true := by
 simp only [tbAt, tableP, Bool.and_eq_true, decide_eq_true_eq]

set_option maxRecDepth 100000 in
theorem diff_ok (vx : Value) (X : Cx) (n : Int) (v : Value) (xs : List Int) (h : Heap) (hx : RC h vx X) (hv : R1 h v xs) (hP : PreC X) (hv0 : Bnd X.p xs) (hl : 0 < n → n ≤ (X.dims.length : Int) - 1 → (xs.length : Int) = X.dims.getD n.toNat 0) : CallA Try.prog 121 #[vx, .int .i64 n, v] h fun v' h' => ∃ f, O1 h' v' (diffP X n xs) f ∧ Fresh h.size f ∧ Ext h h' := by
 obtain ⟨vd, vm, rfl, hd, hm⟩ := hx
 have hle := RdS.le hd
 have hml := hP.ml
 refine callA_intro TTok (args := [_, _, _]) Try.func121 (by kernel_rfl) rfl 31 rfl (by simp) [.tmp 6] rfl ?_
 simp only [idxs, Nat.reduceAdd]
 refine den_seq ?_
 refine den_region TTok ?_
 intro K hK
 simp -implicitDefEqProofs (disch := first | decide | assumption | omega) only [go_sem, R1.al hd (HPres.refl _) sl55, RdS.al hm (HPres.refl _) sl56, R1.al hv (HPres.refl _) sl55, wrap_id]
 refine op_box (cs := #[.int .i64 (X.p), vd, vm]) rfl ?_
 intro h0_0 e0_0 hb0_0 z0_0
 replace hd := RdS.pres hd (Ext.pres e0_0)
 replace hm := RdS.pres hm (Ext.pres e0_0)
 replace hv := RdS.pres hv (Ext.pres e0_0)
 try simp -implicitDefEqProofs (disch := first | decide | assumption | omega) only [go_sem, R1.al hd (HPres.refl _) sl55, RdS.al hm (HPres.refl _) sl56, R1.al hv (HPres.refl _) sl55, BoxAt.cell hb0_0, wrap_id]
 refine hK _ _ ?_
 clear hK K
 refine den_seq ?_
 refine den_seq ?_
 refine den_merge [(14, .bool (((decide (n ≤ (0 : Int))) || (decide ((((X.dims).length : Int) - 1) < n)))))] [1, 2, 3] (fun H => Ext h0_0 H) ?_ ?_
  -- a way
 ·refine den_region TTok ?_
  intro K hK
  simp -implicitDefEqProofs (disch := first | decide | assumption | (simp (disch := decide) only [gvA, eq_self, if_true, if_false, Bool.false_eq_true]; done) | omega) only [go_sem, R1.al hd (HPres.refl _) sl55, RdS.al hm (HPres.refl _) sl56, R1.al hv (HPres.refl _) sl55, BoxAt.cell hb0_0, wrap_id]
  refine opsP_F (by simp (disch := decide) only [gvA, eq_self, if_true, if_false, Bool.false_eq_true]; rfl) (fun g1 => ?_) (fun g1 => ?_)
  ·try simp -implicitDefEqProofs (disch := first | decide | assumption | (simp (disch := decide) only [gvA, eq_self, if_true, if_false, Bool.false_eq_true, g1]; done) | omega) only [go_sem, ld58, R1.al hd (HPres.refl _) sl55, RdS.al hm (HPres.refl _) sl56, R1.al hv (HPres.refl _) sl55, BoxAt.cell hb0_0, wrap_id, g1, eq_self, if_true, if_false, Bool.false_eq_true]
   try simp -implicitDefEqProofs (disch := first | decide | assumption | omega) only [go_sem, R1.al hd (HPres.refl _) sl55, RdS.al hm (HPres.refl _) sl56, R1.al hv (HPres.refl _) sl55, BoxAt.cell hb0_0, wrap_id]
   refine CallA.mono (top_ok _ X _ ⟨_, _, rfl, hd, hm⟩) ?_
   intro v_ h1_5
   rintro ⟨rfl, e1_5⟩
   have := Ext.size e1_5
   have eB := e1_5
   try simp -implicitDefEqProofs (disch := first | decide | assumption | (simp (disch := decide) only [gvA, eq_self, if_true, if_false, Bool.false_eq_true, g1]; done) | omega) only [go_sem, R1.al hd (Ext.pres eB) sl55, RdS.al hm (Ext.pres eB) sl56, R1.al hv (Ext.pres eB) sl55, BoxAt.cellB hb0_0 eB, wrap_id, g1, eq_self, if_true, if_false, Bool.false_eq_true]
   refine hK _ _ ?_
   clear hK K
   refine den_stop ?_
   refine ⟨?_, e1_5⟩
   first | (simp (disch := decide) only [go_sem, g1, eq_self, Bool.true_and, Bool.and_true, Bool.false_and, Bool.and_false, Bool.true_or, Bool.or_true, Bool.false_or, Bool.or_false, if_true, if_false, Bool.false_eq_true]; done) | simp [HasL, sel, puts_at, g1]
  ·try simp -implicitDefEqProofs (disch := first | decide | assumption | (simp (disch := decide) only [gvA, eq_self, if_true, if_false, Bool.false_eq_true, g1]; done) | omega) only [go_sem, R1.al hd (HPres.refl _) sl55, RdS.al hm (HPres.refl _) sl56, R1.al hv (HPres.refl _) sl55, BoxAt.cell hb0_0, wrap_id, g1, eq_self, if_true, if_false, Bool.false_eq_true]
   refine hK _ _ ?_
   clear hK K
   refine den_stop ?_
   refine ⟨?_, Ext.refl _⟩
   first | (simp (disch := decide) only [go_sem, g1, eq_self, Bool.true_and, Bool.and_true, Bool.false_and, Bool.and_false, Bool.true_or, Bool.or_true, Bool.false_or, Bool.or_false, if_true, if_false, Bool.false_eq_true]; done) | simp [HasL, sel, puts_at, g1]
 intro en2 h3 e4
 have := Ext.size e4
 have eB := e4
 simp (disch := decide) only [go_sem]
 refine den_cond rfl (fun c0 => ?_) (fun c0 => ?_)
 ·try simp only [ddA, Bool.or_eq_false_iff, Bool.and_eq_false_iff] at c0
  refine den_seq ?_
  refine den_region TTok ?_
  intro K hK
  simp -implicitDefEqProofs (disch := first | decide | assumption | omega) only [go_sem, R1.al hd (Ext.pres eB) sl55, RdS.al hm (Ext.pres eB) sl56, R1.al hv (Ext.pres eB) sl55, BoxAt.cellB hb0_0 eB, wrap_id]
  refine hK _ _ ?_
  clear hK K
  refine den_ret ?_
  simp (disch := decide) only [resP_1, puts_same, puts_ne]
  exact ⟨[], by rw [diffP, if_pos (by omega)]; exact OS.nil, Fresh.nil _, (Ext.trans e0_0 eB)⟩
 ·try simp only [ddA, Bool.or_eq_false_iff, Bool.and_eq_false_iff] at c0
  refine den_skip ?_
  refine den_seq ?_
  have hq := hP.app (n := n) (by omega) (by omega)
  refine den_draw TTok mixed [] [(0, true), (1, true), (2, true), (3, true), (4, true), (5, true), (6, true), (7, true), (8, true), (9, true), (10, true), (11, true), (12, true), (13, true), (14, true), (15, false), (16, true)] (by kernel_rfl) ?_
  intro K hK
  have hr5 := RdS.rowN hm ((n - (1 : Int))).toNat (by omega)
  have hlhr5 := RdS.le hr5
  simp -implicitDefEqProofs (disch := first | decide | assumption | omega) only [go_sem, fa58_0, fa58_1, fa58_2, ld56, ld59, ld55, ld2, R1.al hd (Ext.pres eB) sl55, RdS.al hm (Ext.pres eB) sl56, R1.al hv (Ext.pres eB) sl55, RdS.al hr5 (Ext.pres eB) sl59, BoxAt.cellB hb0_0 eB, wrap_id]
  try simp -implicitDefEqProofs (disch := first | decide | assumption | omega) only [go_sem, R1.al hd (Ext.pres eB) sl55, RdS.al hm (Ext.pres eB) sl56, R1.al hv (Ext.pres eB) sl55, RdS.al hr5 (Ext.pres eB) sl59, BoxAt.cellB hb0_0 eB, wrap_id]
  refine CallA.mono (iApply_ok _ _ _ _ _ _ _ (RdS.pres hv (Ext.pres eB)) (RdS.pres hr5 (Ext.pres eB)) hP.p (by omega) (by have := hl (by omega) (by omega); omega) hv0 hq.2.2) ?_
  intro v3_15 h3_15
  rintro ⟨f3_15, ho3_15, hf3_15, e3_15⟩
  have := Ext.size e3_15
  replace eB := Ext.trans eB e3_15
  have hlho3_15 := OS.lt ho3_15
  try simp (disch := decide) only [outv_some, outv_none, put_puts]
  refine plK_pres (Ext.pres e3_15) ?_
  try simp -implicitDefEqProofs (disch := first | decide | assumption | omega) only [go_sem, R1.al hd (Ext.pres eB) sl55, RdS.al hm (Ext.pres eB) sl56, R1.al hv (Ext.pres eB) sl55, RdS.al hr5 (Ext.pres eB) sl59, R1.an (OS.rd ho3_15) sl55, BoxAt.cellB hb0_0 eB, wrap_id]
  refine hK _ _ ?_
  clear hK K
  refine den_ret ?_
  simp (disch := decide) only [resP_1, puts_same, puts_ne]
  exact ⟨_, by rw [diffP, if_neg (by omega)]; exact ho3_15, hf3_15.mono (by omega), (Ext.trans e0_0 eB)⟩

set_option maxRecDepth 100000 in
theorem iIs_ok (v : Value) (X : Cx) (h : Heap) (hv : RC h v X) : CallA Try.prog 104 #[v] h fun v' h' => v' = .bool (isC X) ∧ Ext h h' := by
 obtain ⟨vd, vm, rfl, hd, hm⟩ := hv
 have hle := RdS.le hd
 have hlm := RdS.le hm
 refine callA_intro TTok (args := [_]) Try.func104 (by kernel_rfl) rfl 86 rfl (by simp) [.tmp 2] rfl ?_
 simp only [idxs, Nat.reduceAdd]
 refine den_seq ?_
 refine den_region TTok ?_
 intro K hK
 simp -implicitDefEqProofs (disch := first | decide | assumption | omega) only [go_sem, R1.al hd (HPres.refl _) sl55, RdS.al hm (HPres.refl _) sl56, wrap_id, Int.add_sub_cancel]
 refine op_box (cs := #[.int .i64 (X.p), vd, vm]) rfl ?_
 intro h0_0 e0_0 hb0_0 z0_0
 replace hd := RdS.pres hd (Ext.pres e0_0)
 replace hm := RdS.pres hm (Ext.pres e0_0)
 try simp -implicitDefEqProofs (disch := first | decide | assumption | omega) only [go_sem, R1.al hd (HPres.refl _) sl55, RdS.al hm (HPres.refl _) sl56, BoxAt.cell hb0_0, wrap_id, Int.add_sub_cancel]
 refine hK _ _ ?_
 clear hK K
 refine den_seq ?_
 refine den_seq ?_
 refine den_merge [(30, .bool (((((!((isP X.p))) || (!((in3 (((X.dims).length : Int) - 1) (0 : Int) (5 : Int))))) || (((X.maps).length : Int) != (((X.dims).length : Int) - 1))) || (X.dims.any (fun x => !in3 x 0 8)))))] [1] (fun H => Ext h0_0 H) ?_ ?_
  -- a way
 ·refine den_draw TTok mixed [] [(0, true), (1, true), (2, false), (3, true), (4, true), (5, true), (6, false), (7, false), (8, true), (9, true), (10, true), (11, true), (12, true), (14, true), (13, false), (15, false), (16, true), (17, true), (18, true), (19, true), (20, true), (21, false), (22, true)] (by kernel_rfl) ?_
  intro K hK
  simp -implicitDefEqProofs (disch := first | decide | assumption | (simp (disch := decide) only [gvA, eq_self, if_true, if_false, Bool.false_eq_true]; done) | omega) only [go_sem, fa58_0, ld2, R1.al hd (HPres.refl _) sl55, RdS.al hm (HPres.refl _) sl56, BoxAt.cell hb0_0, wrap_id, Int.add_sub_cancel]
  try simp -implicitDefEqProofs (disch := first | decide | assumption | omega) only [go_sem, R1.al hd (HPres.refl _) sl55, RdS.al hm (HPres.refl _) sl56, BoxAt.cell hb0_0, wrap_id, Int.add_sub_cancel]
  refine CallA.pure (iPrime_ok _ _) ?_
  try simp -implicitDefEqProofs (disch := first | decide | assumption | (simp (disch := decide) only [gvA, eq_self, if_true, if_false, Bool.false_eq_true]; done) | omega) only [go_sem, R1.al hd (HPres.refl _) sl55, RdS.al hm (HPres.refl _) sl56, BoxAt.cell hb0_0, wrap_id, Int.add_sub_cancel]
  refine plG_F (by simp (disch := decide) only [gvA, eq_self, if_true, if_false, Bool.false_eq_true]; rfl) (fun g1 => ?_) (fun g1 => ?_)
  ·try simp -implicitDefEqProofs (disch := first | decide | assumption | (simp (disch := decide) only [gvA, eq_self, if_true, if_false, Bool.false_eq_true, g1]; done) | omega) only [go_sem, ld58, R1.al hd (HPres.refl _) sl55, RdS.al hm (HPres.refl _) sl56, BoxAt.cell hb0_0, wrap_id, Int.add_sub_cancel, g1, eq_self, if_true, if_false, Bool.false_eq_true]
   try simp -implicitDefEqProofs (disch := first | decide | assumption | omega) only [go_sem, R1.al hd (HPres.refl _) sl55, RdS.al hm (HPres.refl _) sl56, BoxAt.cell hb0_0, wrap_id, Int.add_sub_cancel]
   refine CallA.mono (top_ok _ X _ ⟨_, _, rfl, hd, hm⟩) ?_
   intro v_ h1_6
   rintro ⟨rfl, e1_6⟩
   have := Ext.size e1_6
   have eB := e1_6
   try simp (disch := decide) only [outv_some, outv_none, put_puts]
   refine plK_pres (Ext.pres e1_6) ?_
   try simp -implicitDefEqProofs (disch := first | decide | assumption | (simp (disch := decide) only [gvA, eq_self, if_true, if_false, Bool.false_eq_true, g1]; done) | omega) only [go_sem, R1.al hd (Ext.pres eB) sl55, RdS.al hm (Ext.pres eB) sl56, BoxAt.cellB hb0_0 eB, wrap_id, Int.add_sub_cancel, g1, eq_self, if_true, if_false, Bool.false_eq_true]
   try simp -implicitDefEqProofs (disch := first | decide | assumption | omega) only [go_sem, R1.al hd (Ext.pres eB) sl55, RdS.al hm (Ext.pres eB) sl56, BoxAt.cellB hb0_0 eB, wrap_id, Int.add_sub_cancel]
   refine CallA.pure (iIn_ok _ _ _ _) ?_
   try simp -implicitDefEqProofs (disch := first | decide | assumption | (simp (disch := decide) only [gvA, eq_self, if_true, if_false, Bool.false_eq_true, g1]; done) | omega) only [go_sem, R1.al hd (Ext.pres eB) sl55, RdS.al hm (Ext.pres eB) sl56, BoxAt.cellB hb0_0 eB, wrap_id, Int.add_sub_cancel, g1, eq_self, if_true, if_false, Bool.false_eq_true]
   refine plG_F (by simp (disch := decide) only [gvA, eq_self, if_true, if_false, Bool.false_eq_true, g1]; rfl) (fun g2 => ?_) (fun g2 => ?_)
   ·try simp -implicitDefEqProofs (disch := first | decide | assumption | (simp (disch := decide) only [gvA, eq_self, if_true, if_false, Bool.false_eq_true, g1, g2]; done) | omega) only [go_sem, fa58_2, ld56, ld58, R1.al hd (Ext.pres eB) sl55, RdS.al hm (Ext.pres eB) sl56, BoxAt.cellB hb0_0 eB, wrap_id, Int.add_sub_cancel, g1, g2, eq_self, if_true, if_false, Bool.false_eq_true]
    try simp -implicitDefEqProofs (disch := first | decide | assumption | omega) only [go_sem, R1.al hd (Ext.pres eB) sl55, RdS.al hm (Ext.pres eB) sl56, BoxAt.cellB hb0_0 eB, wrap_id, Int.add_sub_cancel]
    refine CallA.pure (size3_ok _ _ _ (RdS.pres hm (Ext.pres eB))) ?_
    try simp -implicitDefEqProofs (disch := first | decide | assumption | (simp (disch := decide) only [gvA, eq_self, if_true, if_false, Bool.false_eq_true, g1, g2]; done) | omega) only [go_sem, R1.al hd (Ext.pres eB) sl55, RdS.al hm (Ext.pres eB) sl56, BoxAt.cellB hb0_0 eB, wrap_id, Int.add_sub_cancel, g1, g2, eq_self, if_true, if_false, Bool.false_eq_true]
    try simp -implicitDefEqProofs (disch := first | decide | assumption | omega) only [go_sem, R1.al hd (Ext.pres eB) sl55, RdS.al hm (Ext.pres eB) sl56, BoxAt.cellB hb0_0 eB, wrap_id, Int.add_sub_cancel]
    refine CallA.mono (top_ok _ X _ ⟨_, _, rfl, (RdS.pres hd (Ext.pres eB)), (RdS.pres hm (Ext.pres eB))⟩) ?_
    intro v_ h1_15
    rintro ⟨rfl, e1_15⟩
    have := Ext.size e1_15
    replace eB := Ext.trans eB e1_15
    try simp (disch := decide) only [outv_some, outv_none, put_puts]
    refine plK_pres (Ext.pres e1_15) ?_
    try simp -implicitDefEqProofs (disch := first | decide | assumption | (simp (disch := decide) only [gvA, eq_self, if_true, if_false, Bool.false_eq_true, g1, g2]; done) | omega) only [go_sem, R1.al hd (Ext.pres eB) sl55, RdS.al hm (Ext.pres eB) sl56, BoxAt.cellB hb0_0 eB, wrap_id, Int.add_sub_cancel, g1, g2, eq_self, if_true, if_false, Bool.false_eq_true]
    refine plG_F (by simp (disch := decide) only [gvA, eq_self, if_true, if_false, Bool.false_eq_true, g1, g2]; rfl) (fun g3 => ?_) (fun g3 => ?_)
    ·try simp -implicitDefEqProofs (disch := first | decide | assumption | (simp (disch := decide) only [gvA, eq_self, if_true, if_false, Bool.false_eq_true, g1, g2, g3]; done) | omega) only [go_sem, fa58_1, ld55, R1.al hd (Ext.pres eB) sl55, RdS.al hm (Ext.pres eB) sl56, BoxAt.cellB hb0_0 eB, wrap_id, Int.add_sub_cancel, g1, g2, g3, eq_self, if_true, if_false, Bool.false_eq_true]
     try simp -implicitDefEqProofs (disch := first | decide | assumption | omega) only [go_sem, R1.al hd (Ext.pres eB) sl55, RdS.al hm (Ext.pres eB) sl56, BoxAt.cellB hb0_0 eB, wrap_id, Int.add_sub_cancel]
     refine CallA.mono (has1_ok _ X.dims _ _ (fun x => !in3 x 0 8) _ (RdS.pres hd (Ext.pres eB)) (fun j hj h' e => by
    simp only [List.append_toArray, List.cons_append, List.nil_append]
    exact CallA.mono (isC1_ok _ _) (fun _ _ ⟨e1, e2⟩ => ⟨e1, e2 ▸ Ext.refl _⟩))) ?_
     intro v_ h1_21
     rintro ⟨rfl, e1_21⟩
     have := Ext.size e1_21
     replace eB := Ext.trans eB e1_21
     try simp (disch := decide) only [outv_some, outv_none, put_puts]
     refine plK_pres (Ext.pres e1_21) ?_
     try simp -implicitDefEqProofs (disch := first | decide | assumption | (simp (disch := decide) only [gvA, eq_self, if_true, if_false, Bool.false_eq_true, g1, g2, g3]; done) | omega) only [go_sem, R1.al hd (Ext.pres eB) sl55, RdS.al hm (Ext.pres eB) sl56, BoxAt.cellB hb0_0 eB, wrap_id, Int.add_sub_cancel, g1, g2, g3, eq_self, if_true, if_false, Bool.false_eq_true]
     refine hK _ _ ?_
     clear hK K
     refine den_stop ?_
     refine ⟨?_, (Ext.trans (Ext.trans e1_6 e1_15) e1_21)⟩
     first | (simp (disch := decide) only [go_sem, g1, g2, g3, eq_self, Bool.true_and, Bool.and_true, Bool.false_and, Bool.and_false, Bool.true_or, Bool.or_true, Bool.false_or, Bool.or_false, if_true, if_false, Bool.false_eq_true]; done) | simp [HasL, sel, puts_at, g1, g2, g3]
    ·try simp -implicitDefEqProofs (disch := first | decide | assumption | (simp (disch := decide) only [gvA, eq_self, if_true, if_false, Bool.false_eq_true, g1, g2, g3]; done) | omega) only [go_sem, R1.al hd (Ext.pres eB) sl55, RdS.al hm (Ext.pres eB) sl56, BoxAt.cellB hb0_0 eB, wrap_id, Int.add_sub_cancel, g1, g2, g3, eq_self, if_true, if_false, Bool.false_eq_true]
     refine hK _ _ ?_
     clear hK K
     refine den_stop ?_
     refine ⟨?_, (Ext.trans e1_6 e1_15)⟩
     first | (simp (disch := decide) only [go_sem, g1, g2, g3, eq_self, Bool.true_and, Bool.and_true, Bool.false_and, Bool.and_false, Bool.true_or, Bool.or_true, Bool.false_or, Bool.or_false, if_true, if_false, Bool.false_eq_true]; done) | simp [HasL, sel, puts_at, g1, g2, g3]
   ·try simp -implicitDefEqProofs (disch := first | decide | assumption | (simp (disch := decide) only [gvA, eq_self, if_true, if_false, Bool.false_eq_true, g1, g2]; done) | omega) only [go_sem, R1.al hd (Ext.pres eB) sl55, RdS.al hm (Ext.pres eB) sl56, BoxAt.cellB hb0_0 eB, wrap_id, Int.add_sub_cancel, g1, g2, eq_self, if_true, if_false, Bool.false_eq_true]
    try simp -implicitDefEqProofs (disch := first | decide | assumption | (simp (disch := decide) only [gvA, eq_self, if_true, if_false, Bool.false_eq_true, g1, g2]; done) | omega) only [go_sem, R1.al hd (Ext.pres eB) sl55, RdS.al hm (Ext.pres eB) sl56, BoxAt.cellB hb0_0 eB, wrap_id, Int.add_sub_cancel, g1, g2, eq_self, if_true, if_false, Bool.false_eq_true]
    refine hK _ _ ?_
    clear hK K
    refine den_stop ?_
    refine ⟨?_, e1_6⟩
    first | (simp (disch := decide) only [go_sem, g1, g2, eq_self, Bool.true_and, Bool.and_true, Bool.false_and, Bool.and_false, Bool.true_or, Bool.or_true, Bool.false_or, Bool.or_false, if_true, if_false, Bool.false_eq_true]; done) | simp [HasL, sel, puts_at, g1, g2]
  ·try simp -implicitDefEqProofs (disch := first | decide | assumption | (simp (disch := decide) only [gvA, eq_self, if_true, if_false, Bool.false_eq_true, g1]; done) | omega) only [go_sem, R1.al hd (HPres.refl _) sl55, RdS.al hm (HPres.refl _) sl56, BoxAt.cell hb0_0, wrap_id, Int.add_sub_cancel, g1, eq_self, if_true, if_false, Bool.false_eq_true]
   try simp -implicitDefEqProofs (disch := first | decide | assumption | (simp (disch := decide) only [gvA, eq_self, if_true, if_false, Bool.false_eq_true, g1]; done) | omega) only [go_sem, R1.al hd (HPres.refl _) sl55, RdS.al hm (HPres.refl _) sl56, BoxAt.cell hb0_0, wrap_id, Int.add_sub_cancel, g1, eq_self, if_true, if_false, Bool.false_eq_true]
   try simp -implicitDefEqProofs (disch := first | decide | assumption | (simp (disch := decide) only [gvA, eq_self, if_true, if_false, Bool.false_eq_true, g1]; done) | omega) only [go_sem, R1.al hd (HPres.refl _) sl55, RdS.al hm (HPres.refl _) sl56, BoxAt.cell hb0_0, wrap_id, Int.add_sub_cancel, g1, eq_self, if_true, if_false, Bool.false_eq_true]
   refine hK _ _ ?_
   clear hK K
   refine den_stop ?_
   refine ⟨?_, Ext.refl _⟩
   first | (simp (disch := decide) only [go_sem, g1, eq_self, Bool.true_and, Bool.and_true, Bool.false_and, Bool.and_false, Bool.true_or, Bool.or_true, Bool.false_or, Bool.or_false, if_true, if_false, Bool.false_eq_true]; done) | simp [HasL, sel, puts_at, g1]
 intro en4 h5 e6
 have := Ext.size e6
 have eB := e6
 simp (disch := decide) only [go_sem]
 refine den_cond rfl (fun c0 => ?_) (fun c0 => ?_)
 ·try simp only [ddA, Bool.or_eq_false_iff, Bool.and_eq_false_iff] at c0
  refine den_seq ?_
  refine den_region TTok ?_
  intro K hK
  simp -implicitDefEqProofs (disch := first | decide | assumption | omega) only [go_sem, R1.al hd (Ext.pres eB) sl55, RdS.al hm (Ext.pres eB) sl56, BoxAt.cellB hb0_0 eB, wrap_id, Int.add_sub_cancel]
  refine hK _ _ ?_
  clear hK K
  refine den_ret ?_
  simp (disch := decide) only [resP_1, puts_same, puts_ne]
  exact ⟨vbool (isC_no fun hC => by
   have h1 := hC.p; have h2 := hC.len; have h3 := hC.ml
   rcases c0 with ((c | c) | c) | c
   ·rw [h1] at c; cases c
   ·rw [in3_f] at c; omega
   ·omega
   ·have := hC.dm; rw [List.all_eq_not_any_not, c] at this; cases this), (Ext.trans e0_0 eB)⟩
 ·try simp only [ddA, Bool.or_eq_false_iff, Bool.and_eq_false_iff] at c0
  refine den_skip ?_
  refine den_seq ?_
  refine den_seq ?_
  have hp7 := isP_bnd c0.1.1.1
  have hdl := in3_iff.1 c0.1.1.2
  have hda := any_all c0.2
  refine den_region TTok ?_
  intro K hK
  simp -implicitDefEqProofs (disch := first | decide | assumption | omega) only [go_sem, fa58_2, ld56, R1.al hd (Ext.pres eB) sl55, RdS.al hm (Ext.pres eB) sl56, BoxAt.cellB hb0_0 eB, wrap_id, Int.add_sub_cancel]
  refine hK _ _ ?_
  clear hK K
  refine den_block ?_
  refine den_sel [34, 1, 32, 33] ?_
  intro env_7
  simp only [go_sem]
  refine den_loopS (σ := Nat) (fun s => [(34, .int .i64 (s : Int))]) (fun s H => Ext h0_0 H ∧ s ≤ X.maps.length ∧ ∀ j, j < s → tbAt X j) (fun s => X.maps.length - s) 0 ?_ ?_
  ·exact ⟨eB, by omega, fun j hj => by omega⟩
  ·rintro k h10 ee9 ⟨eB, hk, hz⟩
   simp only [List.cons_append, List.nil_append]
   have := Ext.size eB
   refine den_seq ?_
   refine den_region TTok ?_
   intro K hK
   simp -implicitDefEqProofs (disch := first | decide | assumption | omega) only [go_sem, R1.al hd (Ext.pres eB) sl55, RdS.al hm (Ext.pres eB) sl56, BoxAt.cellB hb0_0 eB, wrap_id, Int.add_sub_cancel]
   refine hK _ _ ?_
   clear hK K
   refine den_seq ?_
   refine den_cond rfl (fun c1 => ?_) (fun c1 => ?_)
   ·try simp only [ddA, Bool.or_eq_false_iff, Bool.and_eq_false_iff] at c1
    refine den_skip ?_
    refine den_seq ?_
    refine den_block ?_
    refine den_seq ?_
    refine den_region TTok ?_
    intro K hK
    have hr11 := RdS.rowN hm k (by omega)
    have hlhr11 := RdS.le hr11
    simp -implicitDefEqProofs (disch := first | decide | assumption | omega) only [go_sem, ld59, R1.al hd (Ext.pres eB) sl55, RdS.al hm (Ext.pres eB) sl56, RdS.al hr11 (Ext.pres eB) sl59, BoxAt.cellB hb0_0 eB, wrap_id, Int.add_sub_cancel]
    refine hK _ _ ?_
    clear hK K
    refine den_seq ?_
    refine den_merge [(59, .bool ((((((X.maps).getD k default).length : Int) != ((X.dims).getD (((k : Int) + (1 : Int))).toNat 0)) || (!((((X.maps).getD k default).all (isRow X.p ((X.dims).getD k 0))))))))] [1, 32, 33, 34] (fun H => Ext h10 H) ?_ ?_
     -- a way
    ·refine den_draw TTok mixed [] [(0, true), (2, true), (3, true), (4, true), (5, true), (6, true), (7, true), (1, false), (8, true), (9, true), (10, true), (11, true), (12, true), (13, true), (14, true), (15, true), (16, true), (17, true), (18, false), (19, true), (20, true)] (by kernel_rfl) ?_
     intro K hK
     simp -implicitDefEqProofs (disch := first | decide | assumption | (simp (disch := decide) only [gvA, eq_self, if_true, if_false, Bool.false_eq_true]; done) | omega) only [go_sem, fa58_1, ld55, ld2, R1.al hd (Ext.pres eB) sl55, RdS.al hm (Ext.pres eB) sl56, RdS.al hr11 (Ext.pres eB) sl59, BoxAt.cellB hb0_0 eB, wrap_id, Int.add_sub_cancel]
     try simp -implicitDefEqProofs (disch := first | decide | assumption | omega) only [go_sem, R1.al hd (Ext.pres eB) sl55, RdS.al hm (Ext.pres eB) sl56, RdS.al hr11 (Ext.pres eB) sl59, BoxAt.cellB hb0_0 eB, wrap_id, Int.add_sub_cancel]
     refine CallA.pure (size2_ok _ _ _ (RdS.pres hr11 (Ext.pres eB))) ?_
     try simp -implicitDefEqProofs (disch := first | decide | assumption | (simp (disch := decide) only [gvA, eq_self, if_true, if_false, Bool.false_eq_true]; done) | omega) only [go_sem, R1.al hd (Ext.pres eB) sl55, RdS.al hm (Ext.pres eB) sl56, RdS.al hr11 (Ext.pres eB) sl59, BoxAt.cellB hb0_0 eB, wrap_id, Int.add_sub_cancel]
     refine plG_F (by simp (disch := decide) only [gvA, eq_self, if_true, if_false, Bool.false_eq_true]; rfl) (fun g12 => ?_) (fun g12 => ?_)
     ·try simp -implicitDefEqProofs (disch := first | decide | assumption | (simp (disch := decide) only [gvA, eq_self, if_true, if_false, Bool.false_eq_true, g12]; done) | omega) only [go_sem, fa58_0, fa58_1, ld55, ld2, R1.al hd (Ext.pres eB) sl55, RdS.al hm (Ext.pres eB) sl56, RdS.al hr11 (Ext.pres eB) sl59, BoxAt.cellB hb0_0 eB, wrap_id, Int.add_sub_cancel, g12, eq_self, if_true, if_false, Bool.false_eq_true]
      try simp -implicitDefEqProofs (disch := first | decide | assumption | omega) only [go_sem, R1.al hd (Ext.pres eB) sl55, RdS.al hm (Ext.pres eB) sl56, RdS.al hr11 (Ext.pres eB) sl59, BoxAt.cellB hb0_0 eB, wrap_id, Int.add_sub_cancel]
      refine CallA.mono (areRows_ok _ _ _ _ _ (RdS.pres hr11 (Ext.pres eB)) (by omega)) ?_
      intro v_ h6_18
      rintro ⟨rfl, e6_18⟩
      have := Ext.size e6_18
      replace eB := Ext.trans eB e6_18
      try simp (disch := decide) only [outv_some, outv_none, put_puts]
      refine plK_pres (Ext.pres e6_18) ?_
      try simp -implicitDefEqProofs (disch := first | decide | assumption | (simp (disch := decide) only [gvA, eq_self, if_true, if_false, Bool.false_eq_true, g12]; done) | omega) only [go_sem, R1.al hd (Ext.pres eB) sl55, RdS.al hm (Ext.pres eB) sl56, RdS.al hr11 (Ext.pres eB) sl59, BoxAt.cellB hb0_0 eB, wrap_id, Int.add_sub_cancel, g12, eq_self, if_true, if_false, Bool.false_eq_true]
      refine hK _ _ ?_
      clear hK K
      refine den_stop ?_
      refine ⟨?_, e6_18⟩
      first | (simp (disch := decide) only [go_sem, g12, eq_self, Bool.true_and, Bool.and_true, Bool.false_and, Bool.and_false, Bool.true_or, Bool.or_true, Bool.false_or, Bool.or_false, if_true, if_false, Bool.false_eq_true]; done) | simp [HasL, sel, puts_at, g12]
     ·try simp -implicitDefEqProofs (disch := first | decide | assumption | (simp (disch := decide) only [gvA, eq_self, if_true, if_false, Bool.false_eq_true, g12]; done) | omega) only [go_sem, R1.al hd (Ext.pres eB) sl55, RdS.al hm (Ext.pres eB) sl56, RdS.al hr11 (Ext.pres eB) sl59, BoxAt.cellB hb0_0 eB, wrap_id, Int.add_sub_cancel, g12, eq_self, if_true, if_false, Bool.false_eq_true]
      refine hK _ _ ?_
      clear hK K
      refine den_stop ?_
      refine ⟨?_, Ext.refl _⟩
      first | (simp (disch := decide) only [go_sem, g12, eq_self, Bool.true_and, Bool.and_true, Bool.false_and, Bool.and_false, Bool.true_or, Bool.or_true, Bool.false_or, Bool.or_false, if_true, if_false, Bool.false_eq_true]; done) | simp [HasL, sel, puts_at, g12]
    intro en13 h14 e15
    have := Ext.size e15
    replace eB := Ext.trans eB e15
    simp (disch := decide) only [go_sem]
    refine den_cond rfl (fun c2 => ?_) (fun c2 => ?_)
    ·try simp only [ddA, Bool.or_eq_false_iff, Bool.and_eq_false_iff] at c2
     refine den_seq ?_
     refine den_region TTok ?_
     intro K hK
     simp -implicitDefEqProofs (disch := first | decide | assumption | omega) only [go_sem, R1.al hd (Ext.pres eB) sl55, RdS.al hm (Ext.pres eB) sl56, RdS.al hr11 (Ext.pres eB) sl59, BoxAt.cellB hb0_0 eB, wrap_id, Int.add_sub_cancel]
     refine hK _ _ ?_
     clear hK K
     refine den_ret ?_
     simp (disch := decide) only [resP_1, puts_same, puts_ne]
     exact ⟨vbool (isC_no fun hC => by
      have h := tbAt_iff.1 (hC.tb k (by omega))
      rcases c2 with c | c
      ·exact c h.1
      ·rw [h.2] at c; cases c), (Ext.trans e0_0 eB)⟩
    ·try simp only [ddA, Bool.or_eq_false_iff, Bool.and_eq_false_iff] at c2
     refine den_skip ?_
     refine den_blk ?_
     refine den_region TTok ?_
     intro K hK
     simp -implicitDefEqProofs (disch := first | decide | assumption | omega) only [go_sem, R1.al hd (Ext.pres eB) sl55, RdS.al hm (Ext.pres eB) sl56, RdS.al hr11 (Ext.pres eB) sl59, BoxAt.cellB hb0_0 eB, wrap_id, Int.add_sub_cancel]
     refine hK _ _ ?_
     clear hK K
     refine den_stop ?_
     exact ⟨k + 1, by simp [HasL, puts_at], ⟨eB, by omega, fun j hj => by
      rcases Nat.lt_succ_iff_lt_or_eq.1 hj with h1 | h1
      ·exact hz j h1
      ·subst h1; exact tbAt_iff.2 c2⟩, by omega⟩
   ·try simp only [ddA, Bool.or_eq_false_iff, Bool.and_eq_false_iff] at c1
    refine den_exit ?_
    refine denX_code ?_
    refine denX_stop ?_
    refine denX_hit ?_
    refine den_seq ?_
    refine den_seq ?_
    have hP : PreC X := ⟨hp7, by omega, hda, fun j hj => hz j (by omega)⟩
    refine den_region TTok ?_
    intro K hK
    simp -implicitDefEqProofs (disch := first | decide | assumption | omega) only [go_sem, R1.al hd (Ext.pres eB) sl55, RdS.al hm (Ext.pres eB) sl56, BoxAt.cellB hb0_0 eB, wrap_id, Int.add_sub_cancel]
    refine hK _ _ ?_
    clear hK K
    refine den_block ?_
    refine den_sel [5, 1] ?_
    intro env_16
    simp only [go_sem]
    refine den_loopS (σ := Nat) (fun s => [(5, .int .i64 ((s : Int) + 1))]) (fun s H => Ext h0_0 H ∧ 0 < s ∧ ∀ j, 0 < j → j < s → ∀ i, i < (X.maps.getD j default).length → leadP (sqv X j i) < 0) (fun s => X.maps.length - s) 1 ?_ ?_
    ·exact ⟨eB, by omega, fun j h0 hj => by omega⟩
    ·rintro k h19 ee18 ⟨eB, hk, hs⟩
     simp only [List.cons_append, List.nil_append]
     have := Ext.size eB
     refine den_seq ?_
     refine den_seq ?_
     refine den_region TTok ?_
     intro K hK
     simp -implicitDefEqProofs (disch := first | decide | assumption | omega) only [go_sem, ld58, R1.al hd (Ext.pres eB) sl55, RdS.al hm (Ext.pres eB) sl56, BoxAt.cellB hb0_0 eB, wrap_id, Int.add_sub_cancel]
     try simp -implicitDefEqProofs (disch := first | decide | assumption | omega) only [go_sem, R1.al hd (Ext.pres eB) sl55, RdS.al hm (Ext.pres eB) sl56, BoxAt.cellB hb0_0 eB, wrap_id, Int.add_sub_cancel]
     refine CallA.mono (top_ok _ X _ ⟨_, _, rfl, (RdS.pres hd (Ext.pres eB)), (RdS.pres hm (Ext.pres eB))⟩) ?_
     intro v_ h10_2
     rintro ⟨rfl, e10_2⟩
     have := Ext.size e10_2
     replace eB := Ext.trans eB e10_2
     try simp -implicitDefEqProofs (disch := first | decide | assumption | omega) only [go_sem, R1.al hd (Ext.pres eB) sl55, RdS.al hm (Ext.pres eB) sl56, BoxAt.cellB hb0_0 eB, wrap_id, Int.add_sub_cancel]
     refine hK _ _ ?_
     clear hK K
     refine den_cond rfl (fun c3 => ?_) (fun c3 => ?_)
     ·try simp only [ddA, Bool.or_eq_false_iff, Bool.and_eq_false_iff] at c3
      refine den_skip ?_
      refine den_seq ?_
      refine den_block ?_
      refine den_seq ?_
      refine den_region TTok ?_
      intro K hK
      have hr20 := RdS.rowN hm k (by omega)
      have hlhr20 := RdS.le hr20
      simp -implicitDefEqProofs (disch := first | decide | assumption | omega) only [go_sem, fa58_2, ld56, ld59, R1.al hd (Ext.pres eB) sl55, RdS.al hm (Ext.pres eB) sl56, RdS.al hr20 (Ext.pres eB) sl59, BoxAt.cellB hb0_0 eB, wrap_id, Int.add_sub_cancel]
      refine hK _ _ ?_
      clear hK K
      refine den_block ?_
      refine den_sel [74, 1, 5, 72, 73] ?_
      intro env_21
      simp only [go_sem]
      refine den_loopS (σ := Nat) (fun s => [(74, .int .i64 (s : Int))]) (fun s H => Ext h0_0 H ∧ s ≤ (X.maps.getD k default).length ∧ ∀ i, i < s → leadP (sqv X k i) < 0) (fun s => (X.maps.getD k default).length - s) 0 ?_ ?_
      ·exact ⟨eB, by omega, fun j hj => by omega⟩
      ·rintro m h24 ee23 ⟨eB, hm2, hy⟩
       simp only [List.cons_append, List.nil_append]
       have := Ext.size eB
       refine den_seq ?_
       refine den_region TTok ?_
       intro K hK
       simp -implicitDefEqProofs (disch := first | decide | assumption | omega) only [go_sem, R1.al hd (Ext.pres eB) sl55, RdS.al hm (Ext.pres eB) sl56, RdS.al hr20 (Ext.pres eB) sl59, BoxAt.cellB hb0_0 eB, wrap_id, Int.add_sub_cancel]
       refine hK _ _ ?_
       clear hK K
       refine den_seq ?_
       refine den_cond rfl (fun c4 => ?_) (fun c4 => ?_)
       ·try simp only [ddA, Bool.or_eq_false_iff, Bool.and_eq_false_iff] at c4
        refine den_skip ?_
        refine den_seq ?_
        refine den_block ?_
        refine den_seq ?_
        refine den_region TTok ?_
        intro K hK
        have hr25 := RdS.rowN hr20 m (by omega)
        have hlhr25 := RdS.le hr25
        simp -implicitDefEqProofs (disch := first | decide | assumption | omega) only [go_sem, ld55, R1.al hd (Ext.pres eB) sl55, RdS.al hm (Ext.pres eB) sl56, RdS.al hr20 (Ext.pres eB) sl59, R1.al hr25 (Ext.pres eB) sl55, BoxAt.cellB hb0_0 eB, wrap_id, Int.add_sub_cancel]
        refine hK _ _ ?_
        clear hK K
        refine den_seq ?_
        have hq := (tableP_iff.1 (hP.tb k (by omega))).2.at (k := m) (by omega)
        refine den_region TTok ?_
        intro K hK
        simp -implicitDefEqProofs (disch := first | decide | assumption | omega) only [go_sem, ld58, R1.al hd (Ext.pres eB) sl55, RdS.al hm (Ext.pres eB) sl56, RdS.al hr20 (Ext.pres eB) sl59, R1.al hr25 (Ext.pres eB) sl55, BoxAt.cellB hb0_0 eB, wrap_id, Int.add_sub_cancel]
        try simp -implicitDefEqProofs (disch := first | decide | assumption | omega) only [go_sem, R1.al hd (Ext.pres eB) sl55, RdS.al hm (Ext.pres eB) sl56, RdS.al hr20 (Ext.pres eB) sl59, R1.al hr25 (Ext.pres eB) sl55, BoxAt.cellB hb0_0 eB, wrap_id, Int.add_sub_cancel]
        refine CallA.mono (diff_ok _ X _ _ _ _ ⟨_, _, rfl, (RdS.pres hd (Ext.pres eB)), (RdS.pres hm (Ext.pres eB))⟩ (RdS.pres hr25 (Ext.pres eB)) hP hq.2 (fun _ _ => by simpa using hq.1)) ?_
        intro v15_4 h15_4
        rintro ⟨f15_4, ho15_4, hf15_4, e15_4⟩
        have := Ext.size e15_4
        replace eB := Ext.trans eB e15_4
        have hlho15_4 := OS.lt ho15_4
        try simp -implicitDefEqProofs (disch := first | decide | assumption | omega) only [go_sem, R1.al hd (Ext.pres eB) sl55, RdS.al hm (Ext.pres eB) sl56, RdS.al hr20 (Ext.pres eB) sl59, R1.al hr25 (Ext.pres eB) sl55, R1.an (OS.rd ho15_4) sl55, BoxAt.cellB hb0_0 eB, wrap_id, Int.add_sub_cancel]
        try simp -implicitDefEqProofs (disch := first | decide | assumption | omega) only [go_sem, R1.al hd (Ext.pres eB) sl55, RdS.al hm (Ext.pres eB) sl56, RdS.al hr20 (Ext.pres eB) sl59, R1.al hr25 (Ext.pres eB) sl55, R1.an (OS.rd ho15_4) sl55, BoxAt.cellB hb0_0 eB, wrap_id, Int.add_sub_cancel]
        refine CallA.mono (isZero_ok _ _ _ (OS.rd ho15_4)) ?_
        intro v_ h15_5
        rintro ⟨rfl, e15_5⟩
        replace ho15_4 := OS.ext ho15_4 e15_5
        have := Ext.size e15_5
        replace eB := Ext.trans eB e15_5
        try simp -implicitDefEqProofs (disch := first | decide | assumption | omega) only [go_sem, R1.al hd (Ext.pres eB) sl55, RdS.al hm (Ext.pres eB) sl56, RdS.al hr20 (Ext.pres eB) sl59, R1.al hr25 (Ext.pres eB) sl55, R1.an (OS.rd ho15_4) sl55, BoxAt.cellB hb0_0 eB, wrap_id, Int.add_sub_cancel]
        refine hK _ _ ?_
        clear hK K
        refine den_cond rfl (fun c5 => ?_) (fun c5 => ?_)
        ·try simp only [ddA, Bool.or_eq_false_iff, Bool.and_eq_false_iff] at c5
         refine den_seq ?_
         refine den_region TTok ?_
         intro K hK
         simp -implicitDefEqProofs (disch := first | decide | assumption | omega) only [go_sem, R1.al hd (Ext.pres eB) sl55, RdS.al hm (Ext.pres eB) sl56, RdS.al hr20 (Ext.pres eB) sl59, R1.al hr25 (Ext.pres eB) sl55, R1.an (OS.rd ho15_4) sl55, BoxAt.cellB hb0_0 eB, wrap_id, Int.add_sub_cancel]
         refine hK _ _ ?_
         clear hK K
         refine den_ret ?_
         simp (disch := decide) only [resP_1, puts_same, puts_ne]
         exact ⟨vbool (isC_no fun hC => by have h := hC.sq k (by omega) (by omega) m (by omega); rw [diff_sqv (by omega) (by omega)] at c5; exact lead_some c5 h), (Ext.trans e0_0 eB)⟩
        ·try simp only [ddA, Bool.or_eq_false_iff, Bool.and_eq_false_iff] at c5
         refine den_skip ?_
         refine den_blk ?_
         refine den_region TTok ?_
         intro K hK
         simp -implicitDefEqProofs (disch := first | decide | assumption | omega) only [go_sem, R1.al hd (Ext.pres eB) sl55, RdS.al hm (Ext.pres eB) sl56, RdS.al hr20 (Ext.pres eB) sl59, R1.al hr25 (Ext.pres eB) sl55, R1.an (OS.rd ho15_4) sl55, BoxAt.cellB hb0_0 eB, wrap_id, Int.add_sub_cancel]
         refine hK _ _ ?_
         clear hK K
         refine den_stop ?_
         exact ⟨m + 1, by simp [HasL, puts_at], ⟨eB, by omega, fun i hi => by
          rcases Nat.lt_succ_iff_lt_or_eq.1 hi with h1 | h1
          ·exact hy i h1
          ·subst h1; rw [← diff_sqv (by omega) (by omega)]; exact lead_zero c5⟩, by omega⟩
       ·try simp only [ddA, Bool.or_eq_false_iff, Bool.and_eq_false_iff] at c4
        refine den_exit ?_
        refine denX_code ?_
        refine denX_stop ?_
        refine denX_hit ?_
        refine den_blk ?_
        refine den_region TTok ?_
        intro K hK
        simp -implicitDefEqProofs (disch := first | decide | assumption | omega) only [go_sem, R1.al hd (Ext.pres eB) sl55, RdS.al hm (Ext.pres eB) sl56, RdS.al hr20 (Ext.pres eB) sl59, BoxAt.cellB hb0_0 eB, wrap_id, Int.add_sub_cancel]
        refine hK _ _ ?_
        clear hK K
        refine den_stop ?_
        exact ⟨k + 1, by simp [HasL, puts_at], ⟨eB, by omega, fun j h0 hj => by
         rcases Nat.lt_succ_iff_lt_or_eq.1 hj with h1 | h1
         ·exact hs j h0 h1
         ·subst h1; exact fun i hi => hy i (by omega)⟩, by omega⟩
     ·try simp only [ddA, Bool.or_eq_false_iff, Bool.and_eq_false_iff] at c3
      refine den_exit ?_
      refine denX_code ?_
      refine denX_stop ?_
      refine denX_hit ?_
      refine den_seq ?_
      refine den_region TTok ?_
      intro K hK
      simp -implicitDefEqProofs (disch := first | decide | assumption | omega) only [go_sem, R1.al hd (Ext.pres eB) sl55, RdS.al hm (Ext.pres eB) sl56, BoxAt.cellB hb0_0 eB, wrap_id, Int.add_sub_cancel]
      refine hK _ _ ?_
      clear hK K
      refine den_ret ?_
      simp (disch := decide) only [resP_1, puts_same, puts_ne]
      exact ⟨vbool (isC_yes ⟨c0.1.1.1, by omega, by omega, hda, hP.tb, fun j hj h0 => hs j h0 (by omega)⟩), (Ext.trans e0_0 eB)⟩
end Go.Proofs.Ytacajcjibhifmaa

namespace Go.Proofs.Ytacajcjibhifmaa
open Go
theorem dimP_bnd {X : Cx} (hC : IsC X) (n : Int) : 0 ≤ dimP X n ∧ dimP X n ≤ 8 := by
 unfold dimP
 split
 ·rename_i h
  rw [in3_iff] at h
  exact dm_at hC.dm (by omega)
 ·omega
theorem dimP_out {X : Cx} {n : Int} (h : ¬ (0 ≤ n ∧ n ≤ (X.dims.length : Int) - 1)) : dimP X n = 0 := by
 rw [dimP, if_neg (by rw [in3_iff]; exact h)]
end Go.Proofs.Ytacajcjibhifmaa

namespace Go.Proofs.Ytacajcjibhifmaa
open Go
theorem Fresh.left {lo : Nat} {f1 f2 : List Nat} (h : Fresh lo (f1 ++ f2)) : Fresh lo f1 := ⟨(List.nodup_append.1 h.nodup).1, fun b hb => h.ge b (List.mem_append_left _ hb)⟩
theorem Fresh.right {lo : Nat} {f1 f2 : List Nat} (h : Fresh lo (f1 ++ f2)) : Fresh lo f2 := ⟨(List.nodup_append.1 h.nodup).2.1, fun b hb => h.ge b (List.mem_append_right _ hb)⟩
end Go.Proofs.Ytacajcjibhifmaa

namespace Go.Proofs.Ytacajcjibhifmaa
open Go
def markI : List Int → Int → List Int
 | [], _ => []
 | _ :: r, k => k :: markI r (k + 1)
def cnt1 (xs : List Int) : Int := xs.length
theorem markI_len : ∀ (xs : List Int) (k : Int), (markI xs k).length = xs.length
 | [], _ => rfl
 | _ :: r, k => by simp [markI, markI_len r]
theorem markI_get : ∀ (xs : List Int) (k : Int) (i : Nat), i < xs.length → (markI xs k).getD i 0 = k + i
 | _ :: r, k, 0, _ => by simp [markI]
 | _ :: r, k, i + 1, h => by
  have := markI_get r (k + 1) i (by simpa using h)
  simp only [markI, List.getD_cons_succ, this]; omega
theorem mark_set {xs : List Int} {k : Int} {i : Nat} (h : i < xs.length) : (mix (markI xs k) xs i).set i (k + i) = mix (markI xs k) xs (i + 1) := by
 rw [← markI_get xs k i h, mix_set _ _ _ _ (markI_len xs k) h]
section
variable {α : Type} {mk : α → Int → α} {ct : α → Int}
end
theorem cnt1_nn (x : List Int) : 0 ≤ cnt1 x := by unfold cnt1; omega
set_option maxRecDepth 100000 in
theorem markS_ok (v : Value) (xs : List Int) (k : Int) (fp : List Nat) (h : Heap) (ho : O1 h v xs fp) (hn : fp.Nodup) (hk : 0 ≤ k ∧ k + cnt1 xs ≤ 4611686018427387904) : CallA Try.prog 36 #[v, .int .i64 k] h fun u h' => u = .int .i64 (k + cnt1 xs) ∧ O1 h' v (markI xs k) fp ∧ Chg fp h h' := by
 unfold cnt1 at *
 refine callA_intro TTok (args := [_, _]) Try.func36 (by kernel_rfl) rfl 19 rfl (by simp) [.tmp 4] rfl ?_
 simp only [idxs, Nat.reduceAdd]
 refine den_seq ?_
 refine den_region TTok ?_
 intro K hK
 simp -implicitDefEqProofs (disch := first | decide | assumption | omega) only [go_sem, R1.an (OS.rd ho) sl55, wrap_id]
 refine hK _ _ ?_
 clear hK K
 refine den_seq ?_
 refine den_seq ?_
 refine den_region TTok ?_
 intro K hK
 simp -implicitDefEqProofs (disch := first | decide | assumption | omega) only [go_sem, R1.an (OS.rd ho) sl55, wrap_id]
 refine hK _ _ ?_
 clear hK K
 refine den_block ?_
 refine den_sel [1, 5, 0] ?_
 intro env_1
 simp only [go_sem]
 refine den_loopS (σ := Nat × Int) (fun s => [(1, .int .i64 s.2), (5, .int .i64 (s.1 : Int))]) (fun s H => Chg fp h H ∧ s.1 ≤ xs.length ∧ s.2 = k + s.1 ∧ O1 H v (mix (markI xs k) xs s.1) fp) (fun s => xs.length - s.1) (0, k) ?_ ?_
 ·exact ⟨Chg.refl _ _, by simp, by simp, by rw [mix_zero]; exact ho⟩
 ·rintro ⟨i, q⟩ h4 ee3 ⟨hch, hi, hq, ho⟩
  simp only [List.cons_append, List.nil_append]
  dsimp only at hi hq ho
  refine den_seq ?_
  refine den_seq ?_
  have hml := mix_len (markI xs k) xs i (markI_len xs k)
  refine den_region TTok ?_
  intro K hK
  simp -implicitDefEqProofs (disch := first | decide | assumption | omega) only [go_sem, R1.an (OS.rd ho) sl55, wrap_id]
  refine hK _ _ ?_
  clear hK K
  refine den_cond rfl (fun c0 => ?_) (fun c0 => ?_)
  ·try simp only [ddA] at c0
   refine den_skip ?_
   refine den_seq ?_
   refine den_block ?_
   refine den_seq ?_
   refine den_region TTok ?_
   intro K hK
   simp -implicitDefEqProofs (disch := first | decide | assumption | omega) only [go_sem, R1.an (OS.rd ho) sl55, wrap_id]
   refine op_store1 (j := i) st2 ho hn (by omega) rfl rfl ?_
   intro h4 ho4 c4
   replace hch := hch.trans c4
   rw [hq, mark_set (by omega)] at ho4
   try simp -implicitDefEqProofs (disch := first | decide | assumption | omega) only [go_sem, R1.an (OS.rd ho) sl55, wrap_id]
   refine hK _ _ ?_
   clear hK K
   refine den_region TTok ?_
   intro K hK
   simp -implicitDefEqProofs (disch := first | decide | assumption | omega) only [go_sem, R1.an (OS.rd ho) sl55, wrap_id]
   refine hK _ _ ?_
   clear hK K
   refine den_blk ?_
   refine den_region TTok ?_
   intro K hK
   simp -implicitDefEqProofs (disch := first | decide | assumption | omega) only [go_sem, R1.an (OS.rd ho) sl55, wrap_id]
   refine hK _ _ ?_
   clear hK K
   refine den_stop ?_
   exact ⟨(i + 1, q + 1), by simp [HasL, puts_at], ⟨hch, by dsimp only; omega, by dsimp only; omega, ho4⟩, by dsimp only; omega⟩
  ·try simp only [ddA] at c0
   refine den_exit ?_
   refine denX_code ?_
   refine denX_stop ?_
   refine denX_hit ?_
   refine den_seq ?_
   refine den_region TTok ?_
   intro K hK
   simp -implicitDefEqProofs (disch := first | decide | assumption | omega) only [go_sem, R1.an (OS.rd ho) sl55, wrap_id]
   refine hK _ _ ?_
   clear hK K
   refine den_ret ?_
   simp (disch := decide) only [resP_1, puts_same, puts_ne]
   rw [mix_end _ _ _ (markI_len xs k) (by omega)] at ho
   exact ⟨vint (by omega), ho, hch⟩
end Go.Proofs.Ytacajcjibhifmaa

namespace Go.Proofs.Ytacajcjibhifmaa
open Go
set_option maxRecDepth 100000 in
theorem heldS_ok (v : Value) (xs : List Int) (k : Int) (h : Heap) (hv : R1 h v (markI xs k)) (hk : 0 ≤ k ∧ k + cnt1 xs ≤ 4611686018427387904) : CallA Try.prog 37 #[v, .int .i64 k] h fun u h' => u = .int .i64 (k + cnt1 xs) ∧ h' = h := by
 unfold cnt1 at *
 have hml := markI_len xs k
 refine callA_intro TTok (args := [_, _]) Try.func37 (by kernel_rfl) rfl 21 rfl (by simp) [.tmp 4] rfl ?_
 simp only [idxs, Nat.reduceAdd]
 refine den_seq ?_
 refine den_region TTok ?_
 intro K hK
 simp -implicitDefEqProofs (disch := first | decide | assumption | omega) only [go_sem, R1.al hv (HPres.refl _) sl55, wrap_id]
 refine hK _ _ ?_
 clear hK K
 refine den_seq ?_
 refine den_seq ?_
 refine den_region TTok ?_
 intro K hK
 simp -implicitDefEqProofs (disch := first | decide | assumption | omega) only [go_sem, R1.al hv (HPres.refl _) sl55, wrap_id]
 refine hK _ _ ?_
 clear hK K
 refine den_block ?_
 refine den_sel [1, 5, 0] ?_
 intro env_1
 simp only [go_sem]
 refine den_loopP (σ := Nat × Int) (fun s => [(1, .int .i64 s.2), (5, .int .i64 (s.1 : Int))]) (fun s => s.1 ≤ xs.length ∧ s.2 = k + s.1) (fun s => xs.length - s.1) (0, k) ?_ ?_
 ·exact ⟨rfl, by simp, by simp⟩
 ·rintro ⟨i, q⟩ ee3 ⟨hi, hq⟩
  simp only [List.cons_append, List.nil_append]
  dsimp only at hi hq
  refine den_seq ?_
  refine den_seq ?_
  refine den_region TTok ?_
  intro K hK
  simp -implicitDefEqProofs (disch := first | decide | assumption | omega) only [go_sem, R1.al hv (HPres.refl _) sl55, wrap_id]
  refine hK _ _ ?_
  clear hK K
  refine den_cond rfl (fun c0 => ?_) (fun c0 => ?_)
  ·try simp only [ddA] at c0
   refine den_skip ?_
   refine den_seq ?_
   refine den_block ?_
   refine den_seq ?_
   refine den_seq ?_
   refine den_region TTok ?_
   intro K hK
   simp -implicitDefEqProofs (disch := first | decide | assumption | omega) only [go_sem, ld2, R1.al hv (HPres.refl _) sl55, wrap_id]
   refine hK _ _ ?_
   clear hK K
   refine den_cond rfl (fun c1 => ?_) (fun c1 => ?_)
   ·try simp only [ddA] at c1
    refine den_seq ?_
    refine den_region TTok ?_
    intro K hK
    simp -implicitDefEqProofs (disch := first | decide | assumption | omega) only [go_sem, R1.al hv (HPres.refl _) sl55, wrap_id]
    refine hK _ _ ?_
    clear hK K
    refine den_ret ?_
    simp (disch := decide) only [resP_1, puts_same, puts_ne]
    exact absurd (markI_get xs k i (by omega)) (by omega)
   ·try simp only [ddA] at c1
    refine den_skip ?_
    refine den_region TTok ?_
    intro K hK
    simp -implicitDefEqProofs (disch := first | decide | assumption | omega) only [go_sem, R1.al hv (HPres.refl _) sl55, wrap_id]
    refine hK _ _ ?_
    clear hK K
    refine den_blk ?_
    refine den_region TTok ?_
    intro K hK
    simp -implicitDefEqProofs (disch := first | decide | assumption | omega) only [go_sem, R1.al hv (HPres.refl _) sl55, wrap_id]
    refine hK _ _ ?_
    clear hK K
    refine den_stop ?_
    exact ⟨(i + 1, q + 1), by simp [HasL, puts_at], ⟨rfl, by dsimp only; omega, by dsimp only; omega⟩, by dsimp only; omega⟩
  ·try simp only [ddA] at c0
   refine den_exit ?_
   refine denX_code ?_
   refine denX_stop ?_
   refine denX_hit ?_
   refine den_seq ?_
   refine den_region TTok ?_
   intro K hK
   simp -implicitDefEqProofs (disch := first | decide | assumption | omega) only [go_sem, R1.al hv (HPres.refl _) sl55, wrap_id]
   refine hK _ _ ?_
   clear hK K
   refine den_ret ?_
   simp (disch := decide) only [resP_1, puts_same, puts_ne]
   exact ⟨vint (by omega), trivial⟩
end Go.Proofs.Ytacajcjibhifmaa

namespace Go.Proofs.Ytacajcjibhifmaa
open Go
theorem eqS_same (v w : Value) (xs : List Int) (h : Heap) (hv : R1 h v xs) (hw : R1 h w xs) : CallA Try.prog 35 #[v, w] h fun u h' => u = .bool true ∧ h' = h := (eqS_ok v w xs xs h hv hw).mono fun u h' e => ⟨by rw [e.1]; simp, e.2⟩
end Go.Proofs.Ytacajcjibhifmaa

namespace Go.Proofs.Ytacajcjibhifmaa
open Go
/-- A filtered complex, as data. -/
structure Fl where
 c : Cx
 lv : List (List Int)
def RF (h : Heap) (v : Value) (X : Fl) : Prop := ∃ vd vm vl, v = .agg #[.int .i64 X.c.p, vd, vm, vl] ∧ R1 h vd X.c.dims ∧ R3 h vm X.c.maps ∧ R2 h vl X.lv
instance : Mono RF := ⟨fun hp ⟨vd, vm, vl, e, h1, h2, h3⟩ => ⟨vd, vm, vl, e, h1.pres hp, h2.pres hp, h3.pres hp⟩⟩
theorem RF.pres {h h' : Heap} {v : Value} {X : Fl} (hv : RF h v X) (hp : HPres h h') : RF h' v X := Mono.mono hp hv
theorem Apart.lft {fp f1 f2 : List Nat} (h : Apart fp (f1 ++ f2)) : Apart fp f1 := fun b hb hq => h b hb (List.mem_append_left _ hq)
theorem Apart.rgt {fp f1 f2 : List Nat} (h : Apart fp (f1 ++ f2)) : Apart fp f2 := fun b hb hq => h b hb (List.mem_append_right _ hq)
structure HMF (X : Fl) : Prop where
 c : HMC X.c
 lv : HM2 X.lv
open Go.ChangeShapes Go.WideShapes Go.ChangeAt Go.RowKit Go.Joins
end Go.Proofs.Ytacajcjibhifmaa

namespace Go.Proofs.Ytacajcjibhifmaa
open Go
def unitP (n i : Nat) : List Int := (List.replicate n 0).set i 1
def unitsP (d : Int) : List (List Int) := (List.range d.toNat).map fun i => unitP d.toNat i

set_option maxRecDepth 100000 in
theorem iUnit_ok (n : Int) (i : Int) (h : Heap)  (hn : 0 ≤ i ∧ i < n ∧ n ≤ 1048576) : CallA Try.prog 143 #[.int .i64 n, .int .i64 i] h fun v' h' => ∃ w0 f0, v' = w0 ∧ O1 h' w0 (unitP n.toNat i.toNat) f0 ∧ Fresh h.size f0 ∧ Ext h h' := by
 refine callA_intro TTok (args := [_, _]) Try.func143 (by kernel_rfl) rfl 12 rfl (by simp) [.tmp 4] rfl ?_
 simp only [idxs, Nat.reduceAdd]
 refine den_seq ?_
 refine den_region TTok ?_
 intro K hK
 simp -implicitDefEqProofs (disch := first | decide | assumption | omega) only [go_sem, wrap_id]
 refine hK _ _ ?_
 clear hK K
 refine den_seq ?_
 refine den_region TTok ?_
 intro K hK
 simp -implicitDefEqProofs (disch := first | decide | assumption | omega) only [go_sem, wrap_id]
 refine op_make sz55 rfl rfl (by omega) (by omega) OI 0 (fun _ => ⟨rfl, rfl⟩) ?_
 intro v1_1 h1_1 ho1_1 e1_1
 have := Ext.size e1_1
 have eB := e1_1
 have hfho1_1 : Fresh h.size [h.size] := Fresh.one _
 have hlenho1_1 : (List.replicate (n).toNat (0 : Int)).length = (n).toNat := List.length_replicate
 have hlho1_1 := OS.lt ho1_1
 try simp -implicitDefEqProofs (disch := first | decide | assumption | omega) only [go_sem, R1.an (OS.rd ho1_1) sl55, wrap_id]
 refine hK _ _ ?_
 clear hK K
 refine den_seq ?_
 refine den_region TTok ?_
 intro K hK
 simp -implicitDefEqProofs (disch := first | decide | assumption | omega) only [go_sem, R1.an (OS.rd ho1_1) sl55, wrap_id]
 refine op_store1 (j := (i).toNat) st2 ho1_1 hfho1_1.nodup (by first | omega | (simp; omega)) rfl rfl ?_
 intro h2_3 ho2_3 c2_3
 have hsz2_3 := c2_3.size
 have := c2_3.size
 replace eB := Ext.then eB c2_3 (ge_of hfho1_1 (by omega))
 have hlho2_3 := OS.lt ho2_3
 have hlenho2_3 : ((List.replicate (n).toNat 0).set ((i).toNat) (1 : Int) : List Int).length = (List.replicate (n).toNat 0 : List Int).length := List.length_set
 try simp -implicitDefEqProofs (disch := first | decide | assumption | omega) only [go_sem, R1.an (OS.rd ho2_3) sl55, wrap_id]
 refine hK _ _ ?_
 clear hK K
 refine den_seq ?_
 refine den_region TTok ?_
 intro K hK
 simp -implicitDefEqProofs (disch := first | decide | assumption | omega) only [go_sem, R1.an (OS.rd ho2_3) sl55, wrap_id]
 refine hK _ _ ?_
 clear hK K
 refine den_ret ?_
 simp (disch := decide) only [resP_1, puts_same, puts_ne]
 exact ⟨_, _, rfl, ho2_3, hfho1_1.mono (by omega), eB⟩

set_option maxRecDepth 100000 in
theorem iUnits_ok (n : Int) (h : Heap)  (hn : 0 ≤ n ∧ n ≤ 1048576) : CallA Try.prog 136 #[.int .i64 n] h fun v' h' => ∃ w0 f0, v' = w0 ∧ O2 h' w0 (unitsP n) f0 ∧ Fresh h.size f0 ∧ Ext h h' := by
 refine callA_intro TTok (args := [_]) Try.func136 (by kernel_rfl) rfl 18 rfl (by simp) [.tmp 2] rfl ?_
 simp only [idxs, Nat.reduceAdd]
 refine den_seq ?_
 refine den_region TTok ?_
 intro K hK
 simp -implicitDefEqProofs (disch := first | decide | assumption | omega) only [go_sem, wrap_id]
 refine hK _ _ ?_
 clear hK K
 refine den_seq ?_
 refine den_region TTok ?_
 intro K hK
 simp -implicitDefEqProofs (disch := first | decide | assumption | omega) only [go_sem, wrap_id]
 refine op_bs0 sz59 O1 ?_
 intro v1_0 h1_0 ho1_0 e1_0
 have := Ext.size e1_0
 have eB := e1_0
 have hfho1_0 : Fresh h.size [h.size] := Fresh.one _
 have hlho1_0 := OS.lt ho1_0
 try simp -implicitDefEqProofs (disch := first | decide | assumption | omega) only [go_sem, RdS.an (OS.rd ho1_0) sl59, wrap_id]
 refine hK _ _ ?_
 clear hK K
 refine den_seq ?_
 refine den_seq ?_
 refine den_region TTok ?_
 intro K hK
 simp -implicitDefEqProofs (disch := first | decide | assumption | omega) only [go_sem, RdS.an (OS.rd ho1_0) sl59, wrap_id]
 refine hK _ _ ?_
 clear hK K
 refine den_block ?_
 refine den_sel [3, 7, 0, 6] ?_
 intro env_1
 simp only [go_sem]
 refine den_loopS (σ := Nat × Value × List Nat) (fun st_ => [(3, st_.2.1), (7, .int .i64 (st_.1 : Int))]) (fun st_ H => ((st_.1 : Int) ≤ n) ∧ (O2 H st_.2.1 ((List.range st_.1).map fun i => unitP n.toNat i) st_.2.2) ∧ (Fresh (h.size) st_.2.2) ∧ (Sub [h.size] h1_0.size st_.2.2) ∧ (Chg [h.size] h1_0 H)) (fun st_ => n.toNat - st_.1) (0, v1_0, [h.size]) ?_ ?_
 ·exact ⟨by first | (simp; done) | (dsimp only; omega) | (simp; omega), by simpa using ho1_0, hfho1_0, Sub.refl, Chg.refl _ _⟩
 ·rintro ⟨k, vhO, fphO⟩ h4 ee3 ⟨hi0, hO, hfhO, sbhO, cL2⟩
  dsimp only at hi0 hO hfhO sbhO cL2
  have := cL2.size
  replace eB := Ext.then eB cL2 (ge_of hfho1_0 (by omega))
  have hlhO := OS.lt hO
  simp only [List.cons_append, List.nil_append]
  have hlr : ((List.range k).map fun i => unitP n.toNat i).length = k := by simp
  refine den_seq ?_
  refine den_region TTok ?_
  intro K hK
  simp -implicitDefEqProofs (disch := first | decide | assumption | omega) only [go_sem, RdS.an (OS.rd hO) sl59, wrap_id]
  refine hK _ _ ?_
  clear hK K
  refine den_seq ?_
  refine den_cond rfl (fun c0 => ?_) (fun c0 => ?_)
  ·try simp only [ddA] at c0
   refine den_skip ?_
   refine den_seq ?_
   refine den_block ?_
   refine den_seq ?_
   refine den_region TTok ?_
   intro K hK
   simp -implicitDefEqProofs (disch := first | decide | assumption | omega) only [go_sem, RdS.an (OS.rd hO) sl59, wrap_id]
   refine hK _ _ ?_
   clear hK K
   refine den_region TTok ?_
   intro K hK
   simp -implicitDefEqProofs (disch := first | decide | assumption | omega) only [go_sem, RdS.an (OS.rd hO) sl59, wrap_id]
   try simp -implicitDefEqProofs (disch := first | decide | assumption | omega) only [go_sem, RdS.an (OS.rd hO) sl59, wrap_id]
   refine CallA.mono (iUnit_ok  n (k : Int) _  (by omega)) ?_
   intro vw5_3_0 h5_3
   rintro ⟨zvw5_3_0, fw5_3_0, rfl, how5_3_0, hfw5_3_0, e5_3⟩
   replace hO := OS.ext hO e5_3
   have := Ext.size e5_3
   replace eB := Ext.trans eB e5_3
   replace cL2 := Chg.stepE cL2 e5_3
   have hlhow5_3_0 := OS.lt how5_3_0
   try simp -implicitDefEqProofs (disch := first | decide | assumption | omega) only [go_sem, RdS.an (OS.rd hO) sl59, R1.an (OS.rd how5_3_0) sl55, wrap_id]
   refine op_bs1 sz59 rfl (OS.one how5_3_0).2 ?_
   try simp -implicitDefEqProofs (disch := first | decide | assumption | omega) only [go_sem, RdS.an (OS.rd hO) sl59, R1.an (OS.rd how5_3_0) sl55, wrap_id]
   refine op_append1 sz59 hO hfhO.nodup how5_3_0 hfw5_3_0.nodup (apart_lt hlhO hfw5_3_0 (by omega)) (by first | omega | (simp; omega)) rfl rfl ?_
   intro v5_5 h5_5 fp5_5 ho5_5 hn5_5 hs5_5 c5_5
   have hsz5_5 := c5_5.size
   have hfho5_5 : Fresh h.size fp5_5 := Fresh.appd hfhO hfw5_3_0 (by omega) (by omega) hn5_5 hs5_5
   have sb5 : Sub [h.size] h1_0.size fp5_5 := Sub.grow sbhO (Sub.fresh hfw5_3_0 (by omega)) (by omega) hs5_5
   have := c5_5.size
   replace eB := Ext.then eB c5_5 (ge_of hfhO (by omega))
   replace cL2 := Chg.step cL2 c5_5 sbhO
   have hlho5_5 := OS.lt ho5_5
   try simp -implicitDefEqProofs (disch := first | decide | assumption | omega) only [go_sem, RdS.an (OS.rd ho5_5) sl59, wrap_id]
   refine hK _ _ ?_
   clear hK K
   refine den_blk ?_
   refine den_region TTok ?_
   intro K hK
   simp -implicitDefEqProofs (disch := first | decide | assumption | omega) only [go_sem, RdS.an (OS.rd ho5_5) sl59, wrap_id]
   refine hK _ _ ?_
   clear hK K
   refine den_stop ?_
   rw [Int.toNat_natCast, range_step (fun i => unitP n.toNat i)] at ho5_5
   exact ⟨(k + 1, v5_5, fp5_5), by simp [HasL, puts_at], ⟨by first | omega | (dsimp only; omega), ho5_5, hfho5_5, sb5, cL2⟩, by first | omega | (dsimp only; omega)⟩
  ·try simp only [ddA] at c0
   refine den_exit ?_
   refine denX_code ?_
   refine denX_stop ?_
   refine denX_hit ?_
   refine den_seq ?_
   refine den_region TTok ?_
   intro K hK
   simp -implicitDefEqProofs (disch := first | decide | assumption | omega) only [go_sem, RdS.an (OS.rd hO) sl59, wrap_id]
   refine hK _ _ ?_
   clear hK K
   refine den_ret ?_
   simp (disch := decide) only [resP_1, puts_same, puts_ne]
   have e : unitsP n = (List.range k).map fun i => unitP n.toNat i := by rw [unitsP, show n.toNat = k by omega]
   rw [e]
   exact ⟨_, _, rfl, hO, hfhO.mono (by omega), eB⟩
end Go.Proofs.Ytacajcjibhifmaa

namespace Go.Proofs.Ytacajcjibhifmaa
open Go
theorem b0 {x : Int} (h : (x == 0) = true) : x = 0 := by simpa using h
end Go.Proofs.Ytacajcjibhifmaa

namespace Go.Proofs.Ytacajcjibhifmaa
open Go
abbrev M3 := List (List (List Int))
/-- A number is added at a place, modulo p. -/
def upd3 (p : Int) (M : M3) (k r c : Nat) (x : Int) : M3 := M.set k ((M.getD k default).set r (((M.getD k default).getD r default).set c ((((M.getD k default).getD r default).getD c 0 + x) % p)))
def get3 (M : M3) (k r c : Nat) : Int := ((M.getD k default).getD r default).getD c 0
/-- How long a table of tables is, row by row. -/
structure Sh (L : Nat) (A B : Nat → Nat) (M : M3) : Prop where
 len : M.length = L
 rows : ∀ k, k < L → (M.getD k default).length = A k
 cols : ∀ k r, k < L → r < A k → ((M.getD k default).getD r default).length = B k
theorem getD_set {α : Type} {xs : List α} {k j : Nat} {x d : α} (h : k < xs.length) : (xs.set k x).getD j d = if k = j then x else xs.getD j d := by
 simp only [List.getD_eq_getElem?_getD, List.getElem?_set]
 split
 ·rename_i e; subst e; first | rfl | (rw [if_pos h]; rfl)
 ·rfl
theorem upd3_sh {L : Nat} {A B : Nat → Nat} {M : M3} {p x : Int} {k r c : Nat} (s : Sh L A B M) (hk : k < L) (hr : r < A k) : Sh L A B (upd3 p M k r c x) := by
 have hk' : k < M.length := by have := s.len; omega
 have hr' : r < (M.getD k default).length := by have := s.rows k hk; omega
 refine ⟨by rw [upd3, List.length_set]; exact s.len, fun j hj => ?_, fun j q hj hq => ?_⟩
 ·rw [upd3, getD_set hk']
  split
  ·rename_i e; subst e; rw [List.length_set]; exact s.rows _ hk
  ·exact s.rows j hj
 ·rw [upd3, getD_set hk']
  split
  ·rename_i e; subst e
   rw [getD_set hr']
   split
   ·rename_i e; subst e; rw [List.length_set]; exact s.cols _ _ hk hr
   ·exact s.cols _ q hj hq
  ·exact s.cols j q hj hq
theorem upd3_get {L : Nat} {A B : Nat → Nat} {M : M3} {p x : Int} {k r c : Nat} (s : Sh L A B M) (hk : k < L) (hr : r < A k) (hc : c < B k) (k' r' c' : Nat) : get3 (upd3 p M k r c x) k' r' c' = if (k, r, c) = (k', r', c') then (get3 M k' r' c' + x) % p else get3 M k' r' c' := by
 have hk' : k < M.length := by have := s.len; omega
 have hr' : r < (M.getD k default).length := by have := s.rows k hk; omega
 have hc' : c < ((M.getD k default).getD r default).length := by have := s.cols k r hk hr; omega
 by_cases e1 : k = k'
 ·subst e1
  by_cases e2 : r = r'
  ·subst e2
   by_cases e3 : c = c'
   ·subst e3
    simp only [get3, upd3, getD_set hk', getD_set hr', getD_set hc', if_true]
   ·rw [if_neg (by simp [e3])]
    simp only [get3, upd3, getD_set hk', getD_set hr', getD_set hc', if_true, if_neg e3]
  ·rw [if_neg (by simp [e2])]
   simp only [get3, upd3, getD_set hk', getD_set hr', if_true, if_neg e2]
 ·rw [if_neg (by simp [e1])]
  simp only [get3, upd3, getD_set hk', if_neg e1]
theorem Sh.ext {L : Nat} {A B : Nat → Nat} {M N : M3} (s : Sh L A B M) (t : Sh L A B N) (h : ∀ k r c, k < L → r < A k → c < B k → get3 M k r c = get3 N k r c) : M = N := by
 have g3 : ∀ {α : Type} [Inhabited α] {xs ys : List α}, xs.length = ys.length → (∀ i, i < xs.length → xs.getD i default = ys.getD i default) → xs = ys := by
  intro α _ xs ys hl hh
  apply List.ext_getElem hl
  intro i h1 h2
  have := hh i h1
  rwa [List.getD_eq_getElem?_getD, List.getD_eq_getElem?_getD, List.getElem?_eq_getElem h1, List.getElem?_eq_getElem h2] at this
 refine g3 (by rw [s.len, t.len]) (fun k hk => ?_)
 rw [s.len] at hk
 refine g3 (by rw [s.rows k hk, t.rows k hk]) (fun r hr => ?_)
 rw [s.rows k hk] at hr
 refine g3 (by rw [s.cols k r hk hr, t.cols k r hk hr]) (fun c hc => ?_)
 rw [s.cols k r hk hr] at hc
 exact h k r c hk hr hc
def In3 (p : Int) (L : Nat) (A B : Nat → Nat) (M : M3) : Prop := ∀ k r c, k < L → r < A k → c < B k → 0 ≤ get3 M k r c ∧ get3 M k r c < p
abbrev Upd := (Nat × Nat × Nat) × Int
def applyU (p : Int) : M3 → List Upd → M3
 | M, [] => M
 | M, u :: l => applyU p (upd3 p M u.1.1 u.1.2.1 u.1.2.2 u.2) l
/-- What the updates of a list bring to a place. -/
def sumT (t : Nat × Nat × Nat) : List Upd → Int
 | [] => 0
 | u :: l => (if u.1 = t then u.2 else 0) + sumT t l
def InU (L : Nat) (A B : Nat → Nat) (u : Upd) : Prop := u.1.1 < L ∧ u.1.2.1 < A u.1.1 ∧ u.1.2.2 < B u.1.1
theorem applyU_sh {L : Nat} {A B : Nat → Nat} {p : Int} : ∀ {l : List Upd} {M : M3}, Sh L A B M → (∀ u ∈ l, InU L A B u) → Sh L A B (applyU p M l)
 | [], _, s, _ => s
 | u :: l, M, s, h => by
  rw [applyU]
  exact applyU_sh (upd3_sh s (h u (by simp)).1 (h u (by simp)).2.1) (fun v hv => h v (List.mem_cons_of_mem _ hv))
theorem upd3_in {L : Nat} {A B : Nat → Nat} {p : Int} {M : M3} {u : Upd} (hp : 0 < p) (s : Sh L A B M) (hi : In3 p L A B M) (hu : InU L A B u) : In3 p L A B (upd3 p M u.1.1 u.1.2.1 u.1.2.2 u.2) := by
 intro k r c h1 h2 h3
 rw [upd3_get s hu.1 hu.2.1 hu.2.2]
 split
 ·exact ⟨Int.emod_nonneg _ (by omega), Int.emod_lt_of_pos _ hp⟩
 ·exact hi k r c h1 h2 h3
theorem applyU_get {L : Nat} {A B : Nat → Nat} {p : Int} (hp : 0 < p) {k r c : Nat} (h1 : k < L) (h2 : r < A k) (h3 : c < B k) : ∀ {l : List Upd} {M : M3}, Sh L A B M → In3 p L A B M → (∀ u ∈ l, InU L A B u) → get3 (applyU p M l) k r c = (get3 M k r c + sumT (k, r, c) l) % p
 | [], M, s, hi, _ => by
  have := hi k r c h1 h2 h3
  rw [applyU, sumT, Int.add_zero, Int.emod_eq_of_lt this.1 this.2]
 | u :: l, M, s, hi, h => by
  have hu := h u (by simp)
  rw [applyU, applyU_get hp h1 h2 h3 (upd3_sh s hu.1 hu.2.1) (upd3_in hp s hi hu) (fun v hv => h v (List.mem_cons_of_mem _ hv)), upd3_get s hu.1 hu.2.1 hu.2.2, sumT]
  by_cases e : u.1 = (k, r, c)
  ·rw [if_pos (show (u.1.1, u.1.2.1, u.1.2.2) = (k, r, c) from e), if_pos e, Int.emod_add_emod]
   congr 1; omega
  ·rw [if_neg (show ¬ (u.1.1, u.1.2.1, u.1.2.2) = (k, r, c) from e), if_neg e, Int.zero_add]
-- the updates of all numbers of a complex's maps
abbrev UF := Nat → Nat → Nat → Int → List Upd
/-- An element of a nested row of one's own. -/
theorem OS.row2 {h : Heap} {vm : Value} {M : M3} {f : List Nat} (hm : O3 h vm M f) (hn : f.Nodup) {k r : Nat} (hk : k < M.length) (hr : r < (M.getD k default).length) :
  ∃ f2, O1 h (rowV h (rowV h vm k) r) ((M.getD k default).getD r default) f2 ∧ f2.Nodup ∧ (∀ b ∈ f2, b ∈ f) ∧ ∀ h' x', Chg f2 h h' → O1 h' (rowV h (rowV h vm k) r) x' f2 → O3 h' vm (M.set k ((M.getD k default).set r x')) f := by
 obtain ⟨f1, hE1, hs1, hn1, hb1⟩ := OS.elem hm hn k hk
 obtain ⟨f2, hE2, hs2, hn2, hb2⟩ := OS.elem hE1 hn1 r hr
 exact ⟨f2, hE2, hn2, fun b hb => hs1 b (hs2 b hb), fun h' x' c o => hb1 h' _ (c.mono hs2) (hb2 h' _ c o)⟩

set_option maxRecDepth 100000 in
theorem addAt_ok (p : Int) (vd vm : Value) (D : List Int) (M : M3) (f : List Nat) (n r c x : Int) (h : Heap) (rd : R1 h vd D) (hom : O3 h vm M f) (hn : f.Nodup) (hp : 0 < p ∧ p ≤ 7) (h1 : 1 ≤ n ∧ n ≤ M.length) (h2 : 0 ≤ r ∧ r < (M.getD (n - 1).toNat default).length) (h3 : 0 ≤ c ∧ c < ((M.getD (n - 1).toNat default).getD r.toNat default).length) (hc : 0 ≤ get3 M (n - 1).toNat r.toNat c.toNat ∧ get3 M (n - 1).toNat r.toNat c.toNat < p) (hx : -7 ≤ x ∧ x ≤ 7) : CallA Try.prog 97 #[.agg #[.int .i64 p, vd, vm], .int .i64 n, .int .i64 r, .int .i64 c, .int .i64 x] h fun v' h' => v' = .tuple #[] ∧ O3 h' vm (upd3 p M (n - 1).toNat r.toNat c.toNat x) f ∧ Chg f h h' := by
 have hleM := OS.len_le hom
 unfold get3 at hc
 refine callA_intro TTok (args := [_, _, _, _, _]) Try.func97 (by kernel_rfl) rfl 38 rfl (by simp) [] rfl ?_
 simp only [idxs, Nat.reduceAdd]
 refine den_seq ?_
 refine den_region TTok ?_
 intro K hK
 simp -implicitDefEqProofs (disch := first | decide | assumption | omega) only [go_sem, R1.al rd (HPres.refl _) sl55, RdS.an (OS.rd hom) sl56, wrap_id]
 refine op_box (cs := #[.int .i64 (p), vd, vm]) rfl ?_
 intro h0_0 e0_0 hb0_0 z0_0
 replace hom := OS.ext hom e0_0
 have := Ext.size e0_0
 have eB := e0_0
 try simp -implicitDefEqProofs (disch := first | decide | assumption | omega) only [go_sem, R1.al rd (Ext.pres eB) sl55, RdS.an (OS.rd hom) sl56, BoxAt.cell hb0_0, wrap_id]
 refine hK _ _ ?_
 clear hK K
 refine den_seq ?_
 have hr1 := RdS.rowN (OS.rd hom) (n - 1).toNat (by omega)
 have hr2 := RdS.rowN hr1 r.toNat (by omega)
 obtain ⟨f2, hE, hn2, hs2, hbk⟩ := OS.row2 hom hn (k := (n - 1).toNat) (r := r.toNat) (by omega) (by omega)
 refine den_region TTok ?_
 intro K hK
 simp -implicitDefEqProofs (disch := first | decide | assumption | omega) only [go_sem, fa58_2, ld56, ld59, ld55, R1.al rd (Ext.pres eB) sl55, RdS.an (OS.rd hom) sl56, BoxAt.cell hb0_0, wrap_id, RdS.idx hr1 sl59, RdS.cellN hr1, RdS.idx hr2 sl55]
 refine hK _ _ ?_
 clear hK K
 have htm := tmod_in (x := ((M.getD (n - 1).toNat default).getD r.toNat default).getD c.toNat 0 + x) hp.1
 refine den_draw TTok mixed [16] [(0, true), (1, true), (2, true), (3, true), (4, true), (5, true), (6, true), (7, true), (8, true), (9, true), (10, true), (11, true), (12, true), (13, true), (14, true), (15, true), (16, false)] (by kernel_rfl) ?_
 intro K hK
 simp -implicitDefEqProofs (disch := first | decide | assumption | omega) only [go_sem, fa58_0, ld2, R1.al rd (Ext.pres eB) sl55, RdS.an (OS.rd hom) sl56, BoxAt.cell hb0_0, wrap_id, R1.intN hr2]
 refine op_store1 (j := c.toNat) st2 hE hn2 (by omega) rfl rfl ?_
 intro h16 hE2 c16
 rw [mod_twice hp.1] at hE2
 have hom2 := hbk _ _ c16 hE2
 try simp (disch := decide) only [outv_some, outv_none, put_puts]
 refine plK_last (by decide) ?_
 try simp -implicitDefEqProofs (disch := first | decide | assumption | omega) only [go_sem, R1.al rd (Ext.pres eB) sl55, RdS.an (OS.rd hom) sl56, BoxAt.cell hb0_0, wrap_id, R1.intN hr2]
 refine hK _ _ ?_
 clear hK K
 refine den_nil ?_
 simp (disch := decide) only [resP_0, puts_same, puts_ne]
 exact ⟨by first | rfl | trivial, hom2, (eB.chg _).trans (c16.mono hs2)⟩
end Go.Proofs.Ytacajcjibhifmaa

namespace Go.Proofs.Ytacajcjibhifmaa
open Go
theorem bCx {v : Value} {xs : List Int} {h : Heap} (hv : R1 h v xs) (p : Int) : buildV TT 58 [(0, .int .i64 p), (1, v)] = some (.agg #[.int .i64 p, v, .slice none 0 0]) := by
 obtain ⟨A, c, rfl, _⟩ := hv
 kernel_rfl
theorem OS.isSl {α : Type} {e : TypeId} {E : Heap → Value → α → List Nat → Prop} {h : Heap} {v : Value} {xs : List α} {fp : List Nat} (ho : OS e E h v xs fp) : ∃ A n c, v = .slice A n c := by
 rcases ho with ⟨rfl, _⟩ | ⟨b, c, cur, fps, rfl, r⟩
 ·exact ⟨_, _, _, rfl⟩
 ·exact ⟨_, _, _, r.val⟩
theorem bC3 {v w : Value} (hv : ∃ A n c, v = .slice A n c) (hw : ∃ A n c, w = .slice A n c) (p : Int) : buildV TT 58 [(0, .int .i64 p), (1, v), (2, w)] = some (.agg #[.int .i64 p, v, w]) := by
 obtain ⟨A, n, c, rfl⟩ := hv
 obtain ⟨A', n', c', rfl⟩ := hw
 kernel_rfl
def zblk (D : List Int) (k : Nat) : M3 := (List.range k).map fun j => List.replicate (D.getD (j + 1) 0).toNat (List.replicate (D.getD j 0).toNat 0)
theorem zblk_step (D : List Int) (k : Nat) : zblk D k ++ [List.replicate (D.getD (k + 1) 0).toNat (List.replicate (D.getD k 0).toNat 0)] = zblk D (k + 1) := by simp [zblk, List.range_succ]
theorem zblk_len (D : List Int) (k : Nat) : (zblk D k).length = k := by simp [zblk]
theorem getD_map_range {α : Type} [Inhabited α] (f : Nat → α) {n k : Nat} (h : k < n) : ((List.range n).map f).getD k default = f k := by
 rw [List.getD_eq_getElem?_getD, List.getElem?_eq_getElem (by simpa using h)]; simp
theorem getD_repl {α : Type} {x d : α} {n k : Nat} (h : k < n) : (List.replicate n x).getD k d = x := by
 rw [List.getD_eq_getElem?_getD, List.getElem?_eq_getElem (by simpa using h)]; simp
theorem zblk_sh (D : List Int) (n : Nat) : Sh n (fun k => (D.getD (k + 1) 0).toNat) (fun k => (D.getD k 0).toNat) (zblk D n) := by
 refine ⟨zblk_len D n, fun k hk => ?_, fun k r hk hr => ?_⟩
 ·rw [zblk, getD_map_range _ hk, List.length_replicate]
 ·rw [zblk, getD_map_range _ hk, getD_repl hr, List.length_replicate]
theorem zblk_get (D : List Int) (n : Nat) {k r c : Nat} (hk : k < n) (hr : r < (D.getD (k + 1) 0).toNat) (hc : c < (D.getD k 0).toNat) : get3 (zblk D n) k r c = 0 := by
 rw [get3, zblk, getD_map_range _ hk, getD_repl hr, getD_repl hc]
theorem D_at {D : List Int} (h : D.all (fun x => in3 x 0 8) = true) {k : Nat} (hk : k < D.length) : 0 ≤ D.getD k 0 ∧ D.getD k 0 ≤ 8 := in3_iff.1 (all_at (d := 0) h hk)

set_option maxRecDepth 100000 in
theorem blank_ok (p : Int) (v : Value) (D : List Int) (h : Heap) (rD : R1 h v D) (hD : D.all (fun x => in3 x 0 8) = true) (hl : D.length ≤ 16) : CallA Try.prog 96 #[.int .i64 p, v] h fun v' h' => ∃ w fp, v' = .agg #[.int .i64 p, v, w] ∧ O3 h' w (zblk D (D.length - 1)) fp ∧ Fresh h.size fp ∧ Ext h h' := by
 have hle := RdS.le rD
 refine callA_intro TTok (args := [_, _]) Try.func96 (by kernel_rfl) rfl 41 rfl (by simp) [.cell 4 58] rfl ?_
 simp only [idxs, Nat.reduceAdd]
 refine den_seq ?_
 refine den_region TTok ?_
 intro K hK
 simp -implicitDefEqProofs (disch := first | decide | assumption | omega) only [go_sem, R1.al rD (HPres.refl _) sl55, wrap_id, Int.add_sub_cancel, bCx rD]
 refine op_alloc (cs := #[.int .i64 0, .slice none 0 0, .slice none 0 0]) (by kernel_rfl) ?_
 intro h0_0 e0_0 hb0_0 z0_0
 have := Ext.size e0_0
 have eB := e0_0
 have hfhb0_0 : Fresh h.size [h.size] := Fresh.one _
 have hlhb0_0 := one_lt (show h.size < h0_0.size by omega)
 try simp -implicitDefEqProofs (disch := first | decide | assumption | omega) only [go_sem, R1.al rD (Ext.pres eB) sl55, BoxAt.cell hb0_0, wrap_id, Int.add_sub_cancel, bCx rD]
 refine hK _ _ ?_
 clear hK K
 refine den_seq ?_
 refine den_region TTok ?_
 intro K hK
 simp -implicitDefEqProofs (disch := first | decide | assumption | omega) only [go_sem, R1.al rD (Ext.pres eB) sl55, BoxAt.cell hb0_0, wrap_id, Int.add_sub_cancel, bCx rD]
 refine op_alloc (cs := #[.int .i64 0, .slice none 0 0, .slice none 0 0]) (by kernel_rfl) ?_
 intro h1_3 e1_3 hb1_3 z1_3
 replace hb0_0 := BoxAt.ext hb0_0 e1_3
 have := Ext.size e1_3
 replace eB := Ext.trans eB e1_3
 have hfhb1_3 : Fresh h0_0.size [h0_0.size] := Fresh.one _
 have hlhb1_3 := one_lt (show h0_0.size < h1_3.size by omega)
 try simp -implicitDefEqProofs (disch := first | decide | assumption | omega) only [go_sem, R1.al rD (Ext.pres eB) sl55, BoxAt.cell hb0_0, BoxAt.cell hb1_3, wrap_id, Int.add_sub_cancel, bCx rD]
 refine op_storeB (cs' := #[.int .i64 (p), v, .slice none 0 0]) st58 hb1_3 rfl rfl rfl (by simp) (allOne_mem (l := [.int .i64 (p), v, .slice none 0 0]) ⟨rfl, (RdS.one rD), rfl, trivial⟩) rfl ?_
 intro h1_4 hb1_3 c1_4
 replace hb0_0 := BoxAt.chgA hb0_0 c1_4 (apart_lt hlhb0_0 hfhb1_3 (by omega))
 have := c1_4.size
 replace eB := Ext.then eB c1_4 (ge_of hfhb1_3 (by omega))
 try simp -implicitDefEqProofs (disch := first | decide | assumption | omega) only [go_sem, R1.al rD (Ext.pres eB) sl55, BoxAt.cell hb0_0, BoxAt.cell hb1_3, wrap_id, Int.add_sub_cancel, bCx rD]
 refine hK _ _ ?_
 clear hK K
 refine den_seq ?_
 refine den_seq ?_
 refine den_region TTok ?_
 intro K hK
 simp -implicitDefEqProofs (disch := first | decide | assumption | omega) only [go_sem, R1.al rD (Ext.pres eB) sl55, BoxAt.cell hb0_0, BoxAt.cell hb1_3, wrap_id, Int.add_sub_cancel, bCx rD]
 refine hK _ _ ?_
 clear hK K
 refine den_block ?_
 have hnil1 : O3 h1_4 (.slice none 0 0) [] [] := OS.nil
 have hfhnil1 : Fresh h1_4.size [] := Fresh.nil _
 have hlhnil1 := OS.lt hnil1
 refine den_sel [6, 1, 4, 5] ?_
 intro env_2
 simp only [go_sem]
 refine den_loopS (σ := Nat × Value × List Nat) (fun st_ => [(6, .int .i64 ((st_.1 : Int) + 1))]) (fun st_ H => (st_.1 = 0 ∨ st_.1 + 1 ≤ D.length) ∧ (O3 H st_.2.1 (zblk D st_.1) st_.2.2) ∧ (Fresh (h1_4.size) st_.2.2) ∧ (Sub (([] : List Nat) ++ ([h0_0.size])) h1_4.size st_.2.2) ∧ (BoxAt H (h0_0.size) #[.int .i64 (p), v, st_.2.1] 58) ∧ (Apart st_.2.2 [h0_0.size]) ∧ (Chg (([] : List Nat) ++ ([h0_0.size])) h1_4 H)) (fun st_ => D.length - st_.1) (0, .slice none 0 0, ([] : List Nat)) ?_ ?_
 ·exact ⟨Or.inl rfl, by exact hnil1, hfhnil1, (Sub.left Sub.refl), by simpa using hb1_3, (apart_gt hfhnil1 hlhb1_3 (by omega)), Chg.refl _ _⟩
 ·rintro ⟨k, vhO, fphO⟩ h5 ee4 ⟨hi0, hO, hfhO, sbhO, hbx5, ap_hO_hbx5, cL3⟩
  dsimp only at hi0 hO hfhO sbhO hbx5 ap_hO_hbx5 cL3
  replace hb0_0 := BoxAt.chgA hb0_0 cL3 (Apart.app (apart_lt hlhb0_0 hfhnil1 (by omega)) (apart_lt hlhb0_0 hfhb1_3 (by omega)))
  have := cL3.size
  replace eB := Ext.then eB cL3 (ge_app (ge_of hfhnil1 (by omega)) (ge_of hfhb1_3 (by omega)))
  have hlhO := OS.lt hO
  have hfhbx5 := hfhb1_3
  have hlhbx5 := hlhb1_3
  simp only [List.cons_append, List.nil_append]
  have hzl := zblk_len D k
  refine den_seq ?_
  refine den_seq ?_
  refine den_region TTok ?_
  intro K hK
  simp -implicitDefEqProofs (disch := first | decide | assumption | omega) only [go_sem, R1.al rD (Ext.pres eB) sl55, RdS.an (OS.rd hO) sl56, BoxAt.cell hb0_0, BoxAt.cell hbx5, wrap_id, Int.add_sub_cancel, bCx rD]
  try simp -implicitDefEqProofs (disch := first | decide | assumption | omega) only [go_sem, R1.al rD (Ext.pres eB) sl55, RdS.an (OS.rd hO) sl56, BoxAt.cell hb0_0, BoxAt.cell hbx5, wrap_id, Int.add_sub_cancel, bCx rD]
  refine CallA.pure (size1_ok _ _ _ (RdS.pres rD (Ext.pres eB))) ?_
  try simp -implicitDefEqProofs (disch := first | decide | assumption | omega) only [go_sem, R1.al rD (Ext.pres eB) sl55, RdS.an (OS.rd hO) sl56, BoxAt.cell hb0_0, BoxAt.cell hbx5, wrap_id, Int.add_sub_cancel, bCx rD]
  refine hK _ _ ?_
  clear hK K
  refine den_cond rfl (fun c0 => ?_) (fun c0 => ?_)
  ·try simp only [ddA] at c0
   refine den_skip ?_
   refine den_seq ?_
   refine den_block ?_
   refine den_seq ?_
   have ek : ((k : Int) + 1).toNat = k + 1 := by omega
   refine den_region TTok ?_
   intro K hK
   simp -implicitDefEqProofs (disch := first | decide | assumption | omega) only [go_sem, R1.al rD (Ext.pres eB) sl55, RdS.an (OS.rd hO) sl56, BoxAt.cell hb0_0, BoxAt.cell hbx5, wrap_id, Int.add_sub_cancel, bCx rD]
   refine op_bs0 sz59 O1 ?_
   intro v5_0 h5_0 ho5_0 e5_0
   replace hO := OS.ext hO e5_0
   replace hb0_0 := BoxAt.ext hb0_0 e5_0
   replace hbx5 := BoxAt.ext hbx5 e5_0
   have := Ext.size e5_0
   replace eB := Ext.trans eB e5_0
   replace cL3 := Chg.stepE cL3 e5_0
   have hfho5_0 : Fresh h5.size [h5.size] := Fresh.one _
   have hlho5_0 := OS.lt ho5_0
   try simp -implicitDefEqProofs (disch := first | decide | assumption | omega) only [go_sem, R1.al rD (Ext.pres eB) sl55, RdS.an (OS.rd hO) sl56, RdS.an (OS.rd ho5_0) sl59, BoxAt.cell hb0_0, BoxAt.cell hbx5, wrap_id, Int.add_sub_cancel, bCx rD]
   refine hK _ _ ?_
   clear hK K
   refine den_seq ?_
   refine den_seq ?_
   have hd2 := D_at hD (k := ((k : Int) + 1).toNat) (by omega)
   refine den_region TTok ?_
   intro K hK
   simp -implicitDefEqProofs (disch := first | decide | assumption | omega) only [go_sem, ld2, R1.al rD (Ext.pres eB) sl55, RdS.an (OS.rd hO) sl56, RdS.an (OS.rd ho5_0) sl59, BoxAt.cell hb0_0, BoxAt.cell hbx5, wrap_id, Int.add_sub_cancel, bCx rD]
   refine hK _ _ ?_
   clear hK K
   refine den_block ?_
   refine den_sel [7, 22, 1, 4, 5, 6, 21] ?_
   intro env_6
   simp only [go_sem]
   refine den_loopS (σ := Nat × Value × List Nat) (fun st_ => [(7, st_.2.1), (22, .int .i64 (st_.1 : Int))]) (fun st_ H => ((st_.1 : Int) ≤ D.getD ((k : Int) + 1).toNat 0) ∧ (O2 H st_.2.1 (List.replicate st_.1 (List.replicate (D.getD k 0).toNat 0)) st_.2.2) ∧ (Fresh (h5.size) st_.2.2) ∧ (Sub [h5.size] h5_0.size st_.2.2) ∧ (Chg [h5.size] h5_0 H)) (fun st_ => (D.getD ((k : Int) + 1).toNat 0).toNat - st_.1) (0, v5_0, [h5.size]) ?_ ?_
   ·exact ⟨by first | (simp; done) | (dsimp only; omega) | (simp; omega), by simpa using ho5_0, hfho5_0, Sub.refl, Chg.refl _ _⟩
   ·rintro ⟨m, vhR, fphR⟩ h9 ee8 ⟨hi0, hR, hfhR, sbhR, cL7⟩
    dsimp only at hi0 hR hfhR sbhR cL7
    replace hO := OS.chg hO cL7 (apart_lt hlhO hfho5_0 (by omega))
    replace hb0_0 := BoxAt.chgA hb0_0 cL7 (apart_lt hlhb0_0 hfho5_0 (by omega))
    replace hbx5 := BoxAt.chgA hbx5 cL7 (apart_lt hlhbx5 hfho5_0 (by omega))
    have := cL7.size
    replace eB := Ext.then eB cL7 (ge_of hfho5_0 (by omega))
    replace cL3 := Chg.step cL3 cL7 (Sub.fresh hfho5_0 (by omega))
    have hlhR := OS.lt hR
    simp only [List.cons_append, List.nil_append]
    have hlr : (List.replicate m (List.replicate (D.getD k (0 : Int)).toNat (0 : Int))).length = m := List.length_replicate
    refine den_seq ?_
    refine den_region TTok ?_
    intro K hK
    simp -implicitDefEqProofs (disch := first | decide | assumption | omega) only [go_sem, R1.al rD (Ext.pres eB) sl55, RdS.an (OS.rd hO) sl56, RdS.an (OS.rd hR) sl59, BoxAt.cell hb0_0, BoxAt.cell hbx5, wrap_id, Int.add_sub_cancel, bCx rD]
    refine hK _ _ ?_
    clear hK K
    refine den_seq ?_
    refine den_cond rfl (fun c1 => ?_) (fun c1 => ?_)
    ·try simp only [ddA] at c1
     refine den_skip ?_
     refine den_seq ?_
     refine den_block ?_
     have hd1 := D_at hD (k := k) (by omega)
     refine den_region TTok ?_
     intro K hK
     simp -implicitDefEqProofs (disch := first | decide | assumption | omega) only [go_sem, ld2, R1.al rD (Ext.pres eB) sl55, RdS.an (OS.rd hO) sl56, RdS.an (OS.rd hR) sl59, BoxAt.cell hb0_0, BoxAt.cell hbx5, wrap_id, Int.add_sub_cancel, bCx rD]
     refine op_make sz55 rfl rfl (by omega) (by omega) OI 0 (fun _ => ⟨rfl, rfl⟩) ?_
     intro v8_6 h8_6 ho8_6 e8_6
     replace hO := OS.ext hO e8_6
     replace hR := OS.ext hR e8_6
     replace hb0_0 := BoxAt.ext hb0_0 e8_6
     replace hbx5 := BoxAt.ext hbx5 e8_6
     have := Ext.size e8_6
     replace eB := Ext.trans eB e8_6
     replace cL3 := Chg.stepE cL3 e8_6
     replace cL7 := Chg.stepE cL7 e8_6
     have hfho8_6 : Fresh h9.size [h9.size] := Fresh.one _
     have hlenho8_6 : (List.replicate (((D).getD k 0)).toNat (0 : Int)).length = (((D).getD k 0)).toNat := List.length_replicate
     have hlho8_6 := OS.lt ho8_6
     try simp -implicitDefEqProofs (disch := first | decide | assumption | omega) only [go_sem, R1.al rD (Ext.pres eB) sl55, RdS.an (OS.rd hO) sl56, RdS.an (OS.rd hR) sl59, R1.an (OS.rd ho8_6) sl55, BoxAt.cell hb0_0, BoxAt.cell hbx5, wrap_id, Int.add_sub_cancel, bCx rD]
     refine op_bs1 sz59 rfl (OS.one ho8_6).2 ?_
     try simp -implicitDefEqProofs (disch := first | decide | assumption | omega) only [go_sem, R1.al rD (Ext.pres eB) sl55, RdS.an (OS.rd hO) sl56, RdS.an (OS.rd hR) sl59, R1.an (OS.rd ho8_6) sl55, BoxAt.cell hb0_0, BoxAt.cell hbx5, wrap_id, Int.add_sub_cancel, bCx rD]
     refine op_append1 sz59 hR hfhR.nodup ho8_6 hfho8_6.nodup (apart_lt hlhR hfho8_6 (by omega)) (by first | omega | (simp; omega)) rfl rfl ?_
     intro v8_8 h8_8 fp8_8 ho8_8 hn8_8 hs8_8 c8_8
     have hsz8_8 := c8_8.size
     have hfho8_8 : Fresh h5.size fp8_8 := Fresh.appd hfhR hfho8_6 (by omega) (by omega) hn8_8 hs8_8
     have sb10 : Sub [h5.size] h5_0.size fp8_8 := Sub.grow sbhR (Sub.fresh hfho8_6 (by omega)) (by omega) hs8_8
     replace hO := OS.chg hO c8_8 (apart_lt hlhO hfhR (by omega))
     replace hb0_0 := BoxAt.chgA hb0_0 c8_8 (apart_lt hlhb0_0 hfhR (by omega))
     replace hbx5 := BoxAt.chgA hbx5 c8_8 (apart_lt hlhbx5 hfhR (by omega))
     have := c8_8.size
     replace eB := Ext.then eB c8_8 (ge_of hfhR (by omega))
     replace cL3 := Chg.step cL3 c8_8 (Sub.fresh hfhR (by omega))
     replace cL7 := Chg.step cL7 c8_8 sbhR
     have hlho8_8 := OS.lt ho8_8
     try simp -implicitDefEqProofs (disch := first | decide | assumption | omega) only [go_sem, R1.al rD (Ext.pres eB) sl55, RdS.an (OS.rd hO) sl56, RdS.an (OS.rd ho8_8) sl59, BoxAt.cell hb0_0, BoxAt.cell hbx5, wrap_id, Int.add_sub_cancel, bCx rD]
     refine hK _ _ ?_
     clear hK K
     refine den_blk ?_
     refine den_region TTok ?_
     intro K hK
     simp -implicitDefEqProofs (disch := first | decide | assumption | omega) only [go_sem, R1.al rD (Ext.pres eB) sl55, RdS.an (OS.rd hO) sl56, RdS.an (OS.rd ho8_8) sl59, BoxAt.cell hb0_0, BoxAt.cell hbx5, wrap_id, Int.add_sub_cancel, bCx rD]
     refine hK _ _ ?_
     clear hK K
     refine den_stop ?_
     rw [← List.replicate_succ'] at ho8_8
     exact ⟨(m + 1, v8_8, fp8_8), by simp [HasL, puts_at], ⟨by first | omega | (dsimp only; omega), ho8_8, hfho8_8, sb10, cL7⟩, by first | omega | (dsimp only; omega)⟩
    ·try simp only [ddA] at c1
     refine den_exit ?_
     refine denX_code ?_
     refine denX_stop ?_
     refine denX_hit ?_
     refine den_region TTok ?_
     intro K hK
     simp -implicitDefEqProofs (disch := first | decide | assumption | omega) only [go_sem, fa58_2, ld56, R1.al rD (Ext.pres eB) sl55, RdS.an (OS.rd hO) sl56, RdS.an (OS.rd hR) sl59, BoxAt.cell hb0_0, BoxAt.cell hbx5, wrap_id, Int.add_sub_cancel, bCx rD]
     refine op_bs1 sz56 rfl (OS.one hR).2 ?_
     try simp -implicitDefEqProofs (disch := first | decide | assumption | omega) only [go_sem, R1.al rD (Ext.pres eB) sl55, RdS.an (OS.rd hO) sl56, RdS.an (OS.rd hR) sl59, BoxAt.cell hb0_0, BoxAt.cell hbx5, wrap_id, Int.add_sub_cancel, bCx rD]
     refine op_append1 sz56 hO hfhO.nodup hR hfhR.nodup (apart_lt hlhO hfhR (by omega)) (by first | omega | (simp; omega)) rfl rfl ?_
     intro v10_4 h10_4 fp10_4 ho10_4 hn10_4 hs10_4 c10_4
     have hsz10_4 := c10_4.size
     have hfho10_4 : Fresh h1_4.size fp10_4 := Fresh.appd hfhO hfhR (by omega) (by omega) hn10_4 hs10_4
     have sb11 : Sub (([] : List Nat) ++ ([h0_0.size])) h1_4.size fp10_4 := Sub.grow sbhO (Sub.fresh hfhR (by omega)) (by omega) hs10_4
     replace hb0_0 := BoxAt.chgA hb0_0 c10_4 (apart_lt hlhb0_0 hfhO (by omega))
     replace hbx5 := BoxAt.chgA hbx5 c10_4 (Apart.symm ap_hO_hbx5)
     have := c10_4.size
     replace eB := Ext.then eB c10_4 (ge_of hfhO (by omega))
     replace cL3 := Chg.step cL3 c10_4 sbhO
     have ap12 : Apart [h0_0.size] fp10_4 := Apart.grow hlhbx5 (by omega) (Apart.symm ap_hO_hbx5) (apart_lt hlhbx5 hfhR (by omega)) hs10_4
     have hlho10_4 := OS.lt ho10_4
     try simp -implicitDefEqProofs (disch := first | decide | assumption | omega) only [go_sem, fa58_2, R1.al rD (Ext.pres eB) sl55, RdS.an (OS.rd ho10_4) sl56, BoxAt.cell hb0_0, BoxAt.cell hbx5, wrap_id, Int.add_sub_cancel, bCx rD]
     refine op_storeB (cs' := #[.int .i64 (p), v, v10_4]) st56 hbx5 rfl (OS.one ho10_4).2 rfl (by simp) (allOne_mem (l := [v10_4]) ⟨(OS.one ho10_4).1, trivial⟩) rfl ?_
     intro h10_6 hbx5 c10_6
     replace ho10_4 := OS.chg ho10_4 c10_6 (Apart.symm ap12)
     replace hb0_0 := BoxAt.chgA hb0_0 c10_6 (apart_lt hlhb0_0 hfhbx5 (by omega))
     have := c10_6.size
     replace eB := Ext.then eB c10_6 (ge_of hfhbx5 (by omega))
     replace cL3 := Chg.step cL3 c10_6 (Sub.right Sub.refl)
     try simp -implicitDefEqProofs (disch := first | decide | assumption | omega) only [go_sem, R1.al rD (Ext.pres eB) sl55, RdS.an (OS.rd ho10_4) sl56, BoxAt.cell hb0_0, BoxAt.cell hbx5, wrap_id, Int.add_sub_cancel, bCx rD]
     refine hK _ _ ?_
     clear hK K
     refine den_blk ?_
     refine den_region TTok ?_
     intro K hK
     simp -implicitDefEqProofs (disch := first | decide | assumption | omega) only [go_sem, R1.al rD (Ext.pres eB) sl55, RdS.an (OS.rd ho10_4) sl56, BoxAt.cell hb0_0, BoxAt.cell hbx5, wrap_id, Int.add_sub_cancel, bCx rD]
     refine hK _ _ ?_
     clear hK K
     refine den_stop ?_
     have em : m = (D.getD (k + 1) 0).toNat := by rw [ek] at hd2 hi0 c1; omega
     rw [em, zblk_step] at ho10_4
     exact ⟨(k + 1, v10_4, fp10_4), by simp [HasL, puts_at], ⟨by first | omega | (dsimp only; omega), ho10_4, hfho10_4, sb11, hbx5, (Apart.symm ap12), cL3⟩, by first | omega | (dsimp only; omega)⟩
  ·try simp only [ddA] at c0
   refine den_exit ?_
   refine denX_code ?_
   refine denX_stop ?_
   refine denX_hit ?_
   refine den_seq ?_
   refine den_region TTok ?_
   intro K hK
   simp -implicitDefEqProofs (disch := first | decide | assumption | omega) only [go_sem, ld58, R1.al rD (Ext.pres eB) sl55, RdS.an (OS.rd hO) sl56, BoxAt.cell hb0_0, BoxAt.cell hbx5, wrap_id, Int.add_sub_cancel, bCx rD]
   refine op_storeB (cs' := #[.int .i64 (p), v, vhO]) st58 hb0_0 rfl rfl rfl (by simp) (allOne_mem (l := [.int .i64 (p), v, vhO]) ⟨rfl, (RdS.one rD), (OS.one hO).1, trivial⟩) rfl ?_
   intro h11_1 hb0_0 c11_1
   replace hO := OS.chg hO c11_1 (apart_gt hfhO hlhb0_0 (by omega))
   replace hbx5 := BoxAt.chgA hbx5 c11_1 (apart_gt hfhbx5 hlhb0_0 (by omega))
   have := c11_1.size
   replace eB := Ext.then eB c11_1 (ge_of hfhb0_0 (by omega))
   try simp -implicitDefEqProofs (disch := first | decide | assumption | omega) only [go_sem, R1.al rD (Ext.pres eB) sl55, RdS.an (OS.rd hO) sl56, BoxAt.cell hb0_0, BoxAt.cell hbx5, wrap_id, Int.add_sub_cancel, bCx rD]
   refine hK _ _ ?_
   clear hK K
   refine den_ret ?_
   simp -implicitDefEqProofs (disch := first | decide | assumption | omega) only [go_sem, R1.al rD (Ext.pres eB) sl55, RdS.an (OS.rd hO) sl56, BoxAt.cell hb0_0, BoxAt.cell hbx5, wrap_id, Int.add_sub_cancel, bCx rD, resP_c1, ld58]
   have e : D.length - 1 = k := by omega
   rw [e]
   exact ⟨_, _, rfl, hO, hfhO.mono (by omega), eB⟩
end Go.Proofs.Ytacajcjibhifmaa

namespace Go.Proofs.Ytacajcjibhifmaa
open Go
/-- A function that is called for each number updates a table of one's own. -/
structure ORel (p : Int) (h0 : Heap) (vw : Value) (fw : List Nat) (L : Nat) (A B : Nat → Nat) (Ot : Heap → Prop) (s : M3) (H : Heap) : Prop where
 o : O3 H vw s fw
 sh : Sh L A B s
 i3 : In3 p L A B s
 e : Ext h0 H
 ot : Ot H
section
variable {U : UF} {τ : Nat → Nat → Nat → Nat × Nat × Nat} {ω : Nat → Nat → Nat → Int → Int}
end
set_option maxRecDepth 100000 in
theorem clone1_ok (vu : Value) (u : List Int) (h : Heap) (ru : R1 h vu u) (hl : (u.length : Int) ≤ 1048576) : CallA Try.prog 144 #[vu] h fun v' h' => ∃ w0 f0, v' = w0 ∧ O1 h' w0 (u) f0 ∧ Fresh h.size f0 ∧ Ext h h' := by
 have hleu := RdS.le ru
 have ru' := ru
 obtain ⟨A, cc, rfl, hA, _⟩ := ru'
 refine callA_intro TTok (args := [_]) Try.func144 (by kernel_rfl) rfl 8 rfl (by simp) [.tmp 2] rfl ?_
 simp only [idxs, Nat.reduceAdd]
 refine den_seq ?_
 refine den_region TTok ?_
 intro K hK
 simp -implicitDefEqProofs (disch := first | decide | assumption | omega) only [go_sem, R1.al ru (HPres.refl _) sl55, wrap_id]
 refine hK _ _ ?_
 clear hK K
 refine den_seq ?_
 refine den_seq ?_
 refine den_region TTok ?_
 intro K hK
 simp -implicitDefEqProofs (disch := first | decide | assumption | omega) only [go_sem, R1.al ru (HPres.refl _) sl55, wrap_id]
 refine hK _ _ ?_
 clear hK K
 refine den_cond rfl (fun c0 => ?_) (fun c0 => ?_)
 ·try simp only [ddA] at c0
  refine den_seq ?_
  refine den_region TTok ?_
  intro K hK
  simp -implicitDefEqProofs (disch := first | decide | assumption | omega) only [go_sem, R1.al ru (HPres.refl _) sl55, wrap_id]
  refine hK _ _ ?_
  clear hK K
  refine den_ret ?_
  simp (disch := decide) only [resP_1, puts_same, puts_ne]
  have e : u = [] := List.length_eq_zero_iff.1 (hA.resolve_left (by rw [Option.isNone_iff_eq_none.1 c0]; decide))
  subst e
  exact ⟨_, [], rfl, OS.nil, Fresh.nil _, (Ext.refl _)⟩
 ·try simp only [ddA] at c0
  refine den_skip ?_
  refine den_seq ?_
  refine den_region TTok ?_
  intro K hK
  simp -implicitDefEqProofs (disch := first | decide | assumption | omega) only [go_sem, R1.al ru (HPres.refl _) sl55, wrap_id]
  refine op_bs0 sz55 OI ?_
  intro v3_0 h3_0 ho3_0 e3_0
  have := Ext.size e3_0
  have eB := e3_0
  have hfho3_0 : Fresh h.size [h.size] := Fresh.one _
  have hlho3_0 := OS.lt ho3_0
  try simp -implicitDefEqProofs (disch := first | decide | assumption | omega) only [go_sem, R1.al ru (Ext.pres eB) sl55, R1.an (OS.rd ho3_0) sl55, wrap_id]
  refine op_appendR ho3_0 (RdS.pres ru (Ext.pres eB)) (by first | omega | (simp; omega)) rfl ?_
  intro v3_2 h3_2 fp3_2 ho3_2 hn3_2 hs3_2 c3_2
  have hsz3_2 := c3_2.size
  have hfho3_2 : Fresh h.size fp3_2 := Fresh.appd hfho3_0 (Fresh.nil h3_0.size) (by omega) (by omega) hn3_2 hs3_2
  have := c3_2.size
  replace eB := Ext.then eB c3_2 (ge_of hfho3_0 (by omega))
  have hlho3_2 := OS.lt ho3_2
  try simp -implicitDefEqProofs (disch := first | decide | assumption | omega) only [go_sem, R1.al ru (Ext.pres eB) sl55, R1.an (OS.rd ho3_2) sl55, wrap_id]
  refine hK _ _ ?_
  clear hK K
  refine den_ret ?_
  simp (disch := decide) only [resP_1, puts_same, puts_ne]
  exact ⟨_, _, rfl, ho3_2, hfho3_2.mono (by omega), eB⟩
end Go.Proofs.Ytacajcjibhifmaa

namespace Go.Proofs.Ytacajcjibhifmaa
open Go
def mapP (X : Cx) (n : Int) : List (List Int) := if in3 n 1 ((X.dims.length : Int) - 1) = true then X.maps.getD (n - 1).toNat default else List.replicate (dimP X n).toNat []
theorem mapP_ok {X : Cx} (hC : IsC X) {n : Int} (h0 : 0 ≤ n) (h1 : n ≤ (X.dims.length : Int) - 1) : ((mapP X n).length : Int) = X.dims.getD n.toNat 0 ∧ Tbl X.p (dimP X (n - 1)) (mapP X n) := by
 by_cases hn : 1 ≤ n
 ·obtain ⟨d, l, t⟩ := hC.pre.app (n := n) (by omega) h1
  rw [mapP, if_pos (in3_iff.2 ⟨hn, h1⟩), dimP, if_pos (in3_iff.2 ⟨by omega, by omega⟩)]
  exact ⟨l, t⟩
 ·have e : n = 0 := by omega
  subst e
  have d := dimP_bnd hC 0
  have d0 : dimP X 0 = X.dims.getD (0 : Int).toNat 0 := by rw [dimP, if_pos (in3_iff.2 ⟨by omega, by omega⟩)]
  rw [mapP, if_neg (by rw [in3_iff]; omega), dimP_out (n := 0 - 1) (by omega)]
  refine ⟨by rw [List.length_replicate]; omega, fun r hr => ?_⟩
  rw [List.eq_of_mem_replicate hr]
  exact ⟨rfl, fun x hx => by cases hx⟩
set_option maxRecDepth 100000 in
theorem sMap_ok (vX : Value) (X : Cx) (n : Int) (h : Heap) (rX : RC h vX X) (hC : IsC X) : CallA Try.prog 112 #[vX, .int .i64 n] h fun v' h' => ∃ w0, v' = w0 ∧ R2 h' w0 (mapP X n) ∧ Ext h h' := by
 obtain ⟨vdX, vmX, rfl, hdX, hmX⟩ := rX
 have hledX := RdS.le hdX
 have hlemX := RdS.le hmX
 have hml := hC.ml
 have hdb := dimP_bnd hC n
 refine callA_intro TTok (args := [_, _]) Try.func112 (by kernel_rfl) rfl 32 rfl (by simp) [.tmp 4] rfl ?_
 simp only [idxs, Nat.reduceAdd]
 refine den_seq ?_
 refine den_region TTok ?_
 intro K hK
 simp -implicitDefEqProofs (disch := first | decide | assumption | omega) only [go_sem, R1.al hdX (HPres.refl _) sl55, RdS.al hmX (HPres.refl _) sl56, wrap_id]
 refine op_box (cs := #[.int .i64 (X.p), vdX, vmX]) rfl ?_
 intro h0_0 e0_0 hb0_0 z0_0
 have := Ext.size e0_0
 have eB := e0_0
 have hfhb0_0 : Fresh h.size [h.size] := Fresh.one _
 have hlhb0_0 := one_lt (show h.size < h0_0.size by omega)
 try simp -implicitDefEqProofs (disch := first | decide | assumption | omega) only [go_sem, R1.al hdX (Ext.pres eB) sl55, RdS.al hmX (Ext.pres eB) sl56, BoxAt.cell hb0_0, wrap_id]
 refine hK _ _ ?_
 clear hK K
 refine den_seq ?_
 refine den_seq ?_
 refine den_region TTok ?_
 intro K hK
 simp -implicitDefEqProofs (disch := first | decide | assumption | omega) only [go_sem, fa58_1, ld55, R1.al hdX (Ext.pres eB) sl55, RdS.al hmX (Ext.pres eB) sl56, BoxAt.cell hb0_0, wrap_id]
 try simp -implicitDefEqProofs (disch := first | decide | assumption | omega) only [go_sem, R1.al hdX (Ext.pres eB) sl55, RdS.al hmX (Ext.pres eB) sl56, BoxAt.cell hb0_0, wrap_id]
 refine CallA.pure (sIn_ok _ _ _ _) ?_
 try simp -implicitDefEqProofs (disch := first | decide | assumption | omega) only [go_sem, R1.al hdX (Ext.pres eB) sl55, RdS.al hmX (Ext.pres eB) sl56, BoxAt.cell hb0_0, wrap_id]
 refine hK _ _ ?_
 clear hK K
 refine den_cond rfl (fun c0 => ?_) (fun c0 => ?_)
 ·try simp only [ddA, in3_iff, in3_f] at c0
  refine den_seq ?_
  refine den_region TTok ?_
  intro K hK
  have hr1 := RdS.rowN hmX ((n - (1 : Int))).toNat (by omega)
  have hlhr1 := RdS.le hr1
  simp -implicitDefEqProofs (disch := first | decide | assumption | omega) only [go_sem, fa58_2, ld56, ld59, R1.al hdX (Ext.pres eB) sl55, RdS.al hmX (Ext.pres eB) sl56, RdS.al hr1 (Ext.pres eB) sl59, BoxAt.cell hb0_0, wrap_id]
  refine hK _ _ ?_
  clear hK K
  refine den_ret ?_
  simp (disch := decide) only [resP_1, puts_same, puts_ne]
  exact ⟨_, rfl, by rw [mapP, if_pos (in3_iff.2 c0)]; exact RdS.pres (RdS.rowN hmX _ (by omega)) (Ext.pres eB), eB⟩
 ·try simp only [ddA, in3_iff, in3_f] at c0
  refine den_skip ?_
  refine den_seq ?_
  refine den_region TTok ?_
  intro K hK
  simp -implicitDefEqProofs (disch := first | decide | assumption | omega) only [go_sem, R1.al hdX (Ext.pres eB) sl55, RdS.al hmX (Ext.pres eB) sl56, BoxAt.cell hb0_0, wrap_id]
  refine op_bs0 sz59 O1 ?_
  intro v3_0 h3_0 ho3_0 e3_0
  replace hb0_0 := BoxAt.ext hb0_0 e3_0
  have := Ext.size e3_0
  replace eB := Ext.trans eB e3_0
  have hfho3_0 : Fresh h0_0.size [h0_0.size] := Fresh.one _
  have hlho3_0 := OS.lt ho3_0
  try simp -implicitDefEqProofs (disch := first | decide | assumption | omega) only [go_sem, R1.al hdX (Ext.pres eB) sl55, RdS.al hmX (Ext.pres eB) sl56, RdS.an (OS.rd ho3_0) sl59, BoxAt.cell hb0_0, wrap_id]
  refine hK _ _ ?_
  clear hK K
  refine den_seq ?_
  refine den_seq ?_
  refine den_region TTok ?_
  intro K hK
  simp -implicitDefEqProofs (disch := first | decide | assumption | omega) only [go_sem, R1.al hdX (Ext.pres eB) sl55, RdS.al hmX (Ext.pres eB) sl56, RdS.an (OS.rd ho3_0) sl59, BoxAt.cell hb0_0, wrap_id]
  refine hK _ _ ?_
  clear hK K
  refine den_block ?_
  refine den_sel [5, 6, 1, 2] ?_
  intro env_2
  simp only [go_sem]
  refine den_loopS (σ := Nat × Value × List Nat) (fun st_ => [(5, st_.2.1), (6, .int .i64 (st_.1 : Int))]) (fun st_ H => ((st_.1 : Int) ≤ dimP X n) ∧ (O2 H st_.2.1 (List.replicate st_.1 []) st_.2.2) ∧ (Fresh (h0_0.size) st_.2.2) ∧ (Sub [h0_0.size] h3_0.size st_.2.2) ∧ (Chg [h0_0.size] h3_0 H)) (fun st_ => (dimP X n).toNat - st_.1) (0, v3_0, [h0_0.size]) ?_ ?_
  ·exact ⟨by first | (simp; done) | (dsimp only; omega) | (simp; omega), by simpa using ho3_0, hfho3_0, Sub.refl, Chg.refl _ _⟩
  ·rintro ⟨k, vhI, fphI⟩ h5 ee4 ⟨hi0, hI, hfhI, sbhI, cL3⟩
   dsimp only at hi0 hI hfhI sbhI cL3
   replace hb0_0 := BoxAt.chgA hb0_0 cL3 (apart_lt hlhb0_0 hfho3_0 (by omega))
   have := cL3.size
   replace eB := Ext.then eB cL3 (ge_of hfho3_0 (by omega))
   have hlhI := OS.lt hI
   simp only [List.cons_append, List.nil_append]
   have hlr : (List.replicate k ([] : List Int)).length = k := List.length_replicate
   refine den_seq ?_
   refine den_seq ?_
   refine den_region TTok ?_
   intro K hK
   simp -implicitDefEqProofs (disch := first | decide | assumption | omega) only [go_sem, ld58, R1.al hdX (Ext.pres eB) sl55, RdS.al hmX (Ext.pres eB) sl56, RdS.an (OS.rd hI) sl59, BoxAt.cell hb0_0, wrap_id]
   try simp -implicitDefEqProofs (disch := first | decide | assumption | omega) only [go_sem, R1.al hdX (Ext.pres eB) sl55, RdS.al hmX (Ext.pres eB) sl56, RdS.an (OS.rd hI) sl59, BoxAt.cell hb0_0, wrap_id]
   refine CallA.mono (sDim_ok _ X _ _ ⟨_, _, rfl, (RdS.pres hdX (Ext.pres eB)), (RdS.pres hmX (Ext.pres eB))⟩) ?_
   intro v_ h5_3
   rintro ⟨rfl, e5_3⟩
   replace hI := OS.ext hI e5_3
   replace hb0_0 := BoxAt.ext hb0_0 e5_3
   have := Ext.size e5_3
   replace eB := Ext.trans eB e5_3
   replace cL3 := Chg.stepE cL3 e5_3
   try simp -implicitDefEqProofs (disch := first | decide | assumption | omega) only [go_sem, R1.al hdX (Ext.pres eB) sl55, RdS.al hmX (Ext.pres eB) sl56, RdS.an (OS.rd hI) sl59, BoxAt.cell hb0_0, wrap_id]
   refine hK _ _ ?_
   clear hK K
   refine den_cond rfl (fun c1 => ?_) (fun c1 => ?_)
   ·try simp only [ddA, in3_iff, in3_f] at c1
    refine den_skip ?_
    refine den_seq ?_
    refine den_block ?_
    refine den_region TTok ?_
    intro K hK
    simp -implicitDefEqProofs (disch := first | decide | assumption | omega) only [go_sem, R1.al hdX (Ext.pres eB) sl55, RdS.al hmX (Ext.pres eB) sl56, RdS.an (OS.rd hI) sl59, BoxAt.cell hb0_0, wrap_id]
    refine op_bs0 sz55 OI ?_
    intro v7_1 h7_1 ho7_1 e7_1
    replace hI := OS.ext hI e7_1
    replace hb0_0 := BoxAt.ext hb0_0 e7_1
    have := Ext.size e7_1
    replace eB := Ext.trans eB e7_1
    replace cL3 := Chg.stepE cL3 e7_1
    have hfho7_1 : Fresh h5_3.size [h5_3.size] := Fresh.one _
    have hlho7_1 := OS.lt ho7_1
    try simp -implicitDefEqProofs (disch := first | decide | assumption | omega) only [go_sem, R1.al hdX (Ext.pres eB) sl55, RdS.al hmX (Ext.pres eB) sl56, RdS.an (OS.rd hI) sl59, R1.an (OS.rd ho7_1) sl55, BoxAt.cell hb0_0, wrap_id]
    refine op_bs1 sz59 rfl (OS.one ho7_1).2 ?_
    try simp -implicitDefEqProofs (disch := first | decide | assumption | omega) only [go_sem, R1.al hdX (Ext.pres eB) sl55, RdS.al hmX (Ext.pres eB) sl56, RdS.an (OS.rd hI) sl59, R1.an (OS.rd ho7_1) sl55, BoxAt.cell hb0_0, wrap_id]
    refine op_append1 sz59 hI hfhI.nodup ho7_1 hfho7_1.nodup (apart_lt hlhI hfho7_1 (by omega)) (by first | omega | (simp; omega)) rfl rfl ?_
    intro v7_3 h7_3 fp7_3 ho7_3 hn7_3 hs7_3 c7_3
    have hsz7_3 := c7_3.size
    have hfho7_3 : Fresh h0_0.size fp7_3 := Fresh.appd hfhI hfho7_1 (by omega) (by omega) hn7_3 hs7_3
    have sb6 : Sub [h0_0.size] h3_0.size fp7_3 := Sub.grow sbhI (Sub.fresh hfho7_1 (by omega)) (by omega) hs7_3
    replace hb0_0 := BoxAt.chgA hb0_0 c7_3 (apart_lt hlhb0_0 hfhI (by omega))
    have := c7_3.size
    replace eB := Ext.then eB c7_3 (ge_of hfhI (by omega))
    replace cL3 := Chg.step cL3 c7_3 sbhI
    have hlho7_3 := OS.lt ho7_3
    try simp -implicitDefEqProofs (disch := first | decide | assumption | omega) only [go_sem, R1.al hdX (Ext.pres eB) sl55, RdS.al hmX (Ext.pres eB) sl56, RdS.an (OS.rd ho7_3) sl59, BoxAt.cell hb0_0, wrap_id]
    refine hK _ _ ?_
    clear hK K
    refine den_blk ?_
    refine den_region TTok ?_
    intro K hK
    simp -implicitDefEqProofs (disch := first | decide | assumption | omega) only [go_sem, R1.al hdX (Ext.pres eB) sl55, RdS.al hmX (Ext.pres eB) sl56, RdS.an (OS.rd ho7_3) sl59, BoxAt.cell hb0_0, wrap_id]
    refine hK _ _ ?_
    clear hK K
    refine den_stop ?_
    rw [← List.replicate_succ'] at ho7_3
    exact ⟨(k + 1, v7_3, fp7_3), by simp [HasL, puts_at], ⟨by first | omega | (dsimp only; omega), ho7_3, hfho7_3, sb6, cL3⟩, by first | omega | (dsimp only; omega)⟩
   ·try simp only [ddA, in3_iff, in3_f] at c1
    refine den_exit ?_
    refine denX_code ?_
    refine denX_stop ?_
    refine denX_hit ?_
    refine den_seq ?_
    refine den_region TTok ?_
    intro K hK
    simp -implicitDefEqProofs (disch := first | decide | assumption | omega) only [go_sem, R1.al hdX (Ext.pres eB) sl55, RdS.al hmX (Ext.pres eB) sl56, RdS.an (OS.rd hI) sl59, wrap_id]
    refine hK _ _ ?_
    clear hK K
    refine den_ret ?_
    simp (disch := decide) only [resP_1, puts_same, puts_ne]
    have e : (dimP X n).toNat = k := by omega
    exact ⟨_, rfl, by rw [mapP, if_neg (by rw [in3_iff]; omega), e]; exact OS.rd hI, eB⟩
end Go.Proofs.Ytacajcjibhifmaa

namespace Go.Proofs.Ytacajcjibhifmaa
open Go
/-- A row times k, modulo p. -/
def sclRow (p k : Int) (r : List Int) : List Int := (List.range r.length).map fun q : Nat => (k * r.getD q 0) % p
def lessRow (p k : Int) (a b : List Int) : List Int := (List.range a.length).map fun q : Nat => (a.getD q 0 - k * b.getD q 0) % p
theorem mul42A {k y p : Int} (hk : -6 ≤ k ∧ k ≤ 6) (hy : 0 ≤ y ∧ y < p) (hp : p ≤ 7) : -36 ≤ k * y ∧ k * y ≤ 36 := by
 have h1 : k * y ≤ 6 * y := Int.mul_le_mul_of_nonneg_right hk.2 hy.1
 have h2 : (-6) * y ≤ k * y := Int.mul_le_mul_of_nonneg_right hk.1 hy.1
 omega

set_option maxRecDepth 100000 in
theorem sMod_ok (p : Int) (x : Int) (h : Heap)  (hp : 0 < p ∧ p ≤ 7) (hx : -1000000 ≤ x ∧ x ≤ 1000000) : CallA Try.prog 92 #[.int .i64 p, .int .i64 x] h fun v' h' => v' = .int .i64 (x % p) ∧ Ext h h' := by
 have htm := tmod_in (x := x) hp.1
 refine callA_intro TTok (args := [_, _]) Try.func92 (by kernel_rfl) rfl 12 rfl (by simp) [.tmp 4] rfl ?_
 simp only [idxs, Nat.reduceAdd]
 refine den_seq ?_
 refine den_region TTok ?_
 intro K hK
 simp -implicitDefEqProofs (disch := first | decide | assumption | omega) only [go_sem, wrap_id]
 refine hK _ _ ?_
 clear hK K
 refine den_seq ?_
 refine den_region TTok ?_
 intro K hK
 simp -implicitDefEqProofs (disch := first | decide | assumption | omega) only [go_sem, wrap_id]
 refine hK _ _ ?_
 clear hK K
 refine den_ret ?_
 simp (disch := decide) only [resP_1, puts_same, puts_ne]
 exact ⟨vint (mod_twice hp.1), (Ext.refl _)⟩

set_option maxRecDepth 100000 in
theorem sOwn_ok (vu : Value) (u : List Int) (h : Heap) (ru : R1 h vu u) (hl : (u.length : Int) ≤ 1048576) : CallA Try.prog 125 #[vu] h fun v' h' => ∃ w0 f0, v' = w0 ∧ O1 h' w0 (u) f0 ∧ Fresh h.size f0 ∧ Ext h h' := by
 have hleu := RdS.le ru
 refine callA_intro TTok (args := [_]) Try.func125 (by kernel_rfl) rfl 6 rfl (by simp) [.tmp 2] rfl ?_
 simp only [idxs, Nat.reduceAdd]
 refine den_seq ?_
 refine den_region TTok ?_
 intro K hK
 simp -implicitDefEqProofs (disch := first | decide | assumption | omega) only [go_sem, R1.al ru (HPres.refl _) sl55, wrap_id]
 refine hK _ _ ?_
 clear hK K
 refine den_seq ?_
 refine den_region TTok ?_
 intro K hK
 simp -implicitDefEqProofs (disch := first | decide | assumption | omega) only [go_sem, R1.al ru (HPres.refl _) sl55, wrap_id]
 refine op_bs0 sz55 OI ?_
 intro v1_0 h1_0 ho1_0 e1_0
 have := Ext.size e1_0
 have eB := e1_0
 have hfho1_0 : Fresh h.size [h.size] := Fresh.one _
 have hlho1_0 := OS.lt ho1_0
 try simp -implicitDefEqProofs (disch := first | decide | assumption | omega) only [go_sem, R1.al ru (Ext.pres eB) sl55, R1.an (OS.rd ho1_0) sl55, wrap_id]
 refine op_appendR ho1_0 (RdS.pres ru (Ext.pres eB)) (by first | omega | (simp; omega)) rfl ?_
 intro v1_2 h1_2 fp1_2 ho1_2 hn1_2 hs1_2 c1_2
 have hsz1_2 := c1_2.size
 have hfho1_2 : Fresh h.size fp1_2 := Fresh.appd hfho1_0 (Fresh.nil h1_0.size) (by omega) (by omega) hn1_2 hs1_2
 have := c1_2.size
 replace eB := Ext.then eB c1_2 (ge_of hfho1_0 (by omega))
 have hlho1_2 := OS.lt ho1_2
 try simp -implicitDefEqProofs (disch := first | decide | assumption | omega) only [go_sem, R1.al ru (Ext.pres eB) sl55, R1.an (OS.rd ho1_2) sl55, wrap_id]
 refine hK _ _ ?_
 clear hK K
 refine den_ret ?_
 simp (disch := decide) only [resP_1, puts_same, puts_ne]
 exact ⟨_, _, rfl, ho1_2, hfho1_2.mono (by omega), eB⟩

set_option maxRecDepth 100000 in
theorem sLess_ok (va vb : Value) (p : Int) (a : List Int) (b : List Int) (k : Int) (h : Heap) (ra : R1 h va a) (rb : R1 h vb b) (hp : 0 < p ∧ p ≤ 7) (hl : a.length ≤ b.length ∧ a.length ≤ 1000) (ha : Bnd p a) (hb : Bnd p b) (hk : -6 ≤ k ∧ k ≤ 6) : CallA Try.prog 129 #[.int .i64 p, va, vb, .int .i64 k] h fun v' h' => ∃ w0 f0, v' = w0 ∧ O1 h' w0 (lessRow p k a b) f0 ∧ Fresh h.size f0 ∧ Ext h h' := by
 have hlea := RdS.le ra
 have hleb := RdS.le rb
 refine callA_intro TTok (args := [_, _, _, _]) Try.func129 (by kernel_rfl) rfl 35 rfl (by simp) [.tmp 8] rfl ?_
 simp only [idxs, Nat.reduceAdd]
 refine den_seq ?_
 refine den_region TTok ?_
 intro K hK
 simp -implicitDefEqProofs (disch := first | decide | assumption | omega) only [go_sem, R1.al ra (HPres.refl _) sl55, R1.al rb (HPres.refl _) sl55, wrap_id]
 refine hK _ _ ?_
 clear hK K
 refine den_seq ?_
 refine den_region TTok ?_
 intro K hK
 simp -implicitDefEqProofs (disch := first | decide | assumption | omega) only [go_sem, R1.al ra (HPres.refl _) sl55, R1.al rb (HPres.refl _) sl55, wrap_id]
 refine op_bs0 sz55 OI ?_
 intro v1_0 h1_0 ho1_0 e1_0
 have := Ext.size e1_0
 have eB := e1_0
 have hfho1_0 : Fresh h.size [h.size] := Fresh.one _
 have hlho1_0 := OS.lt ho1_0
 try simp -implicitDefEqProofs (disch := first | decide | assumption | omega) only [go_sem, R1.al ra (Ext.pres eB) sl55, R1.al rb (Ext.pres eB) sl55, R1.an (OS.rd ho1_0) sl55, wrap_id]
 refine hK _ _ ?_
 clear hK K
 refine den_seq ?_
 refine den_seq ?_
 refine den_region TTok ?_
 intro K hK
 simp -implicitDefEqProofs (disch := first | decide | assumption | omega) only [go_sem, R1.al ra (Ext.pres eB) sl55, R1.al rb (Ext.pres eB) sl55, R1.an (OS.rd ho1_0) sl55, wrap_id]
 refine hK _ _ ?_
 clear hK K
 refine den_block ?_
 refine den_sel [9, 10, 0, 1, 2, 3] ?_
 intro env_1
 simp only [go_sem]
 refine den_loopS (σ := Nat × Value × List Nat) (fun st_ => [(9, st_.2.1), (10, .int .i64 (st_.1 : Int))]) (fun st_ H => (st_.1 ≤ a.length) ∧ (O1 H st_.2.1 ((List.range st_.1).map fun q : Nat => (a.getD q 0 - k * b.getD q 0) % p) st_.2.2) ∧ (Fresh (h.size) st_.2.2) ∧ (Sub [h.size] h1_0.size st_.2.2) ∧ (Chg [h.size] h1_0 H)) (fun st_ => a.length - st_.1) (0, v1_0, [h.size]) ?_ ?_
 ·exact ⟨by first | (simp; done) | (dsimp only; omega) | (simp; omega), by simpa using ho1_0, hfho1_0, Sub.refl, Chg.refl _ _⟩
 ·rintro ⟨i, vhO, fphO⟩ h4 ee3 ⟨hi0, hO, hfhO, sbhO, cL2⟩
  dsimp only at hi0 hO hfhO sbhO cL2
  have := cL2.size
  replace eB := Ext.then eB cL2 (ge_of hfho1_0 (by omega))
  have hlhO := OS.lt hO
  simp only [List.cons_append, List.nil_append]
  have hlo : ((List.range i).map fun q : Nat => (a.getD q 0 - k * b.getD q 0) % p).length = i := by simp
  refine den_seq ?_
  refine den_seq ?_
  refine den_region TTok ?_
  intro K hK
  simp -implicitDefEqProofs (disch := first | decide | assumption | omega) only [go_sem, R1.al ra (Ext.pres eB) sl55, R1.al rb (Ext.pres eB) sl55, R1.an (OS.rd hO) sl55, wrap_id]
  refine hK _ _ ?_
  clear hK K
  refine den_cond rfl (fun c0 => ?_) (fun c0 => ?_)
  ·try simp only [ddA] at c0
   refine den_skip ?_
   refine den_seq ?_
   refine den_block ?_
   have hxa := ha.at (k := i) (by omega)
   have hxb := hb.at (k := i) (by omega)
   have hky := mul42A hk hxb hp.2
   refine den_draw TTok mixed [15] [(0, true), (1, true), (2, true), (3, true), (4, true), (5, true), (6, true), (7, true), (8, true), (9, true), (10, true), (11, true), (12, true), (13, false), (14, false), (15, false), (16, true)] (by kernel_rfl) ?_
   intro K hK
   simp -implicitDefEqProofs (disch := first | decide | assumption | omega) only [go_sem, ld2, R1.al ra (Ext.pres eB) sl55, R1.al rb (Ext.pres eB) sl55, R1.an (OS.rd hO) sl55, wrap_id]
   try simp -implicitDefEqProofs (disch := first | decide | assumption | omega) only [go_sem, R1.al ra (Ext.pres eB) sl55, R1.al rb (Ext.pres eB) sl55, R1.an (OS.rd hO) sl55, wrap_id]
   refine CallA.mono (sMod_ok  p (((a).getD i 0) - (k * ((b).getD i 0))) _  (by omega) (by omega)) ?_
   intro v_ h5_13
   rintro ⟨rfl, e5_13⟩
   replace hO := OS.ext hO e5_13
   have := Ext.size e5_13
   replace eB := Ext.trans eB e5_13
   replace cL2 := Chg.stepE cL2 e5_13
   try simp (disch := decide) only [outv_some, outv_none, put_puts]
   refine plK_pres (Ext.pres e5_13) ?_
   try simp -implicitDefEqProofs (disch := first | decide | assumption | omega) only [go_sem, R1.al ra (Ext.pres eB) sl55, R1.al rb (Ext.pres eB) sl55, R1.an (OS.rd hO) sl55, wrap_id]
   refine op_bs1 sz55 rfl rfl ?_
   try simp (disch := decide) only [outv_some, outv_none, put_puts]
   refine plK_pres (Ext.pres (Ext.push _ _)) ?_
   try simp -implicitDefEqProofs (disch := first | decide | assumption | omega) only [go_sem, R1.al ra (Ext.pres eB) sl55, R1.al rb (Ext.pres eB) sl55, R1.an (OS.rd hO) sl55, wrap_id]
   refine op_append1 sz55 hO hfhO.nodup ⟨rfl, rfl⟩ List.nodup_nil (Apart.nil _) (by first | omega | (simp; omega)) rfl rfl ?_
   intro v5_15 h5_15 fp5_15 ho5_15 hn5_15 hs5_15 c5_15
   have hsz5_15 := c5_15.size
   have hfho5_15 : Fresh h.size fp5_15 := Fresh.appd hfhO (Fresh.nil h5_13.size) (by omega) (by omega) hn5_15 hs5_15
   have sb5 : Sub [h.size] h1_0.size fp5_15 := Sub.grow sbhO Sub.nil (by omega) hs5_15
   have := c5_15.size
   replace eB := Ext.then eB c5_15 (ge_of hfhO (by omega))
   replace cL2 := Chg.step cL2 c5_15 sbhO
   have hlho5_15 := OS.lt ho5_15
   try simp (disch := decide) only [outv_some, outv_none, put_puts]
   refine plK_last (by decide) ?_
   try simp -implicitDefEqProofs (disch := first | decide | assumption | omega) only [go_sem, R1.al ra (Ext.pres eB) sl55, R1.al rb (Ext.pres eB) sl55, R1.an (OS.rd ho5_15) sl55, wrap_id]
   refine hK _ _ ?_
   clear hK K
   refine den_blk ?_
   refine den_region TTok ?_
   intro K hK
   simp -implicitDefEqProofs (disch := first | decide | assumption | omega) only [go_sem, R1.al ra (Ext.pres eB) sl55, R1.al rb (Ext.pres eB) sl55, R1.an (OS.rd ho5_15) sl55, wrap_id]
   refine hK _ _ ?_
   clear hK K
   refine den_stop ?_
   rw [range_step (fun q : Nat => (a.getD q 0 - k * b.getD q 0) % p)] at ho5_15
   exact ⟨(i + 1, v5_15, fp5_15), by simp [HasL, puts_at], ⟨by first | omega | (dsimp only; omega), ho5_15, hfho5_15, sb5, cL2⟩, by first | omega | (dsimp only; omega)⟩
  ·try simp only [ddA] at c0
   refine den_exit ?_
   refine denX_code ?_
   refine denX_stop ?_
   refine denX_hit ?_
   refine den_seq ?_
   refine den_region TTok ?_
   intro K hK
   simp -implicitDefEqProofs (disch := first | decide | assumption | omega) only [go_sem, R1.al ra (Ext.pres eB) sl55, R1.al rb (Ext.pres eB) sl55, R1.an (OS.rd hO) sl55, wrap_id]
   refine hK _ _ ?_
   clear hK K
   refine den_ret ?_
   simp (disch := decide) only [resP_1, puts_same, puts_ne]
   rw [show i = a.length by omega] at hO
   exact ⟨_, _, rfl, hO, hfhO.mono (by omega), eB⟩

set_option maxRecDepth 100000 in
theorem iSign_ok (k : Int) (h : Heap)  (hk : -1000 ≤ k ∧ k ≤ 1000) : CallA Try.prog 44 #[.int .i64 k] h fun v' h' => v' = .int .i64 (1 - k.tmod 2 * 2) ∧ Ext h h' := by
 have htm := tmod_in (p := 2) (x := k) (by decide)
 refine callA_intro TTok (args := [_]) Try.func44 (by kernel_rfl) rfl 7 rfl (by simp) [.tmp 2] rfl ?_
 simp only [idxs, Nat.reduceAdd]
 refine den_seq ?_
 refine den_region TTok ?_
 intro K hK
 simp -implicitDefEqProofs (disch := first | decide | assumption | omega) only [go_sem, wrap_id]
 refine hK _ _ ?_
 clear hK K
 refine den_seq ?_
 refine den_region TTok ?_
 intro K hK
 simp -implicitDefEqProofs (disch := first | decide | assumption | omega) only [go_sem, wrap_id]
 refine hK _ _ ?_
 clear hK K
 refine den_ret ?_
 simp (disch := decide) only [resP_1, puts_same, puts_ne]
 exact ⟨by first | rfl | trivial, (Ext.refl _)⟩
end Go.Proofs.Ytacajcjibhifmaa

namespace Go.Proofs.Ytacajcjibhifmaa
open Go
theorem sclR_len (p k : Int) (r : List Int) : (sclRow p k r).length = r.length := by simp [sclRow]
theorem sclR_get (p k : Int) {r : List Int} {c : Nat} (h : c < r.length) : (sclRow p k r).getD c 0 = (k * r.getD c 0) % p := getD_map_range (α := Int) (fun q : Nat => (k * r.getD q 0) % p) h
/-- Congruence modulo p. -/
def Cg (p a b : Int) : Prop := a % p = b % p
theorem Cg.refl {p : Int} (a : Int) : Cg p a a := rfl
theorem Cg.symm {p a b : Int} (h : Cg p a b) : Cg p b a := Eq.symm h
theorem Cg.trans {p a b c : Int} (h : Cg p a b) (k : Cg p b c) : Cg p a c := Eq.trans h k
theorem Cg.add {p a b c d : Int} (h : Cg p a b) (k : Cg p c d) : Cg p (a + c) (b + d) := by
 unfold Cg at *; rw [Int.add_emod, h, k, ← Int.add_emod]
theorem Cg.mul {p a b c d : Int} (h : Cg p a b) (k : Cg p c d) : Cg p (a * c) (b * d) := by
 unfold Cg at *; rw [Int.mul_emod, h, k, ← Int.mul_emod]
theorem Cg.neg {p a b : Int} (h : Cg p a b) : Cg p (-a) (-b) := by
 have := Cg.mul (Cg.refl (p := p) (-1)) h
 rwa [Int.neg_one_mul, Int.neg_one_mul] at this
theorem Cg.sub {p a b c d : Int} (h : Cg p a b) (k : Cg p c d) : Cg p (a - c) (b - d) := by
 rw [Int.sub_eq_add_neg, Int.sub_eq_add_neg]; exact h.add k.neg
theorem Cg.mod {p : Int} (a : Int) : Cg p (a % p) a := Int.emod_emod a p
theorem Cg.eq {p a b : Int} (h : Cg p a b) (ha : 0 ≤ a ∧ a < p) (hb : 0 ≤ b ∧ b < p) : a = b := by
 unfold Cg at h
 rwa [Int.emod_eq_of_lt ha.1 ha.2, Int.emod_eq_of_lt hb.1 hb.2] at h
theorem Cg.of_eq {p a b : Int} (h : a = b) : Cg p a b := by rw [h]; exact Cg.refl _
/-- A sum. -/
def sm : Nat → (Nat → Int) → Int
 | 0, _ => 0
 | n + 1, f => sm n f + f n
theorem sm_cg {p : Int} : ∀ {n : Nat} {f g : Nat → Int}, (∀ i, i < n → Cg p (f i) (g i)) → Cg p (sm n f) (sm n g)
 | 0, _, _, _ => Cg.refl _
 | n + 1, f, g, h => (sm_cg (n := n) fun i hi => h i (by omega)).add (h n (by omega))
theorem sm_eq : ∀ {n : Nat} {f g : Nat → Int}, (∀ i, i < n → f i = g i) → sm n f = sm n g
 | 0, _, _, _ => rfl
 | n + 1, f, g, h => by rw [sm, sm, sm_eq (n := n) fun i hi => h i (by omega), h n (by omega)]
theorem sm_zero : ∀ {n : Nat} {f : Nat → Int}, (∀ i, i < n → f i = 0) → sm n f = 0
 | 0, _, _ => rfl
 | n + 1, f, h => by rw [sm, sm_zero (n := n) fun i hi => h i (by omega), h n (by omega)]; rfl
theorem sm_add : ∀ (n : Nat) (f g : Nat → Int), sm n (fun i => f i + g i) = sm n f + sm n g
 | 0, _, _ => rfl
 | n + 1, f, g => by simp only [sm]; rw [sm_add n f g]; omega
theorem sm_mul : ∀ (n : Nat) (k : Int) (f : Nat → Int), sm n (fun i => k * f i) = k * sm n f
 | 0, _, _ => by simp [sm]
 | n + 1, k, f => by simp only [sm]; rw [sm_mul n k f, Int.mul_add]
theorem sm_one : ∀ {n k : Nat} {f : Nat → Int}, k < n → (∀ i, i < n → i ≠ k → f i = 0) → sm n f = f k
 | n + 1, k, f, hk, h => by
  rw [sm]
  by_cases e : k = n
  ·subst e; rw [sm_zero fun i hi => h i (by omega) (by omega), Int.zero_add]
  ·rw [sm_one (n := n) (k := k) (by omega) fun i hi he => h i (by omega) he, h n (by omega) (fun e' => e e'.symm), Int.add_zero]
abbrev g2 (L : List (List Int)) (i j : Nat) : Int := (L.getD i default).getD j 0
/-- v is a sum of multiples of the rows of L, modulo p. -/
def Sp (p : Int) (L : List (List Int)) (v : Nat → Int) : Prop := ∃ c : Nat → Int, ∀ j, Cg p (v j) (sm L.length fun i => c i * g2 L i j)
theorem Sp.row {p : Int} {L : List (List Int)} {i : Nat} (hi : i < L.length) : Sp p L (g2 L i) :=
 ⟨fun k => if k = i then 1 else 0, fun j => by
  rw [sm_one (k := i) hi (fun k _ hk => by simp [hk])]
  simp only [if_true, Int.one_mul]; exact Cg.refl _⟩
theorem Sp.zero {p : Int} {L : List (List Int)} : Sp p L fun _ => 0 := ⟨fun _ => 0, fun j => by rw [sm_zero fun i _ => Int.zero_mul _]; exact Cg.refl _⟩
theorem Sp.add {p : Int} {L : List (List Int)} {v w : Nat → Int} : Sp p L v → Sp p L w → Sp p L fun j => v j + w j
 | ⟨c, hc⟩, ⟨d, hd⟩ => ⟨fun i => c i + d i, fun j => by
  rw [show (fun i => (c i + d i) * g2 L i j) = fun i => c i * g2 L i j + d i * g2 L i j from funext fun i => Int.add_mul _ _ _, sm_add]
  exact (hc j).add (hd j)⟩
theorem Sp.mul {p : Int} {L : List (List Int)} {v : Nat → Int} (k : Int) : Sp p L v → Sp p L fun j => k * v j
 | ⟨c, hc⟩ => ⟨fun i => k * c i, fun j => by
  rw [show (fun i => k * c i * g2 L i j) = fun i => k * (c i * g2 L i j) from funext fun i => Int.mul_assoc _ _ _, sm_mul]
  exact (Cg.refl k).mul (hc j)⟩
theorem Sp.cg {p : Int} {L : List (List Int)} {v w : Nat → Int} (h : ∀ j, Cg p (w j) (v j)) : Sp p L v → Sp p L w
 | ⟨c, hc⟩ => ⟨c, fun j => (h j).trans (hc j)⟩
theorem Sp.sub {p : Int} {L : List (List Int)} {v w : Nat → Int} (k : Int) (h1 : Sp p L v) (h2 : Sp p L w) : Sp p L fun j => v j - k * w j :=
 (h1.add (h2.mul (-k))).cg fun j => Cg.of_eq (by rw [Int.neg_mul]; omega)
/-- All rows of A are in the span of B. -/
def Le (p : Int) (A B : List (List Int)) : Prop := ∀ i, i < A.length → Sp p B (g2 A i)
theorem Sp.sm {p : Int} {B : List (List Int)} {v : Nat → Nat → Int} : ∀ {n : Nat} (_ : ∀ i, i < n → Sp p B (v i)) (c : Nat → Int), Sp p B fun j => sm n fun i => c i * v i j
 | 0, _, _ => Sp.zero
 | n + 1, h, c => (Sp.sm (n := n) (fun i hi => h i (by omega)) c).add ((h n (by omega)).mul (c n))
theorem Sp.le {p : Int} {A B : List (List Int)} {v : Nat → Int} (h : Le p A B) : Sp p A v → Sp p B v
 | ⟨c, hc⟩ => (Sp.sm h c).cg hc
theorem Le.refl {p : Int} {A : List (List Int)} : Le p A A := fun _ hi => Sp.row hi
theorem Le.trans {p : Int} {A B C : List (List Int)} (h : Le p A B) (k : Le p B C) : Le p A C := fun i hi => (h i hi).le k
def Eqv (p : Int) (A B : List (List Int)) : Prop := Le p A B ∧ Le p B A
theorem Eqv.refl {p : Int} {A : List (List Int)} : Eqv p A A := ⟨Le.refl, Le.refl⟩
theorem Eqv.symm {p : Int} {A B : List (List Int)} (h : Eqv p A B) : Eqv p B A := ⟨h.2, h.1⟩
theorem Eqv.trans {p : Int} {A B C : List (List Int)} (h : Eqv p A B) (k : Eqv p B C) : Eqv p A C := ⟨h.1.trans k.1, k.2.trans h.2⟩
/-- L is reduced: its rows begin with a 1 at the places l, from left to right, and have 0 at the others' places. -/
structure Rr (p : Int) (w : Nat) (L : List (List Int)) (l : Nat → Nat) : Prop where
 len : ∀ i, i < L.length → (L.getD i default).length = w
 bnd : ∀ i, i < L.length → Bnd p (L.getD i default)
 lt : ∀ i, i < L.length → l i < w
 one : ∀ i, i < L.length → g2 L i (l i) = 1
 zb : ∀ i j, i < L.length → j < l i → g2 L i j = 0
 inc : ∀ i k, i < k → k < L.length → l i < l k
 cl : ∀ i k, i < L.length → k < L.length → k ≠ i → g2 L k (l i) = 0
theorem g2_out {L : List (List Int)} {i j : Nat} (h : (L.getD i default).length ≤ j) : g2 L i j = 0 := by
 rw [g2, List.getD_eq_getElem?_getD, List.getElem?_eq_none h]; rfl
theorem Rr.coef {p : Int} {w : Nat} {L : List (List Int)} {l : Nat → Nat} (r : Rr p w L l) {v : Nat → Int} : Sp p L v → ∀ j, Cg p (v j) (sm L.length fun i => v (l i) * g2 L i j)
 | ⟨c, hc⟩ => fun j => (hc j).trans (sm_cg fun i hi => Cg.mul (Cg.symm ((hc (l i)).trans (Cg.of_eq (by
  rw [sm_one (k := i) hi (fun k hk he => by rw [r.cl i k hi hk he, Int.mul_zero]), r.one i hi, Int.mul_one])))) (Cg.refl _))
theorem Rr.lead_mem {p : Int} (hp : 1 < p) {w : Nat} {L : List (List Int)} {l : Nat → Nat} (r : Rr p w L l) {v : Nat → Int} (hv : Sp p L v) {m : Nat} (h1 : ¬ Cg p (v m) 0) (h0 : ∀ j, j < m → Cg p (v j) 0) : ∃ i, i < L.length ∧ l i = m := by
 have hc := r.coef hv
 -- the first place at which v is not 0
 have key : ∀ n, n ≤ L.length → (∀ i, i < n → Cg p (v (l i)) 0) ∨ ∃ i, i < n ∧ ¬ Cg p (v (l i)) 0 ∧ ∀ q, q < i → Cg p (v (l q)) 0 := by
  intro n
  induction n with
  | zero => intro _; exact .inl fun i hi => by omega
  | succ n ih =>
   intro hn
   rcases ih (by omega) with h | ⟨i, hi, h⟩
   ·by_cases e : Cg p (v (l n)) 0
    ·exact .inl fun i hi => by
      rcases Nat.lt_succ_iff_lt_or_eq.1 hi with h' | h'
      ·exact h i h'
      ·rw [h']; exact e
    ·exact .inr ⟨n, by omega, e, h⟩
   ·exact .inr ⟨i, by omega, h⟩
 rcases key L.length (Nat.le_refl _) with h | ⟨i, hi, h2, h3⟩
 ·exact absurd ((hc m).trans ((sm_cg fun i hi => ((h i hi).mul (Cg.refl _)).trans (Cg.of_eq (Int.zero_mul _))).trans (Cg.of_eq (sm_zero (n := L.length) (f := fun _ => 0) fun _ _ => rfl)))) h1
 ·refine ⟨i, hi, ?_⟩
  have a : ¬ l i < m := fun hlt => h2 (h0 _ hlt)
  have b : ¬ m < l i := fun hlt => h1 ((hc m).trans ((sm_cg (g := fun _ => 0) fun q hq => by
   rcases Nat.lt_or_ge q i with hqi | hqi
   ·exact ((h3 q hqi).mul (Cg.refl _)).trans (Cg.of_eq (Int.zero_mul _))
   ·have : l i ≤ l q := by
     rcases Nat.lt_or_eq_of_le hqi with h' | h'
     ·exact Nat.le_of_lt (r.inc i q h' hq)
     ·rw [h']; exact Nat.le_refl _
    rw [r.zb q m hq (by omega), Int.mul_zero]; exact Cg.refl _).trans (Cg.of_eq (sm_zero fun _ _ => rfl))))
  omega
theorem not_cg_one {p : Int} (hp : 1 < p) : ¬ Cg p 1 0 := by
 unfold Cg; rw [Int.emod_eq_of_lt (by omega) hp, Int.zero_emod]; decide
theorem Rr.leads_in {p : Int} (hp : 1 < p) {w : Nat} {L M : List (List Int)} {l m : Nat → Nat} (r : Rr p w L l) {w' : Nat} (s : Rr p w' M m) (h : Le p M L) {k : Nat} (hk : k < M.length) : ∃ i, i < L.length ∧ l i = m k :=
 r.lead_mem hp (h k hk) (by rw [s.one k hk]; exact not_cg_one hp) (fun j hj => by rw [s.zb k j hk hj]; exact Cg.refl _)
/-- Two lists of places, each from left to right, with the same places. -/
theorem places_eq {a b : Nat} {l m : Nat → Nat} (hl : ∀ i k, i < k → k < a → l i < l k) (hm : ∀ i k, i < k → k < b → m i < m k) (h1 : ∀ k, k < a → ∃ i, i < b ∧ m i = l k) (h2 : ∀ k, k < b → ∃ i, i < a ∧ l i = m k) : ∀ k, k < a → k < b ∧ m k = l k := by
 intro k
 induction k using Nat.strongRecOn with
 | _ k ih =>
  intro hk
  obtain ⟨q, hq, eq⟩ := h1 k hk
  have hqk : k ≤ q := Nat.le_of_not_lt fun hlt => by
   have := (ih q hlt (by omega)).2
   have := hl q k hlt hk
   omega
  have hkb : k < b := by omega
  obtain ⟨i, hi, ei⟩ := h2 k hkb
  have hik : k ≤ i := Nat.le_of_not_lt fun hlt => by
   have := (ih i hlt (by omega)).2
   have := hm i k hlt hkb
   omega
  have x : l k ≤ l i := by
   rcases Nat.lt_or_eq_of_le hik with h' | h'
   ·exact Nat.le_of_lt (hl k i h' hi)
   ·rw [h']; exact Nat.le_refl _
  have y : m k ≤ m q := by
   rcases Nat.lt_or_eq_of_le hqk with h' | h'
   ·exact Nat.le_of_lt (hm k q h' hq)
   ·rw [h']; exact Nat.le_refl _
  exact ⟨hkb, by omega⟩
theorem rows_ext {A B : List (List Int)} (hl : A.length = B.length) (hr : ∀ i, i < A.length → (A.getD i default).length = (B.getD i default).length) (h : ∀ i j, i < A.length → j < (A.getD i default).length → g2 A i j = g2 B i j) : A = B := by
 apply List.ext_getElem hl
 intro i h1 h2
 have e1 : A.getD i default = A[i] := by rw [List.getD_eq_getElem?_getD, List.getElem?_eq_getElem h1]; rfl
 have e2 : B.getD i default = B[i] := by rw [List.getD_eq_getElem?_getD, List.getElem?_eq_getElem h2]; rfl
 have hri := hr i h1
 have hi := h i
 simp only [g2] at hi
 rw [e1, e2] at hri hi
 apply List.ext_getElem hri
 intro j k1 k2
 have := hi j h1 k1
 rwa [List.getD_eq_getElem?_getD, List.getD_eq_getElem?_getD, List.getElem?_eq_getElem k1, List.getElem?_eq_getElem k2] at this
/-- With the same places, a reduced list in the span of another one is that one. -/
theorem Rr.same {p : Int} {w : Nat} {L M : List (List Int)} {l m : Nat → Nat} (r : Rr p w L l) (s : Rr p w M m) (hlen : L.length = M.length) (hlm : ∀ k, k < L.length → m k = l k) (h : Le p L M) : L = M := by
 refine rows_ext hlen (fun i hi => by rw [r.len i hi, s.len i (by omega)]) (fun i j hi hj => ?_)
 have hc := s.coef (h i hi) j
 have e : sm M.length (fun k => g2 L i (m k) * g2 M k j) = g2 M i j := by
  rw [sm_one (k := i) (by omega) (fun k hk he => by rw [hlm k (by omega), r.cl k i (by omega) hi (Ne.symm he), Int.zero_mul]), hlm i hi, r.one i hi, Int.one_mul]
 rw [e] at hc
 rw [r.len i hi] at hj
 exact hc.eq ((r.bnd i hi).at (by rw [r.len i hi]; exact hj)) ((s.bnd i (by omega)).at (by rw [s.len i (by omega)]; exact hj))
theorem Rr.unique {p : Int} (hp : 1 < p) {w : Nat} {L M : List (List Int)} {l m : Nat → Nat} (r : Rr p w L l) (s : Rr p w M m) (h : Eqv p L M) : L = M ∧ ∀ k, k < L.length → m k = l k := by
 have h1 := places_eq r.inc s.inc (fun k hk => s.leads_in hp r h.1 hk) (fun k hk => r.leads_in hp s h.2 hk)
 have h2 := places_eq s.inc r.inc (fun k hk => r.leads_in hp s h.2 hk) (fun k hk => s.leads_in hp r h.1 hk)
 have hlen : L.length = M.length := by
  apply Nat.le_antisymm
  ·apply Nat.le_of_not_lt; intro hlt; exact Nat.lt_irrefl _ (h1 M.length hlt).1
  ·apply Nat.le_of_not_lt; intro hlt; exact Nat.lt_irrefl _ (h2 L.length hlt).1
 exact ⟨r.same s hlen (fun k hk => (h1 k hk).2) h.1, fun k hk => (h1 k hk).2⟩
/-- The reduced list of the span of some rows. -/
def wd (rows : List (List Int)) : Nat := (rows.getD 0 default).length
def IsEch (p : Int) (rows L : List (List Int)) : Prop := (∃ l, Rr p (wd rows) L l) ∧ Eqv p L rows
noncomputable def ech (p : Int) (rows : List (List Int)) : List (List Int) := Classical.epsilon (IsEch p rows)
theorem Rr.nil {p : Int} {w : Nat} {l : Nat → Nat} : Rr p w [] l := ⟨fun i h => by simp at h, fun i h => by simp at h, fun i h => by simp at h, fun i h => by simp at h, fun i j h => by simp at h, fun i k _ h => by simp at h, fun i k h => by simp at h⟩
theorem ech_eq {p : Int} (hp : 1 < p) {rows L : List (List Int)} {w : Nat} {l : Nat → Nat} (r : Rr p w L l) (h : Eqv p L rows) (hw : rows ≠ [] → wd rows = w) : ech p rows = L := by
 have hL : IsEch p rows L := by
  refine ⟨⟨l, ?_⟩, h⟩
  by_cases e : rows = []
  ·subst e
   -- no row of L can be in the span of nothing
   have : L = [] := by
    cases L with
    | nil => rfl
    | cons a t =>
     obtain ⟨c, hc⟩ := h.1 0 (by simp)
     have := hc (l 0)
     rw [r.one 0 (by simp)] at this
     exact absurd this (not_cg_one hp)
   subst this; exact Rr.nil
  ·rw [hw e]; exact r
 have he : IsEch p rows (ech p rows) := Classical.epsilon_spec ⟨L, hL⟩
 obtain ⟨⟨l1, r1⟩, e1⟩ := hL
 obtain ⟨⟨l2, r2⟩, e2⟩ := he
 exact (r2.unique hp r1 (e2.trans e1.symm)).1
theorem lessRow_len (p k : Int) (a b : List Int) : (lessRow p k a b).length = a.length := by simp [lessRow]
theorem lessRow_get (p k : Int) {a b : List Int} {c : Nat} (h : c < a.length) : (lessRow p k a b).getD c 0 = (a.getD c 0 - k * b.getD c 0) % p := getD_map_range (α := Int) (fun q : Nat => (a.getD q 0 - k * b.getD q 0) % p) h
theorem getD_out {xs : List Int} {j : Nat} (h : xs.length ≤ j) : xs.getD j 0 = 0 := by rw [List.getD_eq_getElem?_getD, List.getElem?_eq_none h]; rfl
theorem lessRow_cg (p k : Int) {a b : List Int} (hl : b.length ≤ a.length) (j : Nat) : Cg p ((lessRow p k a b).getD j 0) (a.getD j 0 - k * b.getD j 0) := by
 rcases Nat.lt_or_ge j a.length with h | h
 ·rw [lessRow_get p k h]; exact Cg.mod _
 ·rw [getD_out (by rw [lessRow_len]; exact h), getD_out h, getD_out (by omega), Int.mul_zero]; exact Cg.refl _
theorem sclRow_cg (p k : Int) (r : List Int) (j : Nat) : Cg p ((sclRow p k r).getD j 0) (k * r.getD j 0) := by
 rcases Nat.lt_or_ge j r.length with h | h
 ·rw [sclR_get p k h]; exact Cg.mod _
 ·rw [getD_out (by rw [sclR_len]; exact h), getD_out h, Int.mul_zero]; exact Cg.refl _
theorem bnd_map {p : Int} (hp : 0 < p) (f : Nat → Int) (n : Nat) : Bnd p ((List.range n).map fun q => f q % p) := fun x hx => by
 obtain ⟨q, _, rfl⟩ := List.mem_map.1 hx
 exact ⟨Int.emod_nonneg _ (by omega), Int.emod_lt_of_pos _ hp⟩
theorem lessRow_bnd {p : Int} (hp : 0 < p) (k : Int) (a b : List Int) : Bnd p (lessRow p k a b) := bnd_map hp _ _
theorem sclRow_bnd {p : Int} (hp : 0 < p) (k : Int) (r : List Int) : Bnd p (sclRow p k r) := bnd_map hp _ _
theorem bnd_zero {p : Int} {v : List Int} (h : Bnd p v) {j : Nat} (e : Cg p (v.getD j 0) 0) : v.getD j 0 = 0 := by
 rcases Nat.lt_or_ge j v.length with hj | hj
 ·have := h.at hj
  exact e.eq this ⟨by omega, by omega⟩
 ·exact getD_out hj
/-- What is left of a row behind k rows of a list. -/
def restN (p : Int) (L : List (List Int)) (v : List Int) : Nat → List Int
 | 0 => v
 | k + 1 => lessRow p ((restN p L v k).getD (leadP (L.getD k default)).toNat 0) (restN p L v k) (L.getD k default)
def restP (p : Int) (L : List (List Int)) (v : List Int) : List Int := restN p L v L.length
theorem restN_len (p : Int) (L : List (List Int)) (v : List Int) : ∀ k, (restN p L v k).length = v.length
 | 0 => rfl
 | k + 1 => by rw [restN, lessRow_len, restN_len p L v k]
theorem restN_bnd {p : Int} (hp : 0 < p) {L : List (List Int)} {v : List Int} (hv : Bnd p v) : ∀ k, Bnd p (restN p L v k)
 | 0 => hv
 | k + 1 => lessRow_bnd hp _ _ _
theorem restP_len (p : Int) (L : List (List Int)) (v : List Int) : (restP p L v).length = v.length := restN_len p L v _
theorem restP_bnd {p : Int} (hp : 0 < p) {L : List (List Int)} {v : List Int} (hv : Bnd p v) : Bnd p (restP p L v) := restN_bnd hp hv _
section
variable {p : Int} {w : Nat} {L : List (List Int)} {l : Nat → Nat}
theorem Rr.lead (r : Rr p w L l) {i : Nat} (hi : i < L.length) : leadP (L.getD i default) = l i :=
 leadP_at (by rw [r.len i hi]; exact r.lt i hi) (fun j hj => r.zb i j hi hj) (by rw [show (L.getD i default).getD (l i) 0 = 1 from r.one i hi]; decide)
theorem restN_sub (r : Rr p w L l) {v : List Int} (hv : v.length = w) : ∀ k, k ≤ L.length → ∃ s, Sp p L s ∧ ∀ j, Cg p ((restN p L v k).getD j 0) (v.getD j 0 - s j)
 | 0, _ => ⟨fun _ => 0, Sp.zero, fun j => Cg.of_eq (Int.sub_zero _).symm⟩
 | k + 1, hk => by
  obtain ⟨s, hs, h⟩ := restN_sub r hv k (by omega)
  refine ⟨fun j => s j + ((restN p L v k).getD (leadP (L.getD k default)).toNat 0) * g2 L k j, hs.add ((Sp.row (by omega)).mul _), fun j => ?_⟩
  refine (lessRow_cg p _ (by rw [restN_len, hv, r.len k (by omega)]; exact Nat.le_refl _) j).trans (((h j).sub (Cg.refl _)).trans (Cg.of_eq ?_))
  show _ = v.getD j 0 - (s j + _ * (L.getD k default).getD j 0)
  omega
theorem restN_zero (r : Rr p w L l) {v : List Int} (hv : v.length = w) : ∀ k, k ≤ L.length → ∀ i, i < k → Cg p ((restN p L v k).getD (l i) 0) 0
 | k + 1, hk, i, hi => by
  refine (lessRow_cg p _ (by rw [restN_len, hv, r.len k (by omega)]; exact Nat.le_refl _) _).trans ?_
  rcases Nat.lt_succ_iff_lt_or_eq.1 hi with h | h
  ·rw [show (L.getD k default).getD (l i) 0 = 0 from r.cl i k (by omega) (by omega) (by omega), Int.mul_zero, Int.sub_zero]
   exact restN_zero r hv k (by omega) i h
  ·subst h
   rw [show (L.getD i default).getD (l i) 0 = 1 from r.one i (by omega), Int.mul_one, r.lead (by omega), Int.toNat_natCast, Int.sub_self]
   exact Cg.refl _
theorem restP_sub (r : Rr p w L l) {v : List Int} (hv : v.length = w) : ∃ s, Sp p L s ∧ ∀ j, Cg p ((restP p L v).getD j 0) (v.getD j 0 - s j) := restN_sub r hv _ (Nat.le_refl _)
theorem restP_zero (r : Rr p w L l) (hp : 0 < p) {v : List Int} (hv : v.length = w) (hb : Bnd p v) {i : Nat} (hi : i < L.length) : (restP p L v).getD (l i) 0 = 0 :=
 bnd_zero (restP_bnd hp hb) (restN_zero r hv _ (Nat.le_refl _) i hi)
/-- In the span of a reduced list, nothing but 0 has 0 at all its places. -/
theorem Rr.zero (r : Rr p w L l) {v : Nat → Int} (h : Sp p L v) (hz : ∀ i, i < L.length → Cg p (v (l i)) 0) (j : Nat) : Cg p (v j) 0 :=
 (r.coef h j).trans ((sm_cg (g := fun _ => 0) fun i hi => ((hz i hi).mul (Cg.refl _)).trans (Cg.of_eq (Int.zero_mul _))).trans (Cg.of_eq (sm_zero fun _ _ => rfl)))
theorem restP_iff (r : Rr p w L l) (hp : 0 < p) {v : List Int} (hv : v.length = w) (hb : Bnd p v) : (∀ j, (restP p L v).getD j 0 = 0) ↔ Sp p L fun j => v.getD j 0 := by
 obtain ⟨s, hs, h⟩ := restP_sub r hv
 constructor
 ·intro hz
  refine hs.cg fun j => ?_
  have := h j
  rw [hz j] at this
  have := (Cg.add this (Cg.refl (s j))).symm
  rwa [Int.zero_add, show v.getD j 0 - s j + s j = v.getD j 0 by omega] at this
 ·intro hsp j
  refine bnd_zero (restP_bnd hp hb) ?_
  have hd : Sp p L fun j => (restP p L v).getD j 0 := (hsp.sub 1 hs).cg fun j => (h j).trans (Cg.of_eq (by rw [Int.one_mul]))
  exact r.zero hd (fun i hi => by rw [restP_zero r hp hv hb hi]; exact Cg.refl _) j
end
-- ---- the inverse of a number
def invP (p x : Int) : Int := ((((List.range 7).find? fun k : Nat => decide (((k : Int) * x) % p = 1)).getD 0 : Nat) : Int)
theorem invP_ok {p x : Int} (hp : isP p = true) (h0 : 0 < x) (h1 : x < p) : (1 ≤ invP p x ∧ invP p x < p) ∧ (invP p x * x) % p = 1 ∧ ∀ k : Int, 1 ≤ k → k < invP p x → (k * x) % p ≠ 1 := by
 have h : p = 2 ∨ p = 3 ∨ p = 5 ∨ p = 7 := by
  simp only [isP, Bool.or_eq_true, beq_iff_eq] at hp; omega
 have key : ∀ p x : Fin 8, (p.val = 2 ∨ p.val = 3 ∨ p.val = 5 ∨ p.val = 7) → 0 < x.val → x.val < p.val → (1 ≤ invP p.val x.val ∧ invP p.val x.val < p.val) ∧ (invP p.val x.val * x.val) % (p.val : Int) = 1 ∧ ∀ k : Fin 8, 1 ≤ k.val → (k.val : Int) < invP p.val x.val → ((k.val : Int) * x.val) % (p.val : Int) ≠ 1 := by decide
 have k := key ⟨p.toNat, by omega⟩ ⟨x.toNat, by omega⟩ (by simp only; omega) (by simp only; omega) (by simp only; omega)
 simp only [show ((p.toNat : Nat) : Int) = p by omega, show ((x.toNat : Nat) : Int) = x by omega] at k
 refine ⟨k.1, k.2.1, fun q hq hl => ?_⟩
 have := k.2.2 ⟨q.toNat, by omega⟩ (by simp only; omega) (by simp only; omega)
 simpa only [show ((q.toNat : Nat) : Int) = q by omega] using this
theorem isP_two {p : Int} (h : isP p = true) : 1 < p ∧ p ≤ 7 := by
 simp only [isP, Bool.or_eq_true, beq_iff_eq] at h; omega
-- ---- the reference's list: one row more
def redR (p : Int) (own : List Int) (at_ : Nat) (r : List Int) : List Int := lessRow p (r.getD at_ 0) r own
/-- How many places of a list lie left of one. -/
def posP (L : List (List Int)) (at_ : Nat) : Nat := (L.filter fun r => decide (leadP r < at_)).length
def putP (p : Int) (L : List (List Int)) (own : List Int) (at_ pos : Nat) : List (List Int) := (L.take pos).map (redR p own at_) ++ own :: (L.drop pos).map (redR p own at_)
theorem Rr.tail {p : Int} {w : Nat} {a : List Int} {L : List (List Int)} {l : Nat → Nat} (r : Rr p w (a :: L) l) : Rr p w L fun i => l (i + 1) :=
 have e : ∀ i, (a :: L).getD (i + 1) default = L.getD i default := fun i => rfl
 ⟨fun i hi => r.len (i + 1) (by simpa using hi), fun i hi => r.bnd (i + 1) (by simpa using hi), fun i hi => r.lt (i + 1) (by simpa using hi), fun i hi => r.one (i + 1) (by simpa using hi), fun i j hi hj => r.zb (i + 1) j (by simpa using hi) hj, fun i k hik hk => r.inc (i + 1) (k + 1) (by omega) (by simpa using hk), fun i k hi hk hne => r.cl (i + 1) (k + 1) (by simpa using hi) (by simpa using hk) (by omega)⟩
theorem posP_ok {p : Int} {w at_ : Nat} : ∀ {L : List (List Int)} {l : Nat → Nat}, Rr p w L l → posP L at_ ≤ L.length ∧ (∀ i, i < posP L at_ → l i < at_) ∧ ∀ i, i < L.length → posP L at_ ≤ i → at_ ≤ l i
 | [], _, _ => ⟨by simp [posP], fun i hi => by simp [posP] at hi, fun i hi => by simp at hi⟩
 | a :: L, l, r => by
  have h0 : leadP a = l 0 := r.lead (i := 0) (by simp)
  obtain ⟨t1, t2, t3⟩ := posP_ok (at_ := at_) r.tail
  by_cases hc : l 0 < at_
  ·have e : posP (a :: L) at_ = posP L at_ + 1 := by simp [posP, h0, hc]
   rw [e]
   refine ⟨by simpa using t1, fun i hi => ?_, fun i hi hle => ?_⟩
   ·cases i with
    | zero => exact hc
    | succ i => exact t2 i (by omega)
   ·cases i with
    | zero => omega
    | succ i => exact t3 i (by simpa using hi) (by omega)
  ·have hz : posP L at_ = 0 := by
    apply Nat.eq_zero_of_not_pos
    intro hpos
    have a1 := t2 0 hpos
    have a2 := r.inc 0 1 (by omega) (by simp; omega)
    simp only [Nat.zero_add] at a1
    omega
   have e : posP (a :: L) at_ = 0 := by
    rw [← hz]; simp only [posP, List.filter_cons, h0]; rw [if_neg (by simpa using hc)]
   rw [e]
   refine ⟨Nat.zero_le _, fun i hi => by omega, fun i hi _ => ?_⟩
   rcases Nat.eq_zero_or_pos i with h | h
   ·rw [h]; omega
   ·have := r.inc 0 i h hi; omega
theorem putP_len {p : Int} {L : List (List Int)} {own : List Int} {at_ pos : Nat} (h : pos ≤ L.length) : (putP p L own at_ pos).length = L.length + 1 := by
 simp [putP]; omega
theorem putP_get {p : Int} {L : List (List Int)} {own : List Int} {at_ pos : Nat} (h : pos ≤ L.length) {i : Nat} (hi : i < L.length + 1) : (putP p L own at_ pos).getD i default = if i < pos then redR p own at_ (L.getD i default) else if i = pos then own else redR p own at_ (L.getD (i - 1) default) := by
 have hl : ((L.take pos).map (redR p own at_)).length = pos := by simp; omega
 rw [putP, List.getD_eq_getElem?_getD]
 by_cases h1 : i < pos
 ·rw [if_pos h1, List.getElem?_append_left (by omega), List.getElem?_map, List.getElem?_take, if_pos h1, List.getElem?_eq_getElem (by omega), List.getD_eq_getElem?_getD, List.getElem?_eq_getElem (by omega)]; rfl
 ·rw [if_neg h1, List.getElem?_append_right (by omega), hl]
  by_cases h2 : i = pos
  ·rw [if_pos h2, h2, Nat.sub_self]; rfl
  ·rw [if_neg h2]
   obtain ⟨q, rfl⟩ : ∃ q, i = pos + q + 1 := ⟨i - pos - 1, by omega⟩
   rw [show pos + q + 1 - pos = q + 1 by omega, show pos + q + 1 - 1 = pos + q by omega, List.getElem?_cons_succ, List.getElem?_map, List.getElem?_drop, List.getElem?_eq_getElem (by omega), List.getD_eq_getElem?_getD, List.getElem?_eq_getElem (by omega)]; rfl
section
variable {p : Int} {w : Nat} {L : List (List Int)} {l : Nat → Nat} {own : List Int} {at_ : Nat}
theorem redR_get {r : List Int} {j : Nat} (hj : j < r.length) : (redR p own at_ r).getD j 0 = (r.getD j 0 - r.getD at_ 0 * own.getD j 0) % p := lessRow_get p _ hj
structure OwnOk (p : Int) (w : Nat) (L : List (List Int)) (l : Nat → Nat) (own : List Int) (at_ : Nat) : Prop where
 len : own.length = w
 bnd : Bnd p own
 lt : at_ < w
 one : own.getD at_ 0 = 1
 zb : ∀ j, j < at_ → own.getD j 0 = 0
 cl : ∀ i, i < L.length → own.getD (l i) 0 = 0
theorem OwnOk.ne (o : OwnOk p w L l own at_) {i : Nat} (hi : i < L.length) : l i ≠ at_ := fun e => by
 have := o.cl i hi
 rw [e, o.one] at this; omega
theorem red_at (hp : 1 < p) (r : Rr p w L l) (o : OwnOk p w L l own at_) {i : Nat} (hi : i < L.length) : (redR p own at_ (L.getD i default)).getD at_ 0 = 0 := by
 rw [redR_get (by rw [r.len i hi]; exact o.lt), o.one, Int.mul_one, Int.sub_self, Int.zero_emod]
theorem red_lead (hp : 1 < p) (r : Rr p w L l) (o : OwnOk p w L l own at_) {i k : Nat} (hi : i < L.length) (hk : k < L.length) : (redR p own at_ (L.getD i default)).getD (l k) 0 = if k = i then 1 else 0 := by
 rw [redR_get (by rw [r.len i hi]; exact r.lt k hk), o.cl k hk, Int.mul_zero, Int.sub_zero]
 split
 ·rename_i e; subst e
  rw [show (L.getD k default).getD (l k) 0 = 1 from r.one k hk, Int.emod_eq_of_lt (by omega) hp]
 ·rename_i e
  rw [show (L.getD i default).getD (l k) 0 = 0 from r.cl k i hk hi (Ne.symm e), Int.zero_emod]
theorem red_zb (hp : 1 < p) (r : Rr p w L l) (o : OwnOk p w L l own at_) {i j : Nat} (hi : i < L.length) (hj : j < l i) : (redR p own at_ (L.getD i default)).getD j 0 = 0 := by
 have := r.lt i hi
 rw [redR_get (by rw [r.len i hi]; omega), show (L.getD i default).getD j 0 = 0 from r.zb i j hi hj]
 rcases Nat.lt_or_ge j at_ with h | h
 ·rw [o.zb j h, Int.mul_zero, Int.sub_self, Int.zero_emod]
 ·rw [show (L.getD i default).getD at_ 0 = 0 from r.zb i at_ hi (by omega), Int.zero_mul, Int.sub_self, Int.zero_emod]
theorem putP_rr (hp : 1 < p) (r : Rr p w L l) (o : OwnOk p w L l own at_) : Rr p w (putP p L own at_ (posP L at_)) fun i => if i < posP L at_ then l i else if i = posP L at_ then at_ else l (i - 1) := by
 obtain ⟨p1, p2, p3⟩ := posP_ok (at_ := at_) r
 have p3' : ∀ i, i < L.length → posP L at_ ≤ i → at_ < l i := fun i hi hle => by
  have := p3 i hi hle
  have := o.ne hi
  omega
 generalize posP L at_ = q at *
 have hl := putP_len (p := p) (own := own) (at_ := at_) p1
 have gt := fun {i : Nat} (hi : i < L.length + 1) => putP_get (p := p) (own := own) (at_ := at_) p1 hi
 have rl : ∀ i, i < L.length → (redR p own at_ (L.getD i default)).length = w := fun i hi => by rw [redR, lessRow_len, r.len i hi]
 refine ⟨fun i hi => ?_, fun i hi => ?_, fun i hi => ?_, fun i hi => ?_, fun i j hi hj => ?_, fun i k hik hk => ?_, fun i k hi hk hne => ?_⟩
 ·rw [hl] at hi
  rw [gt hi]
  split
  ·exact rl i (by omega)
  ·split
   ·exact o.len
   ·exact rl (i - 1) (by omega)
 ·rw [hl] at hi
  rw [gt hi]
  split
  ·exact lessRow_bnd (by omega) _ _ _
  ·split
   ·exact o.bnd
   ·exact lessRow_bnd (by omega) _ _ _
 ·rw [hl] at hi
  show (if i < q then l i else if i = q then at_ else l (i - 1)) < w
  split
  ·exact r.lt i (by omega)
  ·split
   ·exact o.lt
   ·exact r.lt (i - 1) (by omega)
 ·rw [hl] at hi
  rw [g2, gt hi]
  show _ = (1 : Int)
  by_cases h1 : i < q
  ·simp only [if_pos h1]
   rw [red_lead hp r o (by omega) (by omega), if_pos rfl]
  ·simp only [if_neg h1]
   by_cases h2 : i = q
   ·simp only [if_pos h2]; exact o.one
   ·simp only [if_neg h2]
    rw [red_lead hp r o (by omega) (by omega), if_pos rfl]
 ·rw [hl] at hi
  rw [g2, gt hi]
  by_cases h1 : i < q
  ·simp only [if_pos h1] at hj ⊢
   exact red_zb hp r o (by omega) hj
  ·simp only [if_neg h1] at hj ⊢
   by_cases h2 : i = q
   ·simp only [if_pos h2] at hj ⊢; exact o.zb j hj
   ·simp only [if_neg h2] at hj ⊢
    exact red_zb hp r o (by omega) hj
 ·rw [hl] at hk
  show (if i < q then l i else if i = q then at_ else l (i - 1)) < (if k < q then l k else if k = q then at_ else l (k - 1))
  by_cases h1 : i < q
  ·rw [if_pos h1]
   by_cases h2 : k < q
   ·rw [if_pos h2]; exact r.inc i k hik (by omega)
   ·rw [if_neg h2]
    by_cases h3 : k = q
    ·rw [if_pos h3]; exact p2 i h1
    ·rw [if_neg h3]
     have := p2 i h1
     have := p3' (k - 1) (by omega) (by omega)
     omega
  ·rw [if_neg h1]
   by_cases h2 : i = q
   ·rw [if_pos h2, if_neg (by omega), if_neg (by omega)]
    exact p3' (k - 1) (by omega) (by omega)
   ·rw [if_neg h2, if_neg (by omega), if_neg (by omega)]
    exact r.inc (i - 1) (k - 1) (by omega) (by omega)
 ·rw [hl] at hi hk
  rw [g2, gt hk]
  show _ = (0 : Int)
  by_cases h1 : k < q
  ·simp only [if_pos h1]
   by_cases h2 : i < q
   ·simp only [if_pos h2]; rw [red_lead hp r o (by omega) (by omega), if_neg (Ne.symm hne)]
   ·simp only [if_neg h2]
    by_cases h3 : i = q
    ·simp only [if_pos h3]; exact red_at hp r o (by omega)
    ·simp only [if_neg h3]; rw [red_lead hp r o (by omega) (by omega), if_neg (by omega)]
  ·simp only [if_neg h1]
   by_cases h2 : k = q
   ·simp only [if_pos h2]
    by_cases h3 : i < q
    ·simp only [if_pos h3]; exact o.cl i (by omega)
    ·simp only [if_neg h3, if_neg (show ¬ i = q by omega)]; exact o.cl (i - 1) (by omega)
   ·simp only [if_neg h2]
    by_cases h3 : i < q
    ·simp only [if_pos h3]; rw [red_lead hp r o (by omega) (by omega), if_neg (by omega)]
    ·simp only [if_neg h3]
     by_cases h4 : i = q
     ·simp only [if_pos h4]; exact red_at hp r o (by omega)
     ·simp only [if_neg h4]; rw [red_lead hp r o (by omega) (by omega), if_neg (by omega)]
theorem getD_app1 {α : Type} {L : List α} {row d : α} {i : Nat} (hi : i < L.length) : (L ++ [row]).getD i d = L.getD i d := by
 rw [List.getD_eq_getElem?_getD, List.getElem?_append_left hi, List.getD_eq_getElem?_getD]
theorem getD_app2 {α : Type} {L : List α} {row d : α} : (L ++ [row]).getD L.length d = row := by
 rw [List.getD_eq_getElem?_getD, List.getElem?_append_right (Nat.le_refl _), Nat.sub_self]; rfl
theorem Sp.at {L : List (List Int)} {i : Nat} {r : List Int} (hi : i < L.length) (e : L.getD i default = r) : Sp p L fun j => r.getD j 0 := by
 have := Sp.row (p := p) hi
 subst e; exact this
theorem Le.app1 {L : List (List Int)} {row : List Int} : Le p L (L ++ [row]) := fun i hi => Sp.at (by simp; omega) (getD_app1 hi)
theorem Sp.last {L : List (List Int)} {row : List Int} : Sp p (L ++ [row]) fun j => row.getD j 0 := Sp.at (by simp) getD_app2
theorem Le.snoc {L M : List (List Int)} {row : List Int} (h : Le p L M) (k : Sp p M fun j => row.getD j 0) : Le p (L ++ [row]) M := fun i hi => by
 rw [List.length_append, List.length_singleton] at hi
 rcases Nat.lt_succ_iff_lt_or_eq.1 hi with h' | h'
 ·have := h i h'
  unfold g2 at *
  rwa [getD_app1 h']
 ·subst h'
  show Sp p M fun j => ((L ++ [row]).getD L.length default).getD j 0
  rwa [getD_app2]
theorem Eqv.snoc {L M : List (List Int)} {row : List Int} (h : Eqv p L M) : Eqv p (L ++ [row]) (M ++ [row]) :=
 ⟨Le.snoc (h.1.trans Le.app1) Sp.last, Le.snoc (h.2.trans Le.app1) Sp.last⟩
theorem putP_eqv (r : Rr p w L l) (ol : own.length = w) {q : Nat} (hq : q ≤ L.length) {row : List Int} (h1 : Sp p (L ++ [row]) fun j => own.getD j 0) {k : Int} {s : Nat → Int} (hs : Sp p L s) (h2 : ∀ j, Cg p (row.getD j 0) (k * own.getD j 0 + s j)) : Eqv p (putP p L own at_ q) (L ++ [row]) := by
 have hl := putP_len (p := p) (own := own) (at_ := at_) hq
 have gt := fun {i : Nat} (hi : i < L.length + 1) => putP_get (p := p) (own := own) (at_ := at_) hq hi
 have cg : ∀ i, i < L.length → ∀ j, Cg p ((redR p own at_ (L.getD i default)).getD j 0) (g2 L i j - g2 L i at_ * own.getD j 0) := fun i hi j => lessRow_cg p _ (by rw [ol, r.len i hi]; exact Nat.le_refl _) j
 have a1 : ∀ i, i < L.length → Sp p (L ++ [row]) fun j => (redR p own at_ (L.getD i default)).getD j 0 := fun i hi => ((Le.app1 i hi).sub (g2 L i at_) h1).cg (cg i hi)
 have o1 : Sp p (putP p L own at_ q) fun j => own.getD j 0 := Sp.at (i := q) (by rw [hl]; omega) (by rw [gt (by omega), if_neg (by omega), if_pos rfl])
 have b1 : ∀ i, i < L.length → Sp p (putP p L own at_ q) fun j => (redR p own at_ (L.getD i default)).getD j 0 := fun i hi => by
  by_cases h : i < q
  ·exact Sp.at (i := i) (by rw [hl]; omega) (by rw [gt (by omega), if_pos h])
  ·exact Sp.at (i := i + 1) (by rw [hl]; omega) (by rw [gt (by omega), if_neg (by omega), if_neg (by omega), Nat.add_sub_cancel])
 have b2 : Le p L (putP p L own at_ q) := fun i hi => ((b1 i hi).add (o1.mul (g2 L i at_))).cg fun j => ((Cg.add (cg i hi j) (Cg.refl _)).trans (Cg.of_eq (by omega))).symm
 refine ⟨fun i hi => ?_, Le.snoc b2 (((o1.mul k).add (hs.le b2)).cg h2)⟩
 rw [hl] at hi
 unfold g2
 rw [gt hi]
 split
 ·exact a1 i (by omega)
 ·split
  ·exact h1
  ·exact a1 (i - 1) (by omega)
theorem lead_cases (xs : List Int) : (leadP xs = -1 ∧ ∀ j, xs.getD j 0 = 0) ∨ ∃ k : Nat, k < xs.length ∧ leadP xs = k ∧ (∀ j, j < k → xs.getD j 0 = 0) ∧ xs.getD k 0 ≠ 0 := by
 have key : ∀ n, n ≤ xs.length → (∀ j, j < n → xs.getD j 0 = 0) ∨ ∃ k : Nat, k < n ∧ (∀ j, j < k → xs.getD j 0 = 0) ∧ xs.getD k 0 ≠ 0 := by
  intro n
  induction n with
  | zero => intro _; exact .inl fun j hj => by omega
  | succ n ih =>
   intro hn
   rcases ih (by omega) with h | ⟨k, hk, h⟩
   ·by_cases e : xs.getD n 0 = 0
    ·exact .inl fun j hj => by
      rcases Nat.lt_succ_iff_lt_or_eq.1 hj with h' | h'
      ·exact h j h'
      ·rw [h']; exact e
    ·exact .inr ⟨n, by omega, h, e⟩
   ·exact .inr ⟨k, by omega, h⟩
 rcases key xs.length (Nat.le_refl _) with h | ⟨k, hk, h1, h2⟩
 ·refine .inl ⟨leadP_all (zeros_all h), fun j => ?_⟩
  rcases Nat.lt_or_ge j xs.length with h' | h'
  ·exact h j h'
  ·exact getD_out h'
 ·exact .inr ⟨k, hk, leadP_at hk h1 h2, h1, h2⟩
/-- So far, a list is the reduced one of some rows. -/
def Red (p : Int) (w : Nat) (L rows : List (List Int)) : Prop := (∃ l, Rr p w L l) ∧ Eqv p L rows
theorem Red.nil : Red p w [] [] := ⟨⟨fun i => i, Rr.nil⟩, Eqv.refl⟩
/-- The row that comes to a list: what is left of it, begun with a 1. -/
def ownP (p : Int) (L : List (List Int)) (row : List Int) : List Int := sclRow p (invP p ((restP p L row).getD (leadP (restP p L row)).toNat 0)) (restP p L row)
theorem Red.skip {L rows : List (List Int)} {row : List Int} (h : Red p w L rows) (hp : 1 < p) (hl : row.length = w) (hb : Bnd p row) (hz : leadP (restP p L row) < 0) : Red p w L (rows ++ [row]) := by
 obtain ⟨⟨l, r⟩, e⟩ := h
 refine ⟨⟨l, r⟩, Eqv.trans ?_ e.snoc⟩
 rcases lead_cases (restP p L row) with ⟨_, h0⟩ | ⟨k, _, h1, _⟩
 ·exact ⟨Le.app1, Le.snoc Le.refl ((restP_iff r (by omega) hl hb).1 h0)⟩
 ·omega
theorem ownP_ok (hP : isP p = true) (r : Rr p w L l) {row : List Int} (hl : row.length = w) (hb : Bnd p row) {k : Nat} (hk : leadP (restP p L row) = k) : OwnOk p w L l (ownP p L row) k ∧ (Sp p (L ++ [row]) fun j => (ownP p L row).getD j 0) ∧ ∃ c s, Sp p L s ∧ ∀ j, Cg p (row.getD j 0) (c * (ownP p L row).getD j 0 + s j) := by
 have hp := isP_two hP
 have rl := restP_len p L row
 have rb := restP_bnd (p := p) (L := L) (by omega) hb
 have rz : ∀ i, i < L.length → (restP p L row).getD (l i) 0 = 0 := fun i hi => restP_zero r (by omega) hl hb hi
 obtain ⟨s, hs, hc⟩ := restP_sub r hl
 rcases lead_cases (restP p L row) with ⟨h0, _⟩ | ⟨k', hk', h1, h2, h3⟩
 ·omega
 ·obtain rfl : k = k' := by omega
  have hx := rb.at hk'
  obtain ⟨i1, i2, _⟩ := invP_ok hP (x := (restP p L row).getD k 0) (by omega) hx.2
  have og : ∀ j, j < w → (ownP p L row).getD j 0 = (invP p ((restP p L row).getD k 0) * (restP p L row).getD j 0) % p := fun j hj => by
   rw [ownP, h1, Int.toNat_natCast, sclR_get _ _ (by rw [rl, hl]; exact hj)]
  have ocg : ∀ j, Cg p ((ownP p L row).getD j 0) (invP p ((restP p L row).getD k 0) * (restP p L row).getD j 0) := fun j => by
   rw [ownP, h1, Int.toNat_natCast]; exact sclRow_cg _ _ _ j
  have own_ok : OwnOk p w L l (ownP p L row) k := ⟨by rw [ownP, sclR_len, rl, hl], sclRow_bnd (by omega) _ _, by omega, by rw [og k (by omega)]; exact i2, fun j hj => by rw [og j (by omega), h2 j hj, Int.mul_zero, Int.zero_emod], fun i hi => by rw [og _ (r.lt i hi), rz i hi, Int.mul_zero, Int.zero_emod]⟩
  refine ⟨own_ok, ?_, (restP p L row).getD k 0, s, hs, fun j => ?_⟩
  ·have : Sp p (L ++ [row]) fun j => (restP p L row).getD j 0 := ((Sp.last (p := p) (L := L) (row := row)).sub 1 (hs.le Le.app1)).cg fun j => (hc j).trans (Cg.of_eq (by rw [Int.one_mul]))
   exact (this.mul _).cg ocg
  ·have a := hc j
   have b : Cg p (row.getD j 0) ((restP p L row).getD j 0 + s j) := ((Cg.add a (Cg.refl (s j))).trans (Cg.of_eq (by omega))).symm
   refine b.trans (Cg.add ?_ (Cg.refl _))
   have c : Cg p ((restP p L row).getD k 0 * (ownP p L row).getD j 0) ((restP p L row).getD k 0 * (invP p ((restP p L row).getD k 0) * (restP p L row).getD j 0)) := (Cg.refl _).mul (ocg j)
   have d : Cg p (invP p ((restP p L row).getD k 0) * (restP p L row).getD k 0) 1 := by
    show _ % p = 1 % p
    rw [i2, Int.emod_eq_of_lt (by omega) hp.1]
   have e : Cg p ((restP p L row).getD k 0 * (invP p ((restP p L row).getD k 0) * (restP p L row).getD j 0)) ((restP p L row).getD j 0) := by
    refine Cg.trans (Cg.of_eq ?_) ((d.mul (Cg.refl ((restP p L row).getD j 0))).trans (Cg.of_eq (Int.one_mul _)))
    rw [← Int.mul_assoc, Int.mul_comm ((restP p L row).getD k 0)]
   exact (c.trans e).symm
theorem Red.put {L rows : List (List Int)} {row : List Int} (h : Red p w L rows) (hP : isP p = true) (hl : row.length = w) (hb : Bnd p row) {k : Nat} (hk : leadP (restP p L row) = k) : Red p w (putP p L (ownP p L row) k (posP L k)) (rows ++ [row]) := by
 obtain ⟨⟨l, r⟩, e⟩ := h
 obtain ⟨o, h1, c, s, hs, h2⟩ := ownP_ok hP r hl hb hk
 exact ⟨⟨_, putP_rr (isP_two hP).1 r o⟩, (putP_eqv r o.len (posP_ok r).1 h1 hs h2).trans e.snoc⟩
theorem take_snoc {rows : List (List Int)} {n : Nat} (hn : n < rows.length) : rows.take (n + 1) = rows.take n ++ [rows.getD n default] := by
 rw [List.take_succ_eq_append_getElem hn, List.getD_eq_getElem?_getD, List.getElem?_eq_getElem hn]; rfl
theorem Red.exists (hP : isP p = true) {rows : List (List Int)} (h : ∀ r ∈ rows, r.length = w ∧ Bnd p r) : ∀ n, n ≤ rows.length → ∃ L, Red p w L (rows.take n)
 | 0, _ => ⟨[], by rw [List.take_zero]; exact Red.nil⟩
 | n + 1, hn => by
  obtain ⟨L, hL⟩ := Red.exists hP h n (by omega)
  have hr := h (rows.getD n default) (by rw [List.getD_eq_getElem?_getD, List.getElem?_eq_getElem hn]; exact List.getElem_mem hn)
  rw [take_snoc hn]
  rcases lead_cases (restP p L (rows.getD n default)) with ⟨h0, _⟩ | ⟨k, _, h1, _⟩
  ·exact ⟨L, hL.skip (isP_two hP).1 hr.1 hr.2 (by omega)⟩
  ·exact ⟨_, hL.put hP hr.1 hr.2 h1⟩
theorem wd_ok {rows : List (List Int)} (h : ∀ r ∈ rows, r.length = w ∧ Bnd p r) (hn : rows ≠ []) : wd rows = w := by
 cases rows with
 | nil => exact absurd rfl hn
 | cons a t => exact (h a (by simp)).1
theorem Red.ech (hP : isP p = true) {L rows : List (List Int)} (h : ∀ r ∈ rows, r.length = w ∧ Bnd p r) (hL : Red p w L rows) : ech p rows = L := by
 obtain ⟨⟨l, r⟩, e⟩ := hL
 exact ech_eq (isP_two hP).1 r e (wd_ok h)
theorem ech_red (hP : isP p = true) {rows : List (List Int)} (h : ∀ r ∈ rows, r.length = w ∧ Bnd p r) : Red p w (ech p rows) rows := by
 obtain ⟨L, hL⟩ := Red.exists hP h rows.length (Nat.le_refl _)
 rw [List.take_length] at hL
 rw [hL.ech hP h]; exact hL
/-- A reduced list is its own. -/
theorem Rr.self (hP : isP p = true) (r : Rr p w L l) : ech p L = L := by
 refine Red.ech hP (w := w) (fun x hx => ?_) ⟨⟨l, r⟩, Eqv.refl⟩
 obtain ⟨i, hi, rfl⟩ := List.getElem_of_mem hx
 have a := r.len i hi
 have b := r.bnd i hi
 rw [List.getD_eq_getElem?_getD, List.getElem?_eq_getElem hi] at a b
 exact ⟨a, b⟩
theorem Rr.le_w (r : Rr p w L l) : L.length ≤ w := by
 have key : ∀ i, i < L.length → i ≤ l i := by
  intro i
  induction i with
  | zero => intro _; exact Nat.zero_le _
  | succ i ih => intro hi; have := ih (by omega); have := r.inc i (i + 1) (by omega) hi; omega
 rcases Nat.eq_zero_or_pos L.length with h | h
 ·omega
 ·have := key (L.length - 1) (by omega)
  have := r.lt (L.length - 1) (by omega)
  omega
end
def swapP {α : Type} [Inhabited α] (M : List α) (d a : Nat) : List α := (M.set d (M.getD a default)).set a (M.getD d default)
theorem swapP_len {α : Type} [Inhabited α] (M : List α) (d a : Nat) : (swapP M d a).length = M.length := by simp [swapP]
theorem swapP_get {α : Type} [Inhabited α] {M : List α} {d a : Nat} (hd : d < M.length) (ha : a < M.length) (i : Nat) : (swapP M d a).getD i default = if a = i then M.getD d default else if d = i then M.getD a default else M.getD i default := by
 rw [swapP, getD_set (by rw [List.length_set]; exact ha)]
 split
 ·rfl
 ·rw [getD_set hd]
def clrP (p : Int) (d c : Nat) (M : List (List Int)) (n : Nat) : List (List Int) := (List.range M.length).map fun i => if i < n ∧ i ≠ d then lessRow p (g2 M i c) (M.getD i default) (M.getD d default) else M.getD i default
theorem clrP_len (p : Int) (d c : Nat) (M : List (List Int)) (n : Nat) : (clrP p d c M n).length = M.length := by simp [clrP]
theorem clrP_get {p : Int} {d c : Nat} {M : List (List Int)} {n i : Nat} (hi : i < M.length) : (clrP p d c M n).getD i default = if i < n ∧ i ≠ d then lessRow p (g2 M i c) (M.getD i default) (M.getD d default) else M.getD i default := getD_map_range (α := List Int) (fun i : Nat => if i < n ∧ i ≠ d then lessRow p (g2 M i c) (M.getD i default) (M.getD d default) else M.getD i default) hi
section
variable {p : Int} {w : Nat} {rows M : List (List Int)} {l : Nat → Nat} {d c : Nat}
/-- The program's reduction behind c columns, of which d have brought a row. -/
structure RI (p : Int) (w : Nat) (rows M : List (List Int)) (l : Nat → Nat) (d c : Nat) : Prop where
 ln : M.length = rows.length
 len : ∀ i, i < M.length → (M.getD i default).length = w
 bnd : ∀ i, i < M.length → Bnd p (M.getD i default)
 eqv : Eqv p M rows
 dl : d ≤ M.length
 lt : ∀ i, i < d → l i < c
 one : ∀ i, i < d → g2 M i (l i) = 1
 zb : ∀ i j, i < d → j < l i → g2 M i j = 0
 inc : ∀ i k, i < k → k < d → l i < l k
 cl : ∀ i k, i < d → k < M.length → k ≠ i → g2 M k (l i) = 0
 nul : ∀ k j, d ≤ k → k < M.length → j < c → g2 M k j = 0
theorem RI.start (h : ∀ r ∈ rows, r.length = w ∧ Bnd p r) : RI p w rows rows l 0 0 := by
 have at_ : ∀ i, i < rows.length → (rows.getD i default).length = w ∧ Bnd p (rows.getD i default) := fun i hi => h _ (by rw [List.getD_eq_getElem?_getD, List.getElem?_eq_getElem hi]; exact List.getElem_mem hi)
 exact ⟨rfl, fun i hi => (at_ i hi).1, fun i hi => (at_ i hi).2, Eqv.refl, Nat.zero_le _, fun i hi => by omega, fun i hi => by omega, fun i j hi => by omega, fun i k _ hk => by omega, fun i k hi => by omega, fun k j _ _ hj => by omega⟩
theorem RI.skip (r : RI p w rows M l d c) (h : ∀ k, d ≤ k → k < M.length → g2 M k c = 0) : RI p w rows M l d (c + 1) :=
 ⟨r.ln, r.len, r.bnd, r.eqv, r.dl, fun i hi => Nat.lt_succ_of_lt (r.lt i hi), r.one, r.zb, r.inc, r.cl, fun k j h1 h2 hj => by
  rcases Nat.lt_succ_iff_lt_or_eq.1 hj with h' | h'
  ·exact r.nul k j h1 h2 h'
  ·rw [h']; exact h k h1 h2⟩
theorem RI.swap (r : RI p w rows M l d c) {a : Nat} (hd : d ≤ a) (ha : a < M.length) : RI p w rows (swapP M d a) l d c := by
 have hdm : d < M.length := by omega
 have gt := swapP_get hdm ha
 have pm : ∀ i, i < M.length → ∃ k, k < M.length ∧ (swapP M d a).getD i default = M.getD k default ∧ (i < d → k = i) ∧ (d ≤ i → d ≤ k) ∧ ∀ q, q < d → (i ≠ q → k ≠ q) := fun i hi => by
  rw [gt i]
  split
  ·exact ⟨d, hdm, rfl, by omega, by omega, by omega⟩
  ·split
   ·exact ⟨a, ha, rfl, by omega, by omega, by omega⟩
   ·exact ⟨i, hi, rfl, fun _ => rfl, fun h => h, fun q _ h => h⟩
 have hl := swapP_len M d a
 have gs : ∀ i, i < M.length → ∃ k, k < M.length ∧ (∀ j, g2 (swapP M d a) i j = g2 M k j) ∧ (i < d → k = i) ∧ (d ≤ i → d ≤ k) ∧ ∀ q, q < d → (i ≠ q → k ≠ q) := fun i hi => by
  obtain ⟨k, h1, h2, h3⟩ := pm i hi
  exact ⟨k, h1, fun j => by rw [g2, h2], h3⟩
 refine ⟨by rw [hl]; exact r.ln, fun i hi => ?_, fun i hi => ?_, ⟨fun i hi => ?_, fun i hi => ?_⟩, by rw [hl]; exact r.dl, r.lt, fun i hi => ?_, fun i j hi hj => ?_, r.inc, fun i k hi hk hne => ?_, fun k j h1 h2 hj => ?_⟩
 ·rw [hl] at hi; obtain ⟨k, h1, h2, _⟩ := pm i hi; rw [h2]; exact r.len k h1
 ·rw [hl] at hi; obtain ⟨k, h1, h2, _⟩ := pm i hi; rw [h2]; exact r.bnd k h1
 ·rw [hl] at hi
  obtain ⟨k, h1, h2, _⟩ := gs i hi
  exact (r.eqv.1 k h1).cg fun j => Cg.of_eq (h2 j)
 ·have h := r.eqv.2 i hi
  refine h.le fun k hk => ?_
  by_cases e1 : k = d
  ·subst e1
   exact Sp.at (i := a) (by rw [hl]; exact ha) (by rw [gt, if_pos rfl])
  ·by_cases e2 : k = a
   ·subst e2
    exact Sp.at (i := d) (by rw [hl]; exact hdm) (by
     rw [gt]
     split
     ·rename_i e; rw [e]
     ·rw [if_pos rfl])
   ·exact Sp.at (i := k) (by rw [hl]; exact hk) (by rw [gt, if_neg (Ne.symm e2), if_neg (Ne.symm e1)])
 ·obtain ⟨k, h1, h2, h3, _⟩ := gs i (by omega)
  rw [h2, h3 hi]; exact r.one i hi
 ·obtain ⟨k, h1, h2, h3, _⟩ := gs i (by omega)
  rw [h2, h3 hi]; exact r.zb i j hi hj
 ·rw [hl] at hk
  obtain ⟨q, h1, h2, _, _, h5⟩ := gs k hk
  rw [h2]; exact r.cl i q hi h1 (h5 i hi hne)
 ·rw [hl] at h2
  obtain ⟨q, h3, h4, _, h5, _⟩ := gs k h2
  rw [h4]; exact r.nul q j (h5 h1) h3 hj
theorem RI.scale (hP : isP p = true) (r : RI p w rows M l d c) (hd : d < M.length) (hc : c < w) (hx : g2 M d c ≠ 0) : RI p w rows (M.set d (sclRow p (invP p (g2 M d c)) (M.getD d default))) l d c ∧ g2 (M.set d (sclRow p (invP p (g2 M d c)) (M.getD d default))) d c = 1 := by
 have hp := isP_two hP
 have hb := (r.bnd d hd).at (k := c) (by rw [r.len d hd]; exact hc)
 have hb' : 0 ≤ g2 M d c ∧ g2 M d c < p := hb
 obtain ⟨i1, i2, _⟩ := invP_ok hP (x := g2 M d c) (by omega) hb'.2
 generalize hk : invP p (g2 M d c) = k at *
 have hl : (M.set d (sclRow p k (M.getD d default))).length = M.length := List.length_set
 have gt : ∀ i, (M.set d (sclRow p k (M.getD d default))).getD i default = if d = i then sclRow p k (M.getD d default) else M.getD i default := fun i => getD_set hd
 have gd : ∀ j, j < w → (sclRow p k (M.getD d default)).getD j 0 = (k * g2 M d j) % p := fun j hj => sclR_get _ _ (by rw [r.len d hd]; exact hj)
 have gn : ∀ i j, i ≠ d → g2 (M.set d (sclRow p k (M.getD d default))) i j = g2 M i j := fun i j hne => by rw [g2, gt, if_neg (Ne.symm hne)]
 have gz : ∀ j, g2 M d j = 0 → g2 (M.set d (sclRow p k (M.getD d default))) d j = 0 := fun j e => by
  rw [g2, gt, if_pos rfl]
  rcases Nat.lt_or_ge j w with h | h
  ·rw [gd j h, e, Int.mul_zero, Int.zero_emod]
  ·exact getD_out (by rw [sclR_len, r.len d hd]; exact h)
 refine ⟨⟨by rw [hl]; exact r.ln, fun i hi => ?_, fun i hi => ?_, ⟨fun i hi => ?_, fun i hi => ?_⟩, by rw [hl]; exact r.dl, r.lt, fun i hi => ?_, fun i j hi hj => ?_, r.inc, fun i q hi hq hne => ?_, fun q j h1 h2 hj => ?_⟩, ?_⟩
 ·rw [hl] at hi; rw [gt]
  split
  ·rw [sclR_len]; exact r.len d hd
  ·exact r.len i hi
 ·rw [hl] at hi; rw [gt]
  split
  ·exact sclRow_bnd (by omega) _ _
  ·exact r.bnd i hi
 ·rw [hl] at hi
  by_cases e : i = d
  ·subst e
   refine ((r.eqv.1 i hi).mul k).cg fun j => ?_
   show Cg p (((M.set i (sclRow p k (M.getD i default))).getD i default).getD j 0) _
   rw [gt, if_pos rfl]; exact sclRow_cg _ _ _ j
  ·exact (r.eqv.1 i hi).cg fun j => Cg.of_eq (gn i j e)
 ·refine (r.eqv.2 i hi).le fun q hq => ?_
  by_cases e : q = d
  ·subst e
   refine ((Sp.at (p := p) (L := M.set q (sclRow p k (M.getD q default))) (i := q) (by rw [hl]; exact hq) (by rw [gt, if_pos rfl])).mul (g2 M q c)).cg fun j => ?_
   have a : Cg p (g2 M q c * (sclRow p k (M.getD q default)).getD j 0) (g2 M q c * (k * g2 M q j)) := (Cg.refl _).mul (sclRow_cg _ _ _ j)
   have b : Cg p (k * g2 M q c) 1 := by
    show _ % p = 1 % p
    rw [i2, Int.emod_eq_of_lt (by omega) hp.1]
   refine (a.trans (Cg.trans (Cg.of_eq ?_) ((b.mul (Cg.refl (g2 M q j))).trans (Cg.of_eq (Int.one_mul _))))).symm
   rw [← Int.mul_assoc, Int.mul_comm (g2 M q c)]
  ·exact Sp.at (i := q) (by rw [hl]; exact hq) (by rw [gt, if_neg (Ne.symm e)])
 ·rw [gn i _ (by omega)]; exact r.one i hi
 ·rw [gn i _ (by omega)]; exact r.zb i j hi hj
 ·rw [hl] at hq
  by_cases e : q = d
  ·subst e; exact gz _ (r.cl i q hi hq hne)
  ·rw [gn q _ e]; exact r.cl i q hi hq hne
 ·rw [hl] at h2
  by_cases e : q = d
  ·subst e; exact gz _ (r.nul q j h1 h2 hj)
  ·rw [gn q _ e]; exact r.nul q j h1 h2 hj
 ·rw [g2, gt, if_pos rfl, gd c hc]; exact i2
theorem RI.clear (hP : isP p = true) (r : RI p w rows M l d c) (hd : d < M.length) (hc : c < w) (h1 : g2 M d c = 1) : RI p w rows (clrP p d c M M.length) (fun i => if i = d then c else l i) (d + 1) (c + 1) := by
 have hp := isP_two hP
 have hl := clrP_len p d c M M.length
 have gt := fun {i : Nat} (hi : i < M.length) => clrP_get (p := p) (d := d) (c := c) (n := M.length) hi
 have gd : ∀ j, g2 (clrP p d c M M.length) d j = g2 M d j := fun j => by rw [g2, gt hd, if_neg (by omega)]
 have gn : ∀ i j, i < M.length → i ≠ d → j < w → g2 (clrP p d c M M.length) i j = (g2 M i j - g2 M i c * g2 M d j) % p := fun i j hi hne hj => by
  rw [g2, gt hi, if_pos ⟨hi, hne⟩, lessRow_get p _ (by rw [r.len i hi]; exact hj)]
 have cg : ∀ i j, i < M.length → i ≠ d → Cg p (g2 (clrP p d c M M.length) i j) (g2 M i j - g2 M i c * g2 M d j) := fun i j hi hne => by
  rw [g2, gt hi, if_pos ⟨hi, hne⟩]
  exact lessRow_cg p _ (by rw [r.len i hi, r.len d hd]; exact Nat.le_refl _) j
 have small : ∀ {x : Int}, 0 ≤ x ∧ x < p → x % p = x := fun h => Int.emod_eq_of_lt h.1 h.2
 -- left of column c nothing has changed
 have old : ∀ i j, i < M.length → j < c → g2 (clrP p d c M M.length) i j = g2 M i j := fun i j hi hj => by
  by_cases e : i = d
  ·subst e; exact gd j
  ·rw [gn i j hi e (by omega), r.nul d j (Nat.le_refl _) hd hj, Int.mul_zero, Int.sub_zero]
   exact small ((r.bnd i hi).at (k := j) (by rw [r.len i hi]; omega))
 have atc : ∀ i, i < M.length → i ≠ d → g2 (clrP p d c M M.length) i c = 0 := fun i hi hne => by
  rw [gn i c hi hne hc, h1, Int.mul_one, Int.sub_self, Int.zero_emod]
 refine ⟨by rw [hl]; exact r.ln, fun i hi => ?_, fun i hi => ?_, ⟨fun i hi => ?_, fun i hi => ?_⟩, by rw [hl]; exact hd, fun i hi => ?_, fun i hi => ?_, fun i j hi hj => ?_, fun i k hik hk => ?_, fun i k hi hk hne => ?_, fun k j hk hk2 hj => ?_⟩
 ·rw [hl] at hi; rw [gt hi]
  split
  ·rw [lessRow_len]; exact r.len i hi
  ·exact r.len i hi
 ·rw [hl] at hi; rw [gt hi]
  split
  ·exact lessRow_bnd (by omega) _ _ _
  ·exact r.bnd i hi
 ·rw [hl] at hi
  by_cases e : i = d
  ·subst e; exact (r.eqv.1 i hi).cg fun j => Cg.of_eq (gd j)
  ·exact ((r.eqv.1 i hi).sub (g2 M i c) (r.eqv.1 d hd)).cg fun j => cg i j hi e
 ·refine (r.eqv.2 i hi).le fun q hq => ?_
  have sd : Sp p (clrP p d c M M.length) (g2 M d) := (Sp.row (p := p) (L := clrP p d c M M.length) (i := d) (by rw [hl]; exact hd)).cg fun j => Cg.of_eq (gd j).symm
  by_cases e : q = d
  ·subst e; exact sd
  ·refine ((Sp.row (p := p) (L := clrP p d c M M.length) (i := q) (by rw [hl]; exact hq)).add (sd.mul (g2 M q c))).cg fun j => ?_
   exact ((Cg.add (cg q j hq e) (Cg.refl _)).trans (Cg.of_eq (by omega))).symm
 ·show (if i = d then c else l i) < c + 1
  split
  ·omega
  ·have := r.lt i (by omega); omega
 ·show g2 _ i (if i = d then c else l i) = 1
  by_cases e : i = d
  ·rw [if_pos e, e, gd]; exact h1
  ·rw [if_neg e, old i _ (by omega) (r.lt i (by omega))]; exact r.one i (by omega)
 ·by_cases e : i = d
  ·simp only [if_pos e] at hj
   rw [e, gd]; exact r.nul d j (Nat.le_refl _) hd hj
  ·simp only [if_neg e] at hj
   have := r.lt i (by omega)
   rw [old i j (by omega) (by omega)]; exact r.zb i j (by omega) hj
 ·show (if i = d then c else l i) < (if k = d then c else l k)
  rw [if_neg (by omega)]
  by_cases e : k = d
  ·rw [if_pos e]; exact r.lt i (by omega)
  ·rw [if_neg e]; exact r.inc i k hik (by omega)
 ·rw [hl] at hk
  show g2 _ k (if i = d then c else l i) = 0
  by_cases e : i = d
  ·rw [if_pos e]; exact atc k hk (by omega)
  ·rw [if_neg e, old k _ hk (r.lt i (by omega))]; exact r.cl i k (by omega) hk hne
 ·rw [hl] at hk2
  rcases Nat.lt_succ_iff_lt_or_eq.1 hj with h' | h'
  ·rw [old k j hk2 h']; exact r.nul k j (by omega) hk2 h'
  ·rw [h']; exact atc k hk2 (by omega)
theorem take_get {α : Type} {xs : List α} {d : α} {i n : Nat} (hi : i < n) : (xs.take n).getD i d = xs.getD i d := by
 rw [List.getD_eq_getElem?_getD, List.getElem?_take, if_pos hi, List.getD_eq_getElem?_getD]
theorem RI.end (hP : isP p = true) (r : RI p w rows M l d c) (h : d = M.length ∨ w ≤ c) : Red p w (M.take d) rows := by
 have hl : (M.take d).length = d := by have := r.dl; simp; omega
 have gt : ∀ i j, i < d → g2 (M.take d) i j = g2 M i j := fun i j hi => by rw [g2, take_get hi]
 have dl := r.dl
 have out : ∀ i j, i < M.length → w ≤ j → g2 M i j = 0 := fun i j hi hj => g2_out (by rw [r.len i hi]; exact hj)
 have ltw : ∀ i, i < d → l i < w := fun i hi => by
  apply Nat.lt_of_not_le
  intro hle
  have := r.one i hi
  rw [out i _ (by omega) hle] at this; omega
 refine ⟨⟨l, ⟨fun i hi => ?_, fun i hi => ?_, fun i hi => ?_, fun i hi => ?_, fun i j hi hj => ?_, fun i k hik hk => ?_, fun i k hi hk hne => ?_⟩⟩, ⟨fun i hi => ?_, fun i hi => ?_⟩⟩
 ·rw [hl] at hi; rw [take_get hi]; exact r.len i (by omega)
 ·rw [hl] at hi; rw [take_get hi]; exact r.bnd i (by omega)
 ·rw [hl] at hi; exact ltw i hi
 ·rw [hl] at hi; rw [gt i _ hi]; exact r.one i hi
 ·rw [hl] at hi; rw [gt i _ hi]; exact r.zb i j hi hj
 ·rw [hl] at hk; exact r.inc i k hik hk
 ·rw [hl] at hi hk; rw [gt k _ hk]; exact r.cl i k hi (by omega) hne
 ·rw [hl] at hi; exact (r.eqv.1 i (by omega)).cg fun j => Cg.of_eq (gt i j hi)
 ·refine (r.eqv.2 i hi).le fun k hk => ?_
  rcases Nat.lt_or_ge k d with h1 | h1
  ·exact Sp.at (i := k) (by rw [hl]; exact h1) (take_get h1)
  ·refine Sp.zero.cg fun j => Cg.of_eq ?_
   rcases h with h2 | h2
   ·omega
   ·rcases Nat.lt_or_ge j c with h3 | h3
    ·exact r.nul k j h1 hk h3
    ·exact out k j hk (by omega)
theorem RI.ech (hP : isP p = true) (h0 : ∀ r ∈ rows, r.length = w ∧ Bnd p r) (r : RI p w rows M l d c) (h : d = M.length ∨ w ≤ c) : ech p rows = M.take d := (r.end hP h).ech hP h0
end
-- ---- kernels
def longP (rows : List (List Int)) : List (List Int) := (List.range rows.length).map fun i => rows.getD i default ++ unitP rows.length i
noncomputable def kerP (p : Int) (w : Nat) (rows : List (List Int)) : List (List Int) := ((ech p (longP rows)).filter fun r => decide ((w : Int) ≤ leadP r)).map fun r => r.drop w
theorem longP_tbl {p : Int} {w : Nat} (hp : 1 < p) {rows : List (List Int)} (h : ∀ r ∈ rows, r.length = w ∧ Bnd p r) : ∀ r ∈ longP rows, r.length = w + rows.length ∧ Bnd p r := fun r hr => by
 obtain ⟨i, hi, rfl⟩ := List.mem_map.1 hr
 rw [List.mem_range] at hi
 have hi' := h (rows.getD i default) (by rw [List.getD_eq_getElem?_getD, List.getElem?_eq_getElem hi]; exact List.getElem_mem hi)
 refine ⟨by rw [List.length_append, hi'.1]; simp [unitP], fun x hx => ?_⟩
 rcases List.mem_append.1 hx with h1 | h1
 ·exact hi'.2 x h1
 ·rcases List.mem_or_eq_of_mem_set h1 with h2 | h2
  ·have := List.eq_of_mem_replicate h2; omega
  ·omega
theorem filter_suffix {p : Int} {W w : Nat} : ∀ {L : List (List Int)} {l : Nat → Nat}, Rr p W L l → L.filter (fun r => decide ((w : Int) ≤ leadP r)) = L.drop (posP L w)
 | [], _, _ => rfl
 | a :: L, l, r => by
  have h0 : leadP a = l 0 := r.lead (i := 0) (by simp)
  obtain ⟨t1, t2, t3⟩ := posP_ok (at_ := w) r
  by_cases hc : l 0 < w
  ·have e : posP (a :: L) w = posP L w + 1 := by simp [posP, h0, hc]
   rw [e, List.drop_succ_cons, List.filter_cons, if_neg (by simp [h0]; omega)]
   exact filter_suffix r.tail
  ·have e : posP (a :: L) w = 0 := Nat.eq_zero_of_not_pos fun hpos => hc (t2 0 hpos)
   rw [e, List.drop_zero]
   apply List.filter_eq_self.2
   intro x hx
   obtain ⟨i, hi, rfl⟩ := List.getElem_of_mem hx
   have := r.lead hi
   rw [List.getD_eq_getElem?_getD, List.getElem?_eq_getElem hi] at this
   simp only [Option.getD_some] at this
   have := t3 i hi (by omega)
   simp only [decide_eq_true_eq]
   omega
theorem kerP_rr {p : Int} {w : Nat} (hP : isP p = true) {rows : List (List Int)} (h : ∀ r ∈ rows, r.length = w ∧ Bnd p r) : ∃ l, Rr p rows.length (kerP p w rows) l := by
 obtain ⟨⟨l, r⟩, _⟩ := ech_red (w := w + rows.length) hP (longP_tbl (isP_two hP).1 h)
 obtain ⟨t1, t2, t3⟩ := posP_ok (at_ := w) r
 rw [kerP, filter_suffix r]
 generalize ech p (longP rows) = E at *
 generalize posP E w = q at *
 have hl : ((E.drop q).map fun r => r.drop w).length = E.length - q := by simp
 have gt : ∀ i, i < E.length - q → ((E.drop q).map fun r => r.drop w).getD i default = (E.getD (q + i) default).drop w := fun i hi => by
  rw [List.getD_eq_getElem?_getD, List.getElem?_map, List.getElem?_drop, List.getD_eq_getElem?_getD, List.getElem?_eq_getElem (by omega)]; rfl
 have gg : ∀ i j, i < E.length - q → g2 ((E.drop q).map fun r => r.drop w) i j = g2 E (q + i) (w + j) := fun i j hi => by
  rw [g2, gt i hi, List.getD_eq_getElem?_getD, List.getElem?_drop, g2, List.getD_eq_getElem?_getD (l := E.getD (q + i) default)]
 refine ⟨fun i => l (q + i) - w, fun i hi => ?_, fun i hi => ?_, fun i hi => ?_, fun i hi => ?_, fun i j hi hj => ?_, fun i k hik hk => ?_, fun i k hi hk hne => ?_⟩
 ·rw [hl] at hi; rw [gt i hi, List.length_drop, r.len (q + i) (by omega)]; omega
 ·rw [hl] at hi; rw [gt i hi]; exact fun x hx => r.bnd (q + i) (by omega) x (List.mem_of_mem_drop hx)
 ·rw [hl] at hi
  have := r.lt (q + i) (by omega)
  have := t3 (q + i) (by omega) (by omega)
  omega
 ·rw [hl] at hi
  have := t3 (q + i) (by omega) (by omega)
  rw [gg i _ hi, show w + (l (q + i) - w) = l (q + i) by omega]; exact r.one (q + i) (by omega)
 ·rw [hl] at hi
  rw [gg i j hi]; exact r.zb (q + i) _ (by omega) (by omega)
 ·rw [hl] at hk
  have := t3 (q + i) (by omega) (by omega)
  have := r.inc (q + i) (q + k) (by omega) (by omega)
  omega
 ·rw [hl] at hi hk
  have := t3 (q + i) (by omega) (by omega)
  rw [gg k _ hk, show w + (l (q + i) - w) = l (q + i) by omega]; exact r.cl (q + i) (q + k) (by omega) (by omega) (by omega)
end Go.Proofs.Ytacajcjibhifmaa
