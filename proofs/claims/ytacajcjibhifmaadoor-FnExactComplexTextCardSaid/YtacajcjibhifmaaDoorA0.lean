/-
  Blocks: what lies apart, what a change leaves, what a loop has changed.
  Conditions: each theorem's own.
-/
import Derived.Test.YtacajcjibhifmaaDoorG16
import Derived.Test.YtacajcjibhifmaaDoorG17
set_option linter.unusedVariables false
set_option linter.unusedSimpArgs false
namespace Go.Proofs.YtacajcjibhifmaaDoor
open Go
abbrev Apart (fp fq : List Nat) : Prop := ∀ b ∈ fp, b ∉ fq
def Sub (fp0 : List Nat) (n : Nat) (fp : List Nat) : Prop := ∀ b ∈ fp, b ∈ fp0 ∨ n ≤ b
theorem apart_lt {fp fq : List Nat} {m lo : Nat} (l : ∀ b ∈ fp, b < m) (f : Fresh lo fq) (h : m ≤ lo) : Apart fp fq := fun b hb hq => by
  have := l b hb; have := f.ge b hq; omega
theorem apart_gt {fp fq : List Nat} {m lo : Nat} (f : Fresh lo fp) (l : ∀ b ∈ fq, b < m) (h : m ≤ lo) : Apart fp fq := fun b hb hq => by
  have := l b hq; have := f.ge b hb; omega
theorem Apart.symm {fp fq : List Nat} (h : Apart fp fq) : Apart fq fp := fun b hb hq => h b hq hb
theorem Apart.app {fp f1 f2 : List Nat} (h1 : Apart fp f1) (h2 : Apart fp f2) : Apart fp (f1 ++ f2) := fun b hb hq => by
  rcases List.mem_append.1 hq with h | h
  · exact h1 b hb h
  · exact h2 b hb h
theorem Apart.nil (fp : List Nat) : Apart fp [] := fun b hb hq => by cases hq
/-- What has grown out of a list, an element and new blocks lies apart from what was apart from both and is older. -/
theorem Apart.grow {fo fp fx fp' : List Nat} {m k : Nat} (hl : ∀ b ∈ fo, b < k) (hk : k ≤ m) (h1 : Apart fo fp) (h2 : Apart fo fx) (hs : ∀ b ∈ fp', b ∈ fp ∨ b ∈ fx ∨ m ≤ b) : Apart fo fp' := fun b hb hp => by
  rcases hs b hp with h | h | h
  · exact h1 b hb h
  · exact h2 b hb h
  · have := hl b hb; omega
theorem Fresh.appd {lo lx m : Nat} {fp fx fp' : List Nat} (f : Fresh lo fp) (g : Fresh lx fx) (hx : lo ≤ lx) (hm : lo ≤ m) (hn : fp'.Nodup) (hs : ∀ b ∈ fp', b ∈ fp ∨ b ∈ fx ∨ m ≤ b) : Fresh lo fp' :=
  ⟨hn, fun b hb => by
    rcases hs b hb with h | h | h
    · exact f.ge b h
    · have := g.ge b h; omega
    · omega⟩
theorem Sub.refl {fp0 : List Nat} {n : Nat} : Sub fp0 n fp0 := fun _ h => .inl h
theorem Sub.left {f1 f2 fp : List Nat} {n : Nat} (h : Sub f1 n fp) : Sub (f1 ++ f2) n fp := fun b hb => (h b hb).elim (fun h => .inl (List.mem_append_left _ h)) .inr
theorem Sub.right {f1 f2 fp : List Nat} {n : Nat} (h : Sub f2 n fp) : Sub (f1 ++ f2) n fp := fun b hb => (h b hb).elim (fun h => .inl (List.mem_append_right _ h)) .inr
theorem Sub.app {fp0 f1 f2 : List Nat} {n : Nat} (h1 : Sub fp0 n f1) (h2 : Sub fp0 n f2) : Sub fp0 n (f1 ++ f2) := fun b hb => by
  rcases List.mem_append.1 hb with h | h
  · exact h1 b h
  · exact h2 b h
theorem Sub.fresh {fp0 fp : List Nat} {n lo : Nat} (f : Fresh lo fp) (h : n ≤ lo) : Sub fp0 n fp := fun b hb => .inr (Nat.le_trans h (f.ge b hb))
theorem Sub.grow {fp0 fp fx fp' : List Nat} {n m : Nat} (h1 : Sub fp0 n fp) (h2 : Sub fp0 n fx) (hm : n ≤ m) (hs : ∀ b ∈ fp', b ∈ fp ∨ b ∈ fx ∨ m ≤ b) : Sub fp0 n fp' := fun b hb => by
  rcases hs b hb with h | h | h
  · exact h1 b h
  · exact h2 b h
  · exact .inr (Nat.le_trans hm h)
theorem Sub.trans {fp0 fp1 fp : List Nat} {n m : Nat} (h : Sub fp1 m fp) (k : Sub fp0 n fp1) (hm : n ≤ m) : Sub fp0 n fp := fun b hb => by
  rcases h b hb with h | h
  · exact k b h
  · exact .inr (Nat.le_trans hm h)
theorem Sub.nil {fp0 : List Nat} {n : Nat} : Sub fp0 n [] := fun b hb => by cases hb
theorem ge_of {lo m : Nat} {fp : List Nat} (f : Fresh lo fp) (h : m ≤ lo) : ∀ b ∈ fp, m ≤ b := fun b hb => Nat.le_trans h (f.ge b hb)
theorem ge_app {m : Nat} {f1 f2 : List Nat} (h1 : ∀ b ∈ f1, m ≤ b) (h2 : ∀ b ∈ f2, m ≤ b) : ∀ b ∈ f1 ++ f2, m ≤ b := fun b hb => by
  rcases List.mem_append.1 hb with h | h
  · exact h1 b h
  · exact h2 b h
theorem Chg.step {fp0 fp : List Nat} {a b c : Heap} (h : Chg fp0 a b) (k : Chg fp b c) (s : Sub fp0 a.size fp) : Chg fp0 a c :=
  ⟨Nat.le_trans h.size k.size, fun q hq hn => (k.block q (Nat.lt_of_lt_of_le hq h.size) (fun hm => by
    rcases s q hm with h1 | h1
    · exact hn h1
    · omega)).trans (h.block q hq hn)⟩
theorem Chg.stepE {fp0 : List Nat} {a b c : Heap} (h : Chg fp0 a b) (k : Ext b c) : Chg fp0 a c := h.trans (k.chg _)
theorem Apart.sub_ {fz fp0 fp : List Nat} {m n : Nat} (hl : ∀ b ∈ fz, b < m) (hm : m ≤ n) (a : Apart fz fp0) (s : Sub fp0 n fp) : Apart fz fp := fun b hb hp => by
  rcases s b hp with h | h
  · exact a b hb h
  · have := hl b hb; omega
theorem Fresh.two {l1 l2 lo : Nat} {fp fq : List Nat} (f1 : Fresh l1 fp) (f2 : Fresh l2 fq) (ap : Apart fp fq) (h1 : lo ≤ l1) (h2 : lo ≤ l2) : Fresh lo (fp ++ fq) :=
  ⟨List.nodup_append.2 ⟨f1.nodup, f2.nodup, fun b hb c hc e => ap b hb (e ▸ hc)⟩, fun b hb => by
    rcases List.mem_append.1 hb with h | h
    · exact Nat.le_trans h1 (f1.ge b h)
    · exact Nat.le_trans h2 (f2.ge b h)⟩
theorem apart_nodup {lo : Nat} {f1 f2 : List Nat} (h : Fresh lo (f1 ++ f2)) : Apart f1 f2 := fun b hb hm => (List.nodup_append.1 h.nodup).2.2 b hb b hm rfl
theorem one_lt {b n : Nat} (h : b < n) : ∀ q ∈ [b], q < n := fun q hq => by simp at hq; omega
theorem BoxAt.chgA {h h' : Heap} {b : Nat} {cs : Array Value} {t : TypeId} {fp : List Nat} (hb : BoxAt h b cs t) (c : Chg fp h h') (hn : Apart [b] fp) : BoxAt h' b cs t := hb.chg c (hn b (by simp))
theorem lt_mono {fp : List Nat} {n m : Nat} (l : ∀ b ∈ fp, b < n) (h : n ≤ m) : ∀ b ∈ fp, b < m := fun b hb => Nat.lt_of_lt_of_le (l b hb) h
theorem map_takeA {α β : Type} {f : α → β} {xs : List α} {d : α} {k : Nat} (hk : k < xs.length) : (xs.take k).map f ++ [f (xs.getD k d)] = (xs.take (k + 1)).map f := by
  rw [List.take_succ_eq_append_getElem hk, List.map_append, List.getD_eq_getElem?_getD, List.getElem?_eq_getElem hk]; rfl
theorem map_endA {α β : Type} {f : α → β} {xs : List α} {k : Nat} (hk : ¬ k < xs.length) : (xs.take k).map f = xs.map f := by rw [List.take_of_length_le (by omega)]
theorem range_step {β : Type} (f : Nat → β) (k : Nat) : (List.range k).map f ++ [f k] = (List.range (k + 1)).map f := by simp [List.range_succ]
theorem mod_twice {p x : Int} (hp : 0 < p) : (x.tmod p + p).tmod p = x % p := by
  have h1 : -p < x.tmod p := by
    have := Int.lt_tmod_of_pos x hp; omega
  rw [Int.tmod_eq_emod_of_nonneg (by omega), Int.add_emod_right, Int.tmod_def, Int.sub_mul_emod_self_left]
theorem tmod_in {p x : Int} (hp : 0 < p) : -p < x.tmod p ∧ x.tmod p < p := ⟨by have := Int.lt_tmod_of_pos x hp; omega, Int.tmod_lt_of_pos x hp⟩
theorem resP_ct {T : Tab} {R : Value → Heap → Prop} {env : Env} {h : Heap} {a u : Nat} {t : TypeId} : resP T [.cell a t, .tmp u] R env h = Bd (asAd (env a)) fun ad => Bd (loadV T h t ad) fun v => R (.tuple #[v, env u]) h := by
  unfold resP resV resL resL resL
  cases asAd (env a) with
  | none => rfl
  | some ad => cases h1 : loadV T h t ad <;> simp [h1, Bd]
theorem getD_extA {A B : List Int} (hl : A.length = B.length) (h : ∀ n, n < A.length → A.getD n 0 = B.getD n 0) : A = B := by
  apply List.ext_getElem hl
  intro n h1 h2
  have := h n h1
  rwa [List.getD_eq_getElem?_getD, List.getD_eq_getElem?_getD, List.getElem?_eq_getElem h1, List.getElem?_eq_getElem h2] at this
theorem binV_eqB (a b : Bool) : binV TT .eql 4 (.bool a) (.bool b) = some (.bool (a == b)) := by simp [binV, T4]
theorem binV_neB (a b : Bool) : binV TT .neq 4 (.bool a) (.bool b) = some (.bool (!(a == b))) := by simp [binV, T4]
theorem binV_eqNil (A : Option Addr) (n c : Nat) : binV TT .eql 22 (.slice A n c) (.slice none 0 0) = some (.bool A.isNone) := by cases A <;> simp [binV, T22]
attribute [go_sem] binV_eqB binV_neB binV_eqNil
end Go.Proofs.YtacajcjibhifmaaDoor
