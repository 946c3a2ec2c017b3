/-
  The ground of the proofs of this seat: triples over (slots, heap), in which the draws of the machine do not appear; rules for code, regions and operations, each proved from the kit's rules.
  Conditions: none; every rule holds for any program.
-/
import Derived.OrdersHeld
import Derived.WalkKit
import Derived.KernelRfl
import Derived.Deep.LoopGhost
set_option linter.unusedVariables false
set_option linter.unusedSimpArgs false
namespace Go.Proofs.Ytkdnnfkdgmblgaa
open Go

abbrev Heap := Array Obj
abbrev Env := Nat → Value

def put (env : Env) (d : Nat) (v : Value) : Env := fun t => if t = d then v else env t
theorem put_same (env : Env) (d : Nat) (v : Value) : put env d v d = v := by simp [put]
theorem put_ne (env : Env) {d t : Nat} (v : Value) (h : t ≠ d) : put env d v t = env t := by simp [put, h]
theorem put_at (env : Env) (d t : Nat) (v : Value) : put env d v t = if t = d then v else env t := rfl
theorem put_self (env : Env) (d : Nat) : put env d (env d) = env := by
  funext t; unfold put; split
  · subst_vars; rfl
  · rfl

/-- Slots written out: the head of the list was written last. -/
def puts (e : Env) : List (Nat × Value) → Env
  | [] => e
  | (d, v) :: l => put (puts e l) d v
theorem put_puts (e : Env) (l : List (Nat × Value)) (d : Nat) (v : Value) : put (puts e l) d v = puts e ((d, v) :: l) := rfl
theorem puts_at (e : Env) (l : List (Nat × Value)) (d t : Nat) (v : Value) : puts e ((d, v) :: l) t = if t = d then v else puts e l t := rfl
theorem puts_nil (e : Env) : puts e [] = e := rfl
def HasL (env : Env) : List (Nat × Value) → Prop
  | [] => True
  | (d, v) :: l => env d = v ∧ HasL env l
theorem HasL.puts {env : Env} : ∀ {l : List (Nat × Value)}, HasL env l → puts env l = env
  | [], _ => rfl
  | (d, v) :: l, h => by
    simp only [Go.Proofs.Ytkdnnfkdgmblgaa.puts, HasL.puts h.2]
    rw [← h.1, put_self]
def idxs : Nat → List Value → List (Nat × Value)
  | _, [] => []
  | n, v :: l => (n, v) :: idxs (n + 1) l
/-- The slots ts alone. -/
def sel (env : Env) : List Nat → List (Nat × Value)
  | [] => []
  | t :: ts => (t, env t) :: sel env ts
theorem hasL_sel (env : Env) : ∀ ts, HasL env (sel env ts)
  | [] => trivial
  | t :: ts => ⟨rfl, hasL_sel env ts⟩

def ev (env : Env) : Operand → Value
  | .tmp t => env t
  | .const v => v
  | .global g => .pointer (some ⟨g, 0, none⟩)
  | .func f => .func (.func f) #[] #[]

/-- The act of n slots holds what env says, and defers nothing. -/
structure Agree (n : Nat) (a : Act) (env : Env) : Prop where
  defers : a.defers = []
  size : a.tmps.size = n
  at_ : ∀ t, a.tmps.getD t undef = env t

theorem Agree.eval {n : Nat} {a : Act} {env : Env} (h : Agree n a env) : a.eval = ev env := by
  funext x
  cases x with
  | tmp t => exact h.at_ t
  | _ => rfl

theorem Agree.put {n : Nat} {a : Act} {env : Env} (h : Agree n a env) {d : Nat} (hd : d < n) (v : Value) : Agree n (a.put (some d) v) (put env d v) := by
  refine ⟨h.defers, by simp [Act.put, h.size], fun t => ?_⟩
  have ht := h.at_ t
  simp only [Act.put, Go.Proofs.Ytkdnnfkdgmblgaa.put]
  by_cases e : t = d
  · subst e; simp [Array.getD_eq_getD_getElem?, h.size, hd]
  · rw [if_neg e, ← ht]
    simp only [Array.getD_eq_getD_getElem?]
    rw [Array.getElem?_setIfInBounds_ne (Ne.symm e)]

def putO (env : Env) : Option Nat → Value → Env
  | some d, v => put env d v
  | none, _ => env
theorem Agree.putO {n : Nat} {a : Act} {env : Env} (h : Agree n a env) {o : Option Nat} (hd : ∀ d, o = some d → d < n) (v : Value) : Agree n (a.put o v) (putO env o v) := by
  cases o with
  | none => exact h
  | some d => exact h.put (hd d rfl) v

/-- What no call of ours touches. -/
structure Fr (w w' : World) : Prop where
  os : w'.os = w.os
  tape : w'.tape = w.tape
  output : w'.output = w.output
theorem Fr.refl (w : World) : Fr w w := ⟨rfl, rfl, rfl⟩
theorem Fr.trans {a b c : World} (h : Fr a b) (k : Fr b c) : Fr a c := ⟨k.os.trans h.os, k.tape.trans h.tape, k.output.trans h.output⟩

def KA (n : Nat) (w0 : World) (K : Env → Heap → Prop) : Act → World → Prop := fun a w => ∃ env, Agree n a env ∧ Fr w0 w ∧ K env w.heap
def KQ (n : Nat) (w0 : World) (Q : Exit → Env → Heap → Prop) : Exit → Act → World → Prop := fun e a w => ∃ env, Agree n a env ∧ Fr w0 w ∧ Q e env w.heap

/-- Code c, from the slots env and the heap h. -/
def Wc (P : Program) (n : Nat) (c : Code) (Q : Exit → Env → Heap → Prop) (env : Env) (h : Heap) : Prop :=
  ∀ a w, Agree n a env → w.heap = h → c.wp P (KQ n w Q) a w

theorem KQ.rebase {n : Nat} {w0 w1 : World} (h : Fr w0 w1) {Q : Exit → Env → Heap → Prop} (e : Exit) (a : Act) (w : World) (hq : KQ n w1 Q e a w) : KQ n w0 Q e a w := by
  obtain ⟨env, ha, hf, hq⟩ := hq
  exact ⟨env, ha, h.trans hf, hq⟩
theorem Wc.mono {P : Program} {n : Nat} {c : Code} {Q Q' : Exit → Env → Heap → Prop} {env : Env} {h : Heap} (hw : Wc P n c Q env h) (hq : ∀ e env h, Q e env h → Q' e env h) : Wc P n c Q' env h :=
  fun a w ha hh => wp_mono (hw a w ha hh) fun e a w ⟨env, x, y, z⟩ => ⟨env, x, y, hq _ _ _ z⟩

/-! ### The stack of what is left to do -/
inductive It where
  | code (c : Code)
  | blk (id : Nat)
  | stop (R : Env → Heap → Prop)

mutual
def den (P : Program) (n : Nat) (Qr : Env → Heap → Prop) : List It → Env → Heap → Prop
  | [] => Qr
  | .code c :: k => Wc P n c (fun e env h => match e with
      | .normal => den P n Qr k env h
      | .exit id => denX P n Qr id k env h
      | .ret => Qr env h
      | _ => False)
  | .blk _ :: k => den P n Qr k
  | .stop R :: _ => R
def denX (P : Program) (n : Nat) (Qr : Env → Heap → Prop) (id : Nat) : List It → Env → Heap → Prop
  | [] => fun _ _ => False
  | .code _ :: k => denX P n Qr id k
  | .blk id' :: k => if id = id' then den P n Qr k else denX P n Qr id k
  | .stop _ :: k => denX P n Qr id k
end

section rules
variable {P : Program} {n : Nat} {Qr : Env → Heap → Prop} {k : List It} {env : Env} {h : Heap}

theorem den_nil : Qr env h → den P n Qr [] env h := by intro hh; simpa [den] using hh
theorem den_blk {id : Nat} (hh : den P n Qr k env h) : den P n Qr (.blk id :: k) env h := by simpa [den] using hh
theorem den_stop {R : Env → Heap → Prop} (hh : R env h) : den P n Qr (.stop R :: k) env h := by simpa [den] using hh
theorem den_skip (hh : den P n Qr k env h) : den P n Qr (.code .skip :: k) env h := by
  rw [den]
  exact fun a w ha e => wp_skip ⟨env, ha, Fr.refl w, by subst e; exact hh⟩
theorem den_ret (hh : Qr env h) : den P n Qr (.code .ret :: k) env h := by
  rw [den]
  exact fun a w ha e => wp_ret ⟨env, ha, Fr.refl w, by subst e; exact hh⟩
theorem den_exit {id : Nat} (hh : denX P n Qr id k env h) : den P n Qr (.code (.exit id) :: k) env h := by
  rw [den]
  exact fun a w ha e => wp_exit ⟨env, ha, Fr.refl w, by subst e; exact hh⟩
theorem denX_hit {id : Nat} (hh : den P n Qr k env h) : denX P n Qr id (.blk id :: k) env h := by simpa [denX] using hh
theorem denX_miss {id id' : Nat} (hne : id ≠ id') (hh : denX P n Qr id k env h) : denX P n Qr id (.blk id' :: k) env h := by simpa [denX, hne] using hh
theorem denX_code {id : Nat} {c : Code} (hh : denX P n Qr id k env h) : denX P n Qr id (.code c :: k) env h := by simpa [denX] using hh
theorem denX_stop {id : Nat} {R : Env → Heap → Prop} (hh : denX P n Qr id k env h) : denX P n Qr id (.stop R :: k) env h := by simpa [denX] using hh

theorem den_seq {c d : Code} (hh : den P n Qr (.code c :: .code d :: k) env h) : den P n Qr (.code (c.seq d) :: k) env h := by
  rw [den] at hh ⊢
  refine fun a w ha e => wp_seq (wp_mono (hh a w ha e) ?_)
  intro x a1 w1 hq
  obtain ⟨env1, ha1, hf1, hq⟩ := hq
  cases x with
  | normal =>
    show d.wp P _ a1 w1
    rw [den] at hq
    refine wp_mono (hq a1 w1 ha1 rfl) ?_
    intro y a2 w2 hq2
    exact KQ.rebase hf1 y a2 w2 hq2
  | exit id => exact ⟨env1, ha1, hf1, by simpa [denX] using hq⟩
  | ret => exact ⟨env1, ha1, hf1, hq⟩
  | goto l => exact hq.elim
  | panic c => exact hq.elim
  | outgrown => exact hq.elim

theorem den_block {id : Nat} {c : Code} (hh : den P n Qr (.code c :: .blk id :: k) env h) : den P n Qr (.code (.block id c) :: k) env h := by
  rw [den] at hh ⊢
  refine fun a w ha e => wp_block (wp_mono (hh a w ha e) ?_)
  intro x a1 w1 hq
  obtain ⟨env1, ha1, hf1, hq⟩ := hq
  cases x with
  | normal => exact ⟨env1, ha1, hf1, by simpa [den] using hq⟩
  | exit id' =>
    simp only [denX] at hq
    simp only [Exit.inBlock]
    by_cases e : id' = id
    · subst e
      rw [if_pos rfl] at hq ⊢
      exact ⟨env1, ha1, hf1, hq⟩
    · rw [if_neg e] at hq ⊢
      exact ⟨env1, ha1, hf1, hq⟩
  | ret => exact ⟨env1, ha1, hf1, hq⟩
  | goto l => exact hq.elim
  | panic c => exact hq.elim
  | outgrown => exact hq.elim

theorem den_cond {x : Operand} {c d : Code} {b : Bool} (hx : ev env x = .bool b) (ht : b = true → den P n Qr (.code c :: k) env h) (hf : b = false → den P n Qr (.code d :: k) env h) :
    den P n Qr (.code (.cond x c d) :: k) env h := by
  rw [den]
  refine fun a w ha e => wp_cond (t := b) (by rw [ha.eval]; exact hx) ?_
  cases b with
  | true => have := ht rfl; rw [den] at this; exact this a w ha e
  | false => have := hf rfl; rw [den] at this; exact this a w ha e

/-- A loop: an invariant and a measure. -/
theorem den_loop {c : Code} (I : Env → Heap → Prop) (μ : Env → Heap → Nat) (h0 : I env h)
    (round : ∀ env h, I env h → den P n Qr (.code c :: .stop (fun env' h' => I env' h' ∧ μ env' h' < μ env h) :: k) env h) : den P n Qr (.code (.loop c) :: k) env h := by
  rw [den]
  intro a w ha e
  refine wp_loop (fun a' w' => ∃ env', Agree n a' env' ∧ Fr w w' ∧ I env' w'.heap) (fun a' w' => μ (fun t => a'.tmps.getD t undef) w'.heap) ⟨env, ha, Fr.refl w, by subst e; exact h0⟩ ?_
  rintro a1 w1 ⟨env1, ha1, hf1, hI⟩
  have hh := round env1 w1.heap hI
  rw [den] at hh
  refine wp_mono (hh a1 w1 ha1 rfl) ?_
  intro x a2 w2 hq
  obtain ⟨env2, ha2, hf2, hq⟩ := hq
  have e1 : (fun t => a1.tmps.getD t undef) = env1 := funext ha1.at_
  have e2 : (fun t => a2.tmps.getD t undef) = env2 := funext ha2.at_
  cases x with
  | normal =>
    simp only [den] at hq
    simp only [Exit.then]
    rw [e1, e2]
    exact ⟨⟨env2, ha2, hf1.trans hf2, hq.1⟩, hq.2⟩
  | exit id => exact ⟨env2, ha2, hf1.trans hf2, by simpa [denX] using hq⟩
  | ret => exact ⟨env2, ha2, hf1.trans hf2, hq⟩
  | goto l => exact hq.elim
  | panic c => exact hq.elim
  | outgrown => exact hq.elim

/-- Ways meet again: what holds there, J. -/
theorem den_join {c : Code} (J : Env → Heap → Prop) (h1 : den P n Qr (.code c :: .stop J :: k) env h) (h2 : ∀ env h, J env h → den P n Qr k env h) : den P n Qr (.code c :: k) env h := by
  rw [den] at h1 ⊢
  refine h1.mono ?_
  intro e env h hq
  cases e with
  | normal => exact h2 _ _ (by simpa [den] using hq)
  | exit id => simpa [denX] using hq
  | ret => exact hq
  | goto l => exact hq
  | panic c => exact hq
  | outgrown => exact hq
def denQ (P : Program) (n : Nat) (Qr : Env → Heap → Prop) (k : List It) : Exit → Env → Heap → Prop
  | .normal, env, h => den P n Qr k env h
  | .exit id, env, h => denX P n Qr id k env h
  | .ret, env, h => Qr env h
  | _, _, _ => False
theorem den_code {c : Code} (hh : Wc P n c (denQ P n Qr k) env h) : den P n Qr (.code c :: k) env h := by
  rw [den]
  refine hh.mono ?_
  intro e env h hq
  cases e <;> exact hq
theorem den_sel (ts : List Nat) (hh : ∀ e, den P n Qr k (puts e (sel env ts)) h) : den P n Qr k env h := by
  have := hh env
  rwa [(hasL_sel env ts).puts] at this
@[congr] theorem den_congr {env' : Env} (e : env = env') : den P n Qr k env h = den P n Qr k env' h := by rw [e]

/-- A loop over states s: the slots that it turns hold 'st s', those of lc stay. -/
theorem den_loopS {σ : Type} {e : Env} {lc : List (Nat × Value)} {c : Code} (st : σ → List (Nat × Value)) (I : σ → Heap → Prop) (μ : σ → Nat) (s0 : σ) (hI : I s0 h)
    (round : ∀ s h e, I s h → den P n Qr (.code c :: .stop (fun env' h' => ∃ s', HasL env' (st s' ++ lc) ∧ I s' h' ∧ μ s' < μ s) :: k) (puts e (st s ++ lc)) h) :
    den P n Qr (.code (.loop c) :: k) (puts e (st s0 ++ lc)) h := by
  rw [den]
  intro a w ha e0
  subst e0
  refine wp_loop_ghost (fun m a' w' => ∃ s' e', μ s' = m ∧ Agree n a' (puts e' (st s' ++ lc)) ∧ Fr w w' ∧ I s' w'.heap) (μ s0) ⟨s0, e, rfl, ha, Fr.refl w, hI⟩ ?_
  rintro m a1 w1 ⟨s1, e1, hm, ha1, hf1, hI1⟩
  have hh := round s1 w1.heap e1 hI1
  rw [den] at hh
  refine wp_mono (hh a1 w1 ha1 rfl) ?_
  intro x a2 w2 hq
  obtain ⟨env2, ha2, hf2, hq⟩ := hq
  cases x with
  | normal =>
    simp only [den] at hq
    obtain ⟨s2, hl, hI2, hlt⟩ := hq
    refine ⟨μ s2, by omega, s2, env2, rfl, ?_, hf1.trans hf2, hI2⟩
    rw [hl.puts]; exact ha2
  | exit id => exact ⟨env2, ha2, hf1.trans hf2, by simpa [denX] using hq⟩
  | ret => exact ⟨env2, ha2, hf1.trans hf2, hq⟩
  | goto l => exact hq.elim
  | panic c => exact hq.elim
  | outgrown => exact hq.elim
end rules
end Go.Proofs.Ytkdnnfkdgmblgaa
