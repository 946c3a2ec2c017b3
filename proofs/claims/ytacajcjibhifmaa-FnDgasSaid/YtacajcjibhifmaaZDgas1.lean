/-
  What the statement FnDgas uses of the walks, part 1.
  Conditions: each theorem's own.
-/
import Derived.OrdersHeld
import Derived.WalkKit
import Derived.KernelRfl
import Derived.Deep.LoopGhost
import Derived.Laws.BytesString
import Derived.Test.YtacajcjibhifmaaProg
import Derived.ProofKit
import Derived.OpenShut
import Derived.ShutString
import Derived.ChangeOld
import Derived.Below
import Derived.SizedLaws
import Derived.Lib.SmallJoins
set_option linter.unusedVariables false
set_option linter.unusedSimpArgs false
namespace Go.Proofs.Ytacajcjibhifmaa
open Go

abbrev Heap := Array Obj
abbrev Env := Nat → Value

def put (env : Env) (d : Nat) (v : Value) : Env := fun t => if t = d then v else env t
theorem put_self (env : Env) (d : Nat) : put env d (env d) = env := by
 funext t; unfold put; split
 ·subst_vars; rfl
 ·rfl

/-- Slots written out: the head of the list was written last. -/
def puts (e : Env) : List (Nat × Value) → Env
 | [] => e
 | (d, v) :: l => put (puts e l) d v
theorem put_puts (e : Env) (l : List (Nat × Value)) (d : Nat) (v : Value) : put (puts e l) d v = puts e ((d, v) :: l) := rfl
theorem puts_at (e : Env) (l : List (Nat × Value)) (d t : Nat) (v : Value) : puts e ((d, v) :: l) t = if t = d then v else puts e l t := rfl
def HasL (env : Env) : List (Nat × Value) → Prop
 | [] => True
 | (d, v) :: l => env d = v ∧ HasL env l
theorem HasL.puts {env : Env} : ∀ {l : List (Nat × Value)}, HasL env l → puts env l = env
 | [], _ => rfl
 | (d, v) :: l, h => by
  simp only [Go.Proofs.Ytacajcjibhifmaa.puts, HasL.puts h.2]
  rw [← h.1, put_self]
def idxs : Nat → List Value → List (Nat × Value)
 | _, [] => []
 | n, v :: l => (n, v) :: idxs (n + 1) l
/-- The slots ts alone. -/
def sel (env : Env) : List Nat → List (Nat × Value)
 | [] => []
 | t :: ts => (t, env t) :: sel env ts
theorem hasL_sel (env : Env) : ∀ ts, HasL env (sel env ts)
 | [] => trivial
 | t :: ts => ⟨rfl, hasL_sel env ts⟩

def ev (env : Env) : Operand → Value
 | .tmp t => env t
 | .const v => v
 | .global g => .pointer (some ⟨g, 0, none⟩)
 | .func f => .func (.func f) #[] #[]

/-- The act of n slots holds what env says, and defers nothing. -/
structure Agree (n : Nat) (a : Act) (env : Env) : Prop where
 defers : a.defers = []
 size : a.tmps.size = n
 at_ : ∀ t, a.tmps.getD t undef = env t

theorem Agree.eval {n : Nat} {a : Act} {env : Env} (h : Agree n a env) : a.eval = ev env := by
 funext x
 cases x with
 | tmp t => exact h.at_ t
 | _ => rfl

theorem Agree.put {n : Nat} {a : Act} {env : Env} (h : Agree n a env) {d : Nat} (hd : d < n) (v : Value) : Agree n (a.put (some d) v) (put env d v) := by
 refine ⟨h.defers, by simp [Act.put, h.size], fun t => ?_⟩
 have ht := h.at_ t
 simp only [Act.put, Go.Proofs.Ytacajcjibhifmaa.put]
 by_cases e : t = d
 ·subst e; simp [Array.getD_eq_getD_getElem?, h.size, hd]
 ·rw [if_neg e, ← ht]
  simp only [Array.getD_eq_getD_getElem?]
  rw [Array.getElem?_setIfInBounds_ne (Ne.symm e)]

def putO (env : Env) : Option Nat → Value → Env
 | some d, v => put env d v
 | none, _ => env
theorem Agree.putO {n : Nat} {a : Act} {env : Env} (h : Agree n a env) {o : Option Nat} (hd : ∀ d, o = some d → d < n) (v : Value) : Agree n (a.put o v) (putO env o v) := by
 cases o with
 | none => exact h
 | some d => exact h.put (hd d rfl) v

/-- What no call of ours touches. -/
structure Fr (w w' : World) : Prop where
 os : w'.os = w.os
 tape : w'.tape = w.tape
 output : w'.output = w.output
theorem Fr.refl (w : World) : Fr w w := ⟨rfl, rfl, rfl⟩
theorem Fr.trans {a b c : World} (h : Fr a b) (k : Fr b c) : Fr a c := ⟨k.os.trans h.os, k.tape.trans h.tape, k.output.trans h.output⟩

def KA (n : Nat) (w0 : World) (K : Env → Heap → Prop) : Act → World → Prop := fun a w => ∃ env, Agree n a env ∧ Fr w0 w ∧ K env w.heap
def KQ (n : Nat) (w0 : World) (Q : Exit → Env → Heap → Prop) : Exit → Act → World → Prop := fun e a w => ∃ env, Agree n a env ∧ Fr w0 w ∧ Q e env w.heap

/-- Code c, from the slots env and the heap h. -/
def Wc (P : Program) (n : Nat) (c : Code) (Q : Exit → Env → Heap → Prop) (env : Env) (h : Heap) : Prop :=
 ∀ a w, Agree n a env → w.heap = h → c.wp P (KQ n w Q) a w

theorem KQ.rebase {n : Nat} {w0 w1 : World} (h : Fr w0 w1) {Q : Exit → Env → Heap → Prop} (e : Exit) (a : Act) (w : World) (hq : KQ n w1 Q e a w) : KQ n w0 Q e a w := by
 obtain ⟨env, ha, hf, hq⟩ := hq
 exact ⟨env, ha, h.trans hf, hq⟩
theorem Wc.mono {P : Program} {n : Nat} {c : Code} {Q Q' : Exit → Env → Heap → Prop} {env : Env} {h : Heap} (hw : Wc P n c Q env h) (hq : ∀ e env h, Q e env h → Q' e env h) : Wc P n c Q' env h :=
 fun a w ha hh => wp_mono (hw a w ha hh) fun e a w ⟨env, x, y, z⟩ => ⟨env, x, y, hq _ _ _ z⟩

/-! ### The stack of what is left to do -/
inductive It where
 | code (c : Code)
 | blk (id : Nat)
 | stop (R : Env → Heap → Prop)

mutual
def den (P : Program) (n : Nat) (Qr : Env → Heap → Prop) : List It → Env → Heap → Prop
 | [] => Qr
 | .code c :: k => Wc P n c (fun e env h => match e with
   | .normal => den P n Qr k env h
   | .exit id => denX P n Qr id k env h
   | .ret => Qr env h
   | _ => False)
 | .blk _ :: k => den P n Qr k
 | .stop R :: _ => R
def denX (P : Program) (n : Nat) (Qr : Env → Heap → Prop) (id : Nat) : List It → Env → Heap → Prop
 | [] => fun _ _ => False
 | .code _ :: k => denX P n Qr id k
 | .blk id' :: k => if id = id' then den P n Qr k else denX P n Qr id k
 | .stop _ :: k => denX P n Qr id k
end

section rules
variable {P : Program} {n : Nat} {Qr : Env → Heap → Prop} {k : List It} {env : Env} {h : Heap}

theorem den_nil : Qr env h → den P n Qr [] env h := by intro hh; simpa [den] using hh
theorem den_blk {id : Nat} (hh : den P n Qr k env h) : den P n Qr (.blk id :: k) env h := by simpa [den] using hh
theorem den_stop {R : Env → Heap → Prop} (hh : R env h) : den P n Qr (.stop R :: k) env h := by simpa [den] using hh
theorem den_skip (hh : den P n Qr k env h) : den P n Qr (.code .skip :: k) env h := by
 rw [den]
 exact fun a w ha e => wp_skip ⟨env, ha, Fr.refl w, by subst e; exact hh⟩
theorem den_ret (hh : Qr env h) : den P n Qr (.code .ret :: k) env h := by
 rw [den]
 exact fun a w ha e => wp_ret ⟨env, ha, Fr.refl w, by subst e; exact hh⟩
theorem den_exit {id : Nat} (hh : denX P n Qr id k env h) : den P n Qr (.code (.exit id) :: k) env h := by
 rw [den]
 exact fun a w ha e => wp_exit ⟨env, ha, Fr.refl w, by subst e; exact hh⟩
theorem denX_hit {id : Nat} (hh : den P n Qr k env h) : denX P n Qr id (.blk id :: k) env h := by simpa [denX] using hh
theorem denX_code {id : Nat} {c : Code} (hh : denX P n Qr id k env h) : denX P n Qr id (.code c :: k) env h := by simpa [denX] using hh
theorem denX_stop {id : Nat} {R : Env → Heap → Prop} (hh : denX P n Qr id k env h) : denX P n Qr id (.stop R :: k) env h := by simpa [denX] using hh

theorem den_seq {c d : Code} (hh : den P n Qr (.code c :: .code d :: k) env h) : den P n Qr (.code (c.seq d) :: k) env h := by
 rw [den] at hh ⊢
 refine fun a w ha e => wp_seq (wp_mono (hh a w ha e) ?_)
 intro x a1 w1 hq
 obtain ⟨env1, ha1, hf1, hq⟩ := hq
 cases x with
 | normal =>
  show d.wp P _ a1 w1
  rw [den] at hq
  refine wp_mono (hq a1 w1 ha1 rfl) ?_
  intro y a2 w2 hq2
  exact KQ.rebase hf1 y a2 w2 hq2
 | exit id => exact ⟨env1, ha1, hf1, by simpa [denX] using hq⟩
 | ret => exact ⟨env1, ha1, hf1, hq⟩
 | goto l => exact hq.elim
 | panic c => exact hq.elim
 | outgrown => exact hq.elim

theorem den_block {id : Nat} {c : Code} (hh : den P n Qr (.code c :: .blk id :: k) env h) : den P n Qr (.code (.block id c) :: k) env h := by
 rw [den] at hh ⊢
 refine fun a w ha e => wp_block (wp_mono (hh a w ha e) ?_)
 intro x a1 w1 hq
 obtain ⟨env1, ha1, hf1, hq⟩ := hq
 cases x with
 | normal => exact ⟨env1, ha1, hf1, by simpa [den] using hq⟩
 | exit id' =>
  simp only [denX] at hq
  simp only [Exit.inBlock]
  by_cases e : id' = id
  ·subst e
   rw [if_pos rfl] at hq ⊢
   exact ⟨env1, ha1, hf1, hq⟩
  ·rw [if_neg e] at hq ⊢
   exact ⟨env1, ha1, hf1, hq⟩
 | ret => exact ⟨env1, ha1, hf1, hq⟩
 | goto l => exact hq.elim
 | panic c => exact hq.elim
 | outgrown => exact hq.elim

theorem den_cond {x : Operand} {c d : Code} {b : Bool} (hx : ev env x = .bool b) (ht : b = true → den P n Qr (.code c :: k) env h) (hf : b = false → den P n Qr (.code d :: k) env h) :
  den P n Qr (.code (.cond x c d) :: k) env h := by
 rw [den]
 refine fun a w ha e => wp_cond (t := b) (by rw [ha.eval]; exact hx) ?_
 cases b with
 | true => have := ht rfl; rw [den] at this; exact this a w ha e
 | false => have := hf rfl; rw [den] at this; exact this a w ha e

/-- Ways meet again: what holds there, J. -/
theorem den_join {c : Code} (J : Env → Heap → Prop) (h1 : den P n Qr (.code c :: .stop J :: k) env h) (h2 : ∀ env h, J env h → den P n Qr k env h) : den P n Qr (.code c :: k) env h := by
 rw [den] at h1 ⊢
 refine h1.mono ?_
 intro e env h hq
 cases e with
 | normal => exact h2 _ _ (by simpa [den] using hq)
 | exit id => simpa [denX] using hq
 | ret => exact hq
 | goto l => exact hq
 | panic c => exact hq
 | outgrown => exact hq
def denQ (P : Program) (n : Nat) (Qr : Env → Heap → Prop) (k : List It) : Exit → Env → Heap → Prop
 | .normal, env, h => den P n Qr k env h
 | .exit id, env, h => denX P n Qr id k env h
 | .ret, env, h => Qr env h
 | _, _, _ => False
theorem den_code {c : Code} (hh : Wc P n c (denQ P n Qr k) env h) : den P n Qr (.code c :: k) env h := by
 rw [den]
 refine hh.mono ?_
 intro e env h hq
 cases e <;> exact hq
theorem den_sel (ts : List Nat) (hh : ∀ e, den P n Qr k (puts e (sel env ts)) h) : den P n Qr k env h := by
 have := hh env
 rwa [(hasL_sel env ts).puts] at this
@[congr] theorem den_congr {env' : Env} (e : env = env') : den P n Qr k env h = den P n Qr k env' h := by rw [e]

/-- A loop over states s: the slots that it turns hold 'st s', those of lc stay. -/
theorem den_loopS {σ : Type} {e : Env} {lc : List (Nat × Value)} {c : Code} (st : σ → List (Nat × Value)) (I : σ → Heap → Prop) (μ : σ → Nat) (s0 : σ) (hI : I s0 h)
  (round : ∀ s h e, I s h → den P n Qr (.code c :: .stop (fun env' h' => ∃ s', HasL env' (st s' ++ lc) ∧ I s' h' ∧ μ s' < μ s) :: k) (puts e (st s ++ lc)) h) :
  den P n Qr (.code (.loop c) :: k) (puts e (st s0 ++ lc)) h := by
 rw [den]
 intro a w ha e0
 subst e0
 refine wp_loop_ghost (fun m a' w' => ∃ s' e', μ s' = m ∧ Agree n a' (puts e' (st s' ++ lc)) ∧ Fr w w' ∧ I s' w'.heap) (μ s0) ⟨s0, e, rfl, ha, Fr.refl w, hI⟩ ?_
 rintro m a1 w1 ⟨s1, e1, hm, ha1, hf1, hI1⟩
 have hh := round s1 w1.heap e1 hI1
 rw [den] at hh
 refine wp_mono (hh a1 w1 ha1 rfl) ?_
 intro x a2 w2 hq
 obtain ⟨env2, ha2, hf2, hq⟩ := hq
 cases x with
 | normal =>
  simp only [den] at hq
  obtain ⟨s2, hl, hI2, hlt⟩ := hq
  refine ⟨μ s2, by omega, s2, env2, rfl, ?_, hf1.trans hf2, hI2⟩
  rw [hl.puts]; exact ha2
 | exit id => exact ⟨env2, ha2, hf1.trans hf2, by simpa [denX] using hq⟩
 | ret => exact ⟨env2, ha2, hf1.trans hf2, hq⟩
 | goto l => exact hq.elim
 | panic c => exact hq.elim
 | outgrown => exact hq.elim
end rules
end Go.Proofs.Ytacajcjibhifmaa

namespace Go.Proofs.Ytacajcjibhifmaa
open Go

structure TI where
 desc : TypeDesc
 size : Nat
 bytes : Nat
 zero : Value

def TOk (P : Program) (T : TypeId → Option TI) : Prop :=
 ∀ t i, T t = some i → P.underlying t = some i.desc ∧ ∃ f, P.info? t = some f ∧ f.size = i.size ∧ f.bytes = i.bytes ∧ f.zero = some i.zero ∧ (i.size = 594 → P.stoodInHeld t = false ∧ P.eqGuardType P.depth t = false)

def hw (h : Heap) : World := { heap := h, tape := fun _ _ => 0, drawn := 0, os := default, output := #[] }
def hcell (h : Heap) (a : Addr) : Option Value := (hw h).cell? a
def hfrozen (h : Heap) (a : Addr) : Bool := (hw h).frozen? a
def hset (h : Heap) (a : Addr) (v : Value) : Heap := ((hw h).setCell a v).heap
theorem cell_hw (w : World) (a : Addr) : w.cell? a = hcell w.heap a := rfl
def isAggD : TypeDesc → Bool
 | .struct _ | .array _ _ => true
 | _ => false

/-- n cells from a on. -/
def hcells (h : Heap) (a : Addr) : Nat → Nat → Option (List Value)
 | _, 0 => some []
 | i, n + 1 => (hcell h (a.add i)).bind fun v => (hcells h a (i + 1) n).map (v :: ·)
def hputs (a : Addr) : Heap → Nat → List Value → Option Heap
 | h, _, [] => some h
 | h, i, v :: r => if (hcell h (a.add i)).isSome = true ∧ hfrozen h (a.add i) = false ∧ v.oneCell' = true then hputs a (hset h (a.add i) v) (i + 1) r else none

theorem run_hcells {P : Program} (w : World) (a : Addr) : ∀ (n i : Nat) (cs : List Value) (acc : Array Value), hcells w.heap a i n = some cs → (loadCellsFrom a i n acc).run P w = .ok (acc ++ cs.toArray) w
 | 0, i, cs, acc, h => by
  simp [hcells] at h; subst h; simp [loadCellsFrom]
 | n + 1, i, cs, acc, h => by
  simp only [hcells, Option.bind_eq_some_iff, Option.map_eq_some_iff] at h
  obtain ⟨v, hv, r, hr, rfl⟩ := h
  simp only [loadCellsFrom, Sem.run_bind, run_load, cell_hw, hv, Result.andThen_ok]
  rw [run_hcells w a n (i + 1) r _ hr]
  simp

theorem run_hputs {P : Program} (a : Addr) : ∀ (vs : List Value) (i : Nat) (w : World) (h' : Heap), hputs a w.heap i vs = some h' → (storeCells a vs i).run P w = .ok () { w with heap := h' }
 | [], i, w, h', h => by
  simp [hputs] at h; subst h; simp [storeCells]
 | v :: r, i, w, h', h => by
  simp only [hputs] at h
  split at h
  ·rename_i hc
   obtain ⟨h1, h2, h3⟩ := hc
   obtain ⟨u, hu⟩ := Option.isSome_iff_exists.1 h1
   have e1 : w.cell? (a.add i) = some u := hu
   have e2 : w.frozen? (a.add i) = false := h2
   simp only [storeCells, Sem.run_bind, store]
   have hs : (Sem.store .plain (a.add i) v (Sem.pure ())).run P w = .ok () (w.setCell (a.add i) v) := by
    cases v <;> simp [Value.oneCell'] at h3 <;> simp [Sem.run, e1, e2]
   rw [hs]
   simp only [Result.andThen_ok]
   rw [run_hputs a r (i + 1) (w.setCell (a.add i) v) h' h]
   rfl
  ·cases h

abbrev Tab := TypeId → Option TI

def loadV (T : Tab) (h : Heap) (t : TypeId) (a : Addr) : Option Value :=
 (T t).bind fun i => if isAggD i.desc then (hcells h a 0 i.size).map fun cs => .agg cs.toArray else hcell h a
def storeV (T : Tab) (h : Heap) (t : TypeId) (a : Addr) (v : Value) : Option Heap :=
 (T t).bind fun i => if v.cells.size = i.size then hputs a h 0 v.cells.toList else none

section
variable {P : Program} {T : Tab} (hT : TOk P T)
include hT

theorem run_under {t : TypeId} {i : TI} (h : T t = some i) (w : World) : (underlying t).run P w = .ok i.desc w := run_underlying (hT t i h).1 w
theorem run_isAgg {t : TypeId} {i : TI} (h : T t = some i) (w : World) : (isAgg t).run P w = .ok (isAggD i.desc) w := by
 unfold isAgg
 simp only [Sem.run_bind, run_under hT h, Result.andThen_ok]
 cases i.desc <;> rfl
theorem run_sizeT {t : TypeId} {i : TI} (h : T t = some i) (w : World) : (sizeOf t).run P w = .ok i.size w := by
 obtain ⟨_, f, hf, h1, h2, h3, _⟩ := hT t i h
 simp [sizeOf, run_typeInfo _ hf, h1]
theorem run_zeroT {t : TypeId} {i : TI} (h : T t = some i) (w : World) : (zeroValue t).run P w = .ok i.zero w := by
 obtain ⟨_, f, hf, h1, h2, h3, _⟩ := hT t i h
 simp [zeroValue, run_typeInfo _ hf, h3]
theorem run_loadT {t : TypeId} {a : Addr} {v : Value} (w : World) (h : loadV T w.heap t a = some v) : (loadVar t a).run P w = .ok v w := by
 unfold loadV at h
 obtain ⟨i, hi, h⟩ := Option.bind_eq_some_iff.1 h
 unfold loadVar
 simp only [Sem.run_bind, run_isAgg hT hi, Result.andThen_ok]
 split at h
 ·rename_i hg
  obtain ⟨cs, hc, rfl⟩ := Option.map_eq_some_iff.1 h
  simp only [hg, if_true, Sem.run_bind, run_sizeT hT hi, Result.andThen_ok, loadCells, run_hcells w a _ _ _ _ hc]
  simp
 ·rename_i hg
  simp only [hg, if_false, Bool.false_eq_true, run_load, cell_hw, h]
theorem run_storeT {t : TypeId} {a : Addr} {v : Value} (w : World) {h' : Heap} (h : storeV T w.heap t a v = some h') : (storeVar t a v).run P w = .ok () { w with heap := h' } := by
 unfold storeV at h
 obtain ⟨i, hi, h⟩ := Option.bind_eq_some_iff.1 h
 split at h
 ·rename_i hs
  unfold storeVar
  simp only [Sem.run_bind, run_sizeT hT hi, Result.andThen_ok, hs, ne_eq, not_true_eq_false, if_false, Sem.run_pure]
  exact run_hputs a _ 0 w h' h
 ·cases h
end

/-! ### One operation -/
def asB : Value → Option Bool
 | .bool b => some b
 | _ => none
def asI : Value → Option (IntKind × Int)
 | .int k n => some (k, n)
 | _ => none
theorem asI_some {v : Value} {q : IntKind × Int} (h : asI v = some q) : v = .int q.1 q.2 := by
 cases v <;> simp [asI] at h
 subst h; rfl
def asAd : Value → Option Addr
 | .pointer (some a) => some a
 | _ => none

theorem asAd_some {v : Value} {a : Addr} (h : asAd v = some a) : v = .pointer (some a) := by
 cases v <;> simp [asAd] at h
 rename_i o
 cases o <;> simp [asAd] at h
 subst h; rfl
theorem asB_some {v : Value} {b : Bool} (h : asB v = some b) : v = .bool b := by
 cases v <;> simp [asB] at h
 subst h; rfl

def fieldsPl (T : Tab) (fs : Array Field) : Option (List (Nat × Nat)) := fs.toList.mapM fun f => (T f.type).map fun i => (f.offset, i.size)

def buildV (T : Tab) (t : TypeId) (parts : List (Nat × Value)) : Option Value :=
 (T t).bind fun i => match i.desc with
  | .struct fs => (fieldsPl T fs).bind fun pl => (Instr.fill (pl[·]?) i.zero.cells parts).map .agg
  | .array _ e => (T e).bind fun j => (Instr.fill (fun q => some (q * j.size, j.size)) i.zero.cells parts).map .agg
  | _ => none
def buildSliceV (T : Tab) (h : Heap) (t : TypeId) (len : Nat) (parts : List (Nat × Value)) : Option (Value × Heap) :=
 (T t).bind fun i => match i.desc with
  | .slice e => (T e).bind fun j =>
   if len * j.size ≤ 16777216 then
    (Instr.fill (fun q => some (q * j.size, j.size)) ((Array.range (len * j.size)).map (fun q => (if len * j.size = 0 then #[] else j.zero.cells)[q % (if len * j.size = 0 then #[] else j.zero.cells).size]!)) parts).map fun cs =>
     (.slice (some ⟨h.size, 0, none⟩) len len, h.push (.cells cs e))
   else none
  | _ => none
def makeSliceV (T : Tab) (h : Heap) (t : TypeId) (l c : Value) : Option (Value × Heap) :=
 (T t).bind fun i => match i.desc with
  | .slice e => (T e).bind fun j => (asI l).bind fun l => (asI c).bind fun c =>
    if 0 ≤ l.2 ∧ l.2 ≤ c.2 ∧ j.bytes * c.2 ≤ 281474976710656 ∧ c.2 ≤ 281474976710656 then
     some (.slice (some ⟨h.size, 0, none⟩) l.2.toNat c.2.toNat, h.push (.cells ((Array.range (c.2.toNat * j.size)).map fun q => (if c.2.toNat * j.size = 0 then #[] else j.zero.cells)[q % (if c.2.toNat * j.size = 0 then #[] else j.zero.cells).size]!) e))
    else none
  | _ => none
def intV (op : BinOp) (k : IntKind) (x y : Int) : Option Value :=
 match op with
 | .add => some (.int k (k.wrap (x + y)))
 | .sub => some (.int k (k.wrap (x - y)))
 | .mul => some (.int k (k.wrap (x * y)))
 | .quo => if y = 0 then none else some (.int k (k.wrap (x.tdiv y)))
 | .rem => if y = 0 then none else some (.int k (x.tmod y))
 | .eql => some (.bool (x == y))
 | .neq => some (.bool (x != y))
 | .lss => some (.bool (x < y))
 | .leq => some (.bool (x ≤ y))
 | .gtr => some (.bool (x > y))
 | .geq => some (.bool (x ≥ y))
 | .shr => if y < 0 then none else some (.int k (x.fdiv (2 ^ min y.toNat k.bits)))
 | .and => some (.int k (k.wrap (BitVec.ofInt k.bits x &&& BitVec.ofInt k.bits y).toNat))
 | _ => none
/-- The numbers of a value that is an array of numbers. -/
def intsV (k : IntKind) (cs : Array Value) : Option (List Int) := cs.toList.mapM fun v => match v with
 | .int k' a => if k' = k then some a else none
 | _ => none
/-- The numbers of a value that holds whole numbers alone. -/
def cellsI : List Value → Option (List (IntKind × Int))
 | [] => some []
 | .int k a :: r => (cellsI r).map ((k, a) :: ·)
 | _ => none
/-- A type of whole numbers, and of arrays of them. -/
def tfl (T : Tab) : Nat → TypeId → Bool
 | 0, _ => false
 | d + 1, t => match T t with
  | none => false
  | some i => match i.desc with
   | .int _ => i.size == 1
   | .array n e => match T e with
    | none => false
    | some j => decide (n * j.size ≤ i.size) && tfl T d e
   | _ => false
def tflS (T : Tab) (fs : Array Field) (m : Nat) : Bool := fs.toList.all fun f => match T f.type with
 | none => false
 | some j => decide (f.offset + j.size ≤ m) && tfl T 5 f.type
/-- Strings: put together, compared. -/
def strV (op : BinOp) (a b : ByteArray) : Option Value := match op with
 | .add => if ((a.size + b.size : Nat) : Int) > IntKind.i64.max then none else some (.string (a ++ b))
 | .eql => some (.bool (a.toList == b.toList))
 | .neq => some (.bool (!(a.toList == b.toList)))
 | _ => none
def binV (T : Tab) (op : BinOp) (t : TypeId) (x y : Value) : Option Value :=
 match x, y with
 | .int k a, .int k' b => if k = k' then intV op k a b else none
 | .bool a, .bool b => (T t).bind fun i => match i.desc, op with
  | .bool, .eql => some (.bool (a == b))
  | .bool, .neq => some (.bool (!(a == b)))
  | _, _ => none
 | .slice a _ _, .slice b _ _ => (T t).bind fun i => match i.desc, op, a, b with
  | .slice _, .eql, none, b => some (.bool b.isNone)
  | .slice _, .neq, none, b => some (.bool (!b.isNone))
  | .slice _, .eql, some _, none => some (.bool false)
  | .slice _, .neq, some _, none => some (.bool true)
  | _, _, _, _ => none
 | .agg xs, .agg ys => (T t).bind fun i => match i.desc, op with
  | .array n e, .eql => (T e).bind fun j => match j.desc with
   | .int k => (intsV k xs).bind fun us => (intsV k ys).bind fun vs => if us.length = n ∧ vs.length = n ∧ j.size = 1 then some (.bool (us == vs)) else none
   | _ => none
  | .array n e, .neq => (T e).bind fun j => match j.desc with
   | .int k => (intsV k xs).bind fun us => (intsV k ys).bind fun vs => if us.length = n ∧ vs.length = n ∧ j.size = 1 then some (.bool (!(us == vs))) else none
   | _ => none
  | .struct fs, .neq => (cellsI xs.toList).bind fun us => (cellsI ys.toList).bind fun vs => if us = vs ∧ us.length = 594 ∧ i.size = 594 ∧ tflS T fs 594 = true then some (.bool false) else none
  | _, _ => none
 | .string a, .string b => strV op a b
 | _, _ => none
def unV (op : UnOp) (x : Value) : Option Value :=
 match op, x with
 | .neg, .int k n => some (.int k (k.wrap (0 - n)))
 | .not, .bool b => some (.bool !b)
 | _, _ => none
def bndV (v : Value) (y : Nat) : Option Nat :=
 match v with
 | .int _ i => if 0 ≤ i ∧ i ≤ y then some i.toNat else none
 | _ => none
def bndsV (len cap : Nat) (lo hi mx : Option Value) : Option (Nat × Nat × Nat) :=
 match mx with
 | some m => (bndV m cap).bind fun m => match hi with
  | some hv => (bndV hv m).bind fun hv => match lo with
   | some l => (bndV l hv).map fun l => (l, hv, m)
   | none => some (0, hv, m)
  | none => none
 | none => match hi with
  | some hv => (bndV hv cap).bind fun hv => match lo with
   | some l => (bndV l hv).map fun l => (l, hv, cap)
   | none => some (0, hv, cap)
  | none => match lo with
   | some l => (bndV l len).map fun l => (l, len, cap)
   | none => some (0, len, cap)
def sliceV (T : Tab) (t : TypeId) (x : Value) (lo hi mx : Option Value) : Option Value :=
 (T t).bind fun i => match i.desc, x with
  | .slice e, .slice a len cap => (T e).bind fun j => (bndsV len cap lo hi mx).map fun b =>
    .slice (if b.2.2 = b.1 then a else a.map (·.add (b.1 * j.size))) (b.2.1 - b.1) (b.2.2 - b.1)
  | .array n e, .pointer (some a) => (T e).bind fun j => (bndsV n n lo hi mx).map fun b =>
    .slice (some (if b.2.2 = b.1 then a else a.add (b.1 * j.size))) (b.2.1 - b.1) (b.2.2 - b.1)
  | _, _ => none
def idxAddrV (T : Tab) (t : TypeId) (x ix : Value) : Option Value :=
 (T t).bind fun i => (asI ix).bind fun q => match i.desc, x with
  | .slice e, .slice (some a) len _ => (T e).bind fun j => if 0 ≤ q.2 ∧ q.2 < len then some (.pointer (some (a.add (q.2.toNat * j.size)))) else none
  | .array len e, .pointer (some a) => (T e).bind fun j => if 0 ≤ q.2 ∧ q.2 < len then some (.pointer (some (a.add (q.2.toNat * j.size)))) else none
  | _, _ => none
def partV (T : Tab) (t : TypeId) (cs : Array Value) (off : Nat) : Option Value :=
 (T t).bind fun i => if isAggD i.desc then some (.agg (cs.extract off (off + i.size))) else cs[off]?
def fieldAddrV (T : Tab) (s : TypeId) (x : Value) (f : Nat) : Option Value :=
 (T s).bind fun i => match i.desc with
  | .struct fs => (fs[f]?).bind fun g => (T g.type).bind fun j => (asAd x).bind fun a => if j.size = 0 then none else some (.pointer (some (a.add g.offset)))
  | _ => none
def fieldV (T : Tab) (s : TypeId) (x : Value) (f : Nat) : Option Value :=
 (T s).bind fun i => match i.desc, x with
  | .struct fs, .agg cs => (fs[f]?).bind fun g => partV T g.type cs g.offset
  | _, _ => none
def indexV (T : Tab) (t : TypeId) (x ix : Value) : Option Value :=
 (T t).bind fun i => (asI ix).bind fun q => match i.desc, x with
  | .array len e, .agg cs => (T e).bind fun j => if 0 ≤ q.2 ∧ q.2 < len then partV T e cs (q.2.toNat * j.size) else none
  | _, _ => none
def lenV (T : Tab) (t : TypeId) (x : Value) : Option Value :=
 (T t).bind fun i => match i.desc, x with
  | .slice _, .slice _ n _ => some (.int .i64 n)
  | .string, .string s => some (.int .i64 s.size)
  | .array n _, _ => some (.int .i64 n)
  | _, _ => none

def capV (T : Tab) (t : TypeId) (x : Value) : Option Value :=
 (T t).bind fun i => match i.desc, x with
  | .slice _, .slice _ _ c => some (.int .i64 c)
  | _, _ => none
def nilOk : Value → Option Value
 | .pointer (some a) => some (.pointer (some a))
 | .func (.func f) a b => some (.func (.func f) a b)
 | _ => none
def convV (T : Tab) (s t : TypeId) (v : Value) : Option Value := (T s).bind fun _ => (T t).bind fun i => match i.desc, v with
  | .int k, .int _ n => some (.int k (k.wrap n))
  | _, _ => none
/-- The numbers of a slice of bytes. -/
def bytesV : List Value → Option (List Int)
 | [] => some []
 | .int .u8 n :: r => (bytesV r).map (n :: ·)
 | _ => none
theorem bytesV_map : ∀ (cs : List Value) (ns : List Int), bytesV cs = some ns → cs = ns.map (Value.int .u8)
 | [], ns, h => by simp only [bytesV, Option.some.injEq] at h; subst h; rfl
 | v :: r, ns, h => by
  unfold bytesV at h
  split at h
  ·rename_i e; cases e
  ·rename_i n r' e
   injection e with e1 e2
   subst e1; subst e2
   obtain ⟨ms, hm, rfl⟩ := Option.map_eq_some_iff.1 h
   rw [List.map_cons, ← bytesV_map _ _ hm]
  ·cases h
def strOf (ns : List Int) : ByteArray := ns.foldl (fun r n => r.push (UInt8.ofNat n.toNat)) ByteArray.empty
def convH (T : Tab) (h : Heap) (s t : TypeId) (v : Value) : Option Value := match v with
 | .slice ao n _ => (T s).bind fun i => (T t).bind fun j => match i.desc, j.desc with
  | .slice e, .string => (T e).bind fun q => match q.desc with
   | .int .u8 => match ao with
    | none => some (.string (strOf []))
    | some a => (hcells h a 0 n).bind fun cs => (bytesV cs).map fun ns => .string (strOf ns)
   | _ => none
  | _, _ => none
 | v => convV T s t v
def tupV (v : Value) (i : Nat) : Option Value := match v with
 | .tuple vs => vs[i]?
 | _ => none
def stepV (T : Tab) (op : Op) (env : Env) (h : Heap) : Option (Value × Heap) :=
 match op with
 | .move x | .assign x => some (ev env x, h)
 | .pick c a b => (asB (ev env c)).map fun t => (if t then ev env a else ev env b, h)
 | .alloc e => (T e).map fun i => (.pointer (some ⟨h.size, 0, none⟩), h.push (.cells i.zero.cells e))
 | .box e x => some (.pointer (some ⟨h.size, 0, none⟩), h.push (.cells (ev env x).cells e))
 | .build t ps => (buildV T t (ps.map fun (i, x) => (i, ev env x)).toList).map (·, h)
 | .buildSlice t len ps => buildSliceV T h t len (ps.map fun (i, x) => (i, ev env x)).toList
 | .load t x => (asAd (ev env x)).bind fun a => (loadV T h t a).map (·, h)
 | .nilCheck x => (nilOk (ev env x)).map (·, h)
 | .binOp op t x y _ => (binV T op t (ev env x) (ev env y)).map (·, h)
 | .unOp op _ x => (unV op (ev env x)).map (·, h)
 | .convert s d x => (convH T h s d (ev env x)).map (·, h)
 | .makeFunc fn f c => some (.func fn (f.map (ev env)) (c.map (ev env)), h)
 | .makeSlice t l c => makeSliceV T h t (ev env l) (ev env c)
 | .slice t x lo hi mx => (sliceV T t (ev env x) (lo.map (ev env)) (hi.map (ev env)) (mx.map (ev env))).map (·, h)
 | .fieldAddr s x f => (fieldAddrV T s (ev env x) f).map (·, h)
 | .field s x f => (fieldV T s (ev env x) f).map (·, h)
 | .indexAddr t x i => (idxAddrV T t (ev env x) (ev env i)).map (·, h)
 | .index t x i => (indexV T t (ev env x) (ev env i)).map (·, h)
 | .extract x i => (tupV (ev env x) i).map (·, h)
 | _ => none
end Go.Proofs.Ytacajcjibhifmaa

namespace Go.Proofs.Ytacajcjibhifmaa
open Go

section
variable {P : Program} {T : Tab} (hT : TOk P T)
include hT

theorem run_part {t : TypeId} {cs : Array Value} {off : Nat} {v : Value} (w : World) (h : partV T t cs off = some v) : (part t cs off).run P w = .ok v w := by
 unfold partV at h
 obtain ⟨i, hi, h⟩ := Option.bind_eq_some_iff.1 h
 unfold part
 simp only [Sem.run_bind, run_isAgg hT hi, Result.andThen_ok]
 split at h
 ·rename_i hg
  simp only [Option.some.injEq] at h
  simp [hg, run_sizeT hT hi, h]
 ·rename_i hg
  simp [hg, h]

theorem run_build {t : TypeId} {parts : List (Nat × Value)} {v : Value} (w : World) (h : buildV T t parts = some v) : (Instr.build t parts.toArray).run P w = .ok v w := by
 unfold buildV at h
 obtain ⟨i, hi, h⟩ := Option.bind_eq_some_iff.1 h
 unfold Instr.build
 simp only [Sem.run_bind, run_zeroT hT hi, run_under hT hi, Result.andThen_ok]
 split at h
 ·rename_i fs hd
  rw [hd]
  obtain ⟨pl, hpl, h⟩ := Option.bind_eq_some_iff.1 h
  obtain ⟨cs, hcs, rfl⟩ := Option.map_eq_some_iff.1 h
  have key : ∀ (l : List Field) (pl : List (Nat × Nat)), l.mapM (fun f => (T f.type).map fun i => (f.offset, i.size)) = some pl → (l.mapM (fun (f : Field) => do pure (f.offset, ← sizeOf f.type) : Field → Sem (Nat × Nat))).run P w = .ok pl w := by
   intro l
   induction l with
   | nil => intro pl h; simp at h; subst h; simp
   | cons f l ih =>
    intro pl h
    simp only [List.mapM_cons, Option.bind_eq_bind, Option.bind_eq_some_iff, Option.map_eq_some_iff, Option.pure_def, Option.some.injEq] at h
    obtain ⟨b, ⟨j, hj, rfl⟩, c, hc, rfl⟩ := h
    simp only [List.mapM_cons, Sem.run_bind, run_sizeT hT hj, Result.andThen_ok, Sem.run_pure, ih c hc]
  have e : (fs.mapM (fun (f : Field) => do pure (f.offset, ← sizeOf f.type) : Field → Sem (Nat × Nat))).run P w = .ok pl.toArray w := by
   rw [Array.mapM_eq_mapM_toList]
   simp only [Sem.run_map, key fs.toList pl hpl, Result.andThen_ok]
  simp only [Sem.run_bind, e, Result.andThen_ok]
  have e2 : (fun x : Nat => pl.toArray[x]?) = (fun x : Nat => pl[x]?) := by funext x; simp
  simp only [e2, List.toList_toArray, hcs]
  simp
 ·rename_i n e hd
  rw [hd]
  obtain ⟨j, hj, h⟩ := Option.bind_eq_some_iff.1 h
  obtain ⟨cs, hcs, rfl⟩ := Option.map_eq_some_iff.1 h
  simp only [Sem.run_bind, run_sizeT hT hj, Result.andThen_ok, hcs]
  simp
 ·cases h

theorem run_buildSlice {t : TypeId} {len : Nat} {parts : List (Nat × Value)} {v : Value} {h' : Heap} (w : World) (h : buildSliceV T w.heap t len parts = some (v, h')) :
  (Instr.buildSlice t len parts.toArray).run P w = .ok v { w with heap := h' } := by
 unfold buildSliceV at h
 obtain ⟨i, hi, h⟩ := Option.bind_eq_some_iff.1 h
 unfold Instr.buildSlice
 simp only [Sem.run_bind, run_under hT hi, Result.andThen_ok]
 split at h
 ·rename_i e hd
  rw [hd]
  obtain ⟨j, hj, h⟩ := Option.bind_eq_some_iff.1 h
  split at h
  ·rename_i hs
   obtain ⟨cs, hcs, h⟩ := Option.map_eq_some_iff.1 h
   simp only [Prod.mk.injEq] at h
   obtain ⟨rfl, rfl⟩ := h
   have hn : ¬ (len * j.size > 2 ^ 24) := by omega
   simp only [Sem.run_bind, run_sizeT hT hj, Result.andThen_ok, hn, if_false, Sem.run_pure]
   by_cases hz : len * j.size = 0
   ·simp only [hz, if_true, Sem.run_pure, Sem.run_bind, Result.andThen_ok] at hcs ⊢
    simp only [hcs]
    simp [newRow]
   ·simp only [hz, if_false, Sem.run_bind, run_zeroT hT hj, Sem.run_pure, Result.andThen_ok] at hcs ⊢
    simp only [hcs]
    simp [newRow]
  ·cases h
 ·cases h

omit hT in
theorem wrap_id {x : Int} (h : -9223372036854775808 ≤ x ∧ x ≤ 9223372036854775807) : IntKind.i64.wrap x = x := IntWalk.i64_in _ h

theorem run_makeSlice {t : TypeId} {l c v : Value} {h' : Heap} (w : World) (h : makeSliceV T w.heap t l c = some (v, h')) : (Instr.makeSlice t l c).run P w = .ok v { w with heap := h' } := by
 unfold makeSliceV at h
 obtain ⟨i, hi, h⟩ := Option.bind_eq_some_iff.1 h
 split at h
 ·rename_i e hd
  obtain ⟨j, hj, h⟩ := Option.bind_eq_some_iff.1 h
  obtain ⟨⟨k1, lv⟩, hl, h⟩ := Option.bind_eq_some_iff.1 h
  obtain ⟨⟨k2, cv⟩, hc, h⟩ := Option.bind_eq_some_iff.1 h
  have el := asI_some hl
  have ec := asI_some hc
  dsimp only at el ec h
  rw [el, ec]
  clear el ec hl hc
  generalize lv = l at *
  generalize cv = c at *
  split at h
  ·rename_i hc
   obtain ⟨h1, h2, h3, h4⟩ := hc
   simp only [Option.some.injEq, Prod.mk.injEq] at h
   obtain ⟨rfl, rfl⟩ := h
   obtain ⟨_, f, hf, e1, e2, e3, _⟩ := hT e j hj
   unfold Instr.makeSlice
   have w1 : IntKind.i64.wrap l = l := IntWalk.i64_in _ (by omega)
   have w2 : IntKind.i64.wrap c = c := IntWalk.i64_in _ (by omega)
   simp only [Sem.run_bind, run_under hT hi, Result.andThen_ok, hd, asInt, asIntOf, Sem.run_pure, run_typeInfo _ hf, w1, w2]
   have b1 : (decide (c < 0) || decide ((f.bytes : Int) * c > 2 ^ 48)) = false := by
    rw [e2]; simp; omega
   have b2 : decide (l < 0) = false := by simp; omega
   have b3 : decide (l > c) = false := by simp; omega
   simp only [b1, b2, b3, Bool.or_self, Bool.false_eq_true, if_false, Sem.run_pure, Sem.run_bind, run_askRoom, Result.andThen_ok, run_sizeT hT hj]
   by_cases hz : c.toNat * j.size = 0
   ·simp only [hz, if_true, Sem.run_pure, Sem.run_bind, Result.andThen_ok]
    simp [newRow]
   ·simp only [hz, if_false, Sem.run_bind, run_zeroT hT hj, Sem.run_pure, Result.andThen_ok]
    simp [newRow]
  ·cases h
 ·cases h

omit hT in
theorem run_bnd {v : Value} {y n : Nat} (code : BoundsCode) (w : World) (h : bndV v y = some n) : (Instr.sliceBound v y code).run P w = .ok n w := by
 unfold bndV at h
 split at h
 ·rename_i k i
  split at h
  ·rename_i hc
   simp only [Option.some.injEq] at h
   subst h
   unfold Instr.sliceBound
   simp only [Sem.run_bind, asIntOf, Sem.run_pure, Result.andThen_ok, hc, if_true, and_self]
  ·cases h
 ·cases h
omit hT in
theorem run_bnds {len cap : Nat} {lo hi mx : Option Value} {b : Nat × Nat × Nat} (isS : Bool) (w : World) (h : bndsV len cap lo hi mx = some b) :
  (Instr.sliceBounds isS len cap lo hi mx).run P w = .ok b w := by
 unfold bndsV at h
 unfold Instr.sliceBounds
 cases mx with
 | some m =>
  obtain ⟨m1, hm, h⟩ := Option.bind_eq_some_iff.1 h
  cases hi with
  | none => cases h
  | some hv =>
   obtain ⟨h1, hh, h⟩ := Option.bind_eq_some_iff.1 h
   cases lo with
   | none =>
    simp only [Option.some.injEq] at h
    subst h
    simp only [Sem.run_bind, run_bnd _ w hm, run_bnd _ w hh, Result.andThen_ok, Sem.run_pure]
   | some l =>
    obtain ⟨l1, hl, h⟩ := Option.map_eq_some_iff.1 h
    subst h
    simp only [Sem.run_bind, run_bnd _ w hm, run_bnd _ w hh, run_bnd _ w hl, Result.andThen_ok, Sem.run_pure]
 | none =>
  cases hi with
  | none =>
   cases lo with
   | none =>
    simp only [Option.some.injEq] at h
    subst h
    simp only [Sem.run_bind, Result.andThen_ok, Sem.run_pure]
   | some l =>
    obtain ⟨l1, hl, h⟩ := Option.map_eq_some_iff.1 h
    subst h
    simp only [Sem.run_bind, run_bnd _ w hl, Result.andThen_ok, Sem.run_pure]
  | some hv =>
   obtain ⟨h1, hh, h⟩ := Option.bind_eq_some_iff.1 h
   cases lo with
   | none =>
    simp only [Option.some.injEq] at h
    subst h
    simp only [Sem.run_bind, run_bnd _ w hh, Result.andThen_ok, Sem.run_pure]
   | some l =>
    obtain ⟨l1, hl, h⟩ := Option.map_eq_some_iff.1 h
    subst h
    simp only [Sem.run_bind, run_bnd _ w hh, run_bnd _ w hl, Result.andThen_ok, Sem.run_pure]

theorem run_sliceV {t : TypeId} {x v : Value} {lo hi mx : Option Value} (w : World) (h : sliceV T t x lo hi mx = some v) : (Instr.sliceAt t x lo hi mx).run P w = .ok v w := by
 unfold sliceV at h
 obtain ⟨i, hi, hz_⟩ := Option.bind_eq_some_iff.1 h
 clear h
 have h := hz_
 clear hz_
 unfold Instr.sliceAt
 simp only [Sem.run_bind, run_under hT hi, Result.andThen_ok]
 split at h
 ·rename_i e a len cap hd
  obtain ⟨j, hj, hz_⟩ := Option.bind_eq_some_iff.1 h
  clear h
  have h := hz_
  clear hz_
  obtain ⟨b, hb, hz_⟩ := Option.map_eq_some_iff.1 h
  clear h
  have h := hz_
  clear hz_
  subst h
  rw [hd]
  dsimp only
  unfold Instr.slice
  simp only [Sem.run_bind, run_under hT hi, Result.andThen_ok, hd, run_bnds true w hb, run_sizeT hT hj, Sem.run_pure]
 ·rename_i n e a hd
  obtain ⟨j, hj, hz_⟩ := Option.bind_eq_some_iff.1 h
  clear h
  have h := hz_
  clear hz_
  obtain ⟨b, hb, hz_⟩ := Option.map_eq_some_iff.1 h
  clear h
  have h := hz_
  clear hz_
  subst h
  rw [hd]
  simp only [Sem.run_bind, Instr.sureAddr, Result.andThen_ok, run_bnds false w hb, run_sizeT hT hj, Sem.run_pure]
 ·cases h

theorem run_idxAddr {t : TypeId} {x ix v : Value} (w : World) (h : idxAddrV T t x ix = some v) : (Instr.indexAt t x ix).run P w = .ok v w := by
 unfold idxAddrV at h
 obtain ⟨i, hi, hz_⟩ := Option.bind_eq_some_iff.1 h
 clear h
 have h := hz_
 clear hz_
 obtain ⟨⟨k, q⟩, hq, hz_⟩ := Option.bind_eq_some_iff.1 h
 clear h
 have h := hz_
 clear hz_
 have eq := asI_some hq
 dsimp only at eq h
 rw [eq]
 unfold Instr.indexAt
 simp only [Sem.run_bind, run_under hT hi, Result.andThen_ok, asIntOf, Sem.run_pure]
 split at h
 ·rename_i e a len cap hd
  obtain ⟨j, hj, hz_⟩ := Option.bind_eq_some_iff.1 h
  clear h
  have h := hz_
  clear hz_
  split at h
  ·rename_i hc
   simp only [Option.some.injEq] at h
   subst h
   rw [hd]
   simp only [Sem.run_pure, Result.andThen_ok, hc, and_self, if_true, Sem.run_bind, run_sizeT hT hj, run_under hT hi]
  ·cases h
 ·rename_i len e a hd
  obtain ⟨j, hj, hz_⟩ := Option.bind_eq_some_iff.1 h
  clear h
  have h := hz_
  clear hz_
  split at h
  ·rename_i hc
   simp only [Option.some.injEq] at h
   subst h
   rw [hd]
   simp only [Instr.sureAddr, Sem.run_bind, Sem.run_pure, Result.andThen_ok, hc, and_self, if_true, run_sizeT hT hj, run_under hT hi]
  ·cases h
 ·cases h

theorem run_fieldAddr {s : TypeId} {x v : Value} {f : Nat} (w : World) (h : fieldAddrV T s x f = some v) : (Instr.fieldAt s x f).run P w = .ok v w := by
 unfold fieldAddrV at h
 obtain ⟨i, hi, hz_⟩ := Option.bind_eq_some_iff.1 h
 clear h
 have h := hz_
 clear hz_
 unfold Instr.fieldAt
 simp only [Sem.run_bind, run_under hT hi, Result.andThen_ok]
 split at h
 ·rename_i fs hd
  obtain ⟨g, hg, hz_⟩ := Option.bind_eq_some_iff.1 h
  clear h
  have h := hz_
  clear hz_
  obtain ⟨j, hj, hz_⟩ := Option.bind_eq_some_iff.1 h
  clear h
  have h := hz_
  clear hz_
  obtain ⟨a, ha, hz_⟩ := Option.bind_eq_some_iff.1 h
  clear h
  have h := hz_
  clear hz_
  have ea := asAd_some ha
  split at h
  ·cases h
  ·rename_i hz
   simp only [Option.some.injEq] at h
   subst h
   rw [hd, ea]
   simp only [hg, Instr.sureAddr, fieldPlace, Sem.run_bind, Sem.run_pure, Result.andThen_ok, run_sizeT hT hj, hz, if_false]
 ·cases h

theorem run_fieldV {s : TypeId} {x v : Value} {f : Nat} (w : World) (h : fieldV T s x f = some v) : (Instr.field s x f).run P w = .ok v w := by
 unfold fieldV at h
 obtain ⟨i, hi, hz_⟩ := Option.bind_eq_some_iff.1 h
 clear h
 have h := hz_
 clear hz_
 unfold Instr.field
 simp only [Sem.run_bind, run_under hT hi, Result.andThen_ok]
 split at h
 ·rename_i fs cs hd
  obtain ⟨g, hg, hz_⟩ := Option.bind_eq_some_iff.1 h
  clear h
  have h := hz_
  clear hz_
  rw [hd]
  simp only [hg, asAgg, Sem.run_bind, Sem.run_pure, Result.andThen_ok, run_part hT w h]
 ·cases h

theorem run_indexV {t : TypeId} {x ix v : Value} (w : World) (h : indexV T t x ix = some v) : (Instr.index t x ix).run P w = .ok v w := by
 unfold indexV at h
 obtain ⟨i, hi, hz_⟩ := Option.bind_eq_some_iff.1 h
 clear h
 have h := hz_
 clear hz_
 obtain ⟨⟨k, q⟩, hq, hz_⟩ := Option.bind_eq_some_iff.1 h
 clear h
 have h := hz_
 clear hz_
 have eq := asI_some hq
 dsimp only at eq h
 rw [eq]
 unfold Instr.index
 simp only [Sem.run_bind, run_under hT hi, Result.andThen_ok, asIntOf, Sem.run_pure]
 split at h
 ·rename_i len e cs hd
  obtain ⟨j, hj, hz_⟩ := Option.bind_eq_some_iff.1 h
  clear h
  have h := hz_
  clear hz_
  split at h
  ·rename_i hc
   rw [hd]
   simp only [hc, and_self, if_true, Sem.run_bind, run_sizeT hT hj, Result.andThen_ok, run_part hT w h]
  ·cases h
 ·cases h

omit hT in
theorem run_intV {op : BinOp} {k : IntKind} {x y : Int} {v : Value} (w : World) (t : TypeId) (h : intV op k x y = some v) : (binOp op t (.int k x) (.int k y)).run P w = .ok v w := by
 cases op <;> simp only [intV, Option.some.injEq, reduceCtorEq] at h <;> (try subst h) <;> (try simp [binOp, Op.intArith, Op.intCmp, Op.intBits]) <;> (split at h) <;> (try cases h)
 all_goals
  rename_i hz
  simp [binOp, Op.intDiv, Op.shift, hz]

omit hT in
theorem binOp_eq_bool (t : TypeId) (a b : Bool) : binOp .eql t (.bool a) (.bool b) = (do pure (.bool (← Op.equal t (.bool a) (.bool b)))) := rfl
omit hT in
theorem binOp_ne_bool (t : TypeId) (a b : Bool) : binOp .neq t (.bool a) (.bool b) = (do pure (.bool (!(← Op.equal t (.bool a) (.bool b))))) := rfl
omit hT in
theorem binOp_eq_sl (t : TypeId) (a b : Option Addr) (n c n' c' : Nat) : binOp .eql t (.slice a n c) (.slice b n' c') = (do pure (.bool (← Op.equal t (.slice a n c) (.slice b n' c')))) := rfl
omit hT in
theorem binOp_ne_sl (t : TypeId) (a b : Option Addr) (n c n' c' : Nat) : binOp .neq t (.slice a n c) (.slice b n' c') = (do pure (.bool (!(← Op.equal t (.slice a n c) (.slice b n' c'))))) := rfl
theorem run_equal_bool {t : TypeId} {i : TI} (hi : T t = some i) (hd : i.desc = .bool) (a b : Bool) (w : World) : (Op.equal t (.bool a) (.bool b)).run P w = .ok (a == b) w := by
 unfold Op.equal Op.maxDepth
 rw [show (10000 : Nat) = 9999 + 1 from rfl]
 unfold Op.equalIn
 simp only [Sem.run_bind, run_under hT hi, Result.andThen_ok, hd, Sem.run_pure]
theorem run_equal_sl {t : TypeId} {i : TI} {e : TypeId} (hi : T t = some i) (hd : i.desc = .slice e) (b : Option Addr) (n c n' c' : Nat) (w : World) : (Op.equal t (.slice none n c) (.slice b n' c')).run P w = .ok b.isNone w := by
 unfold Op.equal Op.maxDepth
 rw [show (10000 : Nat) = 9999 + 1 from rfl]
 unfold Op.equalIn
 simp only [Sem.run_bind, run_under hT hi, Result.andThen_ok, hd, Sem.run_pure]
theorem run_equal_sl' {t : TypeId} {i : TI} {e : TypeId} (hi : T t = some i) (hd : i.desc = .slice e) (a : Addr) (n c n' c' : Nat) (w : World) : (Op.equal t (.slice (some a) n c) (.slice none n' c')).run P w = .ok false w := by
 unfold Op.equal Op.maxDepth
 rw [show (10000 : Nat) = 9999 + 1 from rfl]
 unfold Op.equalIn
 simp only [Sem.run_bind, run_under hT hi, Result.andThen_ok, hd, Sem.run_pure]

omit hT in
theorem intsV_get {k : IntKind} : ∀ {l : List Value} {us : List Int}, (l.mapM fun v => match v with
 | .int k' a => if k' = k then some a else none
 | _ => none) = some us → l.length = us.length ∧ ∀ i, i < us.length → l[i]? = some (.int k (us.getD i 0))
 | [], us, h => by
  simp only [List.mapM_nil, Option.pure_def, Option.some.injEq] at h
  subst h; simp
 | v :: l, us, h => by
  simp only [List.mapM_cons, Option.bind_eq_bind, Option.bind_eq_some_iff, Option.pure_def, Option.some.injEq] at h
  obtain ⟨a, ha, us', hu, rfl⟩ := h
  obtain ⟨h1, h2⟩ := intsV_get hu
  refine ⟨by simp [h1], fun i hi => ?_⟩
  cases i with
  | zero =>
   cases v <;> simp at ha
   simp [ha.1, ha.2]
  | succ i =>
   have := h2 i (by simpa using hi)
   simpa using this
omit hT in
theorem all_range_int : ∀ (xs ys : List Int), xs.length = ys.length → ((List.range xs.length).all fun i => xs.getD i 0 == ys.getD i 0) = (xs == ys)
 | [], [], _ => rfl
 | x :: xs, y :: ys, h => by
  have ih := all_range_int xs ys (by simpa using h)
  rw [List.length_cons, List.range_succ_eq_map, List.all_cons, List.all_map]
  simp only [List.getD_cons_zero, Function.comp_def, List.getD_cons_succ, ih]
  simp [List.cons_beq_cons]
 | [], _ :: _, h => by simp at h
 | _ :: _, [], h => by simp at h
omit hT in
theorem binOp_eq_agg (t : TypeId) (xs ys : Array Value) : binOp .eql t (.agg xs) (.agg ys) = (do pure (.bool (← Op.equal t (.agg xs) (.agg ys)))) := rfl
omit hT in
theorem binOp_ne_agg (t : TypeId) (xs ys : Array Value) : binOp .neq t (.agg xs) (.agg ys) = (do pure (.bool (!(← Op.equal t (.agg xs) (.agg ys))))) := rfl
theorem run_equal_arr {t e : TypeId} {i j : TI} {n : Nat} {k : IntKind} (hi : T t = some i) (hd : i.desc = .array n e) (hj : T e = some j) (hk : j.desc = .int k) (hs : j.size = 1) {xs ys : Array Value} {us vs : List Int} (hx : intsV k xs = some us) (hy : intsV k ys = some vs) (hu : us.length = n) (hv : vs.length = n) (w : World) :
  (Op.equal t (.agg xs) (.agg ys)).run P w = .ok (us == vs) w := by
 obtain ⟨_, gx⟩ := intsV_get hx
 obtain ⟨_, gy⟩ := intsV_get hy
 unfold Op.equal Op.maxDepth
 rw [show (10000 : Nat) = 9998 + 1 + 1 from rfl]
 rw [← all_range_int us vs (hu.trans hv.symm), hu, List.range_eq_range', Op.equalIn]
 simp only [Sem.run_bind, run_under hT hi, Result.andThen_ok, hd, run_sizeT hT hj, hs, Std.Legacy.Range.forIn_eq_forIn_range', Std.Legacy.Range.size, Nat.sub_zero, Nat.add_sub_cancel, Nat.div_one]
 have hl : ∀ q ∈ List.range' 0 n 1, q < n := fun q hq => by simpa using (List.mem_range'_1.1 hq).2
 generalize List.range' 0 n 1 = l at hl ⊢
 induction l with
 | nil => simp
 | cons q l ih =>
  have hq : q < n := hl q (by simp)
  have px : (part e xs (q * 1)).run P w = .ok (.int k (us.getD q 0)) w := run_part hT w (by
   have := gx q (by omega)
   simp [partV, hj, hk, isAggD, ← Array.getElem?_toList, this])
  have py : (part e ys (q * 1)).run P w = .ok (.int k (vs.getD q 0)) w := run_part hT w (by
   have := gy q (by omega)
   simp [partV, hj, hk, isAggD, ← Array.getElem?_toList, this])
  have pe : (Op.equalIn (9998 + 1) e (.int k (us.getD q 0)) (.int k (vs.getD q 0))).run P w = .ok (us.getD q 0 == vs.getD q 0) w := by
   rw [Op.equalIn]
   simp only [Sem.run_bind, run_under hT hj, Result.andThen_ok, hk, if_true, Sem.run_pure]
  simp only [List.forIn_cons, Sem.run_bind, px, py, pe, Result.andThen_ok, List.all_cons]
  cases hb : (us.getD q 0 == vs.getD q 0)
  ·simp
  ·simp only [Bool.not_true, Bool.false_eq_true, if_false, Sem.run_pure, Result.andThen_ok, Bool.true_and]
   exact ih fun j hj => hl j (by simp [hj])
omit hT in
theorem cellsI_eq : ∀ {cs : List Value} {us : List (IntKind × Int)}, cellsI cs = some us → cs = us.map fun p => Value.int p.1 p.2
 | [], us, h => by simp only [cellsI, Option.some.injEq] at h; subst h; rfl
 | v :: r, us, h => by
  unfold cellsI at h
  split at h
  ·rename_i e; cases e
  ·rename_i k a r' e
   injection e with e1 e2
   subst e1; subst e2
   obtain ⟨ms, hm, rfl⟩ := Option.map_eq_some_iff.1 h
   rw [List.map_cons, ← cellsI_eq hm]
  ·cases h
def mkI (us : List (IntKind × Int)) : Array Value := (us.map fun p => Value.int p.1 p.2).toArray
/-- A value of a type of whole numbers or arrays of them. -/
def okI (i : TI) (v : Value) : Prop := (isAggD i.desc = false ∧ ∃ k a, v = .int k a) ∨ (isAggD i.desc = true ∧ ∃ us : List (IntKind × Int), v = .agg (mkI us) ∧ us.length = i.size)
omit hT in
theorem tfl_agg {d : Nat} {t : TypeId} {i : TI} (hi : T t = some i) (h : tfl T d t = true) (hg : isAggD i.desc = false) : i.size = 1 := by
 cases d with
 | zero => simp [tfl] at h
 | succ d =>
  simp only [tfl, hi] at h
  split at h
  ·simpa using h
  ·rename_i hd; rw [hd] at hg; cases hg
  ·cases h
omit hT in
theorem part_flat {d : Nat} {e : TypeId} {j : TI} (hj : T e = some j) (hf : tfl T d e = true) {us : List (IntKind × Int)} {off : Nat} (ho : off + j.size ≤ us.length) : ∃ v, partV T e (mkI us) off = some v ∧ okI j v := by
 unfold partV
 rw [hj, Option.bind_some]
 by_cases hg : isAggD j.desc = true
 ·rw [if_pos hg]
  refine ⟨_, rfl, .inr ⟨hg, (us.drop off).take j.size, ?_, ?_⟩⟩
  ·congr 1
   unfold mkI
   rw [List.extract_toArray, List.extract_eq_take_drop, Nat.add_sub_cancel_left, List.map_take, List.map_drop]
  ·rw [List.length_take, List.length_drop]; omega
 ·rw [if_neg hg]
  have hg' : isAggD j.desc = false := by simpa using hg
  have h1 := tfl_agg hj hf hg'
  have hl : off < us.length := by omega
  refine ⟨.int us[off].1 us[off].2, ?_, .inl ⟨hg', _, _, rfl⟩⟩
  unfold mkI
  rw [List.getElem?_toArray, List.getElem?_map, List.getElem?_eq_getElem hl]; rfl
theorem run_eq_flat (w : World) : ∀ (d D : Nat) {t : TypeId} {i : TI}, tfl T d t = true → T t = some i → ∀ {v : Value}, okI i v → (Op.equalIn (D + d) t v v).run P w = .ok true w
 | 0, D, t, i, h, _, _, _ => by simp [tfl] at h
 | d + 1, D, t, i, h, hi, v, hv => by
  have ih := fun {t : TypeId} {i : TI} => run_eq_flat w d D (t := t) (i := i)
  rw [← Nat.add_assoc, Op.equalIn]
  simp only [tfl, hi] at h
  simp only [Sem.run_bind, run_under hT hi, Result.andThen_ok]
  split at h
  ·rename_i k hd
   rcases hv with ⟨_, k', a, rfl⟩ | ⟨hg, _⟩
   ·simp [hd]
   ·rw [hd] at hg; cases hg
  ·rename_i n e hd
   split at h
   ·cases h
   ·rename_i j hj
    rw [Bool.and_eq_true, decide_eq_true_eq] at h
    rcases hv with ⟨hg, _⟩ | ⟨_, us, rfl, hl⟩
    ·rw [hd] at hg; cases hg
    ·simp only [hd, Sem.run_bind, run_sizeT hT hj, Result.andThen_ok, Std.Legacy.Range.forIn_eq_forIn_range', Std.Legacy.Range.size, Nat.sub_zero, Nat.add_sub_cancel, Nat.div_one]
     have hq : ∀ q ∈ List.range' 0 n 1, q < n := fun q hq => by simpa using (List.mem_range'_1.1 hq).2
     generalize List.range' 0 n 1 = l at hq ⊢
     induction l with
     | nil => simp
     | cons q l ihl =>
      have hqn : q < n := hq q (by simp)
      have hm : q * j.size + j.size ≤ us.length := by
       have := Nat.mul_le_mul_right j.size (show q + 1 ≤ n from hqn)
       rw [Nat.add_mul, Nat.one_mul] at this
       omega
      obtain ⟨u, hu, hk⟩ := part_flat hj h.2 hm
      simp only [List.forIn_cons, Sem.run_bind, run_part hT w hu, ih h.2 hj hk, Result.andThen_ok, Bool.not_true, Bool.false_eq_true, if_false, Sem.run_pure]
      exact ihl fun q' hq' => hq q' (by simp [hq'])
  ·cases h
theorem run_equal_struct {t : TypeId} {i : TI} {fs : Array Field} (hi : T t = some i) (hd : i.desc = .struct fs) (hs : i.size = 594) (hf : tflS T fs 594 = true) {us : List (IntKind × Int)} (hu : us.length = 594) (w : World) : (Op.equal t (.agg (mkI us)) (.agg (mkI us))).run P w = .ok true w := by
 obtain ⟨_, f, hff, h1, h2, h3, h4⟩ := hT t i hi
 have hst := (h4 hs).1
 unfold Op.equal Op.maxDepth
 rw [show (10000 : Nat) = 9994 + 5 + 1 from rfl, Op.equalIn]
 simp only [Sem.run_bind, run_under hT hi, Result.andThen_ok, hd, run_program, hst, Bool.false_eq_true, if_false, Sem.run_pure]
 unfold tflS at hf
 rw [← Array.forIn_toList]
 generalize fs.toList = l at hf ⊢
 induction l with
 | nil => simp
 | cons g l ihl =>
  rw [List.all_cons, Bool.and_eq_true] at hf
  have hg := hf.1
  split at hg
  ·cases hg
  ·rename_i j hj
   rw [Bool.and_eq_true, decide_eq_true_eq] at hg
   obtain ⟨u, hu2, hk⟩ := part_flat hj hg.2 (us := us) (off := g.offset) (by omega)
   have he := run_eq_flat hT w 5 9994 hg.2 hj hk
   by_cases hn : g.name = "_"
   ·simp only [List.forIn_cons, Sem.run_bind, hn, ne_eq, not_true_eq_false, if_false, Sem.run_pure, Result.andThen_ok]
    exact ihl hf.2
   ·simp only [List.forIn_cons, Sem.run_bind, hn, ne_eq, not_false_eq_true, if_true, run_part hT w hu2, he, Result.andThen_ok, Bool.not_true, Bool.false_eq_true, if_false, Sem.run_pure]
    exact ihl hf.2
theorem run_binV {op : BinOp} {t : TypeId} {x y v : Value} (w : World) (h : binV T op t x y = some v) : (binOp op t x y).run P w = .ok v w := by
 unfold binV at h
 split at h
 ·rename_i k a k' b
  split at h
  ·rename_i e
   subst e
   exact run_intV w t h
  ·cases h
 ·rename_i a b
  obtain ⟨i, hi, h1⟩ := Option.bind_eq_some_iff.1 h
  clear h
  split at h1
  ·rename_i hd
   simp only [Option.some.injEq] at h1
   subst h1
   simp only [binOp_eq_bool, Sem.run_bind, run_equal_bool hT hi hd, Result.andThen_ok, Sem.run_pure]
  ·rename_i hd
   simp only [Option.some.injEq] at h1
   subst h1
   simp only [binOp_ne_bool, Sem.run_bind, run_equal_bool hT hi hd, Result.andThen_ok, Sem.run_pure]
  ·cases h1
 ·rename_i a n c b n' c'
  obtain ⟨i, hi, h1⟩ := Option.bind_eq_some_iff.1 h
  clear h
  split at h1
  ·rename_i e hd
   simp only [Option.some.injEq] at h1
   subst h1
   simp only [binOp_eq_sl, Sem.run_bind, run_equal_sl hT hi hd, Result.andThen_ok, Sem.run_pure]
  ·rename_i e hd
   simp only [Option.some.injEq] at h1
   subst h1
   simp only [binOp_ne_sl, Sem.run_bind, run_equal_sl hT hi hd, Result.andThen_ok, Sem.run_pure]
  ·rename_i e _ hd
   simp only [Option.some.injEq] at h1
   subst h1
   simp only [binOp_eq_sl, Sem.run_bind, run_equal_sl' hT hi hd, Result.andThen_ok, Sem.run_pure]
  ·rename_i e _ hd
   simp only [Option.some.injEq] at h1
   subst h1
   simp only [binOp_ne_sl, Sem.run_bind, run_equal_sl' hT hi hd, Result.andThen_ok, Sem.run_pure, Bool.not_false]
  ·cases h1
 ·rename_i xs ys
  obtain ⟨i, hi, h1⟩ := Option.bind_eq_some_iff.1 h
  clear h
  split at h1
  ·rename_i n e hd
   obtain ⟨j, hj, h2⟩ := Option.bind_eq_some_iff.1 h1
   clear h1
   split at h2
   ·rename_i k hk
    obtain ⟨us, hx, h3⟩ := Option.bind_eq_some_iff.1 h2
    obtain ⟨vs, hy, h4⟩ := Option.bind_eq_some_iff.1 h3
    split at h4
    ·rename_i hc
     simp only [Option.some.injEq] at h4
     subst h4
     simp only [binOp_eq_agg, Sem.run_bind, run_equal_arr hT hi hd hj hk hc.2.2 hx hy hc.1 hc.2.1, Result.andThen_ok, Sem.run_pure]
    ·cases h4
   ·cases h2
  ·rename_i n e hd
   obtain ⟨j, hj, h2⟩ := Option.bind_eq_some_iff.1 h1
   clear h1
   split at h2
   ·rename_i k hk
    obtain ⟨us, hx, h3⟩ := Option.bind_eq_some_iff.1 h2
    obtain ⟨vs, hy, h4⟩ := Option.bind_eq_some_iff.1 h3
    split at h4
    ·rename_i hc
     simp only [Option.some.injEq] at h4
     subst h4
     simp only [binOp_ne_agg, Sem.run_bind, run_equal_arr hT hi hd hj hk hc.2.2 hx hy hc.1 hc.2.1, Result.andThen_ok, Sem.run_pure]
    ·cases h4
   ·cases h2
  ·rename_i fs hd
   obtain ⟨us, hx, h2⟩ := Option.bind_eq_some_iff.1 h1
   obtain ⟨vs, hy, h3⟩ := Option.bind_eq_some_iff.1 h2
   split at h3
   ·rename_i hc
    obtain ⟨rfl, hl, hs, hf⟩ := hc
    simp only [Option.some.injEq] at h3
    subst h3
    have ex : xs = mkI us := by rw [← Array.toArray_toList (xs := xs), cellsI_eq hx]; rfl
    have ey : ys = mkI us := by rw [← Array.toArray_toList (xs := ys), cellsI_eq hy]; rfl
    rw [ex, ey]
    simp only [binOp_ne_agg, Sem.run_bind, run_equal_struct hT hi hd hs hf hl, Result.andThen_ok, Sem.run_pure, Bool.not_true]
   ·cases h3
  ·cases h1
 ·rename_i a b
  unfold strV at h
  split at h
  ·split at h
   ·cases h
   ·rename_i hc
    simp only [Option.some.injEq] at h
    subst h
    have hm : IntKind.i64.max = 9223372036854775807 := by decide
    rw [hm] at hc
    simp [binOp, Op.stringOp]
    omega
  ·simp only [Option.some.injEq] at h
   subst h
   simp [binOp, Op.stringOp]
  ·simp only [Option.some.injEq] at h
   subst h
   simp [binOp, Op.stringOp]
  ·cases h
 ·cases h
omit hT in
theorem run_unV {op : UnOp} {x v : Value} (w : World) (h : unV op x = some v) : (Op.unary op x).run P w = .ok v w := by
 unfold unV at h
 split at h
 ·simp only [Option.some.injEq] at h; subst h; simp [Op.unary, Op.intArith]
 ·simp only [Option.some.injEq] at h; subst h; simp [Op.unary]
 ·cases h
end
end Go.Proofs.Ytacajcjibhifmaa

namespace Go.Proofs.Ytacajcjibhifmaa
open Go

/-- A call of function g. -/
def CallA (P : Program) (g : FuncId) (args : Array Value) (h : Heap) (R : Value → Heap → Prop) : Prop :=
 ∃ fn, P.funcs[g]? = some fn ∧ (fn.name == "runtime.NumGoroutine") = false ∧ fn.body.isNone = false ∧
  ∀ w, w.heap = h → Calls P g args w (fun e w' => ∃ v, e = .returned v ∧ Fr w w' ∧ R v w'.heap)
theorem CallA.mono {P : Program} {g : FuncId} {args : Array Value} {h : Heap} {R R' : Value → Heap → Prop} (hc : CallA P g args h R) (hr : ∀ v h, R v h → R' v h) : CallA P g args h R' := by
 obtain ⟨fn, h1, h2, h3, h4⟩ := hc
 exact ⟨fn, h1, h2, h3, fun w hw => (h4 w hw).mono fun e w' ⟨v, a, b, c⟩ => ⟨v, a, b, hr _ _ c⟩⟩

def dstB (n : Nat) : Option Nat → Bool
 | some d => decide (d < n)
 | none => true
theorem dstB_spec {n : Nat} {o : Option Nat} (h : dstB n o = true) : ∀ d, o = some d → d < n := by
 intro d e; subst e; simpa [dstB] using h

def outv (n : Nat) (o : Oper) (K : Env → Heap → Prop) (env : Env) (h : Heap) (v : Value) : Prop := dstB n o.dst = true ∧ K (putO env o.dst v) h

def minV : Value → Value → Option Value
 | .int k x, .int _ y => some (.int k (if y < x then y else x))
 | _, _ => none
def maxV : Value → Value → Option Value
 | .int k x, .int _ y => some (.int k (if y > x then y else x))
 | _, _ => none

/-- append(s, x): the new cells are 'new'. -/
def appendP (T : Tab) (e : TypeId) (j : TI) (base : Option Addr) (sLen sCap n : Nat) (new : List Value) (h : Heap) (K : Value → Heap → Prop) : Prop :=
 if sLen + n ≤ sCap then
  match base with
  | some a => match hputs (a.add (sLen * j.size)) h 0 new with
   | some h' => K (.slice base (sLen + n) sCap) h'
   | none => False
  | none => K (.slice base (sLen + n) sCap) h
 else (Builtin.nextslicecap (sLen + n) sCap * j.bytes ≤ 281474976710656 ∧ sLen + n ≤ 9223372036854775807) ∧
  ∃ old, (match base with | some a => hcells h a 0 (sLen * j.size) | none => some []) = some old ∧
   ∀ newCap, sLen + n ≤ newCap → newCap ≤ 9223372036854775807 → K (.slice (some ⟨h.size, 0, none⟩) (sLen + n) newCap) (h.push (.cells (old.toArray ++ new.toArray ++ Builtin.zeroCells j.zero.cells (newCap - (sLen + n))) e))

def sliceCells (h : Heap) (size n : Nat) : Value → Option (List Value)
 | .slice (some a) _ _ => hcells h a 0 (n * size)
 | .slice none _ _ => some []
 | _ => none

/-- Wait until an option, a test is known: simp looks at it alone. -/
def Bd {α : Type} (o : Option α) (F : α → Prop) : Prop := match o with
 | some a => F a
 | none => False
@[congr] theorem Bd_congr {α : Type} {o o' : Option α} {F : α → Prop} (h : o = o') : Bd o F = Bd o' F := by rw [h]
theorem Bd_some {α : Type} (a : α) (F : α → Prop) : Bd (some a) F = F a := rfl
theorem Bd_iff {α : Type} {o : Option α} {F : α → Prop} (h : Bd o F) : ∃ a, o = some a ∧ F a := by
 cases o with
 | none => exact h.elim
 | some a => exact ⟨a, rfl, h⟩
def Gd (c : Bool) (A B : Prop) : Prop := if c = true then A else B
@[congr] theorem Gd_congr {c c' : Bool} {A B : Prop} (h : c = c') : Gd c A B = Gd c' A B := by rw [h]
theorem Gd_t (A B : Prop) : Gd true A B = A := by simp [Gd]
theorem Gd_f (A B : Prop) : Gd false A B = B := by simp [Gd]
def asFn : Value → Option (FuncId × Array Value × Array Value)
 | .func (.func g) f c => some (g, f, c)
 | _ => none
def asSl : Value → Option (Option Addr × Nat × Nat)
 | .slice a n c => some (a, n, c)
 | _ => none
theorem asFn_some {v : Value} {q : FuncId × Array Value × Array Value} (h : asFn v = some q) : v = .func (.func q.1) q.2.1 q.2.2 := by
 unfold asFn at h
 split at h
 ·simp only [Option.some.injEq] at h; subst h; rfl
 ·cases h
theorem asSl_some {v : Value} {q : Option Addr × Nat × Nat} (h : asSl v = some q) : v = .slice q.1 q.2.1 q.2.2 := by
 unfold asSl at h
 split at h
 ·simp only [Option.some.injEq] at h; subst h; rfl
 ·cases h
def slE : TypeDesc → Option TypeId
 | .slice e => some e
 | _ => none
theorem slE_some {d : TypeDesc} {e : TypeId} (h : slE d = some e) : d = .slice e := by
 unfold slE at h
 split at h
 ·simp only [Option.some.injEq] at h; subst h; rfl
 ·cases h
/-- A slice type's element type, with what the table says of it. -/
def elT (T : Tab) (t : TypeId) : Option (TypeId × TI) := (T t).bind fun i => (slE i.desc).bind fun e => (T e).map fun j => (e, j)
theorem elT_some {T : Tab} {t e : TypeId} {j : TI} (h : elT T t = some (e, j)) : ∃ i, T t = some i ∧ i.desc = .slice e ∧ T e = some j := by
 unfold elT at h
 obtain ⟨i, hi, h⟩ := Option.bind_eq_some_iff.1 h
 obtain ⟨e', he, h⟩ := Option.bind_eq_some_iff.1 h
 obtain ⟨j', hj, h⟩ := Option.map_eq_some_iff.1 h
 simp only [Prod.mk.injEq] at h
 obtain ⟨rfl, rfl⟩ := h
 exact ⟨i, hi, slE_some he, hj⟩
/-- Is it a type of whole numbers, is it one of slices? -/
def isIntT (T : Tab) (t : TypeId) : Option Bool := (T t).bind fun i => match i.desc with
 | .int _ => some true
 | .slice _ => some false
 | _ => none

def opP (P : Program) (T : Tab) (n : Nat) (o : Oper) (K : Env → Heap → Prop) (env : Env) (h : Heap) : Prop :=
 match o.op with
 | .store t x y => Bd (asAd (ev env x)) fun a => Bd (storeV T h t a (ev env y)) fun h' => outv n o K env h' undef
 | .call c => match c.callee with
  | .value f => Bd (asFn (ev env f)) fun q => CallA P q.1 (q.2.1 ++ c.args.map (ev env) ++ q.2.2) h fun v h' => outv n o K env h' v
  | .builtin .len => Bd c.argTypes[0]? fun t => Bd c.args[0]? fun x => Bd (lenV T t (ev env x)) fun v => outv n o K env h v
  | .builtin .cap => Bd c.argTypes[0]? fun t => Bd c.args[0]? fun x => Bd (capV T t (ev env x)) fun v => outv n o K env h v
  | .builtin .min => match c.args.toList with
   | [x, y] => Bd (minV (ev env x) (ev env y)) fun v => outv n o K env h v
   | _ => False
  | .builtin .max => match c.args.toList with
   | [x, y] => Bd (maxV (ev env x) (ev env y)) fun v => outv n o K env h v
   | _ => False
  | .builtin .append => match c.args.toList, c.argTypes.toList with
   | [s, x], [ts, tx] => Bd (elT T ts) fun ej => Bd (asSl (ev env s)) fun q => Bd (isIntT T tx) fun z =>
    if z = true then Bd (asI (ev env x)) fun m => ej.2.zero.cells.size = ej.2.size ∧ 0 ≤ m.2 ∧ m.2 * ej.2.bytes ≤ 281474976710656 ∧ m.2 ≤ 281474976710656 ∧
     appendP T ej.1 ej.2 q.1 q.2.1 q.2.2 m.2.toNat (Builtin.zeroCells ej.2.zero.cells m.2.toNat).toList h fun v h' => outv n o K env h' v
    else Bd (asSl (ev env x)) fun qx => Bd (sliceCells h ej.2.size qx.2.1 (ev env x)) fun new => appendP T ej.1 ej.2 q.1 q.2.1 q.2.2 qx.2.1 new h fun v h' => outv n o K env h' v
   | _, _ => False
  | .builtin .copy => match c.args.toList, c.argTypes.toList with
   | [d, s], t :: _ => Bd (elT T t) fun ej => Bd (asSl (ev env d)) fun q => Bd (asSl (ev env s)) fun qs => Bd (sliceCells h ej.2.size (Nat.min qs.2.1 q.2.1) (ev env s)) fun cs =>
    match q.1 with
    | some a => Bd (hputs a h 0 cs) fun h' => outv n o K env h' (.int .i64 (Nat.min qs.2.1 q.2.1))
    | none => outv n o K env h (.int .i64 (Nat.min qs.2.1 q.2.1))
   | _, _ => False
  | _ => False
 | op => Bd (stepV T op env h) fun r => outv n o K env r.2 r.1

def guardB (all : Array Oper) (env : Env) : Option (Nat × Bool) → Bool
 | none => true
 | some (j, want) => match (all[j]?).bind (·.dst) with
  | some t => match env t with
   | .bool b => b == want
   | _ => false
  | none => false

def opsP (P : Program) (T : Tab) (n : Nat) (all : Array Oper) : List Oper → (Env → Heap → Prop) → Env → Heap → Prop
 | [], K, env, h => K env h
 | o :: r, K, env, h => Gd (guardB all env o.guard) (opP P T n o (opsP P T n all r K) env h) (outv n o (opsP P T n all r K) env h undef)

theorem eqGuard_arr {P : Program} {t e : TypeId} {n : Nat} {k : IntKind} (hu : P.underlying t = some (.array n e)) (he : P.underlying e = some (.int k)) : P.eqGuardType P.depth t = false := by
 unfold Program.depth
 rw [show 2 * (P.types.size + Made.depth) + 2 = 2 * (P.types.size + Made.depth) + 1 + 1 from rfl]
 simp [Program.eqGuardType, hu, he]
section
variable {P : Program} {T : Tab} {n : Nat} (hT : TOk P T)
include hT

theorem exec_stepV {o : Oper} {env : Env} {v : Value} {h' : Heap} (w : World) (h : stepV T o.op env w.heap = some (v, h')) : (execOp (ev env) o).run P w = .ok (.value v) { w with heap := h' } := by
 obtain ⟨dst, op, type, pos, after, guard⟩ := o
 dsimp only at h
 cases op <;> simp only [stepV, reduceCtorEq] at h
 case move x => simp only [Option.some.injEq, Prod.mk.injEq] at h; obtain ⟨rfl, rfl⟩ := h; rfl
 case assign x => simp only [Option.some.injEq, Prod.mk.injEq] at h; obtain ⟨rfl, rfl⟩ := h; rfl
 case pick c a b =>
  obtain ⟨t, ht, h⟩ := Option.map_eq_some_iff.1 h
  simp only [Prod.mk.injEq] at h; obtain ⟨rfl, rfl⟩ := h
  simp [execOp, asB_some ht, asBool]
 case alloc e =>
  obtain ⟨i, hi, h⟩ := Option.map_eq_some_iff.1 h
  simp only [Prod.mk.injEq] at h; obtain ⟨rfl, rfl⟩ := h
  simp [execOp, Instr.alloc, run_zeroT hT hi, newVar, newRow]
 case box e x =>
  simp only [Option.some.injEq, Prod.mk.injEq] at h; obtain ⟨rfl, rfl⟩ := h
  simp [execOp, Instr.box, newVar, newRow]
 case build t ps =>
  obtain ⟨u, hu, h⟩ := Option.map_eq_some_iff.1 h
  simp only [Prod.mk.injEq] at h; obtain ⟨rfl, rfl⟩ := h
  have := run_build hT w hu
  simp only [Array.toArray_toList] at this
  simp [execOp, this]
 case buildSlice t len ps =>
  have := run_buildSlice hT w h
  simp only [Array.toArray_toList] at this
  simp [execOp, this]
 case load t x =>
  obtain ⟨a, ha, h⟩ := Option.bind_eq_some_iff.1 h
  obtain ⟨u, hu, h⟩ := Option.map_eq_some_iff.1 h
  simp only [Prod.mk.injEq] at h; obtain ⟨rfl, rfl⟩ := h
  simp [execOp, Instr.loadAt, asAd_some ha, Instr.sureAddr, run_loadT hT w hu]
 case nilCheck x =>
  obtain ⟨u, hu, h⟩ := Option.map_eq_some_iff.1 h
  simp only [Prod.mk.injEq] at h; obtain ⟨rfl, rfl⟩ := h
  unfold nilOk at hu
  split at hu
  ·rename_i a he
   simp only [Option.some.injEq] at hu; subst hu
   simp [execOp, he]
  ·rename_i f a b he
   simp only [Option.some.injEq] at hu; subst hu
   simp [execOp, he]
  ·cases hu
 case binOp op t x y yt =>
  obtain ⟨u, hu, h⟩ := Option.map_eq_some_iff.1 h
  simp only [Prod.mk.injEq] at h; obtain ⟨rfl, rfl⟩ := h
  have hg : (eqGuard op t x y (ev env x) (ev env y)).run P w = .ok () w := by
   unfold binV at hu
   unfold eqGuard
   split at hu
   ·rename_i e1 e2; rw [e1, e2]; split <;> simp
   ·rename_i e1 e2; rw [e1, e2]; split <;> simp
   ·rename_i e1 e2; rw [e1, e2]; split <;> simp
   ·rename_i e1 e2
    rw [e1, e2]
    obtain ⟨i, hi, h1⟩ := Option.bind_eq_some_iff.1 hu
    split at h1
    ·rename_i n' e' hd
     obtain ⟨j, hj, h2⟩ := Option.bind_eq_some_iff.1 h1
     split at h2
     ·rename_i k hk
      have := eqGuard_arr (hd ▸ (hT t i hi).1) (hk ▸ (hT _ j hj).1)
      simp [this]
     ·cases h2
    ·rename_i n' e' hd
     obtain ⟨j, hj, h2⟩ := Option.bind_eq_some_iff.1 h1
     split at h2
     ·rename_i k hk
      have := eqGuard_arr (hd ▸ (hT t i hi).1) (hk ▸ (hT _ j hj).1)
      simp [this]
     ·cases h2
    ·rename_i fs hd
     obtain ⟨us, hx, h2⟩ := Option.bind_eq_some_iff.1 h1
     obtain ⟨vs, hy, h3⟩ := Option.bind_eq_some_iff.1 h2
     split at h3
     ·rename_i hc
      obtain ⟨_, f, hff, _, _, _, h4⟩ := hT t i hi
      have := (h4 hc.2.2.1).2
      simp [this]
     ·cases h3
    ·cases h1
   ·rename_i e1 e2; rw [e1, e2]; split <;> simp
   ·cases hu
  simp [execOp, hg, run_binV hT w hu]
 case unOp op t x =>
  obtain ⟨u, hu, h⟩ := Option.map_eq_some_iff.1 h
  simp only [Prod.mk.injEq] at h; obtain ⟨rfl, rfl⟩ := h
  simp [execOp, run_unV w hu]
 case convert s d x =>
  obtain ⟨u, hu, h⟩ := Option.map_eq_some_iff.1 h
  simp only [Prod.mk.injEq] at h; obtain ⟨rfl, rfl⟩ := h
  unfold convH at hu
  split at hu
  ·rename_i ao m c he
   obtain ⟨i0, hi0, hu⟩ := Option.bind_eq_some_iff.1 hu
   obtain ⟨j0, hj0, hu⟩ := Option.bind_eq_some_iff.1 hu
   split at hu
   ·rename_i e hd1 hd2
    obtain ⟨q0, hq0, hu⟩ := Option.bind_eq_some_iff.1 hu
    split at hu
    ·rename_i hd3
     have hcv : ∀ a, (Go.convert s d (.slice a m c)).run P w = (Conv.bytesToString (.slice a m c)).run P w := fun a => run_convert_bytes_string (P := P) w s d e a m c (by rw [← hd1]; exact (hT s i0 hi0).1) (by rw [← hd3]; exact (hT e q0 hq0).1) (by rw [← hd2]; exact (hT d j0 hj0).1)
     cases ao with
     | none =>
      simp only [Option.some.injEq] at hu
      subst hu
      simp [execOp, he, hcv, Conv.bytesToString, strOf]
     | some a =>
     obtain ⟨cs, hcs, hu⟩ := Option.bind_eq_some_iff.1 hu
     obtain ⟨ns, hns, hu⟩ := Option.map_eq_some_iff.1 hu
     subst hu
     have hl := run_hcells (P := P) w a m 0 cs #[] hcs
     have hb := bytesV_map cs ns hns
     have hrun := run_bytesToString (P := P) w a m c ns (by rw [loadCells, hl, hb]; simp)
     have hc := hcv (some a)
     simp [execOp, he, hc, hrun, strOf]
    ·cases hu
   ·cases hu
  ·unfold convV at hu
   obtain ⟨i0, hi0, h⟩ := Option.bind_eq_some_iff.1 hu
   obtain ⟨i, hi, h⟩ := Option.bind_eq_some_iff.1 h
   split at h
   ·rename_i k k' m hd he
    simp only [Option.some.injEq] at h; subst h
    have hc : (Go.convert s d (.int k' m)).run P w = .ok (.int k (k.wrap m)) w := by
     unfold Go.convert
     simp only [Sem.run_bind, run_under hT hi0, run_under hT hi, Result.andThen_ok, hd]
     simp [Conv.intToInt]
    simp [execOp, he, hc]
   ·cases h
 case makeFunc fn f c => simp only [Option.some.injEq, Prod.mk.injEq] at h; obtain ⟨rfl, rfl⟩ := h; rfl
 case makeSlice t l c => simp [execOp, run_makeSlice hT w h]
 case slice t x lo hi mx =>
  obtain ⟨u, hu, h⟩ := Option.map_eq_some_iff.1 h
  simp only [Prod.mk.injEq] at h; obtain ⟨rfl, rfl⟩ := h
  simp [execOp, run_sliceV hT w hu]
 case fieldAddr s x f =>
  obtain ⟨u, hu, h⟩ := Option.map_eq_some_iff.1 h
  simp only [Prod.mk.injEq] at h; obtain ⟨rfl, rfl⟩ := h
  simp [execOp, run_fieldAddr hT w hu]
 case field s x f =>
  obtain ⟨u, hu, h⟩ := Option.map_eq_some_iff.1 h
  simp only [Prod.mk.injEq] at h; obtain ⟨rfl, rfl⟩ := h
  simp [execOp, run_fieldV hT w hu]
 case indexAddr t x ix =>
  obtain ⟨u, hu, h⟩ := Option.map_eq_some_iff.1 h
  simp only [Prod.mk.injEq] at h; obtain ⟨rfl, rfl⟩ := h
  simp [execOp, run_idxAddr hT w hu]
 case index t x ix =>
  obtain ⟨u, hu, h⟩ := Option.map_eq_some_iff.1 h
  simp only [Prod.mk.injEq] at h; obtain ⟨rfl, rfl⟩ := h
  simp [execOp, run_indexV hT w hu]
 case extract x i =>
  obtain ⟨u, hu, h⟩ := Option.map_eq_some_iff.1 h
  simp only [Prod.mk.injEq] at h; obtain ⟨rfl, rfl⟩ := h
  unfold tupV at hu
  split at hu
  ·rename_i vs he
   simp [execOp, Instr.extract, he, hu]
  ·cases hu

/-! ### Building blocks of an operation's rule -/
omit hT in
theorem outv_next {o : Oper} {K : Env → Heap → Prop} {env : Env} {v : Value} {a : Act} {w w' : World} (ha : Agree n a env) (hf : Fr w w') (h : outv n o K env w'.heap v) : KA n w K (a.put o.dst v) w' :=
 ⟨putO env o.dst v, ha.putO (dstB_spec h.1) v, hf, h.2⟩
omit hT in
theorem wp_of_value {o : Oper} {K : Env → Heap → Prop} {env : Env} {v : Value} {a : Act} {w w' : World} {Q : Exit → Act → World → Prop} (ha : Agree n a env) (hf : Fr w w')
  (hr : (execOp (ev env) o).run P w = .ok (.value v) w') (h : outv n o K env w'.heap v) : o.wp P a w (KA n w K) Q := by
 unfold Oper.wp
 rw [ha.eval, hr]
 exact outv_next ha hf h
omit hT in
theorem fr_heap (w : World) (h' : Heap) : Fr w { w with heap := h' } := ⟨rfl, rfl, rfl⟩

omit hT in
theorem run_firstS (size m : Nat) {v : Value} {cs : List Value} (w : World) (h : sliceCells w.heap size m v = some cs) : (Builtin.firstCells size m v).run P w = .ok cs.toArray w := by
 unfold sliceCells at h
 split at h
 ·rename_i a _ _
  simp only [Builtin.firstCells, loadCells, run_hcells w a _ _ _ _ h]
  simp
 ·simp only [Option.some.injEq] at h; subst h; simp [Builtin.firstCells]
 ·cases h

/-- The rest of an append behind its second operand's length. -/
def appTail (e : TypeId) (base : Option Addr) (sLen sCap n size : Nat) (zeros : Bool) (x : Value) : Sem Value := do
 let appended : Sem (Array Value) :=
  if !zeros then Builtin.firstCells size n x
  else if n * size = 0 then pure #[]
  else do pure (Builtin.zeroCells (← zeroValue e).cells n)
 let need := sLen + n
 if need ≤ sCap then
  let new ← appended
  if let some a := base then storeCells (a.add (sLen * size)) new.toList
  pure (.slice base need sCap)
 else
  if (need : Int) > IntKind.i64.max ∧ (zeros ∨ (← typeInfo e).bytes = 0) then runtimePanic (.error "growslice: len out of range")
  if Builtin.nextslicecap need sCap * (← typeInfo e).bytes > 2 ^ 48 then (if zeros then runtimePanic (.error "growslice: len out of range") else do
   if !(← Builtin.mayShare size sLen n base x) then mark .noRoom
   unsupported (.resourceLimit "append: a slice or a string whose bytes no memory bears"))
  let newCap ← choose (.appendCap need sCap e)
  askRoom (newCap * (← typeInfo e).bytes)
  let old ← Builtin.firstCells size sLen (.slice base sLen sCap)
  let new ← appended
  let rest := Builtin.zeroCells (← zeroValue e).cells (newCap - need)
  pure (.slice (some (← newRow e (old ++ new ++ rest))) need newCap)

theorem run_appTail {e : TypeId} {j : TI} (hj : T e = some j) {base : Option Addr} {sLen sCap m : Nat} {zeros : Bool} {x : Value} {new : List Value} {K : Value → Heap → Prop} (w : World)
  (hn : ∀ w', w'.heap = w.heap → (if (!zeros) = true then Builtin.firstCells j.size m x else if m * j.size = 0 then pure #[] else do pure (Builtin.zeroCells (← zeroValue e).cells m) : Sem (Array Value)).run P w' = .ok new.toArray w')
  (h : appendP T e j base sLen sCap m new w.heap K) : ∃ v w', (appTail e base sLen sCap m j.size zeros x).run P w = .ok v w' ∧ Fr w w' ∧ K v w'.heap := by
 obtain ⟨_, f, hf, e1, e2, e3, _⟩ := hT e j hj
 unfold appTail
 unfold appendP at h
 dsimp only
 split at h
 ·rename_i hc
  simp only [hc, if_true, Sem.run_bind, hn w rfl, Result.andThen_ok]
  cases base with
  | none => exact ⟨_, _, rfl, Fr.refl w, h⟩
  | some a =>
   dsimp only at h ⊢
   split at h
   ·rename_i h' hp
    simp only [Sem.run_bind, List.toList_toArray, run_hputs _ _ 0 w h' hp, Result.andThen_ok, Sem.run_pure]
    exact ⟨_, _, rfl, fr_heap w h', h⟩
   ·cases h
 ·rename_i hc
  obtain ⟨⟨h1, h1b⟩, old, hold, hk⟩ := h
  have hmax : IntKind.i64.max = 9223372036854775807 := rfl
  have c1 : ¬ (((sLen + m : Nat) : Int) > IntKind.i64.max ∧ (zeros = true ∨ f.bytes = 0)) := by rw [hmax]; omega
  have c2 : ¬ (Builtin.nextslicecap (sLen + m) sCap * f.bytes > 2 ^ 48) := by rw [e2]; omega
  have hfo : (Question.appendCap (sLen + m) sCap e).forced = false := rfl
  simp only [hc, if_false, Sem.run_bind, run_typeInfo _ hf, Result.andThen_ok, c1, c2, Sem.run_pure]
  have hch : ∀ w : World, (choose (.appendCap (sLen + m) sCap e)).run P w = .ok ((Question.appendCap (sLen + m) sCap e).cut (w.tape w.drawn (.appendCap (sLen + m) sCap e))) w.drew := by
   intro w
   rw [run_choose_drew, hfo]
   rfl
  have hold' : ∀ w' : World, w'.heap = w.heap → (Builtin.firstCells j.size sLen (.slice base sLen sCap)).run P w' = .ok old.toArray w' := by
   intro w' hw'
   apply run_firstS
   rw [hw']
   cases base with
   | none => exact hold
   | some a => exact hold
  simp only [hch, run_askRoom, Result.andThen_ok, hold' w.drew rfl, hn w.drew rfl, run_zeroT hT hj]
  generalize hcut : (Question.appendCap (sLen + m) sCap e).cut (w.tape w.drawn (.appendCap (sLen + m) sCap e)) = newCap
  have hge : sLen + m ≤ newCap := by
   rw [← hcut]
   simp only [Question.cut]
   omega
  have hle : newCap ≤ 9223372036854775807 := by
   rw [← hcut]
   simp only [Question.cut]
   have := Nat.mod_lt (w.tape w.drawn (.appendCap (sLen + m) sCap e)) (show 2 ^ 63 - (sLen + m) > 0 by omega)
   omega
  simp only [newRow, Sem.run_bind, run_newObj, Result.andThen_ok, Sem.run_pure]
  exact ⟨_, _, rfl, ⟨rfl, rfl, rfl⟩, hk newCap hge hle⟩

theorem run_append_sl {ts tx ty e e' : TypeId} {i ix j : TI} (hi : T ts = some i) (hd : i.desc = .slice e) (hix : T tx = some ix) (hdx : ix.desc = .slice e') (hj : T e = some j) {base xb : Option Addr} {sLen sCap xn xc : Nat} {new : List Value} {K : Value → Heap → Prop} (w : World)
  (hn : sliceCells w.heap j.size xn (.slice xb xn xc) = some new)
  (h : appendP T e j base sLen sCap xn new w.heap K) : ∃ v w', (Builtin.append_ #[ts, tx] ty #[.slice base sLen sCap, .slice xb xn xc]).run P w = .ok v w' ∧ Fr w w' ∧ K v w'.heap := by
 have := run_appTail hT hj (zeros := false) (x := .slice xb xn xc) w (fun w' hw' => by
  simp only [Bool.not_false, if_true]
  exact run_firstS _ _ w' (by rw [hw']; exact hn)) h
 obtain ⟨v, w', hr, hrest⟩ := this
 refine ⟨v, w', ?_, hrest⟩
 rw [← hr]
 unfold Builtin.append_ appTail
 simp only [Sem.run_bind, run_under hT hi, run_under hT hix, Result.andThen_ok, hd, hdx, run_sizeT hT hj, Sem.run_pure, List.getElem?_toArray, List.getElem?_cons_zero, List.getElem?_cons_succ, Builtin.lenOf, Bool.false_eq_true, if_false]
 rfl

theorem run_append_n {ts tx ty e : TypeId} {k kk : IntKind} {i ix j : TI} (hi : T ts = some i) (hd : i.desc = .slice e) (hix : T tx = some ix) (hdx : ix.desc = .int kk) (hj : T e = some j) {base : Option Addr} {sLen sCap : Nat} {m : Int} {K : Value → Heap → Prop} (w : World)
  (hzz : m.toNat * j.size = 0 → (Builtin.zeroCells j.zero.cells m.toNat).toList = []) (h0 : 0 ≤ m) (h1 : m * j.bytes ≤ 281474976710656) (h2 : m ≤ 281474976710656)
  (h : appendP T e j base sLen sCap m.toNat (Builtin.zeroCells j.zero.cells m.toNat).toList w.heap K) : ∃ v w', (Builtin.append_ #[ts, tx] ty #[.slice base sLen sCap, .int k m]).run P w = .ok v w' ∧ Fr w w' ∧ K v w'.heap := by
 obtain ⟨_, f, hf, e1, e2, e3, _⟩ := hT e j hj
 have := run_appTail hT hj (zeros := true) (x := .int k m) w (fun w' hw' => by
  simp only [Bool.not_true, Bool.false_eq_true, if_false]
  by_cases hz : m.toNat * j.size = 0
  ·rw [if_pos hz]
   have : (Builtin.zeroCells j.zero.cells m.toNat).toList = [] := hzz hz
   rw [this]
   rfl
  ·simp only [hz, if_false, Sem.run_bind, run_zeroT hT hj, Result.andThen_ok, Sem.run_pure]) h
 obtain ⟨v, w', hr, hrest⟩ := this
 refine ⟨v, w', ?_, hrest⟩
 rw [← hr]
 unfold Builtin.append_ appTail
 have w1 : IntKind.i64.wrap m = m := IntWalk.i64_in _ (by omega)
 have c1 : ¬ (m < 0) := by omega
 have c2 : ¬ (m * (f.bytes : Int) > 2 ^ 48) := by rw [e2]; omega
 simp only [Sem.run_bind, run_under hT hi, run_under hT hix, Result.andThen_ok, hd, hdx, run_sizeT hT hj, Sem.run_pure, List.getElem?_toArray, List.getElem?_cons_zero, List.getElem?_cons_succ, asInt, asIntOf, if_true, w1, c1, if_false, run_typeInfo _ hf, c2]
 rfl

theorem opP_sound {o : Oper} {K : Env → Heap → Prop} {env : Env} {a : Act} {w : World} {Q : Exit → Act → World → Prop} (ha : Agree n a env) (h : opP P T n o K env w.heap) : o.wp P a w (KA n w K) Q := by
 unfold opP at h
 split at h
 ·-- store
  rename_i t x y ho
  obtain ⟨ad, had, h⟩ := Bd_iff h
  obtain ⟨h', hs, h⟩ := Bd_iff h
  unfold Oper.wp
  have hr : (execOp (ev env) o).run P w = .ok .skip { w with heap := h' } := by
   unfold execOp
   simp only [ho, Sem.run_bind, Instr.storeAt, asAd_some had, Instr.sureAddr, Sem.run_pure, Result.andThen_ok, run_storeT hT w hs]
  rw [ha.eval, hr]
  exact outv_next ha (fr_heap w h') h
 ·-- call
  rename_i c ho
  split at h
  ·rename_i f hc
   obtain ⟨⟨g, first, captured⟩, hf, h⟩ := Bd_iff h
   have hf := asFn_some hf
   dsimp only at hf h
   obtain ⟨fn, h1, h2, h3, h4⟩ := h
   unfold Oper.wp
   have hr : (execOp (ev env) o).run P w = .ok (.enter g (first ++ c.args.map (ev env) ++ captured)) w := by
    unfold execOp
    simp only [ho, resolve, hc, hf, Deferred.ofValue, Sem.run_bind, Sem.run_pure, Result.andThen_ok, invoke, callFunc, run_program, h1, h2, h3, Bool.false_eq_true, if_false]
   rw [ha.eval, hr]
   simp only [Oper.upon]
   refine (h4 w rfl).mono ?_
   rintro e w' ⟨v, rfl, hfr, hk⟩
   exact outv_next ha hfr hk
  ·-- len
   rename_i hc
   obtain ⟨t, ht, h⟩ := Bd_iff h
   obtain ⟨x, hx, h⟩ := Bd_iff h
   obtain ⟨v, hv, h⟩ := Bd_iff h
   unfold lenV at hv
   obtain ⟨i, hi, hv⟩ := Option.bind_eq_some_iff.1 hv
   refine wp_of_value ha (Fr.refl w) (v := v) ?_ h
   unfold execOp
   simp only [ho, resolve, hc, Sem.run_bind, Sem.run_pure, Result.andThen_ok, invoke, builtin, Builtin.len_, ht, Array.getElem?_map, hx, Option.map_some, run_under hT hi]
   split at hv
   ·rename_i hd he
    simp only [Option.some.injEq] at hv; subst hv
    simp [hd, he, goInt]
   ·rename_i hd he
    simp only [Option.some.injEq] at hv; subst hv
    simp [hd, he, goInt]
   ·rename_i hd
    simp only [Option.some.injEq] at hv; subst hv
    simp [hd, goInt]
   ·cases hv
  ·-- cap
   rename_i hc
   obtain ⟨t, ht, h⟩ := Bd_iff h
   obtain ⟨x, hx, h⟩ := Bd_iff h
   obtain ⟨v, hv, h⟩ := Bd_iff h
   unfold capV at hv
   obtain ⟨i, hi, hv⟩ := Option.bind_eq_some_iff.1 hv
   refine wp_of_value ha (Fr.refl w) (v := v) ?_ h
   unfold execOp
   simp only [ho, resolve, hc, Sem.run_bind, Sem.run_pure, Result.andThen_ok, invoke, builtin, Builtin.cap_, ht, Array.getElem?_map, hx, Option.map_some, run_under hT hi]
   split at hv
   ·rename_i hd he
    simp only [Option.some.injEq] at hv; subst hv
    simp [hd, he, goInt]
   ·cases hv
  ·-- min
   rename_i hc
   split at h
   ·rename_i x y hx
    obtain ⟨v, hv, h⟩ := Bd_iff h
    refine wp_of_value ha (Fr.refl w) (v := v) ?_ h
    have ec : c.args = #[x, y] := by rw [← hx]
    unfold execOp
    simp only [ho, resolve, hc, Sem.run_bind, Sem.run_pure, Result.andThen_ok, invoke, builtin, Builtin.min_, ec, List.map_toArray, List.map_cons, List.map_nil]
    unfold minV at hv
    split at hv
    ·rename_i e1 e2
     simp only [Option.some.injEq] at hv; subst hv
     simp [e1, e2, Builtin.min2]
    ·cases hv
   ·cases h
  ·-- max
   rename_i hc
   split at h
   ·rename_i x y hx
    obtain ⟨v, hv, h⟩ := Bd_iff h
    refine wp_of_value ha (Fr.refl w) (v := v) ?_ h
    have ec : c.args = #[x, y] := by rw [← hx]
    unfold execOp
    simp only [ho, resolve, hc, Sem.run_bind, Sem.run_pure, Result.andThen_ok, invoke, builtin, Builtin.max_, ec, List.map_toArray, List.map_cons, List.map_nil]
    unfold maxV at hv
    split at hv
    ·rename_i e1 e2
     simp only [Option.some.injEq] at hv; subst hv
     simp [e1, e2, Builtin.max2]
    ·cases hv
   ·cases h
  ·-- append
   rename_i hc
   split at h
   ·rename_i s x ts tx hx ht
    have ec : c.args = #[s, x] := by rw [← hx]
    have et : c.argTypes = #[ts, tx] := by rw [← ht]
    obtain ⟨⟨e, j⟩, hej, h⟩ := Bd_iff h
    obtain ⟨i, hi, hd, hj⟩ := elT_some hej
    obtain ⟨⟨base, sLen, sCap⟩, hs, h⟩ := Bd_iff h
    have hs := asSl_some hs
    obtain ⟨z, hz, h⟩ := Bd_iff h
    unfold isIntT at hz
    obtain ⟨ix, hix, hz⟩ := Option.bind_eq_some_iff.1 hz
    dsimp only at hs h
    have run : ∀ {v : Value} {w' : World}, (Builtin.append_ #[ts, tx] o.type #[ev env s, ev env x]).run P w = .ok v w' → (execOp (ev env) o).run P w = .ok (.value v) w' := by
     intro v w' hr
     unfold execOp
     simp only [ho, resolve, hc, Sem.run_bind, Sem.run_pure, Result.andThen_ok, invoke, builtin, ec, et, List.map_toArray, List.map_cons, List.map_nil, hr]
    split at hz
    ·rename_i kk hdx
     simp only [Option.some.injEq] at hz
     subst hz
     simp only [if_true] at h
     obtain ⟨⟨k, m⟩, hm, h⟩ := Bd_iff h
     have hm := asI_some hm
     dsimp only at hm h
     obtain ⟨hz, h0, h1, h2, hap⟩ := h
     obtain ⟨v, w', hr, hf, hk⟩ := run_append_n hT (ty := o.type) (k := k) hi hd hix hdx hj w (fun h => by simp [Builtin.zeroCells, hz, h]) h0 h1 h2 hap
     rw [← hs, ← hm] at hr
     exact wp_of_value ha hf (run hr) hk
    ·rename_i e' hdx
     simp only [Option.some.injEq] at hz
     subst hz
     simp only [if_false, Bool.false_eq_true] at h
     obtain ⟨⟨xb, xn, xc⟩, hxv, h⟩ := Bd_iff h
     have hxv := asSl_some hxv
     dsimp only at hxv h
     obtain ⟨new, hn, hap⟩ := Bd_iff h
     rw [hxv] at hn
     obtain ⟨v, w', hr, hf, hk⟩ := run_append_sl hT (ty := o.type) hi hd hix hdx hj w hn hap
     rw [← hs, ← hxv] at hr
     exact wp_of_value ha hf (run hr) hk
    ·cases hz
   ·cases h
  ·-- copy
   rename_i hc
   split at h
   ·rename_i d s t rest hx ht
    have ec : c.args = #[d, s] := by rw [← hx]
    have et : c.argTypes[0]? = some t := by rw [← Array.getElem?_toList, ht]; rfl
    obtain ⟨⟨e, j⟩, hej, h⟩ := Bd_iff h
    obtain ⟨i, hi, hd, hj⟩ := elT_some hej
    obtain ⟨⟨base, dLen, dc⟩, hdv, h⟩ := Bd_iff h
    have hdv := asSl_some hdv
    obtain ⟨⟨sb, sn, sc⟩, hsv, h⟩ := Bd_iff h
    have hsv := asSl_some hsv
    obtain ⟨cs, hcs, h⟩ := Bd_iff h
    dsimp only at hdv hsv hcs h
    rw [hsv] at hcs
    have run : ∀ {w' : World}, (match base with | some a => storeCells a cs | none => pure () : Sem Unit).run P w = .ok () w' → (execOp (ev env) o).run P w = .ok (.value (.int .i64 (Nat.min sn dLen))) w' := by
     intro w' hr
     unfold execOp
     simp only [ho, resolve, hc, Sem.run_bind, Sem.run_pure, Result.andThen_ok, invoke, builtin, ec, List.map_toArray, List.map_cons, List.map_nil, Builtin.copy_, et, hdv, hsv, List.getElem?_toArray, List.getElem?_cons_zero, List.getElem?_cons_succ, run_under hT hi, hd, Builtin.lenOf, run_sizeT hT hj, run_firstS _ _ w hcs, goInt]
     cases base with
     | none =>
      simp only [Sem.run_pure, Result.ok.injEq] at hr
      rw [← hr.2]
      rfl
     | some a =>
      dsimp only at hr ⊢
      simp only [Sem.run_bind, hr, Result.andThen_ok, Sem.run_pure]
    cases base with
    | none => exact wp_of_value ha (Fr.refl w) (run rfl) h
    | some a =>
     dsimp only at h
     obtain ⟨h', hp, h⟩ := Bd_iff h
     exact wp_of_value ha (fr_heap w h') (run (run_hputs a cs 0 w h' hp)) h
   ·cases h
  ·cases h
 ·obtain ⟨r, hr, h⟩ := Bd_iff h
  exact wp_of_value ha (fr_heap w _) (exec_stepV hT w (v := r.1) (h' := r.2) hr) h

omit hT in
theorem wanted_guard {ops : Array Oper} {env : Env} {a : Act} (ha : Agree n a env) (o : Oper) : Region.wanted o (yielded ops a.tmps) = guardB ops env o.guard := by
 unfold Region.wanted guardB
 cases o.guard with
 | none => rfl
 | some g =>
  obtain ⟨j, want⟩ := g
  simp only [yielded]
  cases hd : (ops[j]?).bind (·.dst) with
  | none => rfl
  | some t =>
   have ht := ha.at_ t
   simp only [Option.bind_some]
   have : a.tmps[t]? = some (env t) ∨ (a.tmps[t]? = none ∧ env t = undef) := by
    rw [Array.getD_eq_getD_getElem?] at ht
    cases hq : a.tmps[t]? with
    | none => right; rw [hq] at ht; exact ⟨rfl, ht.symm⟩
    | some v => left; rw [hq] at ht; simpa using ht
   rcases this with e | ⟨e, e2⟩
   ·rw [e]
    cases env t <;> simp
   ·rw [e, e2]
    simp [undef]

theorem ops_sound {ops : Array Oper} {Q : Exit → Env → Heap → Prop} {w0 : World} : ∀ (l : List Oper) (i : Nat), ops.toList.drop i = l → ∀ (env : Env) (a : Act) (w : World), Agree n a env → Fr w0 w →
  opsP P T n ops l (Q .normal) env w.heap → wpOps P ops (KQ n w0 Q) (List.range' i l.length) a w
 | [], i, hl, env, a, w, ha, hf, h => ⟨env, ha, hf, h⟩
 | o :: r, i, hl, env, a, w, ha, hf, h => by
  have hlt : i < ops.toList.length := by
   rcases Nat.lt_or_ge i ops.toList.length with h' | h'
   ·exact h'
   ·rw [List.drop_of_length_le h'] at hl; cases hl
  have hcons := List.drop_eq_getElem_cons hlt
  rw [hl] at hcons
  injection hcons with ho hr
  have hoi : ops[i]? = some o := by
   rw [← Array.getElem?_toList, List.getElem?_eq_getElem hlt, ← ho]
  simp only [List.length_cons, List.range'_succ, wpOps, hoi, wanted_guard ha]
  simp only [opsP] at h
  have step : ∀ a' w', KA n w (opsP P T n ops r (Q .normal)) a' w' → wpOps P ops (KQ n w0 Q) (List.range' (i + 1) r.length) a' w' := by
   rintro a' w' ⟨env', ha', hf', hk⟩
   exact ops_sound r (i + 1) hr.symm env' a' w' ha' (hf.trans hf') hk
  unfold Gd at h
  split at h
  ·rename_i hg
   simp only [hg, if_true]
   exact .inl (Oper.wp_mono step (opP_sound hT ha h))
  ·rename_i hg
   simp only [hg]
   exact step _ _ (outv_next ha (Fr.refl w) h)

theorem den_region {id : Nat} {ops : Array Oper} {Qr : Env → Heap → Prop} {k : List It} {env : Env} {h : Heap}
  (hh : ∀ K : Env → Heap → Prop, (∀ env h, den P n Qr k env h → K env h) → opsP P T n ops ops.toList K env h) : den P n Qr (.code (.region id ops false) :: k) env h := by
 refine den_code ?_
 intro a w ha e
 subst e
 refine wp_region ?_
 have := ops_sound hT (Q := denQ P n Qr k) (w0 := w) ops.toList 0 rfl env a w ha (Fr.refl w) (hh _ (fun _ _ h => h))
 rw [List.range_eq_range']
 rwa [Array.length_toList] at this
end
end Go.Proofs.Ytacajcjibhifmaa

namespace Go.Proofs.Ytacajcjibhifmaa
open Go

/-- What could be read still reads the same. -/
def HPres (h h' : Heap) : Prop := ∀ a v, hcell h a = some v → hcell h' a = some v
theorem HPres.refl (h : Heap) : HPres h h := fun _ _ e => e
theorem HPres.trans {a b c : Heap} (h : HPres a b) (k : HPres b c) : HPres a c := fun x v e => k x v (h x v e)
abbrev Pres (w w' : World) : Prop := HPres w.heap w'.heap

section
variable {P : Program} {ops : Array Oper} {Q : Exit → Act → World → Prop} {md : Region.Mode} {ds : List Nat}
def wpAnyR (P : Program) (md : Region.Mode) (ops : Array Oper) (Q : Exit → Act → World → Prop) (ds : List Nat) : Nat → Array Bool → Act → World → Prop
 | 0, listed, a, w => Region.ready md ops listed = [] ∧ Q .normal a w
 | fuel + 1, listed, a, w =>
  (Region.ready md ops listed = [] → Q .normal a w) ∧
  ∀ i ∈ Region.ready md ops listed, wpOp P ops Q i (fun a' w' => (i ∉ ds → Pres w w') ∧ wpAnyR P md ops Q ds fuel (listed.setIfInBounds i true) a' w') a w
theorem wpAny_of_R : ∀ (fuel : Nat) (listed : Array Bool) (a : Act) (w : World), wpAnyR P md ops Q ds fuel listed a w → wpAny P md ops Q fuel listed a w
 | 0, _, _, _, h => h
 | fuel + 1, _, _, _, h => ⟨h.1, fun i hi => wpOp_mono (fun a' w' h' => wpAny_of_R fuel _ a' w' h'.2) (h.2 i hi)⟩

/-- Operation d waits for operation i, by a chain of at most 'fuel' edges. -/
def reachB (md : Region.Mode) (ops : Array Oper) (i : Nat) : Nat → Nat → Bool
 | 0, _ => false
 | fuel + 1, d => match ops[d]? with
  | some o => o.after.any fun e => Region.binds md e && (e.on == i || reachB md ops i fuel e.on)
  | none => false
def closedB (md : Region.Mode) (ops : Array Oper) (listed : Array Bool) : Bool :=
 (List.range ops.size).all fun j => !listed.getD j false || match ops[j]? with
  | some o => o.after.all fun e => !Region.binds md e || listed.getD e.on false
  | none => true
def lastB (md : Region.Mode) (ops : Array Oper) (listed : Array Bool) (ds : List Nat) (i : Nat) : Bool :=
 ds.all fun d => listed.getD d true || reachB md ops i ops.size d
def Closed (md : Region.Mode) (ops : Array Oper) (listed : Array Bool) : Prop :=
 ∀ j oj, ops[j]? = some oj → listed.getD j false = true → ∀ e ∈ oj.after, Region.binds md e = true → listed.getD e.on false = true
theorem closedB_spec {listed : Array Bool} (h : closedB md ops listed = true) : Closed md ops listed := by
 intro j oj hj hl e he hb
 have hlt : j < ops.size := (Array.getElem?_eq_some_iff.1 hj).1
 have h1 := List.all_eq_true.1 h j (List.mem_range.2 hlt)
 simp only [hl, hj, Bool.not_true, Bool.false_or] at h1
 have h2 := Array.all_eq_true_iff_forall_mem.1 h1 e he
 simpa [hb] using h2
theorem Closed.set {listed : Array Bool} {i : Nat} (h : Closed md ops listed) (hi : i ∈ Region.ready md ops listed) : Closed md ops (listed.setIfInBounds i true) := by
 obtain ⟨_, oi, hoi, hall⟩ := mem_ready.1 hi
 intro j oj hj hl e he hb
 by_cases hij : i = j
 ·subst hij
  have : oj = oi := Option.some.inj (hj.symm.trans hoi)
  subst this
  exact getD_set_true (hall e he hb)
 ·rw [getD_set_ne false hij] at hl
  exact getD_set_true (h j oj hj hl e he hb)
theorem reach_listed {listed : Array Bool} {i : Nat} (hc : Closed md ops listed) : ∀ (fuel d : Nat), reachB md ops i fuel d = true → listed.getD d false = true → listed.getD i false = true
 | 0, _, h, _ => by simp [reachB] at h
 | fuel + 1, d, h, hl => by
  unfold reachB at h
  cases ho : ops[d]? with
  | none => rw [ho] at h; simp at h
  | some o =>
   rw [ho] at h
   obtain ⟨e, he, h1⟩ := Array.any_eq_true'.1 h
   simp only [Bool.and_eq_true, Bool.or_eq_true, beq_iff_eq] at h1
   have hle := hc d o ho hl e he h1.1
   rcases h1.2 with h2 | h2
   ·rw [← h2]; exact hle
   ·exact reach_listed hc fuel e.on h2 hle
theorem reach_not_ready {listed : Array Bool} {i d fuel : Nat} (hc : Closed md ops listed) (hr : reachB md ops i fuel d = true) (hun : listed.getD i true = false) : d ∉ Region.ready md ops listed := by
 intro hd
 obtain ⟨_, o, ho, hall⟩ := mem_ready.1 hd
 have hi : listed.getD i false = true := by
  cases fuel with
  | zero => simp [reachB] at hr
  | succ n =>
   unfold reachB at hr
   rw [ho] at hr
   obtain ⟨e, he, h1⟩ := Array.any_eq_true'.1 hr
   simp only [Bool.and_eq_true, Bool.or_eq_true, beq_iff_eq] at h1
   have hle := hall e he h1.1
   rcases h1.2 with h2 | h2
   ·rw [← h2]; exact hle
   ·exact reach_listed hc n e.on h2 hle
 rcases Nat.lt_or_ge i listed.size with h' | h'
 ·simp [h'] at hun hi
  rw [hun] at hi
  cases hi
 ·simp [Array.getElem?_eq_none h'] at hun

theorem yieldsIf_weaken {S S' : World → Prop} {o : Oper} {v : Value} {a : Act} (h : YieldsIf P ops S o v a) (hs : ∀ w, S' w → S w) : YieldsIf P ops S' o v a :=
 h.imp (fun ⟨hw, hv⟩ => ⟨hw, fun w hS => hv w (hs w hS)⟩) id

theorem wpAnyR_first {i : Nat} {oi : Oper} {v : Value} (hi : ops[i]? = some oi) (hsel : ∀ (j : Nat) (o : Oper) cs b, ops[j]? = some o → o.op ≠ .select cs b)
  (hQ : ∀ c a w, Q (.panic c) (a.put oi.dst v) w → Q (.panic c) a w) (n : Nat) :
  ∀ (fuel : Nat) (listed : Array Bool) (a : Act) (w : World),
   (∀ j oj, ops[j]? = some oj → j ≠ i → listed.getD j true = false → (∀ e ∈ oj.after, Region.binds md e = true → e.on ≠ i) → oi.apart ops oj = true) →
   Closed md ops listed → (∀ d ∈ ds, listed.getD d true = false → reachB md ops i n d = true) →
   i ∈ Region.ready md ops listed → YieldsIf P ops (Pres w) oi v a →
   wpAnyR P md ops Q ds fuel (listed.setIfInBounds i true) (a.put oi.dst v) w → wpAnyR P md ops Q ds (fuel + 1) listed a w := by
 intro fuel
 induction fuel with
 | zero =>
  intro listed a w _ _ _ hr hy H
  refine ⟨fun h => (by rw [h] at hr; cases hr), fun j hj => ?_⟩
  by_cases hji : j = i
  ·subst hji; exact hy.wpOp hi (HPres.refl _) ⟨fun _ => HPres.refl _, H⟩
  ·have := ready_mono hj hji
   rw [H.1] at this
   cases this
 | succ fuel ih =>
  intro listed a w hfree hc hd hr hy H
  refine ⟨fun h => (by rw [h] at hr; cases hr), fun j hj => ?_⟩
  by_cases hji : j = i
  ·subst hji; exact hy.wpOp hi (HPres.refl _) ⟨fun _ => HPres.refl _, H⟩
  ·have h1 := H.2 j (ready_mono hj hji)
   obtain ⟨hjun, oj, hoj, hall⟩ := mem_ready.1 hj
   have hiun := (mem_ready.1 hr).1
   have hnot : ∀ e ∈ oj.after, Region.binds md e = true → e.on ≠ i := fun e he hb heq => by
    have h1 := hall e he hb
    rw [heq] at h1
    rcases Nat.lt_or_ge i listed.size with h' | h'
    ·simp [h'] at hiun h1; rw [hiun] at h1; cases h1
    ·simp [Array.getElem?_eq_none h'] at h1
   have hjd : j ∉ ds := fun hm => reach_not_ready hc (hd j hm hjun) hiun hj
   have h2 := wpOp_putIf hoj (hfree j oj hoj hji hjun hnot) (fun cs b => hsel i oi cs b hi) (fun cs b => hsel j oj cs b hoj) hQ hy h1
   have hfree' : ∀ k ok, ops[k]? = some ok → k ≠ i → (listed.setIfInBounds j true).getD k true = false →
     (∀ e ∈ ok.after, Region.binds md e = true → e.on ≠ i) → oi.apart ops ok = true := fun k ok hk hki hun hno => by
    refine hfree k ok hk hki ?_ hno
    by_cases hjk : j = k
    ·subst hjk; exact hjun
    ·rw [getD_set_ne true hjk] at hun; exact hun
   have hd' : ∀ d ∈ ds, (listed.setIfInBounds j true).getD d true = false → reachB md ops i n d = true := fun d hm hun => by
    refine hd d hm ?_
    by_cases hjk : j = d
    ·subst hjk; exact hjun
    ·rw [getD_set_ne true hjk] at hun; exact hun
   refine wpOp_mono (fun a' w' h3 => ⟨h3.2.1, ih (listed.setIfInBounds j true) a' w' hfree' (hc.set hj) hd' (ready_mono hr (Ne.symm hji)) (yieldsIf_weaken h3.1 fun w2 hp => HPres.trans (h3.2.1 hjd) hp) ?_⟩) h2
   rw [Array.setIfInBounds_comm _ _ hji]
   exact h3.2.2

/-- The same for what does not read memory at all. -/
theorem wpAnyR_firstF {i : Nat} {oi : Oper} {v : Value} (hi : ops[i]? = some oi) (hsel : ∀ (j : Nat) (o : Oper) cs b, ops[j]? = some o → o.op ≠ .select cs b)
  (hQ : ∀ c a w, Q (.panic c) (a.put oi.dst v) w → Q (.panic c) a w) :
  ∀ (fuel : Nat) (listed : Array Bool) (a : Act) (w : World),
   (∀ j oj, ops[j]? = some oj → j ≠ i → listed.getD j true = false → (∀ e ∈ oj.after, Region.binds md e = true → e.on ≠ i) → oi.apart ops oj = true) →
   i ∈ Region.ready md ops listed → YieldsIf P ops (fun _ => True) oi v a →
   wpAnyR P md ops Q ds fuel (listed.setIfInBounds i true) (a.put oi.dst v) w → wpAnyR P md ops Q ds (fuel + 1) listed a w := by
 intro fuel
 induction fuel with
 | zero =>
  intro listed a w _ hr hy H
  refine ⟨fun h => (by rw [h] at hr; cases hr), fun j hj => ?_⟩
  by_cases hji : j = i
  ·subst hji; exact hy.wpOp hi trivial ⟨fun _ => HPres.refl _, H⟩
  ·have := ready_mono hj hji
   rw [H.1] at this
   cases this
 | succ fuel ih =>
  intro listed a w hfree hr hy H
  refine ⟨fun h => (by rw [h] at hr; cases hr), fun j hj => ?_⟩
  by_cases hji : j = i
  ·subst hji; exact hy.wpOp hi trivial ⟨fun _ => HPres.refl _, H⟩
  ·have h1 := H.2 j (ready_mono hj hji)
   obtain ⟨hjun, oj, hoj, hall⟩ := mem_ready.1 hj
   have hiun := (mem_ready.1 hr).1
   have hnot : ∀ e ∈ oj.after, Region.binds md e = true → e.on ≠ i := fun e he hb heq => by
    have h1 := hall e he hb
    rw [heq] at h1
    rcases Nat.lt_or_ge i listed.size with h' | h'
    ·simp [h'] at hiun h1; rw [hiun] at h1; cases h1
    ·simp [Array.getElem?_eq_none h'] at h1
   have h2 := wpOp_putIf hoj (hfree j oj hoj hji hjun hnot) (fun cs b => hsel i oi cs b hi) (fun cs b => hsel j oj cs b hoj) hQ hy h1
   have hfree' : ∀ k ok, ops[k]? = some ok → k ≠ i → (listed.setIfInBounds j true).getD k true = false →
     (∀ e ∈ ok.after, Region.binds md e = true → e.on ≠ i) → oi.apart ops ok = true := fun k ok hk hki hun hno => by
    refine hfree k ok hk hki ?_ hno
    by_cases hjk : j = k
    ·subst hjk; exact hjun
    ·rw [getD_set_ne true hjk] at hun; exact hun
   refine wpOp_mono (fun a' w' h3 => ⟨h3.2.1, ih (listed.setIfInBounds j true) a' w' hfree' (ready_mono hr (Ne.symm hji)) (yieldsIf_weaken h3.1 fun w2 _ => trivial) ?_⟩) h2
   rw [Array.setIfInBounds_comm _ _ hji]
   exact h3.2.2
def freeOp : Op → Bool
 | .move _ | .assign _ | .binOp .. | .slice .. | .fieldAddr .. | .indexAddr .. => true
 | _ => false
/-- What waits for nobody's write: a plan's step. -/
def quietOp : Op → Bool
 | .move _ | .assign _ | .pick .. | .build .. | .load .. | .nilCheck _ | .binOp .. | .unOp .. | .convert .. | .makeFunc .. | .slice .. | .fieldAddr .. | .field .. | .indexAddr .. | .index .. | .extract .. => true
 | .call { callee := .builtin .len, .. } | .call { callee := .builtin .min, .. } | .call { callee := .builtin .max, .. } => true
 | _ => false
/-- The plan: (the operation's number, may it be taken first). -/
def planOk (md : Region.Mode) (ops : Array Oper) (ds : List Nat) : Array Bool → List (Nat × Bool) → Bool
 | l, [] => (Region.ready md ops l).isEmpty
 | l, (i, true) :: r => Region.free md ops l i && (Region.ready md ops l).contains i && closedB md ops l && (lastB md ops l ds i || (match ops[i]? with | some o => freeOp o.op | none => false)) && (match ops[i]? with | some o => quietOp o.op | none => false) && planOk md ops ds (l.setIfInBounds i true) r
 | l, (i, false) :: r => (Region.ready md ops l == [i]) && planOk md ops ds (l.setIfInBounds i true) r
end

theorem hcells_pres {h h' : Heap} (hp : HPres h h') (a : Addr) : ∀ (n i : Nat) (cs : List Value), hcells h a i n = some cs → hcells h' a i n = some cs
 | 0, i, cs, e => e
 | n + 1, i, cs, e => by
  simp only [hcells, Option.bind_eq_some_iff, Option.map_eq_some_iff] at e ⊢
  obtain ⟨v, hv, r, hr, rfl⟩ := e
  exact ⟨v, hp _ _ hv, r, hcells_pres hp a n (i + 1) r hr, rfl⟩
theorem loadV_pres {T : Tab} {h h' : Heap} (hp : HPres h h') {t : TypeId} {a : Addr} {v : Value} (e : loadV T h t a = some v) : loadV T h' t a = some v := by
 unfold loadV at e ⊢
 obtain ⟨i, hi, e⟩ := Option.bind_eq_some_iff.1 e
 refine Option.bind_eq_some_iff.2 ⟨i, hi, ?_⟩
 split at e
 ·rename_i hg
  rw [if_pos hg]
  obtain ⟨cs, hc, e⟩ := Option.map_eq_some_iff.1 e
  exact Option.map_eq_some_iff.2 ⟨cs, hcells_pres hp a _ _ _ hc, e⟩
 ·rename_i hg
  rw [if_neg hg]
  exact hp _ _ e

theorem convH_pres {T : Tab} {h h' : Heap} (hp : HPres h h') {s t : TypeId} {v u : Value} (e : convH T h s t v = some u) : convH T h' s t v = some u := by
 unfold convH at e ⊢
 split at e
 ·rename_i ao m c
  obtain ⟨i, hi, e⟩ := Option.bind_eq_some_iff.1 e
  obtain ⟨j, hj, e⟩ := Option.bind_eq_some_iff.1 e
  refine Option.bind_eq_some_iff.2 ⟨i, hi, Option.bind_eq_some_iff.2 ⟨j, hj, ?_⟩⟩
  split at e
  ·rename_i e' hd1 hd2
   obtain ⟨q, hq, e⟩ := Option.bind_eq_some_iff.1 e
   try rw [hd1, hd2]
   refine Option.bind_eq_some_iff.2 ⟨q, hq, ?_⟩
   split at e
   ·rename_i hd3
    try rw [hd3]
    cases ao with
    | none => exact e
    | some a =>
    obtain ⟨cs, hcs, e⟩ := Option.bind_eq_some_iff.1 e
    exact Option.bind_eq_some_iff.2 ⟨cs, hcells_pres hp a _ _ _ hcs, e⟩
   ·cases e
  ·cases e
 ·exact e

/-- A quiet operation's value, at any later world. -/
def quietV (P : Program) (o : Oper) (env : Env) (h : Heap) (v : Value) : Prop := ∀ w : World, HPres h w.heap → (execOp (ev env) o).run P w = .ok (.value v) w

/-- What a planned operation hands on: what could be read still reads the same, if it isn't one of the last. -/
def plK (i : Nat) (ds : List Nat) (h : Heap) (K : Env → Heap → Prop) : Env → Heap → Prop := fun env' h' => (ds.contains i = false → HPres h h') ∧ K env' h'
theorem plK_same {i : Nat} {ds : List Nat} {h : Heap} {K : Env → Heap → Prop} {env : Env} : plK i ds h K env h = K env h := by
 simp [plK, HPres.refl]
theorem plK_last {i : Nat} {ds : List Nat} {h h' : Heap} {K : Env → Heap → Prop} {env : Env} (hd : ds.contains i = true) (hk : K env h') : plK i ds h K env h' := ⟨fun e => (by rw [hd] at e; cases e), hk⟩
theorem plK_pres {i : Nat} {ds : List Nat} {h h' : Heap} {K : Env → Heap → Prop} {env : Env} (hp : HPres h h') (hk : K env h') : plK i ds h K env h' := ⟨fun _ => hp, hk⟩
def plansP (P : Program) (T : Tab) (n : Nat) (all : Array Oper) (ds : List Nat) : List (Nat × Bool) → (Env → Heap → Prop) → Env → Heap → Prop
 | [], K, env, h => K env h
 | (i, _) :: r, K, env, h => Bd all[i]? fun o => Gd (guardB all env o.guard) (opP P T n o (plK i ds h (plansP P T n all ds r K)) env h)
   (outv n o (plansP P T n all ds r K) env h undef)

section
variable {P : Program} {T : Tab} {n : Nat} (hT : TOk P T)
include hT

/-- A quiet operation: its rule gives its value, which any later world gives too. -/
theorem quiet_opP {o : Oper} {K : Env → Heap → Prop} {env : Env} {h : Heap} (hq : quietOp o.op = true) (hh : opP P T n o K env h) :
  ∃ v, quietV P o env h v ∧ outv n o K env h v := by
 unfold opP at hh
 split at hh
 ·rename_i t x y ho; rw [ho] at hq; cases hq
 ·rename_i c ho
  have hw : ∀ w : World, ∀ a, Agree n a env → True := fun _ _ _ => trivial
  rw [ho] at hq
  obtain ⟨callee, args, argTypes⟩ := c
  dsimp only at hh
  cases callee with
  | value f => cases hq
  | invoke r m => cases hq
  | builtin b =>
   cases b <;> (try (cases hq; done)) <;> dsimp only at hh
   case len =>
    obtain ⟨t, ht, hh⟩ := Bd_iff hh
    obtain ⟨x, hx, hh⟩ := Bd_iff hh
    obtain ⟨v, hv, hh⟩ := Bd_iff hh
    refine ⟨v, fun w _ => ?_, hh⟩
    unfold lenV at hv
    obtain ⟨i, hi, hv⟩ := Option.bind_eq_some_iff.1 hv
    unfold execOp
    simp only [ho, resolve, Sem.run_bind, Sem.run_pure, Result.andThen_ok, invoke, builtin, Builtin.len_, ht, Array.getElem?_map, hx, Option.map_some, run_under hT hi]
    split at hv
    ·rename_i hd he
     simp only [Option.some.injEq] at hv; subst hv
     simp [hd, he, goInt]
    ·rename_i hd he
     simp only [Option.some.injEq] at hv; subst hv
     simp [hd, he, goInt]
    ·rename_i hd
     simp only [Option.some.injEq] at hv; subst hv
     simp [hd, goInt]
    ·cases hv
   case min =>
    split at hh
    ·rename_i x y hx
     obtain ⟨v, hv, hh⟩ := Bd_iff hh
     refine ⟨v, fun w _ => ?_, hh⟩
     have ec : args = #[x, y] := by rw [← hx]
     unfold execOp
     simp only [ho, resolve, Sem.run_bind, Sem.run_pure, Result.andThen_ok, invoke, builtin, Builtin.min_, ec, List.map_toArray, List.map_cons, List.map_nil]
     unfold minV at hv
     split at hv
     ·rename_i e1 e2
      simp only [Option.some.injEq] at hv; subst hv
      simp [e1, e2, Builtin.min2]
     ·cases hv
    ·cases hh
   case max =>
    split at hh
    ·rename_i x y hx
     obtain ⟨v, hv, hh⟩ := Bd_iff hh
     refine ⟨v, fun w _ => ?_, hh⟩
     have ec : args = #[x, y] := by rw [← hx]
     unfold execOp
     simp only [ho, resolve, Sem.run_bind, Sem.run_pure, Result.andThen_ok, invoke, builtin, Builtin.max_, ec, List.map_toArray, List.map_cons, List.map_nil]
     unfold maxV at hv
     split at hv
     ·rename_i e1 e2
      simp only [Option.some.injEq] at hv; subst hv
      simp [e1, e2, Builtin.max2]
     ·cases hv
    ·cases hh
 ·rename_i hns hnc
  ·obtain ⟨r, hr, hz_⟩ := Bd_iff hh
   clear hh
   have hh := hz_
   clear hz_
   obtain ⟨v, h1⟩ := r
   have key : h1 = h ∧ ∀ h2, HPres h h2 → stepV T o.op env h2 = some (v, h2) := by
    cases hop : o.op <;> rw [hop] at hq hr <;> (try (cases hq; done)) <;> simp only [stepV] at hr ⊢
    case move x => simp only [Option.some.injEq, Prod.mk.injEq] at hr; obtain ⟨rfl, rfl⟩ := hr; exact ⟨rfl, fun _ _ => rfl⟩
    case assign x => simp only [Option.some.injEq, Prod.mk.injEq] at hr; obtain ⟨rfl, rfl⟩ := hr; exact ⟨rfl, fun _ _ => rfl⟩
    case load t x =>
     obtain ⟨a, ha, hr⟩ := Option.bind_eq_some_iff.1 hr
     obtain ⟨u, hu, hr⟩ := Option.map_eq_some_iff.1 hr
     simp only [Prod.mk.injEq] at hr; obtain ⟨rfl, rfl⟩ := hr
     exact ⟨rfl, fun h2 hp => by simp [ha, loadV_pres hp hu]⟩
    case makeFunc fn f c => simp only [Option.some.injEq, Prod.mk.injEq] at hr; obtain ⟨rfl, rfl⟩ := hr; exact ⟨rfl, fun _ _ => rfl⟩
    case convert s d x =>
     obtain ⟨u, hu, hr⟩ := Option.map_eq_some_iff.1 hr
     simp only [Prod.mk.injEq] at hr; obtain ⟨rfl, rfl⟩ := hr
     exact ⟨rfl, fun h2 hp => by rw [convH_pres hp hu]; rfl⟩
    case call c => exact (hnc c hop).elim
    all_goals
     obtain ⟨u, hu, hr⟩ := Option.map_eq_some_iff.1 hr
     simp only [Prod.mk.injEq] at hr; obtain ⟨rfl, rfl⟩ := hr
     exact ⟨rfl, fun _ _ => by rw [hu]; rfl⟩
   obtain ⟨rfl, hk⟩ := key
   refine ⟨v, fun w hp => ?_, hh⟩
   have := exec_stepV hT (o := o) w (hk w.heap hp)
   exact this

theorem free_opP {o : Oper} {K : Env → Heap → Prop} {env : Env} {h : Heap} (hq : freeOp o.op = true) (hh : opP P T n o K env h) :
  ∃ v, (∀ w : World, (execOp (ev env) o).run P w = .ok (.value v) w) ∧ outv n o K env h v := by
 unfold opP at hh
 split at hh
 ·rename_i t x y ho; rw [ho] at hq; cases hq
 ·rename_i c ho; rw [ho] at hq; cases hq
 ·obtain ⟨r, hr, hz_⟩ := Bd_iff hh
  clear hh
  have hh := hz_
  clear hz_
  obtain ⟨v, h1⟩ := r
  have key : h1 = h ∧ ∀ h2, stepV T o.op env h2 = some (v, h2) := by
   cases hop : o.op <;> rw [hop] at hq hr <;> (try (cases hq; done)) <;> simp only [stepV] at hr ⊢
   case move x => simp only [Option.some.injEq, Prod.mk.injEq] at hr; obtain ⟨rfl, rfl⟩ := hr; exact ⟨rfl, fun _ => rfl⟩
   case assign x => simp only [Option.some.injEq, Prod.mk.injEq] at hr; obtain ⟨rfl, rfl⟩ := hr; exact ⟨rfl, fun _ => rfl⟩
   all_goals
    obtain ⟨u, hu, hr⟩ := Option.map_eq_some_iff.1 hr
    simp only [Prod.mk.injEq] at hr; obtain ⟨rfl, rfl⟩ := hr
    exact ⟨rfl, fun _ => by rw [hu]; rfl⟩
  obtain ⟨rfl, hk⟩ := key
  exact ⟨v, fun w => exec_stepV hT (o := o) w (hk w.heap), hh⟩

theorem plan_sound {ops : Array Oper} {ds : List Nat} {Q : Exit → Env → Heap → Prop} {w0 : World} (hsel : Region.noSelect ops = true) (hQ : ∀ c env h, Q (.panic c) env h → False) :
  ∀ (pl : List (Nat × Bool)) (fuel : Nat) (listed : Array Bool) (env : Env) (a : Act) (w : World), pl.length ≤ fuel → planOk .any ops ds listed pl = true → Agree n a env → Fr w0 w →
   plansP P T n ops ds pl (Q .normal) env w.heap → wpAnyR P .any ops (KQ n w0 Q) ds fuel listed a w
 | [], fuel, listed, env, a, w, hl, hok, ha, hf, h => by
  have hr : Region.ready .any ops listed = [] := by simpa [planOk] using hok
  cases fuel with
  | zero => exact ⟨hr, env, ha, hf, h⟩
  | succ f => exact ⟨fun _ => ⟨env, ha, hf, h⟩, by rw [hr]; intro i hi; cases hi⟩
 | (i, first) :: r, fuel, listed, env, a, w, hl, hok, ha, hf, h => by
  obtain ⟨fuel, rfl⟩ : ∃ f, fuel = f + 1 := ⟨fuel - 1, by simp at hl; omega⟩
  simp only [plansP] at h
  obtain ⟨o, ho, h⟩ := Bd_iff h
  unfold Gd at h
  ·skip
   have hpan : ∀ (v : Value) (c : List PanicEntry) (a : Act) (w : World), KQ n w0 Q (.panic c) (a.put o.dst v) w → KQ n w0 Q (.panic c) a w := by
    rintro v c a w ⟨env, _, _, hq⟩
    exact (hQ c env _ hq).elim
   cases first with
   | true =>
    simp only [planOk, Bool.and_eq_true] at hok
    obtain ⟨⟨⟨⟨⟨h1, h2⟩, h3⟩, h4⟩, h5⟩, h6⟩ := hok
    rw [ho] at h5
    dsimp only at h5
    by_cases hfr : freeOp o.op = true
    ·have hyld : ∃ v, YieldsIf P ops (fun _ => True) o v a ∧ outv n o (fun env' h' => plansP P T n ops ds r (Q .normal) env' h') env w.heap v := by
      split at h
      ·rename_i hg
       obtain ⟨v, hv, hk⟩ := free_opP hT hfr h
       refine ⟨v, .inl ⟨by rw [wanted_guard ha]; exact hg, fun w' _ => by rw [ha.eval]; exact hv w'⟩, hk.1, hk.2.2⟩
      ·rename_i hg
       exact ⟨undef, .inr ⟨by rw [wanted_guard ha]; simpa using hg, rfl⟩, h⟩
     obtain ⟨v, hy, hk⟩ := hyld
     refine wpAnyR_firstF ho (Region.noSelect_spec hsel) (hpan v) fuel listed a w (Region.free_spec ho h1) (by simpa using h2) hy ?_
     exact plan_sound hsel hQ r fuel (listed.setIfInBounds i true) _ _ w (by simp at hl; omega) h6 (ha.putO (dstB_spec hk.1) v) hf hk.2
    replace h4 : lastB .any ops listed ds i = true := by
     rw [ho] at h4
     simpa [hfr] using h4
    have hyld : ∃ v, YieldsIf P ops (Pres w) o v a ∧ outv n o (fun env' h' => plansP P T n ops ds r (Q .normal) env' h') env w.heap v := by
     split at h
     ·rename_i hg
      obtain ⟨v, hv, hk⟩ := quiet_opP hT h5 h
      refine ⟨v, .inl ⟨by rw [wanted_guard ha]; exact hg, fun w' hp => by rw [ha.eval]; exact hv w' hp⟩, hk.1, hk.2.2⟩
     ·rename_i hg
      exact ⟨undef, .inr ⟨by rw [wanted_guard ha]; simpa using hg, rfl⟩, h⟩
    obtain ⟨v, hy, hk⟩ := hyld
    refine wpAnyR_first ho (Region.noSelect_spec hsel) (hpan v) ops.size fuel listed a w (Region.free_spec ho h1) (closedB_spec h3)
     (fun d hm hun => by have := List.all_eq_true.1 h4 d hm; rw [hun] at this; simpa using this) (by simpa using h2) hy ?_
    exact plan_sound hsel hQ r fuel (listed.setIfInBounds i true) _ _ w (by simp at hl; omega) h6 (ha.putO (dstB_spec hk.1) v) hf hk.2
   | false =>
    simp only [planOk, Bool.and_eq_true, beq_iff_eq] at hok
    obtain ⟨h1, h6⟩ := hok
    refine ⟨(by rw [h1]; intro h; cases h), ?_⟩
    rw [h1]
    intro j hj
    simp only [List.mem_singleton] at hj
    subst hj
    unfold wpOp
    simp only [ho]
    rw [wanted_guard ha]
    split at h
    ·rename_i hg
     simp only [hg, if_true]
     refine .inl (Oper.wp_mono ?_ (opP_sound hT ha h))
     rintro a' w' ⟨env', ha', hf', hp, hk⟩
     exact ⟨fun hd => hp (by simpa using hd), plan_sound hsel hQ r fuel (listed.setIfInBounds j true) env' a' w' (by simp at hl; omega) h6 ha' (hf.trans hf') hk⟩
    ·rename_i hg
     simp only [hg]
     exact ⟨fun _ => HPres.refl _, plan_sound hsel hQ r fuel (listed.setIfInBounds j true) _ _ w (by simp at hl; omega) h6 (ha.putO (dstB_spec h.1) undef) hf h.2⟩

theorem den_draw {id : Nat} {ops : Array Oper} {Qr : Env → Heap → Prop} {k : List It} {env : Env} {h : Heap} (hm : P.follows .mixedOrders = true) (ds : List Nat) (pl : List (Nat × Bool))
  (hok : (Region.noSelect ops && decide (pl.length ≤ ops.size) && planOk .any ops ds (Array.replicate ops.size false) pl) = true)
  (hh : ∀ K : Env → Heap → Prop, (∀ env h, den P n Qr k env h → K env h) → plansP P T n ops ds pl K env h) : den P n Qr (.code (.region id ops true) :: k) env h := by
 refine den_code ?_
 intro a w ha e
 subst e
 simp only [Bool.and_eq_true, decide_eq_true_eq] at hok
 obtain ⟨⟨h1, h2⟩, h3⟩ := hok
 refine wp_region_any hm (wpAny_of_R (ds := ds) _ _ _ _ ?_)
 exact plan_sound hT h1 (Q := denQ P n Qr k) (w0 := w) (fun c env h hq => hq) pl ops.size _ env a { w with drawn := w.drawn + 1 } h2 h3 ha ⟨rfl, rfl, rfl⟩ (hh _ (fun _ _ h => h))
end
end Go.Proofs.Ytacajcjibhifmaa

namespace Go.Proofs.Ytacajcjibhifmaa
open Go

def envOf (args : List Value) : Env := fun t => args.getD t undef
theorem puts_idxs : ∀ (l : List Value) (n t : Nat), puts (fun _ => undef) (idxs n l) t = if n ≤ t then l.getD (t - n) undef else undef
 | [], n, t => by simp [idxs, puts]
 | v :: l, n, t => by
  simp only [idxs, puts_at]
  by_cases h : t = n
  ·subst h; simp
  ·rw [if_neg h, puts_idxs l (n + 1) t]
   by_cases h2 : n ≤ t
   ·rw [if_pos (by omega), if_pos h2]
    obtain ⟨m, rfl⟩ : ∃ m, t = n + 1 + m := ⟨t - (n + 1), by omega⟩
    rw [show n + 1 + m - (n + 1) = m by omega, show n + 1 + m - n = m + 1 by omega]
    rfl
   ·rw [if_neg (by omega), if_neg h2]
theorem envOf_puts (l : List Value) : envOf l = puts (fun _ => undef) (idxs 0 l) := by
 funext t
 rw [puts_idxs]
 simp [envOf]

def resL (T : Tab) (env : Env) (h : Heap) : List ResultVar → Option (List Value)
 | [] => some []
 | .tmp t :: r => (resL T env h r).map (env t :: ·)
 | .cell a t :: r => (asAd (env a)).bind fun ad => (loadV T h t ad).bind fun v => (resL T env h r).map (v :: ·)
def resV (T : Tab) (env : Env) (h : Heap) (rs : List ResultVar) : Option Value :=
 (resL T env h rs).map fun vs => match vs with
  | [v] => v
  | vs => .tuple vs.toArray
def resP (T : Tab) (rs : List ResultVar) (R : Value → Heap → Prop) (env : Env) (h : Heap) : Prop :=
 match resV T env h rs with
 | some v => R v h
 | none => False

def resF (tmps : Array Value) : ResultVar → Sem Value
 | .tmp t => pure (tmps.getD t undef)
 | .cell x t => do loadVar t (← asAddr (tmps.getD x undef))

section
variable {P : Program} {T : Tab} (hT : TOk P T)
include hT
omit hT in
theorem results_eq (fn : Func) (tmps : Array Value) : results fn tmps = (do
  let vs ← fn.results.mapM (resF tmps)
  pure (if h : vs.size = 1 then vs[0] else .tuple vs)) := rfl
theorem run_resL {n : Nat} {a : Act} {env : Env} (ha : Agree n a env) (w : World) : ∀ (rs : List ResultVar) (vs : List Value), resL T env w.heap rs = some vs → (rs.mapM (resF a.tmps)).run P w = .ok vs w
 | [], vs, h => by simp [resL] at h; subst h; simp
 | .tmp t :: r, vs, h => by
  simp only [resL, Option.map_eq_some_iff] at h
  obtain ⟨l, hl, rfl⟩ := h
  have ih := run_resL ha w r l hl
  simp only [List.mapM_cons, resF, Sem.run_bind, Sem.run_pure, Result.andThen_ok, ih, ha.at_]
 | .cell x t :: r, vs, h => by
  simp only [resL, Option.bind_eq_some_iff, Option.map_eq_some_iff] at h
  obtain ⟨ad, had, v, hv, l, hl, rfl⟩ := h
  have ih := run_resL ha w r l hl
  simp only [List.mapM_cons, resF, Sem.run_bind, ha.at_, asAd_some had, asAddr, Sem.run_pure, Result.andThen_ok, run_loadT hT w hv, ih]

theorem run_results {n : Nat} {a : Act} {env : Env} (ha : Agree n a env) (w : World) (fn : Func) {v : Value} (h : resV T env w.heap fn.results.toList = some v) : (results fn a.tmps).run P w = .ok v w := by
 obtain ⟨vs, hvs, rfl⟩ := Option.map_eq_some_iff.1 h
 have := run_resL hT ha w _ _ hvs
 rw [results_eq, Array.mapM_eq_mapM_toList]
 simp only [Sem.run_bind, Sem.run_map, this, Result.andThen_ok, Sem.run_pure]
 match vs with
 | [] => simp
 | [v] => simp
 | v :: u :: r => simp

theorem callA_intro {g : FuncId} {fn : Func} {c : Code} {args : List Value} {h : Heap} {R : Value → Heap → Prop} (hf : P.funcs[g]? = some fn) (hn : (fn.name == "runtime.NumGoroutine") = false) (hb : fn.body = some c)
  (n : Nat) (hnt : fn.ntmps = n) (hs : args.length ≤ n) (rs : List ResultVar) (hrs : fn.results.toList = rs) (hh : den P n (resP T rs R) [.code c] (puts (fun _ => undef) (idxs 0 args)) h) : CallA P g args.toArray h R := by
 rw [← envOf_puts] at hh
 refine ⟨fn, hf, hn, by rw [hb]; rfl, fun w hw => ?_⟩
 refine calls_of_wp hf hb ?_
 have ha : Agree n { tmps := args.toArray ++ Array.replicate (fn.ntmps - args.toArray.size) undef, defers := [] } (envOf args) := by
  refine ⟨rfl, by simp [hnt]; omega, fun t => ?_⟩
  simp only [Array.getD_eq_getD_getElem?, envOf, List.getD_eq_getElem?_getD]
  by_cases ht : t < args.length
  ·rw [Array.getElem?_append_left (by simpa using ht)]
   simp
  ·rw [Array.getElem?_append_right (by simpa using Nat.le_of_not_lt ht), List.getElem?_eq_none (by omega)]
   rw [Array.getElem?_replicate]
   split <;> simp
 rw [den] at hh
 refine wp_mono (hh _ w ha hw) ?_
 rintro e a' w' ⟨env', ha', hf', hq⟩
 have fin : ∀ env', Agree n a' env' → Fr w w' → resP T rs R env' w'.heap → a'.defers = [] ∧ ∃ v, (results fn a'.tmps).run P w' = .ok v w' ∧ ∃ v', Ending.returned v = .returned v' ∧ Fr w w' ∧ R v' w'.heap := by
  intro env' ha' hf' hq
  unfold resP at hq
  split at hq
  ·rename_i v hv
   exact ⟨ha'.defers, v, run_results hT ha' w' fn (by rw [hrs]; exact hv), v, rfl, hf', hq⟩
  ·exact hq.elim
 cases e with
 | normal => exact fin env' ha' hf' (by simpa [den] using hq)
 | ret => exact fin env' ha' hf' hq
 | exit id => simp [denX] at hq
 | goto l => exact hq.elim
 | panic c => exact hq.elim
 | outgrown => exact hq.elim
end
end Go.Proofs.Ytacajcjibhifmaa

namespace Go.Proofs.Ytacajcjibhifmaa
open Go

/-- The table of the program itself. -/
def tabOf (P : Program) : Tab := fun t => (P.underlying t).bind fun d => (P.info? t).bind fun f => f.zero.bind fun z => if (f.size == 594 && (P.stoodInHeld t || P.eqGuardType P.depth t)) = true then none else some ⟨d, f.size, f.bytes, z⟩
theorem tabOf_ok (P : Program) : TOk P (tabOf P) := by
 intro t i h
 simp only [tabOf, Option.bind_eq_some_iff] at h
 obtain ⟨d, hd, f, hf, z, hz, h⟩ := h
 split at h
 ·cases h
 ·rename_i hc
  simp only [Option.some.injEq] at h
  subst h
  refine ⟨hd, f, hf, rfl, rfl, hz, fun h594 => ?_⟩
  simp only [Bool.and_eq_true, beq_iff_eq, Bool.or_eq_true, not_and, not_or, Bool.not_eq_true] at hc
  exact hc h594

structure SlT (T : Tab) (t e : TypeId) : Prop where
 mk :: (out : ∃ i j, T t = some i ∧ i.desc = .slice e ∧ T e = some j ∧ j.size = 1)

/-- t is a type of slices of e; e has one cell, so many bytes, the zero z. -/
structure SlZ (T : Tab) (t e : TypeId) (bytes : Nat) (z : Value) : Prop where
 el : elT T t = some (e, ⟨(((T e).map (·.desc)).getD .bool), 1, bytes, z⟩)
 one : z.cells = #[z]
 pos : 0 < bytes
 notInt : isIntT T t = some false

def sA : Value → Addr
 | .slice (some a) _ _ => a
 | _ => ⟨0, 0, none⟩
def rowV (h : Heap) (v : Value) (j : Nat) : Value := (hcell h ((sA v).add j)).getD undef

/-- v reads as the list xs, its elements by E. -/
def RdS {α : Type} (E : Heap → Value → α → Prop) (h : Heap) (v : Value) (xs : List α) : Prop :=
 ∃ A c, v = .slice A xs.length c ∧ (A.isSome = true ∨ xs.length = 0) ∧ xs.length ≤ c ∧ c ≤ 9223372036854775807 ∧ ∀ j (hj : j < xs.length), ∃ u, hcell h ((sA v).add j) = some u ∧ E h u xs[j]
def RdI (_ : Heap) (v : Value) (x : Int) : Prop := v = .int .i64 x
abbrev R1 : Heap → Value → List Int → Prop := RdS RdI
abbrev R2 : Heap → Value → List (List Int) → Prop := RdS R1
abbrev R3 : Heap → Value → List (List (List Int)) → Prop := RdS R2
section
variable {T : Tab} {α : Type} {E : Heap → Value → α → Prop} {h : Heap} {v : Value} {xs : List α}
theorem RdS.len (hv : RdS E h v xs) {t e : TypeId} (ht : SlT T t e) : lenV T t v = some (.int .i64 xs.length) := by
 obtain ⟨A, c, rfl, _⟩ := hv
 obtain ⟨i, j, h1, h2, _⟩ := ht.out
 simp [lenV, h1, h2]
theorem RdS.idx (hv : RdS E h v xs) {t e : TypeId} (ht : SlT T t e) (k : IntKind) (i : Int) (h0 : 0 ≤ i) (h1 : i < xs.length) : idxAddrV T t v (.int k i) = some (.pointer (some ((sA v).add i.toNat))) := by
 obtain ⟨A, c, rfl, hA, _⟩ := hv
 obtain ⟨q, j, e1, e2, e3, e4⟩ := ht.out
 have hs : A.isSome = true := hA.resolve_right (by omega)
 obtain ⟨a, rfl⟩ := Option.isSome_iff_exists.1 hs
 simp [idxAddrV, e1, e2, e3, e4, asI, h0, h1, sA]
theorem RdS.cell (hv : RdS E h v xs) (i : Int) (h0 : 0 ≤ i) (h1 : i < xs.length) : hcell h ((sA v).add i.toNat) = some (rowV h v i.toNat) := by
 obtain ⟨A, c, rfl, hA, _, _, hc⟩ := hv
 obtain ⟨u, hu, _⟩ := hc i.toNat (by omega)
 simp [rowV, hu]
theorem RdS.le (hv : RdS E h v xs) : (xs.length : Int) ≤ 9223372036854775807 := by
 obtain ⟨A, c, rfl, hA, h1, h2, hc⟩ := hv
 omega
theorem RdS.row [Inhabited α] (hv : RdS E h v xs) (i : Int) (h0 : 0 ≤ i) (h1 : i < xs.length) : E h (rowV h v i.toNat) (xs.getD i.toNat default) := by
 obtain ⟨A, c, rfl, hA, _, _, hc⟩ := hv
 have hl : i.toNat < xs.length := by omega
 obtain ⟨u, hu, he⟩ := hc i.toNat hl
 rw [List.getD_eq_getElem?_getD, List.getElem?_eq_getElem hl]
 simpa [rowV, hu] using he
end
theorem RdS.cellN {α : Type} {E : Heap → Value → α → Prop} {h : Heap} {v : Value} {xs : List α} (hv : RdS E h v xs) (j : Nat) (hj : j < xs.length) : hcell h ((sA v).add j) = some (rowV h v j) := by
 have := RdS.cell hv (j : Int) (by omega) (by omega)
 simpa using this
theorem RdS.rowN {α : Type} [Inhabited α] {E : Heap → Value → α → Prop} {h : Heap} {v : Value} {xs : List α} (hv : RdS E h v xs) (j : Nat) (hj : j < xs.length) : E h (rowV h v j) (xs.getD j default) := by
 have := RdS.row hv (j : Int) (by omega) (by omega)
 simpa using this
theorem R1.intN {h : Heap} {v : Value} {xs : List Int} (hv : R1 h v xs) (j : Nat) (hj : j < xs.length) : hcell h ((sA v).add j) = some (.int .i64 (xs.getD j 0)) := by
 rw [RdS.cellN hv j hj]
 exact congrArg some (RdS.rowN hv j hj)
theorem RdS.cellB {α : Type} {E : Heap → Value → α → Prop} {h hc : Heap} {v : Value} {xs : List α} (hv : RdS E h v xs) (hp : HPres h hc) (j : Nat) (hj : j < xs.length) : hcell hc ((sA v).add j) = some (rowV h v j) := hp _ _ (RdS.cellN hv j hj)
theorem R1.intB {h hc : Heap} {v : Value} {xs : List Int} (hv : R1 h v xs) (hp : HPres h hc) (j : Nat) (hj : j < xs.length) : hcell hc ((sA v).add j) = some (.int .i64 (xs.getD j 0)) := hp _ _ (R1.intN hv j hj)
theorem R1.int {h : Heap} {v : Value} {xs : List Int} (hv : R1 h v xs) (i : Int) (h0 : 0 ≤ i) (h1 : i < xs.length) : hcell h ((sA v).add i.toNat) = some (.int .i64 (xs.getD i.toNat 0)) := by
 rw [RdS.cell hv i h0 h1]
 exact congrArg some (RdS.row hv i h0 h1)

/-- What could be read still reads the same: readings live on. -/
class Mono {α : Type} (E : Heap → Value → α → Prop) : Prop where
 mono : ∀ {h h' : Heap} {v : Value} {x : α}, HPres h h' → E h v x → E h' v x
instance : Mono RdI := ⟨fun _ h => h⟩
instance {α : Type} {E : Heap → Value → α → Prop} [Mono E] : Mono (RdS E) := ⟨fun hp ⟨A, c, hv, hA, hc, hm, hr⟩ => ⟨A, c, hv, hA, hc, hm, fun j hj => let ⟨u, hu, he⟩ := hr j hj; ⟨u, hp _ _ hu, Mono.mono hp he⟩⟩⟩
theorem RdS.pres {α : Type} {E : Heap → Value → α → Prop} [Mono E] {h h' : Heap} {v : Value} {xs : List α} (hv : RdS E h v xs) (hp : HPres h h') : RdS E h' v xs := Mono.mono hp hv

/-- The heap has only grown: every old block is as it was. -/
structure Ext (h h' : Heap) : Prop where
 size : h.size ≤ h'.size
 block : ∀ i, i < h.size → h'[i]? = h[i]?
theorem Ext.refl (h : Heap) : Ext h h := ⟨Nat.le_refl _, fun _ _ => rfl⟩
theorem Ext.trans {a b c : Heap} (h : Ext a b) (k : Ext b c) : Ext a c := ⟨Nat.le_trans h.size k.size, fun i hi => (k.block i (Nat.lt_of_lt_of_le hi h.size)).trans (h.block i hi)⟩
theorem Ext.push (h : Heap) (o : Obj) : Ext h (h.push o) := ⟨by simp, fun i hi => by simp [Array.getElem?_push, Nat.ne_of_lt hi]⟩
theorem hcell_lt {h : Heap} {a : Addr} {v : Value} (e : hcell h a = some v) : a.block < h.size := by
 unfold hcell World.cell? hw at e
 rcases Nat.lt_or_ge a.block h.size with hl | hl
 ·exact hl
 ·rw [Array.getElem?_eq_none hl] at e; cases e
theorem hcell_block {h h' : Heap} {a : Addr} (e : h'[a.block]? = h[a.block]?) : hcell h' a = hcell h a := by
 unfold hcell World.cell? hw
 simp only [e]
/-! Arrays: the place of an element, and an element of an array by value. -/
theorem idxAddr_arr {T : Tab} {t e : TypeId} {n s : Nat} {k : IntKind} {i : Int} {a : Addr} (ht : (T t).map (·.desc) = some (.array n e)) (he : (T e).map (·.size) = some s) (h : 0 ≤ i ∧ i < n) : idxAddrV T t (.pointer (some a)) (.int k i) = some (.pointer (some (a.add (i.toNat * s)))) := by
 obtain ⟨x, hx, hd⟩ := Option.map_eq_some_iff.1 ht
 obtain ⟨y, hy, hs⟩ := Option.map_eq_some_iff.1 he
 simp only [idxAddrV, hx, Option.bind_some, asI, hd, hy, if_pos h, hs]
theorem index_arr1 {T : Tab} {t e : TypeId} {n : Nat} {k : IntKind} {i : Int} {cs : Array Value} (ht : (T t).map (·.desc) = some (.array n e)) (he : (T e).map (fun y => (y.size, isAggD y.desc)) = some (1, false)) (h : 0 ≤ i ∧ i < n) : indexV T t (.agg cs) (.int k i) = cs[i.toNat]? := by
 obtain ⟨x, hx, hd⟩ := Option.map_eq_some_iff.1 ht
 obtain ⟨y, hy, hs⟩ := Option.map_eq_some_iff.1 he
 simp only [Prod.mk.injEq] at hs
 simp [indexV, hx, asI, hd, hy, h, hs.1, hs.2, partV]
theorem Ext.pres {h h' : Heap} (k : Ext h h') : HPres h h' := fun a v e => by rw [hcell_block (k.block _ (hcell_lt e))]; exact e
end Go.Proofs.Ytacajcjibhifmaa

namespace Go.Proofs.Ytacajcjibhifmaa
open Go
noncomputable def TT : Tab := tabOf Try.prog
theorem TTok : TOk Try.prog TT := tabOf_ok _
theorem mixed : Try.prog.follows .mixedOrders = true := by kernel_rfl
theorem T2 : TT 2 = some ⟨.int .i64, 1, 8, (.int .i64 0)⟩ := by kernel_rfl
theorem ld2 (h : Heap) (a : Addr) : loadV TT h 2 a = hcell h a := by kernel_rfl
theorem st2 (h : Heap) (a : Addr) (v : Value) : storeV TT h 2 a v = if v.cells.size = 1 then hputs a h 0 v.cells.toList else none := by kernel_rfl
theorem ld3 (h : Heap) (a : Addr) : loadV TT h 3 a = hcell h a := by kernel_rfl
theorem st3 (h : Heap) (a : Addr) (v : Value) : storeV TT h 3 a v = if v.cells.size = 1 then hputs a h 0 v.cells.toList else none := by kernel_rfl
theorem T4 : TT 4 = some ⟨.bool, 1, 1, (.bool false)⟩ := by kernel_rfl
theorem T5 : TT 5 = some ⟨.int .u8, 1, 1, (.int .u8 0)⟩ := by kernel_rfl
theorem ld5 (h : Heap) (a : Addr) : loadV TT h 5 a = hcell h a := by kernel_rfl
theorem st5 (h : Heap) (a : Addr) (v : Value) : storeV TT h 5 a v = if v.cells.size = 1 then hputs a h 0 v.cells.toList else none := by kernel_rfl
theorem T9 : TT 9 = some ⟨.string, 1, 16, (.string ⟨#[]⟩)⟩ := by kernel_rfl
theorem ld9 (h : Heap) (a : Addr) : loadV TT h 9 a = hcell h a := by kernel_rfl
theorem ia22 (a : Addr) {i : Int} (h : 0 ≤ i ∧ i < 8) : idxAddrV TT 22 (.pointer (some a)) (.int .i64 i) = some (.pointer (some (a.add i.toNat))) := by rw [← Nat.mul_one i.toNat]; exact idxAddr_arr (s := 1) (e := 2) (n := 8) (by kernel_rfl) (by kernel_rfl) h
theorem ld22 (h : Heap) (a : Addr) : loadV TT h 22 a = (hcells h a 0 8).map fun cs => .agg cs.toArray := by kernel_rfl
theorem st22 (h : Heap) (a : Addr) (v : Value) : storeV TT h 22 a v = if v.cells.size = 8 then hputs a h 0 v.cells.toList else none := by kernel_rfl
theorem ia30 (a : Addr) {i : Int} (h : 0 ≤ i ∧ i < 8) : idxAddrV TT 30 (.pointer (some a)) (.int .i64 i) = some (.pointer (some (a.add i.toNat))) := by rw [← Nat.mul_one i.toNat]; exact idxAddr_arr (s := 1) (e := 5) (n := 8) (by kernel_rfl) (by kernel_rfl) h
theorem ix30 (cs : Array Value) {i : Int} (h : 0 ≤ i ∧ i < 8) : indexV TT 30 (.agg cs) (.int .i64 i) = cs[i.toNat]? := index_arr1 (e := 5) (n := 8) (by kernel_rfl) (by kernel_rfl) h
theorem ld30 (h : Heap) (a : Addr) : loadV TT h 30 a = (hcells h a 0 8).map fun cs => .agg cs.toArray := by kernel_rfl
theorem st30 (h : Heap) (a : Addr) (v : Value) : storeV TT h 30 a v = if v.cells.size = 8 then hputs a h 0 v.cells.toList else none := by kernel_rfl
theorem ia31 (a : Addr) {i : Int} (h : 0 ≤ i ∧ i < 8) : idxAddrV TT 31 (.pointer (some a)) (.int .i64 i) = some (.pointer (some (a.add (i.toNat * 8)))) := idxAddr_arr (s := 8) (e := 30) (n := 8) (by kernel_rfl) (by kernel_rfl) h
theorem ia32 (a : Addr) {i : Int} (h : 0 ≤ i ∧ i < 8) : idxAddrV TT 32 (.pointer (some a)) (.int .i64 i) = some (.pointer (some (a.add (i.toNat * 64)))) := idxAddr_arr (s := 64) (e := 31) (n := 8) (by kernel_rfl) (by kernel_rfl) h
theorem fa34_0 (a : Addr) : fieldAddrV TT 34 (.pointer (some a)) 0 = some (.pointer (some (a.add 0))) := by kernel_rfl
theorem fa34_1 (a : Addr) : fieldAddrV TT 34 (.pointer (some a)) 1 = some (.pointer (some (a.add 1))) := by kernel_rfl
theorem fa34_2 (a : Addr) : fieldAddrV TT 34 (.pointer (some a)) 2 = some (.pointer (some (a.add 2))) := by kernel_rfl
theorem fa34_3 (a : Addr) : fieldAddrV TT 34 (.pointer (some a)) 3 = some (.pointer (some (a.add 10))) := by kernel_rfl
theorem fa34_4 (a : Addr) : fieldAddrV TT 34 (.pointer (some a)) 4 = some (.pointer (some (a.add 18))) := by kernel_rfl
theorem fa34_5 (a : Addr) : fieldAddrV TT 34 (.pointer (some a)) 5 = some (.pointer (some (a.add 82))) := by kernel_rfl
theorem ld34 (h : Heap) (a : Addr) : loadV TT h 34 a = (hcells h a 0 594).map fun cs => .agg cs.toArray := by kernel_rfl
theorem st34 (h : Heap) (a : Addr) (v : Value) : storeV TT h 34 a v = if v.cells.size = 594 then hputs a h 0 v.cells.toList else none := by kernel_rfl
theorem T37 : TT 37 = some ⟨.slice 5, 1, 24, (.slice none 0 0)⟩ := by kernel_rfl
theorem ld37 (h : Heap) (a : Addr) : loadV TT h 37 a = hcell h a := by kernel_rfl
theorem T55 : TT 55 = some ⟨.slice 2, 1, 24, (.slice none 0 0)⟩ := by kernel_rfl
theorem T89 : TT 89 = some ⟨.slice 9, 1, 24, (.slice none 0 0)⟩ := by kernel_rfl
theorem T96 : TT 96 = some ⟨.slice 98, 1, 24, (.slice none 0 0)⟩ := by kernel_rfl
theorem ld96 (h : Heap) (a : Addr) : loadV TT h 96 a = hcell h a := by kernel_rfl
theorem st96 (h : Heap) (a : Addr) (v : Value) : storeV TT h 96 a v = if v.cells.size = 1 then hputs a h 0 v.cells.toList else none := by kernel_rfl
theorem fa98_0 (a : Addr) : fieldAddrV TT 98 (.pointer (some a)) 0 = some (.pointer (some (a.add 0))) := by kernel_rfl
theorem fa98_1 (a : Addr) : fieldAddrV TT 98 (.pointer (some a)) 1 = some (.pointer (some (a.add 1))) := by kernel_rfl
theorem ld98 (h : Heap) (a : Addr) : loadV TT h 98 a = (hcells h a 0 2).map fun cs => .agg cs.toArray := by kernel_rfl
theorem st98 (h : Heap) (a : Addr) (v : Value) : storeV TT h 98 a v = if v.cells.size = 2 then hputs a h 0 v.cells.toList else none := by kernel_rfl
noncomputable def d98 : TypeDesc := (Try.prog.underlying 98).getD .bool
theorem T98 : TT 98 = some ⟨d98, 2, 16, .agg #[(.int .i64 0), (.int .i64 0)]⟩ := by kernel_rfl
theorem ld99 (h : Heap) (a : Addr) : loadV TT h 99 a = hcell h a := by kernel_rfl
theorem st99 (h : Heap) (a : Addr) (v : Value) : storeV TT h 99 a v = if v.cells.size = 1 then hputs a h 0 v.cells.toList else none := by kernel_rfl
theorem ld120 (h : Heap) (a : Addr) : loadV TT h 120 a = hcell h a := by kernel_rfl
theorem st120 (h : Heap) (a : Addr) (v : Value) : storeV TT h 120 a v = if v.cells.size = 1 then hputs a h 0 v.cells.toList else none := by kernel_rfl
theorem fa122_0 (a : Addr) : fieldAddrV TT 122 (.pointer (some a)) 0 = some (.pointer (some (a.add 0))) := by kernel_rfl
theorem fa122_1 (a : Addr) : fieldAddrV TT 122 (.pointer (some a)) 1 = some (.pointer (some (a.add 1))) := by kernel_rfl
theorem fa122_2 (a : Addr) : fieldAddrV TT 122 (.pointer (some a)) 2 = some (.pointer (some (a.add 2))) := by kernel_rfl
theorem sl37 : SlT TT 37 5 := ⟨⟨_, _, T37, rfl, T5, rfl⟩⟩
theorem sl55 : SlT TT 55 2 := ⟨⟨_, _, T55, rfl, T2, rfl⟩⟩
theorem sz55 : SlZ TT 55 2 8 (.int .i64 0) := ⟨by kernel_rfl, rfl, by decide, by kernel_rfl⟩
theorem sl89 : SlT TT 89 9 := ⟨⟨_, _, T89, rfl, T9, rfl⟩⟩
end Go.Proofs.Ytacajcjibhifmaa

namespace Go.Proofs.Ytacajcjibhifmaa
open Go

section
variable {P : Program} {T : Tab} {n : Nat} {all : Array Oper} {K : Env → Heap → Prop} {env : Env} {h : Heap} {r : List Oper} {d : Option Tmp} {ty : TypeId} {p : String} {a : Array Edge} {g : Option (Nat × Bool)} {op : Op}
@[congr] theorem opsP_congr {l : List Oper} {h' : Heap} (e : h = h') : opsP P T n all l K env h = opsP P T n all l K env h' := by rw [e]
@[congr] theorem opP_congr {o : Oper} {h' : Heap} (e : h = h') : opP P T n o K env h = opP P T n o K env h' := by rw [e]
@[congr] theorem outv_congr {o : Oper} {h' : Heap} {v v' : Value} (e : h = h') (e' : v = v') : outv n o K env h v = outv n o K env h' v' := by rw [e, e']
@[congr] theorem plansP_congr {ds : List Nat} {l : List (Nat × Bool)} {h' : Heap} (e : h = h') : plansP P T n all ds l K env h = plansP P T n all ds l K env h' := by rw [e]
@[congr] theorem CallA_congr {f : FuncId} {args args' : Array Value} {R : Value → Heap → Prop} (e : args = args') : CallA P f args h R = CallA P f args' h R := by rw [e]
@[congr] theorem appendP_congr {e : TypeId} {j : TI} {base : Option Addr} {sLen sCap m : Nat} {new new' : List Value} {K : Value → Heap → Prop} (q : new = new') : appendP T e j base sLen sCap m new h K = appendP T e j base sLen sCap m new' h K := by rw [q]

theorem opsP_nil : opsP P T n all [] K env h = K env h := rfl
theorem opsP_none : opsP P T n all (⟨d, op, ty, p, a, none⟩ :: r) K env h = opP P T n ⟨d, op, ty, p, a, none⟩ (opsP P T n all r K) env h := Gd_t _ _
def gv (w : Bool) : Option Value → Bool
 | some (.bool b) => b == w
 | _ => false
theorem gv_bool (w b : Bool) : gv w (some (.bool b)) = (b == w) := rfl
theorem gv_undef (w : Bool) : gv w (some undef) = false := rfl
def opAt (all : Array Oper) (i : Nat) : Option Oper := all[i]?
@[congr] theorem opAt_congr {j : Nat} : opAt all j = opAt all j := rfl
/-- The slot of operation j. -/
def slotOf (all : Array Oper) (j : Nat) : Option Nat := (all[j]?).bind (·.dst)
@[congr] theorem slotOf_congr {j : Nat} : slotOf all j = slotOf all j := rfl
theorem guardB_gv {j : Nat} {w : Bool} : guardB all env (some (j, w)) = gv w ((slotOf all j).map env) := by
 unfold guardB gv slotOf
 dsimp only
 generalize (all[j]?).bind (fun x => x.dst) = o
 cases o with
 | none => rfl
 | some t =>
  simp only [Option.map_some]
  cases env t <;> rfl
theorem slotOf_zero {o : Oper} {l : List Oper} : slotOf (List.toArray (o :: l)) 0 = o.dst := by simp [slotOf]
theorem slotOf_succ {o : Oper} {l : List Oper} {j : Nat} : slotOf (List.toArray (o :: l)) (j + 1) = slotOf (List.toArray l) j := by simp [slotOf]
theorem opsP_some {j : Nat} {w : Bool} : opsP P T n all (⟨d, op, ty, p, a, some (j, w)⟩ :: r) K env h = Gd (gv w ((slotOf all j).map env)) (opP P T n ⟨d, op, ty, p, a, some (j, w)⟩ (opsP P T n all r K) env h) (outv n ⟨d, op, ty, p, a, some (j, w)⟩ (opsP P T n all r K) env h undef) := by
 rw [← guardB_gv]; rfl
theorem opsP_gt {j : Nat} {w : Bool} (hg : gv w ((slotOf all j).map env) = true) : opsP P T n all (⟨d, op, ty, p, a, some (j, w)⟩ :: r) K env h = opP P T n ⟨d, op, ty, p, a, some (j, w)⟩ (opsP P T n all r K) env h := by rw [opsP_some, hg, Gd_t]
theorem opsP_gf {j : Nat} {w : Bool} (hg : gv w ((slotOf all j).map env) = false) : opsP P T n all (⟨d, op, ty, p, a, some (j, w)⟩ :: r) K env h = outv n ⟨d, op, ty, p, a, some (j, w)⟩ (opsP P T n all r K) env h undef := by rw [opsP_some, hg, Gd_f]
theorem opsP_T {j : Nat} {b : Bool} (hb : (slotOf all j).map env = some (.bool b)) (h1 : b = true → opP P T n ⟨d, op, ty, p, a, some (j, true)⟩ (opsP P T n all r K) env h) (h2 : b = false → outv n ⟨d, op, ty, p, a, some (j, true)⟩ (opsP P T n all r K) env h undef) :
  opsP P T n all (⟨d, op, ty, p, a, some (j, true)⟩ :: r) K env h := by
 rw [opsP_some, hb, gv_bool]
 cases b
 ·exact (Gd_f _ _).symm ▸ h2 rfl
 ·exact (Gd_t _ _).symm ▸ h1 rfl
theorem opsP_F {j : Nat} {b : Bool} (hb : (slotOf all j).map env = some (.bool b)) (h1 : b = false → opP P T n ⟨d, op, ty, p, a, some (j, false)⟩ (opsP P T n all r K) env h) (h2 : b = true → outv n ⟨d, op, ty, p, a, some (j, false)⟩ (opsP P T n all r K) env h undef) :
  opsP P T n all (⟨d, op, ty, p, a, some (j, false)⟩ :: r) K env h := by
 rw [opsP_some, hb, gv_bool]
 cases b
 ·exact (Gd_t _ _).symm ▸ h1 rfl
 ·exact (Gd_f _ _).symm ▸ h2 rfl
theorem outv_some {t : Nat} {v : Value} (ht : Nat.blt t n = true) : outv n ⟨some t, op, ty, p, a, g⟩ K env h v = K (put env t v) h := by
 have : t < n := by rw [Nat.blt_eq] at ht; exact ht
 simp [outv, dstB, putO, this]
theorem outv_none {v : Value} : outv n ⟨none, op, ty, p, a, g⟩ K env h v = K env h := by simp [outv, dstB, putO]

theorem ev_tmp {t : Nat} : ev env (.tmp t) = env t := rfl
theorem ev_const {v : Value} : ev env (.const v) = v := rfl
theorem ev_func {f : Nat} : ev env (.func f) = .func (.func f) #[] #[] := rfl

theorem opP_move {x : Operand} : opP P T n ⟨d, .move x, ty, p, a, g⟩ K env h = outv n ⟨d, .move x, ty, p, a, g⟩ K env h (ev env x) := rfl
theorem opP_assign {x : Operand} : opP P T n ⟨d, .assign x, ty, p, a, g⟩ K env h = outv n ⟨d, .assign x, ty, p, a, g⟩ K env h (ev env x) := rfl
theorem opP_pick {c x y : Operand} : opP P T n ⟨d, .pick c x y, ty, p, a, g⟩ K env h = Bd (asB (ev env c)) fun t => outv n ⟨d, .pick c x y, ty, p, a, g⟩ K env h (if t = true then ev env x else ev env y) := by
 simp only [opP, stepV]
 cases asB (ev env c) <;> rfl
theorem opP_alloc {e : TypeId} : opP P T n ⟨d, .alloc e, ty, p, a, g⟩ K env h = Bd (T e) fun i => outv n ⟨d, .alloc e, ty, p, a, g⟩ K env (h.push (.cells i.zero.cells e)) (.pointer (some ⟨h.size, 0, none⟩)) := by
 simp only [opP, stepV]
 cases T e <;> rfl
theorem opP_box {e : TypeId} {x : Operand} : opP P T n ⟨d, .box e x, ty, p, a, g⟩ K env h = outv n ⟨d, .box e x, ty, p, a, g⟩ K env (h.push (.cells (ev env x).cells e)) (.pointer (some ⟨h.size, 0, none⟩)) := rfl
theorem opP_build {t : TypeId} {ps : Array (Nat × Operand)} : opP P T n ⟨d, .build t ps, ty, p, a, g⟩ K env h = Bd (buildV T t (ps.map fun (i, x) => (i, ev env x)).toList) fun v => outv n ⟨d, .build t ps, ty, p, a, g⟩ K env h v := by
 simp only [opP, stepV]
 cases (buildV T t (ps.map fun (i, x) => (i, ev env x)).toList) <;> rfl
theorem opP_buildSlice {t : TypeId} {len : Nat} {ps : Array (Nat × Operand)} : opP P T n ⟨d, .buildSlice t len ps, ty, p, a, g⟩ K env h = Bd (buildSliceV T h t len (ps.map fun (i, x) => (i, ev env x)).toList) fun r => outv n ⟨d, .buildSlice t len ps, ty, p, a, g⟩ K env r.2 r.1 := rfl
theorem opP_load {t : TypeId} {x : Operand} : opP P T n ⟨d, .load t x, ty, p, a, g⟩ K env h = Bd (asAd (ev env x)) fun ad => Bd (loadV T h t ad) fun v => outv n ⟨d, .load t x, ty, p, a, g⟩ K env h v := by
 simp only [opP, stepV]
 cases asAd (ev env x) with
 | none => rfl
 | some ad =>
  simp only [Option.bind_some, Bd_some]
  cases loadV T h t ad <;> rfl
theorem opP_store {t : TypeId} {x y : Operand} : opP P T n ⟨d, .store t x y, ty, p, a, g⟩ K env h = Bd (asAd (ev env x)) fun ad => Bd (storeV T h t ad (ev env y)) fun h' => outv n ⟨d, .store t x y, ty, p, a, g⟩ K env h' undef := rfl
theorem nilOk_ptr {ad : Addr} : nilOk (.pointer (some ad)) = some (.pointer (some ad)) := rfl
theorem nilOk_fn {f : Nat} {x y : Array Value} : nilOk (.func (.func f) x y) = some (.func (.func f) x y) := rfl
theorem opP_nilCheck {x : Operand} : opP P T n ⟨d, .nilCheck x, ty, p, a, g⟩ K env h = Bd (nilOk (ev env x)) fun v => outv n ⟨d, .nilCheck x, ty, p, a, g⟩ K env h v := by
 simp only [opP, stepV]
 cases nilOk (ev env x) <;> rfl
theorem opP_binOp {b : BinOp} {t t' : TypeId} {x y : Operand} : opP P T n ⟨d, .binOp b t x y t', ty, p, a, g⟩ K env h = Bd (binV T b t (ev env x) (ev env y)) fun v => outv n ⟨d, .binOp b t x y t', ty, p, a, g⟩ K env h v := by
 simp only [opP, stepV]
 cases binV T b t (ev env x) (ev env y) <;> rfl
theorem opP_unOp {b : UnOp} {t : TypeId} {x : Operand} : opP P T n ⟨d, .unOp b t x, ty, p, a, g⟩ K env h = Bd (unV b (ev env x)) fun v => outv n ⟨d, .unOp b t x, ty, p, a, g⟩ K env h v := by
 simp only [opP, stepV]
 cases unV b (ev env x) <;> rfl
theorem opP_convert {s t : TypeId} {x : Operand} : opP P T n ⟨d, .convert s t x, ty, p, a, g⟩ K env h = Bd (convH T h s t (ev env x)) fun v => outv n ⟨d, .convert s t x, ty, p, a, g⟩ K env h v := by
 simp only [opP, stepV]
 cases convH T h s t (ev env x) <;> rfl
theorem opP_makeFunc {f : Fn} {x y : Array Operand} : opP P T n ⟨d, .makeFunc f x y, ty, p, a, g⟩ K env h = outv n ⟨d, .makeFunc f x y, ty, p, a, g⟩ K env h (.func f (x.map (ev env)) (y.map (ev env))) := rfl
theorem opP_slice {t : TypeId} {x : Operand} {lo hi mx : Option Operand} : opP P T n ⟨d, .slice t x lo hi mx, ty, p, a, g⟩ K env h = Bd (sliceV T t (ev env x) (lo.map (ev env)) (hi.map (ev env)) (mx.map (ev env))) fun v => outv n ⟨d, .slice t x lo hi mx, ty, p, a, g⟩ K env h v := by
 simp only [opP, stepV]
 cases sliceV T t (ev env x) (lo.map (ev env)) (hi.map (ev env)) (mx.map (ev env)) <;> rfl
theorem opP_fieldAddr {s : TypeId} {x : Operand} {f : Nat} : opP P T n ⟨d, .fieldAddr s x f, ty, p, a, g⟩ K env h = Bd (fieldAddrV T s (ev env x) f) fun v => outv n ⟨d, .fieldAddr s x f, ty, p, a, g⟩ K env h v := by
 simp only [opP, stepV]
 cases fieldAddrV T s (ev env x) f <;> rfl
theorem opP_field {s : TypeId} {x : Operand} {f : Nat} : opP P T n ⟨d, .field s x f, ty, p, a, g⟩ K env h = Bd (fieldV T s (ev env x) f) fun v => outv n ⟨d, .field s x f, ty, p, a, g⟩ K env h v := by
 simp only [opP, stepV]
 cases fieldV T s (ev env x) f <;> rfl
theorem opP_indexAddr {t : TypeId} {x i : Operand} : opP P T n ⟨d, .indexAddr t x i, ty, p, a, g⟩ K env h = Bd (idxAddrV T t (ev env x) (ev env i)) fun v => outv n ⟨d, .indexAddr t x i, ty, p, a, g⟩ K env h v := by
 simp only [opP, stepV]
 cases idxAddrV T t (ev env x) (ev env i) <;> rfl
theorem opP_index {t : TypeId} {x i : Operand} : opP P T n ⟨d, .index t x i, ty, p, a, g⟩ K env h = Bd (indexV T t (ev env x) (ev env i)) fun v => outv n ⟨d, .index t x i, ty, p, a, g⟩ K env h v := by
 simp only [opP, stepV]
 cases indexV T t (ev env x) (ev env i) <;> rfl
theorem tupV_tuple {vs : Array Value} {i : Nat} : tupV (.tuple vs) i = vs[i]? := rfl
theorem opP_extract {x : Operand} {i : Nat} : opP P T n ⟨d, .extract x i, ty, p, a, g⟩ K env h = Bd (tupV (ev env x) i) fun v => outv n ⟨d, .extract x i, ty, p, a, g⟩ K env h v := by
 simp only [opP, stepV]
 cases tupV (ev env x) i <;> rfl
theorem opP_len {x : Operand} {t : TypeId} : opP P T n ⟨d, .call { callee := .builtin .len, args := #[x], argTypes := #[t] }, ty, p, a, g⟩ K env h = Bd (lenV T t (ev env x)) fun v => outv n ⟨d, .call { callee := .builtin .len, args := #[x], argTypes := #[t] }, ty, p, a, g⟩ K env h v := rfl
theorem opP_cap {x : Operand} {t : TypeId} : opP P T n ⟨d, .call { callee := .builtin .cap, args := #[x], argTypes := #[t] }, ty, p, a, g⟩ K env h = Bd (capV T t (ev env x)) fun v => outv n ⟨d, .call { callee := .builtin .cap, args := #[x], argTypes := #[t] }, ty, p, a, g⟩ K env h v := rfl
theorem opP_min {x y : Operand} {ts : Array TypeId} : opP P T n ⟨d, .call { callee := .builtin .min, args := #[x, y], argTypes := ts }, ty, p, a, g⟩ K env h = Bd (minV (ev env x) (ev env y)) fun v => outv n ⟨d, .call { callee := .builtin .min, args := #[x, y], argTypes := ts }, ty, p, a, g⟩ K env h v := rfl
theorem opP_max {x y : Operand} {ts : Array TypeId} : opP P T n ⟨d, .call { callee := .builtin .max, args := #[x, y], argTypes := ts }, ty, p, a, g⟩ K env h = Bd (maxV (ev env x) (ev env y)) fun v => outv n ⟨d, .call { callee := .builtin .max, args := #[x, y], argTypes := ts }, ty, p, a, g⟩ K env h v := rfl
theorem opP_call {f : Operand} {xs : Array Operand} {ts : Array TypeId} : opP P T n ⟨d, .call { callee := .value f, args := xs, argTypes := ts }, ty, p, a, g⟩ K env h = Bd (asFn (ev env f)) fun q => CallA P q.1 (q.2.1 ++ xs.map (ev env) ++ q.2.2) h fun v h' => outv n ⟨d, .call { callee := .value f, args := xs, argTypes := ts }, ty, p, a, g⟩ K env h' v := rfl
theorem opP_append {s x : Operand} {ts tx : TypeId} : opP P T n ⟨d, .call { callee := .builtin .append, args := #[s, x], argTypes := #[ts, tx] }, ty, p, a, g⟩ K env h =
  Bd (elT T ts) fun ej => Bd (asSl (ev env s)) fun q => Bd (isIntT T tx) fun z =>
    if z = true then Bd (asI (ev env x)) fun m => ej.2.zero.cells.size = ej.2.size ∧ 0 ≤ m.2 ∧ m.2 * ej.2.bytes ≤ 281474976710656 ∧ m.2 ≤ 281474976710656 ∧
     appendP T ej.1 ej.2 q.1 q.2.1 q.2.2 m.2.toNat (Builtin.zeroCells ej.2.zero.cells m.2.toNat).toList h fun v h' => outv n ⟨d, .call { callee := .builtin .append, args := #[s, x], argTypes := #[ts, tx] }, ty, p, a, g⟩ K env h' v
    else Bd (asSl (ev env x)) fun qx => Bd (sliceCells h ej.2.size qx.2.1 (ev env x)) fun new => appendP T ej.1 ej.2 q.1 q.2.1 q.2.2 qx.2.1 new h fun v h' => outv n ⟨d, .call { callee := .builtin .append, args := #[s, x], argTypes := #[ts, tx] }, ty, p, a, g⟩ K env h' v := rfl

theorem opAt_zero {o : Oper} {l : List Oper} : opAt (List.toArray (o :: l)) 0 = some o := by simp [opAt]
theorem opAt_succ {o : Oper} {l : List Oper} {j : Nat} : opAt (List.toArray (o :: l)) (j + 1) = opAt (List.toArray l) j := by simp [opAt]
theorem puts_same {e : Env} {l : List (Nat × Value)} {t : Nat} {v : Value} : puts e ((t, v) :: l) t = v := by simp [puts_at]
theorem puts_ne {e : Env} {l : List (Nat × Value)} {t t' : Nat} {v : Value} (h : Nat.beq t t' = false) : puts e ((t', v) :: l) t = puts e l t := by
 rw [puts_at, if_neg (Nat.ne_of_beq_eq_false h)]

@[congr] theorem puts_congr3 {e : Env} {l : List (Nat × Value)} {t : Nat} : puts e l t = puts e l t := rfl
theorem vint {k : IntKind} {x y : Int} (e : x = y) : Value.int k x = Value.int k y := by rw [e]
theorem vbool {x y : Bool} (e : x = y) : Value.bool x = Value.bool y := by rw [e]
def plG (P : Program) (T : Tab) (n : Nat) (all : Array Oper) (ds : List Nat) (i : Nat) (o : Oper) (l : List (Nat × Bool)) (K : Env → Heap → Prop) (env : Env) (h : Heap) : Prop :=
 Gd (guardB all env o.guard) (opP P T n o (plK i ds h (plansP P T n all ds l K)) env h) (outv n o (plansP P T n all ds l K) env h undef)
@[congr] theorem plG_congr {ds : List Nat} {i : Nat} {o : Oper} {l : List (Nat × Bool)} {h' : Heap} (e : h = h') : plG P T n all ds i o l K env h = plG P T n all ds i o l K env h' := by rw [e]
theorem plansP_cons {ds : List Nat} {i : Nat} {b : Bool} {l : List (Nat × Bool)} : plansP P T n all ds ((i, b) :: l) K env h = Bd (opAt all i) fun o => plG P T n all ds i o l K env h := rfl
section
variable {ds : List Nat} {i : Nat} {l : List (Nat × Bool)}
theorem plG_none : plG P T n all ds i ⟨d, op, ty, p, a, none⟩ l K env h = opP P T n ⟨d, op, ty, p, a, none⟩ (plK i ds h (plansP P T n all ds l K)) env h := Gd_t _ _
theorem plG_some {j : Nat} {w : Bool} : plG P T n all ds i ⟨d, op, ty, p, a, some (j, w)⟩ l K env h = Gd (gv w ((slotOf all j).map env)) (opP P T n ⟨d, op, ty, p, a, some (j, w)⟩ (plK i ds h (plansP P T n all ds l K)) env h) (outv n ⟨d, op, ty, p, a, some (j, w)⟩ (plansP P T n all ds l K) env h undef) := by
 rw [← guardB_gv]; rfl
theorem plG_gt {j : Nat} {w : Bool} (hg : gv w ((slotOf all j).map env) = true) : plG P T n all ds i ⟨d, op, ty, p, a, some (j, w)⟩ l K env h = opP P T n ⟨d, op, ty, p, a, some (j, w)⟩ (plK i ds h (plansP P T n all ds l K)) env h := by rw [plG_some, hg, Gd_t]
theorem plG_gf {j : Nat} {w : Bool} (hg : gv w ((slotOf all j).map env) = false) : plG P T n all ds i ⟨d, op, ty, p, a, some (j, w)⟩ l K env h = outv n ⟨d, op, ty, p, a, some (j, w)⟩ (plansP P T n all ds l K) env h undef := by rw [plG_some, hg, Gd_f]
theorem plG_T {j : Nat} {b : Bool} (hb : (slotOf all j).map env = some (.bool b)) (h1 : b = true → opP P T n ⟨d, op, ty, p, a, some (j, true)⟩ (plK i ds h (plansP P T n all ds l K)) env h) (h2 : b = false → outv n ⟨d, op, ty, p, a, some (j, true)⟩ (plansP P T n all ds l K) env h undef) :
  plG P T n all ds i ⟨d, op, ty, p, a, some (j, true)⟩ l K env h := by
 rw [plG_some, hb, gv_bool]
 cases b
 ·exact (Gd_f _ _).symm ▸ h2 rfl
 ·exact (Gd_t _ _).symm ▸ h1 rfl
theorem plG_F {j : Nat} {b : Bool} (hb : (slotOf all j).map env = some (.bool b)) (h1 : b = false → opP P T n ⟨d, op, ty, p, a, some (j, false)⟩ (plK i ds h (plansP P T n all ds l K)) env h) (h2 : b = true → outv n ⟨d, op, ty, p, a, some (j, false)⟩ (plansP P T n all ds l K) env h undef) :
  plG P T n all ds i ⟨d, op, ty, p, a, some (j, false)⟩ l K env h := by
 rw [plG_some, hb, gv_bool]
 cases b
 ·exact (Gd_t _ _).symm ▸ h1 rfl
 ·exact (Gd_f _ _).symm ▸ h2 rfl
end
theorem plansP_nil {ds : List Nat} : plansP P T n all ds [] K env h = K env h := rfl
end

theorem asB_bool {b : Bool} : asB (.bool b) = some b := rfl
theorem asI_int {k : IntKind} {i : Int} : asI (.int k i) = some (k, i) := rfl
theorem asAd_ptr {a : Addr} : asAd (.pointer (some a)) = some a := rfl
theorem asFn_fn {f : Nat} {x y : Array Value} : asFn (.func (.func f) x y) = some (f, x, y) := rfl
theorem asSl_sl {a : Option Addr} {n c : Nat} : asSl (.slice a n c) = some (a, n, c) := rfl
section
variable {T : Tab} {k : IntKind} {x y : Int} {t : TypeId} {op : BinOp}
theorem binV_int : binV T op t (.int k x) (.int k y) = intV op k x y := by simp [binV]
theorem intV_add : intV .add k x y = some (.int k (k.wrap (x + y))) := rfl
theorem intV_sub : intV .sub k x y = some (.int k (k.wrap (x - y))) := rfl
theorem intV_mul : intV .mul k x y = some (.int k (k.wrap (x * y))) := rfl
theorem intV_quo (h : y ≠ 0) : intV .quo k x y = some (.int k (k.wrap (x.tdiv y))) := by simp [intV, h]
theorem intV_rem (h : y ≠ 0) : intV .rem k x y = some (.int k (x.tmod y)) := by simp [intV, h]
theorem intV_eql : intV .eql k x y = some (.bool (x == y)) := rfl
theorem intV_neq : intV .neq k x y = some (.bool (x != y)) := rfl
theorem intV_lss : intV .lss k x y = some (.bool (decide (x < y))) := rfl
theorem intV_leq : intV .leq k x y = some (.bool (decide (x ≤ y))) := rfl
theorem intV_gtr : intV .gtr k x y = some (.bool (decide (y < x))) := rfl
theorem intV_geq : intV .geq k x y = some (.bool (decide (y ≤ x))) := rfl
theorem intV_shr (h : ¬ y < 0) : intV .shr k x y = some (.int k (x.fdiv (2 ^ min y.toNat k.bits))) := by simp [intV, h]
theorem intV_and : intV .and k x y = some (.int k (k.wrap (BitVec.ofInt k.bits x &&& BitVec.ofInt k.bits y).toNat)) := rfl
theorem unV_neg : unV .neg (.int k x) = some (.int k (k.wrap (0 - x))) := rfl
theorem unV_not {b : Bool} : unV .not (.bool b) = some (.bool !b) := rfl
theorem minV_int {k' : IntKind} : minV (.int k x) (.int k' y) = some (.int k (if y < x then y else x)) := rfl
theorem maxV_int {k' : IntKind} : maxV (.int k x) (.int k' y) = some (.int k (if y > x then y else x)) := rfl
end
theorem convH_int {T : Tab} {h : Heap} {s t : TypeId} {k : IntKind} {x : Int} : convH T h s t (.int k x) = convV T s t (.int k x) := rfl
theorem resP_1 {T : Tab} {R : Value → Heap → Prop} {env : Env} {h : Heap} {t : Nat} : resP T [.tmp t] R env h = R (env t) h := rfl
theorem resP_2 {T : Tab} {R : Value → Heap → Prop} {env : Env} {h : Heap} {t u : Nat} : resP T [.tmp t, .tmp u] R env h = R (.tuple #[env t, env u]) h := rfl
theorem resP_3 {T : Tab} {R : Value → Heap → Prop} {env : Env} {h : Heap} {t u s : Nat} : resP T [.tmp t, .tmp u, .tmp s] R env h = R (.tuple #[env t, env u, env s]) h := rfl
theorem resP_0 {T : Tab} {R : Value → Heap → Prop} {env : Env} {h : Heap} : resP T [] R env h = R (.tuple #[]) h := rfl
theorem sel_nil {env : Env} : sel env [] = [] := rfl
theorem sel_cons {env : Env} {t : Nat} {ts : List Nat} : sel env (t :: ts) = (t, env t) :: sel env ts := rfl
theorem hasL_nil {env : Env} : HasL env [] = True := rfl
theorem hasL_cons {env : Env} {t : Nat} {v : Value} {l : List (Nat × Value)} : HasL env ((t, v) :: l) = (env t = v ∧ HasL env l) := rfl

attribute [go_sem] convH_int opsP_nil opsP_none opsP_gt opsP_gf outv_some outv_none ev_tmp ev_const ev_func opP_move opP_assign opP_pick opP_build opP_load opP_nilCheck nilOk_ptr nilOk_fn opP_binOp opP_unOp opP_convert opP_makeFunc opP_slice
 opP_fieldAddr opP_field opP_indexAddr opP_index opP_extract tupV_tuple opP_len opP_cap opP_min opP_max opP_call asB_bool asI_int asAd_ptr asFn_fn asSl_sl binV_int intV_add intV_sub intV_mul intV_quo intV_rem intV_eql intV_neq intV_lss intV_leq intV_gtr intV_geq intV_shr intV_and unV_neg unV_not minV_int maxV_int
 resP_0 resP_1 resP_2 resP_3 sel_nil sel_cons hasL_nil hasL_cons opAt_zero opAt_succ plansP_nil plansP_cons plG_none plG_gt plG_gf plK_same
 put_puts puts_same puts_ne Bd_some Gd_t Gd_f
 List.map_toArray List.map_cons List.map_nil List.append_toArray List.nil_append List.append_nil List.cons_append
 Int.toNat_natCast Option.map_some Option.bind_some decide_true decide_false true_and and_true Nat.reduceAdd
end Go.Proofs.Ytacajcjibhifmaa

namespace Go.Proofs.Ytacajcjibhifmaa
open Go

theorem addr_add (b o k : Nat) : (⟨b, o, none⟩ : Addr).add k = ⟨b, o + k, none⟩ := by
 unfold Addr.add
 split
 ·subst_vars; rfl
 ·rfl
theorem cells_agg (cs : Array Value) : (Value.agg cs).cells = cs := rfl
theorem cells_int (k : IntKind) (n : Int) : (Value.int k n).cells = #[.int k n] := rfl
theorem cells_bool (b : Bool) : (Value.bool b).cells = #[.bool b] := rfl
theorem cells_ptr (a : Option Addr) : (Value.pointer a).cells = #[.pointer a] := rfl
theorem cells_slice (a : Option Addr) (n c : Nat) : (Value.slice a n c).cells = #[.slice a n c] := rfl
theorem RdS.cells {α : Type} {E : Heap → Value → α → Prop} {h : Heap} {v : Value} {xs : List α} (hv : RdS E h v xs) : v.cells = #[v] := by
 obtain ⟨A, c, rfl, _⟩ := hv; rfl
theorem RdS.one {α : Type} {E : Heap → Value → α → Prop} {h : Heap} {v : Value} {xs : List α} (hv : RdS E h v xs) : v.oneCell' = true := by
 obtain ⟨A, c, rfl, _⟩ := hv; rfl

/-- Block b is just cs. -/
def BoxAt (h : Heap) (b : Nat) (cs : Array Value) (t : TypeId) : Prop := h[b]? = some (.cells cs t (0, 0))
section
variable {h h' : Heap} {b : Nat} {cs : Array Value} {t : TypeId}
theorem BoxAt.lt (hb : BoxAt h b cs t) : b < h.size := by
 unfold BoxAt at hb
 rcases Nat.lt_or_ge b h.size with hl | hl
 ·exact hl
 ·rw [Array.getElem?_eq_none hl] at hb; cases hb
theorem BoxAt.cell (hb : BoxAt h b cs t) (i : Nat) : hcell h ⟨b, i, none⟩ = cs[i]? := by
 unfold BoxAt at hb
 simp [hcell, hw, World.cell?, hb]
theorem BoxAt.frozen (hb : BoxAt h b cs t) (i : Nat) : hfrozen h ⟨b, i, none⟩ = false := by
 unfold BoxAt at hb
 simp [hfrozen, hw, World.frozen?, hb]
theorem BoxAt.ext (hb : BoxAt h b cs t) (e : Ext h h') : BoxAt h' b cs t := by
 unfold BoxAt
 rw [e.block b hb.lt]
 exact hb
theorem BoxAt.cellB (hb : BoxAt h b cs t) (e : Ext h h') (i : Nat) : hcell h' ⟨b, i, none⟩ = cs[i]? := (hb.ext e).cell i
theorem BoxAt.new (h : Heap) (cs : Array Value) (t : TypeId) : BoxAt (h.push (.cells cs t)) h.size cs t := by
 unfold BoxAt
 simp
end

section
variable {P : Program} {n : Nat} {Qr : Env → Heap → Prop} {k : List It} {env : Env} {h : Heap}
end

/-- A complex, as data. -/
structure Cx where
 p : Int
 dims : List Int
 maps : List (List (List Int))
def RC (h : Heap) (v : Value) (X : Cx) : Prop := ∃ vd vm, v = .agg #[.int .i64 X.p, vd, vm] ∧ R1 h vd X.dims ∧ R3 h vm X.maps
instance : Mono RC := ⟨fun hp ⟨vd, vm, e, h1, h2⟩ => ⟨vd, vm, e, h1.pres hp, h2.pres hp⟩⟩
theorem RC.pres {h h' : Heap} {v : Value} {X : Cx} (hv : RC h v X) (hp : HPres h h') : RC h' v X := Mono.mono hp hv

attribute [go_sem] addr_add cells_agg cells_int cells_bool cells_ptr cells_slice Array.size_push List.getElem?_toArray List.getElem?_cons_zero List.getElem?_cons_succ hcells
end Go.Proofs.Ytacajcjibhifmaa

namespace Go.Proofs.Ytacajcjibhifmaa
open Go

/-- Only the blocks of fp may have changed; new ones may have come. -/
structure Chg (fp : List Nat) (h h' : Heap) : Prop where
 size : h.size ≤ h'.size
 block : ∀ b, b < h.size → b ∉ fp → h'[b]? = h[b]?
theorem Chg.refl (fp : List Nat) (h : Heap) : Chg fp h h := ⟨Nat.le_refl _, fun _ _ _ => rfl⟩
theorem Ext.chg {h h' : Heap} (e : Ext h h') (fp : List Nat) : Chg fp h h' := ⟨e.size, fun b hb _ => e.block b hb⟩
theorem Chg.ext {h h' : Heap} (c : Chg [] h h') : Ext h h' := ⟨c.size, fun b hb => c.block b hb (by simp)⟩
theorem Chg.trans {fp : List Nat} {a b c : Heap} (h : Chg fp a b) (k : Chg fp b c) : Chg fp a c :=
 ⟨Nat.le_trans h.size k.size, fun i hi hn => (k.block i (Nat.lt_of_lt_of_le hi h.size) hn).trans (h.block i hi hn)⟩
theorem Chg.mono {fp fp' : List Nat} {h h' : Heap} (c : Chg fp h h') (hs : ∀ b ∈ fp, b ∈ fp') : Chg fp' h h' := ⟨c.size, fun b hb hn => c.block b hb fun hm => hn (hs b hm)⟩
/-- From a heap whose blocks all lie before fp on, the change is a growth. -/
theorem Ext.then {h0 h h' : Heap} {fp : List Nat} (e : Ext h0 h) (c : Chg fp h h') (hf : ∀ b ∈ fp, h0.size ≤ b) : Ext h0 h' :=
 ⟨Nat.le_trans e.size c.size, fun i hi => (c.block i (Nat.lt_of_lt_of_le hi e.size) fun hm => by have := hf i hm; omega).trans (e.block i hi)⟩

class Own {α : Type} (E : Heap → Value → α → List Nat → Prop) : Prop where
 loc : ∀ {h h' : Heap} {v : Value} {x : α} {fp : List Nat}, (∀ b ∈ fp, h'[b]? = h[b]?) → E h v x fp → E h' v x fp
 lt : ∀ {h : Heap} {v : Value} {x : α} {fp : List Nat}, E h v x fp → ∀ b ∈ fp, b < h.size
 one : ∀ {h : Heap} {v : Value} {x : α} {fp : List Nat}, E h v x fp → v.oneCell' = true ∧ v.cells = #[v]
class Reads {α : Type} (E : Heap → Value → α → List Nat → Prop) (R : outParam (Heap → Value → α → Prop)) : Prop where
 rd : ∀ {h : Heap} {v : Value} {x : α} {fp : List Nat}, E h v x fp → R h v x

def OI (_ : Heap) (v : Value) (x : Int) (fp : List Nat) : Prop := v = .int .i64 x ∧ fp = []
instance : Own OI := ⟨fun _ h => h, (fun h b hb => by rw [h.2] at hb; cases hb), (fun h => by rw [h.1]; exact ⟨rfl, rfl⟩)⟩
instance : Reads OI RdI := ⟨fun h => h.1⟩

/-- v's row is block b, of which the first cells lead to xs. -/
structure Row {α : Type} (e : TypeId) (E : Heap → Value → α → List Nat → Prop) (h : Heap) (v : Value) (xs : List α) (b c : Nat) (cur : Array Value) (fps : List (List Nat)) : Prop where
 val : v = .slice (some ⟨b, 0, none⟩) xs.length c
 box : BoxAt h b cur e
 size : cur.size = c
 max : c ≤ 9223372036854775807
 le : xs.length ≤ c
 len : fps.length = xs.length
 el : ∀ j (hj : j < xs.length), ∃ u f, cur[j]? = some u ∧ fps[j]? = some f ∧ E h u xs[j] f
def OS {α : Type} (e : TypeId) (E : Heap → Value → α → List Nat → Prop) (h : Heap) (v : Value) (xs : List α) (fp : List Nat) : Prop :=
 (v = .slice none 0 0 ∧ xs = [] ∧ fp = []) ∨ ∃ b c cur fps, fp = b :: fps.flatten ∧ Row e E h v xs b c cur fps

section
variable {α : Type} {e : TypeId} {E : Heap → Value → α → List Nat → Prop} {R : Heap → Value → α → Prop} {h h' : Heap} {v : Value} {xs : List α} {fp : List Nat}

theorem OS.nil : OS e E h (.slice none 0 0) [] [] := .inl ⟨rfl, rfl, rfl⟩
theorem Row.local_ [Own E] {b c : Nat} {cur : Array Value} {fps : List (List Nat)} (r : Row e E h v xs b c cur fps) (hl : ∀ q ∈ b :: fps.flatten, h'[q]? = h[q]?) : Row e E h' v xs b c cur fps := by
 refine ⟨r.val, ?_, r.size, r.max, r.le, r.len, fun j hj => ?_⟩
 ·have := hl b (by simp)
  unfold BoxAt
  rw [this]; exact r.box
 ·obtain ⟨u, f, h1, h2, h4⟩ := r.el j hj
  exact ⟨u, f, h1, h2, Own.loc (fun q hq => hl q (List.mem_cons_of_mem _ (List.mem_flatten.2 ⟨f, List.mem_of_getElem? h2, hq⟩))) h4⟩
theorem OS.loc [Own E] (hl : ∀ b ∈ fp, h'[b]? = h[b]?) (ho : OS e E h v xs fp) : OS e E h' v xs fp := by
 rcases ho with ho | ⟨b, c, cur, fps, rfl, r⟩
 ·exact .inl ho
 ·exact .inr ⟨b, c, cur, fps, rfl, r.local_ hl⟩
theorem OS.lt [Own E] (ho : OS e E h v xs fp) : ∀ b ∈ fp, b < h.size := by
 rcases ho with ⟨_, _, rfl⟩ | ⟨b, c, cur, fps, rfl, r⟩
 ·intro b hb; cases hb
 ·intro q hq
  rcases List.mem_cons.1 hq with rfl | hq
  ·exact r.box.lt
  ·obtain ⟨f, hf, hqf⟩ := List.mem_flatten.1 hq
   obtain ⟨j, hj, hjf⟩ := List.getElem_of_mem hf
   obtain ⟨u, f', _, h2, h4⟩ := r.el j (by rw [← r.len]; exact hj)
   rw [List.getElem?_eq_getElem hj, hjf] at h2
   injection h2 with h2
   subst h2
   exact Own.lt h4 q hqf
theorem OS.one (ho : OS e E h v xs fp) : v.oneCell' = true ∧ v.cells = #[v] := by
 rcases ho with ⟨rfl, _, _⟩ | ⟨b, c, cur, fps, _, r⟩
 ·exact ⟨rfl, rfl⟩
 ·rw [r.val]; exact ⟨rfl, rfl⟩
instance [Own E] : Own (OS e E) := ⟨OS.loc, OS.lt, OS.one⟩
theorem OS.rd [Reads E R] (ho : OS e E h v xs fp) : RdS R h v xs := by
 rcases ho with ⟨rfl, rfl, _⟩ | ⟨b, c, cur, fps, _, r⟩
 ·exact ⟨none, 0, rfl, .inr rfl, by simp, by omega, fun j hj => by simp at hj⟩
 ·refine ⟨some ⟨b, 0, none⟩, c, r.val, .inl rfl, r.le, r.max, fun j hj => ?_⟩
  obtain ⟨u, f, h1, _, h4⟩ := r.el j hj
  refine ⟨u, ?_, Reads.rd h4⟩
  rw [r.val]
  simp only [sA]
  rw [addr_add, r.box.cell, Nat.zero_add, h1]
instance [Reads E R] : Reads (OS e E) (RdS R) := ⟨OS.rd⟩
theorem OS.ext [Own E] (ho : OS e E h v xs fp) (k : Ext h h') : OS e E h' v xs fp := OS.loc (fun b hb => k.block b (OS.lt ho b hb)) ho
theorem OS.chg [Own E] {fq : List Nat} (ho : OS e E h v xs fp) (k : Chg fq h h') (hd : ∀ b ∈ fp, b ∉ fq) : OS e E h' v xs fp := OS.loc (fun b hb => k.block b (OS.lt ho b hb) (hd b hb)) ho
theorem hset_other {h : Heap} {b o : Nat} {v : Value} {q : Nat} (hq : q ≠ b) : (hset h ⟨b, o, none⟩ v)[q]? = h[q]? := by
 unfold hset hw World.setCell
 simp [Array.getElem?_modify, Ne.symm hq]
theorem hset_size {h : Heap} {a : Addr} {v : Value} : (hset h a v).size = h.size := by
 unfold hset hw World.setCell
 simp
theorem BoxAt.set {h : Heap} {b o : Nat} {cs : Array Value} {t : TypeId} {v : Value} (hb : BoxAt h b cs t) : BoxAt (hset h ⟨b, o, none⟩ v) b (cs.setIfInBounds o v) t := by
 unfold BoxAt at hb ⊢
 unfold hset hw World.setCell
 simp [Array.getElem?_modify, hb]
theorem hset_chg (h : Heap) (b o : Nat) (v : Value) : Chg [b] h (hset h ⟨b, o, none⟩ v) := ⟨by rw [hset_size]; exact Nat.le_refl _, fun q _ hn => hset_other (by simpa using hn)⟩

/-- A store into an element that is one's own. -/
theorem OS.store [Own E] (ho : OS e E h v xs fp) (hn : fp.Nodup) (j : Nat) (hj : j < xs.length) {u : Value} {x : α} (hE : E h u x []) (h1 : u.oneCell' = true) (hz : ∀ (h : Heap) (u : Value) (x : α) (f : List Nat), E h u x f → f = []) :
  (hcell h ((sA v).add j)).isSome = true ∧ hfrozen h ((sA v).add j) = false ∧ OS e E (hset h ((sA v).add j) u) v (xs.set j x) fp ∧ Chg fp h (hset h ((sA v).add j) u) := by
 rcases ho with ⟨_, rfl, _⟩ | ⟨b, c, cur, fps, rfl, r⟩
 ·simp at hj
 ·have ha : (sA v).add j = ⟨b, j, none⟩ := by rw [r.val]; simp only [sA]; rw [addr_add, Nat.zero_add]
  have hjc : j < cur.size := by have := r.size; have := r.le; omega
  rw [ha]
  refine ⟨by rw [r.box.cell, Array.getElem?_eq_getElem hjc]; rfl, r.box.frozen _, .inr ⟨b, c, cur.setIfInBounds j u, fps, rfl, ⟨by rw [List.length_set]; exact r.val, r.box.set, by rw [Array.size_setIfInBounds]; exact r.size, r.max, by rw [List.length_set]; exact r.le, by rw [List.length_set]; exact r.len, fun i hi => ?_⟩⟩, (hset_chg h b j u).mono (by simp)⟩
  rw [List.length_set] at hi
  obtain ⟨u', f', k1, k2, k4⟩ := r.el i hi
  have hf' := hz _ _ _ _ k4
  subst hf'
  by_cases hij : j = i
  ·subst hij
   refine ⟨u, [], by rw [Array.getElem?_setIfInBounds_self_of_lt hjc], k2, ?_⟩
   simp only [List.getElem_set_self]
   exact Own.loc (fun q hq => by cases hq) hE
  ·refine ⟨u', [], by rw [Array.getElem?_setIfInBounds_ne hij]; exact k1, k2, ?_⟩
   rw [List.getElem_set_ne hij]
   exact Own.loc (fun q hq => by cases hq) k4
end
end Go.Proofs.Ytacajcjibhifmaa

namespace Go.Proofs.Ytacajcjibhifmaa
open Go

theorem SlZ.out {T : Tab} {t e : TypeId} {bytes : Nat} {z : Value} (s : SlZ T t e bytes z) : ∃ i j, T t = some i ∧ i.desc = .slice e ∧ T e = some j ∧ j.size = 1 ∧ j.bytes = bytes ∧ j.zero = z := by
 obtain ⟨i, h1, h2, h3⟩ := elT_some s.el
 exact ⟨i, _, h1, h2, h3, rfl, rfl, rfl⟩

theorem range_mod1 (m : Nat) (z : Value) : (Array.range (m * 1)).map (fun q => (if m * 1 = 0 then #[] else #[z])[q % (if m * 1 = 0 then (#[] : Array Value) else #[z]).size]!) = Array.replicate m z := by
 rw [Nat.mul_one]
 by_cases h : m = 0
 ·subst h; simp
 ·simp only [h, if_false]
  apply Array.ext
  ·simp
  ·intro i h1 h2
   simp [Nat.mod_one]
theorem fill_one (place : Nat → Option (Nat × Nat)) (z u : Value) (hp : place 0 = some (0, 1)) (hu : u.cells = #[u]) : Instr.fill place #[z] [(0, u)] = some #[u] := by
 simp [Instr.fill, hp, hu]
theorem bs_zero {T : Tab} {t e : TypeId} {bytes : Nat} {z : Value} (s : SlZ T t e bytes z) (h : Heap) : buildSliceV T h t 0 [] = some (.slice (some ⟨h.size, 0, none⟩) 0 0, h.push (.cells #[] e)) := by
 obtain ⟨i, j, e1, e2, e3, e4, e5, e6⟩ := s.out
 have : Array.range 0 = #[] := rfl
 simp [buildSliceV, e1, e2, e3, e4, Instr.fill, this]
theorem bs_one {T : Tab} {t e : TypeId} {bytes : Nat} {z : Value} (s : SlZ T t e bytes z) (h : Heap) (u : Value) (hu : u.cells = #[u]) : buildSliceV T h t 1 [(0, u)] = some (.slice (some ⟨h.size, 0, none⟩) 1 1, h.push (.cells #[u] e)) := by
 obtain ⟨i, j, e1, e2, e3, e4, e5, e6⟩ := s.out
 have hr := range_mod1 1 z
 simp only [buildSliceV, e1, e2, e3, Option.bind_some, e4, e6, s.one]
 rw [if_pos (by omega)]
 simp only [Nat.mul_one] at hr ⊢
 rw [hr]
 rw [show Array.replicate 1 z = #[z] from rfl, fill_one _ z u rfl hu]
 rfl

section
variable {α : Type} {e : TypeId} {E : Heap → Value → α → List Nat → Prop} {h h' : Heap} {v : Value} {xs : List α} {fp : List Nat}

/-- A new row. -/
theorem OS.new (h : Heap) (cs : Array Value) (xs : List α) (fps : List (List Nat)) (hl : fps.length = xs.length) (hm : cs.size ≤ 9223372036854775807) (hxl : xs.length ≤ cs.size)
  (hel : ∀ j (hj : j < xs.length), ∃ u f, cs[j]? = some u ∧ fps[j]? = some f ∧ E (h.push (.cells cs e)) u xs[j] f) : OS e E (h.push (.cells cs e)) (.slice (some ⟨h.size, 0, none⟩) xs.length cs.size) xs (h.size :: fps.flatten) :=
 .inr ⟨h.size, cs.size, cs, fps, rfl, rfl, BoxAt.new _ _ _, rfl, hm, hxl, hl, hel⟩
theorem OS.empty (h : Heap) : OS e E (h.push (.cells #[] e)) (.slice (some ⟨h.size, 0, none⟩) 0 0) [] [h.size] :=
 OS.new h #[] [] [] rfl (by simp) (by simp) (fun j hj => by simp at hj)
theorem hcells_box {h : Heap} {b : Nat} {cur : Array Value} {t : TypeId} (hb : BoxAt h b cur t) : ∀ (n i : Nat), i + n ≤ cur.size → hcells h ⟨b, 0, none⟩ i n = some ((cur.toList.drop i).take n)
 | 0, i, _ => by simp [hcells]
 | n + 1, i, hi => by
  have hlt : i < cur.size := by omega
  simp only [hcells, addr_add, Nat.zero_add, hb.cell, Array.getElem?_eq_getElem hlt, Option.bind_some, hcells_box hb n (i + 1) (by omega), Option.map_some]
  have e : cur.toList.drop i = cur[i] :: cur.toList.drop (i + 1) := by
   rw [List.drop_eq_getElem_cons (by simpa using hlt)]
   simp
  rw [e, List.take_succ_cons]
theorem push_old {h : Heap} {o : Obj} {q : Nat} (hq : q < h.size) : (h.push o)[q]? = h[q]? := by
 rw [Array.getElem?_push, if_neg (by omega)]

theorem Row.inb {b c : Nat} {cur : Array Value} {fps : List (List Nat)} (r : Row e E h v xs b c cur fps) (j : Nat) (hj : j < xs.length) : j < cur.size := by have := r.size; have := r.le; omega

theorem zeroCells_size {z : Array Value} (hz : z.size = 1) (m : Nat) : (Builtin.zeroCells z m).size = m := by simp [Builtin.zeroCells, hz]
/-- What an append of one element leaves. -/
theorem append_one [Own E] {T : Tab} {t bytes : Nat} {z : Value} (s : SlZ T t e bytes z) (ho : OS e E h v xs fp) (hn : fp.Nodup) {u : Value} {x : α} {fx : List Nat} (hu : E h u x fx) (hnx : fx.Nodup) (hd : ∀ b ∈ fp, b ∉ fx)
  (hlen : (xs.length + 1) * bytes ≤ 140737488355328) {base : Option Addr} {sLen sCap : Nat} (hv : v = .slice base sLen sCap) {j : TI} (hj1 : j.size = 1) (hj2 : j.bytes = bytes) (hjz : j.zero.cells.size = 1) (K : Value → Heap → Prop)
  (hk : ∀ v' h' fp', OS e E h' v' (xs ++ [x]) fp' → fp'.Nodup → (∀ b ∈ fp', b ∈ fp ∨ b ∈ fx ∨ (h.size ≤ b)) → Chg fp h h' → K v' h') :
  appendP T e j base sLen sCap 1 [u] (h.push (.cells #[u] e)) K := by
 have hone := (Own.one hu).1
 have hpos := s.pos
 have hl47 : xs.length + 1 ≤ 140737488355328 := Nat.le_trans (Nat.le_mul_of_pos_right _ hpos) hlen
 unfold appendP
 rw [hj1, hj2]
 rcases ho with ⟨rfl, rfl, rfl⟩ | ⟨b, c, cur, fps, rfl, r⟩
 ·injection hv with e1 e2 e3
  subst e1; subst e2; subst e3
  rw [if_neg (by omega)]
  refine ⟨⟨growslice_fits (by omega) (by simpa using hlen), by omega⟩, [], rfl, fun newCap h1 h2 => ?_⟩
  have hE : ∀ o, E ((h.push (.cells #[u] e)).push o) u x fx := fun o => Own.loc (fun q hq => by
   have := Own.lt hu q hq
   rw [push_old (by rw [Array.size_push]; omega), push_old this]) hu
  have hzs : (Builtin.zeroCells j.zero.cells (newCap - (0 + 1))).size = newCap - 1 := zeroCells_size hjz _
  have hz : (([] : List Value).toArray ++ [u].toArray ++ Builtin.zeroCells j.zero.cells (newCap - (0 + 1)) : Array Value).size = newCap := by
   rw [Array.size_append, hzs]; simp; omega
  have hns := OS.new (e := e) (E := E) (h.push (.cells #[u] e)) (([] : List Value).toArray ++ [u].toArray ++ Builtin.zeroCells j.zero.cells (newCap - (0 + 1))) [x] [fx] rfl (by omega) (by rw [hz]; simpa using h1) (fun i hi => by
   simp only [List.length_singleton] at hi
   have : i = 0 := by omega
   subst this
   exact ⟨u, fx, by rw [Array.getElem?_append_left (by simp)]; simp, rfl, hE _⟩)
  rw [hz] at hns
  refine hk _ _ _ hns ?_ ?_ ⟨by simp; omega, fun q hq _ => by rw [push_old (by rw [Array.size_push]; omega), push_old hq]⟩
  ·simp only [List.flatten_cons, List.flatten_nil, List.append_nil, Array.size_push]
   exact List.nodup_cons.2 ⟨fun hm => by have := Own.lt hu _ hm; omega, hnx⟩
  ·intro q hq
   simp only [List.flatten_cons, List.flatten_nil, List.append_nil, Array.size_push, List.mem_cons] at hq
   rcases hq with rfl | hq
   ·exact .inr (.inr (by omega))
   ·exact .inr (.inl hq)
 ·have hcb : sLen = xs.length ∧ sCap = c ∧ base = some ⟨b, 0, none⟩ := by
   rw [r.val] at hv
   injection hv with e1 e2 e3
   exact ⟨e2.symm, e3.symm, e1.symm⟩
  obtain ⟨rfl, rfl, rfl⟩ := hcb
  obtain ⟨hnb, hnf⟩ := List.nodup_cons.1 hn
  have hbl := r.box.lt
  have hbox1 : BoxAt (h.push (.cells #[u] e)) b cur e := r.box.ext (Ext.push _ _)
  have helt : ∀ j (hj : j < xs.length), ∃ u f, cur[j]? = some u ∧ fps[j]? = some f ∧ E h u xs[j] f ∧ (∀ q ∈ f, q < h.size ∧ q ≠ b) := by
   intro j hj
   obtain ⟨u, f, k1, k2, k3⟩ := r.el j hj
   refine ⟨u, f, k1, k2, k3, fun q hq => ⟨Own.lt k3 q hq, fun hqb => hnb ?_⟩⟩
   subst hqb
   exact List.mem_flatten.2 ⟨f, List.mem_of_getElem? k2, hq⟩
  have hmemfp : ∀ q, q ∈ b :: (fps ++ [fx]).flatten → q ∈ b :: fps.flatten ∨ q ∈ fx := by
   intro q hq
   simp only [List.flatten_append, List.flatten_cons, List.flatten_nil, List.append_nil, List.mem_cons, List.mem_append] at hq ⊢
   rcases hq with hq | hq | hq
   ·exact .inl (.inl hq)
   ·exact .inl (.inr hq)
   ·exact .inr hq
  have hndn : ((fps ++ [fx]).flatten).Nodup := by
   simp only [List.flatten_append, List.flatten_cons, List.flatten_nil, List.append_nil]
   refine List.nodup_append.2 ⟨hnf, hnx, fun p hp q hq hpq => ?_⟩
   subst hpq
   exact hd p (List.mem_cons_of_mem _ hp) hq
  split
  ·rename_i hc
   -- in place
   have hlt : xs.length < cur.size := by have := r.size; omega
   have ha : ((⟨b, 0, none⟩ : Addr).add (xs.length * 1)) = ⟨b, xs.length, none⟩ := by rw [addr_add, Nat.mul_one, Nat.zero_add]
   have hput : hputs ((⟨b, 0, none⟩ : Addr).add (xs.length * 1)) (h.push (.cells #[u] e)) 0 [u] = some (hset (h.push (.cells #[u] e)) ⟨b, xs.length, none⟩ u) := by
    rw [ha]
    simp only [hputs, addr_add, Nat.add_zero]
    rw [if_pos ⟨by rw [hbox1.cell, Array.getElem?_eq_getElem hlt]; rfl, hbox1.frozen _, hone⟩]
   dsimp only
   rw [hput]
   dsimp only
   refine hk _ _ (b :: (fps ++ [fx]).flatten) (.inr ⟨b, sCap, cur.setIfInBounds xs.length u, fps ++ [fx], rfl, ⟨by simp, hbox1.set, by rw [Array.size_setIfInBounds]; exact r.size, r.max, by simpa using hc, by simp [r.len], fun i hi => ?_⟩⟩) ?_ ?_ ?_
   ·rw [List.length_append, List.length_singleton] at hi
    by_cases hil : i < xs.length
    ·obtain ⟨u', f', k1, k2, k3, k4⟩ := helt i hil
     refine ⟨u', f', by rw [Array.getElem?_setIfInBounds_ne (by omega)]; exact k1, by rw [List.getElem?_append_left (by rw [r.len]; exact hil)]; exact k2, ?_⟩
     rw [List.getElem_append_left hil]
     exact Own.loc (fun q hq => by rw [hset_other (k4 q hq).2, push_old (k4 q hq).1]) k3
    ·have hie : i = xs.length := by omega
     subst hie
     refine ⟨u, fx, by rw [Array.getElem?_setIfInBounds_self_of_lt hlt], by rw [List.getElem?_append_right (by rw [r.len]; omega), r.len]; simp, ?_⟩
     rw [List.getElem_append_right (Nat.le_refl _)]
     simp only [Nat.sub_self, List.getElem_cons_zero]
     exact Own.loc (fun q hq => by
      have hq1 := Own.lt hu q hq
      have hqb : q ≠ b := fun e => hd b (by simp) (e ▸ hq)
      rw [hset_other hqb, push_old hq1]) hu
   ·refine List.nodup_cons.2 ⟨fun hm => ?_, hndn⟩
    simp only [List.flatten_append, List.flatten_cons, List.flatten_nil, List.append_nil, List.mem_append] at hm
    rcases hm with hm | hm
    ·exact hnb hm
    ·exact hd b (by simp) hm
   ·intro q hq
    rcases hmemfp q hq with h1 | h1
    ·exact .inl h1
    ·exact .inr (.inl h1)
   ·refine ⟨by rw [hset_size, Array.size_push]; omega, fun q hq hnq => ?_⟩
    rw [hset_other (fun e => hnq (by rw [e]; simp)), push_old hq]
  ·rename_i hc
   refine ⟨⟨growslice_fits (by have := r.le; omega) hlen, by have := r.max; have := r.le; omega⟩, (cur.toList.drop 0).take (xs.length * 1), ?_, fun newCap h1 h2 => ?_⟩
   ·dsimp only
    exact hcells_box hbox1 _ 0 (by have := r.size; have := r.le; omega)
   ·have hzs : (Builtin.zeroCells j.zero.cells (newCap - (xs.length + 1))).size = newCap - (xs.length + 1) := zeroCells_size hjz _
    have hol : ((cur.toList.drop 0).take (xs.length * 1)).length = xs.length := by
     have := r.size; have := r.le
     simp; omega
    have hz : (((cur.toList.drop 0).take (xs.length * 1)).toArray ++ [u].toArray ++ Builtin.zeroCells j.zero.cells (newCap - (xs.length + 1)) : Array Value).size = newCap := by
     rw [Array.size_append, hzs, Array.size_append, List.size_toArray, hol]
     simp; omega
    have hns := OS.new (e := e) (E := E) (h.push (.cells #[u] e)) (((cur.toList.drop 0).take (xs.length * 1)).toArray ++ [u].toArray ++ Builtin.zeroCells j.zero.cells (newCap - (xs.length + 1))) (xs ++ [x]) (fps ++ [fx]) (by simp [r.len]) (by omega) (by rw [hz]; simpa using h1) (fun i hi => by
     rw [List.length_append, List.length_singleton] at hi
     by_cases hil : i < xs.length
     ·obtain ⟨u', f', k1, k2, k3, k4⟩ := helt i hil
      have hic := r.inb i hil
      refine ⟨u', f', ?_, by rw [List.getElem?_append_left (by rw [r.len]; exact hil)]; exact k2, ?_⟩
      ·rw [Array.getElem?_append_left (by rw [Array.size_append, List.size_toArray, hol]; simp; omega), Array.getElem?_append_left (by rw [List.size_toArray, hol]; exact hil)]
       rw [← k1]
       simp only [List.drop_zero, Nat.mul_one, List.getElem?_toArray]
       rw [List.getElem?_take_of_lt hil]
       simp
      ·rw [List.getElem_append_left hil]
       exact Own.loc (fun q hq => by rw [push_old (by rw [Array.size_push]; have := (k4 q hq).1; omega), push_old (k4 q hq).1]) k3
     ·have hie : i = xs.length := by omega
      subst hie
      refine ⟨u, fx, ?_, by rw [List.getElem?_append_right (by rw [r.len]; omega), r.len]; simp, ?_⟩
      ·rw [Array.getElem?_append_left (by rw [Array.size_append, List.size_toArray, hol]; simp), Array.getElem?_append_right (by rw [List.size_toArray, hol]; omega)]
       rw [List.size_toArray, hol]
       simp
      ·rw [List.getElem_append_right (Nat.le_refl _)]
       simp only [Nat.sub_self, List.getElem_cons_zero]
       exact Own.loc (fun q hq => by
        have hq1 := Own.lt hu q hq
        rw [push_old (by rw [Array.size_push]; omega), push_old hq1]) hu)
    rw [hz, List.length_append, List.length_singleton] at hns
    refine hk _ _ _ hns ?_ ?_ ⟨by simp; omega, fun q hq _ => by rw [push_old (by rw [Array.size_push]; omega), push_old hq]⟩
    ·rw [Array.size_push]
     refine List.nodup_cons.2 ⟨fun hm => ?_, hndn⟩
     rcases hmemfp _ (List.mem_cons_of_mem _ hm) with h3 | h3
     ·rcases List.mem_cons.1 h3 with h4 | h4
      ·omega
      ·obtain ⟨f, hf, hqf⟩ := List.mem_flatten.1 h4
       obtain ⟨jj, hjj, hjf⟩ := List.getElem_of_mem hf
       obtain ⟨u', f', k1, k2, k3, k4⟩ := helt jj (by rw [← r.len]; exact hjj)
       rw [List.getElem?_eq_getElem hjj, hjf] at k2
       injection k2 with k2
       subst k2
       have := (k4 _ hqf).1
       omega
     ·have := Own.lt hu _ h3; omega
    ·intro q hq
     rw [Array.size_push] at hq
     rcases List.mem_cons.1 hq with rfl | hq
     ·exact .inr (.inr (by omega))
     ·rcases hmemfp q (List.mem_cons_of_mem _ hq) with h1 | h1
      ·exact .inl h1
      ·exact .inr (.inl h1)
end
end Go.Proofs.Ytacajcjibhifmaa

namespace Go.Proofs.Ytacajcjibhifmaa
open Go

section
variable {P : Program} {T : Tab} {n : Nat} {K : Env → Heap → Prop} {env : Env} {h : Heap} {d : Option Tmp} {ty : TypeId} {p : String} {a : Array Edge} {g : Option (Nat × Bool)} {t e : TypeId} {bytes : Nat} {z : Value}

theorem op_append1 {α : Type} {E : Heap → Value → α → List Nat → Prop} [Own E] {v : Value} {xs : List α} {fp : List Nat} {u : Value} {x : α} {fx : List Nat} {s q : Operand} (sz : SlZ T t e bytes z)
  (ho : OS e E h v xs fp) (hn : fp.Nodup) (hu : E h u x fx) (hnx : fx.Nodup) (hd : ∀ b ∈ fp, b ∉ fx) (hlen : (xs.length + 1) * bytes ≤ 140737488355328)
  (hs : ev env s = v) (hq : ev env q = .slice (some ⟨h.size, 0, none⟩) 1 1)
  (hk : ∀ v' h' fp', OS e E h' v' (xs ++ [x]) fp' → fp'.Nodup → (∀ b ∈ fp', b ∈ fp ∨ b ∈ fx ∨ (h.size ≤ b)) → Chg fp h h' → outv n ⟨d, .call { callee := .builtin .append, args := #[s, q], argTypes := #[t, t] }, ty, p, a, g⟩ K env h' v') :
  opP P T n ⟨d, .call { callee := .builtin .append, args := #[s, q], argTypes := #[t, t] }, ty, p, a, g⟩ K env (h.push (.cells #[u] e)) := by
 obtain ⟨base, sLen, sCap, hv⟩ : ∃ base sLen sCap, v = .slice base sLen sCap := by
  rcases ho with ⟨rfl, _, _⟩ | ⟨b, c, cur, fps, _, r⟩
  ·exact ⟨_, _, _, rfl⟩
  ·exact ⟨_, _, _, r.val⟩
 rw [opP_append, sz.el, Bd_some, hs, hq, hv, asSl_sl, Bd_some, sz.notInt, Bd_some, if_neg (by simp), asSl_sl, Bd_some]
 have hc : sliceCells (h.push (.cells #[u] e)) 1 1 (.slice (some ⟨h.size, 0, none⟩) 1 1) = some [u] := by
  have hb := BoxAt.new h #[u] e
  simp only [sliceCells]
  rw [hcells_box hb _ 0 (by simp)]
  simp
 dsimp only
 rw [hc, Bd_some]
 exact append_one sz ho hn hu hnx hd hlen hv rfl rfl (by rw [sz.one]; rfl) _ hk

theorem op_bs0 (sz : SlZ T t e bytes z) {α : Type} (E : Heap → Value → α → List Nat → Prop)
  (hk : ∀ v' h', OS e E h' v' ([] : List α) [h.size] → Ext h h' → outv n ⟨d, .buildSlice t 0 #[], ty, p, a, g⟩ K env h' v') : opP P T n ⟨d, .buildSlice t 0 #[], ty, p, a, g⟩ K env h := by
 rw [opP_buildSlice]
 have : (#[].map (fun (i, x) => (i, ev env x)) : Array (Nat × Value)).toList = [] := by simp
 rw [this, bs_zero sz, Bd_some]
 exact hk _ _ (OS.empty h) (Ext.push _ _)

theorem op_bs1 (sz : SlZ T t e bytes z) {x : Operand} {u : Value} (hx : ev env x = u) (hu : u.cells = #[u])
  (hk : outv n ⟨d, .buildSlice t 1 #[(0, x)], ty, p, a, g⟩ K env (h.push (.cells #[u] e)) (.slice (some ⟨h.size, 0, none⟩) 1 1)) : opP P T n ⟨d, .buildSlice t 1 #[(0, x)], ty, p, a, g⟩ K env h := by
 rw [opP_buildSlice]
 have : (#[(0, x)].map (fun (i, x) => (i, ev env x)) : Array (Nat × Value)).toList = [(0, u)] := by simp [hx]
 rw [this, bs_one sz h u hu, Bd_some]
 exact hk

end
end Go.Proofs.Ytacajcjibhifmaa

namespace Go.Proofs.Ytacajcjibhifmaa
open Go

abbrev O1 : Heap → Value → List Int → List Nat → Prop := OS 2 OI
abbrev O2 : Heap → Value → List (List Int) → List Nat → Prop := OS 55 O1
abbrev O3 : Heap → Value → List (List (List Int)) → List Nat → Prop := OS 59 O2

theorem mem_flatten_set {l : List (List Nat)} {j : Nat} {f : List Nat} {q : Nat} (h : q ∈ (l.set j f).flatten) : q ∈ l.flatten ∨ q ∈ f := by
 obtain ⟨x, hx, hq⟩ := List.mem_flatten.1 h
 rcases List.mem_or_eq_of_mem_set hx with h1 | h1
 ·exact .inl (List.mem_flatten.2 ⟨x, h1, hq⟩)
 ·subst h1; exact .inr hq
theorem nodup_flatten_set {l : List (List Nat)} {j : Nat} {f : List Nat} (hn : l.flatten.Nodup) (hf : f.Nodup) (hd : ∀ b ∈ l.flatten, b ∉ f) : ((l.set j f).flatten).Nodup := by
 obtain ⟨h1, h2⟩ := List.pairwise_flatten.1 hn
 refine List.pairwise_flatten.2 ⟨fun x hx => ?_, ?_⟩
 ·rcases List.mem_or_eq_of_mem_set hx with h | h
  ·exact h1 x h
  ·subst h; exact hf
 ·rw [List.pairwise_iff_getElem] at h2 ⊢
  intro a b ha hb hab p hp q hq
  rw [List.length_set] at ha hb
  by_cases e1 : j = a
  ·subst e1
   rw [List.getElem_set_self] at hp
   rw [List.getElem_set_ne (by omega)] at hq
   exact fun e => hd q (List.mem_flatten.2 ⟨_, List.getElem_mem hb, hq⟩) (e ▸ hp)
  ·rw [List.getElem_set_ne e1] at hp
   by_cases e2 : j = b
   ·subst e2
    rw [List.getElem_set_self] at hq
    exact fun e => hd p (List.mem_flatten.2 ⟨_, List.getElem_mem ha, hp⟩) (e ▸ hq)
   ·rw [List.getElem_set_ne e2] at hq
    exact h2 a b ha hb hab p hp q hq

section
variable {α : Type} {e : TypeId} {E : Heap → Value → α → List Nat → Prop} [Own E] {h : Heap} {v : Value} {xs : List α} {fp : List Nat}
/-- An element is put into its place: it brings its own blocks. -/
theorem OS.put (ho : OS e E h v xs fp) (hn : fp.Nodup) (j : Nat) (hj : j < xs.length) {u : Value} {x : α} {fx : List Nat} (hE : E h u x fx) (hnx : fx.Nodup) (hd : ∀ b ∈ fp, b ∉ fx) :
  (hcell h ((sA v).add j)).isSome = true ∧ hfrozen h ((sA v).add j) = false ∧ ∃ fp', OS e E (hset h ((sA v).add j) u) v (xs.set j x) fp' ∧ fp'.Nodup ∧ (∀ b ∈ fp', b ∈ fp ∨ b ∈ fx) ∧ Chg fp h (hset h ((sA v).add j) u) := by
 rcases ho with ⟨_, rfl, _⟩ | ⟨b, c, cur, fps, rfl, r⟩
 ·simp at hj
 ·have ha : (sA v).add j = ⟨b, j, none⟩ := by rw [r.val]; simp only [sA]; rw [addr_add, Nat.zero_add]
  have hjc : j < cur.size := by have := r.size; have := r.le; omega
  obtain ⟨hnb, hnf⟩ := List.nodup_cons.1 hn
  rw [ha]
  refine ⟨by rw [r.box.cell, Array.getElem?_eq_getElem hjc]; rfl, r.box.frozen _, b :: (fps.set j fx).flatten, .inr ⟨b, c, cur.setIfInBounds j u, fps.set j fx, rfl, ⟨by rw [List.length_set]; exact r.val, r.box.set, by rw [Array.size_setIfInBounds]; exact r.size, r.max, by rw [List.length_set]; exact r.le, by rw [List.length_set, List.length_set]; exact r.len, fun i hi => ?_⟩⟩, ?_, ?_, (hset_chg h b j u).mono (by simp)⟩
  ·rw [List.length_set] at hi
   obtain ⟨u', f', k1, k2, k4⟩ := r.el i hi
   by_cases hij : j = i
   ·subst hij
    refine ⟨u, fx, by rw [Array.getElem?_setIfInBounds_self_of_lt hjc], by rw [List.getElem?_set_self (by rw [r.len]; exact hj)], ?_⟩
    simp only [List.getElem_set_self]
    exact Own.loc (fun q hq => hset_other fun e => hd b (by simp) (e ▸ hq)) hE
   ·refine ⟨u', f', by rw [Array.getElem?_setIfInBounds_ne hij]; exact k1, by rw [List.getElem?_set_ne hij]; exact k2, ?_⟩
    rw [List.getElem_set_ne hij]
    exact Own.loc (fun q hq => hset_other fun e => hnb (List.mem_flatten.2 ⟨f', List.mem_of_getElem? k2, e ▸ hq⟩)) k4
  ·refine List.nodup_cons.2 ⟨fun hm => ?_, nodup_flatten_set hnf hnx (fun b hb => hd b (List.mem_cons_of_mem _ hb))⟩
   rcases mem_flatten_set hm with h1 | h1
   ·exact hnb h1
   ·exact hd b (by simp) h1
  ·intro q hq
   rcases List.mem_cons.1 hq with rfl | hq
   ·exact .inl (by simp)
   ·rcases mem_flatten_set hq with h1 | h1
    ·exact .inl (List.mem_cons_of_mem _ h1)
    ·exact .inr h1
end
section
variable {P : Program} {T : Tab} {n : Nat} {K : Env → Heap → Prop} {env : Env} {h : Heap} {d : Option Tmp} {ty : TypeId} {p : String} {a : Array Edge} {g : Option (Nat × Bool)} {t e : TypeId}
end
end Go.Proofs.Ytacajcjibhifmaa

namespace Go.Proofs.Ytacajcjibhifmaa
open Go

theorem BoxAt.chg {h h' : Heap} {b : Nat} {cs : Array Value} {t : TypeId} {fp : List Nat} (hb : BoxAt h b cs t) (c : Chg fp h h') (hn : b ∉ fp) : BoxAt h' b cs t := by
 unfold BoxAt
 rw [c.block b hb.lt hn]
 exact hb
theorem hputs_box {t : TypeId} {b : Nat} : ∀ (vs : List Value) (i : Nat) (h : Heap) (cs : Array Value), BoxAt h b cs t → i + vs.length ≤ cs.size → (∀ v ∈ vs, v.oneCell' = true) →
  ∃ h', hputs ⟨b, 0, none⟩ h i vs = some h' ∧ BoxAt h' b (cs.toList.take i ++ vs ++ cs.toList.drop (i + vs.length)).toArray t ∧ Chg [b] h h'
 | [], i, h, cs, hb, hi, _ => ⟨h, rfl, by simpa using hb, Chg.refl _ _⟩
 | v :: r, i, h, cs, hb, hi, h1 => by
  have hlt : i < cs.size := by simp at hi; omega
  have hb1 : BoxAt (hset h ⟨b, i, none⟩ v) b (cs.setIfInBounds i v) t := hb.set
  obtain ⟨h', k1, k2, k3⟩ := hputs_box r (i + 1) _ _ hb1 (by simp at hi ⊢; omega) (fun u hu => h1 u (List.mem_cons_of_mem _ hu))
  refine ⟨h', ?_, ?_, (hset_chg h b i v).trans k3⟩
  ·simp only [hputs, addr_add, Nat.zero_add]
   rw [if_pos ⟨by rw [hb.cell, Array.getElem?_eq_getElem hlt]; rfl, hb.frozen _, h1 v (by simp)⟩]
   exact k1
  ·have e : (cs.setIfInBounds i v).toList = cs.toList.set i v := by simp
   rw [e] at k2
   have e2 : (cs.toList.set i v).take (i + 1) = cs.toList.take i ++ [v] := by
    rw [List.take_succ_eq_append_getElem (by simpa using hlt), List.take_set_of_le (Nat.le_refl _)]
    simp
   have e3 : (cs.toList.set i v).drop (i + 1 + r.length) = cs.toList.drop (i + (v :: r).length) := by
    rw [List.drop_set_of_lt (by omega)]
    simp only [List.length_cons]
    congr 1
    omega
   rw [e2, e3] at k2
   simpa using k2
theorem hputs_at {b o : Nat} : ∀ (vs : List Value) (i : Nat) (h : Heap), hputs ⟨b, o, none⟩ h i vs = hputs ⟨b, 0, none⟩ h (o + i) vs
 | [], i, h => rfl
 | v :: r, i, h => by
  simp only [hputs, addr_add, Nat.zero_add]
  rw [hputs_at r (i + 1)]
  rfl

section
variable {P : Program} {T : Tab} {n : Nat} {K : Env → Heap → Prop} {env : Env} {h : Heap} {d : Option Tmp} {ty : TypeId} {p : String} {a : Array Edge} {g : Option (Nat × Bool)} {t e : TypeId}
theorem op_box {x : Operand} {cs : Array Value} (hx : (ev env x).cells = cs) (hk : ∀ h', Ext h h' → BoxAt h' h.size cs e → h'.size = h.size + 1 → outv n ⟨d, .box e x, ty, p, a, g⟩ K env h' (.pointer (some ⟨h.size, 0, none⟩))) : opP P T n ⟨d, .box e x, ty, p, a, g⟩ K env h := by
 rw [opP_box, hx]
 exact hk _ (Ext.push _ _) (BoxAt.new _ _ _) (by simp)
theorem op_alloc {cs : Array Value} (hx : (T e).map (·.zero.cells) = some cs) (hk : ∀ h', Ext h h' → BoxAt h' h.size cs e → h'.size = h.size + 1 → outv n ⟨d, .alloc e, ty, p, a, g⟩ K env h' (.pointer (some ⟨h.size, 0, none⟩))) : opP P T n ⟨d, .alloc e, ty, p, a, g⟩ K env h := by
 obtain ⟨i, hi, hc⟩ := Option.map_eq_some_iff.1 hx
 rw [opP_alloc, hi, Bd_some, hc]
 exact hk _ (Ext.push _ _) (BoxAt.new _ _ _) (by simp)
/-- A store into a variable in memory, at the place o. -/
theorem op_storeB {x y : Operand} {b o m : Nat} {cs vs : Array Value} {tb : TypeId} (hst : ∀ h a v, storeV T h t a v = if v.cells.size = m then hputs a h 0 v.cells.toList else none)
  (hb : BoxAt h b cs tb) (hx : ev env x = .pointer (some ⟨b, o, none⟩)) (hy : (ev env y).cells = vs) (hm : vs.size = m) (ho : o + m ≤ cs.size) (h1 : ∀ v ∈ vs.toList, v.oneCell' = true)
  {cs' : Array Value} (hcs : (cs.toList.take o ++ vs.toList ++ cs.toList.drop (o + m)).toArray = cs')
  (hk : ∀ h', BoxAt h' b cs' tb → Chg [b] h h' → outv n ⟨d, .store t x y, ty, p, a, g⟩ K env h' undef) : opP P T n ⟨d, .store t x y, ty, p, a, g⟩ K env h := by
 rw [opP_store, hx, asAd_ptr, Bd_some, hst, hy, if_pos hm, hputs_at]
 obtain ⟨h', k1, k2, k3⟩ := hputs_box (t := tb) vs.toList (o + 0) h cs hb (by simp [hm]; omega) h1
 rw [k1, Bd_some]
 refine hk _ ?_ k3
 rw [← hcs]
 simpa [hm] using k2
end

def OC (h : Heap) (v : Value) (X : Cx) (fp : List Nat) : Prop := ∃ vd vm f1 f2, v = .agg #[.int .i64 X.p, vd, vm] ∧ O1 h vd X.dims f1 ∧ O3 h vm X.maps f2 ∧ fp = f1 ++ f2
theorem OC.rd {h : Heap} {v : Value} {X : Cx} {fp : List Nat} (ho : OC h v X fp) : RC h v X := by
 obtain ⟨vd, vm, f1, f2, e, h1, h2, _⟩ := ho
 exact ⟨vd, vm, e, OS.rd h1, OS.rd h2⟩
theorem OC.loc {h h' : Heap} {v : Value} {X : Cx} {fp : List Nat} (hl : ∀ b ∈ fp, h'[b]? = h[b]?) (ho : OC h v X fp) : OC h' v X fp := by
 obtain ⟨vd, vm, f1, f2, e, h1, h2, rfl⟩ := ho
 exact ⟨vd, vm, f1, f2, e, OS.loc (fun b hb => hl b (by simp [hb])) h1, OS.loc (fun b hb => hl b (by simp [hb])) h2, rfl⟩
theorem OC.lt {h : Heap} {v : Value} {X : Cx} {fp : List Nat} (ho : OC h v X fp) : ∀ b ∈ fp, b < h.size := by
 obtain ⟨vd, vm, f1, f2, e, h1, h2, rfl⟩ := ho
 intro b hb
 rcases List.mem_append.1 hb with hb | hb
 ·exact OS.lt h1 b hb
 ·exact OS.lt h2 b hb
theorem OC.ext {h h' : Heap} {v : Value} {X : Cx} {fp : List Nat} (ho : OC h v X fp) (k : Ext h h') : OC h' v X fp := OC.loc (fun b hb => k.block b (ho.lt b hb)) ho
theorem OC.chg {h h' : Heap} {v : Value} {X : Cx} {fp fq : List Nat} (ho : OC h v X fp) (k : Chg fq h h') (hd : ∀ b ∈ fp, b ∉ fq) : OC h' v X fp := OC.loc (fun b hb => k.block b (ho.lt b hb) (hd b hb)) ho

/-- New blocks, each once. -/
structure Fresh (lo : Nat) (fp : List Nat) : Prop where
 nodup : fp.Nodup
 ge : ∀ b ∈ fp, lo ≤ b
theorem Fresh.mono {lo lo' : Nat} {fp : List Nat} (f : Fresh lo fp) (h : lo' ≤ lo) : Fresh lo' fp := ⟨f.nodup, fun b hb => Nat.le_trans h (f.ge b hb)⟩
theorem Fresh.append {lo mid : Nat} {f1 f2 : List Nat} (h1 : Fresh lo f1) (hm : ∀ b ∈ f1, b < mid) (h2 : Fresh mid f2) (hl : lo ≤ mid) : Fresh lo (f1 ++ f2) :=
 ⟨List.nodup_append.2 ⟨h1.nodup, h2.nodup, fun a ha b hb e => by have := hm a ha; have := h2.ge b hb; omega⟩, fun b hb => by
  rcases List.mem_append.1 hb with hb | hb
  ·exact h1.ge b hb
  ·exact Nat.le_trans hl (h2.ge b hb)⟩
theorem Fresh.nil (lo : Nat) : Fresh lo [] := ⟨List.nodup_nil, fun b hb => by cases hb⟩
theorem Fresh.one (lo : Nat) : Fresh lo [lo] := ⟨by simp, fun b hb => by simp at hb; omega⟩
theorem Fresh.apart {fp fx : List Nat} {m : Nat} (hl : ∀ b ∈ fp, b < m) (f : Fresh m fx) : ∀ b ∈ fp, b ∉ fx := fun b hb hx => by have := hl b hb; have := f.ge b hx; omega
theorem Fresh.put {lo mid : Nat} {fp fx fp' : List Nat} (f : Fresh lo fp) (fx_ : Fresh mid fx) (hl : lo ≤ mid) (hn : fp'.Nodup) (hs : ∀ b ∈ fp', b ∈ fp ∨ b ∈ fx) : Fresh lo fp' :=
 ⟨hn, fun b hb => (hs b hb).elim (f.ge b) (fun h => Nat.le_trans hl (fx_.ge b h))⟩
end Go.Proofs.Ytacajcjibhifmaa

namespace Go.Proofs.Ytacajcjibhifmaa
open Go

section
variable {P : Program} {n : Nat} {Qr : Env → Heap → Prop} {k : List It} {env : Env} {h : Heap}
theorem tt : (true == true) = true := rfl
theorem tf : (true == false) = false := rfl
theorem ft : (false == true) = false := rfl
theorem ff : (false == false) = true := rfl
attribute [go_sem] tt tf ft ff Bool.not_true Bool.not_false
/-- Every way through c leaves L and R; the slots ts stay. -/
theorem den_merge {c : Code} (L : List (Nat × Value)) (ts : List Nat) (R : Heap → Prop)
  (h1 : den P n Qr (.code c :: .stop (fun env' h' => HasL env' (L ++ sel env ts) ∧ R h') :: k) env h) (h2 : ∀ e h', R h' → den P n Qr k (puts e (L ++ sel env ts)) h') : den P n Qr (.code c :: k) env h := by
 refine den_join _ h1 ?_
 rintro env' h' ⟨hl, hr⟩
 have := h2 env' h' hr
 rwa [hl.puts] at this
theorem den_mergeH {c : Code} (L : List (Nat × Value)) (ts : List Nat) (h1 : den P n Qr (.code c :: .stop (fun env' h' => HasL env' (L ++ sel env ts) ∧ h' = h) :: k) env h) (h2 : ∀ e, den P n Qr k (puts e (L ++ sel env ts)) h) : den P n Qr (.code c :: k) env h :=
 den_merge L ts (fun H => H = h) h1 (fun e h' hh => by rw [hh]; exact h2 e)
/-- A loop that leaves the heap alone. -/
theorem den_loopP {σ : Type} {e : Env} {lc : List (Nat × Value)} {c : Code} (st : σ → List (Nat × Value)) (I : σ → Prop) (μ : σ → Nat) (s0 : σ) (hI : h = h ∧ I s0)
  (round : ∀ s e, I s → den P n Qr (.code c :: .stop (fun env' h' => ∃ s', HasL env' (st s' ++ lc) ∧ (h' = h ∧ I s') ∧ μ s' < μ s) :: k) (puts e (st s ++ lc)) h) :
  den P n Qr (.code (.loop c) :: k) (puts e (st s0 ++ lc)) h :=
 den_loopS st (fun s H => H = h ∧ I s) μ s0 hI (fun s H e hs => by rw [hs.1]; exact round s e hs.2)
end
theorem CallA.pure {P : Program} {g : FuncId} {args : Array Value} {h : Heap} {w : Value} {R : Value → Heap → Prop} (hc : CallA P g args h fun v h' => v = w ∧ h' = h) (hr : R w h) : CallA P g args h R :=
 hc.mono fun v h' ⟨e1, e2⟩ => by rw [e1, e2]; exact hr
theorem resP_c1 {T : Tab} {R : Value → Heap → Prop} {env : Env} {h : Heap} {a : Nat} {t : TypeId} : resP T [.cell a t] R env h = Bd (asAd (env a)) fun ad => Bd (loadV T h t ad) fun v => R v h := by
 unfold resP resV resL resL
 cases asAd (env a) with
 | none => rfl
 | some ad =>
  simp only [Option.bind_some, Bd_some]
  cases loadV T h t ad <;> rfl
def allOne : List Value → Prop
 | [] => True
 | v :: r => v.oneCell' = true ∧ allOne r
theorem allOne_mem : ∀ {l : List Value}, allOne l → ∀ v ∈ l.toArray.toList, v.oneCell' = true
 | [], _, v, hv => by cases hv
 | u :: r, h, v, hv => by
  rcases List.mem_cons.1 hv with rfl | hv
  ·exact h.1
  ·exact allOne_mem h.2 v hv
end Go.Proofs.Ytacajcjibhifmaa

namespace Go.Proofs.Ytacajcjibhifmaa
open Go

structure SlA (T : Tab) (t e : TypeId) (sz : Nat) : Prop where
 mk :: (out : ∃ i j, T t = some i ∧ i.desc = .slice e ∧ T e = some j ∧ j.size = sz)
/-- v reads as the list xs, each element in sz cells. -/
def RdA {α : Type} (sz : Nat) (E : Heap → Value → α → Prop) (h : Heap) (v : Value) (xs : List α) : Prop :=
 ∃ A c, v = .slice A xs.length c ∧ (A.isSome = true ∨ xs.length = 0) ∧ xs.length ≤ c ∧ c ≤ 9223372036854775807 ∧
  ∀ j (hj : j < xs.length), ∃ cs : List Value, cs.length = sz ∧ (∀ i (hi : i < cs.length), hcell h (((sA v).add (sz * j)).add i) = some cs[i]) ∧ E h (.agg cs.toArray) xs[j]
section
variable {T : Tab} {α : Type} {sz : Nat} {E : Heap → Value → α → Prop} {h : Heap} {v : Value} {xs : List α}
theorem RdA.len (hv : RdA sz E h v xs) {t e : TypeId} (ht : SlA T t e sz) : lenV T t v = some (.int .i64 xs.length) := by
 obtain ⟨A, c, rfl, _⟩ := hv
 obtain ⟨i, j, h1, h2, _⟩ := ht.out
 simp [lenV, h1, h2]
theorem RdA.idx (hv : RdA sz E h v xs) {t e : TypeId} (ht : SlA T t e sz) (k : IntKind) (i : Int) (h0 : 0 ≤ i) (h1 : i < xs.length) : idxAddrV T t v (.int k i) = some (.pointer (some ((sA v).add (sz * i.toNat)))) := by
 obtain ⟨A, c, rfl, hA, _⟩ := hv
 obtain ⟨q, j, e1, e2, e3, e4⟩ := ht.out
 have hs : A.isSome = true := hA.resolve_right (by omega)
 obtain ⟨a, rfl⟩ := Option.isSome_iff_exists.1 hs
 simp [idxAddrV, e1, e2, e3, e4, asI, h0, h1, sA, Nat.mul_comm]
theorem RdA.le (hv : RdA sz E h v xs) : (xs.length : Int) ≤ 9223372036854775807 := by
 obtain ⟨A, c, rfl, hA, h1, h2, hc⟩ := hv
 omega
end
instance {α : Type} {sz : Nat} {E : Heap → Value → α → Prop} [Mono E] : Mono (RdA sz E) := ⟨fun hp ⟨A, c, hv, hA, hc, hm, hr⟩ => ⟨A, c, hv, hA, hc, hm, fun j hj => let ⟨cs, hl, hu, he⟩ := hr j hj; ⟨cs, hl, fun i hi => hp _ _ (hu i hi), Mono.mono hp he⟩⟩⟩
theorem RdA.pres {α : Type} {sz : Nat} {E : Heap → Value → α → Prop} [Mono E] {h h' : Heap} {v : Value} {xs : List α} (hv : RdA sz E h v xs) (hp : HPres h h') : RdA sz E h' v xs := Mono.mono hp hv
instance : Inhabited Cx := ⟨⟨0, [], []⟩⟩
section
variable {P : Program} {n : Nat} {K : Env → Heap → Prop} {env : Env} {h : Heap} {d : Option Tmp} {ty : TypeId} {p : String} {a : Array Edge} {g : Option (Nat × Bool)}
end
end Go.Proofs.Ytacajcjibhifmaa

namespace Go.Proofs.Ytacajcjibhifmaa
open Go Go.ChangeShapes Go.WideShapes Go.ChangeAt Go.RowKit Go.Joins
set_option maxRecDepth 100000

/-- What reads as data of type t is one value, and reads by E. -/
def Opens {α : Type} (P : Program) (t : TypeId) (E : Heap → Value → α → Prop) : Prop :=
 ∀ (H : Type) (enc : TypeId × Value → H) (w : World) (base : Nat) (spare : Nat → Bool) (held : Bool) (fuel : Nat) (cs : List Value) (x : DataW H × List MemPlace), DataW.trod enc P w base spare held fuel t cs = some x → ∃ v a, cs = [v] ∧ E w.heap v a
theorem choose_list {α : Type} {Q : Nat → α → Prop} : ∀ n : Nat, (∀ i, i < n → ∃ a, Q i a) → ∃ xs : List α, xs.length = n ∧ ∀ i (hi : i < xs.length), Q i xs[i]
 | 0, _ => ⟨[], rfl, fun i hi => by simp at hi⟩
 | n + 1, h => by
  obtain ⟨xs, hl, hx⟩ := choose_list n (fun i hi => h i (by omega))
  obtain ⟨a, ha⟩ := h n (by omega)
  refine ⟨xs ++ [a], by simp [hl], fun i hi => ?_⟩
  by_cases hc : i < xs.length
  ·rw [List.getElem_append_left hc]; exact hx i hc
  ·have : i = n := by simp at hi; omega
   subst this
   rw [List.getElem_append_right (by omega)]
   simpa [hl] using ha
theorem opens_slice {α : Type} {P : Program} {t e : TypeId} {E : Heap → Value → α → Prop} (ht : P.underlying t = some (.slice e)) (hc : P.cellsOf e = 1) (he : Opens P e E) : Opens P t (RdS E) := by
 intro H enc w base spare held fuel cs x h
 rcases DataW.trod_slice ht h with ⟨rfl, _⟩ | ⟨a, len, cap, elems, rest, n, _, rfl, _, hb, hl, hm, hlen, hel, _, _⟩
 ·exact ⟨_, [], rfl, none, 0, rfl, .inr rfl, by simp, by omega, fun j hj => by simp at hj⟩
 ·have each : ∀ i, i < len → ∃ q, ∃ u, hcell w.heap (a.add i) = some u ∧ E w.heap u q := by
   intro i hi
   have h1 := hel i hi
   have hi' : i < elems.length := by omega
   rw [hc, Nat.mul_one, List.getElem?_eq_getElem hi', Option.bind_eq_some_iff] at h1
   obtain ⟨cs', hcs, hy⟩ := h1
   obtain ⟨u, q, rfl, hq⟩ := he H enc w base spare held n cs' _ hy
   refine ⟨q, u, ?_, hq⟩
   rw [← cell_hw]
   exact cell_of_cells?_one hcs
  obtain ⟨xs, hxl, hx⟩ := choose_list len each
  have hm' : cap ≤ 9223372036854775807 := Nat.le_trans hm (by decide)
  exact ⟨_, xs, rfl, some a, cap, by rw [hxl], .inl rfl, by omega, hm', fun j hj => hx j hj⟩

/-- What a proved call leaves, as the rows ask it. -/
theorem CallA.calls {P : Program} {g : FuncId} {args : Array Value} {w : World} {u : Value} (hc : CallA P g args w.heap fun v h' => v = u ∧ Ext w.heap h') : Calls P g args w fun e w' => e = .returned u ∧ Below w.heap.size w w' := by
 obtain ⟨fn, _, _, _, h⟩ := hc
 refine (h w rfl).mono ?_
 rintro e w' ⟨v, he, hf, hv, hx⟩
 exact ⟨by rw [he, hv], hf.os, hf.tape, hf.output, hx.size, hx.block⟩
end Go.Proofs.Ytacajcjibhifmaa

namespace Go.Proofs.Ytacajcjibhifmaa
open Go
section
variable {e : TypeId} {h : Heap} {v : Value} {xs : List Int} {b c : Nat} {cur : Array Value} {fps : List (List Nat)}
end
section
variable {P : Program} {n : Nat} {K : Env → Heap → Prop} {env : Env} {h : Heap} {d : Option Tmp} {ty : TypeId} {p : String} {a : Array Edge} {g : Option (Nat × Bool)}
end
end Go.Proofs.Ytacajcjibhifmaa

namespace Go.Proofs.Ytacajcjibhifmaa
section
variable {h hc : Heap} {v : Value} {T : Tab} {t e : TypeId}
theorem R1.al {xs : List Int} (hv : R1 h v xs) (hp : HPres h hc) (ht : SlT T t e) : (lenV T t v = some (.int .i64 xs.length)) ∧ (∀ (k : IntKind) (i : Int), 0 ≤ i → i < xs.length → idxAddrV T t v (.int k i) = some (.pointer (some ((sA v).add i.toNat)))) ∧ (∀ j : Nat, j < xs.length → hcell hc ((sA v).add j) = some (.int .i64 (xs.getD j 0))) ∧ v.cells = #[v] := ⟨RdS.len hv ht, RdS.idx hv ht, R1.intB hv hp, RdS.cells hv⟩
theorem R1.an {xs : List Int} (hv : R1 h v xs) (ht : SlT T t e) : (lenV T t v = some (.int .i64 xs.length)) ∧ (∀ (k : IntKind) (i : Int), 0 ≤ i → i < xs.length → idxAddrV T t v (.int k i) = some (.pointer (some ((sA v).add i.toNat)))) ∧ (∀ j : Nat, j < xs.length → hcell h ((sA v).add j) = some (.int .i64 (xs.getD j 0))) ∧ v.cells = #[v] := ⟨RdS.len hv ht, RdS.idx hv ht, R1.intN hv, RdS.cells hv⟩
theorem RdS.al {α : Type} {E : Heap → Value → α → Prop} {xs : List α} (hv : RdS E h v xs) (hp : HPres h hc) (ht : SlT T t e) : (lenV T t v = some (.int .i64 xs.length)) ∧ (∀ (k : IntKind) (i : Int), 0 ≤ i → i < xs.length → idxAddrV T t v (.int k i) = some (.pointer (some ((sA v).add i.toNat)))) ∧ (∀ j : Nat, j < xs.length → hcell hc ((sA v).add j) = some (rowV h v j)) ∧ v.cells = #[v] := ⟨RdS.len hv ht, RdS.idx hv ht, RdS.cellB hv hp, RdS.cells hv⟩
theorem RdS.an {α : Type} {E : Heap → Value → α → Prop} {xs : List α} (hv : RdS E h v xs) (ht : SlT T t e) : (lenV T t v = some (.int .i64 xs.length)) ∧ (∀ (k : IntKind) (i : Int), 0 ≤ i → i < xs.length → idxAddrV T t v (.int k i) = some (.pointer (some ((sA v).add i.toNat)))) ∧ (∀ j : Nat, j < xs.length → hcell h ((sA v).add j) = some (rowV h v j)) ∧ v.cells = #[v] := ⟨RdS.len hv ht, RdS.idx hv ht, RdS.cellN hv, RdS.cells hv⟩
end
theorem ddA : (∀ (p : Prop) [Decidable p], (decide p = true) = p) ∧ (∀ {p : Prop} [Decidable p], (decide p = false) ↔ ¬ p) ∧ (∀ {α : Type} [BEq α] [LawfulBEq α] {a b : α}, (a == b) = true ↔ a = b) ∧ (∀ {α : Type} [BEq α] [LawfulBEq α] {a b : α}, (a == b) = false ↔ a ≠ b) ∧ (∀ {α : Type} [BEq α] [LawfulBEq α] {a b : α}, (a != b) = true ↔ a ≠ b) ∧ (∀ {α : Type} (a b : α), (a ≠ b) = ¬ (a = b)) ∧ (∀ {b : Bool}, ((!b) = true) = (b = false)) ∧ (∀ {b : Bool}, ((!b) = false) = (b = true)) ∧ (∀ (a b : Bool), ((a && b) = true) = (a = true ∧ b = true)) ∧ (∀ (a b : Bool), ((a || b) = true) = (a = true ∨ b = true)) ∧ (∀ {α : Type} [BEq α] [LawfulBEq α] {a b : α}, (a != b) = false ↔ a = b) := ⟨fun p _ => decide_eq_true_eq, decide_eq_false_iff_not, beq_iff_eq, beq_eq_false_iff_ne, bne_iff_ne, fun a b => rfl, fun {b} => by simp, fun {b} => by simp, fun a b => by simp, fun a b => by simp, bne_eq_false_iff_eq⟩
theorem gvA : (∀ {o : Oper} {l : List Oper}, slotOf (List.toArray (o :: l)) 0 = o.dst) ∧ (∀ {o : Oper} {l : List Oper} {j : Nat}, slotOf (List.toArray (o :: l)) (j + 1) = slotOf (List.toArray l) j) ∧ (∀ (f : Nat → Value) (x : Nat), Option.map f (some x) = some (f x)) ∧ (∀ {e : Env} {l : List (Nat × Value)} {t : Nat} {v : Value}, puts e ((t, v) :: l) t = v) ∧ (∀ {e : Env} {l : List (Nat × Value)} {t t' : Nat} {v : Value}, Nat.beq t t' = false → puts e ((t', v) :: l) t = puts e l t) ∧ (∀ w b : Bool, gv w (some (.bool b)) = (b == w)) ∧ (∀ w : Bool, gv w (some undef) = false) ∧ ((true == true) = true) ∧ ((true == false) = false) ∧ ((false == true) = false) ∧ ((false == false) = true) ∧ ((!true) = false) ∧ ((!false) = true) := ⟨slotOf_zero, slotOf_succ, fun _ _ => rfl, puts_same, puts_ne, gv_bool, gv_undef, rfl, rfl, rfl, rfl, rfl, rfl⟩

open Go
abbrev Apart (fp fq : List Nat) : Prop := ∀ b ∈ fp, b ∉ fq
def Sub (fp0 : List Nat) (n : Nat) (fp : List Nat) : Prop := ∀ b ∈ fp, b ∈ fp0 ∨ n ≤ b
theorem apart_lt {fp fq : List Nat} {m lo : Nat} (l : ∀ b ∈ fp, b < m) (f : Fresh lo fq) (h : m ≤ lo) : Apart fp fq := fun b hb hq => by
 have := l b hb; have := f.ge b hq; omega
theorem apart_gt {fp fq : List Nat} {m lo : Nat} (f : Fresh lo fp) (l : ∀ b ∈ fq, b < m) (h : m ≤ lo) : Apart fp fq := fun b hb hq => by
 have := l b hq; have := f.ge b hb; omega
theorem Apart.symm {fp fq : List Nat} (h : Apart fp fq) : Apart fq fp := fun b hb hq => h b hq hb
theorem Apart.app {fp f1 f2 : List Nat} (h1 : Apart fp f1) (h2 : Apart fp f2) : Apart fp (f1 ++ f2) := fun b hb hq => by
 rcases List.mem_append.1 hq with h | h
 ·exact h1 b hb h
 ·exact h2 b hb h
theorem Apart.nil (fp : List Nat) : Apart fp [] := fun b hb hq => by cases hq
/-- What has grown out of a list, an element and new blocks lies apart from what was apart from both and is older. -/
theorem Apart.grow {fo fp fx fp' : List Nat} {m k : Nat} (hl : ∀ b ∈ fo, b < k) (hk : k ≤ m) (h1 : Apart fo fp) (h2 : Apart fo fx) (hs : ∀ b ∈ fp', b ∈ fp ∨ b ∈ fx ∨ m ≤ b) : Apart fo fp' := fun b hb hp => by
 rcases hs b hp with h | h | h
 ·exact h1 b hb h
 ·exact h2 b hb h
 ·have := hl b hb; omega
theorem Fresh.appd {lo lx m : Nat} {fp fx fp' : List Nat} (f : Fresh lo fp) (g : Fresh lx fx) (hx : lo ≤ lx) (hm : lo ≤ m) (hn : fp'.Nodup) (hs : ∀ b ∈ fp', b ∈ fp ∨ b ∈ fx ∨ m ≤ b) : Fresh lo fp' :=
 ⟨hn, fun b hb => by
  rcases hs b hb with h | h | h
  ·exact f.ge b h
  ·have := g.ge b h; omega
  ·omega⟩
theorem Sub.refl {fp0 : List Nat} {n : Nat} : Sub fp0 n fp0 := fun _ h => .inl h
theorem Sub.left {f1 f2 fp : List Nat} {n : Nat} (h : Sub f1 n fp) : Sub (f1 ++ f2) n fp := fun b hb => (h b hb).elim (fun h => .inl (List.mem_append_left _ h)) .inr
theorem Sub.right {f1 f2 fp : List Nat} {n : Nat} (h : Sub f2 n fp) : Sub (f1 ++ f2) n fp := fun b hb => (h b hb).elim (fun h => .inl (List.mem_append_right _ h)) .inr
theorem Sub.app {fp0 f1 f2 : List Nat} {n : Nat} (h1 : Sub fp0 n f1) (h2 : Sub fp0 n f2) : Sub fp0 n (f1 ++ f2) := fun b hb => by
 rcases List.mem_append.1 hb with h | h
 ·exact h1 b h
 ·exact h2 b h
theorem Sub.fresh {fp0 fp : List Nat} {n lo : Nat} (f : Fresh lo fp) (h : n ≤ lo) : Sub fp0 n fp := fun b hb => .inr (Nat.le_trans h (f.ge b hb))
theorem Sub.grow {fp0 fp fx fp' : List Nat} {n m : Nat} (h1 : Sub fp0 n fp) (h2 : Sub fp0 n fx) (hm : n ≤ m) (hs : ∀ b ∈ fp', b ∈ fp ∨ b ∈ fx ∨ m ≤ b) : Sub fp0 n fp' := fun b hb => by
 rcases hs b hb with h | h | h
 ·exact h1 b h
 ·exact h2 b h
 ·exact .inr (Nat.le_trans hm h)
theorem Sub.trans {fp0 fp1 fp : List Nat} {n m : Nat} (h : Sub fp1 m fp) (k : Sub fp0 n fp1) (hm : n ≤ m) : Sub fp0 n fp := fun b hb => by
 rcases h b hb with h | h
 ·exact k b h
 ·exact .inr (Nat.le_trans hm h)
theorem Sub.nil {fp0 : List Nat} {n : Nat} : Sub fp0 n [] := fun b hb => by cases hb
theorem ge_of {lo m : Nat} {fp : List Nat} (f : Fresh lo fp) (h : m ≤ lo) : ∀ b ∈ fp, m ≤ b := fun b hb => Nat.le_trans h (f.ge b hb)
theorem ge_app {m : Nat} {f1 f2 : List Nat} (h1 : ∀ b ∈ f1, m ≤ b) (h2 : ∀ b ∈ f2, m ≤ b) : ∀ b ∈ f1 ++ f2, m ≤ b := fun b hb => by
 rcases List.mem_append.1 hb with h | h
 ·exact h1 b h
 ·exact h2 b h
theorem Chg.step {fp0 fp : List Nat} {a b c : Heap} (h : Chg fp0 a b) (k : Chg fp b c) (s : Sub fp0 a.size fp) : Chg fp0 a c :=
 ⟨Nat.le_trans h.size k.size, fun q hq hn => (k.block q (Nat.lt_of_lt_of_le hq h.size) (fun hm => by
  rcases s q hm with h1 | h1
  ·exact hn h1
  ·omega)).trans (h.block q hq hn)⟩
theorem Chg.stepE {fp0 : List Nat} {a b c : Heap} (h : Chg fp0 a b) (k : Ext b c) : Chg fp0 a c := h.trans (k.chg _)
theorem Fresh.two {l1 l2 lo : Nat} {fp fq : List Nat} (f1 : Fresh l1 fp) (f2 : Fresh l2 fq) (ap : Apart fp fq) (h1 : lo ≤ l1) (h2 : lo ≤ l2) : Fresh lo (fp ++ fq) :=
 ⟨List.nodup_append.2 ⟨f1.nodup, f2.nodup, fun b hb c hc e => ap b hb (e ▸ hc)⟩, fun b hb => by
  rcases List.mem_append.1 hb with h | h
  ·exact Nat.le_trans h1 (f1.ge b h)
  ·exact Nat.le_trans h2 (f2.ge b h)⟩
theorem one_lt {b n : Nat} (h : b < n) : ∀ q ∈ [b], q < n := fun q hq => by simp at hq; omega
theorem BoxAt.chgA {h h' : Heap} {b : Nat} {cs : Array Value} {t : TypeId} {fp : List Nat} (hb : BoxAt h b cs t) (c : Chg fp h h') (hn : Apart [b] fp) : BoxAt h' b cs t := hb.chg c (hn b (by simp))
theorem mod_twice {p x : Int} (hp : 0 < p) : (x.tmod p + p).tmod p = x % p := by
 have h1 : -p < x.tmod p := by
  have := Int.lt_tmod_of_pos x hp; omega
 rw [Int.tmod_eq_emod_of_nonneg (by omega), Int.add_emod_right, Int.tmod_def, Int.sub_mul_emod_self_left]
theorem tmod_in {p x : Int} (hp : 0 < p) : -p < x.tmod p ∧ x.tmod p < p := ⟨by have := Int.lt_tmod_of_pos x hp; omega, Int.tmod_lt_of_pos x hp⟩
theorem resP_ct {T : Tab} {R : Value → Heap → Prop} {env : Env} {h : Heap} {a u : Nat} {t : TypeId} : resP T [.cell a t, .tmp u] R env h = Bd (asAd (env a)) fun ad => Bd (loadV T h t ad) fun v => R (.tuple #[v, env u]) h := by
 unfold resP resV resL resL resL
 cases asAd (env a) with
 | none => rfl
 | some ad => cases h1 : loadV T h t ad <;> simp [h1, Bd]
theorem binV_eqB (a b : Bool) : binV TT .eql 4 (.bool a) (.bool b) = some (.bool (a == b)) := by simp [binV, T4]
theorem binV_neB (a b : Bool) : binV TT .neq 4 (.bool a) (.bool b) = some (.bool (!(a == b))) := by simp [binV, T4]
theorem binV_eqNil (A : Option Addr) (n c : Nat) : binV TT .eql 55 (.slice A n c) (.slice none 0 0) = some (.bool A.isNone) := by cases A <;> simp [binV, T55]
attribute [go_sem] binV_eqB binV_neB binV_eqNil
end Go.Proofs.Ytacajcjibhifmaa

namespace Go.Proofs.Ytacajcjibhifmaa
open Go
def HM1 (xs : List Int) : Prop := (xs.length : Int) ≤ 1048576
def HM2 (R : List (List Int)) : Prop := (R.length : Int) ≤ 1048576 ∧ ∀ r ∈ R, HM1 r
def HM3 (R : List (List (List Int))) : Prop := (R.length : Int) ≤ 1048576 ∧ ∀ r ∈ R, HM2 r
theorem HM2.len {R : List (List Int)} (h : HM2 R) : (R.length : Int) ≤ 1048576 := h.1
theorem HM3.len {R : List (List (List Int))} (h : HM3 R) : (R.length : Int) ≤ 1048576 := h.1
theorem getD_mem {α : Type} [Inhabited α] {R : List α} {k : Nat} (hk : k < R.length) : R.getD k default ∈ R := by rw [List.getD_eq_getElem?_getD, List.getElem?_eq_getElem hk]; exact List.getElem_mem hk
theorem HM2.at {R : List (List Int)} (h : HM2 R) (k : Nat) (hk : k < R.length) : HM1 (R.getD k default) := h.2 _ (getD_mem hk)
theorem HM3.at {R : List (List (List Int))} (h : HM3 R) (k : Nat) (hk : k < R.length) : HM2 (R.getD k default) := h.2 _ (getD_mem hk)
end Go.Proofs.Ytacajcjibhifmaa

namespace Go.Proofs.Ytacajcjibhifmaa
open Go
def HMC (X : Cx) : Prop := HM1 X.dims ∧ HM3 X.maps
end Go.Proofs.Ytacajcjibhifmaa

namespace Go.Proofs.Ytacajcjibhifmaa
open Go
def in3 (n lo hi : Int) : Bool := decide (lo ≤ n) && decide (n ≤ hi)
def isP (p : Int) : Bool := ((p == 2 || p == 3) || p == 5) || p == 7
theorem in3_iff {n lo hi : Int} : in3 n lo hi = true ↔ lo ≤ n ∧ n ≤ hi := by simp [in3]
theorem in3_f {n lo hi : Int} : in3 n lo hi = false ↔ ¬ (lo ≤ n ∧ n ≤ hi) := by rw [← in3_iff]; simp

set_option maxRecDepth 100000 in
theorem sIn_ok (n lo hi : Int) (h : Heap) : CallA Try.prog 106 #[.int .i64 n, .int .i64 lo, .int .i64 hi] h fun v h' => v = .bool (in3 n lo hi) ∧ h' = h := by
 refine callA_intro TTok (args := [_, _, _]) Try.func106 (by kernel_rfl) rfl 15 rfl (by simp) [.tmp 6] rfl ?_
 simp only [idxs, Nat.reduceAdd]
 refine den_seq ?_
 refine den_region TTok ?_
 intro K hK
 simp -implicitDefEqProofs (disch := first | decide | assumption | omega) only [go_sem]
 refine hK _ _ ?_
 clear hK K
 refine den_seq ?_
 refine den_mergeH [(6, .bool (((decide (lo ≤ n)) && (decide (n ≤ hi)))))] [] ?_ ?_
  -- a way
 ·refine den_region TTok ?_
  intro K hK
  simp -implicitDefEqProofs (disch := first | decide | assumption | (simp (disch := decide) only [gvA, eq_self, if_true, if_false, Bool.false_eq_true]; done) | omega) only [go_sem]
  refine opsP_T (by simp (disch := decide) only [slotOf_zero, slotOf_succ, Option.map_some, puts_same]; rfl) (fun g1 => ?_) (fun g1 => ?_)
  ·try simp -implicitDefEqProofs (disch := first | decide | assumption | (simp (disch := decide) only [gvA, eq_self, if_true, if_false, Bool.false_eq_true, g1]; done) | omega) only [go_sem, g1, eq_self, if_true]
   refine hK _ _ ?_
   clear hK K
   refine den_stop ?_
   refine ⟨?_, rfl⟩
   first | (simp (disch := decide) only [go_sem, g1, eq_self, Bool.true_and]; done) | simp [HasL, sel, puts_at, g1]
  ·try simp -implicitDefEqProofs (disch := first | decide | assumption | (simp (disch := decide) only [gvA, eq_self, if_true, if_false, Bool.false_eq_true, g1]; done) | omega) only [go_sem, g1, if_false, Bool.false_eq_true]
   refine hK _ _ ?_
   clear hK K
   refine den_stop ?_
   refine ⟨?_, rfl⟩
   first | (simp (disch := decide) only [go_sem, g1, eq_self, Bool.false_and]; done) | simp [HasL, sel, puts_at, g1]
 intro en2
 simp (disch := decide) only [go_sem]
 refine den_ret ?_
 simp (disch := decide) only [resP_1, puts_same]
 exact ⟨by first | rfl | trivial, trivial⟩

set_option maxRecDepth 100000 in
theorem iIn_ok (n lo hi : Int) (h : Heap) : CallA Try.prog 87 #[.int .i64 n, .int .i64 lo, .int .i64 hi] h fun v h' => v = .bool (in3 n lo hi) ∧ h' = h := by
 refine callA_intro TTok (args := [_, _, _]) Try.func87 (by kernel_rfl) rfl 15 rfl (by simp) [.tmp 6] rfl ?_
 simp only [idxs, Nat.reduceAdd]
 refine den_seq ?_
 refine den_region TTok ?_
 intro K hK
 simp -implicitDefEqProofs (disch := first | decide | assumption | omega) only [go_sem]
 refine hK _ _ ?_
 clear hK K
 refine den_seq ?_
 refine den_mergeH [(6, .bool (((decide (lo ≤ n)) && (decide (n ≤ hi)))))] [] ?_ ?_
  -- a way
 ·refine den_region TTok ?_
  intro K hK
  simp -implicitDefEqProofs (disch := first | decide | assumption | (simp (disch := decide) only [gvA, eq_self, if_true, if_false, Bool.false_eq_true]; done) | omega) only [go_sem]
  refine opsP_T (by simp (disch := decide) only [slotOf_zero, slotOf_succ, Option.map_some, puts_same]; rfl) (fun g1 => ?_) (fun g1 => ?_)
  ·try simp -implicitDefEqProofs (disch := first | decide | assumption | (simp (disch := decide) only [gvA, eq_self, if_true, if_false, Bool.false_eq_true, g1]; done) | omega) only [go_sem, g1, eq_self, if_true]
   refine hK _ _ ?_
   clear hK K
   refine den_stop ?_
   refine ⟨?_, rfl⟩
   first | (simp (disch := decide) only [go_sem, g1, eq_self, Bool.true_and]; done) | simp [HasL, sel, puts_at, g1]
  ·try simp -implicitDefEqProofs (disch := first | decide | assumption | (simp (disch := decide) only [gvA, eq_self, if_true, if_false, Bool.false_eq_true, g1]; done) | omega) only [go_sem, g1, if_false, Bool.false_eq_true]
   refine hK _ _ ?_
   clear hK K
   refine den_stop ?_
   refine ⟨?_, rfl⟩
   first | (simp (disch := decide) only [go_sem, g1, eq_self, Bool.false_and]; done) | simp [HasL, sel, puts_at, g1]
 intro en2
 simp (disch := decide) only [go_sem]
 refine den_ret ?_
 simp (disch := decide) only [resP_1, puts_same]
 exact ⟨by first | rfl | trivial, trivial⟩

set_option maxRecDepth 100000 in
theorem sPrime_ok (p : Int) (h : Heap) : CallA Try.prog 60 #[.int .i64 p] h fun v h' => v = .bool (isP p) ∧ h' = h := by
 refine callA_intro TTok (args := [_]) Try.func60 (by kernel_rfl) rfl 17 rfl (by simp) [.tmp 2] rfl ?_
 simp only [idxs]
 refine den_seq ?_
 refine den_region TTok ?_
 intro K hK
 simp -implicitDefEqProofs (disch := first | decide | assumption | omega) only [go_sem]
 refine hK _ _ ?_
 clear hK K
 refine den_seq ?_
 refine den_mergeH [(2, .bool (((((p == (2 : Int)) || (p == (3 : Int))) || (p == (5 : Int))) || (p == (7 : Int)))))] [] ?_ ?_
  -- a way
 ·refine den_region TTok ?_
  intro K hK
  simp -implicitDefEqProofs (disch := first | decide | assumption | (simp (disch := decide) only [gvA, eq_self, if_true, if_false, Bool.false_eq_true]; done) | omega) only [go_sem]
  refine opsP_F (by simp (disch := decide) only [slotOf_zero, slotOf_succ, Option.map_some, puts_same]; rfl) (fun g1 => ?_) (fun g1 => ?_)
  ·try simp -implicitDefEqProofs (disch := first | decide | assumption | (simp (disch := decide) only [gvA, eq_self, if_true, if_false, Bool.false_eq_true, g1]; done) | omega) only [go_sem, g1, if_false, Bool.false_eq_true]
   refine opsP_F (by simp (disch := decide) only [slotOf_zero, slotOf_succ, Option.map_some, puts_same]; rfl) (fun g2 => ?_) (fun g2 => ?_)
   ·try simp -implicitDefEqProofs (disch := first | decide | assumption | (simp (disch := decide) only [gvA, eq_self, if_true, if_false, Bool.false_eq_true, g1, g2]; done) | omega) only [go_sem, g2, if_false, Bool.false_eq_true]
    refine opsP_F (by simp (disch := decide) only [slotOf_zero, slotOf_succ, Option.map_some, puts_same]; rfl) (fun g3 => ?_) (fun g3 => ?_)
    ·try simp -implicitDefEqProofs (disch := first | decide | assumption | (simp (disch := decide) only [gvA, eq_self, if_true, if_false, Bool.false_eq_true, g1, g2, g3]; done) | omega) only [go_sem, g3, if_false, Bool.false_eq_true]
     refine hK _ _ ?_
     clear hK K
     refine den_stop ?_
     refine ⟨?_, rfl⟩
     first | (simp (disch := decide) only [go_sem, g1, g2, g3, eq_self, Bool.false_or, Bool.or_false]; done) | simp [HasL, sel, puts_at, g1, g2, g3]
    ·try simp -implicitDefEqProofs (disch := first | decide | assumption | (simp (disch := decide) only [gvA, eq_self, if_true, if_false, Bool.false_eq_true, g1, g2, g3]; done) | omega) only [go_sem, g3, eq_self, if_true]
     refine hK _ _ ?_
     clear hK K
     refine den_stop ?_
     refine ⟨?_, rfl⟩
     first | (simp (disch := decide) only [go_sem, g1, g2, g3, eq_self, Bool.true_or, Bool.or_true, Bool.or_false]; done) | simp [HasL, sel, puts_at, g1, g2, g3]
   ·try simp -implicitDefEqProofs (disch := first | decide | assumption | (simp (disch := decide) only [gvA, eq_self, if_true, if_false, Bool.false_eq_true, g1, g2]; done) | omega) only [go_sem, g2, eq_self, if_true]
    refine hK _ _ ?_
    clear hK K
    refine den_stop ?_
    refine ⟨?_, rfl⟩
    first | (simp (disch := decide) only [go_sem, g1, g2, eq_self, Bool.true_or, Bool.or_true]; done) | simp [HasL, sel, puts_at, g1, g2]
  ·try simp -implicitDefEqProofs (disch := first | decide | assumption | (simp (disch := decide) only [gvA, eq_self, if_true, if_false, Bool.false_eq_true, g1]; done) | omega) only [go_sem, g1, eq_self, if_true]
   refine hK _ _ ?_
   clear hK K
   refine den_stop ?_
   refine ⟨?_, rfl⟩
   first | (simp (disch := decide) only [go_sem, g1, eq_self, Bool.true_or]; done) | simp [HasL, sel, puts_at, g1]
 intro en4
 simp (disch := decide) only [go_sem]
 refine den_ret ?_
 simp (disch := decide) only [resP_1, puts_same]
 exact ⟨by first | rfl | trivial, trivial⟩

set_option maxRecDepth 100000 in
theorem iPrime_ok (p : Int) (h : Heap) : CallA Try.prog 58 #[.int .i64 p] h fun v h' => v = .bool (isP p) ∧ h' = h := by
 refine callA_intro TTok (args := [_]) Try.func58 (by kernel_rfl) rfl 17 rfl (by simp) [.tmp 2] rfl ?_
 simp only [idxs]
 refine den_seq ?_
 refine den_region TTok ?_
 intro K hK
 simp -implicitDefEqProofs (disch := first | decide | assumption | omega) only [go_sem]
 refine hK _ _ ?_
 clear hK K
 refine den_seq ?_
 refine den_mergeH [(2, .bool (((((p == (2 : Int)) || (p == (3 : Int))) || (p == (5 : Int))) || (p == (7 : Int)))))] [] ?_ ?_
  -- a way
 ·refine den_region TTok ?_
  intro K hK
  simp -implicitDefEqProofs (disch := first | decide | assumption | (simp (disch := decide) only [gvA, eq_self, if_true, if_false, Bool.false_eq_true]; done) | omega) only [go_sem]
  refine opsP_F (by simp (disch := decide) only [slotOf_zero, slotOf_succ, Option.map_some, puts_same]; rfl) (fun g1 => ?_) (fun g1 => ?_)
  ·try simp -implicitDefEqProofs (disch := first | decide | assumption | (simp (disch := decide) only [gvA, eq_self, if_true, if_false, Bool.false_eq_true, g1]; done) | omega) only [go_sem, g1, if_false, Bool.false_eq_true]
   refine opsP_F (by simp (disch := decide) only [slotOf_zero, slotOf_succ, Option.map_some, puts_same]; rfl) (fun g2 => ?_) (fun g2 => ?_)
   ·try simp -implicitDefEqProofs (disch := first | decide | assumption | (simp (disch := decide) only [gvA, eq_self, if_true, if_false, Bool.false_eq_true, g1, g2]; done) | omega) only [go_sem, g2, if_false, Bool.false_eq_true]
    refine opsP_F (by simp (disch := decide) only [slotOf_zero, slotOf_succ, Option.map_some, puts_same]; rfl) (fun g3 => ?_) (fun g3 => ?_)
    ·try simp -implicitDefEqProofs (disch := first | decide | assumption | (simp (disch := decide) only [gvA, eq_self, if_true, if_false, Bool.false_eq_true, g1, g2, g3]; done) | omega) only [go_sem, g3, if_false, Bool.false_eq_true]
     refine hK _ _ ?_
     clear hK K
     refine den_stop ?_
     refine ⟨?_, rfl⟩
     first | (simp (disch := decide) only [go_sem, g1, g2, g3, eq_self, Bool.false_or, Bool.or_false]; done) | simp [HasL, sel, puts_at, g1, g2, g3]
    ·try simp -implicitDefEqProofs (disch := first | decide | assumption | (simp (disch := decide) only [gvA, eq_self, if_true, if_false, Bool.false_eq_true, g1, g2, g3]; done) | omega) only [go_sem, g3, eq_self, if_true]
     refine hK _ _ ?_
     clear hK K
     refine den_stop ?_
     refine ⟨?_, rfl⟩
     first | (simp (disch := decide) only [go_sem, g1, g2, g3, eq_self, Bool.true_or, Bool.or_true, Bool.or_false]; done) | simp [HasL, sel, puts_at, g1, g2, g3]
   ·try simp -implicitDefEqProofs (disch := first | decide | assumption | (simp (disch := decide) only [gvA, eq_self, if_true, if_false, Bool.false_eq_true, g1, g2]; done) | omega) only [go_sem, g2, eq_self, if_true]
    refine hK _ _ ?_
    clear hK K
    refine den_stop ?_
    refine ⟨?_, rfl⟩
    first | (simp (disch := decide) only [go_sem, g1, g2, eq_self, Bool.true_or, Bool.or_true]; done) | simp [HasL, sel, puts_at, g1, g2]
  ·try simp -implicitDefEqProofs (disch := first | decide | assumption | (simp (disch := decide) only [gvA, eq_self, if_true, if_false, Bool.false_eq_true, g1]; done) | omega) only [go_sem, g1, eq_self, if_true]
   refine hK _ _ ?_
   clear hK K
   refine den_stop ?_
   refine ⟨?_, rfl⟩
   first | (simp (disch := decide) only [go_sem, g1, eq_self, Bool.true_or]; done) | simp [HasL, sel, puts_at, g1]
 intro en4
 simp (disch := decide) only [go_sem]
 refine den_ret ?_
 simp (disch := decide) only [resP_1, puts_same]
 exact ⟨by first | rfl | trivial, trivial⟩

set_option maxRecDepth 100000 in
theorem size1_ok (v : Value) (xs : List Int) (h : Heap) (hv : R1 h v xs) : CallA Try.prog 90 #[v] h fun v h' => v = .int .i64 (xs.length : Int) ∧ h' = h := by
 have hle := RdS.le hv
 refine callA_intro TTok (args := [_]) Try.func90 (by kernel_rfl) rfl 5 rfl (by simp) [.tmp 2] rfl ?_
 simp only [idxs]
 refine den_seq ?_
 refine den_region TTok ?_
 intro K hK
 simp -implicitDefEqProofs (disch := first | decide | assumption | omega) only [go_sem]
 refine hK _ _ ?_
 clear hK K
 refine den_seq ?_
 refine den_region TTok ?_
 intro K hK
 simp -implicitDefEqProofs (disch := first | decide | assumption | omega) only [go_sem, RdS.len hv sl55]
 refine hK _ _ ?_
 clear hK K
 refine den_ret ?_
 simp (disch := decide) only [resP_1, puts_same]
 exact ⟨by first | rfl | trivial, trivial⟩
end Go.Proofs.Ytacajcjibhifmaa

namespace Go.Proofs.Ytacajcjibhifmaa
open Go
theorem all_at {α : Type} {f : α → Bool} {xs : List α} {d : α} {k : Nat} (h : xs.all f = true) (hk : k < xs.length) : f (xs.getD k d) = true := by
 rw [List.getD_eq_getElem?_getD, List.getElem?_eq_getElem hk]
 exact List.all_eq_true.1 h _ (List.getElem_mem hk)
/-- The place of the first number other than 0. -/
def leadP : List Int → Int
 | [] => -1
 | x :: r => if x ≠ 0 then 0 else if leadP r < 0 then -1 else leadP r + 1
theorem leadP_all : ∀ {xs : List Int}, (∀ x ∈ xs, x = 0) → leadP xs = -1
 | [], _ => rfl
 | x :: r, h => by
  rw [leadP, if_neg (by simp [h x]), leadP_all (fun y hy => h y (List.mem_cons_of_mem _ hy))]; rfl
theorem leadP_at : ∀ {xs : List Int} {k : Nat}, k < xs.length → (∀ j, j < k → xs.getD j 0 = 0) → xs.getD k 0 ≠ 0 → leadP xs = k
 | x :: r, 0, _, _, h => by rw [leadP, if_pos (by simpa using h)]; rfl
 | x :: r, k + 1, hk, hz, h => by
  have := leadP_at (xs := r) (k := k) (by simpa using hk) (fun j hj => by simpa using hz (j + 1) (by omega)) (by simpa using h)
  rw [leadP, if_neg (by simpa using hz 0 (by omega)), this, if_neg (by omega)]; omega
theorem zeros_all {xs : List Int} (h : ∀ j, j < xs.length → xs.getD j 0 = 0) : ∀ x ∈ xs, x = 0 := by
 intro x hx
 obtain ⟨j, hj, rfl⟩ := List.getElem_of_mem hx
 have := h j hj
 rwa [List.getD_eq_getElem?_getD, List.getElem?_eq_getElem hj] at this
def isRow (p n : Int) (r : List Int) : Bool := decide ((r.length : Int) = n) && r.all (fun x => in3 x 0 (p - 1))
def tableP (p : Int) (rows : List (List Int)) (c w : Int) : Bool := decide ((rows.length : Int) = c) && rows.all (isRow p w)
end Go.Proofs.Ytacajcjibhifmaa

namespace Go.Proofs.Ytacajcjibhifmaa
open Go
/-- One row, times x, is added. -/
def stepRow (p x : Int) (row acc : List Int) : List Int := List.zipWith (fun o y => (o + x * y).tmod p) acc row
def accP (p : Int) : List Int → List (List Int) → List Int → List Int
 | x :: v, r :: rows, acc => accP p v rows (stepRow p x r acc)
 | _, _, acc => acc
def Bnd (p : Int) (v : List Int) : Prop := ∀ x ∈ v, 0 ≤ x ∧ x < p
theorem Bnd.at {p : Int} {v : List Int} (h : Bnd p v) {k : Nat} (hk : k < v.length) : 0 ≤ v.getD k 0 ∧ v.getD k 0 < p := by
 rw [List.getD_eq_getElem?_getD, List.getElem?_eq_getElem hk]; exact h _ (List.getElem_mem hk)
/-- Rows of w numbers modulo p. -/
def Tbl (p w : Int) (rows : List (List Int)) : Prop := ∀ r ∈ rows, (r.length : Int) = w ∧ Bnd p r
theorem Tbl.at {p w : Int} {rows : List (List Int)} (h : Tbl p w rows) {k : Nat} (hk : k < rows.length) : ((rows.getD k default).length : Int) = w ∧ Bnd p (rows.getD k default) := h _ (getD_mem hk)
theorem isRow_iff {p n : Int} {r : List Int} : isRow p n r = true ↔ (r.length : Int) = n ∧ Bnd p r := by
 simp only [isRow, Bool.and_eq_true, decide_eq_true_eq, List.all_eq_true, in3_iff, Bnd]
 constructor <;> rintro ⟨h1, h2⟩ <;> exact ⟨h1, fun x hx => by have := h2 x hx; omega⟩
theorem tableP_iff {p : Int} {rows : List (List Int)} {c w : Int} : tableP p rows c w = true ↔ (rows.length : Int) = c ∧ Tbl p w rows := by
 simp only [tableP, Bool.and_eq_true, decide_eq_true_eq, List.all_eq_true, isRow_iff, Tbl]
end Go.Proofs.Ytacajcjibhifmaa

namespace Go.Proofs.Ytacajcjibhifmaa
open Go
theorem isP_bnd {p : Int} (h : isP p = true) : 0 < p ∧ p ≤ 7 := by
 simp only [isP, Bool.or_eq_true, beq_iff_eq] at h; omega
end Go.Proofs.Ytacajcjibhifmaa

namespace Go.Proofs.Ytacajcjibhifmaa
open Go
def tbAt (X : Cx) (k : Nat) : Prop := tableP X.p (X.maps.getD k default) (X.dims.getD ((k : Int) + 1).toNat 0) (X.dims.getD k 0) = true
/-- Row i of map k, sent on by the map before. -/
def sqv (X : Cx) (k i : Nat) : List Int := accP X.p ((X.maps.getD k default).getD i default) (X.maps.getD ((k : Int) - 1).toNat default) (List.replicate (X.dims.getD ((k : Int) - 1).toNat 0).toNat 0)
structure IsC (X : Cx) : Prop where
 p : isP X.p = true
 len : 1 ≤ X.dims.length ∧ X.dims.length ≤ 6
 ml : X.maps.length + 1 = X.dims.length
 dm : X.dims.all (fun x => in3 x 0 8) = true
 tb : ∀ k, k < X.maps.length → tbAt X k
 sq : ∀ k, k < X.maps.length → 0 < k → ∀ i, i < (X.maps.getD k default).length → leadP (sqv X k i) < 0
theorem dm_at {X : Cx} (h : X.dims.all (fun x => in3 x 0 8) = true) {k : Nat} (hk : k < X.dims.length) : 0 ≤ X.dims.getD k 0 ∧ X.dims.getD k 0 ≤ 8 := in3_iff.1 (all_at (d := 0) h hk)
end Go.Proofs.Ytacajcjibhifmaa

namespace Go.Proofs.Ytacajcjibhifmaa
open Go
structure PreC (X : Cx) : Prop where
 p : 0 < X.p ∧ X.p ≤ 7
 ml : X.maps.length + 1 = X.dims.length
 dm : X.dims.all (fun x => in3 x 0 8) = true
 tb : ∀ k, k < X.maps.length → tbAt X k
theorem PreC.app {X : Cx} (h : PreC X) {n : Int} (h0 : 0 < n) (h1 : n ≤ (X.dims.length : Int) - 1) : (0 ≤ X.dims.getD (n - 1).toNat 0 ∧ X.dims.getD (n - 1).toNat 0 ≤ 8) ∧ ((X.maps.getD (n - 1).toNat default).length : Int) = X.dims.getD n.toNat 0 ∧ Tbl X.p (X.dims.getD (n - 1).toNat 0) (X.maps.getD (n - 1).toNat default) := by
 have hm := h.ml
 have t := tableP_iff.1 (h.tb (n - 1).toNat (by omega))
 have e : ((((n - 1).toNat : Nat) : Int) + 1).toNat = n.toNat := by omega
 rw [e] at t
 exact ⟨dm_at h.dm (by omega), t⟩
end Go.Proofs.Ytacajcjibhifmaa

namespace Go.Proofs.Ytacajcjibhifmaa
open Go
theorem Fresh.left {lo : Nat} {f1 f2 : List Nat} (h : Fresh lo (f1 ++ f2)) : Fresh lo f1 := ⟨(List.nodup_append.1 h.nodup).1, fun b hb => h.ge b (List.mem_append_left _ hb)⟩
theorem Fresh.right {lo : Nat} {f1 f2 : List Nat} (h : Fresh lo (f1 ++ f2)) : Fresh lo f2 := ⟨(List.nodup_append.1 h.nodup).2.1, fun b hb => h.ge b (List.mem_append_right _ hb)⟩
end Go.Proofs.Ytacajcjibhifmaa

namespace Go.Proofs.Ytacajcjibhifmaa
open Go
section
variable {α : Type} {mk : α → Int → α} {ct : α → Int}
end
end Go.Proofs.Ytacajcjibhifmaa

namespace Go.Proofs.Ytacajcjibhifmaa
open Go
/-- A filtered complex, as data. -/
structure Fl where
 c : Cx
 lv : List (List Int)
def RF (h : Heap) (v : Value) (X : Fl) : Prop := ∃ vd vm vl, v = .agg #[.int .i64 X.c.p, vd, vm, vl] ∧ R1 h vd X.c.dims ∧ R3 h vm X.c.maps ∧ R2 h vl X.lv
instance : Mono RF := ⟨fun hp ⟨vd, vm, vl, e, h1, h2, h3⟩ => ⟨vd, vm, vl, e, h1.pres hp, h2.pres hp, h3.pres hp⟩⟩
theorem RF.pres {h h' : Heap} {v : Value} {X : Fl} (hv : RF h v X) (hp : HPres h h') : RF h' v X := Mono.mono hp hv
structure HMF (X : Fl) : Prop where
 c : HMC X.c
 lv : HM2 X.lv
open Go.ChangeShapes Go.WideShapes Go.ChangeAt Go.RowKit Go.Joins
end Go.Proofs.Ytacajcjibhifmaa

namespace Go.Proofs.Ytacajcjibhifmaa
open Go
abbrev M3 := List (List (List Int))
def get3 (M : M3) (k r c : Nat) : Int := ((M.getD k default).getD r default).getD c 0
/-- How long a table of tables is, row by row. -/
structure Sh (L : Nat) (A B : Nat → Nat) (M : M3) : Prop where
 len : M.length = L
 rows : ∀ k, k < L → (M.getD k default).length = A k
 cols : ∀ k r, k < L → r < A k → ((M.getD k default).getD r default).length = B k
theorem Sh.ext {L : Nat} {A B : Nat → Nat} {M N : M3} (s : Sh L A B M) (t : Sh L A B N) (h : ∀ k r c, k < L → r < A k → c < B k → get3 M k r c = get3 N k r c) : M = N := by
 have g3 : ∀ {α : Type} [Inhabited α] {xs ys : List α}, xs.length = ys.length → (∀ i, i < xs.length → xs.getD i default = ys.getD i default) → xs = ys := by
  intro α _ xs ys hl hh
  apply List.ext_getElem hl
  intro i h1 h2
  have := hh i h1
  rwa [List.getD_eq_getElem?_getD, List.getD_eq_getElem?_getD, List.getElem?_eq_getElem h1, List.getElem?_eq_getElem h2] at this
 refine g3 (by rw [s.len, t.len]) (fun k hk => ?_)
 rw [s.len] at hk
 refine g3 (by rw [s.rows k hk, t.rows k hk]) (fun r hr => ?_)
 rw [s.rows k hk] at hr
 refine g3 (by rw [s.cols k r hk hr, t.cols k r hk hr]) (fun c hc => ?_)
 rw [s.cols k r hk hr] at hc
 exact h k r c hk hr hc
def In3 (p : Int) (L : Nat) (A B : Nat → Nat) (M : M3) : Prop := ∀ k r c, k < L → r < A k → c < B k → 0 ≤ get3 M k r c ∧ get3 M k r c < p
abbrev Upd := (Nat × Nat × Nat) × Int
-- the updates of all numbers of a complex's maps
abbrev UF := Nat → Nat → Nat → Int → List Upd
end Go.Proofs.Ytacajcjibhifmaa

namespace Go.Proofs.Ytacajcjibhifmaa
open Go
theorem getD_map_range {α : Type} [Inhabited α] (f : Nat → α) {n k : Nat} (h : k < n) : ((List.range n).map f).getD k default = f k := by
 rw [List.getD_eq_getElem?_getD, List.getElem?_eq_getElem (by simpa using h)]; simp
end Go.Proofs.Ytacajcjibhifmaa

namespace Go.Proofs.Ytacajcjibhifmaa
open Go
/-- A function that is called for each number updates a table of one's own. -/
structure ORel (p : Int) (h0 : Heap) (vw : Value) (fw : List Nat) (L : Nat) (A B : Nat → Nat) (Ot : Heap → Prop) (s : M3) (H : Heap) : Prop where
 o : O3 H vw s fw
 sh : Sh L A B s
 i3 : In3 p L A B s
 e : Ext h0 H
 ot : Ot H
section
variable {U : UF} {τ : Nat → Nat → Nat → Nat × Nat × Nat} {ω : Nat → Nat → Nat → Int → Int}
end
end Go.Proofs.Ytacajcjibhifmaa

namespace Go.Proofs.Ytacajcjibhifmaa
open Go
/-- A row times k, modulo p. -/
def sclRow (p k : Int) (r : List Int) : List Int := (List.range r.length).map fun q : Nat => (k * r.getD q 0) % p
def lessRow (p k : Int) (a b : List Int) : List Int := (List.range a.length).map fun q : Nat => (a.getD q 0 - k * b.getD q 0) % p
set_option maxRecDepth 100000 in
theorem sMod_ok (p : Int) (x : Int) (h : Heap)  (hp : 0 < p ∧ p ≤ 7) (hx : -1000000 ≤ x ∧ x ≤ 1000000) : CallA Try.prog 92 #[.int .i64 p, .int .i64 x] h fun v' h' => v' = .int .i64 (x % p) ∧ Ext h h' := by
 have htm := tmod_in (x := x) hp.1
 refine callA_intro TTok (args := [_, _]) Try.func92 (by kernel_rfl) rfl 12 rfl (by simp) [.tmp 4] rfl ?_
 simp only [idxs, Nat.reduceAdd]
 refine den_seq ?_
 refine den_region TTok ?_
 intro K hK
 simp -implicitDefEqProofs (disch := first | decide | assumption | omega) only [go_sem]
 refine hK _ _ ?_
 clear hK K
 refine den_seq ?_
 refine den_region TTok ?_
 intro K hK
 simp -implicitDefEqProofs (disch := first | decide | assumption | omega) only [go_sem, wrap_id]
 refine hK _ _ ?_
 clear hK K
 refine den_ret ?_
 simp (disch := decide) only [resP_1, puts_same]
 exact ⟨vint (mod_twice hp.1), (Ext.refl _)⟩

set_option maxRecDepth 100000 in
theorem iSign_ok (k : Int) (h : Heap)  (hk : -1000 ≤ k ∧ k ≤ 1000) : CallA Try.prog 44 #[.int .i64 k] h fun v' h' => v' = .int .i64 (1 - k.tmod 2 * 2) ∧ Ext h h' := by
 have htm := tmod_in (p := 2) (x := k) (by decide)
 refine callA_intro TTok (args := [_]) Try.func44 (by kernel_rfl) rfl 7 rfl (by simp) [.tmp 2] rfl ?_
 simp only [idxs]
 refine den_seq ?_
 refine den_region TTok ?_
 intro K hK
 simp -implicitDefEqProofs (disch := first | decide | assumption | omega) only [go_sem]
 refine hK _ _ ?_
 clear hK K
 refine den_seq ?_
 refine den_region TTok ?_
 intro K hK
 simp -implicitDefEqProofs (disch := first | decide | assumption | omega) only [go_sem, wrap_id]
 refine hK _ _ ?_
 clear hK K
 refine den_ret ?_
 simp (disch := decide) only [resP_1, puts_same]
 exact ⟨by first | rfl | trivial, (Ext.refl _)⟩
end Go.Proofs.Ytacajcjibhifmaa
