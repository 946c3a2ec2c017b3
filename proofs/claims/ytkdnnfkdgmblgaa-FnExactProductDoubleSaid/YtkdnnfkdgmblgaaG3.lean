/-
  The ground, fourth part: operations, calls and regions (those that do not draw their order).
  Conditions: the table of types T fits the program (TOk).
-/
import Derived.Test.YtkdnnfkdgmblgaaG2
set_option linter.unusedVariables false
set_option linter.unusedSimpArgs false
namespace Go.Proofs.Ytkdnnfkdgmblgaa
open Go

/-- A call of function g. -/
def CallA (P : Program) (g : FuncId) (args : Array Value) (h : Heap) (R : Value → Heap → Prop) : Prop :=
  ∃ fn, P.funcs[g]? = some fn ∧ (fn.name == "runtime.NumGoroutine") = false ∧ fn.body.isNone = false ∧
    ∀ w, w.heap = h → Calls P g args w (fun e w' => ∃ v, e = .returned v ∧ Fr w w' ∧ R v w'.heap)
theorem CallA.mono {P : Program} {g : FuncId} {args : Array Value} {h : Heap} {R R' : Value → Heap → Prop} (hc : CallA P g args h R) (hr : ∀ v h, R v h → R' v h) : CallA P g args h R' := by
  obtain ⟨fn, h1, h2, h3, h4⟩ := hc
  exact ⟨fn, h1, h2, h3, fun w hw => (h4 w hw).mono fun e w' ⟨v, a, b, c⟩ => ⟨v, a, b, hr _ _ c⟩⟩

def dstB (n : Nat) : Option Nat → Bool
  | some d => decide (d < n)
  | none => true
theorem dstB_spec {n : Nat} {o : Option Nat} (h : dstB n o = true) : ∀ d, o = some d → d < n := by
  intro d e; subst e; simpa [dstB] using h

def outv (n : Nat) (o : Oper) (K : Env → Heap → Prop) (env : Env) (h : Heap) (v : Value) : Prop := dstB n o.dst = true ∧ K (putO env o.dst v) h

def minV : Value → Value → Option Value
  | .int k x, .int _ y => some (.int k (if y < x then y else x))
  | _, _ => none
def maxV : Value → Value → Option Value
  | .int k x, .int _ y => some (.int k (if y > x then y else x))
  | _, _ => none

/-- append(s, x): the new cells are 'new'. -/
def appendP (T : Tab) (e : TypeId) (j : TI) (base : Option Addr) (sLen sCap n : Nat) (new : List Value) (h : Heap) (K : Value → Heap → Prop) : Prop :=
  if sLen + n ≤ sCap then
    match base with
    | some a => match hputs (a.add (sLen * j.size)) h 0 new with
      | some h' => K (.slice base (sLen + n) sCap) h'
      | none => False
    | none => K (.slice base (sLen + n) sCap) h
  else (Builtin.nextslicecap (sLen + n) sCap * j.bytes ≤ 281474976710656 ∧ sLen + n ≤ 9223372036854775807) ∧
    ∃ old, (match base with | some a => hcells h a 0 (sLen * j.size) | none => some []) = some old ∧
      ∀ newCap, sLen + n ≤ newCap → newCap ≤ 9223372036854775807 → K (.slice (some ⟨h.size, 0, none⟩) (sLen + n) newCap) (h.push (.cells (old.toArray ++ new.toArray ++ Builtin.zeroCells j.zero.cells (newCap - (sLen + n))) e))

def sliceCells (h : Heap) (size n : Nat) : Value → Option (List Value)
  | .slice (some a) _ _ => hcells h a 0 (n * size)
  | .slice none _ _ => some []
  | _ => none

/-- Wait until an option, a test is known: simp looks at it alone. -/
def Bd {α : Type} (o : Option α) (F : α → Prop) : Prop := match o with
  | some a => F a
  | none => False
@[congr] theorem Bd_congr {α : Type} {o o' : Option α} {F : α → Prop} (h : o = o') : Bd o F = Bd o' F := by rw [h]
theorem Bd_some {α : Type} (a : α) (F : α → Prop) : Bd (some a) F = F a := rfl
theorem Bd_iff {α : Type} {o : Option α} {F : α → Prop} (h : Bd o F) : ∃ a, o = some a ∧ F a := by
  cases o with
  | none => exact h.elim
  | some a => exact ⟨a, rfl, h⟩
def Gd (c : Bool) (A B : Prop) : Prop := if c = true then A else B
@[congr] theorem Gd_congr {c c' : Bool} {A B : Prop} (h : c = c') : Gd c A B = Gd c' A B := by rw [h]
theorem Gd_t (A B : Prop) : Gd true A B = A := by simp [Gd]
theorem Gd_f (A B : Prop) : Gd false A B = B := by simp [Gd]
theorem Gd_split {c : Bool} {A B : Prop} (ht : c = true → A) (hf : c = false → B) : Gd c A B := by
  cases c
  · exact (Gd_f A B).symm ▸ hf rfl
  · exact (Gd_t A B).symm ▸ ht rfl

def asFn : Value → Option (FuncId × Array Value × Array Value)
  | .func (.func g) f c => some (g, f, c)
  | _ => none
def asSl : Value → Option (Option Addr × Nat × Nat)
  | .slice a n c => some (a, n, c)
  | _ => none
theorem asFn_some {v : Value} {q : FuncId × Array Value × Array Value} (h : asFn v = some q) : v = .func (.func q.1) q.2.1 q.2.2 := by
  unfold asFn at h
  split at h
  · simp only [Option.some.injEq] at h; subst h; rfl
  · cases h
theorem asSl_some {v : Value} {q : Option Addr × Nat × Nat} (h : asSl v = some q) : v = .slice q.1 q.2.1 q.2.2 := by
  unfold asSl at h
  split at h
  · simp only [Option.some.injEq] at h; subst h; rfl
  · cases h
def slE : TypeDesc → Option TypeId
  | .slice e => some e
  | _ => none
theorem slE_some {d : TypeDesc} {e : TypeId} (h : slE d = some e) : d = .slice e := by
  unfold slE at h
  split at h
  · simp only [Option.some.injEq] at h; subst h; rfl
  · cases h
/-- A slice type's element type, with what the table says of it. -/
def elT (T : Tab) (t : TypeId) : Option (TypeId × TI) := (T t).bind fun i => (slE i.desc).bind fun e => (T e).map fun j => (e, j)
theorem elT_some {T : Tab} {t e : TypeId} {j : TI} (h : elT T t = some (e, j)) : ∃ i, T t = some i ∧ i.desc = .slice e ∧ T e = some j := by
  unfold elT at h
  obtain ⟨i, hi, h⟩ := Option.bind_eq_some_iff.1 h
  obtain ⟨e', he, h⟩ := Option.bind_eq_some_iff.1 h
  obtain ⟨j', hj, h⟩ := Option.map_eq_some_iff.1 h
  simp only [Prod.mk.injEq] at h
  obtain ⟨rfl, rfl⟩ := h
  exact ⟨i, hi, slE_some he, hj⟩
/-- Is it a type of whole numbers, is it one of slices? -/
def isIntT (T : Tab) (t : TypeId) : Option Bool := (T t).bind fun i => match i.desc with
  | .int _ => some true
  | .slice _ => some false
  | _ => none

def opP (P : Program) (T : Tab) (n : Nat) (o : Oper) (K : Env → Heap → Prop) (env : Env) (h : Heap) : Prop :=
  match o.op with
  | .store t x y => Bd (asAd (ev env x)) fun a => Bd (storeV T h t a (ev env y)) fun h' => outv n o K env h' undef
  | .call c => match c.callee with
    | .value f => Bd (asFn (ev env f)) fun q => CallA P q.1 (q.2.1 ++ c.args.map (ev env) ++ q.2.2) h fun v h' => outv n o K env h' v
    | .builtin .len => Bd c.argTypes[0]? fun t => Bd c.args[0]? fun x => Bd (lenV T t (ev env x)) fun v => outv n o K env h v
    | .builtin .cap => Bd c.argTypes[0]? fun t => Bd c.args[0]? fun x => Bd (capV T t (ev env x)) fun v => outv n o K env h v
    | .builtin .min => match c.args.toList with
      | [x, y] => Bd (minV (ev env x) (ev env y)) fun v => outv n o K env h v
      | _ => False
    | .builtin .max => match c.args.toList with
      | [x, y] => Bd (maxV (ev env x) (ev env y)) fun v => outv n o K env h v
      | _ => False
    | .builtin .append => match c.args.toList, c.argTypes.toList with
      | [s, x], [ts, tx] => Bd (elT T ts) fun ej => Bd (asSl (ev env s)) fun q => Bd (isIntT T tx) fun z =>
        if z = true then Bd (asI (ev env x)) fun m => ej.2.zero.cells.size = ej.2.size ∧ 0 ≤ m.2 ∧ m.2 * ej.2.bytes ≤ 281474976710656 ∧ m.2 ≤ 281474976710656 ∧
          appendP T ej.1 ej.2 q.1 q.2.1 q.2.2 m.2.toNat (Builtin.zeroCells ej.2.zero.cells m.2.toNat).toList h fun v h' => outv n o K env h' v
        else Bd (asSl (ev env x)) fun qx => Bd (sliceCells h ej.2.size qx.2.1 (ev env x)) fun new => appendP T ej.1 ej.2 q.1 q.2.1 q.2.2 qx.2.1 new h fun v h' => outv n o K env h' v
      | _, _ => False
    | .builtin .copy => match c.args.toList, c.argTypes.toList with
      | [d, s], t :: _ => Bd (elT T t) fun ej => Bd (asSl (ev env d)) fun q => Bd (asSl (ev env s)) fun qs => Bd (sliceCells h ej.2.size (Nat.min qs.2.1 q.2.1) (ev env s)) fun cs =>
        match q.1 with
        | some a => Bd (hputs a h 0 cs) fun h' => outv n o K env h' (.int .i64 (Nat.min qs.2.1 q.2.1))
        | none => outv n o K env h (.int .i64 (Nat.min qs.2.1 q.2.1))
      | _, _ => False
    | _ => False
  | op => Bd (stepV T op env h) fun r => outv n o K env r.2 r.1

def guardB (all : Array Oper) (env : Env) : Option (Nat × Bool) → Bool
  | none => true
  | some (j, want) => match (all[j]?).bind (·.dst) with
    | some t => match env t with
      | .bool b => b == want
      | _ => false
    | none => false

def opsP (P : Program) (T : Tab) (n : Nat) (all : Array Oper) : List Oper → (Env → Heap → Prop) → Env → Heap → Prop
  | [], K, env, h => K env h
  | o :: r, K, env, h => Gd (guardB all env o.guard) (opP P T n o (opsP P T n all r K) env h) (outv n o (opsP P T n all r K) env h undef)

theorem eqGuard_arr {P : Program} {t e : TypeId} {n : Nat} {k : IntKind} (hu : P.underlying t = some (.array n e)) (he : P.underlying e = some (.int k)) : P.eqGuardType P.depth t = false := by
  unfold Program.depth
  rw [show 2 * (P.types.size + Made.depth) + 2 = 2 * (P.types.size + Made.depth) + 1 + 1 from rfl]
  simp [Program.eqGuardType, hu, he]
section
variable {P : Program} {T : Tab} {n : Nat} (hT : TOk P T)
include hT

theorem exec_stepV {o : Oper} {env : Env} {v : Value} {h' : Heap} (w : World) (h : stepV T o.op env w.heap = some (v, h')) : (execOp (ev env) o).run P w = .ok (.value v) { w with heap := h' } := by
  obtain ⟨dst, op, type, pos, after, guard⟩ := o
  dsimp only at h
  cases op <;> simp only [stepV, reduceCtorEq] at h
  case move x => simp only [Option.some.injEq, Prod.mk.injEq] at h; obtain ⟨rfl, rfl⟩ := h; rfl
  case assign x => simp only [Option.some.injEq, Prod.mk.injEq] at h; obtain ⟨rfl, rfl⟩ := h; rfl
  case pick c a b =>
    obtain ⟨t, ht, h⟩ := Option.map_eq_some_iff.1 h
    simp only [Prod.mk.injEq] at h; obtain ⟨rfl, rfl⟩ := h
    simp [execOp, asB_some ht, asBool]
  case alloc e =>
    obtain ⟨i, hi, h⟩ := Option.map_eq_some_iff.1 h
    simp only [Prod.mk.injEq] at h; obtain ⟨rfl, rfl⟩ := h
    simp [execOp, Instr.alloc, run_zeroT hT hi, newVar, newRow]
  case box e x =>
    simp only [Option.some.injEq, Prod.mk.injEq] at h; obtain ⟨rfl, rfl⟩ := h
    simp [execOp, Instr.box, newVar, newRow]
  case build t ps =>
    obtain ⟨u, hu, h⟩ := Option.map_eq_some_iff.1 h
    simp only [Prod.mk.injEq] at h; obtain ⟨rfl, rfl⟩ := h
    have := run_build hT w hu
    simp only [Array.toArray_toList] at this
    simp [execOp, this]
  case buildSlice t len ps =>
    have := run_buildSlice hT w h
    simp only [Array.toArray_toList] at this
    simp [execOp, this]
  case load t x =>
    obtain ⟨a, ha, h⟩ := Option.bind_eq_some_iff.1 h
    obtain ⟨u, hu, h⟩ := Option.map_eq_some_iff.1 h
    simp only [Prod.mk.injEq] at h; obtain ⟨rfl, rfl⟩ := h
    simp [execOp, Instr.loadAt, asAd_some ha, Instr.sureAddr, run_loadT hT w hu]
  case nilCheck x =>
    obtain ⟨u, hu, h⟩ := Option.map_eq_some_iff.1 h
    simp only [Prod.mk.injEq] at h; obtain ⟨rfl, rfl⟩ := h
    unfold nilOk at hu
    split at hu
    · rename_i a he
      simp only [Option.some.injEq] at hu; subst hu
      simp [execOp, he]
    · rename_i f a b he
      simp only [Option.some.injEq] at hu; subst hu
      simp [execOp, he]
    · cases hu
  case binOp op t x y yt =>
    obtain ⟨u, hu, h⟩ := Option.map_eq_some_iff.1 h
    simp only [Prod.mk.injEq] at h; obtain ⟨rfl, rfl⟩ := h
    have hg : (eqGuard op t x y (ev env x) (ev env y)).run P w = .ok () w := by
      unfold binV at hu
      unfold eqGuard
      split at hu
      · rename_i e1 e2; rw [e1, e2]; split <;> simp
      · rename_i e1 e2; rw [e1, e2]; split <;> simp
      · rename_i e1 e2; rw [e1, e2]; split <;> simp
      · rename_i e1 e2
        rw [e1, e2]
        obtain ⟨i, hi, h1⟩ := Option.bind_eq_some_iff.1 hu
        split at h1
        · rename_i n' e' hd
          obtain ⟨j, hj, h2⟩ := Option.bind_eq_some_iff.1 h1
          split at h2
          · rename_i k hk
            have := eqGuard_arr (hd ▸ (hT t i hi).1) (hk ▸ (hT _ j hj).1)
            simp [this]
          · cases h2
        · rename_i n' e' hd
          obtain ⟨j, hj, h2⟩ := Option.bind_eq_some_iff.1 h1
          split at h2
          · rename_i k hk
            have := eqGuard_arr (hd ▸ (hT t i hi).1) (hk ▸ (hT _ j hj).1)
            simp [this]
          · cases h2
        · cases h1
      · rename_i e1 e2; rw [e1, e2]; split <;> simp
      · cases hu
    simp [execOp, hg, run_binV hT w hu]
  case unOp op t x =>
    obtain ⟨u, hu, h⟩ := Option.map_eq_some_iff.1 h
    simp only [Prod.mk.injEq] at h; obtain ⟨rfl, rfl⟩ := h
    simp [execOp, run_unV w hu]
  case convert s d x =>
    obtain ⟨u, hu, h⟩ := Option.map_eq_some_iff.1 h
    simp only [Prod.mk.injEq] at h; obtain ⟨rfl, rfl⟩ := h
    unfold convH at hu
    split at hu
    · rename_i ao m c he
      obtain ⟨i0, hi0, hu⟩ := Option.bind_eq_some_iff.1 hu
      obtain ⟨j0, hj0, hu⟩ := Option.bind_eq_some_iff.1 hu
      split at hu
      · rename_i e hd1 hd2
        obtain ⟨q0, hq0, hu⟩ := Option.bind_eq_some_iff.1 hu
        split at hu
        · rename_i hd3
          have hcv : ∀ a, (Go.convert s d (.slice a m c)).run P w = (Conv.bytesToString (.slice a m c)).run P w := fun a => run_convert_bytes_string (P := P) w s d e a m c (by rw [← hd1]; exact (hT s i0 hi0).1) (by rw [← hd3]; exact (hT e q0 hq0).1) (by rw [← hd2]; exact (hT d j0 hj0).1)
          cases ao with
          | none =>
            simp only [Option.some.injEq] at hu
            subst hu
            simp [execOp, he, hcv, Conv.bytesToString, strOf]
          | some a =>
          obtain ⟨cs, hcs, hu⟩ := Option.bind_eq_some_iff.1 hu
          obtain ⟨ns, hns, hu⟩ := Option.map_eq_some_iff.1 hu
          subst hu
          have hl := run_hcells (P := P) w a m 0 cs #[] hcs
          have hb := bytesV_map cs ns hns
          have hrun := run_bytesToString (P := P) w a m c ns (by rw [loadCells, hl, hb]; simp)
          have hc := hcv (some a)
          simp [execOp, he, hc, hrun, strOf]
        · cases hu
      · cases hu
    · unfold convV at hu
      obtain ⟨i0, hi0, h⟩ := Option.bind_eq_some_iff.1 hu
      obtain ⟨i, hi, h⟩ := Option.bind_eq_some_iff.1 h
      split at h
      · rename_i k k' m hd he
        simp only [Option.some.injEq] at h; subst h
        have hc : (Go.convert s d (.int k' m)).run P w = .ok (.int k (k.wrap m)) w := by
          unfold Go.convert
          simp only [Sem.run_bind, run_under hT hi0, run_under hT hi, Result.andThen_ok, hd]
          simp [Conv.intToInt]
        simp [execOp, he, hc]
      · cases h
  case makeFunc fn f c => simp only [Option.some.injEq, Prod.mk.injEq] at h; obtain ⟨rfl, rfl⟩ := h; rfl
  case makeSlice t l c => simp [execOp, run_makeSlice hT w h]
  case slice t x lo hi mx =>
    obtain ⟨u, hu, h⟩ := Option.map_eq_some_iff.1 h
    simp only [Prod.mk.injEq] at h; obtain ⟨rfl, rfl⟩ := h
    simp [execOp, run_sliceV hT w hu]
  case fieldAddr s x f =>
    obtain ⟨u, hu, h⟩ := Option.map_eq_some_iff.1 h
    simp only [Prod.mk.injEq] at h; obtain ⟨rfl, rfl⟩ := h
    simp [execOp, run_fieldAddr hT w hu]
  case field s x f =>
    obtain ⟨u, hu, h⟩ := Option.map_eq_some_iff.1 h
    simp only [Prod.mk.injEq] at h; obtain ⟨rfl, rfl⟩ := h
    simp [execOp, run_fieldV hT w hu]
  case indexAddr t x ix =>
    obtain ⟨u, hu, h⟩ := Option.map_eq_some_iff.1 h
    simp only [Prod.mk.injEq] at h; obtain ⟨rfl, rfl⟩ := h
    simp [execOp, run_idxAddr hT w hu]
  case index t x ix =>
    obtain ⟨u, hu, h⟩ := Option.map_eq_some_iff.1 h
    simp only [Prod.mk.injEq] at h; obtain ⟨rfl, rfl⟩ := h
    simp [execOp, run_indexV hT w hu]
  case extract x i =>
    obtain ⟨u, hu, h⟩ := Option.map_eq_some_iff.1 h
    simp only [Prod.mk.injEq] at h; obtain ⟨rfl, rfl⟩ := h
    unfold tupV at hu
    split at hu
    · rename_i vs he
      simp [execOp, Instr.extract, he, hu]
    · cases hu

/-! ### Building blocks of an operation's rule -/
abbrev NoQ : Exit → Act → World → Prop := fun _ _ _ => False
omit hT in
theorem outv_next {o : Oper} {K : Env → Heap → Prop} {env : Env} {v : Value} {a : Act} {w w' : World} (ha : Agree n a env) (hf : Fr w w') (h : outv n o K env w'.heap v) : KA n w K (a.put o.dst v) w' :=
  ⟨putO env o.dst v, ha.putO (dstB_spec h.1) v, hf, h.2⟩
omit hT in
theorem wp_of_value {o : Oper} {K : Env → Heap → Prop} {env : Env} {v : Value} {a : Act} {w w' : World} {Q : Exit → Act → World → Prop} (ha : Agree n a env) (hf : Fr w w')
    (hr : (execOp (ev env) o).run P w = .ok (.value v) w') (h : outv n o K env w'.heap v) : o.wp P a w (KA n w K) Q := by
  unfold Oper.wp
  rw [ha.eval, hr]
  exact outv_next ha hf h
omit hT in
theorem fr_heap (w : World) (h' : Heap) : Fr w { w with heap := h' } := ⟨rfl, rfl, rfl⟩

omit hT in
theorem run_firstS (size m : Nat) {v : Value} {cs : List Value} (w : World) (h : sliceCells w.heap size m v = some cs) : (Builtin.firstCells size m v).run P w = .ok cs.toArray w := by
  unfold sliceCells at h
  split at h
  · rename_i a _ _
    simp only [Builtin.firstCells, loadCells, run_hcells w a _ _ _ _ h]
    simp
  · simp only [Option.some.injEq] at h; subst h; simp [Builtin.firstCells]
  · cases h

/-- The rest of an append behind its second operand's length. -/
def appTail (e : TypeId) (base : Option Addr) (sLen sCap n size : Nat) (zeros : Bool) (x : Value) : Sem Value := do
  let appended : Sem (Array Value) :=
    if !zeros then Builtin.firstCells size n x
    else if n * size = 0 then pure #[]
    else do pure (Builtin.zeroCells (← zeroValue e).cells n)
  let need := sLen + n
  if need ≤ sCap then
    let new ← appended
    if let some a := base then storeCells (a.add (sLen * size)) new.toList
    pure (.slice base need sCap)
  else
    if (need : Int) > IntKind.i64.max ∧ (zeros ∨ (← typeInfo e).bytes = 0) then runtimePanic (.error "growslice: len out of range")
    if Builtin.nextslicecap need sCap * (← typeInfo e).bytes > 2 ^ 48 then (if zeros then runtimePanic (.error "growslice: len out of range") else do
      if !(← Builtin.mayShare size sLen n base x) then mark .noRoom
      unsupported (.resourceLimit "append: a slice or a string whose bytes no memory bears"))
    let newCap ← choose (.appendCap need sCap e)
    askRoom (newCap * (← typeInfo e).bytes)
    let old ← Builtin.firstCells size sLen (.slice base sLen sCap)
    let new ← appended
    let rest := Builtin.zeroCells (← zeroValue e).cells (newCap - need)
    pure (.slice (some (← newRow e (old ++ new ++ rest))) need newCap)

theorem run_appTail {e : TypeId} {j : TI} (hj : T e = some j) {base : Option Addr} {sLen sCap m : Nat} {zeros : Bool} {x : Value} {new : List Value} {K : Value → Heap → Prop} (w : World)
    (hn : ∀ w', w'.heap = w.heap → (if (!zeros) = true then Builtin.firstCells j.size m x else if m * j.size = 0 then pure #[] else do pure (Builtin.zeroCells (← zeroValue e).cells m) : Sem (Array Value)).run P w' = .ok new.toArray w')
    (h : appendP T e j base sLen sCap m new w.heap K) : ∃ v w', (appTail e base sLen sCap m j.size zeros x).run P w = .ok v w' ∧ Fr w w' ∧ K v w'.heap := by
  obtain ⟨_, f, hf, e1, e2, e3⟩ := hT e j hj
  unfold appTail
  unfold appendP at h
  dsimp only
  split at h
  · rename_i hc
    simp only [hc, if_true, Sem.run_bind, hn w rfl, Result.andThen_ok]
    cases base with
    | none => exact ⟨_, _, rfl, Fr.refl w, h⟩
    | some a =>
      dsimp only at h ⊢
      split at h
      · rename_i h' hp
        simp only [Sem.run_bind, List.toList_toArray, run_hputs _ _ 0 w h' hp, Result.andThen_ok, Sem.run_pure]
        exact ⟨_, _, rfl, fr_heap w h', h⟩
      · cases h
  · rename_i hc
    obtain ⟨⟨h1, h1b⟩, old, hold, hk⟩ := h
    have hmax : IntKind.i64.max = 9223372036854775807 := rfl
    have c1 : ¬ (((sLen + m : Nat) : Int) > IntKind.i64.max ∧ (zeros = true ∨ f.bytes = 0)) := by rw [hmax]; omega
    have c2 : ¬ (Builtin.nextslicecap (sLen + m) sCap * f.bytes > 2 ^ 48) := by rw [e2]; omega
    have hfo : (Question.appendCap (sLen + m) sCap e).forced = false := rfl
    simp only [hc, if_false, Sem.run_bind, run_typeInfo _ hf, Result.andThen_ok, c1, c2, Sem.run_pure]
    have hch : ∀ w : World, (choose (.appendCap (sLen + m) sCap e)).run P w = .ok ((Question.appendCap (sLen + m) sCap e).cut (w.tape w.drawn (.appendCap (sLen + m) sCap e))) w.drew := by
      intro w
      rw [run_choose_drew, hfo]
      rfl
    have hold' : ∀ w' : World, w'.heap = w.heap → (Builtin.firstCells j.size sLen (.slice base sLen sCap)).run P w' = .ok old.toArray w' := by
      intro w' hw'
      apply run_firstS
      rw [hw']
      cases base with
      | none => exact hold
      | some a => exact hold
    simp only [hch, run_askRoom, Result.andThen_ok, hold' w.drew rfl, hn w.drew rfl, run_zeroT hT hj]
    generalize hcut : (Question.appendCap (sLen + m) sCap e).cut (w.tape w.drawn (.appendCap (sLen + m) sCap e)) = newCap
    have hge : sLen + m ≤ newCap := by
      rw [← hcut]
      simp only [Question.cut]
      omega
    have hle : newCap ≤ 9223372036854775807 := by
      rw [← hcut]
      simp only [Question.cut]
      have := Nat.mod_lt (w.tape w.drawn (.appendCap (sLen + m) sCap e)) (show 2 ^ 63 - (sLen + m) > 0 by omega)
      omega
    simp only [newRow, Sem.run_bind, run_newObj, Result.andThen_ok, Sem.run_pure]
    exact ⟨_, _, rfl, ⟨rfl, rfl, rfl⟩, hk newCap hge hle⟩

theorem run_append_sl {ts tx ty e e' : TypeId} {i ix j : TI} (hi : T ts = some i) (hd : i.desc = .slice e) (hix : T tx = some ix) (hdx : ix.desc = .slice e') (hj : T e = some j) {base xb : Option Addr} {sLen sCap xn xc : Nat} {new : List Value} {K : Value → Heap → Prop} (w : World)
    (hn : sliceCells w.heap j.size xn (.slice xb xn xc) = some new)
    (h : appendP T e j base sLen sCap xn new w.heap K) : ∃ v w', (Builtin.append_ #[ts, tx] ty #[.slice base sLen sCap, .slice xb xn xc]).run P w = .ok v w' ∧ Fr w w' ∧ K v w'.heap := by
  have := run_appTail hT hj (zeros := false) (x := .slice xb xn xc) w (fun w' hw' => by
    simp only [Bool.not_false, if_true]
    exact run_firstS _ _ w' (by rw [hw']; exact hn)) h
  obtain ⟨v, w', hr, hrest⟩ := this
  refine ⟨v, w', ?_, hrest⟩
  rw [← hr]
  unfold Builtin.append_ appTail
  simp only [Sem.run_bind, run_under hT hi, run_under hT hix, Result.andThen_ok, hd, hdx, run_sizeT hT hj, Sem.run_pure, List.getElem?_toArray, List.getElem?_cons_zero, List.getElem?_cons_succ, Builtin.lenOf, Bool.false_eq_true, if_false]
  rfl

theorem run_append_n {ts tx ty e : TypeId} {k kk : IntKind} {i ix j : TI} (hi : T ts = some i) (hd : i.desc = .slice e) (hix : T tx = some ix) (hdx : ix.desc = .int kk) (hj : T e = some j) {base : Option Addr} {sLen sCap : Nat} {m : Int} {K : Value → Heap → Prop} (w : World)
    (hzz : m.toNat * j.size = 0 → (Builtin.zeroCells j.zero.cells m.toNat).toList = []) (h0 : 0 ≤ m) (h1 : m * j.bytes ≤ 281474976710656) (h2 : m ≤ 281474976710656)
    (h : appendP T e j base sLen sCap m.toNat (Builtin.zeroCells j.zero.cells m.toNat).toList w.heap K) : ∃ v w', (Builtin.append_ #[ts, tx] ty #[.slice base sLen sCap, .int k m]).run P w = .ok v w' ∧ Fr w w' ∧ K v w'.heap := by
  obtain ⟨_, f, hf, e1, e2, e3⟩ := hT e j hj
  have := run_appTail hT hj (zeros := true) (x := .int k m) w (fun w' hw' => by
    simp only [Bool.not_true, Bool.false_eq_true, if_false]
    by_cases hz : m.toNat * j.size = 0
    · rw [if_pos hz]
      have : (Builtin.zeroCells j.zero.cells m.toNat).toList = [] := hzz hz
      rw [this]
      rfl
    · simp only [hz, if_false, Sem.run_bind, run_zeroT hT hj, Result.andThen_ok, Sem.run_pure]) h
  obtain ⟨v, w', hr, hrest⟩ := this
  refine ⟨v, w', ?_, hrest⟩
  rw [← hr]
  unfold Builtin.append_ appTail
  have w1 : IntKind.i64.wrap m = m := IntWalk.i64_in _ (by omega)
  have c1 : ¬ (m < 0) := by omega
  have c2 : ¬ (m * (f.bytes : Int) > 2 ^ 48) := by rw [e2]; omega
  simp only [Sem.run_bind, run_under hT hi, run_under hT hix, Result.andThen_ok, hd, hdx, run_sizeT hT hj, Sem.run_pure, List.getElem?_toArray, List.getElem?_cons_zero, List.getElem?_cons_succ, asInt, asIntOf, if_true, w1, c1, if_false, run_typeInfo _ hf, c2]
  rfl

theorem opP_sound {o : Oper} {K : Env → Heap → Prop} {env : Env} {a : Act} {w : World} {Q : Exit → Act → World → Prop} (ha : Agree n a env) (h : opP P T n o K env w.heap) : o.wp P a w (KA n w K) Q := by
  unfold opP at h
  split at h
  · -- store
    rename_i t x y ho
    obtain ⟨ad, had, h⟩ := Bd_iff h
    obtain ⟨h', hs, h⟩ := Bd_iff h
    unfold Oper.wp
    have hr : (execOp (ev env) o).run P w = .ok .skip { w with heap := h' } := by
      unfold execOp
      simp only [ho, Sem.run_bind, Instr.storeAt, asAd_some had, Instr.sureAddr, Sem.run_pure, Result.andThen_ok, run_storeT hT w hs]
    rw [ha.eval, hr]
    exact outv_next ha (fr_heap w h') h
  · -- call
    rename_i c ho
    split at h
    · rename_i f hc
      obtain ⟨⟨g, first, captured⟩, hf, h⟩ := Bd_iff h
      have hf := asFn_some hf
      dsimp only at hf h
      obtain ⟨fn, h1, h2, h3, h4⟩ := h
      unfold Oper.wp
      have hr : (execOp (ev env) o).run P w = .ok (.enter g (first ++ c.args.map (ev env) ++ captured)) w := by
        unfold execOp
        simp only [ho, resolve, hc, hf, Deferred.ofValue, Sem.run_bind, Sem.run_pure, Result.andThen_ok, invoke, callFunc, run_program, h1, h2, h3, Bool.false_eq_true, if_false]
      rw [ha.eval, hr]
      simp only [Oper.upon]
      refine (h4 w rfl).mono ?_
      rintro e w' ⟨v, rfl, hfr, hk⟩
      exact outv_next ha hfr hk
    · -- len
      rename_i hc
      obtain ⟨t, ht, h⟩ := Bd_iff h
      obtain ⟨x, hx, h⟩ := Bd_iff h
      obtain ⟨v, hv, h⟩ := Bd_iff h
      unfold lenV at hv
      obtain ⟨i, hi, hv⟩ := Option.bind_eq_some_iff.1 hv
      refine wp_of_value ha (Fr.refl w) (v := v) ?_ h
      unfold execOp
      simp only [ho, resolve, hc, Sem.run_bind, Sem.run_pure, Result.andThen_ok, invoke, builtin, Builtin.len_, ht, Array.getElem?_map, hx, Option.map_some, run_under hT hi]
      split at hv
      · rename_i hd he
        simp only [Option.some.injEq] at hv; subst hv
        simp [hd, he, goInt]
      · rename_i hd he
        simp only [Option.some.injEq] at hv; subst hv
        simp [hd, he, goInt]
      · rename_i hd
        simp only [Option.some.injEq] at hv; subst hv
        simp [hd, goInt]
      · cases hv
    · -- cap
      rename_i hc
      obtain ⟨t, ht, h⟩ := Bd_iff h
      obtain ⟨x, hx, h⟩ := Bd_iff h
      obtain ⟨v, hv, h⟩ := Bd_iff h
      unfold capV at hv
      obtain ⟨i, hi, hv⟩ := Option.bind_eq_some_iff.1 hv
      refine wp_of_value ha (Fr.refl w) (v := v) ?_ h
      unfold execOp
      simp only [ho, resolve, hc, Sem.run_bind, Sem.run_pure, Result.andThen_ok, invoke, builtin, Builtin.cap_, ht, Array.getElem?_map, hx, Option.map_some, run_under hT hi]
      split at hv
      · rename_i hd he
        simp only [Option.some.injEq] at hv; subst hv
        simp [hd, he, goInt]
      · cases hv
    · -- min
      rename_i hc
      split at h
      · rename_i x y hx
        obtain ⟨v, hv, h⟩ := Bd_iff h
        refine wp_of_value ha (Fr.refl w) (v := v) ?_ h
        have ec : c.args = #[x, y] := by rw [← hx]
        unfold execOp
        simp only [ho, resolve, hc, Sem.run_bind, Sem.run_pure, Result.andThen_ok, invoke, builtin, Builtin.min_, ec, List.map_toArray, List.map_cons, List.map_nil]
        unfold minV at hv
        split at hv
        · rename_i e1 e2
          simp only [Option.some.injEq] at hv; subst hv
          simp [e1, e2, Builtin.min2]
        · cases hv
      · cases h
    · -- max
      rename_i hc
      split at h
      · rename_i x y hx
        obtain ⟨v, hv, h⟩ := Bd_iff h
        refine wp_of_value ha (Fr.refl w) (v := v) ?_ h
        have ec : c.args = #[x, y] := by rw [← hx]
        unfold execOp
        simp only [ho, resolve, hc, Sem.run_bind, Sem.run_pure, Result.andThen_ok, invoke, builtin, Builtin.max_, ec, List.map_toArray, List.map_cons, List.map_nil]
        unfold maxV at hv
        split at hv
        · rename_i e1 e2
          simp only [Option.some.injEq] at hv; subst hv
          simp [e1, e2, Builtin.max2]
        · cases hv
      · cases h
    · -- append
      rename_i hc
      split at h
      · rename_i s x ts tx hx ht
        have ec : c.args = #[s, x] := by rw [← hx]
        have et : c.argTypes = #[ts, tx] := by rw [← ht]
        obtain ⟨⟨e, j⟩, hej, h⟩ := Bd_iff h
        obtain ⟨i, hi, hd, hj⟩ := elT_some hej
        obtain ⟨⟨base, sLen, sCap⟩, hs, h⟩ := Bd_iff h
        have hs := asSl_some hs
        obtain ⟨z, hz, h⟩ := Bd_iff h
        unfold isIntT at hz
        obtain ⟨ix, hix, hz⟩ := Option.bind_eq_some_iff.1 hz
        dsimp only at hs h
        have run : ∀ {v : Value} {w' : World}, (Builtin.append_ #[ts, tx] o.type #[ev env s, ev env x]).run P w = .ok v w' → (execOp (ev env) o).run P w = .ok (.value v) w' := by
          intro v w' hr
          unfold execOp
          simp only [ho, resolve, hc, Sem.run_bind, Sem.run_pure, Result.andThen_ok, invoke, builtin, ec, et, List.map_toArray, List.map_cons, List.map_nil, hr]
        split at hz
        · rename_i kk hdx
          simp only [Option.some.injEq] at hz
          subst hz
          simp only [if_true] at h
          obtain ⟨⟨k, m⟩, hm, h⟩ := Bd_iff h
          have hm := asI_some hm
          dsimp only at hm h
          obtain ⟨hz, h0, h1, h2, hap⟩ := h
          obtain ⟨v, w', hr, hf, hk⟩ := run_append_n hT (ty := o.type) (k := k) hi hd hix hdx hj w (fun h => by simp [Builtin.zeroCells, hz, h]) h0 h1 h2 hap
          rw [← hs, ← hm] at hr
          exact wp_of_value ha hf (run hr) hk
        · rename_i e' hdx
          simp only [Option.some.injEq] at hz
          subst hz
          simp only [if_false, Bool.false_eq_true] at h
          obtain ⟨⟨xb, xn, xc⟩, hxv, h⟩ := Bd_iff h
          have hxv := asSl_some hxv
          dsimp only at hxv h
          obtain ⟨new, hn, hap⟩ := Bd_iff h
          rw [hxv] at hn
          obtain ⟨v, w', hr, hf, hk⟩ := run_append_sl hT (ty := o.type) hi hd hix hdx hj w hn hap
          rw [← hs, ← hxv] at hr
          exact wp_of_value ha hf (run hr) hk
        · cases hz
      · cases h
    · -- copy
      rename_i hc
      split at h
      · rename_i d s t rest hx ht
        have ec : c.args = #[d, s] := by rw [← hx]
        have et : c.argTypes[0]? = some t := by rw [← Array.getElem?_toList, ht]; rfl
        obtain ⟨⟨e, j⟩, hej, h⟩ := Bd_iff h
        obtain ⟨i, hi, hd, hj⟩ := elT_some hej
        obtain ⟨⟨base, dLen, dc⟩, hdv, h⟩ := Bd_iff h
        have hdv := asSl_some hdv
        obtain ⟨⟨sb, sn, sc⟩, hsv, h⟩ := Bd_iff h
        have hsv := asSl_some hsv
        obtain ⟨cs, hcs, h⟩ := Bd_iff h
        dsimp only at hdv hsv hcs h
        rw [hsv] at hcs
        have run : ∀ {w' : World}, (match base with | some a => storeCells a cs | none => pure () : Sem Unit).run P w = .ok () w' → (execOp (ev env) o).run P w = .ok (.value (.int .i64 (Nat.min sn dLen))) w' := by
          intro w' hr
          unfold execOp
          simp only [ho, resolve, hc, Sem.run_bind, Sem.run_pure, Result.andThen_ok, invoke, builtin, ec, List.map_toArray, List.map_cons, List.map_nil, Builtin.copy_, et, hdv, hsv, List.getElem?_toArray, List.getElem?_cons_zero, List.getElem?_cons_succ, run_under hT hi, hd, Builtin.lenOf, run_sizeT hT hj, run_firstS _ _ w hcs, goInt]
          cases base with
          | none =>
            simp only [Sem.run_pure, Result.ok.injEq] at hr
            rw [← hr.2]
            rfl
          | some a =>
            dsimp only at hr ⊢
            simp only [Sem.run_bind, hr, Result.andThen_ok, Sem.run_pure]
        cases base with
        | none => exact wp_of_value ha (Fr.refl w) (run rfl) h
        | some a =>
          dsimp only at h
          obtain ⟨h', hp, h⟩ := Bd_iff h
          exact wp_of_value ha (fr_heap w h') (run (run_hputs a cs 0 w h' hp)) h
      · cases h
    · cases h
  · obtain ⟨r, hr, h⟩ := Bd_iff h
    exact wp_of_value ha (fr_heap w _) (exec_stepV hT w (v := r.1) (h' := r.2) hr) h

omit hT in
theorem wanted_guard {ops : Array Oper} {env : Env} {a : Act} (ha : Agree n a env) (o : Oper) : Region.wanted o (yielded ops a.tmps) = guardB ops env o.guard := by
  unfold Region.wanted guardB
  cases o.guard with
  | none => rfl
  | some g =>
    obtain ⟨j, want⟩ := g
    simp only [yielded]
    cases hd : (ops[j]?).bind (·.dst) with
    | none => rfl
    | some t =>
      have ht := ha.at_ t
      simp only [Option.bind_some]
      have : a.tmps[t]? = some (env t) ∨ (a.tmps[t]? = none ∧ env t = undef) := by
        rw [Array.getD_eq_getD_getElem?] at ht
        cases hq : a.tmps[t]? with
        | none => right; rw [hq] at ht; exact ⟨rfl, ht.symm⟩
        | some v => left; rw [hq] at ht; simpa using ht
      rcases this with e | ⟨e, e2⟩
      · rw [e]
        cases env t <;> simp
      · rw [e, e2]
        simp [undef]

theorem ops_sound {ops : Array Oper} {Q : Exit → Env → Heap → Prop} {w0 : World} : ∀ (l : List Oper) (i : Nat), ops.toList.drop i = l → ∀ (env : Env) (a : Act) (w : World), Agree n a env → Fr w0 w →
    opsP P T n ops l (Q .normal) env w.heap → wpOps P ops (KQ n w0 Q) (List.range' i l.length) a w
  | [], i, hl, env, a, w, ha, hf, h => ⟨env, ha, hf, h⟩
  | o :: r, i, hl, env, a, w, ha, hf, h => by
    have hlt : i < ops.toList.length := by
      rcases Nat.lt_or_ge i ops.toList.length with h' | h'
      · exact h'
      · rw [List.drop_of_length_le h'] at hl; cases hl
    have hcons := List.drop_eq_getElem_cons hlt
    rw [hl] at hcons
    injection hcons with ho hr
    have hoi : ops[i]? = some o := by
      rw [← Array.getElem?_toList, List.getElem?_eq_getElem hlt, ← ho]
    simp only [List.length_cons, List.range'_succ, wpOps, hoi, wanted_guard ha]
    simp only [opsP] at h
    have step : ∀ a' w', KA n w (opsP P T n ops r (Q .normal)) a' w' → wpOps P ops (KQ n w0 Q) (List.range' (i + 1) r.length) a' w' := by
      rintro a' w' ⟨env', ha', hf', hk⟩
      exact ops_sound r (i + 1) hr.symm env' a' w' ha' (hf.trans hf') hk
    unfold Gd at h
    split at h
    · rename_i hg
      simp only [hg, if_true]
      exact .inl (Oper.wp_mono step (opP_sound hT ha h))
    · rename_i hg
      simp only [hg]
      exact step _ _ (outv_next ha (Fr.refl w) h)

theorem den_region {id : Nat} {ops : Array Oper} {Qr : Env → Heap → Prop} {k : List It} {env : Env} {h : Heap}
    (hh : ∀ K : Env → Heap → Prop, (∀ env h, den P n Qr k env h → K env h) → opsP P T n ops ops.toList K env h) : den P n Qr (.code (.region id ops false) :: k) env h := by
  refine den_code ?_
  intro a w ha e
  subst e
  refine wp_region ?_
  have := ops_sound hT (Q := denQ P n Qr k) (w0 := w) ops.toList 0 rfl env a w ha (Fr.refl w) (hh _ (fun _ _ h => h))
  rw [List.range_eq_range']
  rwa [Array.length_toList] at this
end
end Go.Proofs.Ytkdnnfkdgmblgaa
