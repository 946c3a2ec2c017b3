/-
  The ground, second part: what one operation does to slots and heap, as a function ('stepV'), and the proof that the machine's operation does just that.
  Conditions: the table of types T fits the program (TOk).
-/
import Derived.Laws.BytesString
import Derived.Test.YtkdnnfkdgmblgaaG0
set_option linter.unusedVariables false
set_option linter.unusedSimpArgs false
namespace Go.Proofs.Ytkdnnfkdgmblgaa
open Go

structure TI where
  desc : TypeDesc
  size : Nat
  bytes : Nat
  zero : Value

def TOk (P : Program) (T : TypeId → Option TI) : Prop :=
  ∀ t i, T t = some i → P.underlying t = some i.desc ∧ ∃ f, P.info? t = some f ∧ f.size = i.size ∧ f.bytes = i.bytes ∧ f.zero = some i.zero

def hw (h : Heap) : World := { heap := h, tape := fun _ _ => 0, drawn := 0, os := default, output := #[] }
def hcell (h : Heap) (a : Addr) : Option Value := (hw h).cell? a
def hfrozen (h : Heap) (a : Addr) : Bool := (hw h).frozen? a
def hset (h : Heap) (a : Addr) (v : Value) : Heap := ((hw h).setCell a v).heap
theorem cell_hw (w : World) (a : Addr) : w.cell? a = hcell w.heap a := rfl
theorem frozen_hw (w : World) (a : Addr) : w.frozen? a = hfrozen w.heap a := rfl
theorem setCell_hw (w : World) (a : Addr) (v : Value) : w.setCell a v = { w with heap := hset w.heap a v } := rfl

def isAggD : TypeDesc → Bool
  | .struct _ | .array _ _ => true
  | _ => false

/-- n cells from a on. -/
def hcells (h : Heap) (a : Addr) : Nat → Nat → Option (List Value)
  | _, 0 => some []
  | i, n + 1 => (hcell h (a.add i)).bind fun v => (hcells h a (i + 1) n).map (v :: ·)
def hputs (a : Addr) : Heap → Nat → List Value → Option Heap
  | h, _, [] => some h
  | h, i, v :: r => if (hcell h (a.add i)).isSome = true ∧ hfrozen h (a.add i) = false ∧ v.oneCell' = true then hputs a (hset h (a.add i) v) (i + 1) r else none

theorem run_hcells {P : Program} (w : World) (a : Addr) : ∀ (n i : Nat) (cs : List Value) (acc : Array Value), hcells w.heap a i n = some cs → (loadCellsFrom a i n acc).run P w = .ok (acc ++ cs.toArray) w
  | 0, i, cs, acc, h => by
    simp [hcells] at h; subst h; simp [loadCellsFrom]
  | n + 1, i, cs, acc, h => by
    simp only [hcells, Option.bind_eq_some_iff, Option.map_eq_some_iff] at h
    obtain ⟨v, hv, r, hr, rfl⟩ := h
    simp only [loadCellsFrom, Sem.run_bind, run_load, cell_hw, hv, Result.andThen_ok]
    rw [run_hcells w a n (i + 1) r _ hr]
    simp

theorem run_hputs {P : Program} (a : Addr) : ∀ (vs : List Value) (i : Nat) (w : World) (h' : Heap), hputs a w.heap i vs = some h' → (storeCells a vs i).run P w = .ok () { w with heap := h' }
  | [], i, w, h', h => by
    simp [hputs] at h; subst h; simp [storeCells]
  | v :: r, i, w, h', h => by
    simp only [hputs] at h
    split at h
    · rename_i hc
      obtain ⟨h1, h2, h3⟩ := hc
      obtain ⟨u, hu⟩ := Option.isSome_iff_exists.1 h1
      have e1 : w.cell? (a.add i) = some u := hu
      have e2 : w.frozen? (a.add i) = false := h2
      simp only [storeCells, Sem.run_bind, store]
      have hs : (Sem.store .plain (a.add i) v (Sem.pure ())).run P w = .ok () (w.setCell (a.add i) v) := by
        cases v <;> simp [Value.oneCell'] at h3 <;> simp [Sem.run, e1, e2]
      rw [hs]
      simp only [Result.andThen_ok]
      rw [run_hputs a r (i + 1) (w.setCell (a.add i) v) h' h]
      rfl
    · cases h

abbrev Tab := TypeId → Option TI

def loadV (T : Tab) (h : Heap) (t : TypeId) (a : Addr) : Option Value :=
  (T t).bind fun i => if isAggD i.desc then (hcells h a 0 i.size).map fun cs => .agg cs.toArray else hcell h a
def storeV (T : Tab) (h : Heap) (t : TypeId) (a : Addr) (v : Value) : Option Heap :=
  (T t).bind fun i => if v.cells.size = i.size then hputs a h 0 v.cells.toList else none

section
variable {P : Program} {T : Tab} (hT : TOk P T)
include hT

theorem run_under {t : TypeId} {i : TI} (h : T t = some i) (w : World) : (underlying t).run P w = .ok i.desc w := run_underlying (hT t i h).1 w
theorem run_isAgg {t : TypeId} {i : TI} (h : T t = some i) (w : World) : (isAgg t).run P w = .ok (isAggD i.desc) w := by
  unfold isAgg
  simp only [Sem.run_bind, run_under hT h, Result.andThen_ok]
  cases i.desc <;> rfl
theorem run_sizeT {t : TypeId} {i : TI} (h : T t = some i) (w : World) : (sizeOf t).run P w = .ok i.size w := by
  obtain ⟨_, f, hf, h1, h2, h3⟩ := hT t i h
  simp [sizeOf, run_typeInfo _ hf, h1]
theorem run_zeroT {t : TypeId} {i : TI} (h : T t = some i) (w : World) : (zeroValue t).run P w = .ok i.zero w := by
  obtain ⟨_, f, hf, h1, h2, h3⟩ := hT t i h
  simp [zeroValue, run_typeInfo _ hf, h3]
theorem run_loadT {t : TypeId} {a : Addr} {v : Value} (w : World) (h : loadV T w.heap t a = some v) : (loadVar t a).run P w = .ok v w := by
  unfold loadV at h
  obtain ⟨i, hi, h⟩ := Option.bind_eq_some_iff.1 h
  unfold loadVar
  simp only [Sem.run_bind, run_isAgg hT hi, Result.andThen_ok]
  split at h
  · rename_i hg
    obtain ⟨cs, hc, rfl⟩ := Option.map_eq_some_iff.1 h
    simp only [hg, if_true, Sem.run_bind, run_sizeT hT hi, Result.andThen_ok, loadCells, run_hcells w a _ _ _ _ hc]
    simp
  · rename_i hg
    simp only [hg, if_false, Bool.false_eq_true, run_load, cell_hw, h]
theorem run_storeT {t : TypeId} {a : Addr} {v : Value} (w : World) {h' : Heap} (h : storeV T w.heap t a v = some h') : (storeVar t a v).run P w = .ok () { w with heap := h' } := by
  unfold storeV at h
  obtain ⟨i, hi, h⟩ := Option.bind_eq_some_iff.1 h
  split at h
  · rename_i hs
    unfold storeVar
    simp only [Sem.run_bind, run_sizeT hT hi, Result.andThen_ok, hs, ne_eq, not_true_eq_false, if_false, Sem.run_pure]
    exact run_hputs a _ 0 w h' h
  · cases h
end

/-! ### One operation -/
def asB : Value → Option Bool
  | .bool b => some b
  | _ => none
def asI : Value → Option (IntKind × Int)
  | .int k n => some (k, n)
  | _ => none
theorem asI_some {v : Value} {q : IntKind × Int} (h : asI v = some q) : v = .int q.1 q.2 := by
  cases v <;> simp [asI] at h
  subst h; rfl
def asAd : Value → Option Addr
  | .pointer (some a) => some a
  | _ => none

theorem asAd_some {v : Value} {a : Addr} (h : asAd v = some a) : v = .pointer (some a) := by
  cases v <;> simp [asAd] at h
  rename_i o
  cases o <;> simp [asAd] at h
  subst h; rfl
theorem asB_some {v : Value} {b : Bool} (h : asB v = some b) : v = .bool b := by
  cases v <;> simp [asB] at h
  subst h; rfl

def fieldsPl (T : Tab) (fs : Array Field) : Option (List (Nat × Nat)) := fs.toList.mapM fun f => (T f.type).map fun i => (f.offset, i.size)

def buildV (T : Tab) (t : TypeId) (parts : List (Nat × Value)) : Option Value :=
  (T t).bind fun i => match i.desc with
    | .struct fs => (fieldsPl T fs).bind fun pl => (Instr.fill (pl[·]?) i.zero.cells parts).map .agg
    | .array _ e => (T e).bind fun j => (Instr.fill (fun q => some (q * j.size, j.size)) i.zero.cells parts).map .agg
    | _ => none
def buildSliceV (T : Tab) (h : Heap) (t : TypeId) (len : Nat) (parts : List (Nat × Value)) : Option (Value × Heap) :=
  (T t).bind fun i => match i.desc with
    | .slice e => (T e).bind fun j =>
      if len * j.size ≤ 16777216 then
        (Instr.fill (fun q => some (q * j.size, j.size)) ((Array.range (len * j.size)).map (fun q => (if len * j.size = 0 then #[] else j.zero.cells)[q % (if len * j.size = 0 then #[] else j.zero.cells).size]!)) parts).map fun cs =>
          (.slice (some ⟨h.size, 0, none⟩) len len, h.push (.cells cs e))
      else none
    | _ => none
def makeSliceV (T : Tab) (h : Heap) (t : TypeId) (l c : Value) : Option (Value × Heap) :=
  (T t).bind fun i => match i.desc with
    | .slice e => (T e).bind fun j => (asI l).bind fun l => (asI c).bind fun c =>
        if 0 ≤ l.2 ∧ l.2 ≤ c.2 ∧ j.bytes * c.2 ≤ 281474976710656 ∧ c.2 ≤ 281474976710656 then
          some (.slice (some ⟨h.size, 0, none⟩) l.2.toNat c.2.toNat, h.push (.cells ((Array.range (c.2.toNat * j.size)).map fun q => (if c.2.toNat * j.size = 0 then #[] else j.zero.cells)[q % (if c.2.toNat * j.size = 0 then #[] else j.zero.cells).size]!) e))
        else none
    | _ => none
def intV (op : BinOp) (k : IntKind) (x y : Int) : Option Value :=
  match op with
  | .add => some (.int k (k.wrap (x + y)))
  | .sub => some (.int k (k.wrap (x - y)))
  | .mul => some (.int k (k.wrap (x * y)))
  | .quo => if y = 0 then none else some (.int k (k.wrap (x.tdiv y)))
  | .rem => if y = 0 then none else some (.int k (x.tmod y))
  | .eql => some (.bool (x == y))
  | .neq => some (.bool (x != y))
  | .lss => some (.bool (x < y))
  | .leq => some (.bool (x ≤ y))
  | .gtr => some (.bool (x > y))
  | .geq => some (.bool (x ≥ y))
  | _ => none
/-- The numbers of a value that is an array of numbers. -/
def intsV (k : IntKind) (cs : Array Value) : Option (List Int) := cs.toList.mapM fun v => match v with
  | .int k' a => if k' = k then some a else none
  | _ => none
/-- Strings: put together, compared. -/
def strV (op : BinOp) (a b : ByteArray) : Option Value := match op with
  | .add => if ((a.size + b.size : Nat) : Int) > IntKind.i64.max then none else some (.string (a ++ b))
  | .eql => some (.bool (a.toList == b.toList))
  | .neq => some (.bool (!(a.toList == b.toList)))
  | _ => none
def binV (T : Tab) (op : BinOp) (t : TypeId) (x y : Value) : Option Value :=
  match x, y with
  | .int k a, .int k' b => if k = k' then intV op k a b else none
  | .bool a, .bool b => (T t).bind fun i => match i.desc, op with
    | .bool, .eql => some (.bool (a == b))
    | .bool, .neq => some (.bool (!(a == b)))
    | _, _ => none
  | .slice a _ _, .slice b _ _ => (T t).bind fun i => match i.desc, op, a, b with
    | .slice _, .eql, none, b => some (.bool b.isNone)
    | .slice _, .neq, none, b => some (.bool (!b.isNone))
    | .slice _, .eql, some _, none => some (.bool false)
    | .slice _, .neq, some _, none => some (.bool true)
    | _, _, _, _ => none
  | .agg xs, .agg ys => (T t).bind fun i => match i.desc, op with
    | .array n e, .eql => (T e).bind fun j => match j.desc with
      | .int k => (intsV k xs).bind fun us => (intsV k ys).bind fun vs => if us.length = n ∧ vs.length = n ∧ j.size = 1 then some (.bool (us == vs)) else none
      | _ => none
    | .array n e, .neq => (T e).bind fun j => match j.desc with
      | .int k => (intsV k xs).bind fun us => (intsV k ys).bind fun vs => if us.length = n ∧ vs.length = n ∧ j.size = 1 then some (.bool (!(us == vs))) else none
      | _ => none
    | _, _ => none
  | .string a, .string b => strV op a b
  | _, _ => none
def unV (op : UnOp) (x : Value) : Option Value :=
  match op, x with
  | .neg, .int k n => some (.int k (k.wrap (0 - n)))
  | .not, .bool b => some (.bool !b)
  | _, _ => none
def bndV (v : Value) (y : Nat) : Option Nat :=
  match v with
  | .int _ i => if 0 ≤ i ∧ i ≤ y then some i.toNat else none
  | _ => none
def bndsV (len cap : Nat) (lo hi mx : Option Value) : Option (Nat × Nat × Nat) :=
  match mx with
  | some m => (bndV m cap).bind fun m => match hi with
    | some hv => (bndV hv m).bind fun hv => match lo with
      | some l => (bndV l hv).map fun l => (l, hv, m)
      | none => some (0, hv, m)
    | none => none
  | none => match hi with
    | some hv => (bndV hv cap).bind fun hv => match lo with
      | some l => (bndV l hv).map fun l => (l, hv, cap)
      | none => some (0, hv, cap)
    | none => match lo with
      | some l => (bndV l len).map fun l => (l, len, cap)
      | none => some (0, len, cap)
def sliceV (T : Tab) (t : TypeId) (x : Value) (lo hi mx : Option Value) : Option Value :=
  (T t).bind fun i => match i.desc, x with
    | .slice e, .slice a len cap => (T e).bind fun j => (bndsV len cap lo hi mx).map fun b =>
        .slice (if b.2.2 = b.1 then a else a.map (·.add (b.1 * j.size))) (b.2.1 - b.1) (b.2.2 - b.1)
    | .array n e, .pointer (some a) => (T e).bind fun j => (bndsV n n lo hi mx).map fun b =>
        .slice (some (if b.2.2 = b.1 then a else a.add (b.1 * j.size))) (b.2.1 - b.1) (b.2.2 - b.1)
    | _, _ => none
def idxAddrV (T : Tab) (t : TypeId) (x ix : Value) : Option Value :=
  (T t).bind fun i => (asI ix).bind fun q => match i.desc, x with
    | .slice e, .slice (some a) len _ => (T e).bind fun j => if 0 ≤ q.2 ∧ q.2 < len then some (.pointer (some (a.add (q.2.toNat * j.size)))) else none
    | .array len e, .pointer (some a) => (T e).bind fun j => if 0 ≤ q.2 ∧ q.2 < len then some (.pointer (some (a.add (q.2.toNat * j.size)))) else none
    | _, _ => none
def partV (T : Tab) (t : TypeId) (cs : Array Value) (off : Nat) : Option Value :=
  (T t).bind fun i => if isAggD i.desc then some (.agg (cs.extract off (off + i.size))) else cs[off]?
def fieldAddrV (T : Tab) (s : TypeId) (x : Value) (f : Nat) : Option Value :=
  (T s).bind fun i => match i.desc with
    | .struct fs => (fs[f]?).bind fun g => (T g.type).bind fun j => (asAd x).bind fun a => if j.size = 0 then none else some (.pointer (some (a.add g.offset)))
    | _ => none
def fieldV (T : Tab) (s : TypeId) (x : Value) (f : Nat) : Option Value :=
  (T s).bind fun i => match i.desc, x with
    | .struct fs, .agg cs => (fs[f]?).bind fun g => partV T g.type cs g.offset
    | _, _ => none
def indexV (T : Tab) (t : TypeId) (x ix : Value) : Option Value :=
  (T t).bind fun i => (asI ix).bind fun q => match i.desc, x with
    | .array len e, .agg cs => (T e).bind fun j => if 0 ≤ q.2 ∧ q.2 < len then partV T e cs (q.2.toNat * j.size) else none
    | _, _ => none
def lenV (T : Tab) (t : TypeId) (x : Value) : Option Value :=
  (T t).bind fun i => match i.desc, x with
    | .slice _, .slice _ n _ => some (.int .i64 n)
    | .string, .string s => some (.int .i64 s.size)
    | .array n _, _ => some (.int .i64 n)
    | _, _ => none

def capV (T : Tab) (t : TypeId) (x : Value) : Option Value :=
  (T t).bind fun i => match i.desc, x with
    | .slice _, .slice _ _ c => some (.int .i64 c)
    | _, _ => none
def nilOk : Value → Option Value
  | .pointer (some a) => some (.pointer (some a))
  | .func (.func f) a b => some (.func (.func f) a b)
  | _ => none
def convV (T : Tab) (s t : TypeId) (v : Value) : Option Value := (T s).bind fun _ => (T t).bind fun i => match i.desc, v with
    | .int k, .int _ n => some (.int k (k.wrap n))
    | _, _ => none
/-- The numbers of a slice of bytes. -/
def bytesV : List Value → Option (List Int)
  | [] => some []
  | .int .u8 n :: r => (bytesV r).map (n :: ·)
  | _ => none
theorem bytesV_map : ∀ (cs : List Value) (ns : List Int), bytesV cs = some ns → cs = ns.map (Value.int .u8)
  | [], ns, h => by simp only [bytesV, Option.some.injEq] at h; subst h; rfl
  | v :: r, ns, h => by
    unfold bytesV at h
    split at h
    · rename_i e; cases e
    · rename_i n r' e
      injection e with e1 e2
      subst e1; subst e2
      obtain ⟨ms, hm, rfl⟩ := Option.map_eq_some_iff.1 h
      rw [List.map_cons, ← bytesV_map _ _ hm]
    · cases h
def strOf (ns : List Int) : ByteArray := ns.foldl (fun r n => r.push (UInt8.ofNat n.toNat)) ByteArray.empty
def convH (T : Tab) (h : Heap) (s t : TypeId) (v : Value) : Option Value := match v with
  | .slice ao n _ => (T s).bind fun i => (T t).bind fun j => match i.desc, j.desc with
    | .slice e, .string => (T e).bind fun q => match q.desc with
      | .int .u8 => match ao with
        | none => some (.string (strOf []))
        | some a => (hcells h a 0 n).bind fun cs => (bytesV cs).map fun ns => .string (strOf ns)
      | _ => none
    | _, _ => none
  | v => convV T s t v
def tupV (v : Value) (i : Nat) : Option Value := match v with
  | .tuple vs => vs[i]?
  | _ => none
def stepV (T : Tab) (op : Op) (env : Env) (h : Heap) : Option (Value × Heap) :=
  match op with
  | .move x | .assign x => some (ev env x, h)
  | .pick c a b => (asB (ev env c)).map fun t => (if t then ev env a else ev env b, h)
  | .alloc e => (T e).map fun i => (.pointer (some ⟨h.size, 0, none⟩), h.push (.cells i.zero.cells e))
  | .box e x => some (.pointer (some ⟨h.size, 0, none⟩), h.push (.cells (ev env x).cells e))
  | .build t ps => (buildV T t (ps.map fun (i, x) => (i, ev env x)).toList).map (·, h)
  | .buildSlice t len ps => buildSliceV T h t len (ps.map fun (i, x) => (i, ev env x)).toList
  | .load t x => (asAd (ev env x)).bind fun a => (loadV T h t a).map (·, h)
  | .nilCheck x => (nilOk (ev env x)).map (·, h)
  | .binOp op t x y _ => (binV T op t (ev env x) (ev env y)).map (·, h)
  | .unOp op _ x => (unV op (ev env x)).map (·, h)
  | .convert s d x => (convH T h s d (ev env x)).map (·, h)
  | .makeFunc fn f c => some (.func fn (f.map (ev env)) (c.map (ev env)), h)
  | .makeSlice t l c => makeSliceV T h t (ev env l) (ev env c)
  | .slice t x lo hi mx => (sliceV T t (ev env x) (lo.map (ev env)) (hi.map (ev env)) (mx.map (ev env))).map (·, h)
  | .fieldAddr s x f => (fieldAddrV T s (ev env x) f).map (·, h)
  | .field s x f => (fieldV T s (ev env x) f).map (·, h)
  | .indexAddr t x i => (idxAddrV T t (ev env x) (ev env i)).map (·, h)
  | .index t x i => (indexV T t (ev env x) (ev env i)).map (·, h)
  | .extract x i => (tupV (ev env x) i).map (·, h)
  | _ => none
end Go.Proofs.Ytkdnnfkdgmblgaa
