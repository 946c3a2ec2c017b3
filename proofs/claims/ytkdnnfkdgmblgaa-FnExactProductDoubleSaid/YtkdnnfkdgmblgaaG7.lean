/-
  The ground, eighth part: which of its words the walk computes, an equation each.
  Conditions: none.
-/
import Derived.Test.YtkdnnfkdgmblgaaTy
set_option linter.unusedVariables false
set_option linter.unusedSimpArgs false
namespace Go.Proofs.Ytkdnnfkdgmblgaa
open Go

section
variable {P : Program} {T : Tab} {n : Nat} {all : Array Oper} {K : Env → Heap → Prop} {env : Env} {h : Heap} {r : List Oper} {d : Option Tmp} {ty : TypeId} {p : String} {a : Array Edge} {g : Option (Nat × Bool)} {op : Op}
@[congr] theorem opsP_congr {l : List Oper} {h' : Heap} (e : h = h') : opsP P T n all l K env h = opsP P T n all l K env h' := by rw [e]
@[congr] theorem opP_congr {o : Oper} {h' : Heap} (e : h = h') : opP P T n o K env h = opP P T n o K env h' := by rw [e]
@[congr] theorem outv_congr {o : Oper} {h' : Heap} {v v' : Value} (e : h = h') (e' : v = v') : outv n o K env h v = outv n o K env h' v' := by rw [e, e']
@[congr] theorem plansP_congr {ds : List Nat} {l : List (Nat × Bool)} {h' : Heap} (e : h = h') : plansP P T n all ds l K env h = plansP P T n all ds l K env h' := by rw [e]
@[congr] theorem CallA_congr {f : FuncId} {args args' : Array Value} {R : Value → Heap → Prop} (e : args = args') : CallA P f args h R = CallA P f args' h R := by rw [e]
@[congr] theorem appendP_congr {e : TypeId} {j : TI} {base : Option Addr} {sLen sCap m : Nat} {new new' : List Value} {K : Value → Heap → Prop} (q : new = new') : appendP T e j base sLen sCap m new h K = appendP T e j base sLen sCap m new' h K := by rw [q]

theorem opsP_nil : opsP P T n all [] K env h = K env h := rfl
theorem opsP_none : opsP P T n all (⟨d, op, ty, p, a, none⟩ :: r) K env h = opP P T n ⟨d, op, ty, p, a, none⟩ (opsP P T n all r K) env h := Gd_t _ _
def gv (w : Bool) : Option Value → Bool
  | some (.bool b) => b == w
  | _ => false
theorem gv_bool (w b : Bool) : gv w (some (.bool b)) = (b == w) := rfl
theorem gv_undef (w : Bool) : gv w (some undef) = false := rfl
def opAt (all : Array Oper) (i : Nat) : Option Oper := all[i]?
@[congr] theorem opAt_congr {j : Nat} : opAt all j = opAt all j := rfl
/-- The slot of operation j. -/
def slotOf (all : Array Oper) (j : Nat) : Option Nat := (all[j]?).bind (·.dst)
@[congr] theorem slotOf_congr {j : Nat} : slotOf all j = slotOf all j := rfl
theorem guardB_gv {j : Nat} {w : Bool} : guardB all env (some (j, w)) = gv w ((slotOf all j).map env) := by
  unfold guardB gv slotOf
  dsimp only
  generalize (all[j]?).bind (fun x => x.dst) = o
  cases o with
  | none => rfl
  | some t =>
    simp only [Option.map_some]
    cases env t <;> rfl
theorem slotOf_zero {o : Oper} {l : List Oper} : slotOf (List.toArray (o :: l)) 0 = o.dst := by simp [slotOf]
theorem slotOf_succ {o : Oper} {l : List Oper} {j : Nat} : slotOf (List.toArray (o :: l)) (j + 1) = slotOf (List.toArray l) j := by simp [slotOf]
theorem opsP_some {j : Nat} {w : Bool} : opsP P T n all (⟨d, op, ty, p, a, some (j, w)⟩ :: r) K env h = Gd (gv w ((slotOf all j).map env)) (opP P T n ⟨d, op, ty, p, a, some (j, w)⟩ (opsP P T n all r K) env h) (outv n ⟨d, op, ty, p, a, some (j, w)⟩ (opsP P T n all r K) env h undef) := by
  rw [← guardB_gv]; rfl
theorem opsP_gt {j : Nat} {w : Bool} (hg : gv w ((slotOf all j).map env) = true) : opsP P T n all (⟨d, op, ty, p, a, some (j, w)⟩ :: r) K env h = opP P T n ⟨d, op, ty, p, a, some (j, w)⟩ (opsP P T n all r K) env h := by rw [opsP_some, hg, Gd_t]
theorem opsP_gf {j : Nat} {w : Bool} (hg : gv w ((slotOf all j).map env) = false) : opsP P T n all (⟨d, op, ty, p, a, some (j, w)⟩ :: r) K env h = outv n ⟨d, op, ty, p, a, some (j, w)⟩ (opsP P T n all r K) env h undef := by rw [opsP_some, hg, Gd_f]
theorem opsP_T {j : Nat} {b : Bool} (hb : (slotOf all j).map env = some (.bool b)) (h1 : b = true → opP P T n ⟨d, op, ty, p, a, some (j, true)⟩ (opsP P T n all r K) env h) (h2 : b = false → outv n ⟨d, op, ty, p, a, some (j, true)⟩ (opsP P T n all r K) env h undef) :
    opsP P T n all (⟨d, op, ty, p, a, some (j, true)⟩ :: r) K env h := by
  rw [opsP_some, hb, gv_bool]
  cases b
  · exact (Gd_f _ _).symm ▸ h2 rfl
  · exact (Gd_t _ _).symm ▸ h1 rfl
theorem opsP_F {j : Nat} {b : Bool} (hb : (slotOf all j).map env = some (.bool b)) (h1 : b = false → opP P T n ⟨d, op, ty, p, a, some (j, false)⟩ (opsP P T n all r K) env h) (h2 : b = true → outv n ⟨d, op, ty, p, a, some (j, false)⟩ (opsP P T n all r K) env h undef) :
    opsP P T n all (⟨d, op, ty, p, a, some (j, false)⟩ :: r) K env h := by
  rw [opsP_some, hb, gv_bool]
  cases b
  · exact (Gd_t _ _).symm ▸ h1 rfl
  · exact (Gd_f _ _).symm ▸ h2 rfl
theorem outv_some {t : Nat} {v : Value} (ht : Nat.blt t n = true) : outv n ⟨some t, op, ty, p, a, g⟩ K env h v = K (put env t v) h := by
  have : t < n := by rw [Nat.blt_eq] at ht; exact ht
  simp [outv, dstB, putO, this]
theorem outv_none {v : Value} : outv n ⟨none, op, ty, p, a, g⟩ K env h v = K env h := by simp [outv, dstB, putO]

theorem ev_tmp {t : Nat} : ev env (.tmp t) = env t := rfl
theorem ev_const {v : Value} : ev env (.const v) = v := rfl
theorem ev_func {f : Nat} : ev env (.func f) = .func (.func f) #[] #[] := rfl

theorem opP_move {x : Operand} : opP P T n ⟨d, .move x, ty, p, a, g⟩ K env h = outv n ⟨d, .move x, ty, p, a, g⟩ K env h (ev env x) := rfl
theorem opP_assign {x : Operand} : opP P T n ⟨d, .assign x, ty, p, a, g⟩ K env h = outv n ⟨d, .assign x, ty, p, a, g⟩ K env h (ev env x) := rfl
theorem opP_pick {c x y : Operand} : opP P T n ⟨d, .pick c x y, ty, p, a, g⟩ K env h = Bd (asB (ev env c)) fun t => outv n ⟨d, .pick c x y, ty, p, a, g⟩ K env h (if t = true then ev env x else ev env y) := by
  simp only [opP, stepV]
  cases asB (ev env c) <;> rfl
theorem opP_alloc {e : TypeId} : opP P T n ⟨d, .alloc e, ty, p, a, g⟩ K env h = Bd (T e) fun i => outv n ⟨d, .alloc e, ty, p, a, g⟩ K env (h.push (.cells i.zero.cells e)) (.pointer (some ⟨h.size, 0, none⟩)) := by
  simp only [opP, stepV]
  cases T e <;> rfl
theorem opP_box {e : TypeId} {x : Operand} : opP P T n ⟨d, .box e x, ty, p, a, g⟩ K env h = outv n ⟨d, .box e x, ty, p, a, g⟩ K env (h.push (.cells (ev env x).cells e)) (.pointer (some ⟨h.size, 0, none⟩)) := rfl
theorem opP_build {t : TypeId} {ps : Array (Nat × Operand)} : opP P T n ⟨d, .build t ps, ty, p, a, g⟩ K env h = Bd (buildV T t (ps.map fun (i, x) => (i, ev env x)).toList) fun v => outv n ⟨d, .build t ps, ty, p, a, g⟩ K env h v := by
  simp only [opP, stepV]
  cases (buildV T t (ps.map fun (i, x) => (i, ev env x)).toList) <;> rfl
theorem opP_buildSlice {t : TypeId} {len : Nat} {ps : Array (Nat × Operand)} : opP P T n ⟨d, .buildSlice t len ps, ty, p, a, g⟩ K env h = Bd (buildSliceV T h t len (ps.map fun (i, x) => (i, ev env x)).toList) fun r => outv n ⟨d, .buildSlice t len ps, ty, p, a, g⟩ K env r.2 r.1 := rfl
theorem opP_load {t : TypeId} {x : Operand} : opP P T n ⟨d, .load t x, ty, p, a, g⟩ K env h = Bd (asAd (ev env x)) fun ad => Bd (loadV T h t ad) fun v => outv n ⟨d, .load t x, ty, p, a, g⟩ K env h v := by
  simp only [opP, stepV]
  cases asAd (ev env x) with
  | none => rfl
  | some ad =>
    simp only [Option.bind_some, Bd_some]
    cases loadV T h t ad <;> rfl
theorem opP_store {t : TypeId} {x y : Operand} : opP P T n ⟨d, .store t x y, ty, p, a, g⟩ K env h = Bd (asAd (ev env x)) fun ad => Bd (storeV T h t ad (ev env y)) fun h' => outv n ⟨d, .store t x y, ty, p, a, g⟩ K env h' undef := rfl
theorem nilOk_ptr {ad : Addr} : nilOk (.pointer (some ad)) = some (.pointer (some ad)) := rfl
theorem nilOk_fn {f : Nat} {x y : Array Value} : nilOk (.func (.func f) x y) = some (.func (.func f) x y) := rfl
theorem opP_nilCheck {x : Operand} : opP P T n ⟨d, .nilCheck x, ty, p, a, g⟩ K env h = Bd (nilOk (ev env x)) fun v => outv n ⟨d, .nilCheck x, ty, p, a, g⟩ K env h v := by
  simp only [opP, stepV]
  cases nilOk (ev env x) <;> rfl
theorem opP_binOp {b : BinOp} {t t' : TypeId} {x y : Operand} : opP P T n ⟨d, .binOp b t x y t', ty, p, a, g⟩ K env h = Bd (binV T b t (ev env x) (ev env y)) fun v => outv n ⟨d, .binOp b t x y t', ty, p, a, g⟩ K env h v := by
  simp only [opP, stepV]
  cases binV T b t (ev env x) (ev env y) <;> rfl
theorem opP_unOp {b : UnOp} {t : TypeId} {x : Operand} : opP P T n ⟨d, .unOp b t x, ty, p, a, g⟩ K env h = Bd (unV b (ev env x)) fun v => outv n ⟨d, .unOp b t x, ty, p, a, g⟩ K env h v := by
  simp only [opP, stepV]
  cases unV b (ev env x) <;> rfl
theorem opP_convert {s t : TypeId} {x : Operand} : opP P T n ⟨d, .convert s t x, ty, p, a, g⟩ K env h = Bd (convH T h s t (ev env x)) fun v => outv n ⟨d, .convert s t x, ty, p, a, g⟩ K env h v := by
  simp only [opP, stepV]
  cases convH T h s t (ev env x) <;> rfl
theorem opP_makeFunc {f : Fn} {x y : Array Operand} : opP P T n ⟨d, .makeFunc f x y, ty, p, a, g⟩ K env h = outv n ⟨d, .makeFunc f x y, ty, p, a, g⟩ K env h (.func f (x.map (ev env)) (y.map (ev env))) := rfl
theorem opP_makeSlice {t : TypeId} {x y : Operand} : opP P T n ⟨d, .makeSlice t x y, ty, p, a, g⟩ K env h = Bd (makeSliceV T h t (ev env x) (ev env y)) fun r => outv n ⟨d, .makeSlice t x y, ty, p, a, g⟩ K env r.2 r.1 := rfl
theorem opP_slice {t : TypeId} {x : Operand} {lo hi mx : Option Operand} : opP P T n ⟨d, .slice t x lo hi mx, ty, p, a, g⟩ K env h = Bd (sliceV T t (ev env x) (lo.map (ev env)) (hi.map (ev env)) (mx.map (ev env))) fun v => outv n ⟨d, .slice t x lo hi mx, ty, p, a, g⟩ K env h v := by
  simp only [opP, stepV]
  cases sliceV T t (ev env x) (lo.map (ev env)) (hi.map (ev env)) (mx.map (ev env)) <;> rfl
theorem opP_fieldAddr {s : TypeId} {x : Operand} {f : Nat} : opP P T n ⟨d, .fieldAddr s x f, ty, p, a, g⟩ K env h = Bd (fieldAddrV T s (ev env x) f) fun v => outv n ⟨d, .fieldAddr s x f, ty, p, a, g⟩ K env h v := by
  simp only [opP, stepV]
  cases fieldAddrV T s (ev env x) f <;> rfl
theorem opP_field {s : TypeId} {x : Operand} {f : Nat} : opP P T n ⟨d, .field s x f, ty, p, a, g⟩ K env h = Bd (fieldV T s (ev env x) f) fun v => outv n ⟨d, .field s x f, ty, p, a, g⟩ K env h v := by
  simp only [opP, stepV]
  cases fieldV T s (ev env x) f <;> rfl
theorem opP_indexAddr {t : TypeId} {x i : Operand} : opP P T n ⟨d, .indexAddr t x i, ty, p, a, g⟩ K env h = Bd (idxAddrV T t (ev env x) (ev env i)) fun v => outv n ⟨d, .indexAddr t x i, ty, p, a, g⟩ K env h v := by
  simp only [opP, stepV]
  cases idxAddrV T t (ev env x) (ev env i) <;> rfl
theorem opP_index {t : TypeId} {x i : Operand} : opP P T n ⟨d, .index t x i, ty, p, a, g⟩ K env h = Bd (indexV T t (ev env x) (ev env i)) fun v => outv n ⟨d, .index t x i, ty, p, a, g⟩ K env h v := by
  simp only [opP, stepV]
  cases indexV T t (ev env x) (ev env i) <;> rfl
theorem tupV_tuple {vs : Array Value} {i : Nat} : tupV (.tuple vs) i = vs[i]? := rfl
theorem opP_extract {x : Operand} {i : Nat} : opP P T n ⟨d, .extract x i, ty, p, a, g⟩ K env h = Bd (tupV (ev env x) i) fun v => outv n ⟨d, .extract x i, ty, p, a, g⟩ K env h v := by
  simp only [opP, stepV]
  cases tupV (ev env x) i <;> rfl
theorem opP_len {x : Operand} {t : TypeId} : opP P T n ⟨d, .call { callee := .builtin .len, args := #[x], argTypes := #[t] }, ty, p, a, g⟩ K env h = Bd (lenV T t (ev env x)) fun v => outv n ⟨d, .call { callee := .builtin .len, args := #[x], argTypes := #[t] }, ty, p, a, g⟩ K env h v := rfl
theorem opP_cap {x : Operand} {t : TypeId} : opP P T n ⟨d, .call { callee := .builtin .cap, args := #[x], argTypes := #[t] }, ty, p, a, g⟩ K env h = Bd (capV T t (ev env x)) fun v => outv n ⟨d, .call { callee := .builtin .cap, args := #[x], argTypes := #[t] }, ty, p, a, g⟩ K env h v := rfl
theorem opP_min {x y : Operand} {ts : Array TypeId} : opP P T n ⟨d, .call { callee := .builtin .min, args := #[x, y], argTypes := ts }, ty, p, a, g⟩ K env h = Bd (minV (ev env x) (ev env y)) fun v => outv n ⟨d, .call { callee := .builtin .min, args := #[x, y], argTypes := ts }, ty, p, a, g⟩ K env h v := rfl
theorem opP_max {x y : Operand} {ts : Array TypeId} : opP P T n ⟨d, .call { callee := .builtin .max, args := #[x, y], argTypes := ts }, ty, p, a, g⟩ K env h = Bd (maxV (ev env x) (ev env y)) fun v => outv n ⟨d, .call { callee := .builtin .max, args := #[x, y], argTypes := ts }, ty, p, a, g⟩ K env h v := rfl
theorem opP_call {f : Operand} {xs : Array Operand} {ts : Array TypeId} : opP P T n ⟨d, .call { callee := .value f, args := xs, argTypes := ts }, ty, p, a, g⟩ K env h = Bd (asFn (ev env f)) fun q => CallA P q.1 (q.2.1 ++ xs.map (ev env) ++ q.2.2) h fun v h' => outv n ⟨d, .call { callee := .value f, args := xs, argTypes := ts }, ty, p, a, g⟩ K env h' v := rfl
theorem opP_append {s x : Operand} {ts tx : TypeId} : opP P T n ⟨d, .call { callee := .builtin .append, args := #[s, x], argTypes := #[ts, tx] }, ty, p, a, g⟩ K env h =
    Bd (elT T ts) fun ej => Bd (asSl (ev env s)) fun q => Bd (isIntT T tx) fun z =>
        if z = true then Bd (asI (ev env x)) fun m => ej.2.zero.cells.size = ej.2.size ∧ 0 ≤ m.2 ∧ m.2 * ej.2.bytes ≤ 281474976710656 ∧ m.2 ≤ 281474976710656 ∧
          appendP T ej.1 ej.2 q.1 q.2.1 q.2.2 m.2.toNat (Builtin.zeroCells ej.2.zero.cells m.2.toNat).toList h fun v h' => outv n ⟨d, .call { callee := .builtin .append, args := #[s, x], argTypes := #[ts, tx] }, ty, p, a, g⟩ K env h' v
        else Bd (asSl (ev env x)) fun qx => Bd (sliceCells h ej.2.size qx.2.1 (ev env x)) fun new => appendP T ej.1 ej.2 q.1 q.2.1 q.2.2 qx.2.1 new h fun v h' => outv n ⟨d, .call { callee := .builtin .append, args := #[s, x], argTypes := #[ts, tx] }, ty, p, a, g⟩ K env h' v := rfl

theorem opAt_zero {o : Oper} {l : List Oper} : opAt (List.toArray (o :: l)) 0 = some o := by simp [opAt]
theorem opAt_succ {o : Oper} {l : List Oper} {j : Nat} : opAt (List.toArray (o :: l)) (j + 1) = opAt (List.toArray l) j := by simp [opAt]
theorem guardB_none : guardB all env none = true := rfl
theorem puts_same {e : Env} {l : List (Nat × Value)} {t : Nat} {v : Value} : puts e ((t, v) :: l) t = v := by simp [puts_at]
theorem puts_ne {e : Env} {l : List (Nat × Value)} {t t' : Nat} {v : Value} (h : Nat.beq t t' = false) : puts e ((t', v) :: l) t = puts e l t := by
  rw [puts_at, if_neg (Nat.ne_of_beq_eq_false h)]

@[congr] theorem puts_congr3 {e : Env} {l : List (Nat × Value)} {t : Nat} : puts e l t = puts e l t := rfl
theorem vint {k : IntKind} {x y : Int} (e : x = y) : Value.int k x = Value.int k y := by rw [e]
theorem vbool {x y : Bool} (e : x = y) : Value.bool x = Value.bool y := by rw [e]
def plG (P : Program) (T : Tab) (n : Nat) (all : Array Oper) (ds : List Nat) (i : Nat) (o : Oper) (l : List (Nat × Bool)) (K : Env → Heap → Prop) (env : Env) (h : Heap) : Prop :=
  Gd (guardB all env o.guard) (opP P T n o (plK i ds h (plansP P T n all ds l K)) env h) (outv n o (plansP P T n all ds l K) env h undef)
@[congr] theorem plG_congr {ds : List Nat} {i : Nat} {o : Oper} {l : List (Nat × Bool)} {h' : Heap} (e : h = h') : plG P T n all ds i o l K env h = plG P T n all ds i o l K env h' := by rw [e]
theorem plansP_cons {ds : List Nat} {i : Nat} {b : Bool} {l : List (Nat × Bool)} : plansP P T n all ds ((i, b) :: l) K env h = Bd (opAt all i) fun o => plG P T n all ds i o l K env h := rfl
section
variable {ds : List Nat} {i : Nat} {l : List (Nat × Bool)}
theorem plG_none : plG P T n all ds i ⟨d, op, ty, p, a, none⟩ l K env h = opP P T n ⟨d, op, ty, p, a, none⟩ (plK i ds h (plansP P T n all ds l K)) env h := Gd_t _ _
theorem plG_some {j : Nat} {w : Bool} : plG P T n all ds i ⟨d, op, ty, p, a, some (j, w)⟩ l K env h = Gd (gv w ((slotOf all j).map env)) (opP P T n ⟨d, op, ty, p, a, some (j, w)⟩ (plK i ds h (plansP P T n all ds l K)) env h) (outv n ⟨d, op, ty, p, a, some (j, w)⟩ (plansP P T n all ds l K) env h undef) := by
  rw [← guardB_gv]; rfl
theorem plG_gt {j : Nat} {w : Bool} (hg : gv w ((slotOf all j).map env) = true) : plG P T n all ds i ⟨d, op, ty, p, a, some (j, w)⟩ l K env h = opP P T n ⟨d, op, ty, p, a, some (j, w)⟩ (plK i ds h (plansP P T n all ds l K)) env h := by rw [plG_some, hg, Gd_t]
theorem plG_gf {j : Nat} {w : Bool} (hg : gv w ((slotOf all j).map env) = false) : plG P T n all ds i ⟨d, op, ty, p, a, some (j, w)⟩ l K env h = outv n ⟨d, op, ty, p, a, some (j, w)⟩ (plansP P T n all ds l K) env h undef := by rw [plG_some, hg, Gd_f]
theorem plG_T {j : Nat} {b : Bool} (hb : (slotOf all j).map env = some (.bool b)) (h1 : b = true → opP P T n ⟨d, op, ty, p, a, some (j, true)⟩ (plK i ds h (plansP P T n all ds l K)) env h) (h2 : b = false → outv n ⟨d, op, ty, p, a, some (j, true)⟩ (plansP P T n all ds l K) env h undef) :
    plG P T n all ds i ⟨d, op, ty, p, a, some (j, true)⟩ l K env h := by
  rw [plG_some, hb, gv_bool]
  cases b
  · exact (Gd_f _ _).symm ▸ h2 rfl
  · exact (Gd_t _ _).symm ▸ h1 rfl
theorem plG_F {j : Nat} {b : Bool} (hb : (slotOf all j).map env = some (.bool b)) (h1 : b = false → opP P T n ⟨d, op, ty, p, a, some (j, false)⟩ (plK i ds h (plansP P T n all ds l K)) env h) (h2 : b = true → outv n ⟨d, op, ty, p, a, some (j, false)⟩ (plansP P T n all ds l K) env h undef) :
    plG P T n all ds i ⟨d, op, ty, p, a, some (j, false)⟩ l K env h := by
  rw [plG_some, hb, gv_bool]
  cases b
  · exact (Gd_t _ _).symm ▸ h1 rfl
  · exact (Gd_f _ _).symm ▸ h2 rfl
end
theorem plansP_nil {ds : List Nat} : plansP P T n all ds [] K env h = K env h := rfl
end

theorem asB_bool {b : Bool} : asB (.bool b) = some b := rfl
theorem asI_int {k : IntKind} {i : Int} : asI (.int k i) = some (k, i) := rfl
theorem asAd_ptr {a : Addr} : asAd (.pointer (some a)) = some a := rfl
theorem asFn_fn {f : Nat} {x y : Array Value} : asFn (.func (.func f) x y) = some (f, x, y) := rfl
theorem asSl_sl {a : Option Addr} {n c : Nat} : asSl (.slice a n c) = some (a, n, c) := rfl
section
variable {T : Tab} {k : IntKind} {x y : Int} {t : TypeId} {op : BinOp}
theorem binV_int : binV T op t (.int k x) (.int k y) = intV op k x y := by simp [binV]
theorem intV_add : intV .add k x y = some (.int k (k.wrap (x + y))) := rfl
theorem intV_sub : intV .sub k x y = some (.int k (k.wrap (x - y))) := rfl
theorem intV_mul : intV .mul k x y = some (.int k (k.wrap (x * y))) := rfl
theorem intV_quo (h : y ≠ 0) : intV .quo k x y = some (.int k (k.wrap (x.tdiv y))) := by simp [intV, h]
theorem intV_rem (h : y ≠ 0) : intV .rem k x y = some (.int k (x.tmod y)) := by simp [intV, h]
theorem intV_eql : intV .eql k x y = some (.bool (x == y)) := rfl
theorem intV_neq : intV .neq k x y = some (.bool (x != y)) := rfl
theorem intV_lss : intV .lss k x y = some (.bool (decide (x < y))) := rfl
theorem intV_leq : intV .leq k x y = some (.bool (decide (x ≤ y))) := rfl
theorem intV_gtr : intV .gtr k x y = some (.bool (decide (y < x))) := rfl
theorem intV_geq : intV .geq k x y = some (.bool (decide (y ≤ x))) := rfl
theorem unV_neg : unV .neg (.int k x) = some (.int k (k.wrap (0 - x))) := rfl
theorem unV_not {b : Bool} : unV .not (.bool b) = some (.bool !b) := rfl
theorem minV_int {k' : IntKind} : minV (.int k x) (.int k' y) = some (.int k (if y < x then y else x)) := rfl
theorem maxV_int {k' : IntKind} : maxV (.int k x) (.int k' y) = some (.int k (if y > x then y else x)) := rfl
end
theorem convH_int {T : Tab} {h : Heap} {s t : TypeId} {k : IntKind} {x : Int} : convH T h s t (.int k x) = convV T s t (.int k x) := rfl
theorem resP_1 {T : Tab} {R : Value → Heap → Prop} {env : Env} {h : Heap} {t : Nat} : resP T [.tmp t] R env h = R (env t) h := rfl
theorem resP_2 {T : Tab} {R : Value → Heap → Prop} {env : Env} {h : Heap} {t u : Nat} : resP T [.tmp t, .tmp u] R env h = R (.tuple #[env t, env u]) h := rfl
theorem resP_3 {T : Tab} {R : Value → Heap → Prop} {env : Env} {h : Heap} {t u s : Nat} : resP T [.tmp t, .tmp u, .tmp s] R env h = R (.tuple #[env t, env u, env s]) h := rfl
theorem resP_0 {T : Tab} {R : Value → Heap → Prop} {env : Env} {h : Heap} : resP T [] R env h = R (.tuple #[]) h := rfl
theorem sel_nil {env : Env} : sel env [] = [] := rfl
theorem sel_cons {env : Env} {t : Nat} {ts : List Nat} : sel env (t :: ts) = (t, env t) :: sel env ts := rfl
theorem hasL_nil {env : Env} : HasL env [] = True := rfl
theorem hasL_cons {env : Env} {t : Nat} {v : Value} {l : List (Nat × Value)} : HasL env ((t, v) :: l) = (env t = v ∧ HasL env l) := rfl

attribute [go_sem] convH_int opsP_nil opsP_none opsP_gt opsP_gf outv_some outv_none ev_tmp ev_const ev_func opP_move opP_assign opP_pick opP_build opP_load opP_nilCheck nilOk_ptr nilOk_fn opP_binOp opP_unOp opP_convert opP_makeFunc opP_slice
  opP_fieldAddr opP_field opP_indexAddr opP_index opP_extract tupV_tuple opP_len opP_cap opP_min opP_max opP_call asB_bool asI_int asAd_ptr asFn_fn asSl_sl binV_int intV_add intV_sub intV_mul intV_quo intV_rem intV_eql intV_neq intV_lss intV_leq intV_gtr intV_geq unV_neg unV_not minV_int maxV_int
  resP_0 resP_1 resP_2 resP_3 sel_nil sel_cons hasL_nil hasL_cons opAt_zero opAt_succ plansP_nil plansP_cons plG_none plG_gt plG_gf plK_same
  put_puts puts_same puts_ne Bd_some Gd_t Gd_f
  List.map_toArray List.map_cons List.map_nil List.append_toArray List.nil_append List.append_nil List.cons_append
  Int.toNat_natCast Option.map_some Option.bind_some decide_true decide_false true_and and_true Nat.reduceAdd
end Go.Proofs.Ytkdnnfkdgmblgaa
