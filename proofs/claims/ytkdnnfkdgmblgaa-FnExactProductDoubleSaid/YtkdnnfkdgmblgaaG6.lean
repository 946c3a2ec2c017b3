/-
  The ground, seventh part: slices that are read.
  Conditions: none.
-/
import Derived.Test.YtkdnnfkdgmblgaaG5
set_option linter.unusedVariables false
set_option linter.unusedSimpArgs false
namespace Go.Proofs.Ytkdnnfkdgmblgaa
open Go

/-- The table of the program itself. -/
def tabOf (P : Program) : Tab := fun t => (P.underlying t).bind fun d => (P.info? t).bind fun f => f.zero.map fun z => ⟨d, f.size, f.bytes, z⟩
theorem tabOf_ok (P : Program) : TOk P (tabOf P) := by
  intro t i h
  simp only [tabOf, Option.bind_eq_some_iff, Option.map_eq_some_iff] at h
  obtain ⟨d, hd, f, hf, z, hz, rfl⟩ := h
  exact ⟨hd, f, hf, rfl, rfl, hz⟩

structure SlT (T : Tab) (t e : TypeId) : Prop where
  mk :: (out : ∃ i j, T t = some i ∧ i.desc = .slice e ∧ T e = some j ∧ j.size = 1)

/-- t is a type of slices of e; e has one cell, so many bytes, the zero z. -/
structure SlZ (T : Tab) (t e : TypeId) (bytes : Nat) (z : Value) : Prop where
  el : elT T t = some (e, ⟨(((T e).map (·.desc)).getD .bool), 1, bytes, z⟩)
  one : z.cells = #[z]
  pos : 0 < bytes
  notInt : isIntT T t = some false

def sA : Value → Addr
  | .slice (some a) _ _ => a
  | _ => ⟨0, 0, none⟩
def rowV (h : Heap) (v : Value) (j : Nat) : Value := (hcell h ((sA v).add j)).getD undef

/-- v reads as the list xs, its elements by E. -/
def RdS {α : Type} (E : Heap → Value → α → Prop) (h : Heap) (v : Value) (xs : List α) : Prop :=
  ∃ A c, v = .slice A xs.length c ∧ (A.isSome = true ∨ xs.length = 0) ∧ xs.length ≤ c ∧ c ≤ 9223372036854775807 ∧ ∀ j (hj : j < xs.length), ∃ u, hcell h ((sA v).add j) = some u ∧ E h u xs[j]
def RdI (_ : Heap) (v : Value) (x : Int) : Prop := v = .int .i64 x
abbrev R1 : Heap → Value → List Int → Prop := RdS RdI
abbrev R2 : Heap → Value → List (List Int) → Prop := RdS R1
abbrev R3 : Heap → Value → List (List (List Int)) → Prop := RdS R2
abbrev R4 : Heap → Value → List (List (List (List Int))) → Prop := RdS R3

section
variable {T : Tab} {α : Type} {E : Heap → Value → α → Prop} {h : Heap} {v : Value} {xs : List α}
theorem RdS.len (hv : RdS E h v xs) {t e : TypeId} (ht : SlT T t e) : lenV T t v = some (.int .i64 xs.length) := by
  obtain ⟨A, c, rfl, _⟩ := hv
  obtain ⟨i, j, h1, h2, _⟩ := ht.out
  simp [lenV, h1, h2]
theorem RdS.idx (hv : RdS E h v xs) {t e : TypeId} (ht : SlT T t e) (k : IntKind) (i : Int) (h0 : 0 ≤ i) (h1 : i < xs.length) : idxAddrV T t v (.int k i) = some (.pointer (some ((sA v).add i.toNat))) := by
  obtain ⟨A, c, rfl, hA, _⟩ := hv
  obtain ⟨q, j, e1, e2, e3, e4⟩ := ht.out
  have hs : A.isSome = true := hA.resolve_right (by omega)
  obtain ⟨a, rfl⟩ := Option.isSome_iff_exists.1 hs
  simp [idxAddrV, e1, e2, e3, e4, asI, h0, h1, sA]
theorem RdS.cell (hv : RdS E h v xs) (i : Int) (h0 : 0 ≤ i) (h1 : i < xs.length) : hcell h ((sA v).add i.toNat) = some (rowV h v i.toNat) := by
  obtain ⟨A, c, rfl, hA, _, _, hc⟩ := hv
  obtain ⟨u, hu, _⟩ := hc i.toNat (by omega)
  simp [rowV, hu]
theorem RdS.le (hv : RdS E h v xs) : (xs.length : Int) ≤ 9223372036854775807 := by
  obtain ⟨A, c, rfl, hA, h1, h2, hc⟩ := hv
  omega
theorem RdS.row [Inhabited α] (hv : RdS E h v xs) (i : Int) (h0 : 0 ≤ i) (h1 : i < xs.length) : E h (rowV h v i.toNat) (xs.getD i.toNat default) := by
  obtain ⟨A, c, rfl, hA, _, _, hc⟩ := hv
  have hl : i.toNat < xs.length := by omega
  obtain ⟨u, hu, he⟩ := hc i.toNat hl
  rw [List.getD_eq_getElem?_getD, List.getElem?_eq_getElem hl]
  simpa [rowV, hu] using he
end
theorem RdS.cellN {α : Type} {E : Heap → Value → α → Prop} {h : Heap} {v : Value} {xs : List α} (hv : RdS E h v xs) (j : Nat) (hj : j < xs.length) : hcell h ((sA v).add j) = some (rowV h v j) := by
  have := RdS.cell hv (j : Int) (by omega) (by omega)
  simpa using this
theorem RdS.rowN {α : Type} [Inhabited α] {E : Heap → Value → α → Prop} {h : Heap} {v : Value} {xs : List α} (hv : RdS E h v xs) (j : Nat) (hj : j < xs.length) : E h (rowV h v j) (xs.getD j default) := by
  have := RdS.row hv (j : Int) (by omega) (by omega)
  simpa using this
theorem R1.intN {h : Heap} {v : Value} {xs : List Int} (hv : R1 h v xs) (j : Nat) (hj : j < xs.length) : hcell h ((sA v).add j) = some (.int .i64 (xs.getD j 0)) := by
  rw [RdS.cellN hv j hj]
  exact congrArg some (RdS.rowN hv j hj)
theorem RdS.cellB {α : Type} {E : Heap → Value → α → Prop} {h hc : Heap} {v : Value} {xs : List α} (hv : RdS E h v xs) (hp : HPres h hc) (j : Nat) (hj : j < xs.length) : hcell hc ((sA v).add j) = some (rowV h v j) := hp _ _ (RdS.cellN hv j hj)
theorem R1.intB {h hc : Heap} {v : Value} {xs : List Int} (hv : R1 h v xs) (hp : HPres h hc) (j : Nat) (hj : j < xs.length) : hcell hc ((sA v).add j) = some (.int .i64 (xs.getD j 0)) := hp _ _ (R1.intN hv j hj)
theorem R1.int {h : Heap} {v : Value} {xs : List Int} (hv : R1 h v xs) (i : Int) (h0 : 0 ≤ i) (h1 : i < xs.length) : hcell h ((sA v).add i.toNat) = some (.int .i64 (xs.getD i.toNat 0)) := by
  rw [RdS.cell hv i h0 h1]
  exact congrArg some (RdS.row hv i h0 h1)

/-- What could be read still reads the same: readings live on. -/
class Mono {α : Type} (E : Heap → Value → α → Prop) : Prop where
  mono : ∀ {h h' : Heap} {v : Value} {x : α}, HPres h h' → E h v x → E h' v x
instance : Mono RdI := ⟨fun _ h => h⟩
instance {α : Type} {E : Heap → Value → α → Prop} [Mono E] : Mono (RdS E) := ⟨fun hp ⟨A, c, hv, hA, hc, hm, hr⟩ => ⟨A, c, hv, hA, hc, hm, fun j hj => let ⟨u, hu, he⟩ := hr j hj; ⟨u, hp _ _ hu, Mono.mono hp he⟩⟩⟩
theorem RdS.pres {α : Type} {E : Heap → Value → α → Prop} [Mono E] {h h' : Heap} {v : Value} {xs : List α} (hv : RdS E h v xs) (hp : HPres h h') : RdS E h' v xs := Mono.mono hp hv

/-- The heap has only grown: every old block is as it was. -/
structure Ext (h h' : Heap) : Prop where
  size : h.size ≤ h'.size
  block : ∀ i, i < h.size → h'[i]? = h[i]?
theorem Ext.refl (h : Heap) : Ext h h := ⟨Nat.le_refl _, fun _ _ => rfl⟩
theorem Ext.trans {a b c : Heap} (h : Ext a b) (k : Ext b c) : Ext a c := ⟨Nat.le_trans h.size k.size, fun i hi => (k.block i (Nat.lt_of_lt_of_le hi h.size)).trans (h.block i hi)⟩
theorem Ext.push (h : Heap) (o : Obj) : Ext h (h.push o) := ⟨by simp, fun i hi => by simp [Array.getElem?_push, Nat.ne_of_lt hi]⟩
theorem Ext.pushed {h h' : Heap} (k : Ext h h') (o : Obj) : Ext h (h'.push o) := k.trans (Ext.push h' o)
theorem hcell_lt {h : Heap} {a : Addr} {v : Value} (e : hcell h a = some v) : a.block < h.size := by
  unfold hcell World.cell? hw at e
  rcases Nat.lt_or_ge a.block h.size with hl | hl
  · exact hl
  · rw [Array.getElem?_eq_none hl] at e; cases e
theorem hcell_block {h h' : Heap} {a : Addr} (e : h'[a.block]? = h[a.block]?) : hcell h' a = hcell h a := by
  unfold hcell World.cell? hw
  simp only [e]
/-! Arrays: the place of an element, and an element of an array by value. -/
theorem idxAddr_arr {T : Tab} {t e : TypeId} {n s : Nat} {k : IntKind} {i : Int} {a : Addr} (ht : (T t).map (·.desc) = some (.array n e)) (he : (T e).map (·.size) = some s) (h : 0 ≤ i ∧ i < n) : idxAddrV T t (.pointer (some a)) (.int k i) = some (.pointer (some (a.add (i.toNat * s)))) := by
  obtain ⟨x, hx, hd⟩ := Option.map_eq_some_iff.1 ht
  obtain ⟨y, hy, hs⟩ := Option.map_eq_some_iff.1 he
  simp only [idxAddrV, hx, Option.bind_some, asI, hd, hy, if_pos h, hs]
theorem index_arr1 {T : Tab} {t e : TypeId} {n : Nat} {k : IntKind} {i : Int} {cs : Array Value} (ht : (T t).map (·.desc) = some (.array n e)) (he : (T e).map (fun y => (y.size, isAggD y.desc)) = some (1, false)) (h : 0 ≤ i ∧ i < n) : indexV T t (.agg cs) (.int k i) = cs[i.toNat]? := by
  obtain ⟨x, hx, hd⟩ := Option.map_eq_some_iff.1 ht
  obtain ⟨y, hy, hs⟩ := Option.map_eq_some_iff.1 he
  simp only [Prod.mk.injEq] at hs
  simp [indexV, hx, asI, hd, hy, h, hs.1, hs.2, partV]
theorem index_arrA {T : Tab} {t e : TypeId} {n s : Nat} {k : IntKind} {i : Int} {cs : Array Value} (ht : (T t).map (·.desc) = some (.array n e)) (he : (T e).map (fun y => (y.size, isAggD y.desc)) = some (s, true)) (h : 0 ≤ i ∧ i < n) : indexV T t (.agg cs) (.int k i) = some (.agg (cs.extract (i.toNat * s) (i.toNat * s + s))) := by
  obtain ⟨x, hx, hd⟩ := Option.map_eq_some_iff.1 ht
  obtain ⟨y, hy, hs⟩ := Option.map_eq_some_iff.1 he
  simp only [Prod.mk.injEq] at hs
  simp [indexV, hx, asI, hd, hy, h, hs.1, hs.2, partV]
theorem len_arr {T : Tab} {t e : TypeId} {n : Nat} {v : Value} (ht : (T t).map (·.desc) = some (.array n e)) : lenV T t v = some (.int .i64 n) := by
  obtain ⟨x, hx, hd⟩ := Option.map_eq_some_iff.1 ht
  cases v <;> simp [lenV, hx, hd]
theorem Ext.pres {h h' : Heap} (k : Ext h h') : HPres h h' := fun a v e => by rw [hcell_block (k.block _ (hcell_lt e))]; exact e
end Go.Proofs.Ytkdnnfkdgmblgaa
