/-
  The ground, ninth part: variables in memory, structs that are read.
  Conditions: none.
-/
import Derived.Test.YtkdnnfkdgmblgaaG7
set_option linter.unusedVariables false
set_option linter.unusedSimpArgs false
namespace Go.Proofs.Ytkdnnfkdgmblgaa
open Go

theorem addr_add (b o k : Nat) : (⟨b, o, none⟩ : Addr).add k = ⟨b, o + k, none⟩ := by
  unfold Addr.add
  split
  · subst_vars; rfl
  · rfl
theorem cells_agg (cs : Array Value) : (Value.agg cs).cells = cs := rfl
theorem cells_int (k : IntKind) (n : Int) : (Value.int k n).cells = #[.int k n] := rfl
theorem cells_bool (b : Bool) : (Value.bool b).cells = #[.bool b] := rfl
theorem cells_ptr (a : Option Addr) : (Value.pointer a).cells = #[.pointer a] := rfl
theorem cells_slice (a : Option Addr) (n c : Nat) : (Value.slice a n c).cells = #[.slice a n c] := rfl
theorem RdS.cells {α : Type} {E : Heap → Value → α → Prop} {h : Heap} {v : Value} {xs : List α} (hv : RdS E h v xs) : v.cells = #[v] := by
  obtain ⟨A, c, rfl, _⟩ := hv; rfl
theorem RdS.one {α : Type} {E : Heap → Value → α → Prop} {h : Heap} {v : Value} {xs : List α} (hv : RdS E h v xs) : v.oneCell' = true := by
  obtain ⟨A, c, rfl, _⟩ := hv; rfl

/-- Block b is just cs. -/
def BoxAt (h : Heap) (b : Nat) (cs : Array Value) (t : TypeId) : Prop := h[b]? = some (.cells cs t (0, 0))
section
variable {h h' : Heap} {b : Nat} {cs : Array Value} {t : TypeId}
theorem BoxAt.lt (hb : BoxAt h b cs t) : b < h.size := by
  unfold BoxAt at hb
  rcases Nat.lt_or_ge b h.size with hl | hl
  · exact hl
  · rw [Array.getElem?_eq_none hl] at hb; cases hb
theorem BoxAt.cell (hb : BoxAt h b cs t) (i : Nat) : hcell h ⟨b, i, none⟩ = cs[i]? := by
  unfold BoxAt at hb
  simp [hcell, hw, World.cell?, hb]
theorem BoxAt.frozen (hb : BoxAt h b cs t) (i : Nat) : hfrozen h ⟨b, i, none⟩ = false := by
  unfold BoxAt at hb
  simp [hfrozen, hw, World.frozen?, hb]
theorem BoxAt.ext (hb : BoxAt h b cs t) (e : Ext h h') : BoxAt h' b cs t := by
  unfold BoxAt
  rw [e.block b hb.lt]
  exact hb
theorem BoxAt.cellB (hb : BoxAt h b cs t) (e : Ext h h') (i : Nat) : hcell h' ⟨b, i, none⟩ = cs[i]? := (hb.ext e).cell i
theorem BoxAt.new (h : Heap) (cs : Array Value) (t : TypeId) : BoxAt (h.push (.cells cs t)) h.size cs t := by
  unfold BoxAt
  simp
end

section
variable {P : Program} {n : Nat} {Qr : Env → Heap → Prop} {k : List It} {env : Env} {h : Heap}
theorem den_push1 {c1 : Array Value} {t1 : TypeId} (hh : ∀ h1, Ext h h1 → BoxAt h1 h.size c1 t1 → den P n Qr k env h1) : den P n Qr k env (h.push (.cells c1 t1)) :=
  hh _ (Ext.push _ _) (BoxAt.new _ _ _)
theorem den_push2 {c1 c2 : Array Value} {t1 t2 : TypeId} (hh : ∀ h1, Ext h h1 → BoxAt h1 h.size c1 t1 → BoxAt h1 (h.size + 1) c2 t2 → den P n Qr k env h1) : den P n Qr k env ((h.push (.cells c1 t1)).push (.cells c2 t2)) := by
  have hb := BoxAt.new (h.push (.cells c1 t1)) c2 t2
  rw [Array.size_push] at hb
  exact hh _ ((Ext.push _ _).trans (Ext.push _ _)) ((BoxAt.new h c1 t1).ext (Ext.push _ _)) hb
theorem den_push3 {c1 c2 c3 : Array Value} {t1 t2 t3 : TypeId} (hh : ∀ h1, Ext h h1 → BoxAt h1 h.size c1 t1 → BoxAt h1 (h.size + 1) c2 t2 → BoxAt h1 (h.size + 1 + 1) c3 t3 → den P n Qr k env h1) : den P n Qr k env (((h.push (.cells c1 t1)).push (.cells c2 t2)).push (.cells c3 t3)) := by
  have hb := BoxAt.new ((h.push (.cells c1 t1)).push (.cells c2 t2)) c3 t3
  have hb2 := BoxAt.new (h.push (.cells c1 t1)) c2 t2
  simp only [Array.size_push] at hb hb2
  exact hh _ (((Ext.push _ _).trans (Ext.push _ _)).trans (Ext.push _ _)) (((BoxAt.new h c1 t1).ext (Ext.push _ _)).ext (Ext.push _ _)) (hb2.ext (Ext.push _ _)) hb
end

/-- A complex, as data. -/
structure Cx where
  p : Int
  dims : List Int
  maps : List (List (List Int))
def RC (h : Heap) (v : Value) (X : Cx) : Prop := ∃ vd vm, v = .agg #[.int .i64 X.p, vd, vm] ∧ R1 h vd X.dims ∧ R3 h vm X.maps
instance : Mono RC := ⟨fun hp ⟨vd, vm, e, h1, h2⟩ => ⟨vd, vm, e, h1.pres hp, h2.pres hp⟩⟩
theorem RC.pres {h h' : Heap} {v : Value} {X : Cx} (hv : RC h v X) (hp : HPres h h') : RC h' v X := Mono.mono hp hv

attribute [go_sem] addr_add cells_agg cells_int cells_bool cells_ptr cells_slice Array.size_push List.getElem?_toArray List.getElem?_cons_zero List.getElem?_cons_succ hcells
end Go.Proofs.Ytkdnnfkdgmblgaa
