/-
  The ground: a slice made with no room to spare, and what an append to it leaves: no old cell changes.
  Conditions: each theorem's own.
-/
import Derived.Test.YtjjjgllbocgkbaaG17
set_option linter.unusedVariables false
set_option linter.unusedSimpArgs false
namespace Go.Proofs.Ytjjjgllbocgkbaa
open Go
section
variable {P : Program} {T : Tab} {n : Nat} {K : Env → Heap → Prop} {env : Env} {h : Heap} {d : Option Tmp} {ty : TypeId} {p : String} {a : Array Edge} {g : Option (Nat × Bool)} {t e : TypeId} {bytes : Nat} {z : Value}
theorem op_makeC {k k' : IntKind} {l : Int} {x y : Operand} (sz : SlZ T t e bytes z) (hx : ev env x = .int k l) (hy : ev env y = .int k' l) (h0 : 0 ≤ l) (h1 : bytes * l ≤ 281474976710656)
    {α : Type} (E : Heap → Value → α → List Nat → Prop) (w : α) (hz : ∀ h, E h z w [])
    (hk : ∀ v' h', OS e E h' v' (List.replicate l.toNat w) [h.size] → Ext h h' → (∃ b m, v' = .slice b m m) → outv n ⟨d, .makeSlice t x y, ty, p, a, g⟩ K env h' v') : opP P T n ⟨d, .makeSlice t x y, ty, p, a, g⟩ K env h := by
  have hb := sz.pos
  have hl : l ≤ 281474976710656 := by
    have : (1 : Int) * l ≤ bytes * l := Int.mul_le_mul_of_nonneg_right (by omega) h0
    omega
  rw [opP_makeSlice, hx, hy, mk_zero sz h k k' l h0 h1, Bd_some]
  exact hk _ _ (OS.zeros h l.toNat (by omega) z w hz) (Ext.push _ _) ⟨_, _, rfl⟩
theorem appendP_ext {j : TI} {base : Option Addr} {l m : Nat} {new : List Value} {K : Value → Heap → Prop} (hn : new.length = m) (h1 : appendP T e j base l l m new h (fun v' h' => Ext h h' → K v' h')) : appendP T e j base l l m new h K := by
  unfold appendP at *
  split at h1
  · rename_i hc
    rw [if_pos hc]
    have : new = [] := List.length_eq_zero_iff.1 (by omega)
    subst this
    cases base with
    | none => exact h1 (Ext.refl _)
    | some a => exact h1 (Ext.refl _)
  · rename_i hc
    rw [if_neg hc]
    exact ⟨h1.1, h1.2.choose, h1.2.choose_spec.1, fun nc a b => h1.2.choose_spec.2 nc a b (Ext.push _ _)⟩
end
section
variable {P : Program} {n : Nat} {K : Env → Heap → Prop} {env : Env} {h : Heap} {d : Option Tmp} {ty : TypeId} {p : String} {a : Array Edge} {g : Option (Nat × Bool)}
set_option maxRecDepth 100000 in
/-- A row that is read is appended to a row of one's own that has no room. -/
theorem op_appendRF {v : Value} {xs ys : List Int} {fp : List Nat} {s q : Operand} (hcap : ∃ b m, v = .slice b m m) (ho : O1 h v xs fp) (hu : R1 h (ev env q) ys) (hlen : (xs.length + ys.length) * 8 ≤ 140737488355328) (hs : ev env s = v)
    (hk : ∀ v' h' fp', O1 h' v' (xs ++ ys) fp' → fp'.Nodup → (∀ b ∈ fp', b ∈ fp ∨ b ∈ ([] : List Nat) ∨ (h.size ≤ b)) → Chg fp h h' → Ext h h' → outv n ⟨d, .call { callee := .builtin .append, args := #[s, q], argTypes := #[22, 22] }, ty, p, a, g⟩ K env h' v') :
    opP P TT n ⟨d, .call { callee := .builtin .append, args := #[s, q], argTypes := #[22, 22] }, ty, p, a, g⟩ K env h := by
  have sz := sz22
  obtain ⟨base, sLen, hv⟩ := hcap
  have hu' := hu
  obtain ⟨A, c, e, _⟩ := hu'
  rw [opP_append, sz.el, Bd_some, hs, hv, asSl_sl, Bd_some, sz.notInt, Bd_some, if_neg (by simp)]
  have h1 : asSl (ev env q) = some (A, ys.length, c) := by rw [e]; rfl
  rw [h1, Bd_some]
  dsimp only
  rw [sliceCells_R1 hu, Bd_some]
  exact appendP_ext (intv_len _) (append_ints ho hlen hv rfl rfl (by rw [sz.one]; rfl) _ hk)
end
end Go.Proofs.Ytjjjgllbocgkbaa
