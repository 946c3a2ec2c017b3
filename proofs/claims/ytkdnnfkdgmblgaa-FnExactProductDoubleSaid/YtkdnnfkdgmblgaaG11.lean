/-
  The ground, twelfth part: the rules of operations that make or write.
  Conditions: each theorem's own.
-/
import Derived.Test.YtkdnnfkdgmblgaaG10
set_option linter.unusedVariables false
set_option linter.unusedSimpArgs false
namespace Go.Proofs.Ytkdnnfkdgmblgaa
open Go

section
variable {P : Program} {T : Tab} {n : Nat} {K : Env → Heap → Prop} {env : Env} {h : Heap} {d : Option Tmp} {ty : TypeId} {p : String} {a : Array Edge} {g : Option (Nat × Bool)} {t e : TypeId} {bytes : Nat} {z : Value}

theorem op_append1 {α : Type} {E : Heap → Value → α → List Nat → Prop} [Own E] {v : Value} {xs : List α} {fp : List Nat} {u : Value} {x : α} {fx : List Nat} {s q : Operand} (sz : SlZ T t e bytes z)
    (ho : OS e E h v xs fp) (hn : fp.Nodup) (hu : E h u x fx) (hnx : fx.Nodup) (hd : ∀ b ∈ fp, b ∉ fx) (hlen : (xs.length + 1) * bytes ≤ 140737488355328)
    (hs : ev env s = v) (hq : ev env q = .slice (some ⟨h.size, 0, none⟩) 1 1)
    (hk : ∀ v' h' fp', OS e E h' v' (xs ++ [x]) fp' → fp'.Nodup → (∀ b ∈ fp', b ∈ fp ∨ b ∈ fx ∨ (h.size ≤ b)) → Chg fp h h' → outv n ⟨d, .call { callee := .builtin .append, args := #[s, q], argTypes := #[t, t] }, ty, p, a, g⟩ K env h' v') :
    opP P T n ⟨d, .call { callee := .builtin .append, args := #[s, q], argTypes := #[t, t] }, ty, p, a, g⟩ K env (h.push (.cells #[u] e)) := by
  obtain ⟨base, sLen, sCap, hv⟩ : ∃ base sLen sCap, v = .slice base sLen sCap := by
    rcases ho with ⟨rfl, _, _⟩ | ⟨b, c, cur, fps, _, r⟩
    · exact ⟨_, _, _, rfl⟩
    · exact ⟨_, _, _, r.val⟩
  rw [opP_append, sz.el, Bd_some, hs, hq, hv, asSl_sl, Bd_some, sz.notInt, Bd_some, if_neg (by simp), asSl_sl, Bd_some]
  have hc : sliceCells (h.push (.cells #[u] e)) 1 1 (.slice (some ⟨h.size, 0, none⟩) 1 1) = some [u] := by
    have hb := BoxAt.new h #[u] e
    simp only [sliceCells]
    rw [hcells_box hb _ 0 (by simp)]
    simp
  dsimp only
  rw [hc, Bd_some]
  exact append_one sz ho hn hu hnx hd hlen hv rfl rfl (by rw [sz.one]; rfl) _ hk

theorem op_make {k k' : IntKind} {l : Int} {x y : Operand} (sz : SlZ T t e bytes z) (hx : ev env x = .int k l) (hy : ev env y = .int k' l) (h0 : 0 ≤ l) (h1 : bytes * l ≤ 281474976710656)
    {α : Type} (E : Heap → Value → α → List Nat → Prop) (w : α) (hz : ∀ h, E h z w [])
    (hk : ∀ v' h', OS e E h' v' (List.replicate l.toNat w) [h.size] → Ext h h' → outv n ⟨d, .makeSlice t x y, ty, p, a, g⟩ K env h' v') : opP P T n ⟨d, .makeSlice t x y, ty, p, a, g⟩ K env h := by
  have hb := sz.pos
  have hl : l ≤ 281474976710656 := by
    have : (1 : Int) * l ≤ bytes * l := Int.mul_le_mul_of_nonneg_right (by omega) h0
    omega
  rw [opP_makeSlice, hx, hy, mk_zero sz h k k' l h0 h1, Bd_some]
  exact hk _ _ (OS.zeros h l.toNat (by omega) z w hz) (Ext.push _ _)

theorem op_bs0 (sz : SlZ T t e bytes z) {α : Type} (E : Heap → Value → α → List Nat → Prop)
    (hk : ∀ v' h', OS e E h' v' ([] : List α) [h.size] → Ext h h' → outv n ⟨d, .buildSlice t 0 #[], ty, p, a, g⟩ K env h' v') : opP P T n ⟨d, .buildSlice t 0 #[], ty, p, a, g⟩ K env h := by
  rw [opP_buildSlice]
  have : (#[].map (fun (i, x) => (i, ev env x)) : Array (Nat × Value)).toList = [] := by simp
  rw [this, bs_zero sz, Bd_some]
  exact hk _ _ (OS.empty h) (Ext.push _ _)

theorem op_bs1 (sz : SlZ T t e bytes z) {x : Operand} {u : Value} (hx : ev env x = u) (hu : u.cells = #[u])
    (hk : outv n ⟨d, .buildSlice t 1 #[(0, x)], ty, p, a, g⟩ K env (h.push (.cells #[u] e)) (.slice (some ⟨h.size, 0, none⟩) 1 1)) : opP P T n ⟨d, .buildSlice t 1 #[(0, x)], ty, p, a, g⟩ K env h := by
  rw [opP_buildSlice]
  have : (#[(0, x)].map (fun (i, x) => (i, ev env x)) : Array (Nat × Value)).toList = [(0, u)] := by simp [hx]
  rw [this, bs_one sz h u hu, Bd_some]
  exact hk

/-- A store into a row of whole numbers that is one's own. -/
theorem op_store1 {v : Value} {xs : List Int} {fp : List Nat} {x y : Operand} {j : Nat} {i : Int} (hst : ∀ h a v, storeV T h t a v = if v.cells.size = 1 then hputs a h 0 v.cells.toList else none)
    (ho : OS e OI h v xs fp) (hn : fp.Nodup) (hj : j < xs.length) (hx : ev env x = .pointer (some ((sA v).add j))) (hy : ev env y = .int .i64 i)
    (hk : ∀ h', OS e OI h' v (xs.set j i) fp → Chg fp h h' → outv n ⟨d, .store t x y, ty, p, a, g⟩ K env h' undef) : opP P T n ⟨d, .store t x y, ty, p, a, g⟩ K env h := by
  obtain ⟨h1, h2, h3, h4⟩ := OS.store ho hn j hj (u := .int .i64 i) (x := i) ⟨rfl, rfl⟩ rfl (fun _ _ _ f hf => hf.2)
  rw [opP_store, hx, hy, asAd_ptr, Bd_some, hst]
  rw [if_pos (show (Value.int .i64 i).cells.size = 1 from rfl)]
  have ha : ((sA v).add j).add 0 = (sA v).add j := by
    unfold Addr.add; simp
  have : hputs ((sA v).add j) h 0 (Value.int .i64 i).cells.toList = some (hset h ((sA v).add j) (.int .i64 i)) := by
    show hputs ((sA v).add j) h 0 [.int .i64 i] = _
    simp only [hputs]
    rw [ha, if_pos ⟨h1, h2, rfl⟩]
  rw [this, Bd_some]
  exact hk _ h3 h4
end
end Go.Proofs.Ytkdnnfkdgmblgaa
