/-
  The ground, sixteenth part: slices whose elements have several cells.
  Conditions: none.
-/
import Derived.Test.YtkdnnfkdgmblgaaG14
set_option linter.unusedVariables false
set_option linter.unusedSimpArgs false
namespace Go.Proofs.Ytkdnnfkdgmblgaa
open Go

structure SlA (T : Tab) (t e : TypeId) (sz : Nat) : Prop where
  mk :: (out : ∃ i j, T t = some i ∧ i.desc = .slice e ∧ T e = some j ∧ j.size = sz)
/-- v reads as the list xs, each element in sz cells. -/
def RdA {α : Type} (sz : Nat) (E : Heap → Value → α → Prop) (h : Heap) (v : Value) (xs : List α) : Prop :=
  ∃ A c, v = .slice A xs.length c ∧ (A.isSome = true ∨ xs.length = 0) ∧ xs.length ≤ c ∧ c ≤ 9223372036854775807 ∧
    ∀ j (hj : j < xs.length), ∃ cs : List Value, cs.length = sz ∧ (∀ i (hi : i < cs.length), hcell h (((sA v).add (sz * j)).add i) = some cs[i]) ∧ E h (.agg cs.toArray) xs[j]
section
variable {T : Tab} {α : Type} {sz : Nat} {E : Heap → Value → α → Prop} {h : Heap} {v : Value} {xs : List α}
theorem RdA.len (hv : RdA sz E h v xs) {t e : TypeId} (ht : SlA T t e sz) : lenV T t v = some (.int .i64 xs.length) := by
  obtain ⟨A, c, rfl, _⟩ := hv
  obtain ⟨i, j, h1, h2, _⟩ := ht.out
  simp [lenV, h1, h2]
theorem RdA.idx (hv : RdA sz E h v xs) {t e : TypeId} (ht : SlA T t e sz) (k : IntKind) (i : Int) (h0 : 0 ≤ i) (h1 : i < xs.length) : idxAddrV T t v (.int k i) = some (.pointer (some ((sA v).add (sz * i.toNat)))) := by
  obtain ⟨A, c, rfl, hA, _⟩ := hv
  obtain ⟨q, j, e1, e2, e3, e4⟩ := ht.out
  have hs : A.isSome = true := hA.resolve_right (by omega)
  obtain ⟨a, rfl⟩ := Option.isSome_iff_exists.1 hs
  simp [idxAddrV, e1, e2, e3, e4, asI, h0, h1, sA, Nat.mul_comm]
theorem RdA.le (hv : RdA sz E h v xs) : (xs.length : Int) ≤ 9223372036854775807 := by
  obtain ⟨A, c, rfl, hA, h1, h2, hc⟩ := hv
  omega
end
instance {α : Type} {sz : Nat} {E : Heap → Value → α → Prop} [Mono E] : Mono (RdA sz E) := ⟨fun hp ⟨A, c, hv, hA, hc, hm, hr⟩ => ⟨A, c, hv, hA, hc, hm, fun j hj => let ⟨cs, hl, hu, he⟩ := hr j hj; ⟨cs, hl, fun i hi => hp _ _ (hu i hi), Mono.mono hp he⟩⟩⟩
theorem RdA.pres {α : Type} {sz : Nat} {E : Heap → Value → α → Prop} [Mono E] {h h' : Heap} {v : Value} {xs : List α} (hv : RdA sz E h v xs) (hp : HPres h h') : RdA sz E h' v xs := Mono.mono hp hv
instance : Inhabited Cx := ⟨⟨0, [], []⟩⟩
theorem RdA.at3 {h : Heap} {v : Value} {xs : List Cx} (hv : RdA 3 RC h v xs) (j : Nat) (hj : j < xs.length) :
    ∃ vd vm, hcell h ((sA v).add (3 * j)) = some (.int .i64 (xs.getD j default).p) ∧ hcell h ⟨((sA v).add (3 * j)).block, ((sA v).add (3 * j)).off + 1, none⟩ = some vd ∧ hcell h ⟨((sA v).add (3 * j)).block, ((sA v).add (3 * j)).off + 2, none⟩ = some vm ∧ R1 h vd (xs.getD j default).dims ∧ R3 h vm (xs.getD j default).maps := by
  obtain ⟨A, c, hv', hA, hc, hm, hr⟩ := hv
  obtain ⟨cs, hl, hu, vd, vm, e, h1, h2⟩ := hr j hj
  have hx : xs.getD j default = xs[j] := by rw [List.getD_eq_getElem?_getD, List.getElem?_eq_getElem hj]; rfl
  rw [hx]
  injection e with e
  have e' : cs = [.int .i64 xs[j].p, vd, vm] := by
    have := congrArg Array.toList e
    simpa using this
  subst e'
  have e0 : ∀ a : Addr, a.add 0 = a := fun a => by unfold Addr.add; simp
  have e1 : ∀ (a : Addr) (m : Nat), a.add (m + 1) = ⟨a.block, a.off + (m + 1), none⟩ := fun a m => by unfold Addr.add; simp
  have u0 := hu 0 (by simp)
  have u1 := hu 1 (by simp)
  have u2 := hu 2 (by simp)
  rw [e0] at u0
  rw [e1] at u1 u2
  exact ⟨vd, vm, u0, u1, u2, h1, h2⟩

section
variable {P : Program} {n : Nat} {K : Env → Heap → Prop} {env : Env} {h : Heap} {d : Option Tmp} {ty : TypeId} {p : String} {a : Array Edge} {g : Option (Nat × Bool)}
end
end Go.Proofs.Ytkdnnfkdgmblgaa
