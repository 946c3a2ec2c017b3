/-
  The ground: three rows of one's own put into a new list.
  Conditions: each theorem's own.
-/
import Derived.Test.YtbplnadngahgaaaG17
set_option linter.unusedVariables false
set_option linter.unusedSimpArgs false
namespace Go.Proofs.Ytbplnadngahgaaa
open Go
theorem bs3O (h : Heap) (A B C : Option Addr) (n c m d k e : Nat) : buildSliceV TT h 36 3 [(0, .slice A n c), (1, .slice B m d), (2, .slice C k e)] = some (.slice (some ⟨h.size, 0, none⟩) 3 3, h.push (.cells #[.slice A n c, .slice B m d, .slice C k e] 22)) := by kernel_rfl
theorem OS.slv {α : Type} {e : TypeId} {E : Heap → Value → α → List Nat → Prop} {h : Heap} {v : Value} {xs : List α} {fp : List Nat} (ho : OS e E h v xs fp) : ∃ A n c, v = .slice A n c := by
  rcases ho with ⟨rfl, _⟩ | ⟨b, c, cur, fps, rfl, r⟩
  · exact ⟨_, _, _, rfl⟩
  · exact ⟨_, _, _, r.val⟩
section
variable {P : Program} {n : Nat} {K : Env → Heap → Prop} {env : Env} {h : Heap} {d : Option Tmp} {ty : TypeId} {p : String} {a : Array Edge} {g : Option (Nat × Bool)}
set_option maxRecDepth 100000 in
theorem op_bs3O {x y z : Operand} {xs ys zs : List Int} {f1 f2 f3 : List Nat} (hx : O1 h (ev env x) xs f1) (hy : O1 h (ev env y) ys f2) (hz : O1 h (ev env z) zs f3)
    (hk : ∀ v' h', O2 h' v' [xs, ys, zs] (h.size :: (f1 ++ (f2 ++ f3))) → Ext h h' → h.size < h'.size → outv n ⟨d, .buildSlice 36 3 #[(0, x), (1, y), (2, z)], ty, p, a, g⟩ K env h' v') :
    opP P TT n ⟨d, .buildSlice 36 3 #[(0, x), (1, y), (2, z)], ty, p, a, g⟩ K env h := by
  obtain ⟨A, n1, c1, e1⟩ := OS.slv hx
  obtain ⟨B, n2, c2, e2⟩ := OS.slv hy
  obtain ⟨C, n3, c3, e3⟩ := OS.slv hz
  rw [opP_buildSlice]
  have : (#[(0, x), (1, y), (2, z)].map (fun (i, x) => (i, ev env x)) : Array (Nat × Value)).toList = [(0, .slice A n1 c1), (1, .slice B n2 c2), (2, .slice C n3 c3)] := by simp [e1, e2, e3]
  rw [this, bs3O, Bd_some]
  rw [e1] at hx
  rw [e2] at hy
  rw [e3] at hz
  have ex := Ext.push h (.cells #[.slice A n1 c1, .slice B n2 c2, .slice C n3 c3] 22)
  have hns := OS.new (e := 22) (E := O1) h #[.slice A n1 c1, .slice B n2 c2, .slice C n3 c3] [xs, ys, zs] [f1, f2, f3] rfl (by simp) (by simp) (fun i hi => by
    have hi' : i = 0 ∨ i = 1 ∨ i = 2 := by simp at hi; omega
    rcases hi' with rfl | rfl | rfl
    · exact ⟨_, _, rfl, rfl, OS.ext hx ex⟩
    · exact ⟨_, _, rfl, rfl, OS.ext hy ex⟩
    · exact ⟨_, _, rfl, rfl, OS.ext hz ex⟩)
  have hfl : ([f1, f2, f3] : List (List Nat)).flatten = f1 ++ (f2 ++ f3) := by simp
  rw [hfl] at hns
  exact hk _ _ hns ex (by simp)
end
end Go.Proofs.Ytbplnadngahgaaa
