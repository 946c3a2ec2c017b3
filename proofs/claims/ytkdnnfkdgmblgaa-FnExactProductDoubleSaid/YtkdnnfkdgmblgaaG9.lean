/-
  The ground, tenth part: slices of a call's own: every block that they lead to is listed, once.
  Conditions: none.
-/
import Derived.Test.YtkdnnfkdgmblgaaG8
set_option linter.unusedVariables false
set_option linter.unusedSimpArgs false
namespace Go.Proofs.Ytkdnnfkdgmblgaa
open Go

/-- Only the blocks of fp may have changed; new ones may have come. -/
structure Chg (fp : List Nat) (h h' : Heap) : Prop where
  size : h.size ≤ h'.size
  block : ∀ b, b < h.size → b ∉ fp → h'[b]? = h[b]?
theorem Chg.refl (fp : List Nat) (h : Heap) : Chg fp h h := ⟨Nat.le_refl _, fun _ _ _ => rfl⟩
theorem Ext.chg {h h' : Heap} (e : Ext h h') (fp : List Nat) : Chg fp h h' := ⟨e.size, fun b hb _ => e.block b hb⟩
theorem Chg.ext {h h' : Heap} (c : Chg [] h h') : Ext h h' := ⟨c.size, fun b hb => c.block b hb (by simp)⟩
theorem Chg.trans {fp : List Nat} {a b c : Heap} (h : Chg fp a b) (k : Chg fp b c) : Chg fp a c :=
  ⟨Nat.le_trans h.size k.size, fun i hi hn => (k.block i (Nat.lt_of_lt_of_le hi h.size) hn).trans (h.block i hi hn)⟩
theorem Chg.mono {fp fp' : List Nat} {h h' : Heap} (c : Chg fp h h') (hs : ∀ b ∈ fp, b ∈ fp') : Chg fp' h h' := ⟨c.size, fun b hb hn => c.block b hb fun hm => hn (hs b hm)⟩
/-- From a heap whose blocks all lie before fp on, the change is a growth. -/
theorem Ext.then {h0 h h' : Heap} {fp : List Nat} (e : Ext h0 h) (c : Chg fp h h') (hf : ∀ b ∈ fp, h0.size ≤ b) : Ext h0 h' :=
  ⟨Nat.le_trans e.size c.size, fun i hi => (c.block i (Nat.lt_of_lt_of_le hi e.size) fun hm => by have := hf i hm; omega).trans (e.block i hi)⟩

class Own {α : Type} (E : Heap → Value → α → List Nat → Prop) : Prop where
  loc : ∀ {h h' : Heap} {v : Value} {x : α} {fp : List Nat}, (∀ b ∈ fp, h'[b]? = h[b]?) → E h v x fp → E h' v x fp
  lt : ∀ {h : Heap} {v : Value} {x : α} {fp : List Nat}, E h v x fp → ∀ b ∈ fp, b < h.size
  one : ∀ {h : Heap} {v : Value} {x : α} {fp : List Nat}, E h v x fp → v.oneCell' = true ∧ v.cells = #[v]
class Reads {α : Type} (E : Heap → Value → α → List Nat → Prop) (R : outParam (Heap → Value → α → Prop)) : Prop where
  rd : ∀ {h : Heap} {v : Value} {x : α} {fp : List Nat}, E h v x fp → R h v x

def OI (_ : Heap) (v : Value) (x : Int) (fp : List Nat) : Prop := v = .int .i64 x ∧ fp = []
instance : Own OI := ⟨fun _ h => h, (fun h b hb => by rw [h.2] at hb; cases hb), (fun h => by rw [h.1]; exact ⟨rfl, rfl⟩)⟩
instance : Reads OI RdI := ⟨fun h => h.1⟩

/-- v's row is block b, of which the first cells lead to xs. -/
structure Row {α : Type} (e : TypeId) (E : Heap → Value → α → List Nat → Prop) (h : Heap) (v : Value) (xs : List α) (b c : Nat) (cur : Array Value) (fps : List (List Nat)) : Prop where
  val : v = .slice (some ⟨b, 0, none⟩) xs.length c
  box : BoxAt h b cur e
  size : cur.size = c
  max : c ≤ 9223372036854775807
  le : xs.length ≤ c
  len : fps.length = xs.length
  el : ∀ j (hj : j < xs.length), ∃ u f, cur[j]? = some u ∧ fps[j]? = some f ∧ E h u xs[j] f
def OS {α : Type} (e : TypeId) (E : Heap → Value → α → List Nat → Prop) (h : Heap) (v : Value) (xs : List α) (fp : List Nat) : Prop :=
  (v = .slice none 0 0 ∧ xs = [] ∧ fp = []) ∨ ∃ b c cur fps, fp = b :: fps.flatten ∧ Row e E h v xs b c cur fps

section
variable {α : Type} {e : TypeId} {E : Heap → Value → α → List Nat → Prop} {R : Heap → Value → α → Prop} {h h' : Heap} {v : Value} {xs : List α} {fp : List Nat}

theorem OS.nil : OS e E h (.slice none 0 0) [] [] := .inl ⟨rfl, rfl, rfl⟩
theorem Row.local_ [Own E] {b c : Nat} {cur : Array Value} {fps : List (List Nat)} (r : Row e E h v xs b c cur fps) (hl : ∀ q ∈ b :: fps.flatten, h'[q]? = h[q]?) : Row e E h' v xs b c cur fps := by
  refine ⟨r.val, ?_, r.size, r.max, r.le, r.len, fun j hj => ?_⟩
  · have := hl b (by simp)
    unfold BoxAt
    rw [this]; exact r.box
  · obtain ⟨u, f, h1, h2, h4⟩ := r.el j hj
    exact ⟨u, f, h1, h2, Own.loc (fun q hq => hl q (List.mem_cons_of_mem _ (List.mem_flatten.2 ⟨f, List.mem_of_getElem? h2, hq⟩))) h4⟩
theorem OS.loc [Own E] (hl : ∀ b ∈ fp, h'[b]? = h[b]?) (ho : OS e E h v xs fp) : OS e E h' v xs fp := by
  rcases ho with ho | ⟨b, c, cur, fps, rfl, r⟩
  · exact .inl ho
  · exact .inr ⟨b, c, cur, fps, rfl, r.local_ hl⟩
theorem OS.lt [Own E] (ho : OS e E h v xs fp) : ∀ b ∈ fp, b < h.size := by
  rcases ho with ⟨_, _, rfl⟩ | ⟨b, c, cur, fps, rfl, r⟩
  · intro b hb; cases hb
  · intro q hq
    rcases List.mem_cons.1 hq with rfl | hq
    · exact r.box.lt
    · obtain ⟨f, hf, hqf⟩ := List.mem_flatten.1 hq
      obtain ⟨j, hj, hjf⟩ := List.getElem_of_mem hf
      obtain ⟨u, f', _, h2, h4⟩ := r.el j (by rw [← r.len]; exact hj)
      rw [List.getElem?_eq_getElem hj, hjf] at h2
      injection h2 with h2
      subst h2
      exact Own.lt h4 q hqf
theorem OS.one (ho : OS e E h v xs fp) : v.oneCell' = true ∧ v.cells = #[v] := by
  rcases ho with ⟨rfl, _, _⟩ | ⟨b, c, cur, fps, _, r⟩
  · exact ⟨rfl, rfl⟩
  · rw [r.val]; exact ⟨rfl, rfl⟩
instance [Own E] : Own (OS e E) := ⟨OS.loc, OS.lt, OS.one⟩
theorem OS.rd [Reads E R] (ho : OS e E h v xs fp) : RdS R h v xs := by
  rcases ho with ⟨rfl, rfl, _⟩ | ⟨b, c, cur, fps, _, r⟩
  · exact ⟨none, 0, rfl, .inr rfl, by simp, by omega, fun j hj => by simp at hj⟩
  · refine ⟨some ⟨b, 0, none⟩, c, r.val, .inl rfl, r.le, r.max, fun j hj => ?_⟩
    obtain ⟨u, f, h1, _, h4⟩ := r.el j hj
    refine ⟨u, ?_, Reads.rd h4⟩
    rw [r.val]
    simp only [sA]
    rw [addr_add, r.box.cell, Nat.zero_add, h1]
instance [Reads E R] : Reads (OS e E) (RdS R) := ⟨OS.rd⟩
theorem OS.ext [Own E] (ho : OS e E h v xs fp) (k : Ext h h') : OS e E h' v xs fp := OS.loc (fun b hb => k.block b (OS.lt ho b hb)) ho
theorem OS.chg [Own E] {fq : List Nat} (ho : OS e E h v xs fp) (k : Chg fq h h') (hd : ∀ b ∈ fp, b ∉ fq) : OS e E h' v xs fp := OS.loc (fun b hb => k.block b (OS.lt ho b hb) (hd b hb)) ho
theorem OS.len_le (ho : OS e E h v xs fp) : (xs.length : Int) ≤ 9223372036854775807 := by
  rcases ho with ⟨_, rfl, _⟩ | ⟨b, c, cur, fps, _, r⟩
  · simp
  · have := r.le; have := r.max; omega

/-- An element: what it leads to; changed in place, the whole is changed there. -/
theorem OS.elem [Own E] [Inhabited α] (ho : OS e E h v xs fp) (hn : fp.Nodup) (j : Nat) (hj : j < xs.length) : ∃ f, E h (rowV h v j) (xs.getD j default) f ∧ (∀ b ∈ f, b ∈ fp) ∧ f.Nodup ∧
    ∀ h' x', Chg f h h' → E h' (rowV h v j) x' f → OS e E h' v (xs.set j x') fp := by
  rcases ho with ⟨_, rfl, _⟩ | ⟨b, c, cur, fps, rfl, r⟩
  · simp at hj
  · obtain ⟨u, f, h1, h2, h4⟩ := r.el j hj
    have hru : rowV h v j = u := by
      unfold rowV
      rw [r.val]
      simp only [sA]
      rw [addr_add, r.box.cell, Nat.zero_add, h1]; rfl
    have hx : xs.getD j default = xs[j] := by rw [List.getD_eq_getElem?_getD, List.getElem?_eq_getElem hj]; rfl
    have hfm : f ∈ fps := List.mem_of_getElem? h2
    have hsub : ∀ q ∈ f, q ∈ fps.flatten := fun q hq => List.mem_flatten.2 ⟨f, hfm, hq⟩
    obtain ⟨hb, hfl⟩ := List.nodup_cons.1 hn
    have hfn := List.pairwise_flatten.1 hfl
    refine ⟨f, by rw [hru, hx]; exact h4, fun q hq => List.mem_cons_of_mem _ (hsub q hq), hfn.1 f hfm, fun h' x' hc hE => ?_⟩
    rw [hru] at hE
    refine .inr ⟨b, c, cur, fps, rfl, ⟨by rw [List.length_set]; exact r.val, ?_, r.size, r.max, by rw [List.length_set]; exact r.le, by rw [List.length_set]; exact r.len, fun i hi => ?_⟩⟩
    · have := hc.block b r.box.lt (fun hq => hb (hsub b hq))
      unfold BoxAt
      rw [this]; exact r.box
    · rw [List.length_set] at hi
      by_cases hij : j = i
      · subst hij
        exact ⟨u, f, h1, h2, by simpa using hE⟩
      · obtain ⟨u', f', k1, k2, k4⟩ := r.el i hi
        refine ⟨u', f', k1, k2, ?_⟩
        rw [List.getElem_set_ne hij]
        refine Own.loc (fun q hq => hc.block q (Own.lt k4 q hq) fun hqf => ?_) k4
        have hjl : j < fps.length := (List.getElem?_eq_some_iff.1 h2).1
        have hil : i < fps.length := (List.getElem?_eq_some_iff.1 k2).1
        have e1 : fps[j] = f := (List.getElem?_eq_some_iff.1 h2).2
        have e2 : fps[i] = f' := (List.getElem?_eq_some_iff.1 k2).2
        have hp := List.pairwise_iff_getElem.1 hfn.2
        rcases Nat.lt_or_gt_of_ne hij with hlt | hgt
        · have := hp j i hjl hil hlt
          rw [e1, e2] at this
          exact this _ hqf _ hq rfl
        · have := hp i j hil hjl hgt
          rw [e1, e2] at this
          exact this _ hq _ hqf rfl

theorem hset_other {h : Heap} {b o : Nat} {v : Value} {q : Nat} (hq : q ≠ b) : (hset h ⟨b, o, none⟩ v)[q]? = h[q]? := by
  unfold hset hw World.setCell
  simp [Array.getElem?_modify, Ne.symm hq]
theorem hset_size {h : Heap} {a : Addr} {v : Value} : (hset h a v).size = h.size := by
  unfold hset hw World.setCell
  simp
theorem BoxAt.set {h : Heap} {b o : Nat} {cs : Array Value} {t : TypeId} {v : Value} (hb : BoxAt h b cs t) : BoxAt (hset h ⟨b, o, none⟩ v) b (cs.setIfInBounds o v) t := by
  unfold BoxAt at hb ⊢
  unfold hset hw World.setCell
  simp [Array.getElem?_modify, hb]
theorem hset_chg (h : Heap) (b o : Nat) (v : Value) : Chg [b] h (hset h ⟨b, o, none⟩ v) := ⟨by rw [hset_size]; exact Nat.le_refl _, fun q _ hn => hset_other (by simpa using hn)⟩

/-- A store into an element that is one's own. -/
theorem OS.store [Own E] (ho : OS e E h v xs fp) (hn : fp.Nodup) (j : Nat) (hj : j < xs.length) {u : Value} {x : α} (hE : E h u x []) (h1 : u.oneCell' = true) (hz : ∀ (h : Heap) (u : Value) (x : α) (f : List Nat), E h u x f → f = []) :
    (hcell h ((sA v).add j)).isSome = true ∧ hfrozen h ((sA v).add j) = false ∧ OS e E (hset h ((sA v).add j) u) v (xs.set j x) fp ∧ Chg fp h (hset h ((sA v).add j) u) := by
  rcases ho with ⟨_, rfl, _⟩ | ⟨b, c, cur, fps, rfl, r⟩
  · simp at hj
  · have ha : (sA v).add j = ⟨b, j, none⟩ := by rw [r.val]; simp only [sA]; rw [addr_add, Nat.zero_add]
    have hjc : j < cur.size := by have := r.size; have := r.le; omega
    rw [ha]
    refine ⟨by rw [r.box.cell, Array.getElem?_eq_getElem hjc]; rfl, r.box.frozen _, .inr ⟨b, c, cur.setIfInBounds j u, fps, rfl, ⟨by rw [List.length_set]; exact r.val, r.box.set, by rw [Array.size_setIfInBounds]; exact r.size, r.max, by rw [List.length_set]; exact r.le, by rw [List.length_set]; exact r.len, fun i hi => ?_⟩⟩, (hset_chg h b j u).mono (by simp)⟩
    rw [List.length_set] at hi
    obtain ⟨u', f', k1, k2, k4⟩ := r.el i hi
    have hf' := hz _ _ _ _ k4
    subst hf'
    by_cases hij : j = i
    · subst hij
      refine ⟨u, [], by rw [Array.getElem?_setIfInBounds_self_of_lt hjc], k2, ?_⟩
      simp only [List.getElem_set_self]
      exact Own.loc (fun q hq => by cases hq) hE
    · refine ⟨u', [], by rw [Array.getElem?_setIfInBounds_ne hij]; exact k1, k2, ?_⟩
      rw [List.getElem_set_ne hij]
      exact Own.loc (fun q hq => by cases hq) k4
end
end Go.Proofs.Ytkdnnfkdgmblgaa
