/-
  The ground, thirteenth part: rows of rows of whole numbers that are one's own.
  Conditions: each theorem's own.
-/
import Derived.Test.YtkdnnfkdgmblgaaG11
set_option linter.unusedVariables false
set_option linter.unusedSimpArgs false
namespace Go.Proofs.Ytkdnnfkdgmblgaa
open Go

abbrev O1 : Heap → Value → List Int → List Nat → Prop := OS 2 OI
abbrev O2 : Heap → Value → List (List Int) → List Nat → Prop := OS 22 O1
abbrev O3 : Heap → Value → List (List (List Int)) → List Nat → Prop := OS 27 O2
abbrev O4 : Heap → Value → List (List (List (List Int))) → List Nat → Prop := OS 23 O3

theorem mem_flatten_set {l : List (List Nat)} {j : Nat} {f : List Nat} {q : Nat} (h : q ∈ (l.set j f).flatten) : q ∈ l.flatten ∨ q ∈ f := by
  obtain ⟨x, hx, hq⟩ := List.mem_flatten.1 h
  rcases List.mem_or_eq_of_mem_set hx with h1 | h1
  · exact .inl (List.mem_flatten.2 ⟨x, h1, hq⟩)
  · subst h1; exact .inr hq
theorem nodup_flatten_set {l : List (List Nat)} {j : Nat} {f : List Nat} (hn : l.flatten.Nodup) (hf : f.Nodup) (hd : ∀ b ∈ l.flatten, b ∉ f) : ((l.set j f).flatten).Nodup := by
  obtain ⟨h1, h2⟩ := List.pairwise_flatten.1 hn
  refine List.pairwise_flatten.2 ⟨fun x hx => ?_, ?_⟩
  · rcases List.mem_or_eq_of_mem_set hx with h | h
    · exact h1 x h
    · subst h; exact hf
  · rw [List.pairwise_iff_getElem] at h2 ⊢
    intro a b ha hb hab p hp q hq
    rw [List.length_set] at ha hb
    by_cases e1 : j = a
    · subst e1
      rw [List.getElem_set_self] at hp
      rw [List.getElem_set_ne (by omega)] at hq
      exact fun e => hd q (List.mem_flatten.2 ⟨_, List.getElem_mem hb, hq⟩) (e ▸ hp)
    · rw [List.getElem_set_ne e1] at hp
      by_cases e2 : j = b
      · subst e2
        rw [List.getElem_set_self] at hq
        exact fun e => hd p (List.mem_flatten.2 ⟨_, List.getElem_mem ha, hp⟩) (e ▸ hq)
      · rw [List.getElem_set_ne e2] at hq
        exact h2 a b ha hb hab p hp q hq

section
variable {α : Type} {e : TypeId} {E : Heap → Value → α → List Nat → Prop} [Own E] {h : Heap} {v : Value} {xs : List α} {fp : List Nat}
/-- An element is put into its place: it brings its own blocks. -/
theorem OS.put (ho : OS e E h v xs fp) (hn : fp.Nodup) (j : Nat) (hj : j < xs.length) {u : Value} {x : α} {fx : List Nat} (hE : E h u x fx) (hnx : fx.Nodup) (hd : ∀ b ∈ fp, b ∉ fx) :
    (hcell h ((sA v).add j)).isSome = true ∧ hfrozen h ((sA v).add j) = false ∧ ∃ fp', OS e E (hset h ((sA v).add j) u) v (xs.set j x) fp' ∧ fp'.Nodup ∧ (∀ b ∈ fp', b ∈ fp ∨ b ∈ fx) ∧ Chg fp h (hset h ((sA v).add j) u) := by
  rcases ho with ⟨_, rfl, _⟩ | ⟨b, c, cur, fps, rfl, r⟩
  · simp at hj
  · have ha : (sA v).add j = ⟨b, j, none⟩ := by rw [r.val]; simp only [sA]; rw [addr_add, Nat.zero_add]
    have hjc : j < cur.size := by have := r.size; have := r.le; omega
    obtain ⟨hnb, hnf⟩ := List.nodup_cons.1 hn
    rw [ha]
    refine ⟨by rw [r.box.cell, Array.getElem?_eq_getElem hjc]; rfl, r.box.frozen _, b :: (fps.set j fx).flatten, .inr ⟨b, c, cur.setIfInBounds j u, fps.set j fx, rfl, ⟨by rw [List.length_set]; exact r.val, r.box.set, by rw [Array.size_setIfInBounds]; exact r.size, r.max, by rw [List.length_set]; exact r.le, by rw [List.length_set, List.length_set]; exact r.len, fun i hi => ?_⟩⟩, ?_, ?_, (hset_chg h b j u).mono (by simp)⟩
    · rw [List.length_set] at hi
      obtain ⟨u', f', k1, k2, k4⟩ := r.el i hi
      by_cases hij : j = i
      · subst hij
        refine ⟨u, fx, by rw [Array.getElem?_setIfInBounds_self_of_lt hjc], by rw [List.getElem?_set_self (by rw [r.len]; exact hj)], ?_⟩
        simp only [List.getElem_set_self]
        exact Own.loc (fun q hq => hset_other fun e => hd b (by simp) (e ▸ hq)) hE
      · refine ⟨u', f', by rw [Array.getElem?_setIfInBounds_ne hij]; exact k1, by rw [List.getElem?_set_ne hij]; exact k2, ?_⟩
        rw [List.getElem_set_ne hij]
        exact Own.loc (fun q hq => hset_other fun e => hnb (List.mem_flatten.2 ⟨f', List.mem_of_getElem? k2, e ▸ hq⟩)) k4
    · refine List.nodup_cons.2 ⟨fun hm => ?_, nodup_flatten_set hnf hnx (fun b hb => hd b (List.mem_cons_of_mem _ hb))⟩
      rcases mem_flatten_set hm with h1 | h1
      · exact hnb h1
      · exact hd b (by simp) h1
    · intro q hq
      rcases List.mem_cons.1 hq with rfl | hq
      · exact .inl (by simp)
      · rcases mem_flatten_set hq with h1 | h1
        · exact .inl (List.mem_cons_of_mem _ h1)
        · exact .inr h1
end
section
variable {P : Program} {T : Tab} {n : Nat} {K : Env → Heap → Prop} {env : Env} {h : Heap} {d : Option Tmp} {ty : TypeId} {p : String} {a : Array Edge} {g : Option (Nat × Bool)} {t e : TypeId}
theorem op_put {α : Type} {E : Heap → Value → α → List Nat → Prop} [Own E] {v : Value} {xs : List α} {fp : List Nat} {x y : Operand} {j : Nat} {u : Value} {w : α} {fx : List Nat} (hst : ∀ h a v, storeV T h t a v = if v.cells.size = 1 then hputs a h 0 v.cells.toList else none)
    (ho : OS e E h v xs fp) (hn : fp.Nodup) (hj : j < xs.length) (hE : E h u w fx) (hnx : fx.Nodup) (hd : ∀ b ∈ fp, b ∉ fx) (hx : ev env x = .pointer (some ((sA v).add j))) (hy : ev env y = u)
    (hk : ∀ h' fp', OS e E h' v (xs.set j w) fp' → fp'.Nodup → (∀ b ∈ fp', b ∈ fp ∨ b ∈ fx) → Chg fp h h' → outv n ⟨d, .store t x y, ty, p, a, g⟩ K env h' undef) : opP P T n ⟨d, .store t x y, ty, p, a, g⟩ K env h := by
  obtain ⟨h1, h2, fp', h3, h4, h5, h6⟩ := OS.put ho hn j hj hE hnx hd
  obtain ⟨one, cells⟩ := Own.one hE
  rw [opP_store, hx, hy, asAd_ptr, Bd_some, hst, cells]
  rw [if_pos (show #[u].size = 1 from rfl)]
  have ha : ((sA v).add j).add 0 = (sA v).add j := by
    unfold Addr.add; simp
  have : hputs ((sA v).add j) h 0 #[u].toList = some (hset h ((sA v).add j) u) := by
    show hputs ((sA v).add j) h 0 [u] = _
    simp only [hputs]
    rw [ha, if_pos ⟨h1, h2, one⟩]
  rw [this, Bd_some]
  exact hk _ _ h3 h4 h5 h6
end

/-- A list filled from the left. -/
theorem fill_step {α : Type} (xs : List α) (d d' : α) (k : Nat) (hk : k < xs.length) : (xs.take k ++ List.replicate (xs.length - k) d).set k (xs.getD k d') = xs.take (k + 1) ++ List.replicate (xs.length - (k + 1)) d := by
  obtain ⟨m, hm⟩ : ∃ m, xs.length - k = m + 1 := ⟨xs.length - k - 1, by omega⟩
  rw [hm, show xs.length - (k + 1) = m by omega, List.replicate_succ]
  have hl : (xs.take k).length = k := by simp; omega
  rw [List.set_append_right _ _ (by omega), hl, Nat.sub_self, List.set_cons_zero, List.take_succ_eq_append_getElem hk, List.append_assoc, List.getD_eq_getElem?_getD, List.getElem?_eq_getElem hk]
  rfl
theorem fill_zero {α : Type} (xs : List α) (d : α) : xs.take 0 ++ List.replicate (xs.length - 0) d = List.replicate xs.length d := by simp
theorem fill_end {α : Type} (xs : List α) (d : α) (k : Nat) (hk : ¬ k < xs.length) : xs.take k ++ List.replicate (xs.length - k) d = xs := by
  rw [show xs.length - k = 0 by omega, List.take_of_length_le (by omega)]; simp
theorem fill_len {α : Type} (xs : List α) (d : α) (k : Nat) (hk : k ≤ xs.length) : (xs.take k ++ List.replicate (xs.length - k) d).length = xs.length := by simp; omega
end Go.Proofs.Ytkdnnfkdgmblgaa
