/-
  The ground: many elements that lie elsewhere are appended to a slice of one's own.
  Conditions: each theorem's own.
-/
import Derived.Test.YtacajcjibhifmaaG17
set_option linter.unusedVariables false
set_option linter.unusedSimpArgs false
namespace Go.Proofs.Ytacajcjibhifmaa
open Go
section
variable {α : Type} {e : TypeId} {E : Heap → Value → α → List Nat → Prop} {h h' : Heap} {v : Value} {xs ys : List α} {us : List Value}
theorem OS.mkM [Own E] {cur C : Array Value} {fps : List (List Nat)} {b c : Nat} (hl : us.length = ys.length) (hu : ∀ j (hj : j < ys.length) (hj' : j < us.length), ∀ h'', E h'' us[j] ys[j] []) (hlf : fps.length = xs.length)
    (hel : ∀ j (hj : j < xs.length), ∃ u f, cur[j]? = some u ∧ fps[j]? = some f ∧ E h u xs[j] f) (loc : ∀ f ∈ fps, ∀ q ∈ f, h'[q]? = h[q]?)
    (hb : BoxAt h' b C e) (hsz : C.size = c) (hm : c ≤ 9223372036854775807) (hle : xs.length + ys.length ≤ c) (ho : ∀ j, j < xs.length → C[j]? = cur[j]?) (hn : ∀ j, j < ys.length → C[xs.length + j]? = us[j]?) :
    OS e E h' (.slice (some ⟨b, 0, none⟩) (xs.length + ys.length) c) (xs ++ ys) (b :: fps.flatten) := by
  have hfl : (fps ++ List.replicate ys.length ([] : List Nat)).flatten = fps.flatten := by rw [List.flatten_append, flatten_replicate_nil, List.append_nil]
  rw [← hfl]
  refine .inr ⟨b, c, C, fps ++ List.replicate ys.length [], rfl, ⟨by rw [List.length_append], hb, hsz, hm, by rw [List.length_append]; exact hle, by rw [List.length_append, List.length_append, List.length_replicate, hlf], fun j hj => ?_⟩⟩
  rw [List.length_append] at hj
  by_cases h1 : j < xs.length
  · obtain ⟨u, f, k1, k2, k3⟩ := hel j h1
    refine ⟨u, f, by rw [ho j h1]; exact k1, by rw [List.getElem?_append_left (by omega)]; exact k2, ?_⟩
    rw [List.getElem_append_left h1]
    exact Own.loc (loc f (List.mem_of_getElem? k2)) k3
  · obtain ⟨q, rfl⟩ : ∃ q, j = xs.length + q := ⟨j - xs.length, by omega⟩
    have hq : q < ys.length := by omega
    refine ⟨us[q]'(by omega), [], by rw [hn q hq, List.getElem?_eq_getElem (by omega)], ?_, ?_⟩
    · rw [List.getElem?_append_right (by omega), hlf, Nat.add_sub_cancel_left, List.getElem?_eq_getElem (by simpa using hq)]; simp
    · rw [List.getElem_append_right (by omega)]
      simp only [Nat.add_sub_cancel_left]
      exact hu q hq (by omega) h'
theorem append_many [Own E] {fp : List Nat} {T : Tab} {t bytes : Nat} {z : Value} (s : SlZ T t e bytes z) (ho : OS e E h v xs fp) (hn : fp.Nodup) (hl : us.length = ys.length) (hu : ∀ j (hj : j < ys.length) (hj' : j < us.length), ∀ h'', E h'' us[j] ys[j] []) (h1 : ∀ u ∈ us, u.oneCell' = true)
    (hlen : (xs.length + ys.length) * bytes ≤ 140737488355328) {base : Option Addr} {sLen sCap : Nat} (hv : v = .slice base sLen sCap) {j : TI} (hj1 : j.size = 1) (hj2 : j.bytes = bytes) (hjz : j.zero.cells.size = 1) (K : Value → Heap → Prop)
    (hk : ∀ v' h' fp', OS e E h' v' (xs ++ ys) fp' → fp'.Nodup → (∀ b ∈ fp', b ∈ fp ∨ b ∈ ([] : List Nat) ∨ h.size ≤ b) → Chg fp h h' → K v' h') :
    appendP T e j base sLen sCap ys.length us h K := by
  have hpos := s.pos
  have hl47 : xs.length + ys.length ≤ 140737488355328 := Nat.le_trans (Nat.le_mul_of_pos_right _ hpos) hlen
  unfold appendP
  rw [hj1, hj2]
  rcases ho with ⟨rfl, rfl, rfl⟩ | ⟨b, c, cur, fps, rfl, r⟩
  · injection hv with e1 e2 e3
    subst e1; subst e2; subst e3
    split
    · rename_i hc
      have : ys = [] := List.length_eq_zero_iff.1 (by omega)
      subst this
      exact hk _ _ [] OS.nil List.nodup_nil (fun b hb => by cases hb) (Chg.refl _ _)
    · rename_i hc
      refine ⟨⟨growslice_fits (by omega) (by simpa using hlen), by omega⟩, [], rfl, fun newCap h1 h2 => ?_⟩
      have hzs : (Builtin.zeroCells j.zero.cells (newCap - (0 + ys.length))).size = newCap - ys.length := by rw [zeroCells_size hjz]; omega
      have hz : (([] : List Value).toArray ++ us.toArray ++ Builtin.zeroCells j.zero.cells (newCap - (0 + ys.length)) : Array Value).size = newCap := by
        rw [Array.size_append, hzs]; simp [hl]; omega
      have := OS.mkM (xs := []) (ys := ys) (e := e) (E := E) (h := h) (cur := #[]) (fps := []) (b := h.size) (c := newCap) hl hu rfl (fun j hj => by simp at hj) (fun f hf => by cases hf) (BoxAt.new h (([] : List Value).toArray ++ us.toArray ++ Builtin.zeroCells j.zero.cells (newCap - (0 + ys.length))) e) hz h2 (by simpa using h1) (fun j hj => by simp at hj) (fun q hq => by
        rw [Array.getElem?_append_left (by simp; omega)]
        simp)
      refine hk _ _ [h.size] (by simpa using this) (by simp) (fun b hb => by simp at hb; exact .inr (.inr (by omega))) ((Ext.push _ _).chg _)
  · have hcb : sLen = xs.length ∧ sCap = c ∧ base = some ⟨b, 0, none⟩ := by
      rw [r.val] at hv
      injection hv with e1 e2 e3
      exact ⟨e2.symm, e3.symm, e1.symm⟩
    obtain ⟨rfl, rfl, rfl⟩ := hcb
    obtain ⟨hnb, hnf⟩ := List.nodup_cons.1 hn
    have hsz := r.size; have hle := r.le; have hmx := r.max
    have hbl := r.box.lt
    have flt : ∀ f ∈ fps, ∀ q ∈ f, q < h.size ∧ q ≠ b := fun f hf q hq => by
      refine ⟨?_, fun hqb => hnb (List.mem_flatten.2 ⟨f, hf, hqb ▸ hq⟩)⟩
      obtain ⟨i, hi, hif⟩ := List.getElem_of_mem hf
      obtain ⟨u', f', _, k2, k3⟩ := r.el i (by rw [← r.len]; exact hi)
      rw [List.getElem?_eq_getElem hi, hif] at k2
      injection k2 with k2
      subst k2
      exact Own.lt k3 q hq
    split
    · rename_i hc
      dsimp only
      rw [show ((⟨b, 0, none⟩ : Addr).add (xs.length * 1)) = ⟨b, xs.length, none⟩ by rw [addr_add, Nat.mul_one, Nat.zero_add], hputs_at]
      obtain ⟨h', k1, k2, k3⟩ := hputs_box (t := e) us (xs.length + 0) h cur r.box (by rw [hl]; omega) h1
      rw [k1]
      dsimp only
      have hs : (cur.toList.take (xs.length + 0) ++ us ++ cur.toList.drop (xs.length + 0 + us.length)).toArray.size = sCap := by
        simp [hl]; omega
      have hct : (cur.toList.take (xs.length + 0)).length = xs.length := by simp; omega
      have := OS.mkM (e := e) (E := E) hl hu r.len r.el (fun f hf q hq => k3.block q (flt f hf q hq).1 (by simp; exact (flt f hf q hq).2)) k2 hs hmx hc (fun i hi => by
        rw [List.getElem?_toArray, List.append_assoc, List.getElem?_append_left (by omega), List.getElem?_take, if_pos (by omega)]; simp) (fun q hq => by
        rw [List.getElem?_toArray, List.append_assoc, List.getElem?_append_right (by omega), hct, Nat.add_sub_cancel_left, List.getElem?_append_left (by omega)])
      exact hk _ _ _ this hn (fun q hq => .inl hq) (k3.mono (by simp))
    · rename_i hc
      refine ⟨⟨growslice_fits (by omega) hlen, by omega⟩, (cur.toList.drop 0).take (xs.length * 1), hcells_box r.box _ 0 (by omega), fun newCap h1 h2 => ?_⟩
      have hzs : (Builtin.zeroCells j.zero.cells (newCap - (xs.length + ys.length))).size = newCap - (xs.length + ys.length) := zeroCells_size hjz _
      have hol : ((cur.toList.drop 0).take (xs.length * 1)).length = xs.length := by simp; omega
      have hz : (((cur.toList.drop 0).take (xs.length * 1)).toArray ++ us.toArray ++ Builtin.zeroCells j.zero.cells (newCap - (xs.length + ys.length)) : Array Value).size = newCap := by
        rw [Array.size_append, hzs, Array.size_append, List.size_toArray, hol, List.size_toArray, hl]; omega
      have := OS.mkM (e := e) (E := E) (h := h) hl hu r.len r.el (fun f hf q hq => push_old (flt f hf q hq).1) (BoxAt.new h (((cur.toList.drop 0).take (xs.length * 1)).toArray ++ us.toArray ++ Builtin.zeroCells j.zero.cells (newCap - (xs.length + ys.length))) e) hz h2 h1 (fun i hi => by
        rw [Array.getElem?_append_left (by rw [Array.size_append, List.size_toArray, hol]; omega), Array.getElem?_append_left (by rw [List.size_toArray, hol]; exact hi)]
        simp only [List.drop_zero, Nat.mul_one, List.getElem?_toArray]
        rw [List.getElem?_take_of_lt hi]
        simp) (fun q hq => by
        rw [Array.getElem?_append_left (by rw [Array.size_append, List.size_toArray, hol, List.size_toArray, hl]; omega), Array.getElem?_append_right (by rw [List.size_toArray, hol]; omega), List.size_toArray, hol, Nat.add_sub_cancel_left]
        simp)
      refine hk _ _ _ this (List.nodup_cons.2 ⟨fun hm => ?_, hnf⟩) (fun q hq => ?_) ((Ext.push _ _).chg _)
      · obtain ⟨f, hf, hqf⟩ := List.mem_flatten.1 hm
        have := (flt f hf _ hqf).1
        omega
      · rcases List.mem_cons.1 hq with rfl | hq
        · exact .inr (.inr (Nat.le_refl _))
        · exact .inl (List.mem_cons_of_mem _ hq)
end
/-- Some blocks are as they were. -/
def Agr (fE : List Nat) (h0 h : Heap) : Prop := ∀ b ∈ fE, h[b]? = h0[b]?
theorem Agr.refl (fE : List Nat) (h : Heap) : Agr fE h h := fun _ _ => rfl
theorem Agr.ext {fE : List Nat} {h0 h h' : Heap} (a : Agr fE h0 h) (l : ∀ b ∈ fE, b < h.size) (e : Ext h h') : Agr fE h0 h' := fun b hb => (e.block b (l b hb)).trans (a b hb)
theorem Agr.chg {fE fp : List Nat} {h0 h h' : Heap} (a : Agr fE h0 h) (l : ∀ b ∈ fE, b < h.size) (c : Chg fp h h') (ap : ∀ b ∈ fE, b ∉ fp) : Agr fE h0 h' := fun b hb => (c.block b (l b hb) (ap b hb)).trans (a b hb)
/-- The cells of a slice that is read. -/
def rowsV (h : Heap) (u : Value) (n : Nat) : List Value := (List.range n).map (rowV h u)
theorem rowsV_len (h : Heap) (u : Value) (n : Nat) : (rowsV h u n).length = n := by simp [rowsV]
theorem rowsV_get {h : Heap} {u : Value} {n j : Nat} (hj : j < (rowsV h u n).length) : (rowsV h u n)[j] = rowV h u j := by simp [rowsV]
theorem sliceCells_RdS {α : Type} {E : Heap → Value → α → Prop} {h : Heap} {u : Value} {ys : List α} (hu : RdS E h u ys) : sliceCells h 1 ys.length u = some (rowsV h u ys.length) := by
  have hcell' := RdS.cellN hu
  obtain ⟨A, c, rfl, hA, hl, hm, hel⟩ := hu
  have key : ∀ (a : Addr) (m i : Nat), i + m ≤ ys.length → (∀ j, j < ys.length → hcell h (a.add j) = some (rowV h (.slice A ys.length c) j)) → hcells h a i m = some ((rowsV h (.slice A ys.length c) ys.length).drop i |>.take m) := by
    intro a m
    induction m with
    | zero => intro i _ _; simp [hcells]
    | succ m ih =>
      intro i hi hc
      simp only [hcells, hc i (by omega), Option.bind_some, ih (i + 1) (by omega) hc, Option.map_some]
      rw [List.drop_eq_getElem_cons (i := i) (l := rowsV h (.slice A ys.length c) ys.length) (by rw [rowsV_len]; omega), List.take_succ_cons, rowsV_get]
  cases A with
  | none =>
    have : ys = [] := List.length_eq_zero_iff.1 (by simpa using hA)
    subst this
    rfl
  | some a =>
    have := key a ys.length 0 (by omega) (fun j hj => hcell' j hj)
    simp only [sliceCells, Nat.mul_one]
    rw [this, List.drop_zero, List.take_of_length_le (by rw [rowsV_len]; exact Nat.le_refl _)]
section
variable {P : Program} {n : Nat} {K : Env → Heap → Prop} {env : Env} {h : Heap} {d : Option Tmp} {ty : TypeId} {p : String} {a : Array Edge} {g : Option (Nat × Bool)}
set_option maxRecDepth 100000 in
/-- All elements of a slice that is read are appended. -/
theorem op_appendM {α β : Type} {E : Heap → Value → α → List Nat → Prop} [Own E] {F : Heap → Value → β → Prop} {t e bytes : Nat} {z : Value} {v : Value} {xs ys : List α} {zs : List β} {fp : List Nat} {s q : Operand} (sz : SlZ TT t e bytes z) (ho : OS e E h v xs fp) (hn : fp.Nodup) (hu : RdS F h (ev env q) zs) (hl : zs.length = ys.length) (h1 : ∀ j, j < zs.length → (rowV h (ev env q) j).oneCell' = true)
    (hE : ∀ j (hj : j < ys.length), ∀ h'', E h'' (rowV h (ev env q) j) ys[j] []) (hlen : (xs.length + ys.length) * bytes ≤ 140737488355328) (hs : ev env s = v)
    (hk : ∀ v' h' fp', OS e E h' v' (xs ++ ys) fp' → fp'.Nodup → (∀ b ∈ fp', b ∈ fp ∨ b ∈ ([] : List Nat) ∨ (h.size ≤ b)) → Chg fp h h' → outv n ⟨d, .call { callee := .builtin .append, args := #[s, q], argTypes := #[t, t] }, ty, p, a, g⟩ K env h' v') :
    opP P TT n ⟨d, .call { callee := .builtin .append, args := #[s, q], argTypes := #[t, t] }, ty, p, a, g⟩ K env h := by
  obtain ⟨base, sLen, sCap, hv⟩ : ∃ base sLen sCap, v = .slice base sLen sCap := by
    rcases ho with ⟨rfl, _, _⟩ | ⟨b, c, cur, fps, _, r⟩
    · exact ⟨_, _, _, rfl⟩
    · exact ⟨_, _, _, r.val⟩
  have hu' := hu
  obtain ⟨A, c, e1, _⟩ := hu'
  rw [opP_append, sz.el, Bd_some, hs, hv, asSl_sl, Bd_some, sz.notInt, Bd_some, if_neg (by simp)]
  have h2 : asSl (ev env q) = some (A, zs.length, c) := by rw [e1]; rfl
  rw [h2, Bd_some]
  dsimp only
  rw [sliceCells_RdS hu, Bd_some, hl]
  exact append_many sz ho hn (rowsV_len _ _ _) (fun j hj hj' h'' => by rw [rowsV_get]; exact hE j hj h'') (fun u hu => by
    obtain ⟨j, hj, rfl⟩ := List.getElem_of_mem hu
    rw [rowsV_get]
    rw [rowsV_len] at hj
    exact h1 j (by omega)) hlen hv rfl rfl (by rw [sz.one]; rfl) _ hk
end
end Go.Proofs.Ytacajcjibhifmaa
