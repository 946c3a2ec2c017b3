/-
  The ground, fourteenth part: variables in memory that are written; complexes of a call's own.
  Conditions: each theorem's own.
-/
import Derived.Test.YtkdnnfkdgmblgaaG12
set_option linter.unusedVariables false
set_option linter.unusedSimpArgs false
namespace Go.Proofs.Ytkdnnfkdgmblgaa
open Go

theorem BoxAt.chg {h h' : Heap} {b : Nat} {cs : Array Value} {t : TypeId} {fp : List Nat} (hb : BoxAt h b cs t) (c : Chg fp h h') (hn : b ∉ fp) : BoxAt h' b cs t := by
  unfold BoxAt
  rw [c.block b hb.lt hn]
  exact hb
theorem hputs_box {t : TypeId} {b : Nat} : ∀ (vs : List Value) (i : Nat) (h : Heap) (cs : Array Value), BoxAt h b cs t → i + vs.length ≤ cs.size → (∀ v ∈ vs, v.oneCell' = true) →
    ∃ h', hputs ⟨b, 0, none⟩ h i vs = some h' ∧ BoxAt h' b (cs.toList.take i ++ vs ++ cs.toList.drop (i + vs.length)).toArray t ∧ Chg [b] h h'
  | [], i, h, cs, hb, hi, _ => ⟨h, rfl, by simpa using hb, Chg.refl _ _⟩
  | v :: r, i, h, cs, hb, hi, h1 => by
    have hlt : i < cs.size := by simp at hi; omega
    have hb1 : BoxAt (hset h ⟨b, i, none⟩ v) b (cs.setIfInBounds i v) t := hb.set
    obtain ⟨h', k1, k2, k3⟩ := hputs_box r (i + 1) _ _ hb1 (by simp at hi ⊢; omega) (fun u hu => h1 u (List.mem_cons_of_mem _ hu))
    refine ⟨h', ?_, ?_, (hset_chg h b i v).trans k3⟩
    · simp only [hputs, addr_add, Nat.zero_add]
      rw [if_pos ⟨by rw [hb.cell, Array.getElem?_eq_getElem hlt]; rfl, hb.frozen _, h1 v (by simp)⟩]
      exact k1
    · have e : (cs.setIfInBounds i v).toList = cs.toList.set i v := by simp
      rw [e] at k2
      have e2 : (cs.toList.set i v).take (i + 1) = cs.toList.take i ++ [v] := by
        rw [List.take_succ_eq_append_getElem (by simpa using hlt), List.take_set_of_le (Nat.le_refl _)]
        simp
      have e3 : (cs.toList.set i v).drop (i + 1 + r.length) = cs.toList.drop (i + (v :: r).length) := by
        rw [List.drop_set_of_lt (by omega)]
        simp only [List.length_cons]
        congr 1
        omega
      rw [e2, e3] at k2
      simpa using k2
theorem addr_zero (a : Addr) : a.add 0 = a := by unfold Addr.add; simp
theorem hputs_at {b o : Nat} : ∀ (vs : List Value) (i : Nat) (h : Heap), hputs ⟨b, o, none⟩ h i vs = hputs ⟨b, 0, none⟩ h (o + i) vs
  | [], i, h => rfl
  | v :: r, i, h => by
    simp only [hputs, addr_add, Nat.zero_add]
    rw [hputs_at r (i + 1)]
    rfl

section
variable {P : Program} {T : Tab} {n : Nat} {K : Env → Heap → Prop} {env : Env} {h : Heap} {d : Option Tmp} {ty : TypeId} {p : String} {a : Array Edge} {g : Option (Nat × Bool)} {t e : TypeId}
theorem op_box {x : Operand} {cs : Array Value} (hx : (ev env x).cells = cs) (hk : ∀ h', Ext h h' → BoxAt h' h.size cs e → h'.size = h.size + 1 → outv n ⟨d, .box e x, ty, p, a, g⟩ K env h' (.pointer (some ⟨h.size, 0, none⟩))) : opP P T n ⟨d, .box e x, ty, p, a, g⟩ K env h := by
  rw [opP_box, hx]
  exact hk _ (Ext.push _ _) (BoxAt.new _ _ _) (by simp)
theorem op_alloc {cs : Array Value} (hx : (T e).map (·.zero.cells) = some cs) (hk : ∀ h', Ext h h' → BoxAt h' h.size cs e → h'.size = h.size + 1 → outv n ⟨d, .alloc e, ty, p, a, g⟩ K env h' (.pointer (some ⟨h.size, 0, none⟩))) : opP P T n ⟨d, .alloc e, ty, p, a, g⟩ K env h := by
  obtain ⟨i, hi, hc⟩ := Option.map_eq_some_iff.1 hx
  rw [opP_alloc, hi, Bd_some, hc]
  exact hk _ (Ext.push _ _) (BoxAt.new _ _ _) (by simp)
/-- A store into a variable in memory, at the place o. -/
theorem op_storeB {x y : Operand} {b o m : Nat} {cs vs : Array Value} {tb : TypeId} (hst : ∀ h a v, storeV T h t a v = if v.cells.size = m then hputs a h 0 v.cells.toList else none)
    (hb : BoxAt h b cs tb) (hx : ev env x = .pointer (some ⟨b, o, none⟩)) (hy : (ev env y).cells = vs) (hm : vs.size = m) (ho : o + m ≤ cs.size) (h1 : ∀ v ∈ vs.toList, v.oneCell' = true)
    {cs' : Array Value} (hcs : (cs.toList.take o ++ vs.toList ++ cs.toList.drop (o + m)).toArray = cs')
    (hk : ∀ h', BoxAt h' b cs' tb → Chg [b] h h' → outv n ⟨d, .store t x y, ty, p, a, g⟩ K env h' undef) : opP P T n ⟨d, .store t x y, ty, p, a, g⟩ K env h := by
  rw [opP_store, hx, asAd_ptr, Bd_some, hst, hy, if_pos hm, hputs_at]
  obtain ⟨h', k1, k2, k3⟩ := hputs_box (t := tb) vs.toList (o + 0) h cs hb (by simp [hm]; omega) h1
  rw [k1, Bd_some]
  refine hk _ ?_ k3
  rw [← hcs]
  simpa [hm] using k2
end

def OC (h : Heap) (v : Value) (X : Cx) (fp : List Nat) : Prop := ∃ vd vm f1 f2, v = .agg #[.int .i64 X.p, vd, vm] ∧ O1 h vd X.dims f1 ∧ O3 h vm X.maps f2 ∧ fp = f1 ++ f2
theorem OC.rd {h : Heap} {v : Value} {X : Cx} {fp : List Nat} (ho : OC h v X fp) : RC h v X := by
  obtain ⟨vd, vm, f1, f2, e, h1, h2, _⟩ := ho
  exact ⟨vd, vm, e, OS.rd h1, OS.rd h2⟩
theorem OC.loc {h h' : Heap} {v : Value} {X : Cx} {fp : List Nat} (hl : ∀ b ∈ fp, h'[b]? = h[b]?) (ho : OC h v X fp) : OC h' v X fp := by
  obtain ⟨vd, vm, f1, f2, e, h1, h2, rfl⟩ := ho
  exact ⟨vd, vm, f1, f2, e, OS.loc (fun b hb => hl b (by simp [hb])) h1, OS.loc (fun b hb => hl b (by simp [hb])) h2, rfl⟩
theorem OC.lt {h : Heap} {v : Value} {X : Cx} {fp : List Nat} (ho : OC h v X fp) : ∀ b ∈ fp, b < h.size := by
  obtain ⟨vd, vm, f1, f2, e, h1, h2, rfl⟩ := ho
  intro b hb
  rcases List.mem_append.1 hb with hb | hb
  · exact OS.lt h1 b hb
  · exact OS.lt h2 b hb
theorem OC.ext {h h' : Heap} {v : Value} {X : Cx} {fp : List Nat} (ho : OC h v X fp) (k : Ext h h') : OC h' v X fp := OC.loc (fun b hb => k.block b (ho.lt b hb)) ho
theorem OC.chg {h h' : Heap} {v : Value} {X : Cx} {fp fq : List Nat} (ho : OC h v X fp) (k : Chg fq h h') (hd : ∀ b ∈ fp, b ∉ fq) : OC h' v X fp := OC.loc (fun b hb => k.block b (ho.lt b hb) (hd b hb)) ho

/-- New blocks, each once. -/
structure Fresh (lo : Nat) (fp : List Nat) : Prop where
  nodup : fp.Nodup
  ge : ∀ b ∈ fp, lo ≤ b
theorem Fresh.mono {lo lo' : Nat} {fp : List Nat} (f : Fresh lo fp) (h : lo' ≤ lo) : Fresh lo' fp := ⟨f.nodup, fun b hb => Nat.le_trans h (f.ge b hb)⟩
theorem Fresh.append {lo mid : Nat} {f1 f2 : List Nat} (h1 : Fresh lo f1) (hm : ∀ b ∈ f1, b < mid) (h2 : Fresh mid f2) (hl : lo ≤ mid) : Fresh lo (f1 ++ f2) :=
  ⟨List.nodup_append.2 ⟨h1.nodup, h2.nodup, fun a ha b hb e => by have := hm a ha; have := h2.ge b hb; omega⟩, fun b hb => by
    rcases List.mem_append.1 hb with hb | hb
    · exact h1.ge b hb
    · exact Nat.le_trans hl (h2.ge b hb)⟩
theorem Fresh.nil (lo : Nat) : Fresh lo [] := ⟨List.nodup_nil, fun b hb => by cases hb⟩
theorem Fresh.one (lo : Nat) : Fresh lo [lo] := ⟨by simp, fun b hb => by simp at hb; omega⟩
theorem Fresh.apart {fp fx : List Nat} {m : Nat} (hl : ∀ b ∈ fp, b < m) (f : Fresh m fx) : ∀ b ∈ fp, b ∉ fx := fun b hb hx => by have := hl b hb; have := f.ge b hx; omega
theorem Fresh.put {lo mid : Nat} {fp fx fp' : List Nat} (f : Fresh lo fp) (fx_ : Fresh mid fx) (hl : lo ≤ mid) (hn : fp'.Nodup) (hs : ∀ b ∈ fp', b ∈ fp ∨ b ∈ fx) : Fresh lo fp' :=
  ⟨hn, fun b hb => (hs b hb).elim (f.ge b) (fun h => Nat.le_trans hl (fx_.ge b h))⟩
end Go.Proofs.Ytkdnnfkdgmblgaa
