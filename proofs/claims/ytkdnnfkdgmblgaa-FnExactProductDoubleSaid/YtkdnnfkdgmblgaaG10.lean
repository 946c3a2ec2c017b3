/-
  The ground, eleventh part: make, slice literals, append and store upon what is a call's own.
  Conditions: each theorem's own.
-/
import Derived.Test.YtkdnnfkdgmblgaaG9
set_option linter.unusedVariables false
set_option linter.unusedSimpArgs false
namespace Go.Proofs.Ytkdnnfkdgmblgaa
open Go

theorem SlZ.out {T : Tab} {t e : TypeId} {bytes : Nat} {z : Value} (s : SlZ T t e bytes z) : ∃ i j, T t = some i ∧ i.desc = .slice e ∧ T e = some j ∧ j.size = 1 ∧ j.bytes = bytes ∧ j.zero = z := by
  obtain ⟨i, h1, h2, h3⟩ := elT_some s.el
  exact ⟨i, _, h1, h2, h3, rfl, rfl, rfl⟩

theorem range_mod1 (m : Nat) (z : Value) : (Array.range (m * 1)).map (fun q => (if m * 1 = 0 then #[] else #[z])[q % (if m * 1 = 0 then (#[] : Array Value) else #[z]).size]!) = Array.replicate m z := by
  rw [Nat.mul_one]
  by_cases h : m = 0
  · subst h; simp
  · simp only [h, if_false]
    apply Array.ext
    · simp
    · intro i h1 h2
      simp [Nat.mod_one]
theorem mk_zero {T : Tab} {t e : TypeId} {bytes : Nat} {z : Value} (s : SlZ T t e bytes z) (h : Heap) (k k' : IntKind) (l : Int) (h0 : 0 ≤ l) (h1 : bytes * l ≤ 281474976710656) :
    makeSliceV T h t (.int k l) (.int k' l) = some (.slice (some ⟨h.size, 0, none⟩) l.toNat l.toNat, h.push (.cells (Array.replicate l.toNat z) e)) := by
  obtain ⟨i, j, e1, e2, e3, e4, e5, e6⟩ := s.out
  have hb := s.pos
  have hl : l ≤ 281474976710656 := by
    have : (1 : Int) * l ≤ bytes * l := Int.mul_le_mul_of_nonneg_right (by omega) h0
    omega
  have hr := range_mod1 l.toNat z
  simp only [makeSliceV, e1, e2, e3, Option.bind_some, asI, e4, e5, e6, s.one]
  rw [if_pos ⟨h0, Int.le_refl _, h1, hl⟩, hr]

theorem fill_one (place : Nat → Option (Nat × Nat)) (z u : Value) (hp : place 0 = some (0, 1)) (hu : u.cells = #[u]) : Instr.fill place #[z] [(0, u)] = some #[u] := by
  simp [Instr.fill, hp, hu]
theorem bs_zero {T : Tab} {t e : TypeId} {bytes : Nat} {z : Value} (s : SlZ T t e bytes z) (h : Heap) : buildSliceV T h t 0 [] = some (.slice (some ⟨h.size, 0, none⟩) 0 0, h.push (.cells #[] e)) := by
  obtain ⟨i, j, e1, e2, e3, e4, e5, e6⟩ := s.out
  have : Array.range 0 = #[] := rfl
  simp [buildSliceV, e1, e2, e3, e4, Instr.fill, this]
theorem bs_one {T : Tab} {t e : TypeId} {bytes : Nat} {z : Value} (s : SlZ T t e bytes z) (h : Heap) (u : Value) (hu : u.cells = #[u]) : buildSliceV T h t 1 [(0, u)] = some (.slice (some ⟨h.size, 0, none⟩) 1 1, h.push (.cells #[u] e)) := by
  obtain ⟨i, j, e1, e2, e3, e4, e5, e6⟩ := s.out
  have hr := range_mod1 1 z
  simp only [buildSliceV, e1, e2, e3, Option.bind_some, e4, e6, s.one]
  rw [if_pos (by omega)]
  simp only [Nat.mul_one] at hr ⊢
  rw [hr]
  rw [show Array.replicate 1 z = #[z] from rfl, fill_one _ z u rfl hu]
  rfl

section
variable {α : Type} {e : TypeId} {E : Heap → Value → α → List Nat → Prop} {h h' : Heap} {v : Value} {xs : List α} {fp : List Nat}

/-- A new row. -/
theorem OS.new (h : Heap) (cs : Array Value) (xs : List α) (fps : List (List Nat)) (hl : fps.length = xs.length) (hm : cs.size ≤ 9223372036854775807) (hxl : xs.length ≤ cs.size)
    (hel : ∀ j (hj : j < xs.length), ∃ u f, cs[j]? = some u ∧ fps[j]? = some f ∧ E (h.push (.cells cs e)) u xs[j] f) : OS e E (h.push (.cells cs e)) (.slice (some ⟨h.size, 0, none⟩) xs.length cs.size) xs (h.size :: fps.flatten) :=
  .inr ⟨h.size, cs.size, cs, fps, rfl, rfl, BoxAt.new _ _ _, rfl, hm, hxl, hl, hel⟩
theorem OS.empty (h : Heap) : OS e E (h.push (.cells #[] e)) (.slice (some ⟨h.size, 0, none⟩) 0 0) [] [h.size] :=
  OS.new h #[] [] [] rfl (by simp) (by simp) (fun j hj => by simp at hj)
theorem flatten_replicate_nil {β : Type} : ∀ m : Nat, (List.replicate m ([] : List β)).flatten = []
  | 0 => rfl
  | m + 1 => by rw [List.replicate_succ, List.flatten_cons, flatten_replicate_nil m]; rfl
theorem OS.zeros (h : Heap) (m : Nat) (hm : m ≤ 9223372036854775807) (z : Value) (x : α) (hz : ∀ h, E h z x []) : OS e E (h.push (.cells (Array.replicate m z) e)) (.slice (some ⟨h.size, 0, none⟩) m m) (List.replicate m x) [h.size] := by
  have := OS.new (e := e) (E := E) h (Array.replicate m z) (List.replicate m x) (List.replicate m []) (by simp) (by simpa using hm) (by simp) (fun j hj => ⟨z, [], by
    simp only [List.length_replicate] at hj
    rw [Array.getElem?_eq_getElem (by simpa using hj)]
    simp, by
    simp only [List.length_replicate] at hj
    rw [List.getElem?_eq_getElem (by simpa using hj)]; simp, by
    simp only [List.getElem_replicate]; exact hz _⟩)
  rw [flatten_replicate_nil] at this
  simpa using this

theorem hcells_box {h : Heap} {b : Nat} {cur : Array Value} {t : TypeId} (hb : BoxAt h b cur t) : ∀ (n i : Nat), i + n ≤ cur.size → hcells h ⟨b, 0, none⟩ i n = some ((cur.toList.drop i).take n)
  | 0, i, _ => by simp [hcells]
  | n + 1, i, hi => by
    have hlt : i < cur.size := by omega
    simp only [hcells, addr_add, Nat.zero_add, hb.cell, Array.getElem?_eq_getElem hlt, Option.bind_some, hcells_box hb n (i + 1) (by omega), Option.map_some]
    have e : cur.toList.drop i = cur[i] :: cur.toList.drop (i + 1) := by
      rw [List.drop_eq_getElem_cons (by simpa using hlt)]
      simp
    rw [e, List.take_succ_cons]
theorem push_old {h : Heap} {o : Obj} {q : Nat} (hq : q < h.size) : (h.push o)[q]? = h[q]? := by
  rw [Array.getElem?_push, if_neg (by omega)]

theorem Row.inb {b c : Nat} {cur : Array Value} {fps : List (List Nat)} (r : Row e E h v xs b c cur fps) (j : Nat) (hj : j < xs.length) : j < cur.size := by have := r.size; have := r.le; omega

theorem zeroCells_size {z : Array Value} (hz : z.size = 1) (m : Nat) : (Builtin.zeroCells z m).size = m := by simp [Builtin.zeroCells, hz]
/-- What an append of one element leaves. -/
theorem append_one [Own E] {T : Tab} {t bytes : Nat} {z : Value} (s : SlZ T t e bytes z) (ho : OS e E h v xs fp) (hn : fp.Nodup) {u : Value} {x : α} {fx : List Nat} (hu : E h u x fx) (hnx : fx.Nodup) (hd : ∀ b ∈ fp, b ∉ fx)
    (hlen : (xs.length + 1) * bytes ≤ 140737488355328) {base : Option Addr} {sLen sCap : Nat} (hv : v = .slice base sLen sCap) {j : TI} (hj1 : j.size = 1) (hj2 : j.bytes = bytes) (hjz : j.zero.cells.size = 1) (K : Value → Heap → Prop)
    (hk : ∀ v' h' fp', OS e E h' v' (xs ++ [x]) fp' → fp'.Nodup → (∀ b ∈ fp', b ∈ fp ∨ b ∈ fx ∨ (h.size ≤ b)) → Chg fp h h' → K v' h') :
    appendP T e j base sLen sCap 1 [u] (h.push (.cells #[u] e)) K := by
  have hone := (Own.one hu).1
  have hpos := s.pos
  have hl47 : xs.length + 1 ≤ 140737488355328 := Nat.le_trans (Nat.le_mul_of_pos_right _ hpos) hlen
  unfold appendP
  rw [hj1, hj2]
  rcases ho with ⟨rfl, rfl, rfl⟩ | ⟨b, c, cur, fps, rfl, r⟩
  · injection hv with e1 e2 e3
    subst e1; subst e2; subst e3
    rw [if_neg (by omega)]
    refine ⟨⟨growslice_fits (by omega) (by simpa using hlen), by omega⟩, [], rfl, fun newCap h1 h2 => ?_⟩
    have hE : ∀ o, E ((h.push (.cells #[u] e)).push o) u x fx := fun o => Own.loc (fun q hq => by
      have := Own.lt hu q hq
      rw [push_old (by rw [Array.size_push]; omega), push_old this]) hu
    have hzs : (Builtin.zeroCells j.zero.cells (newCap - (0 + 1))).size = newCap - 1 := zeroCells_size hjz _
    have hz : (([] : List Value).toArray ++ [u].toArray ++ Builtin.zeroCells j.zero.cells (newCap - (0 + 1)) : Array Value).size = newCap := by
      rw [Array.size_append, hzs]; simp; omega
    have hns := OS.new (e := e) (E := E) (h.push (.cells #[u] e)) (([] : List Value).toArray ++ [u].toArray ++ Builtin.zeroCells j.zero.cells (newCap - (0 + 1))) [x] [fx] rfl (by omega) (by rw [hz]; simpa using h1) (fun i hi => by
      simp only [List.length_singleton] at hi
      have : i = 0 := by omega
      subst this
      exact ⟨u, fx, by rw [Array.getElem?_append_left (by simp)]; simp, rfl, hE _⟩)
    rw [hz] at hns
    refine hk _ _ _ hns ?_ ?_ ⟨by simp; omega, fun q hq _ => by rw [push_old (by rw [Array.size_push]; omega), push_old hq]⟩
    · simp only [List.flatten_cons, List.flatten_nil, List.append_nil, Array.size_push]
      exact List.nodup_cons.2 ⟨fun hm => by have := Own.lt hu _ hm; omega, hnx⟩
    · intro q hq
      simp only [List.flatten_cons, List.flatten_nil, List.append_nil, Array.size_push, List.mem_cons] at hq
      rcases hq with rfl | hq
      · exact .inr (.inr (by omega))
      · exact .inr (.inl hq)
  · have hcb : sLen = xs.length ∧ sCap = c ∧ base = some ⟨b, 0, none⟩ := by
      rw [r.val] at hv
      injection hv with e1 e2 e3
      exact ⟨e2.symm, e3.symm, e1.symm⟩
    obtain ⟨rfl, rfl, rfl⟩ := hcb
    obtain ⟨hnb, hnf⟩ := List.nodup_cons.1 hn
    have hbl := r.box.lt
    have hbox1 : BoxAt (h.push (.cells #[u] e)) b cur e := r.box.ext (Ext.push _ _)
    have helt : ∀ j (hj : j < xs.length), ∃ u f, cur[j]? = some u ∧ fps[j]? = some f ∧ E h u xs[j] f ∧ (∀ q ∈ f, q < h.size ∧ q ≠ b) := by
      intro j hj
      obtain ⟨u, f, k1, k2, k3⟩ := r.el j hj
      refine ⟨u, f, k1, k2, k3, fun q hq => ⟨Own.lt k3 q hq, fun hqb => hnb ?_⟩⟩
      subst hqb
      exact List.mem_flatten.2 ⟨f, List.mem_of_getElem? k2, hq⟩
    have hmemfp : ∀ q, q ∈ b :: (fps ++ [fx]).flatten → q ∈ b :: fps.flatten ∨ q ∈ fx := by
      intro q hq
      simp only [List.flatten_append, List.flatten_cons, List.flatten_nil, List.append_nil, List.mem_cons, List.mem_append] at hq ⊢
      rcases hq with hq | hq | hq
      · exact .inl (.inl hq)
      · exact .inl (.inr hq)
      · exact .inr hq
    have hndn : ((fps ++ [fx]).flatten).Nodup := by
      simp only [List.flatten_append, List.flatten_cons, List.flatten_nil, List.append_nil]
      refine List.nodup_append.2 ⟨hnf, hnx, fun p hp q hq hpq => ?_⟩
      subst hpq
      exact hd p (List.mem_cons_of_mem _ hp) hq
    split
    · rename_i hc
      -- in place
      have hlt : xs.length < cur.size := by have := r.size; omega
      have ha : ((⟨b, 0, none⟩ : Addr).add (xs.length * 1)) = ⟨b, xs.length, none⟩ := by rw [addr_add, Nat.mul_one, Nat.zero_add]
      have hput : hputs ((⟨b, 0, none⟩ : Addr).add (xs.length * 1)) (h.push (.cells #[u] e)) 0 [u] = some (hset (h.push (.cells #[u] e)) ⟨b, xs.length, none⟩ u) := by
        rw [ha]
        simp only [hputs, addr_add, Nat.add_zero]
        rw [if_pos ⟨by rw [hbox1.cell, Array.getElem?_eq_getElem hlt]; rfl, hbox1.frozen _, hone⟩]
      dsimp only
      rw [hput]
      dsimp only
      refine hk _ _ (b :: (fps ++ [fx]).flatten) (.inr ⟨b, sCap, cur.setIfInBounds xs.length u, fps ++ [fx], rfl, ⟨by simp, hbox1.set, by rw [Array.size_setIfInBounds]; exact r.size, r.max, by simpa using hc, by simp [r.len], fun i hi => ?_⟩⟩) ?_ ?_ ?_
      · rw [List.length_append, List.length_singleton] at hi
        by_cases hil : i < xs.length
        · obtain ⟨u', f', k1, k2, k3, k4⟩ := helt i hil
          refine ⟨u', f', by rw [Array.getElem?_setIfInBounds_ne (by omega)]; exact k1, by rw [List.getElem?_append_left (by rw [r.len]; exact hil)]; exact k2, ?_⟩
          rw [List.getElem_append_left hil]
          exact Own.loc (fun q hq => by rw [hset_other (k4 q hq).2, push_old (k4 q hq).1]) k3
        · have hie : i = xs.length := by omega
          subst hie
          refine ⟨u, fx, by rw [Array.getElem?_setIfInBounds_self_of_lt hlt], by rw [List.getElem?_append_right (by rw [r.len]; omega), r.len]; simp, ?_⟩
          rw [List.getElem_append_right (Nat.le_refl _)]
          simp only [Nat.sub_self, List.getElem_cons_zero]
          exact Own.loc (fun q hq => by
            have hq1 := Own.lt hu q hq
            have hqb : q ≠ b := fun e => hd b (by simp) (e ▸ hq)
            rw [hset_other hqb, push_old hq1]) hu
      · refine List.nodup_cons.2 ⟨fun hm => ?_, hndn⟩
        simp only [List.flatten_append, List.flatten_cons, List.flatten_nil, List.append_nil, List.mem_append] at hm
        rcases hm with hm | hm
        · exact hnb hm
        · exact hd b (by simp) hm
      · intro q hq
        rcases hmemfp q hq with h1 | h1
        · exact .inl h1
        · exact .inr (.inl h1)
      · refine ⟨by rw [hset_size, Array.size_push]; omega, fun q hq hnq => ?_⟩
        rw [hset_other (fun e => hnq (by rw [e]; simp)), push_old hq]
    · rename_i hc
      refine ⟨⟨growslice_fits (by have := r.le; omega) hlen, by have := r.max; have := r.le; omega⟩, (cur.toList.drop 0).take (xs.length * 1), ?_, fun newCap h1 h2 => ?_⟩
      · dsimp only
        exact hcells_box hbox1 _ 0 (by have := r.size; have := r.le; omega)
      · have hzs : (Builtin.zeroCells j.zero.cells (newCap - (xs.length + 1))).size = newCap - (xs.length + 1) := zeroCells_size hjz _
        have hol : ((cur.toList.drop 0).take (xs.length * 1)).length = xs.length := by
          have := r.size; have := r.le
          simp; omega
        have hz : (((cur.toList.drop 0).take (xs.length * 1)).toArray ++ [u].toArray ++ Builtin.zeroCells j.zero.cells (newCap - (xs.length + 1)) : Array Value).size = newCap := by
          rw [Array.size_append, hzs, Array.size_append, List.size_toArray, hol]
          simp; omega
        have hns := OS.new (e := e) (E := E) (h.push (.cells #[u] e)) (((cur.toList.drop 0).take (xs.length * 1)).toArray ++ [u].toArray ++ Builtin.zeroCells j.zero.cells (newCap - (xs.length + 1))) (xs ++ [x]) (fps ++ [fx]) (by simp [r.len]) (by omega) (by rw [hz]; simpa using h1) (fun i hi => by
          rw [List.length_append, List.length_singleton] at hi
          by_cases hil : i < xs.length
          · obtain ⟨u', f', k1, k2, k3, k4⟩ := helt i hil
            have hic := r.inb i hil
            refine ⟨u', f', ?_, by rw [List.getElem?_append_left (by rw [r.len]; exact hil)]; exact k2, ?_⟩
            · rw [Array.getElem?_append_left (by rw [Array.size_append, List.size_toArray, hol]; simp; omega), Array.getElem?_append_left (by rw [List.size_toArray, hol]; exact hil)]
              rw [← k1]
              simp only [List.drop_zero, Nat.mul_one, List.getElem?_toArray]
              rw [List.getElem?_take_of_lt hil]
              simp
            · rw [List.getElem_append_left hil]
              exact Own.loc (fun q hq => by rw [push_old (by rw [Array.size_push]; have := (k4 q hq).1; omega), push_old (k4 q hq).1]) k3
          · have hie : i = xs.length := by omega
            subst hie
            refine ⟨u, fx, ?_, by rw [List.getElem?_append_right (by rw [r.len]; omega), r.len]; simp, ?_⟩
            · rw [Array.getElem?_append_left (by rw [Array.size_append, List.size_toArray, hol]; simp), Array.getElem?_append_right (by rw [List.size_toArray, hol]; omega)]
              rw [List.size_toArray, hol]
              simp
            · rw [List.getElem_append_right (Nat.le_refl _)]
              simp only [Nat.sub_self, List.getElem_cons_zero]
              exact Own.loc (fun q hq => by
                have hq1 := Own.lt hu q hq
                rw [push_old (by rw [Array.size_push]; omega), push_old hq1]) hu)
        rw [hz, List.length_append, List.length_singleton] at hns
        refine hk _ _ _ hns ?_ ?_ ⟨by simp; omega, fun q hq _ => by rw [push_old (by rw [Array.size_push]; omega), push_old hq]⟩
        · rw [Array.size_push]
          refine List.nodup_cons.2 ⟨fun hm => ?_, hndn⟩
          rcases hmemfp _ (List.mem_cons_of_mem _ hm) with h3 | h3
          · rcases List.mem_cons.1 h3 with h4 | h4
            · omega
            · obtain ⟨f, hf, hqf⟩ := List.mem_flatten.1 h4
              obtain ⟨jj, hjj, hjf⟩ := List.getElem_of_mem hf
              obtain ⟨u', f', k1, k2, k3, k4⟩ := helt jj (by rw [← r.len]; exact hjj)
              rw [List.getElem?_eq_getElem hjj, hjf] at k2
              injection k2 with k2
              subst k2
              have := (k4 _ hqf).1
              omega
          · have := Own.lt hu _ h3; omega
        · intro q hq
          rw [Array.size_push] at hq
          rcases List.mem_cons.1 hq with rfl | hq
          · exact .inr (.inr (by omega))
          · rcases hmemfp q (List.mem_cons_of_mem _ hq) with h1 | h1
            · exact .inl h1
            · exact .inr (.inl h1)
end
end Go.Proofs.Ytkdnnfkdgmblgaa
