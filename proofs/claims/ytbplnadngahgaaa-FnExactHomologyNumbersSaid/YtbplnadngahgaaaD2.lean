/-
  Walks: slices of slices, rows that are cleared.
  Conditions: each theorem's own.
-/
import Derived.Test.YtbplnadngahgaaaD1
set_option linter.unusedVariables false
set_option linter.unusedSimpArgs false
namespace Go.Proofs.Ytbplnadngahgaaa
open Go
abbrev O1i : Heap → Value → List Int → List Nat → Prop := OS 3 OI
theorem add_add (a : Addr) (i j : Nat) : (a.add i).add j = a.add (i + j) := by
  unfold Addr.add
  by_cases hi : i = 0
  · subst hi; simp
  · by_cases hj : j = 0
    · subst hj; simp [hi]
    · rw [if_neg hj, if_neg hi, if_neg (by omega)]; simp [Nat.add_assoc]
/-- What is left of a slice behind some elements. -/
theorem RdS.dropV {α : Type} {E : Heap → Value → α → Prop} {h : Heap} {v : Value} {xs : List α} {t e : TypeId} {k : IntKind} (hv : RdS E h v xs) (ht : SlT TT t e) {lo : Int} (h0 : 0 ≤ lo) (h1 : lo ≤ xs.length) : ∃ v', sliceV TT t v (some (.int k lo)) none none = some v' ∧ RdS E h v' (xs.drop lo.toNat) := by
  obtain ⟨A, c, rfl, hA, hc, hm, hr⟩ := hv
  obtain ⟨i, j, e1, e2, e3, e4⟩ := ht.out
  refine ⟨.slice (if c = lo.toNat then A else A.map (·.add lo.toNat)) (xs.length - lo.toNat) (c - lo.toNat), ?_, _, _, by rw [List.length_drop], ?_, by rw [List.length_drop]; omega, by omega, fun q hq => ?_⟩
  · simp only [sliceV, e1, Option.bind_some, e2, e3, bndsV, bndV, e4, Nat.mul_one]
    rw [if_pos ⟨h0, h1⟩]; rfl
  · rcases hA with hA | hA
    · left
      obtain ⟨a, rfl⟩ := Option.isSome_iff_exists.1 hA
      split <;> rfl
    · right; rw [List.length_drop]; omega
  · rw [List.length_drop] at hq
    have hs : A.isSome = true := hA.resolve_right (by omega)
    obtain ⟨a, rfl⟩ := Option.isSome_iff_exists.1 hs
    obtain ⟨u, hu, hE⟩ := hr (lo.toNat + q) (by omega)
    refine ⟨u, ?_, by rw [List.getElem_drop]; exact hE⟩
    rw [if_neg (by omega)]
    simp only [sA, Option.map_some] at hu ⊢
    rw [add_add]; exact hu
theorem flatten_take {β : Type} (l : List (List β)) (n : Nat) : (l.take n).flatten.Sublist l.flatten := by
  have h : l.flatten = (l.take n).flatten ++ (l.drop n).flatten := by rw [← List.flatten_append, List.take_append_drop]
  rw [h]; exact List.sublist_append_left _ _
section
variable {α : Type} {e : TypeId} {E : Heap → Value → α → List Nat → Prop} {h : Heap} {v : Value} {xs : List α} {fp : List Nat}
theorem OS.takeV (ho : OS e E h v xs fp) (hn : fp.Nodup) {t : TypeId} {k : IntKind} (ht : SlT TT t e) {hi : Int} (h0 : 0 ≤ hi) (h1 : hi ≤ xs.length) : ∃ v' fp', sliceV TT t v none (some (.int k hi)) none = some v' ∧ OS e E h v' (xs.take hi.toNat) fp' ∧ fp'.Nodup ∧ ∀ b ∈ fp', b ∈ fp := by
  obtain ⟨i, j, e1, e2, e3, e4⟩ := ht.out
  rcases ho with ⟨rfl, rfl, rfl⟩ | ⟨b, c, cur, fps, rfl, r⟩
  · have : hi = 0 := by simp at h1; omega
    subst this
    refine ⟨.slice none 0 0, [], ?_, OS.nil, List.nodup_nil, fun b hb => hb⟩
    simp only [sliceV, e1, Option.bind_some, e2, e3, bndsV, bndV]
    rfl
  · have hle := r.le
    have hl : (xs.take hi.toNat).length = hi.toNat := by simp; omega
    obtain ⟨hnb, hnf⟩ := List.nodup_cons.1 hn
    refine ⟨.slice (some ⟨b, 0, none⟩) hi.toNat c, b :: (fps.take hi.toNat).flatten, ?_, .inr ⟨b, c, cur, fps.take hi.toNat, rfl, ⟨by rw [hl], r.box, r.size, r.max, by rw [hl]; omega, by rw [hl, List.length_take, r.len]; omega, fun q hq => ?_⟩⟩, ?_, ?_⟩
    · rw [r.val]
      simp only [sliceV, e1, Option.bind_some, e2, e3, bndsV, bndV]
      rw [if_pos ⟨h0, by omega⟩]
      simp [addr_zero]
    · rw [hl] at hq
      obtain ⟨u, f, k1, k2, k3⟩ := r.el q (by omega)
      exact ⟨u, f, k1, by rw [List.getElem?_take, if_pos hq]; exact k2, by rw [List.getElem_take]; exact k3⟩
    · have hs : (fps.take hi.toNat).flatten.Sublist fps.flatten := flatten_take _ _
      exact List.nodup_cons.2 ⟨fun hm => hnb (hs.subset hm), hnf.sublist hs⟩
    · intro q hq
      rcases List.mem_cons.1 hq with rfl | hq
      · simp
      · exact List.mem_cons_of_mem _ ((flatten_take _ _).subset hq)
theorem Row.rowV {b c : Nat} {cur : Array Value} {fps : List (List Nat)} (r : Row e E h v xs b c cur fps) {j : Nat} {u : Value} (hu : cur[j]? = some u) : Go.Proofs.Ytbplnadngahgaaa.rowV h v j = u := by
  unfold Go.Proofs.Ytbplnadngahgaaa.rowV
  rw [r.val]
  simp only [sA]
  rw [addr_add, r.box.cell, Nat.zero_add, hu]; rfl
/-- Two elements: the one changed in place, the other stays. -/
theorem OS.two [Own E] [Inhabited α] (ho : OS e E h v xs fp) (hn : fp.Nodup) {i d : Nat} (hi : i < xs.length) (hd : d < xs.length) (hne : i ≠ d) : ∃ f, E h (rowV h v i) (xs.getD i default) f ∧ f.Nodup ∧ (∀ b ∈ f, b ∈ fp) ∧ (∀ h' x', Chg f h h' → E h' (rowV h v i) x' f → OS e E h' v (xs.set i x') fp) ∧ ∀ h', Chg f h h' → ∃ g, E h' (rowV h v d) (xs.getD d default) g := by
  have hel := OS.elem ho hn i hi
  rcases ho with ⟨_, rfl, _⟩ | ⟨b, c, cur, fps, rfl, r⟩
  · simp at hi
  · obtain ⟨u, f, h1, h2, h4⟩ := r.el i hi
    obtain ⟨u', f', k1, k2, k4⟩ := r.el d hd
    obtain ⟨hb, hfl⟩ := List.nodup_cons.1 hn
    have hfn := List.pairwise_flatten.1 hfl
    have hfm : f ∈ fps := List.mem_of_getElem? h2
    have hxi : xs.getD i default = xs[i] := by rw [List.getD_eq_getElem?_getD, List.getElem?_eq_getElem hi]; rfl
    have hxd : xs.getD d default = xs[d] := by rw [List.getD_eq_getElem?_getD, List.getElem?_eq_getElem hd]; rfl
    have hjl : i < fps.length := (List.getElem?_eq_some_iff.1 h2).1
    have hil : d < fps.length := (List.getElem?_eq_some_iff.1 k2).1
    have e1 : fps[i] = f := (List.getElem?_eq_some_iff.1 h2).2
    have e2 : fps[d] = f' := (List.getElem?_eq_some_iff.1 k2).2
    have hp := List.pairwise_iff_getElem.1 hfn.2
    have hdis : ∀ q ∈ f', q ∉ f := fun q hq hqf => by
      rcases Nat.lt_or_gt_of_ne hne with hlt | hgt
      · have := hp i d hjl hil hlt
        rw [e1, e2] at this
        exact this _ hqf _ hq rfl
      · have := hp d i hil hjl hgt
        rw [e1, e2] at this
        exact this _ hq _ hqf rfl
    have hsub : ∀ q ∈ f, q ∈ b :: fps.flatten := fun q hq => List.mem_cons_of_mem _ (List.mem_flatten.2 ⟨f, hfm, hq⟩)
    refine ⟨f, by rw [r.rowV h1, hxi]; exact h4, hfn.1 f hfm, hsub, fun h' x' hc hE => ?_, fun h' hc => ⟨f', ?_⟩⟩
    · rw [r.rowV h1] at hE
      refine .inr ⟨b, c, cur, fps, rfl, ⟨by rw [List.length_set]; exact r.val, ?_, r.size, r.max, by rw [List.length_set]; exact r.le, by rw [List.length_set]; exact r.len, fun q hq => ?_⟩⟩
      · have := hc.block b r.box.lt (fun hq => hb (List.mem_flatten.2 ⟨f, hfm, hq⟩))
        unfold BoxAt
        rw [this]; exact r.box
      · rw [List.length_set] at hq
        by_cases hij : i = q
        · subst hij
          exact ⟨u, f, h1, h2, by simpa using hE⟩
        · obtain ⟨u2, f2, l1, l2, l4⟩ := r.el q hq
          refine ⟨u2, f2, l1, l2, ?_⟩
          rw [List.getElem_set_ne hij]
          refine Own.loc (fun z hz => hc.block z (Own.lt l4 z hz) fun hzf => ?_) l4
          have hql : q < fps.length := (List.getElem?_eq_some_iff.1 l2).1
          have e3 : fps[q] = f2 := (List.getElem?_eq_some_iff.1 l2).2
          rcases Nat.lt_or_gt_of_ne hij with hlt | hgt
          · have := hp i q hjl hql hlt
            rw [e1, e3] at this
            exact this _ hzf _ hz rfl
          · have := hp q i hql hjl hgt
            rw [e1, e3] at this
            exact this _ hz _ hzf rfl
    · rw [r.rowV k1, hxd]
      exact Own.loc (fun z hz => hc.block z (Own.lt k4 z hz) (hdis z hz)) k4
/-- Two elements change their places. -/
theorem OS.swap [Own E] [Inhabited α] (ho : OS e E h v xs fp) (hn : fp.Nodup) {d a : Nat} (hd : d < xs.length) (ha : a < xs.length) :
    ((hcell h ((sA v).add d)).isSome = true ∧ hfrozen h ((sA v).add d) = false) ∧ ((hcell (hset h ((sA v).add d) (rowV h v a)) ((sA v).add a)).isSome = true ∧ hfrozen (hset h ((sA v).add d) (rowV h v a)) ((sA v).add a) = false) ∧ ((rowV h v a).oneCell' = true ∧ (rowV h v a).cells = #[rowV h v a]) ∧ ((rowV h v d).oneCell' = true ∧ (rowV h v d).cells = #[rowV h v d]) ∧
    ∃ fp', OS e E (hset (hset h ((sA v).add d) (rowV h v a)) ((sA v).add a) (rowV h v d)) v (swapP xs d a) fp' ∧ fp'.Nodup ∧ (∀ b ∈ fp', b ∈ fp) ∧ Chg fp h (hset (hset h ((sA v).add d) (rowV h v a)) ((sA v).add a) (rowV h v d)) := by
  rcases ho with ⟨_, rfl, _⟩ | ⟨b, c, cur, fps, rfl, r⟩
  · simp at hd
  · obtain ⟨ud, fd, d1, d2, d4⟩ := r.el d hd
    obtain ⟨ua, fa, a1, a2, a4⟩ := r.el a ha
    have hdc : d < cur.size := by have := r.size; have := r.le; omega
    have hac : a < cur.size := by have := r.size; have := r.le; omega
    have hdf : d < fps.length := by rw [r.len]; exact hd
    have haf : a < fps.length := by rw [r.len]; exact ha
    have had : (sA v).add d = ⟨b, d, none⟩ := by rw [r.val]; simp only [sA]; rw [addr_add, Nat.zero_add]
    have haa : (sA v).add a = ⟨b, a, none⟩ := by rw [r.val]; simp only [sA]; rw [addr_add, Nat.zero_add]
    rw [r.rowV d1, r.rowV a1, had, haa]
    have b1 := BoxAt.set (o := d) (v := ua) r.box
    have b2 := BoxAt.set (o := a) (v := ud) b1
    obtain ⟨hnb, hnf⟩ := List.nodup_cons.1 hn
    refine ⟨⟨by rw [r.box.cell, Array.getElem?_eq_getElem hdc]; rfl, r.box.frozen _⟩, ⟨by rw [b1.cell, Array.getElem?_eq_getElem (by rw [Array.size_setIfInBounds]; exact hac)]; rfl, b1.frozen _⟩, Own.one a4, Own.one d4, b :: (swapP fps d a).flatten, .inr ⟨b, c, _, swapP fps d a, rfl, ⟨by rw [swapP_len]; exact r.val, b2, by rw [Array.size_setIfInBounds, Array.size_setIfInBounds]; exact r.size, r.max, by rw [swapP_len]; exact r.le, by rw [swapP_len, swapP_len]; exact r.len, fun i hi => ?_⟩⟩, ?_, ?_, ?_⟩
    · have hi' : i < xs.length := by rw [swapP_len] at hi; exact hi
      have hif : i < fps.length := by rw [r.len]; exact hi'
      have hic : i < cur.size := by have := r.size; have := r.le; omega
      have loc : ∀ {u : Value} {x : α} {f : List Nat}, f ∈ fps → E h u x f → E (hset (hset h ⟨b, d, none⟩ ua) ⟨b, a, none⟩ ud) u x f := fun hf hE => Own.loc (fun q hq => by
        have hqb : q ≠ b := fun e => hnb (List.mem_flatten.2 ⟨_, hf, e ▸ hq⟩)
        rw [hset_other hqb, hset_other hqb]) hE
      have gx : (swapP xs d a)[i] = if a = i then xs[d] else if d = i then xs[a] else xs[i] := by
        have := swapP_get hd ha i
        rw [List.getD_eq_getElem?_getD, List.getElem?_eq_getElem hi, List.getD_eq_getElem?_getD, List.getElem?_eq_getElem hd, List.getD_eq_getElem?_getD, List.getElem?_eq_getElem ha, List.getD_eq_getElem?_getD, List.getElem?_eq_getElem hi'] at this
        exact this
      have hswl : i < (swapP fps d a).length := by rw [swapP_len]; exact hif
      have gf : (swapP fps d a)[i]? = some (if a = i then fd else if d = i then fa else fps[i]) := by
        have := swapP_get hdf haf i
        rw [List.getD_eq_getElem?_getD, List.getElem?_eq_getElem hswl, List.getD_eq_getElem?_getD, d2, List.getD_eq_getElem?_getD, a2, List.getD_eq_getElem?_getD, List.getElem?_eq_getElem hif] at this
        rw [List.getElem?_eq_getElem hswl]
        exact congrArg some this
      rw [gx, gf]
      by_cases h1 : a = i
      · subst h1
        refine ⟨ud, fd, by rw [Array.getElem?_setIfInBounds_self_of_lt (by rw [Array.size_setIfInBounds]; exact hac)], by rw [if_pos rfl], ?_⟩
        rw [if_pos rfl]; exact loc (List.mem_of_getElem? d2) d4
      · by_cases h2 : d = i
        · subst h2
          refine ⟨ua, fa, by rw [Array.getElem?_setIfInBounds_ne h1, Array.getElem?_setIfInBounds_self_of_lt hdc], by rw [if_neg h1, if_pos rfl], ?_⟩
          rw [if_neg h1, if_pos rfl]; exact loc (List.mem_of_getElem? a2) a4
        · obtain ⟨ui, fi, i1, i2, i4⟩ := r.el i hi'
          refine ⟨ui, fi, by rw [Array.getElem?_setIfInBounds_ne h1, Array.getElem?_setIfInBounds_ne h2]; exact i1, ?_, ?_⟩
          · rw [if_neg h1, if_neg h2, ← i2, List.getElem?_eq_getElem hif]
          · rw [if_neg h1, if_neg h2]; exact loc (List.mem_of_getElem? i2) i4
    · have hp := List.pairwise_flatten.1 hnf
      have hswap : ∀ i, i < fps.length → ∃ k, k < fps.length ∧ (swapP fps d a)[i]? = fps[k]? ∧ k = (if a = i then d else if d = i then a else i) := fun i hi => by
        have hswl : i < (swapP fps d a).length := by rw [swapP_len]; exact hi
        have := swapP_get hdf haf i
        rw [List.getD_eq_getElem?_getD, List.getElem?_eq_getElem hswl] at this
        refine ⟨if a = i then d else if d = i then a else i, by split; exact hdf; split; exact haf; exact hi, ?_, rfl⟩
        rw [List.getElem?_eq_getElem hswl]
        by_cases h1 : a = i
        · rw [if_pos h1] at this ⊢
          rw [List.getD_eq_getElem?_getD, List.getElem?_eq_getElem hdf] at this
          rw [List.getElem?_eq_getElem hdf]; exact congrArg some this
        · rw [if_neg h1] at this ⊢
          by_cases h2 : d = i
          · rw [if_pos h2] at this ⊢
            rw [List.getD_eq_getElem?_getD, List.getElem?_eq_getElem haf] at this
            rw [List.getElem?_eq_getElem haf]; exact congrArg some this
          · rw [if_neg h2] at this ⊢
            rw [List.getD_eq_getElem?_getD, List.getElem?_eq_getElem hi] at this
            rw [List.getElem?_eq_getElem hi]; exact congrArg some this
      have hmem : ∀ f, f ∈ swapP fps d a → f ∈ fps := fun f hf => by
        obtain ⟨i, hi, rfl⟩ := List.getElem_of_mem hf
        have hi' : i < fps.length := by rw [swapP_len] at hi; exact hi
        obtain ⟨k, hk, e, _⟩ := hswap i hi'
        rw [List.getElem?_eq_getElem hi, List.getElem?_eq_getElem hk] at e
        injection e with e
        rw [e]; exact List.getElem_mem hk
      refine List.nodup_cons.2 ⟨fun hm => ?_, List.pairwise_flatten.2 ⟨fun f hf => hp.1 f (hmem f hf), ?_⟩⟩
      · obtain ⟨f, hf, hbf⟩ := List.mem_flatten.1 hm
        exact hnb (List.mem_flatten.2 ⟨f, hmem f hf, hbf⟩)
      · rw [List.pairwise_iff_getElem]
        intro i j hi hj hij x hx y hy
        have hi' : i < fps.length := by rw [swapP_len] at hi; exact hi
        have hj' : j < fps.length := by rw [swapP_len] at hj; exact hj
        obtain ⟨k, hk, e1, k1⟩ := hswap i hi'
        obtain ⟨m, hm, e2, m1⟩ := hswap j hj'
        rw [List.getElem?_eq_getElem hi, List.getElem?_eq_getElem hk] at e1
        rw [List.getElem?_eq_getElem hj, List.getElem?_eq_getElem hm] at e2
        injection e1 with e1
        injection e2 with e2
        rw [e1] at hx
        rw [e2] at hy
        have hkm : k ≠ m := by
          rw [k1, m1]
          split <;> split <;> first | omega | (split <;> first | omega | (split <;> omega))
        have hpp := List.pairwise_iff_getElem.1 hp.2
        rcases Nat.lt_or_gt_of_ne hkm with h' | h'
        · exact hpp k m hk hm h' _ hx _ hy
        · exact (hpp m k hm hk h' _ hy _ hx).symm
    · intro q hq
      rcases List.mem_cons.1 hq with rfl | hq
      · simp
      · obtain ⟨f, hf, hbf⟩ := List.mem_flatten.1 hq
        refine List.mem_cons_of_mem _ (List.mem_flatten.2 ⟨f, ?_, hbf⟩)
        rcases List.mem_or_eq_of_mem_set hf with h1 | h1
        · rcases List.mem_or_eq_of_mem_set h1 with h2 | h2
          · exact h2
          · rw [h2, List.getD_eq_getElem?_getD, List.getElem?_eq_getElem haf]; exact List.getElem_mem haf
        · rw [h1, List.getD_eq_getElem?_getD, List.getElem?_eq_getElem hdf]; exact List.getElem_mem hdf
    · exact ((hset_chg h b d ua).trans (hset_chg _ b a ud)).mono (by simp)
end
section
variable {P : Program} {T : Tab} {n : Nat} {K : Env → Heap → Prop} {env : Env} {h : Heap} {d : Option Tmp} {ty : TypeId} {p : String} {a : Array Edge} {g : Option (Nat × Bool)} {t e : TypeId}
theorem op_raw {x y : Operand} {ad : Addr} {u : Value} (hst : ∀ h a v, storeV T h t a v = if v.cells.size = 1 then hputs a h 0 v.cells.toList else none) (h1 : (hcell h ad).isSome = true ∧ hfrozen h ad = false) (h2 : u.oneCell' = true ∧ u.cells = #[u]) (hx : ev env x = .pointer (some ad)) (hy : ev env y = u)
    (hk : outv n ⟨d, .store t x y, ty, p, a, g⟩ K env (hset h ad u) undef) : opP P T n ⟨d, .store t x y, ty, p, a, g⟩ K env h := by
  rw [opP_store, hx, hy, asAd_ptr, Bd_some, hst, h2.2]
  rw [if_pos (show #[u].size = 1 from rfl)]
  have ha : ad.add 0 = ad := by unfold Addr.add; simp
  have : hputs ad h 0 #[u].toList = some (hset h ad u) := by
    show hputs ad h 0 [u] = _
    simp only [hputs]
    rw [ha, if_pos ⟨h1.1, h1.2, h2.1⟩]
  rw [this, Bd_some]
  exact hk
end
theorem getD_mapL {R : List (List Int)} {k : Nat} (h : k < R.length) : (R.map leadP).getD k 0 = leadP (R.getD k default) := by
  rw [List.getD_eq_getElem?_getD, List.getElem?_map, List.getElem?_eq_getElem h, List.getD_eq_getElem?_getD, List.getElem?_eq_getElem h]; rfl
theorem nest_set {S : List (List Int)} {d : Nat} {r : List Int} {k : Nat} {v : Int} (hd : d < S.length) : (S.set d r).set d (((S.set d r).getD d default).set k v) = S.set d (r.set k v) := by
  rw [getD_set hd, if_pos rfl, List.set_set]
theorem mul42B {k y p : Int} (hk : 0 ≤ k ∧ k ≤ 7) (hy : 0 ≤ y ∧ y < p) (hp : p ≤ 7) : 0 ≤ k * y ∧ k * y ≤ 42 := by
  have h1 : k * y ≤ 7 * y := Int.mul_le_mul_of_nonneg_right hk.2 hy.1
  have h2 := Int.mul_nonneg hk.1 hy.1
  omega
theorem tmod_e {x p : Int} (h : 0 ≤ x) : x.tmod p = x % p := Int.tmod_eq_emod_of_nonneg h
theorem clr_val {p a k y : Int} (hk : 0 ≤ k ∧ k < p) (ha : 0 ≤ a) (hy : 0 ≤ y) : (a + (p - k) * y).tmod p = (a - k * y) % p := by
  have : 0 ≤ (p - k) * y := Int.mul_nonneg (by omega) hy
  rw [tmod_e (by omega), show a + (p - k) * y = a - k * y + p * y by rw [Int.sub_mul]; omega, Int.add_mul_emod_self_left]

set_option maxRecDepth 100000 in
theorem iInv_ok (p : Int) (x : Int) (h : Heap)  (hP : isP p = true) (hx : 0 < x ∧ x < p) : CallA Try.prog 146 #[.int .i64 p, .int .i64 x] h fun v' h' => v' = .int .i64 (invP p x) ∧ Ext h h' := by
  have hi := invP_ok hP hx.1 hx.2
  have hp := isP_two hP
  refine callA_intro TTok (args := [_, _]) Try.func146 (by kernel_rfl) rfl 15 rfl (by simp) [.tmp 4] rfl ?_
  simp only [idxs, Nat.reduceAdd]
  refine den_seq ?_
  refine den_region TTok ?_
  intro K hK
  simp -implicitDefEqProofs (disch := first | decide | assumption | omega) only [go_sem, wrap_id]
  refine hK _ _ ?_
  clear hK K
  refine den_seq ?_
  refine den_region TTok ?_
  intro K hK
  simp -implicitDefEqProofs (disch := first | decide | assumption | omega) only [go_sem, wrap_id]
  refine hK _ _ ?_
  clear hK K
  refine den_seq ?_
  refine den_block ?_
  refine den_sel [5, 0, 1] ?_
  intro env_1
  simp only [go_sem]
  refine den_loopP (σ := Int) (fun st_ => [(5, .int .i64 st_)]) (fun st_ => (1 ≤ st_ ∧ st_ ≤ invP p x)) (fun st_ => (invP p x - st_).toNat) 1 ?_ ?_
  · exact ⟨rfl, by omega, by omega⟩
  · rintro k ee2 hk
    simp only [List.cons_append, List.nil_append]
    have hkx := mul36 (x := k) (y := x) (p := p) ⟨by omega, by omega⟩ ⟨by omega, hx.2⟩ hp.2
    have hte := tmod_e (p := p) hkx.1
    have hlt : (k * x).tmod p ≠ 1 → k < invP p x := fun hne => by
      rcases Int.lt_or_eq_of_le hk.2 with h1 | h1
      · exact h1
      · rw [hte, h1] at hne; exact absurd hi.2.1 hne
    refine den_seq ?_
    refine den_seq ?_
    refine den_region TTok ?_
    intro K hK
    simp -implicitDefEqProofs (disch := first | decide | assumption | omega) only [go_sem, wrap_id]
    refine hK _ _ ?_
    clear hK K
    refine den_cond rfl (fun c0 => ?_) (fun c0 => ?_)
    · try simp only [decide_eq_true_eq, decide_eq_false_iff_not, beq_iff_eq, beq_eq_false_iff_ne, bne_iff_ne, ne_eq, Bool.not_eq_true', Bool.not_eq_false', Bool.and_eq_true, Bool.or_eq_true, bne_eq_false_iff_eq] at c0
      refine den_skip ?_
      refine den_block ?_
      refine den_region TTok ?_
      intro K hK
      simp -implicitDefEqProofs (disch := first | decide | assumption | omega) only [go_sem, wrap_id]
      refine hK _ _ ?_
      clear hK K
      refine den_blk ?_
      refine den_stop ?_
      have hl2 := hlt c0
      exact ⟨k + 1, by simp [HasL, puts_at], ⟨rfl, by first | omega | (dsimp only; omega)⟩, by first | omega | (dsimp only; omega)⟩
    · try simp only [decide_eq_true_eq, decide_eq_false_iff_not, beq_iff_eq, beq_eq_false_iff_ne, bne_iff_ne, ne_eq, Bool.not_eq_true', Bool.not_eq_false', Bool.and_eq_true, Bool.or_eq_true, bne_eq_false_iff_eq] at c0
      refine den_exit ?_
      refine denX_code ?_
      refine denX_stop ?_
      refine denX_hit ?_
      refine den_seq ?_
      refine den_region TTok ?_
      intro K hK
      simp -implicitDefEqProofs (disch := first | decide | assumption | omega) only [go_sem, wrap_id]
      refine hK _ _ ?_
      clear hK K
      refine den_ret ?_
      simp (disch := decide) only [resP_1, puts_same, puts_ne]
      have e : invP p x = k := by
        rcases Int.lt_or_eq_of_le hk.2 with h1 | h1
        · rw [hte] at c0; exact absurd c0 (hi.2.2 k hk.1 h1)
        · exact h1.symm
      exact ⟨vint e.symm, (Ext.refl _)⟩

set_option maxRecDepth 100000 in
theorem sInv_ok (p : Int) (x : Int) (h : Heap)  (hP : isP p = true) (hx : 0 < x ∧ x < p) : CallA Try.prog 127 #[.int .i64 p, .int .i64 x] h fun v' h' => v' = .int .i64 (invP p x) ∧ Ext h h' := by
  have hi := invP_ok hP hx.1 hx.2
  have hp := isP_two hP
  have hxm : x % p = x := Int.emod_eq_of_lt (by omega) hx.2
  refine callA_intro TTok (args := [_, _]) Try.func127 (by kernel_rfl) rfl 20 rfl (by simp) [.tmp 4] rfl ?_
  simp only [idxs, Nat.reduceAdd]
  refine den_seq ?_
  refine den_region TTok ?_
  intro K hK
  simp -implicitDefEqProofs (disch := first | decide | assumption | omega) only [go_sem, wrap_id]
  refine hK _ _ ?_
  clear hK K
  refine den_seq ?_
  refine den_seq ?_
  refine den_region TTok ?_
  intro K hK
  simp -implicitDefEqProofs (disch := first | decide | assumption | omega) only [go_sem, wrap_id]
  refine hK _ _ ?_
  clear hK K
  refine den_block ?_
  refine den_sel [5, 0, 1] ?_
  intro env_1
  simp only [go_sem]
  refine den_loopS (σ := Int) (fun st_ => [(5, .int .i64 st_)]) (fun st_ H => (1 ≤ st_ ∧ st_ ≤ invP p x) ∧ (Ext h H)) (fun st_ => (invP p x - st_).toNat) 1 ?_ ?_
  · exact ⟨⟨by omega, by omega⟩, Ext.refl _⟩
  · rintro k h4 ee3 ⟨hk, cL2⟩
    have := Ext.size cL2
    have eB := cL2
    simp only [List.cons_append, List.nil_append]
    have hkx := mul36 (x := k) (y := x % p) (p := p) ⟨by omega, by omega⟩ ⟨by omega, by omega⟩ hp.2
    have hte := tmod_e (p := p) hkx.1
    rw [hxm] at hte hkx
    have hlt : (k * x).tmod p ≠ 1 → k < invP p x := fun hne => by
      rcases Int.lt_or_eq_of_le hk.2 with h1 | h1
      · exact h1
      · rw [hte, h1] at hne; exact absurd hi.2.1 hne
    refine den_seq ?_
    refine den_seq ?_
    refine den_region TTok ?_
    intro K hK
    simp -implicitDefEqProofs (disch := first | decide | assumption | omega) only [go_sem, wrap_id]
    refine hK _ _ ?_
    clear hK K
    refine den_cond rfl (fun c0 => ?_) (fun c0 => ?_)
    · try simp only [decide_eq_true_eq, decide_eq_false_iff_not, beq_iff_eq, beq_eq_false_iff_ne, bne_iff_ne, ne_eq, Bool.not_eq_true', Bool.not_eq_false', Bool.and_eq_true, Bool.or_eq_true, bne_eq_false_iff_eq] at c0
      refine den_skip ?_
      refine den_seq ?_
      refine den_block ?_
      refine den_seq ?_
      rw [← hxm] at hkx
      refine den_region TTok ?_
      intro K hK
      simp -implicitDefEqProofs (disch := first | decide | assumption | omega) only [go_sem, wrap_id]
      try simp -implicitDefEqProofs (disch := first | decide | assumption | omega) only [go_sem, wrap_id]
      refine CallA.mono (sMod_ok  p x _  (by omega) (by omega)) ?_
      intro v_ h4_3
      rintro ⟨rfl, e4_3⟩
      have := Ext.size e4_3
      replace eB := Ext.trans eB e4_3
      replace cL2 := Ext.trans cL2 e4_3
      try simp -implicitDefEqProofs (disch := first | decide | assumption | omega) only [go_sem, wrap_id]
      refine hK _ _ ?_
      clear hK K
      refine den_cond rfl (fun c1 => ?_) (fun c1 => ?_)
      · try simp only [decide_eq_true_eq, decide_eq_false_iff_not, beq_iff_eq, beq_eq_false_iff_ne, bne_iff_ne, ne_eq, Bool.not_eq_true', Bool.not_eq_false', Bool.and_eq_true, Bool.or_eq_true, bne_eq_false_iff_eq] at c1
        refine den_seq ?_
        refine den_region TTok ?_
        intro K hK
        simp -implicitDefEqProofs (disch := first | decide | assumption | omega) only [go_sem, wrap_id]
        refine hK _ _ ?_
        clear hK K
        refine den_ret ?_
        simp (disch := decide) only [resP_1, puts_same, puts_ne]
        have e : invP p x = k := by
          rcases Int.lt_or_eq_of_le hk.2 with h1 | h1
          · have h2 := c1
            rw [hxm, hte] at h2; exact absurd h2 (hi.2.2 k hk.1 h1)
          · exact h1.symm
        exact ⟨vint e.symm, eB⟩
      · try simp only [decide_eq_true_eq, decide_eq_false_iff_not, beq_iff_eq, beq_eq_false_iff_ne, bne_iff_ne, ne_eq, Bool.not_eq_true', Bool.not_eq_false', Bool.and_eq_true, Bool.or_eq_true, bne_eq_false_iff_eq] at c1
        refine den_skip ?_
        refine den_blk ?_
        refine den_region TTok ?_
        intro K hK
        simp -implicitDefEqProofs (disch := first | decide | assumption | omega) only [go_sem, wrap_id]
        refine hK _ _ ?_
        clear hK K
        refine den_stop ?_
        have hl2 := hlt (by have h1 := c1; rw [hxm] at h1; exact h1)
        exact ⟨k + 1, by simp [HasL, puts_at], ⟨by first | omega | (dsimp only; omega), cL2⟩, by first | omega | (dsimp only; omega)⟩
    · try simp only [decide_eq_true_eq, decide_eq_false_iff_not, beq_iff_eq, beq_eq_false_iff_ne, bne_iff_ne, ne_eq, Bool.not_eq_true', Bool.not_eq_false', Bool.and_eq_true, Bool.or_eq_true, bne_eq_false_iff_eq] at c0
      refine den_exit ?_
      refine denX_code ?_
      refine denX_stop ?_
      refine denX_hit ?_
      refine den_seq ?_
      refine den_region TTok ?_
      intro K hK
      simp -implicitDefEqProofs (disch := first | decide | assumption | omega) only [go_sem, wrap_id]
      refine hK _ _ ?_
      clear hK K
      refine den_ret ?_
      simp (disch := decide) only [resP_1, puts_same, puts_ne]
      exact absurd hk.2 (by omega)

set_option maxRecDepth 100000 in
theorem clear_ok (p k : Int) (v u : Value) (a b : List Int) (f : List Nat) (h : Heap) (ho : O1 h v a f) (hn : f.Nodup) (rb : R1 h u b) (hk : ∀ h', Chg f h h' → R1 h' u b) (hp : 0 < p ∧ p ≤ 7) (hl : b.length = a.length) (ha : Bnd p a) (hb : Bnd p b) (hx : 0 ≤ k ∧ k < p) : CallA Try.prog 110 #[v, u, .int .i64 p, .int .i64 k] h fun v' h' => v' = .tuple #[] ∧ O1 h' v (lessRow p k a b) f ∧ Chg f h h' := by
  have hfr : Fresh 0 f := ⟨hn, fun b _ => Nat.zero_le b⟩
  have hle := OS.len_le ho
  have hleb := RdS.le rb
  refine callA_intro TTok (args := [_, _, _, _]) Try.func110 (by kernel_rfl) rfl 33 rfl (by simp) [] rfl ?_
  simp only [idxs, Nat.reduceAdd]
  have hlho := OS.lt ho
  have cA : Chg f h h := Chg.refl _ _
  refine den_seq ?_
  refine den_region TTok ?_
  intro K hK
  simp -implicitDefEqProofs (disch := first | decide | assumption | omega) only [go_sem, RdS.len (OS.rd ho) sl22, RdS.idx (OS.rd ho) sl22, R1.intN (OS.rd ho), RdS.cells (OS.rd ho), wrap_id, RdS.len rb sl22]
  refine hK _ _ ?_
  clear hK K
  refine den_block ?_
  refine den_sel [12, 0, 2, 3, 10, 11] ?_
  intro env_1
  simp only [go_sem]
  refine den_loopS (σ := Nat) (fun st_ => [(12, .int .i64 (st_ : Int))]) (fun st_ H => (st_ ≤ b.length) ∧ (O1 H v (mix (lessRow p k a b) a st_) f) ∧ (Chg f h H)) (fun st_ => b.length - st_) 0 ?_ ?_
  · exact ⟨by first | (simp; done) | (dsimp only; omega) | (simp; omega), by rw [mix_zero]; exact ho, Chg.refl _ _⟩
  · rintro j h4 ee3 ⟨hi0, hO, cL2⟩
    have := cL2.size
    replace cA := Chg.step cA cL2 Sub.refl
    have sbhO : Sub f h.size f := Sub.refl
    have hfhO := hfr
    have sb5 : Sub f h.size f := Sub.trans sbhO Sub.refl (by omega)
    have hlhO := hlho
    simp only [List.cons_append, List.nil_append]
    have rbH := hk _ cA
    have hml := mix_len (lessRow p k a b) a j (lessRow_len _ _ _ _)
    refine den_seq ?_
    refine den_region TTok ?_
    intro K hK
    simp -implicitDefEqProofs (disch := first | decide | assumption | omega) only [go_sem, RdS.len (OS.rd hO) sl22, RdS.idx (OS.rd hO) sl22, R1.intN (OS.rd hO), RdS.cells (OS.rd hO), wrap_id]
    refine hK _ _ ?_
    clear hK K
    refine den_seq ?_
    refine den_cond rfl (fun c0 => ?_) (fun c0 => ?_)
    · try simp only [decide_eq_true_eq, decide_eq_false_iff_not, beq_iff_eq, beq_eq_false_iff_ne, bne_iff_ne, ne_eq, Bool.not_eq_true', Bool.not_eq_false', Bool.and_eq_true, Bool.or_eq_true, bne_eq_false_iff_eq] at c0
      refine den_skip ?_
      refine den_seq ?_
      refine den_block ?_
      refine den_seq ?_
      refine den_region TTok ?_
      intro K hK
      simp -implicitDefEqProofs (disch := first | decide | assumption | omega) only [go_sem, ld2, RdS.len (OS.rd hO) sl22, RdS.idx (OS.rd hO) sl22, R1.intN (OS.rd hO), RdS.cells (OS.rd hO), wrap_id, RdS.idx rb sl22, R1.intN rbH]
      refine hK _ _ ?_
      clear hK K
      have hxa := ha.at (k := j) (by omega)
      have hxb := hb.at (k := j) (by omega)
      have hky := mul42B (k := p - k) ⟨by omega, by omega⟩ hxb hp.2
      have hmg := mix_get (lessRow p k a b) a j 0 (lessRow_len _ _ _ _) (by omega)
      have hcv := clr_val hx hxa.1 hxb.1
      refine den_region TTok ?_
      intro K hK
      simp -implicitDefEqProofs (disch := first | decide | assumption | omega) only [go_sem, ld2, RdS.len (OS.rd hO) sl22, RdS.idx (OS.rd hO) sl22, R1.intN (OS.rd hO), RdS.cells (OS.rd hO), wrap_id]
      refine op_store1 (j := j) st2 hO hfhO.nodup (by first | omega | (simp; omega)) rfl rfl ?_
      intro h3_15 ho3_15 c3_15
      have hsz3_15 := c3_15.size
      have := c3_15.size
      replace cA := Chg.step cA c3_15 sb5
      replace cL2 := Chg.step cL2 c3_15 sbhO
      have hlho3_15 := hlhO
      have hlenho3_15 : ((mix (lessRow p k a b) a j).set j (Int.tmod (((mix (lessRow p k a b) a j).getD j 0) + ((p - k) * (b.getD j 0))) p) : List Int).length = (mix (lessRow p k a b) a j : List Int).length := List.length_set
      try simp -implicitDefEqProofs (disch := first | decide | assumption | omega) only [go_sem, RdS.len (OS.rd ho3_15) sl22, RdS.idx (OS.rd ho3_15) sl22, R1.intN (OS.rd ho3_15), RdS.cells (OS.rd ho3_15), wrap_id]
      refine hK _ _ ?_
      clear hK K
      refine den_blk ?_
      refine den_region TTok ?_
      intro K hK
      simp -implicitDefEqProofs (disch := first | decide | assumption | omega) only [go_sem, RdS.len (OS.rd ho3_15) sl22, RdS.idx (OS.rd ho3_15) sl22, R1.intN (OS.rd ho3_15), RdS.cells (OS.rd ho3_15), wrap_id]
      refine hK _ _ ?_
      clear hK K
      refine den_stop ?_
      rw [hmg, hcv, ← lessRow_get p k (by omega), mix_set _ _ _ _ (lessRow_len _ _ _ _) (by omega)] at ho3_15
      exact ⟨j + 1, by simp [HasL, puts_at], ⟨by first | omega | (dsimp only; omega), ho3_15, cL2⟩, by first | omega | (dsimp only; omega)⟩
    · try simp only [decide_eq_true_eq, decide_eq_false_iff_not, beq_iff_eq, beq_eq_false_iff_ne, bne_iff_ne, ne_eq, Bool.not_eq_true', Bool.not_eq_false', Bool.and_eq_true, Bool.or_eq_true, bne_eq_false_iff_eq] at c0
      refine den_exit ?_
      refine denX_code ?_
      refine denX_stop ?_
      refine denX_hit ?_
      refine den_nil ?_
      simp (disch := decide) only [resP_0, puts_same, puts_ne]
      rw [mix_end _ _ _ (lessRow_len _ _ _ _) (by omega)] at hO
      exact ⟨by first | rfl | trivial, hO, cA⟩

end Go.Proofs.Ytbplnadngahgaaa
