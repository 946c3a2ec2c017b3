/-
  The ground, seventeenth part: whole numbers appended many at a time.
  Conditions: each theorem's own.
-/
import Derived.Test.YtkdnnfkdgmblgaaG14
set_option linter.unusedVariables false
set_option linter.unusedSimpArgs false
namespace Go.Proofs.Ytkdnnfkdgmblgaa
open Go
def intv (xs : List Int) : List Value := xs.map (.int .i64)
theorem intv_len (xs : List Int) : (intv xs).length = xs.length := by simp [intv]
theorem flat_nil : ∀ (fps : List (List Nat)), (∀ f ∈ fps, f = []) → fps.flatten = []
  | [], _ => rfl
  | f :: r, h => by rw [List.flatten_cons, h f (by simp), flat_nil r (fun g hg => h g (List.mem_cons_of_mem _ hg))]; rfl
section
variable {e : TypeId} {h : Heap} {v : Value} {xs : List Int} {b c : Nat} {cur : Array Value} {fps : List (List Nat)}
theorem Row.ints (r : Row e OI h v xs b c cur fps) : cur.toList.take xs.length = intv xs ∧ fps.flatten = [] := by
  constructor
  · apply List.ext_getElem
    · have := r.size; have := r.le
      simp [intv_len]; omega
    · intro j h1 h2
      rw [intv_len] at h2
      obtain ⟨u, f, k1, k2, k3, k4⟩ := r.el j h2
      have hc := r.inb j h2
      rw [Array.getElem?_eq_getElem hc] at k1
      injection k1 with k1
      simp [intv, k1, k3]
  · refine flat_nil _ (fun f hf => ?_)
    obtain ⟨j, hj, rfl⟩ := List.getElem_of_mem hf
    obtain ⟨u, f', k1, k2, k3, k4⟩ := r.el j (by rw [← r.len]; exact hj)
    rw [List.getElem?_eq_getElem hj] at k2
    injection k2 with k2
    rw [k2, k4]
theorem OS.ofInts (hb : BoxAt h b cur e) (hm : cur.size ≤ 9223372036854775807) (hl : xs.length ≤ cur.size) (ht : cur.toList.take xs.length = intv xs) : OS e OI h (.slice (some ⟨b, 0, none⟩) xs.length cur.size) xs [b] := by
  refine .inr ⟨b, cur.size, cur, List.replicate xs.length [], ?_, rfl, hb, rfl, hm, hl, by simp, fun j hj => ?_⟩
  · rw [flatten_replicate_nil]
  · refine ⟨.int .i64 xs[j], [], ?_, by rw [List.getElem?_eq_getElem (by simpa using hj)]; simp, rfl, rfl⟩
    have h1 : (cur.toList.take xs.length)[j]? = (intv xs)[j]? := by rw [ht]
    rw [List.getElem?_take_of_lt hj, intv, List.getElem?_map, List.getElem?_eq_getElem hj] at h1
    simpa using h1
end
/-- What an append of whole numbers leaves. -/
theorem append_ints {e : TypeId} {h : Heap} {v : Value} {xs ys : List Int} {fp : List Nat} {T : Tab} (ho : OS e OI h v xs fp) (hlen : (xs.length + ys.length) * 8 ≤ 140737488355328) {base : Option Addr} {sLen sCap : Nat} (hv : v = .slice base sLen sCap) {j : TI} (hj1 : j.size = 1) (hj2 : j.bytes = 8) (hjz : j.zero.cells.size = 1) (K : Value → Heap → Prop)
    (hk : ∀ v' h' fp', OS e OI h' v' (xs ++ ys) fp' → fp'.Nodup → (∀ b ∈ fp', b ∈ fp ∨ b ∈ ([] : List Nat) ∨ h.size ≤ b) → Chg fp h h' → K v' h') :
    appendP T e j base sLen sCap ys.length (intv ys) h K := by
  unfold appendP
  rw [hj1, hj2]
  rcases ho with ⟨rfl, rfl, rfl⟩ | ⟨b, c, cur, fps, rfl, r⟩
  · injection hv with e1 e2 e3
    subst e1; subst e2; subst e3
    split
    · rename_i hc
      have : ys = [] := List.length_eq_zero_iff.1 (by omega)
      subst this
      exact hk _ _ [] OS.nil List.nodup_nil (fun b hb => by cases hb) (Chg.refl _ _)
    · rename_i hc
      refine ⟨⟨growslice_fits (by omega) (by simpa using hlen), by omega⟩, [], rfl, fun newCap h1 h2 => ?_⟩
      have hzs : (Builtin.zeroCells j.zero.cells (newCap - (0 + ys.length))).size = newCap - ys.length := by rw [zeroCells_size hjz]; omega
      have hz : (([] : List Value).toArray ++ (intv ys).toArray ++ Builtin.zeroCells j.zero.cells (newCap - (0 + ys.length)) : Array Value).size = newCap := by
        rw [Array.size_append, hzs]; simp [intv_len]; omega
      have := OS.ofInts (xs := ys) (BoxAt.new h (([] : List Value).toArray ++ (intv ys).toArray ++ Builtin.zeroCells j.zero.cells (newCap - (0 + ys.length))) e) (by omega) (by omega) (by
        rw [Array.toList_append, Array.toList_append]
        simp only [List.nil_append]
        rw [List.take_append_of_le_length (by simp [intv_len]), List.take_of_length_le (by simp [intv_len])])
      rw [hz] at this
      refine hk _ _ [h.size] (by simpa using this) (by simp) (fun b hb => by simp at hb; exact .inr (.inr (by omega))) ((Ext.push _ _).chg _)
  · have hcb : sLen = xs.length ∧ sCap = c ∧ base = some ⟨b, 0, none⟩ := by
      rw [r.val] at hv
      injection hv with e1 e2 e3
      exact ⟨e2.symm, e3.symm, e1.symm⟩
    obtain ⟨rfl, rfl, rfl⟩ := hcb
    obtain ⟨hi, hf⟩ := r.ints
    have hsz := r.size; have hle := r.le; have hmx := r.max
    rw [hf] at hk
    split
    · rename_i hc
      dsimp only
      rw [show ((⟨b, 0, none⟩ : Addr).add (xs.length * 1)) = ⟨b, xs.length, none⟩ by rw [addr_add, Nat.mul_one, Nat.zero_add], hputs_at]
      obtain ⟨h', k1, k2, k3⟩ := hputs_box (t := e) (intv ys) (xs.length + 0) h cur r.box (by rw [intv_len]; omega) (fun v hv => by obtain ⟨x, _, rfl⟩ := List.mem_map.1 hv; rfl)
      rw [k1]
      dsimp only
      have hs : (cur.toList.take (xs.length + 0) ++ intv ys ++ cur.toList.drop (xs.length + 0 + (intv ys).length)).toArray.size = sCap := by
        simp [intv_len]; omega
      have := OS.ofInts (xs := xs ++ ys) k2 (by omega) (by rw [hs, List.length_append]; exact hc) (by
        simp only [Nat.add_zero] at *
        rw [hi, List.take_append_of_le_length (by simp [intv_len]), List.take_of_length_le (by simp [intv_len])]
        simp [intv])
      rw [hs, List.length_append] at this
      exact hk _ _ [b] this (by simp) (fun q hq => .inl hq) k3
    · rename_i hc
      refine ⟨⟨growslice_fits (by omega) hlen, by omega⟩, (cur.toList.drop 0).take (xs.length * 1), hcells_box r.box _ 0 (by omega), fun newCap h1 h2 => ?_⟩
      have ho : (cur.toList.drop 0).take (xs.length * 1) = intv xs := by rw [List.drop_zero, Nat.mul_one, hi]
      rw [ho]
      have hzs : (Builtin.zeroCells j.zero.cells (newCap - (xs.length + ys.length))).size = newCap - (xs.length + ys.length) := zeroCells_size hjz _
      have hz : ((intv xs).toArray ++ (intv ys).toArray ++ Builtin.zeroCells j.zero.cells (newCap - (xs.length + ys.length)) : Array Value).size = newCap := by
        rw [Array.size_append, hzs]; simp [intv_len]; omega
      have := OS.ofInts (xs := xs ++ ys) (BoxAt.new h ((intv xs).toArray ++ (intv ys).toArray ++ Builtin.zeroCells j.zero.cells (newCap - (xs.length + ys.length))) e) (by omega) (by rw [hz, List.length_append]; omega) (by
        rw [Array.toList_append, Array.toList_append]
        rw [List.take_append_of_le_length (by simp [intv_len]), List.take_of_length_le (by simp [intv_len])]
        simp [intv])
      rw [hz, List.length_append] at this
      refine hk _ _ [h.size] this (by simp) (fun q hq => by simp at hq; exact .inr (.inr (by omega))) ((Ext.push _ _).chg _)
section
variable {P : Program} {n : Nat} {K : Env → Heap → Prop} {env : Env} {h : Heap} {d : Option Tmp} {ty : TypeId} {p : String} {a : Array Edge} {g : Option (Nat × Bool)}
theorem sliceCells_R1 {h : Heap} {u : Value} {ys : List Int} (hu : R1 h u ys) : sliceCells h 1 ys.length u = some (intv ys) := by
  obtain ⟨A, c, rfl, hA, hl, hm, hel⟩ := hu
  have key : ∀ (a : Addr) (m i : Nat), i + m ≤ ys.length → (∀ j (hj : j < ys.length), hcell h (a.add j) = some (.int .i64 ys[j])) → hcells h a i m = some ((intv ys).drop i |>.take m) := by
    intro a m
    induction m with
    | zero => intro i _ _; simp [hcells]
    | succ m ih =>
      intro i hi hc
      simp only [hcells, hc i (by omega), Option.bind_some, ih (i + 1) (by omega) hc, Option.map_some]
      rw [List.drop_eq_getElem_cons (i := i) (l := intv ys) (by rw [intv_len]; omega), List.take_succ_cons]
      simp [intv]
  cases A with
  | none =>
    have : ys = [] := List.length_eq_zero_iff.1 (by simpa using hA)
    subst this
    rfl
  | some a =>
    have := key a ys.length 0 (by omega) (fun j hj => by obtain ⟨u, h1, h2⟩ := hel j hj; rw [h2] at h1; exact h1)
    simp only [sliceCells, Nat.mul_one]
    rw [this, List.drop_zero, List.take_of_length_le (by rw [intv_len]; exact Nat.le_refl _)]
set_option maxRecDepth 100000 in
/-- A row that is read is appended to a row of one's own. -/
theorem op_appendR {v : Value} {xs ys : List Int} {fp : List Nat} {s q : Operand} (ho : O1 h v xs fp) (hu : R1 h (ev env q) ys) (hlen : (xs.length + ys.length) * 8 ≤ 140737488355328) (hs : ev env s = v)
    (hk : ∀ v' h' fp', O1 h' v' (xs ++ ys) fp' → fp'.Nodup → (∀ b ∈ fp', b ∈ fp ∨ b ∈ ([] : List Nat) ∨ (h.size ≤ b)) → Chg fp h h' → outv n ⟨d, .call { callee := .builtin .append, args := #[s, q], argTypes := #[22, 22] }, ty, p, a, g⟩ K env h' v') :
    opP P TT n ⟨d, .call { callee := .builtin .append, args := #[s, q], argTypes := #[22, 22] }, ty, p, a, g⟩ K env h := by
  have sz := sz22
  obtain ⟨base, sLen, sCap, hv⟩ : ∃ base sLen sCap, v = .slice base sLen sCap := by
    rcases ho with ⟨rfl, _, _⟩ | ⟨b, c, cur, fps, _, r⟩
    · exact ⟨_, _, _, rfl⟩
    · exact ⟨_, _, _, r.val⟩
  have hu' := hu
  obtain ⟨A, c, e, _⟩ := hu'
  rw [opP_append, sz.el, Bd_some, hs, hv, asSl_sl, Bd_some, sz.notInt, Bd_some, if_neg (by simp)]
  have h1 : asSl (ev env q) = some (A, ys.length, c) := by rw [e]; rfl
  rw [h1, Bd_some]
  dsimp only
  rw [sliceCells_R1 hu, Bd_some]
  exact append_ints ho hlen hv rfl rfl (by rw [sz.one]; rfl) _ hk
set_option maxRecDepth 100000 in
/-- Zeros are appended to a row of one's own. -/
theorem op_appendZ {v : Value} {xs : List Int} {fp : List Nat} {s q : Operand} {m : Int} {tx : TypeId} (htx : isIntT TT tx = some true) (ho : O1 h v xs fp) (hq : ev env q = .int .i64 m) (h0 : 0 ≤ m) (hlen : (xs.length + m.toNat) * 8 ≤ 140737488355328) (hs : ev env s = v)
    (hk : ∀ v' h' fp', O1 h' v' (xs ++ List.replicate m.toNat 0) fp' → fp'.Nodup → (∀ b ∈ fp', b ∈ fp ∨ b ∈ ([] : List Nat) ∨ (h.size ≤ b)) → Chg fp h h' → outv n ⟨d, .call { callee := .builtin .append, args := #[s, q], argTypes := #[22, tx] }, ty, p, a, g⟩ K env h' v') :
    opP P TT n ⟨d, .call { callee := .builtin .append, args := #[s, q], argTypes := #[22, tx] }, ty, p, a, g⟩ K env h := by
  have sz := sz22
  obtain ⟨base, sLen, sCap, hv⟩ : ∃ base sLen sCap, v = .slice base sLen sCap := by
    rcases ho with ⟨rfl, _, _⟩ | ⟨b, c, cur, fps, _, r⟩
    · exact ⟨_, _, _, rfl⟩
    · exact ⟨_, _, _, r.val⟩
  rw [opP_append, sz.el, Bd_some, hs, hv, asSl_sl, Bd_some, htx, Bd_some, if_pos rfl, hq, asI_int, Bd_some]
  have hb : sz.el = sz.el := rfl
  refine ⟨by rw [sz.one]; rfl, h0, by show m * 8 ≤ _; omega, by omega, ?_⟩
  have hz : (Builtin.zeroCells (Value.int .i64 0).cells m.toNat).toList = intv (List.replicate m.toNat 0) := by
    simp [Builtin.zeroCells, intv, Value.cells]
    apply List.ext_getElem
    · simp
    · intro j h1 h2
      simp [Nat.mod_one]
  have := append_ints (T := TT) (ys := List.replicate m.toNat 0) ho (by simpa using hlen) hv (j := ⟨.int .i64, 1, 8, .int .i64 0⟩) rfl rfl rfl _ hk
  rw [← hz, List.length_replicate] at this
  exact this
end
end Go.Proofs.Ytkdnnfkdgmblgaa
