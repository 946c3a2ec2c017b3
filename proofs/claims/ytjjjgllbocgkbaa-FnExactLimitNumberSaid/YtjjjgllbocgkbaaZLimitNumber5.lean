/-
  What the statement FnExactLimitNumber uses of the walks, part 5.
  Conditions: each theorem's own.
-/
import Derived.Test.YtjjjgllbocgkbaaG16
import Derived.Test.YtjjjgllbocgkbaaG17
import Derived.Test.YtjjjgllbocgkbaaG14
import Derived.Test.YtjjjgllbocgkbaaG13
import Derived.Test.YtjjjgllbocgkbaaG15
import Derived.Test.YtjjjgllbocgkbaaG18
import Derived.Test.YtjjjgllbocgkbaaG19
import Derived.Test.YtjjjgllbocgkbaaZLimitNumber1
import Derived.Test.YtjjjgllbocgkbaaZLimitNumber2
import Derived.Test.YtjjjgllbocgkbaaZLimitNumber3
import Derived.Test.YtjjjgllbocgkbaaZLimitNumber4
set_option linter.unusedVariables false
set_option linter.unusedSimpArgs false
namespace Go.Proofs.Ytjjjgllbocgkbaa
open Go
theorem bs2R (h : Heap) (A B : Option Addr) (n c m d : Nat) : buildSliceV TT h 23 2 [(0, .slice A n c), (1, .slice B m d)] = some (.slice (some ⟨h.size, 0, none⟩) 2 2, h.push (.cells #[.slice A n c, .slice B m d] 26)) := by kernel_rfl
section
variable {P : Program} {n : Nat} {K : Env → Heap → Prop} {env : Env} {h : Heap} {d : Option Tmp} {ty : TypeId} {p : String} {a : Array Edge} {g : Option (Nat × Bool)}
set_option maxRecDepth 100000 in
theorem op_bs2R {x y : Operand} {f g' : List (List Int)} (hx : R2 h (ev env x) f) (hy : R2 h (ev env y) g') (hk : ∀ v' h', R3 h' v' [f, g'] → Ext h h' → outv n ⟨d, .buildSlice 23 2 #[(0, x), (1, y)], ty, p, a, g⟩ K env h' v') :
  opP P TT n ⟨d, .buildSlice 23 2 #[(0, x), (1, y)], ty, p, a, g⟩ K env h := by
 have hx' := hx
 obtain ⟨A, c, e1, _⟩ := hx'
 have hy' := hy
 obtain ⟨B, c2, e2, _⟩ := hy'
 rw [opP_buildSlice]
 have : (#[(0, x), (1, y)].map (fun (i, x) => (i, ev env x)) : Array (Nat × Value)).toList = [(0, .slice A f.length c), (1, .slice B g'.length c2)] := by simp [e1, e2]
 rw [this, bs2R, Bd_some]
 have ex := Ext.push h (.cells #[.slice A f.length c, .slice B g'.length c2] 26)
 have hb := BoxAt.new h #[.slice A f.length c, .slice B g'.length c2] 26
 refine hk _ _ ⟨some ⟨h.size, 0, none⟩, 2, rfl, .inl rfl, by simp, by omega, fun j hj => ?_⟩ ex
 have hj' : j = 0 ∨ j = 1 := by simp at hj; omega
 rcases hj' with rfl | rfl
 ·exact ⟨.slice A f.length c, by simp only [sA, addr_add, hb.cell]; rfl, by rw [e1] at hx; exact hx.pres ex.pres⟩
 ·exact ⟨.slice B g'.length c2, by simp only [sA, addr_add, hb.cell]; rfl, by rw [e2] at hy; exact hy.pres ex.pres⟩
set_option maxRecDepth 100000 in
theorem op_appendZ2 {v : Value} {xs : List (List Int)} {fp : List Nat} {s q : Operand} {m : Int} {tx : TypeId} (htx : isIntT TT tx = some true) (ho : O2 h v xs fp) (hn : fp.Nodup) (hq : ev env q = .int .i64 m) (h0 : 0 ≤ m) (hlen : (xs.length + m.toNat) * 24 ≤ 140737488355328) (hs : ev env s = v)
  (hk : ∀ v' h' fp', O2 h' v' (xs ++ List.replicate m.toNat []) fp' → fp'.Nodup → (∀ b ∈ fp', b ∈ fp ∨ b ∈ ([] : List Nat) ∨ (h.size ≤ b)) → Chg fp h h' → outv n ⟨d, .call { callee := .builtin .append, args := #[s, q], argTypes := #[26, tx] }, ty, p, a, g⟩ K env h' v') :
  opP P TT n ⟨d, .call { callee := .builtin .append, args := #[s, q], argTypes := #[26, tx] }, ty, p, a, g⟩ K env h := by
 have sz := sz26
 obtain ⟨base, sLen, sCap, hv⟩ : ∃ base sLen sCap, v = .slice base sLen sCap := by
  rcases ho with ⟨rfl, _, _⟩ | ⟨b, c, cur, fps, _, r⟩
  ·exact ⟨_, _, _, rfl⟩
  ·exact ⟨_, _, _, r.val⟩
 rw [opP_append, sz.el, Bd_some, hs, hv, asSl_sl, Bd_some, htx, Bd_some, if_pos rfl, hq, asI_int, Bd_some]
 refine ⟨by rw [sz.one]; rfl, h0, by show m * 24 ≤ _; omega, by omega, ?_⟩
 have hz : (Builtin.zeroCells (Value.slice none 0 0).cells m.toNat).toList = List.replicate m.toNat (Value.slice none 0 0) := by
  simp [Builtin.zeroCells, Value.cells]
  apply List.ext_getElem
  ·simp
  ·intro j h1 h2
   simp [Nat.mod_one]
 have := append_many (E := O1) (T := TT) (us := List.replicate m.toNat (Value.slice none 0 0)) (ys := List.replicate m.toNat ([] : List Int)) sz ho hn (by simp) (fun j hj hj' h'' => by simp only [List.getElem_replicate]; exact OS.nil) (fun u hu => by rw [(List.mem_replicate.1 hu).2]; rfl) (by simpa using hlen) hv (j := ⟨((TT 22).map (·.desc)).getD .bool, 1, 24, .slice none 0 0⟩) rfl rfl rfl _ hk
 rw [← hz, List.length_replicate] at this
 exact this
end
theorem nilS26 : sliceV TT 26 (.slice none 0 0) none (some (.int .i64 0)) none = some (.slice none 0 0) := by kernel_rfl
theorem capN26 : capV TT 26 (.slice none 0 0) = some (.int .i64 0) := by kernel_rfl
theorem lenN26 : lenV TT 26 (.slice none 0 0) = some (.int .i64 0) := by kernel_rfl
theorem flat_take {α : Type} {L : List (List α)} {k : Nat} (h : k < L.length) : (L.take k).flatten ++ L.getD k default = (L.take (k + 1)).flatten := by
 rw [List.take_succ_eq_append_getElem h, List.flatten_append, List.getD_eq_getElem?_getD, List.getElem?_eq_getElem h]; simp
theorem flat_le {α : Type} (L : List (List α)) (k : Nat) : (L.take k).flatten.length ≤ L.flatten.length := by
 conv => rhs; rw [← List.take_append_drop k L, List.flatten_append, List.length_append]
 omega
theorem flat_end {α : Type} {L : List (List α)} {k : Nat} (h : ¬ k < L.length) : (L.take k).flatten = L.flatten := by rw [List.take_of_length_le (by omega)]
theorem lv_bnd {X : Fl} (h : IsF X) {n i : Int} (hn : 0 ≤ n ∧ n ≤ (X.c.dims.length : Int) - 1) (hi : 0 ≤ i ∧ i < dimP X.c n) : 0 ≤ lvP X n i ∧ lvP X n i ≤ 5 := by
 have h1 := h.ln
 have h2 := h.rl n.toNat (by omega)
 have h3 := h.rr n.toNat (by omega)
 have hd : dimP X.c n = X.c.dims.getD n.toNat 0 := by rw [dimP, if_pos (in3_iff.2 ⟨by omega, by omega⟩)]
 have hl : i.toNat < (X.lv.getD n.toNat default).length := by omega
 have h4 := List.all_eq_true.1 h3 _ (List.getElem_mem hl)
 unfold lvP
 rw [List.getD_eq_getElem?_getD, List.getElem?_eq_getElem hl]
 exact in3_iff.1 h4
/-- Levels are not negative: what lies more than all levels back is nothing. -/
theorem rowT_all {X : Fl} (h : IsF X) {n i t t' : Int} (ht : t < 0) (ht' : t' < 0) (h0 : 0 ≤ n - 1 ∧ n - 1 ≤ (X.c.dims.length : Int) - 1) (m : Nat) (hm : (m : Int) ≤ dimP X.c (n - 1)) : rowT X n i t m = rowT X n i t' m := by
 unfold rowT
 congr 1
 apply List.filter_congr
 intro k hk
 have hk := List.mem_range.1 hk
 have hl := lv_bnd h (n := n - 1) (i := (k : Int)) (by omega) (by omega)
 rw [decide_eq_false (show ¬ lvP X (n - 1) (k : Int) ≤ t by omega), decide_eq_false (show ¬ lvP X (n - 1) (k : Int) ≤ t' by omega)]

theorem far_back {X : Fl} (h : IsF X) {r r' n q : Int} (hn : 0 ≤ n ∧ n ≤ (X.c.dims.length : Int) - 1) (h1 : q - r < 0) (h2 : q - r' < 0) : nearP X r n q = nearP X r' n q := by
 have e : rowsP X n q (q - r) = rowsP X n q (q - r') := by
  unfold rowsP rowsN
  apply List.map_congr_left
  intro z _
  by_cases h0 : 0 ≤ n - 1
  ·have hd := dimP_bnd h.c (n - 1)
   exact rowT_all h h1 h2 ⟨h0, by omega⟩ _ (by omega)
  ·rw [dimP_out (n := n - 1) (by omega)]; rfl
 unfold nearP wideP
 rw [e]
/-- Cycles of a level with boundaries. -/
noncomputable def heldP (X : Fl) (n q : Int) : Int := ((ech X.c.p (nearP X 6 n q ++ bndP X.c n)).length : Int)
noncomputable def limP (X : Fl) (n q : Int) : Int := heldP X n q - heldP X n (q - 1)
theorem held_tbl {X : Fl} (h : IsF X) {n : Int} (hn : 0 ≤ n) (r q : Int) : ∀ x ∈ nearP X r n q ++ bndP X.c n, x.length = (dimP X.c n).toNat ∧ Bnd X.c.p x := fun x hx => by
 rcases List.mem_append.1 hx with h1 | h1
 ·exact near_tbl h.c r n q x h1
 ·obtain ⟨l, r⟩ := bnd_rr h.c hn
  exact r.tbl x h1
theorem held_len {X : Fl} (h : IsF X) {n : Int} (hn : 0 ≤ n) (r q : Int) : (nearP X r n q ++ bndP X.c n).length ≤ 16 ∧ (bndP X.c n).length ≤ 8 := by
 have h1 := near_len h.c r n q
 obtain ⟨l, r⟩ := bnd_rr h.c hn
 have h2 := r.le_w
 have h3 := dimP_bnd h.c n
 rw [List.length_append]
 omega
theorem held_b {X : Fl} (h : IsF X) {n : Int} (hn : 0 ≤ n) (q : Int) : 0 ≤ heldP X n q ∧ heldP X n q ≤ 8 := by
 obtain ⟨⟨l, r⟩, _⟩ := ech_red h.c.p (held_tbl h hn 6 q)
 have h1 := r.le_w
 have h2 := dimP_bnd h.c n
 unfold heldP
 omega

set_option maxRecDepth 100000 in
theorem grow2_ok (n : Int) (h : Heap) (hn : 0 ≤ n ∧ n ≤ 1000) : CallA Try.prog 206 #[.slice none 0 0, .int .i64 n] h fun v' h' => ∃ w f, v' = w ∧ O2 h' w [] f ∧ Fresh h.size f ∧ Ext h h' := by
 refine callA_intro TTok (args := [_, _]) Try.func206 (by kernel_rfl) rfl 27 rfl (by simp) [.tmp 4] rfl ?_
 simp only [idxs, Nat.reduceAdd]
 refine den_seq ?_
 refine den_region TTok ?_
 intro K hK
 simp -implicitDefEqProofs (disch := first | decide | assumption | omega) only [go_sem, wrap_id, capN26, lenN26]
 refine hK _ _ ?_
 clear hK K
 refine den_seq ?_
 refine den_seq ?_
 refine den_region TTok ?_
 intro K hK
 simp -implicitDefEqProofs (disch := first | decide | assumption | omega) only [go_sem, wrap_id, capN26, lenN26]
 refine hK _ _ ?_
 clear hK K
 refine den_cond rfl (fun c0 => ?_) (fun c0 => ?_)
 ·try simp only [decide_eq_true_eq, decide_eq_false_iff_not, beq_iff_eq, beq_eq_false_iff_ne, bne_iff_ne, ne_eq, Bool.not_eq_true', Bool.not_eq_false', Bool.and_eq_true, Bool.or_eq_true, bne_eq_false_iff_eq] at c0
  exact absurd c0 (by omega)
 ·try simp only [decide_eq_true_eq, decide_eq_false_iff_not, beq_iff_eq, beq_eq_false_iff_ne, bne_iff_ne, ne_eq, Bool.not_eq_true', Bool.not_eq_false', Bool.and_eq_true, Bool.or_eq_true, bne_eq_false_iff_eq] at c0
  refine den_skip ?_
  refine den_seq ?_
  refine den_seq ?_
  refine den_region TTok ?_
  intro K hK
  simp -implicitDefEqProofs (disch := first | decide | assumption | omega) only [go_sem, wrap_id, capN26, lenN26]
  refine hK _ _ ?_
  clear hK K
  refine den_seq ?_
  refine den_region TTok ?_
  intro K hK
  simp -implicitDefEqProofs (disch := first | decide | assumption | omega) only [go_sem, wrap_id, capN26, lenN26]
  refine hK _ _ ?_
  clear hK K
  refine den_cond rfl (fun c1 => ?_) (fun c1 => ?_)
  ·try simp only [decide_eq_true_eq, decide_eq_false_iff_not, beq_iff_eq, beq_eq_false_iff_ne, bne_iff_ne, ne_eq, Bool.not_eq_true', Bool.not_eq_false', Bool.and_eq_true, Bool.or_eq_true, bne_eq_false_iff_eq] at c1
   refine den_region TTok ?_
   intro K hK
   simp -implicitDefEqProofs (disch := first | decide | assumption | omega) only [go_sem, wrap_id, capN26, lenN26, nilS26, Option.map_some, Option.map_none]
   have hnilg : O2 h (.slice none 0 0) [] [] := OS.nil
   have hfnilg : Fresh h.size [] := Fresh.nil _
   have hlhnilg := OS.lt hnilg
   refine op_appendZ2 (m := n - (0 - 0)) (by kernel_rfl) hnilg hfnilg.nodup rfl (by omega) (by simp; omega) rfl ?_
   intro v5_5 h5_5 fp5_5 ho5_5 hn5_5 hs5_5 c5_5
   have hsz5_5 := c5_5.size
   have hfho5_5 : Fresh h.size fp5_5 := Fresh.appd hfnilg (Fresh.nil h.size) (by omega) (by omega) hn5_5 hs5_5
   have := c5_5.size
   have hlho5_5 := OS.lt ho5_5
   obtain ⟨vt, ft, het, hot, hnt, hst⟩ := OS.takeV ho5_5 hfho5_5.nodup sl26 (k := .i64) (hi := 0) (Int.le_refl 0) (Int.natCast_nonneg _)
   try simp -implicitDefEqProofs (disch := first | decide | assumption | omega) only [go_sem, RdS.len (OS.rd ho5_5) sl26, RdS.idx (OS.rd ho5_5) sl26, RdS.cellN (OS.rd ho5_5), RdS.cells (OS.rd ho5_5), wrap_id, capN26, lenN26, nilS26, Option.map_some, Option.map_none, het]
   refine hK _ _ ?_
   clear hK K
   refine den_seq ?_
   refine den_region TTok ?_
   intro K hK
   simp -implicitDefEqProofs (disch := first | decide | assumption | omega) only [go_sem, wrap_id, capN26, lenN26]
   refine hK _ _ ?_
   clear hK K
   refine den_ret ?_
   simp (disch := decide) only [resP_1, puts_same, puts_ne]
   exact ⟨_, _, rfl, hot, ⟨hnt, fun b hb => hfho5_5.ge b (hst b hb)⟩, Chg.ext c5_5⟩
  ·try simp only [decide_eq_true_eq, decide_eq_false_iff_not, beq_iff_eq, beq_eq_false_iff_ne, bne_iff_ne, ne_eq, Bool.not_eq_true', Bool.not_eq_false', Bool.and_eq_true, Bool.or_eq_true, bne_eq_false_iff_eq] at c1
   refine den_skip ?_
   refine den_seq ?_
   refine den_region TTok ?_
   intro K hK
   simp -implicitDefEqProofs (disch := first | decide | assumption | omega) only [go_sem, wrap_id, capN26, lenN26]
   refine hK _ _ ?_
   clear hK K
   refine den_ret ?_
   simp (disch := decide) only [resP_1, puts_same, puts_ne]
   exact ⟨.slice none 0 0, [], rfl, OS.nil, Fresh.nil _, (Ext.refl _)⟩

set_option maxRecDepth 100000 in
set_option maxHeartbeats 4000000 in
theorem concat2_ok (vL : Value) (L : List (List (List Int))) (h : Heap) (rL : R3 h vL L) (hl : L.length ≤ 1000 ∧ L.flatten.length ≤ 1000) : CallA Try.prog 146 #[vL] h fun v' h' => ∃ w0, v' = w0 ∧ R2 h' w0 (L.flatten) ∧ Ext h h' := by
 have hleL := RdS.le rL
 refine callA_intro TTok (args := [_]) Try.func146 (by kernel_rfl) rfl 36 rfl (by simp) [.tmp 2] rfl ?_
 simp only [idxs, Nat.reduceAdd]
 refine den_seq ?_
 refine den_region TTok ?_
 intro K hK
 simp -implicitDefEqProofs (disch := first | decide | assumption | omega) only [go_sem, wrap_id]
 refine hK _ _ ?_
 clear hK K
 refine den_seq ?_
 refine den_region TTok ?_
 intro K hK
 simp -implicitDefEqProofs (disch := first | decide | assumption | omega) only [go_sem, wrap_id]
 refine hK _ _ ?_
 clear hK K
 refine den_seq ?_
 refine den_seq ?_
 refine den_region TTok ?_
 intro K hK
 simp -implicitDefEqProofs (disch := first | decide | assumption | omega) only [go_sem, RdS.len rL sl23, RdS.idx rL sl23, RdS.cellB rL (HPres.refl _), RdS.cells rL, wrap_id]
 refine hK _ _ ?_
 clear hK K
 refine den_block ?_
 refine den_sel [3, 11, 0, 9, 10] ?_
 intro env_1
 simp only [go_sem]
 refine den_loopS (σ := Nat × Int) (fun st_ => [(3, .int .i64 st_.2), (11, .int .i64 (st_.1 : Int))]) (fun st_ H => (st_.1 ≤ L.length) ∧ (st_.2 = (((L.take st_.1).flatten.length : Nat) : Int)) ∧ (Ext h H)) (fun st_ => L.length - st_.1) (0, 0) ?_ ?_
 ·exact ⟨by omega, by simp, Ext.refl _⟩
 ·rintro ⟨k, z⟩ h4 ee3 ⟨hk, hz, cL2⟩
  dsimp only at hk hz cL2
  have := Ext.size cL2
  have eB := cL2
  simp only [List.cons_append, List.nil_append]
  have hfk0 := flat_le L k
  refine den_seq ?_
  refine den_region TTok ?_
  intro K hK
  simp -implicitDefEqProofs (disch := first | decide | assumption | omega) only [go_sem, wrap_id]
  refine hK _ _ ?_
  clear hK K
  refine den_seq ?_
  refine den_cond rfl (fun c0 => ?_) (fun c0 => ?_)
  ·try simp only [decide_eq_true_eq, decide_eq_false_iff_not, beq_iff_eq, beq_eq_false_iff_ne, bne_iff_ne, ne_eq, Bool.not_eq_true', Bool.not_eq_false', Bool.and_eq_true, Bool.or_eq_true, bne_eq_false_iff_eq] at c0
   refine den_skip ?_
   refine den_seq ?_
   refine den_block ?_
   refine den_seq ?_
   refine den_region TTok ?_
   intro K hK
   have hr5 := RdS.rowN rL k (by omega)
   have hlhr5 := RdS.le hr5
   simp -implicitDefEqProofs (disch := first | decide | assumption | omega) only [go_sem, ld26, RdS.len rL sl23, RdS.idx rL sl23, RdS.cellB rL (Ext.pres eB), RdS.cells rL, RdS.len hr5 sl26, RdS.idx hr5 sl26, RdS.cellB hr5 (Ext.pres eB), RdS.cells hr5, wrap_id]
   refine hK _ _ ?_
   clear hK K
   refine den_seq ?_
   have hfk := flat_le L k
   have hfk1 := flat_le L (k + 1)
   have hfs := flat_take (L := L) (k := k) (by omega)
   have hfl := congrArg List.length hfs
   rw [List.length_append] at hfl
   refine den_region TTok ?_
   intro K hK
   simp -implicitDefEqProofs (disch := first | decide | assumption | omega) only [go_sem, RdS.len hr5 sl26, RdS.idx hr5 sl26, RdS.cellB hr5 (Ext.pres eB), RdS.cells hr5, wrap_id]
   refine hK _ _ ?_
   clear hK K
   refine den_seq ?_
   refine den_region TTok ?_
   intro K hK
   simp -implicitDefEqProofs (disch := first | decide | assumption | omega) only [go_sem, wrap_id]
   refine hK _ _ ?_
   clear hK K
   refine den_cond rfl (fun c1 => ?_) (fun c1 => ?_)
   ·try simp only [decide_eq_true_eq, decide_eq_false_iff_not, beq_iff_eq, beq_eq_false_iff_ne, bne_iff_ne, ne_eq, Bool.not_eq_true', Bool.not_eq_false', Bool.and_eq_true, Bool.or_eq_true, bne_eq_false_iff_eq] at c1
    exact absurd c1 (by omega)
   ·try simp only [decide_eq_true_eq, decide_eq_false_iff_not, beq_iff_eq, beq_eq_false_iff_ne, bne_iff_ne, ne_eq, Bool.not_eq_true', Bool.not_eq_false', Bool.and_eq_true, Bool.or_eq_true, bne_eq_false_iff_eq] at c1
    refine den_skip ?_
    refine den_blk ?_
    refine den_region TTok ?_
    intro K hK
    simp -implicitDefEqProofs (disch := first | decide | assumption | omega) only [go_sem, wrap_id]
    refine hK _ _ ?_
    clear hK K
    refine den_stop ?_
    exact ⟨(k + 1, z + ((L.getD k default).length : Int)), by simp [HasL, puts_at], ⟨by first | omega | (dsimp only; omega), by dsimp only; omega, cL2⟩, by first | omega | (dsimp only; omega)⟩
  ·try simp only [decide_eq_true_eq, decide_eq_false_iff_not, beq_iff_eq, beq_eq_false_iff_ne, bne_iff_ne, ne_eq, Bool.not_eq_true', Bool.not_eq_false', Bool.and_eq_true, Bool.or_eq_true, bne_eq_false_iff_eq] at c0
   refine den_exit ?_
   refine denX_code ?_
   refine denX_stop ?_
   refine denX_hit ?_
   refine den_seq ?_
   refine den_region TTok ?_
   intro K hK
   simp -implicitDefEqProofs (disch := first | decide | assumption | omega) only [go_sem, wrap_id]
   try simp -implicitDefEqProofs (disch := first | decide | assumption | omega) only [go_sem, wrap_id]
   refine CallA.mono (grow2_ok z _ (by omega)) ?_
   intro vw9_1 h9_1
   rintro ⟨zw9_1, fw9_1, rfl, how9_1, hfw9_1, e9_1⟩
   have := Ext.size e9_1
   replace eB := Ext.trans eB e9_1
   have hlhow9_1 := OS.lt how9_1
   try simp -implicitDefEqProofs (disch := first | decide | assumption | omega) only [go_sem, RdS.len (OS.rd how9_1) sl26, RdS.idx (OS.rd how9_1) sl26, RdS.cellN (OS.rd how9_1), RdS.cells (OS.rd how9_1), wrap_id]
   refine hK _ _ ?_
   clear hK K
   refine den_seq ?_
   refine den_seq ?_
   refine den_region TTok ?_
   intro K hK
   simp -implicitDefEqProofs (disch := first | decide | assumption | omega) only [go_sem, RdS.len rL sl23, RdS.idx rL sl23, RdS.cellB rL (Ext.pres eB), RdS.cells rL, wrap_id]
   refine hK _ _ ?_
   clear hK K
   refine den_block ?_
   replace how9_1 : O2R h _ _ _ _ := O2R.nil how9_1
   refine den_sel [6, 27, 25, 26] ?_
   intro env_6
   simp only [go_sem]
   refine den_loopS (σ := Nat × Value × List Nat) (fun st_ => [(6, st_.2.1), (27, .int .i64 (st_.1 : Int))]) (fun st_ H => (st_.1 ≤ L.length) ∧ (O2R h H st_.2.1 ((L.take st_.1).flatten) st_.2.2) ∧ (Fresh (h4.size) st_.2.2) ∧ (Sub fw9_1 h9_1.size st_.2.2) ∧ (Chg fw9_1 h9_1 H)) (fun st_ => L.length - st_.1) (0, vw9_1, fw9_1) ?_ ?_
   ·exact ⟨by first | (simp; done) | (dsimp only; omega) | (simp; omega), by simpa using how9_1, hfw9_1, Sub.refl, Chg.refl _ _⟩
   ·rintro ⟨k, vhO, fphO⟩ h9 ee8 ⟨hi0, hO, hfhO, sbhO, cL7⟩
    dsimp only at hi0 hO hfhO sbhO cL7
    have := cL7.size
    replace eB := Ext.then eB cL7 (ge_of hfw9_1 (by omega))
    have hlhO := OS.lt hO
    simp only [List.cons_append, List.nil_append]
    refine den_seq ?_
    refine den_region TTok ?_
    intro K hK
    simp -implicitDefEqProofs (disch := first | decide | assumption | omega) only [go_sem, wrap_id]
    refine hK _ _ ?_
    clear hK K
    refine den_seq ?_
    refine den_cond rfl (fun c2 => ?_) (fun c2 => ?_)
    ·try simp only [decide_eq_true_eq, decide_eq_false_iff_not, beq_iff_eq, beq_eq_false_iff_ne, bne_iff_ne, ne_eq, Bool.not_eq_true', Bool.not_eq_false', Bool.and_eq_true, Bool.or_eq_true, bne_eq_false_iff_eq] at c2
     refine den_skip ?_
     refine den_seq ?_
     refine den_block ?_
     refine den_seq ?_
     refine den_region TTok ?_
     intro K hK
     have hr10 := RdS.rowN rL k (by omega)
     have hlhr10 := RdS.le hr10
     simp -implicitDefEqProofs (disch := first | decide | assumption | omega) only [go_sem, ld26, RdS.len rL sl23, RdS.idx rL sl23, RdS.cellB rL (Ext.pres eB), RdS.cells rL, RdS.len hr10 sl26, RdS.idx hr10 sl26, RdS.cellB hr10 (Ext.pres eB), RdS.cells hr10, wrap_id]
     refine hK _ _ ?_
     clear hK K
     have hfk := flat_le L k
     have hfk1 := flat_le L (k + 1)
     have hfs := flat_take (L := L) (k := k) (by omega)
     have hfl := congrArg List.length hfs
     rw [List.length_append] at hfl
     refine den_region TTok ?_
     intro K hK
     simp -implicitDefEqProofs (disch := first | decide | assumption | omega) only [go_sem, RdS.len hr10 sl26, RdS.idx hr10 sl26, RdS.cellB hr10 (Ext.pres eB), RdS.cells hr10, wrap_id]
     refine op_appendM sz26 hO hfhO.nodup (RdS.pres hr10 (Ext.pres eB)) rfl (fun j hj => (ER.row (H := h9) hr10 eB hj).2.1.1) (fun j hj h'' => by rw [getD_elemR hj]; exact ER.row hr10 eB hj) (by first | omega | (simp; omega)) rfl ?_
     intro v13_2 h13_2 fp13_2 ho13_2 hn13_2 hs13_2 c13_2
     have hsz13_2 := c13_2.size
     have hfho13_2 : Fresh h4.size fp13_2 := Fresh.appd hfhO (Fresh.nil h9.size) (by omega) (by omega) hn13_2 hs13_2
     have sb11 : Sub fw9_1 h9_1.size fp13_2 := Sub.grow sbhO Sub.nil (by omega) hs13_2
     have := c13_2.size
     replace eB := Ext.then eB c13_2 (ge_of hfhO (by omega))
     replace cL7 := Chg.step cL7 c13_2 sbhO
     have hlho13_2 := OS.lt ho13_2
     try simp -implicitDefEqProofs (disch := first | decide | assumption | omega) only [go_sem, wrap_id]
     refine hK _ _ ?_
     clear hK K
     refine den_blk ?_
     refine den_region TTok ?_
     intro K hK
     simp -implicitDefEqProofs (disch := first | decide | assumption | omega) only [go_sem, wrap_id]
     refine hK _ _ ?_
     clear hK K
     refine den_stop ?_
     rw [hfs] at ho13_2
     exact ⟨(k + 1, v13_2, fp13_2), by simp [HasL, puts_at], ⟨by first | omega | (dsimp only; omega), ho13_2, hfho13_2, sb11, cL7⟩, by first | omega | (dsimp only; omega)⟩
    ·try simp only [decide_eq_true_eq, decide_eq_false_iff_not, beq_iff_eq, beq_eq_false_iff_ne, bne_iff_ne, ne_eq, Bool.not_eq_true', Bool.not_eq_false', Bool.and_eq_true, Bool.or_eq_true, bne_eq_false_iff_eq] at c2
     refine den_exit ?_
     refine denX_code ?_
     refine denX_stop ?_
     refine denX_hit ?_
     refine den_seq ?_
     refine den_region TTok ?_
     intro K hK
     simp -implicitDefEqProofs (disch := first | decide | assumption | omega) only [go_sem, wrap_id]
     refine hK _ _ ?_
     clear hK K
     refine den_ret ?_
     simp (disch := decide) only [resP_1, puts_same, puts_ne]
     rw [flat_end (by omega)] at hO
     exact ⟨_, rfl, O2R.rd hO eB, eB⟩
end Go.Proofs.Ytjjjgllbocgkbaa

namespace Go.Proofs.Ytjjjgllbocgkbaa
open Go
theorem held_flat {X : Fl} {n q : Int} : ([nearP X 6 n q, bndP X.c n] : List (List (List Int))).flatten = nearP X 6 n q ++ bndP X.c n := by simp

noncomputable def liR (X : Fl) (r n q : Int) : Int × Int := if pgC X r n q = 0 then (limP X n q, 0) else (0, pgC X r n q)
theorem liR_n {X : Fl} {r n q : Int} (h : pgC X r n q ≠ 0) : liR X r n q = (0, pgC X r n q) := by rw [liR, if_neg h]
theorem liR_y {X : Fl} {r n q : Int} (h : pgC X r n q = 0) : liR X r n q = (limP X n q, 0) := by rw [liR, if_pos h]

set_option maxRecDepth 100000 in
theorem lim1_ok (X : Fl) (n q : Int) (vdX vmX vvX : Value) (bC bX bN : Nat) (h0 h : Heap) (hdX : R1 h0 vdX X.c.dims) (hmX : R3 h0 vmX X.c.maps) (hvX : R2 h0 vvX X.lv) (eB : Ext h0 h) (hbC : BoxAt h bC #[.int .i64 X.c.p, vdX, vmX] 31) (hbX : BoxAt h bX #[.int .i64 X.c.p, vdX, vmX, vvX] 33) (hbN : BoxAt h bN #[.int .i64 n] 2) (hF : IsF X) (hn : 0 ≤ n ∧ n ≤ (X.c.dims.length : Int) - 1) (hq : -1 ≤ q ∧ q ≤ 5) : CallA Try.prog 145 #[.int .i64 q, .pointer (some ⟨bC, 0, none⟩), .pointer (some ⟨bX, 0, none⟩), .pointer (some ⟨bN, 0, none⟩)] h fun v' h' => v' = .int .i64 (heldP X n q) ∧ Ext h h' := by
 have hledX := RdS.le hdX
 have hlemX := RdS.le hmX
 have hlevX := RdS.le hvX
 have hC := hF.c
 have hlC := hC.len
 have hP := hC.p
 have hpb := isP_bnd hC.p
 have hdb := dimP_bnd hC n
 have hnl := near_len hC 6 n q
 have hhl := held_len hF (n := n) (by omega) 6 q
 have hhb := held_b hF (n := n) (by omega) q
 refine callA_intro TTok (args := [_, _, _, _]) Try.func145 (by kernel_rfl) rfl 19 rfl (by simp) [.tmp 5] rfl ?_
 simp only [idxs, Nat.reduceAdd]
 refine den_seq ?_
 refine den_region TTok ?_
 intro K hK
 simp -implicitDefEqProofs (disch := first | decide | assumption | omega) only [go_sem, wrap_id]
 refine hK _ _ ?_
 clear hK K
 refine den_seq ?_
 have hcat : ([nearP X 6 n q, bndP X.c n] : List (List (List Int))).length ≤ 1000 ∧ ([nearP X 6 n q, bndP X.c n] : List (List (List Int))).flatten.length ≤ 1000 := ⟨by simp, by rw [held_flat]; omega⟩
 have hredT := held_tbl hF (n := n) (by omega) 6 q
 rw [← held_flat] at hredT
 have hCx := hC
 have hflt : ([nearP X 6 n q, bndP X.c n] : List (List (List Int))).flatten.length ≤ 16 := by rw [held_flat]; omega
 refine den_draw TTok mixed [] [(0, true), (1, true), (2, true), (3, true), (4, true), (6, true), (7, true), (5, false), (8, false), (9, false), (10, false), (11, false), (12, false), (13, true)] (by kernel_rfl) ?_
 intro K hK
 simp -implicitDefEqProofs (disch := first | decide | assumption | omega) only [go_sem, fa31_0, ld2, ld31, ld33, RdS.len hdX sl22, RdS.idx hdX sl22, R1.intB hdX (Ext.pres eB), RdS.cells hdX, RdS.len hmX sl23, RdS.idx hmX sl23, RdS.cellB hmX (Ext.pres eB), RdS.cells hmX, RdS.len hvX sl26, RdS.idx hvX sl26, RdS.cellB hvX (Ext.pres eB), RdS.cells hvX, BoxAt.cell hbC, BoxAt.cell hbX, BoxAt.cell hbN, wrap_id]
 try simp -implicitDefEqProofs (disch := first | decide | assumption | omega) only [go_sem, wrap_id]
 refine CallA.mono (iNear_ok _ X (6 : Int) n q _ ⟨_, _, _, rfl, (RdS.pres hdX (Ext.pres eB)), (RdS.pres hmX (Ext.pres eB)), (RdS.pres hvX (Ext.pres eB))⟩ hF (by omega) (by omega) (by omega)) ?_
 intro vw1_5_0 h1_5
 rintro ⟨zvw1_5_0, fw1_5_0, rfl, how1_5_0, hfw1_5_0, e1_5⟩
 replace hbC := BoxAt.ext hbC e1_5
 replace hbX := BoxAt.ext hbX e1_5
 replace hbN := BoxAt.ext hbN e1_5
 have := Ext.size e1_5
 replace eB := Ext.trans eB e1_5
 have hlhow1_5_0 := OS.lt how1_5_0
 try simp (disch := decide) only [outv_some, outv_none, put_puts]
 refine plK_pres (Ext.pres e1_5) ?_
 try simp -implicitDefEqProofs (disch := first | decide | assumption | omega) only [go_sem, wrap_id]
 try simp -implicitDefEqProofs (disch := first | decide | assumption | omega) only [go_sem, wrap_id]
 refine CallA.mono (iBnd_ok _ X.c n _ ⟨_, _, rfl, (RdS.pres hdX (Ext.pres eB)), (RdS.pres hmX (Ext.pres eB))⟩ hCx (by omega)) ?_
 intro vw1_8_0 h1_8
 rintro ⟨zvw1_8_0, fw1_8_0, rfl, how1_8_0, hfw1_8_0, e1_8⟩
 replace how1_5_0 := OS.ext how1_5_0 e1_8
 replace hbC := BoxAt.ext hbC e1_8
 replace hbX := BoxAt.ext hbX e1_8
 replace hbN := BoxAt.ext hbN e1_8
 have := Ext.size e1_8
 replace eB := Ext.trans eB e1_8
 have hlhow1_8_0 := OS.lt how1_8_0
 try simp (disch := decide) only [outv_some, outv_none, put_puts]
 refine plK_pres (Ext.pres e1_8) ?_
 try simp -implicitDefEqProofs (disch := first | decide | assumption | omega) only [go_sem, wrap_id]
 refine op_bs2R (OS.rd how1_5_0) (OS.rd how1_8_0) ?_
 intro vl21_9 h1_9 hl21_9 e1_9
 replace how1_5_0 := OS.ext how1_5_0 e1_9
 replace how1_8_0 := OS.ext how1_8_0 e1_9
 replace hbC := BoxAt.ext hbC e1_9
 replace hbX := BoxAt.ext hbX e1_9
 replace hbN := BoxAt.ext hbN e1_9
 have := Ext.size e1_9
 replace eB := Ext.trans eB e1_9
 have xr21_9 := Ext.refl h1_9
 try simp (disch := decide) only [outv_some, outv_none, put_puts]
 refine plK_pres (Ext.pres e1_9) ?_
 try simp -implicitDefEqProofs (disch := first | decide | assumption | omega) only [go_sem, wrap_id]
 try simp -implicitDefEqProofs (disch := first | decide | assumption | omega) only [go_sem, wrap_id]
 refine CallA.mono (concat2_ok _ ([nearP X (6 : Int) n q, bndP X.c n]) _ (RdS.pres hl21_9 (Ext.pres xr21_9)) hcat) ?_
 intro vw1_10_0 h1_10
 rintro ⟨zvw1_10_0, rfl, hrw1_10_0, e1_10⟩
 replace how1_5_0 := OS.ext how1_5_0 e1_10
 replace how1_8_0 := OS.ext how1_8_0 e1_10
 replace hbC := BoxAt.ext hbC e1_10
 replace hbX := BoxAt.ext hbX e1_10
 replace hbN := BoxAt.ext hbN e1_10
 have := Ext.size e1_10
 replace eB := Ext.trans eB e1_10
 replace xr21_9 := Ext.trans xr21_9 e1_10
 have xrw1_10_0 := Ext.refl h1_10
 have hlrw1_10_0 := RdS.le hrw1_10_0
 try simp (disch := decide) only [outv_some, outv_none, put_puts]
 refine plK_pres (Ext.pres e1_10) ?_
 try simp -implicitDefEqProofs (disch := first | decide | assumption | omega) only [go_sem, wrap_id]
 try simp -implicitDefEqProofs (disch := first | decide | assumption | omega) only [go_sem, wrap_id]
 refine CallA.mono (iReduce_ok _ X.c.p (([nearP X (6 : Int) n q, bndP X.c n]).flatten) _ (RdS.pres hrw1_10_0 (Ext.pres xrw1_10_0)) hP hredT (by omega) (by omega)) ?_
 intro vw1_11_0 h1_11
 rintro ⟨zvw1_11_0, fw1_11_0, rfl, how1_11_0, hfw1_11_0, e1_11⟩
 replace how1_5_0 := OS.ext how1_5_0 e1_11
 replace how1_8_0 := OS.ext how1_8_0 e1_11
 replace hbC := BoxAt.ext hbC e1_11
 replace hbX := BoxAt.ext hbX e1_11
 replace hbN := BoxAt.ext hbN e1_11
 have := Ext.size e1_11
 replace eB := Ext.trans eB e1_11
 replace xr21_9 := Ext.trans xr21_9 e1_11
 replace xrw1_10_0 := Ext.trans xrw1_10_0 e1_11
 have hlhow1_11_0 := OS.lt how1_11_0
 try simp (disch := decide) only [outv_some, outv_none, put_puts]
 refine plK_pres (Ext.pres e1_11) ?_
 try simp -implicitDefEqProofs (disch := first | decide | assumption | omega) only [go_sem, wrap_id]
 try simp -implicitDefEqProofs (disch := first | decide | assumption | omega) only [go_sem, wrap_id]
 refine CallA.pure (size2_ok _ _ _ (OS.rd how1_11_0)) ?_
 try simp -implicitDefEqProofs (disch := first | decide | assumption | omega) only [go_sem, wrap_id]
 refine hK _ _ ?_
 clear hK K
 refine den_ret ?_
 simp (disch := decide) only [resP_1, puts_same, puts_ne]
 have hz : heldP X n q = ((ech X.c.p ([nearP X 6 n q, bndP X.c n] : List (List (List Int))).flatten).length : Int) := by rw [held_flat]; rfl
 rw [hz]
 exact ⟨by first | rfl | trivial, (((e1_5.trans e1_8).trans e1_9).trans e1_10).trans e1_11⟩

set_option maxRecDepth 100000 in
theorem iLim_ok (vX : Value) (X : Fl) (n : Int) (q : Int) (h : Heap) (rX : RF h vX X) (hF : IsF X) (hn : 0 ≤ n ∧ n ≤ (X.c.dims.length : Int) - 1) (hq : 0 ≤ q ∧ q ≤ 5) : CallA Try.prog 94 #[vX, .int .i64 n, .int .i64 q] h fun v' h' => v' = .int .i64 (limP X n q) ∧ Ext h h' := by
 obtain ⟨vdX, vmX, vvX, rfl, hdX, hmX, hvX⟩ := rX
 have hledX := RdS.le hdX
 have hlemX := RdS.le hmX
 have hlevX := RdS.le hvX
 have hh1 := held_b hF (n := n) (by omega) q
 have hh2 := held_b hF (n := n) (by omega) (q - 1)
 refine callA_intro TTok (args := [_, _, _]) Try.func94 (by kernel_rfl) rfl 20 rfl (by simp) [.tmp 6] rfl ?_
 simp only [idxs, Nat.reduceAdd]
 refine den_seq ?_
 refine den_region TTok ?_
 intro K hK
 simp -implicitDefEqProofs (disch := first | decide | assumption | omega) only [go_sem, wrap_id]
 refine op_box (cs := #[.int .i64 (X.c.p), vdX, vmX, vvX]) rfl ?_
 intro h0_0 e0_0 hb0_0 z0_0
 have := Ext.size e0_0
 have eB := e0_0
 have hfhb0_0 : Fresh h.size [h.size] := Fresh.one _
 have hlhb0_0 := one_lt (show h.size < h0_0.size by omega)
 try simp -implicitDefEqProofs (disch := first | decide | assumption | omega) only [go_sem, wrap_id]
 refine op_box (cs := #[.int .i64 (n)]) rfl ?_
 intro h0_1 e0_1 hb0_1 z0_1
 replace hb0_0 := BoxAt.ext hb0_0 e0_1
 have := Ext.size e0_1
 replace eB := Ext.trans eB e0_1
 have hfhb0_1 : Fresh h0_0.size [h0_0.size] := Fresh.one _
 have hlhb0_1 := one_lt (show h0_0.size < h0_1.size by omega)
 try simp -implicitDefEqProofs (disch := first | decide | assumption | omega) only [go_sem, wrap_id]
 refine hK _ _ ?_
 clear hK K
 refine den_seq ?_
 refine den_region TTok ?_
 intro K hK
 simp -implicitDefEqProofs (disch := first | decide | assumption | omega) only [go_sem, fa33_0, ld31, RdS.len hdX sl22, RdS.idx hdX sl22, R1.intB hdX (Ext.pres eB), RdS.cells hdX, RdS.len hmX sl23, RdS.idx hmX sl23, RdS.cellB hmX (Ext.pres eB), RdS.cells hmX, RdS.len hvX sl26, RdS.idx hvX sl26, RdS.cellB hvX (Ext.pres eB), RdS.cells hvX, BoxAt.cell hb0_0, wrap_id]
 refine op_alloc (cs := #[.int .i64 0, .slice none 0 0, .slice none 0 0]) (by kernel_rfl) ?_
 intro h1_2 e1_2 hb1_2 z1_2
 replace hb0_0 := BoxAt.ext hb0_0 e1_2
 replace hb0_1 := BoxAt.ext hb0_1 e1_2
 have := Ext.size e1_2
 replace eB := Ext.trans eB e1_2
 have hfhb1_2 : Fresh h0_1.size [h0_1.size] := Fresh.one _
 have hlhb1_2 := one_lt (show h0_1.size < h1_2.size by omega)
 try simp -implicitDefEqProofs (disch := first | decide | assumption | omega) only [go_sem, wrap_id]
 refine op_storeB (cs' := #[.int .i64 (X.c.p), vdX, vmX]) st31 hb1_2 rfl rfl rfl (by simp) (allOne_mem (l := [.int .i64 (X.c.p), vdX, vmX]) ⟨rfl, (RdS.one hdX), (RdS.one hmX), trivial⟩) rfl ?_
 intro h1_3 hb1_2 c1_3
 replace hb0_0 := BoxAt.chgA hb0_0 c1_3 (apart_lt hlhb0_0 hfhb1_2 (by omega))
 replace hb0_1 := BoxAt.chgA hb0_1 c1_3 (apart_lt hlhb0_1 hfhb1_2 (by omega))
 have := c1_3.size
 replace eB := Ext.then eB c1_3 (ge_of hfhb1_2 (by omega))
 try simp -implicitDefEqProofs (disch := first | decide | assumption | omega) only [go_sem, wrap_id]
 refine hK _ _ ?_
 clear hK K
 refine den_seq ?_
 refine den_region TTok ?_
 intro K hK
 simp -implicitDefEqProofs (disch := first | decide | assumption | omega) only [go_sem, RdS.len hdX sl22, RdS.idx hdX sl22, R1.intB hdX (Ext.pres eB), RdS.cells hdX, RdS.len hmX sl23, RdS.idx hmX sl23, RdS.cellB hmX (Ext.pres eB), RdS.cells hmX, RdS.len hvX sl26, RdS.idx hvX sl26, RdS.cellB hvX (Ext.pres eB), RdS.cells hvX, BoxAt.cell hb0_0, BoxAt.cell hb0_1, BoxAt.cell hb1_2, wrap_id]
 refine hK _ _ ?_
 clear hK K
 refine den_seq ?_
 refine den_region TTok ?_
 intro K hK
 simp -implicitDefEqProofs (disch := first | decide | assumption | omega) only [go_sem, RdS.len hdX sl22, RdS.idx hdX sl22, R1.intB hdX (Ext.pres eB), RdS.cells hdX, RdS.len hmX sl23, RdS.idx hmX sl23, RdS.cellB hmX (Ext.pres eB), RdS.cells hmX, RdS.len hvX sl26, RdS.idx hvX sl26, RdS.cellB hvX (Ext.pres eB), RdS.cells hvX, BoxAt.cell hb0_0, BoxAt.cell hb0_1, BoxAt.cell hb1_2, wrap_id]
 try simp -implicitDefEqProofs (disch := first | decide | assumption | omega) only [go_sem, wrap_id]
 refine CallA.mono (lim1_ok X n (q) _ _ _ (h0_1.size) (h.size) (h0_0.size) h _ hdX hmX hvX eB hb1_2 hb0_0 hb0_1 hF hn (by omega)) ?_
 intro v_ h3_2
 rintro ⟨rfl, e3_2⟩
 replace hb0_0 := BoxAt.ext hb0_0 e3_2
 replace hb0_1 := BoxAt.ext hb0_1 e3_2
 replace hb1_2 := BoxAt.ext hb1_2 e3_2
 have := Ext.size e3_2
 replace eB := Ext.trans eB e3_2
 try simp -implicitDefEqProofs (disch := first | decide | assumption | omega) only [go_sem, RdS.len hdX sl22, RdS.idx hdX sl22, R1.intB hdX (Ext.pres eB), RdS.cells hdX, RdS.len hmX sl23, RdS.idx hmX sl23, RdS.cellB hmX (Ext.pres eB), RdS.cells hmX, RdS.len hvX sl26, RdS.idx hvX sl26, RdS.cellB hvX (Ext.pres eB), RdS.cells hvX, BoxAt.cell hb0_0, BoxAt.cell hb0_1, BoxAt.cell hb1_2, wrap_id]
 try simp -implicitDefEqProofs (disch := first | decide | assumption | omega) only [go_sem, wrap_id]
 refine CallA.mono (lim1_ok X n (q - 1) _ _ _ (h0_1.size) (h.size) (h0_0.size) h _ hdX hmX hvX eB hb1_2 hb0_0 hb0_1 hF hn (by omega)) ?_
 intro v_ h3_6
 rintro ⟨rfl, e3_6⟩
 replace hb0_0 := BoxAt.ext hb0_0 e3_6
 replace hb0_1 := BoxAt.ext hb0_1 e3_6
 replace hb1_2 := BoxAt.ext hb1_2 e3_6
 have := Ext.size e3_6
 replace eB := Ext.trans eB e3_6
 try simp -implicitDefEqProofs (disch := first | decide | assumption | omega) only [go_sem, wrap_id]
 refine hK _ _ ?_
 clear hK K
 refine den_ret ?_
 simp (disch := decide) only [resP_1, puts_same, puts_ne]
 exact ⟨by first | rfl | trivial, eB⟩
end Go.Proofs.Ytjjjgllbocgkbaa

namespace Go.Proofs.Ytjjjgllbocgkbaa
open Go
set_option maxRecDepth 100000 in
set_option maxHeartbeats 4000000 in
theorem sHeld_ok (vX : Value) (X : Fl) (n : Int) (q : Int) (h : Heap) (rX : RF h vX X) (hF : IsF X) (hn : 0 ≤ n ∧ n ≤ (X.c.dims.length : Int) - 1) (hq : -1 ≤ q ∧ q ≤ 5) : CallA Try.prog 93 #[vX, .int .i64 n, .int .i64 q] h fun v' h' => v' = .int .i64 (heldP X n q) ∧ Ext h h' := by
 obtain ⟨vdX, vmX, vvX, rfl, hdX, hmX, hvX⟩ := rX
 have hledX := RdS.le hdX
 have hlemX := RdS.le hmX
 have hlevX := RdS.le hvX
 have hC := hF.c
 have hlC := hC.len
 have hP := hC.p
 have hpb := isP_bnd hC.p
 have hdb := dimP_bnd hC n
 have hnl := near_len hC 13 n q
 have hhl := held_len hF (n := n) (by omega) 13 q
 have hhb := held_b hF (n := n) (by omega) q
 have hCx := hC
 have hredT := held_tbl hF (n := n) (by omega) 13 q
 have hz : heldP X n q = ((ech X.c.p (nearP X 13 n q ++ bndP X.c n)).length : Int) := by rw [heldP, far_back hF (r := 6) (r' := 13) (n := n) (q := q) (by omega) (by omega) (by omega)]
 rw [hz] at hhb
 refine callA_intro TTok (args := [_, _, _]) Try.func93 (by kernel_rfl) rfl 25 rfl (by simp) [.tmp 6] rfl ?_
 simp only [idxs, Nat.reduceAdd]
 refine den_seq ?_
 refine den_region TTok ?_
 intro K hK
 simp -implicitDefEqProofs (disch := first | decide | assumption | omega) only [go_sem, wrap_id]
 refine op_box (cs := #[.int .i64 (X.c.p), vdX, vmX, vvX]) rfl ?_
 intro h0_0 e0_0 hb0_0 z0_0
 have := Ext.size e0_0
 have eB := e0_0
 have hfhb0_0 : Fresh h.size [h.size] := Fresh.one _
 have hlhb0_0 := one_lt (show h.size < h0_0.size by omega)
 try simp -implicitDefEqProofs (disch := first | decide | assumption | omega) only [go_sem, wrap_id]
 refine hK _ _ ?_
 clear hK K
 refine den_seq ?_
 refine den_region TTok ?_
 intro K hK
 simp -implicitDefEqProofs (disch := first | decide | assumption | omega) only [go_sem, wrap_id]
 refine op_bs0 sz26 O1 ?_
 intro v1_0 h1_0 ho1_0 e1_0
 replace hb0_0 := BoxAt.ext hb0_0 e1_0
 have := Ext.size e1_0
 replace eB := Ext.trans eB e1_0
 have hfho1_0 : Fresh h0_0.size [h0_0.size] := Fresh.one _
 have hlho1_0 := OS.lt ho1_0
 try simp -implicitDefEqProofs (disch := first | decide | assumption | omega) only [go_sem, ld33, RdS.len hdX sl22, RdS.idx hdX sl22, R1.intB hdX (Ext.pres eB), RdS.cells hdX, RdS.len hmX sl23, RdS.idx hmX sl23, RdS.cellB hmX (Ext.pres eB), RdS.cells hmX, RdS.len hvX sl26, RdS.idx hvX sl26, RdS.cellB hvX (Ext.pres eB), RdS.cells hvX, BoxAt.cell hb0_0, wrap_id]
 try simp -implicitDefEqProofs (disch := first | decide | assumption | omega) only [go_sem, wrap_id]
 refine CallA.mono (sCyc2_ok _ X (13 : Int) n q _ ⟨_, _, _, rfl, (RdS.pres hdX (Ext.pres eB)), (RdS.pres hmX (Ext.pres eB)), (RdS.pres hvX (Ext.pres eB))⟩ hF (by omega) (by omega) (by omega)) ?_
 intro vw1_4_0 h1_4
 rintro ⟨zvw1_4_0, fw1_4_0, rfl, how1_4_0, hfw1_4_0, e1_4⟩
 replace ho1_0 := OS.ext ho1_0 e1_4
 replace hb0_0 := BoxAt.ext hb0_0 e1_4
 have := Ext.size e1_4
 replace eB := Ext.trans eB e1_4
 have hlhow1_4_0 := OS.lt how1_4_0
 try simp -implicitDefEqProofs (disch := first | decide | assumption | omega) only [go_sem, wrap_id]
 have hag1_5 := Agr.refl fw1_4_0 h1_4
 replace ho1_0 : O2M h1_4 fw1_4_0 _ _ _ _ := O2M.nil ho1_0
 refine op_appendM sz26 ho1_0 hfho1_0.nodup (OS.rd how1_4_0) rfl (fun j hj => (ES.row (H := h1_4) how1_4_0 hfw1_4_0.nodup hj).2.1.1) (fun j hj h'' => .inr (by rw [getD_elem hj]; exact ES.row how1_4_0 hfw1_4_0.nodup hj)) (by first | omega | (simp; omega)) rfl ?_
 intro v1_5 h1_5 fp1_5 ho1_5 hn1_5 hs1_5 c1_5
 have hsz1_5 := c1_5.size
 have hfho1_5 : Fresh h0_0.size fp1_5 := Fresh.appd hfho1_0 (Fresh.nil h1_4.size) (by omega) (by omega) hn1_5 hs1_5
 replace hag1_5 := Agr.chg hag1_5 (OS.lt how1_4_0) c1_5 (apart_gt hfw1_4_0 hlho1_0 (by omega))
 replace how1_4_0 := OS.chg how1_4_0 c1_5 (apart_gt hfw1_4_0 hlho1_0 (by omega))
 replace hb0_0 := BoxAt.chgA hb0_0 c1_5 (apart_lt hlhb0_0 hfho1_0 (by omega))
 have := c1_5.size
 replace eB := Ext.then eB c1_5 (ge_of hfho1_0 (by omega))
 have ap1 : Apart fw1_4_0 fp1_5 := Apart.grow hlhow1_4_0 (by omega) (apart_gt hfw1_4_0 hlho1_0 (by omega)) (Apart.nil _) hs1_5
 have hlho1_5 := OS.lt ho1_5
 rw [List.nil_append] at ho1_5
 try simp -implicitDefEqProofs (disch := first | decide | assumption | omega) only [go_sem, wrap_id]
 refine hK _ _ ?_
 clear hK K
 refine den_seq ?_
 refine den_drawT TTok mixed [8] [(0, true), (1, true), (3, true), (4, true), (5, true), (6, true)] (.fork 2 [(7, false), (8, false), (9, false), (10, true), (11, true)] .fin 7 [] (.fork 2 [(8, false), (9, false), (10, true), (11, true)] .fin 8 [(2, true), (9, false), (10, true), (11, true)] .fin)) (by kernel_rfl) ?_
 intro K hK
 simp -implicitDefEqProofs (disch := first | decide | assumption | omega) only [go_sem, fa31_0, fa33_0, ld31, RdS.len hdX sl22, RdS.idx hdX sl22, R1.intB hdX (Ext.pres eB), RdS.cells hdX, RdS.len hmX sl23, RdS.idx hmX sl23, RdS.cellB hmX (Ext.pres eB), RdS.cells hmX, RdS.len hvX sl26, RdS.idx hvX sl26, RdS.cellB hvX (Ext.pres eB), RdS.cells hvX, BoxAt.cell hb0_0, wrap_id]
 refine And.intro ?_ ?_
 ·simp -implicitDefEqProofs (disch := first | decide | assumption | omega) only [go_sem, ld2, RdS.len hdX sl22, RdS.idx hdX sl22, R1.intB hdX (Ext.pres eB), RdS.cells hdX, RdS.len hmX sl23, RdS.idx hmX sl23, RdS.cellB hmX (Ext.pres eB), RdS.cells hmX, RdS.len hvX sl26, RdS.idx hvX sl26, RdS.cellB hvX (Ext.pres eB), RdS.cells hvX, BoxAt.cell hb0_0, wrap_id]
  try simp -implicitDefEqProofs (disch := first | decide | assumption | omega) only [go_sem, wrap_id]
  refine CallA.mono (sBnd_ok _ X.c n _ ⟨_, _, rfl, (RdS.pres hdX (Ext.pres eB)), (RdS.pres hmX (Ext.pres eB))⟩ hCx (by omega)) ?_
  intro vw2_7_0 h2_7
  rintro ⟨zvw2_7_0, fw2_7_0, rfl, how2_7_0, hfw2_7_0, e2_7⟩
  replace hag1_5 := Agr.ext hag1_5 (OS.lt how1_4_0) e2_7
  replace how1_4_0 := OS.ext how1_4_0 e2_7
  replace ho1_5 := OS.ext ho1_5 e2_7
  replace hb0_0 := BoxAt.ext hb0_0 e2_7
  have := Ext.size e2_7
  replace eB := Ext.trans eB e2_7
  have hlhow2_7_0 := OS.lt how2_7_0
  try simp (disch := decide) only [outv_some, outv_none, put_puts]
  refine plK_pres (Ext.pres e2_7) ?_
  try simp -implicitDefEqProofs (disch := first | decide | assumption | omega) only [go_sem, wrap_id]
  replace ho1_5 : O2M h2_7 (fw1_4_0 ++ fw2_7_0) _ _ _ _ := O2M.more hag1_5 ho1_5
  have hagl2_8 := Agr.refl fw1_4_0 h2_7
  have hagr2_8 := Agr.refl fw2_7_0 h2_7
  refine op_appendM sz26 ho1_5 hfho1_5.nodup (OS.rd how2_7_0) rfl (fun j hj => (ES.row (H := h2_7) how2_7_0 hfw2_7_0.nodup hj).2.1.1) (fun j hj h'' => .inr (by rw [getD_elem hj]; exact (ES.row how2_7_0 hfw2_7_0.nodup hj).right)) (by first | omega | (simp; omega)) rfl ?_
  intro v2_8 h2_8 fp2_8 ho2_8 hn2_8 hs2_8 c2_8
  have hsz2_8 := c2_8.size
  have hfho2_8 : Fresh h0_0.size fp2_8 := Fresh.appd hfho1_5 (Fresh.nil h2_7.size) (by omega) (by omega) hn2_8 hs2_8
  replace hagl2_8 := Agr.chg hagl2_8 (OS.lt how1_4_0) c2_8 ap1
  replace hagr2_8 := Agr.chg hagr2_8 (OS.lt how2_7_0) c2_8 (apart_gt hfw2_7_0 hlho1_5 (by omega))
  replace how1_4_0 := OS.chg how1_4_0 c2_8 ap1
  replace how2_7_0 := OS.chg how2_7_0 c2_8 (apart_gt hfw2_7_0 hlho1_5 (by omega))
  replace hb0_0 := BoxAt.chgA hb0_0 c2_8 (apart_lt hlhb0_0 hfho1_5 (by omega))
  have := c2_8.size
  replace eB := Ext.then eB c2_8 (ge_of hfho1_5 (by omega))
  have ap2 : Apart fw1_4_0 fp2_8 := Apart.grow hlhow1_4_0 (by omega) ap1 (Apart.nil _) hs2_8
  have ap3 : Apart fw2_7_0 fp2_8 := Apart.grow hlhow2_7_0 (by omega) (apart_gt hfw2_7_0 hlho1_5 (by omega)) (Apart.nil _) hs2_8
  have hlho2_8 := OS.lt ho2_8
  try simp (disch := decide) only [outv_some, outv_none, put_puts]
  refine plK_last (by decide) ?_
  try simp -implicitDefEqProofs (disch := first | decide | assumption | omega) only [go_sem, wrap_id]
  try simp -implicitDefEqProofs (disch := first | decide | assumption | omega) only [go_sem, wrap_id]
  refine CallA.mono (sEch_ok _ X.c.p (nearP X (13 : Int) n q ++ (bndP X.c n)) _ (O2M.rd ho2_8 (Agr.app hagl2_8 hagr2_8)) hP hredT (by omega) (by omega)) ?_
  intro vw2_9_0 h2_9
  rintro ⟨zvw2_9_0, fw2_9_0, rfl, how2_9_0, hfw2_9_0, e2_9⟩
  replace hagl2_8 := Agr.ext hagl2_8 (OS.lt how1_4_0) e2_9
  replace hagr2_8 := Agr.ext hagr2_8 (OS.lt how2_7_0) e2_9
  replace how1_4_0 := OS.ext how1_4_0 e2_9
  replace how2_7_0 := OS.ext how2_7_0 e2_9
  replace ho2_8 := OS.ext ho2_8 e2_9
  replace hb0_0 := BoxAt.ext hb0_0 e2_9
  have := Ext.size e2_9
  replace eB := Ext.trans eB e2_9
  have hlhow2_9_0 := OS.lt how2_9_0
  try simp (disch := decide) only [outv_some, outv_none, put_puts]
  refine plK_pres (Ext.pres e2_9) ?_
  try simp -implicitDefEqProofs (disch := first | decide | assumption | omega) only [go_sem, RdS.len (OS.rd how2_9_0) sl26, RdS.idx (OS.rd how2_9_0) sl26, RdS.cellN (OS.rd how2_9_0), RdS.cells (OS.rd how2_9_0), wrap_id]
  refine hK _ _ ?_
  clear hK K
  refine den_ret ?_
  simp (disch := decide) only [resP_1, puts_same, puts_ne]
  rw [hz]
  exact ⟨by first | rfl | trivial, eB⟩
 ·simp -implicitDefEqProofs (disch := first | decide | assumption | omega) only [go_sem, wrap_id]
  try simp -implicitDefEqProofs (disch := first | decide | assumption | omega) only [go_sem, wrap_id]
  refine CallA.mono (sBnd_ok _ X.c n _ ⟨_, _, rfl, (RdS.pres hdX (Ext.pres eB)), (RdS.pres hmX (Ext.pres eB))⟩ hCx (by omega)) ?_
  intro vw2_7_0 h2_7
  rintro ⟨zvw2_7_0, fw2_7_0, rfl, how2_7_0, hfw2_7_0, e2_7⟩
  replace hag1_5 := Agr.ext hag1_5 (OS.lt how1_4_0) e2_7
  replace how1_4_0 := OS.ext how1_4_0 e2_7
  replace ho1_5 := OS.ext ho1_5 e2_7
  replace hb0_0 := BoxAt.ext hb0_0 e2_7
  have := Ext.size e2_7
  replace eB := Ext.trans eB e2_7
  have hlhow2_7_0 := OS.lt how2_7_0
  try simp (disch := decide) only [outv_some, outv_none, put_puts]
  refine plK_pres (Ext.pres e2_7) ?_
  try simp -implicitDefEqProofs (disch := first | decide | assumption | omega) only [go_sem, wrap_id]
  refine And.intro ?_ ?_
  ·simp -implicitDefEqProofs (disch := first | decide | assumption | omega) only [go_sem, ld2, RdS.len hdX sl22, RdS.idx hdX sl22, R1.intB hdX (Ext.pres eB), RdS.cells hdX, RdS.len hmX sl23, RdS.idx hmX sl23, RdS.cellB hmX (Ext.pres eB), RdS.cells hmX, RdS.len hvX sl26, RdS.idx hvX sl26, RdS.cellB hvX (Ext.pres eB), RdS.cells hvX, BoxAt.cell hb0_0, wrap_id]
   replace ho1_5 : O2M h2_7 (fw1_4_0 ++ fw2_7_0) _ _ _ _ := O2M.more hag1_5 ho1_5
   have hagl2_8 := Agr.refl fw1_4_0 h2_7
   have hagr2_8 := Agr.refl fw2_7_0 h2_7
   refine op_appendM sz26 ho1_5 hfho1_5.nodup (OS.rd how2_7_0) rfl (fun j hj => (ES.row (H := h2_7) how2_7_0 hfw2_7_0.nodup hj).2.1.1) (fun j hj h'' => .inr (by rw [getD_elem hj]; exact (ES.row how2_7_0 hfw2_7_0.nodup hj).right)) (by first | omega | (simp; omega)) rfl ?_
   intro v2_8 h2_8 fp2_8 ho2_8 hn2_8 hs2_8 c2_8
   have hsz2_8 := c2_8.size
   have hfho2_8 : Fresh h0_0.size fp2_8 := Fresh.appd hfho1_5 (Fresh.nil h2_7.size) (by omega) (by omega) hn2_8 hs2_8
   replace hagl2_8 := Agr.chg hagl2_8 (OS.lt how1_4_0) c2_8 ap1
   replace hagr2_8 := Agr.chg hagr2_8 (OS.lt how2_7_0) c2_8 (apart_gt hfw2_7_0 hlho1_5 (by omega))
   replace how1_4_0 := OS.chg how1_4_0 c2_8 ap1
   replace how2_7_0 := OS.chg how2_7_0 c2_8 (apart_gt hfw2_7_0 hlho1_5 (by omega))
   replace hb0_0 := BoxAt.chgA hb0_0 c2_8 (apart_lt hlhb0_0 hfho1_5 (by omega))
   have := c2_8.size
   replace eB := Ext.then eB c2_8 (ge_of hfho1_5 (by omega))
   have ap4 : Apart fw1_4_0 fp2_8 := Apart.grow hlhow1_4_0 (by omega) ap1 (Apart.nil _) hs2_8
   have ap5 : Apart fw2_7_0 fp2_8 := Apart.grow hlhow2_7_0 (by omega) (apart_gt hfw2_7_0 hlho1_5 (by omega)) (Apart.nil _) hs2_8
   have hlho2_8 := OS.lt ho2_8
   try simp (disch := decide) only [outv_some, outv_none, put_puts]
   refine plK_last (by decide) ?_
   try simp -implicitDefEqProofs (disch := first | decide | assumption | omega) only [go_sem, wrap_id]
   try simp -implicitDefEqProofs (disch := first | decide | assumption | omega) only [go_sem, wrap_id]
   refine CallA.mono (sEch_ok _ X.c.p (nearP X (13 : Int) n q ++ (bndP X.c n)) _ (O2M.rd ho2_8 (Agr.app hagl2_8 hagr2_8)) hP hredT (by omega) (by omega)) ?_
   intro vw2_9_0 h2_9
   rintro ⟨zvw2_9_0, fw2_9_0, rfl, how2_9_0, hfw2_9_0, e2_9⟩
   replace hagl2_8 := Agr.ext hagl2_8 (OS.lt how1_4_0) e2_9
   replace hagr2_8 := Agr.ext hagr2_8 (OS.lt how2_7_0) e2_9
   replace how1_4_0 := OS.ext how1_4_0 e2_9
   replace how2_7_0 := OS.ext how2_7_0 e2_9
   replace ho2_8 := OS.ext ho2_8 e2_9
   replace hb0_0 := BoxAt.ext hb0_0 e2_9
   have := Ext.size e2_9
   replace eB := Ext.trans eB e2_9
   have hlhow2_9_0 := OS.lt how2_9_0
   try simp (disch := decide) only [outv_some, outv_none, put_puts]
   refine plK_pres (Ext.pres e2_9) ?_
   try simp -implicitDefEqProofs (disch := first | decide | assumption | omega) only [go_sem, RdS.len (OS.rd how2_9_0) sl26, RdS.idx (OS.rd how2_9_0) sl26, RdS.cellN (OS.rd how2_9_0), RdS.cells (OS.rd how2_9_0), wrap_id]
   refine hK _ _ ?_
   clear hK K
   refine den_ret ?_
   simp (disch := decide) only [resP_1, puts_same, puts_ne]
   rw [hz]
   exact ⟨by first | rfl | trivial, eB⟩
  ·simp -implicitDefEqProofs (disch := first | decide | assumption | omega) only [go_sem, wrap_id]
   replace ho1_5 : O2M h2_7 (fw1_4_0 ++ fw2_7_0) _ _ _ _ := O2M.more hag1_5 ho1_5
   have hagl2_8 := Agr.refl fw1_4_0 h2_7
   have hagr2_8 := Agr.refl fw2_7_0 h2_7
   refine op_appendM sz26 ho1_5 hfho1_5.nodup (OS.rd how2_7_0) rfl (fun j hj => (ES.row (H := h2_7) how2_7_0 hfw2_7_0.nodup hj).2.1.1) (fun j hj h'' => .inr (by rw [getD_elem hj]; exact (ES.row how2_7_0 hfw2_7_0.nodup hj).right)) (by first | omega | (simp; omega)) rfl ?_
   intro v2_8 h2_8 fp2_8 ho2_8 hn2_8 hs2_8 c2_8
   have hsz2_8 := c2_8.size
   have hfho2_8 : Fresh h0_0.size fp2_8 := Fresh.appd hfho1_5 (Fresh.nil h2_7.size) (by omega) (by omega) hn2_8 hs2_8
   replace hagl2_8 := Agr.chg hagl2_8 (OS.lt how1_4_0) c2_8 ap1
   replace hagr2_8 := Agr.chg hagr2_8 (OS.lt how2_7_0) c2_8 (apart_gt hfw2_7_0 hlho1_5 (by omega))
   replace how1_4_0 := OS.chg how1_4_0 c2_8 ap1
   replace how2_7_0 := OS.chg how2_7_0 c2_8 (apart_gt hfw2_7_0 hlho1_5 (by omega))
   replace hb0_0 := BoxAt.chgA hb0_0 c2_8 (apart_lt hlhb0_0 hfho1_5 (by omega))
   have := c2_8.size
   replace eB := Ext.then eB c2_8 (ge_of hfho1_5 (by omega))
   have ap6 : Apart fw1_4_0 fp2_8 := Apart.grow hlhow1_4_0 (by omega) ap1 (Apart.nil _) hs2_8
   have ap7 : Apart fw2_7_0 fp2_8 := Apart.grow hlhow2_7_0 (by omega) (apart_gt hfw2_7_0 hlho1_5 (by omega)) (Apart.nil _) hs2_8
   have hlho2_8 := OS.lt ho2_8
   try simp (disch := decide) only [outv_some, outv_none, put_puts]
   refine plK_last (by decide) ?_
   try simp -implicitDefEqProofs (disch := first | decide | assumption | omega) only [go_sem, ld2, RdS.len hdX sl22, RdS.idx hdX sl22, R1.intB hdX (Ext.pres eB), RdS.cells hdX, RdS.len hmX sl23, RdS.idx hmX sl23, RdS.cellB hmX (Ext.pres eB), RdS.cells hmX, RdS.len hvX sl26, RdS.idx hvX sl26, RdS.cellB hvX (Ext.pres eB), RdS.cells hvX, BoxAt.cell hb0_0, wrap_id]
   try simp -implicitDefEqProofs (disch := first | decide | assumption | omega) only [go_sem, wrap_id]
   refine CallA.mono (sEch_ok _ X.c.p (nearP X (13 : Int) n q ++ (bndP X.c n)) _ (O2M.rd ho2_8 (Agr.app hagl2_8 hagr2_8)) hP hredT (by omega) (by omega)) ?_
   intro vw2_9_0 h2_9
   rintro ⟨zvw2_9_0, fw2_9_0, rfl, how2_9_0, hfw2_9_0, e2_9⟩
   replace hagl2_8 := Agr.ext hagl2_8 (OS.lt how1_4_0) e2_9
   replace hagr2_8 := Agr.ext hagr2_8 (OS.lt how2_7_0) e2_9
   replace how1_4_0 := OS.ext how1_4_0 e2_9
   replace how2_7_0 := OS.ext how2_7_0 e2_9
   replace ho2_8 := OS.ext ho2_8 e2_9
   replace hb0_0 := BoxAt.ext hb0_0 e2_9
   have := Ext.size e2_9
   replace eB := Ext.trans eB e2_9
   have hlhow2_9_0 := OS.lt how2_9_0
   try simp (disch := decide) only [outv_some, outv_none, put_puts]
   refine plK_pres (Ext.pres e2_9) ?_
   try simp -implicitDefEqProofs (disch := first | decide | assumption | omega) only [go_sem, RdS.len (OS.rd how2_9_0) sl26, RdS.idx (OS.rd how2_9_0) sl26, RdS.cellN (OS.rd how2_9_0), RdS.cells (OS.rd how2_9_0), wrap_id]
   refine hK _ _ ?_
   clear hK K
   refine den_ret ?_
   simp (disch := decide) only [resP_1, puts_same, puts_ne]
   rw [hz]
   exact ⟨by first | rfl | trivial, eB⟩

set_option maxRecDepth 100000 in
theorem iLN_ok (vX : Value) (X : Fl) (n : Int) (q : Int) (h : Heap) (rX : RF h vX X)  : CallA Try.prog 32 #[vX, .int .i64 n, .int .i64 q] h fun v' h' => v' = .tuple #[.int .i64 ((liR X 0 n q).1), .int .i64 ((liR X 0 n q).2)] ∧ Ext h h' := by
 obtain ⟨vdX, vmX, vvX, rfl, hdX, hmX, hvX⟩ := rX
 have hledX := RdS.le hdX
 have hlemX := RdS.le hmX
 have hlevX := RdS.le hvX
 refine callA_intro TTok (args := [_, _, _]) Try.func32 (by kernel_rfl) rfl 20 rfl (by simp) [.tmp 6, .tmp 7] rfl ?_
 simp only [idxs, Nat.reduceAdd]
 refine den_seq ?_
 refine den_region TTok ?_
 intro K hK
 simp -implicitDefEqProofs (disch := first | decide | assumption | omega) only [go_sem, wrap_id]
 refine op_box (cs := #[.int .i64 (X.c.p), vdX, vmX, vvX]) rfl ?_
 intro h0_0 e0_0 hb0_0 z0_0
 have := Ext.size e0_0
 have eB := e0_0
 have hfhb0_0 : Fresh h.size [h.size] := Fresh.one _
 have hlhb0_0 := one_lt (show h.size < h0_0.size by omega)
 try simp -implicitDefEqProofs (disch := first | decide | assumption | omega) only [go_sem, wrap_id]
 refine hK _ _ ?_
 clear hK K
 refine den_seq ?_
 refine den_seq ?_
 refine den_region TTok ?_
 intro K hK
 simp -implicitDefEqProofs (disch := first | decide | assumption | omega) only [go_sem, ld33, RdS.len hdX sl22, RdS.idx hdX sl22, R1.intB hdX (Ext.pres eB), RdS.cells hdX, RdS.len hmX sl23, RdS.idx hmX sl23, RdS.cellB hmX (Ext.pres eB), RdS.cells hmX, RdS.len hvX sl26, RdS.idx hvX sl26, RdS.cellB hvX (Ext.pres eB), RdS.cells hvX, BoxAt.cell hb0_0, wrap_id]
 try simp -implicitDefEqProofs (disch := first | decide | assumption | omega) only [go_sem, wrap_id]
 refine CallA.mono (iPg_ok _ X (0 : Int) n q _ ⟨_, _, _, rfl, (RdS.pres hdX (Ext.pres eB)), (RdS.pres hmX (Ext.pres eB)), (RdS.pres hvX (Ext.pres eB))⟩ ) ?_
 intro v_ h1_3
 rintro ⟨rfl, e1_3⟩
 replace hb0_0 := BoxAt.ext hb0_0 e1_3
 have := Ext.size e1_3
 replace eB := Ext.trans eB e1_3
 try simp -implicitDefEqProofs (disch := first | decide | assumption | omega) only [go_sem, wrap_id]
 refine hK _ _ ?_
 clear hK K
 refine den_seq ?_
 refine den_region TTok ?_
 intro K hK
 simp -implicitDefEqProofs (disch := first | decide | assumption | omega) only [go_sem, wrap_id]
 refine hK _ _ ?_
 clear hK K
 refine den_cond rfl (fun c0 => ?_) (fun c0 => ?_)
 ·try simp only [decide_eq_true_eq, decide_eq_false_iff_not, beq_iff_eq, beq_eq_false_iff_ne, bne_iff_ne, ne_eq, Bool.not_eq_true', Bool.not_eq_false', Bool.and_eq_true, Bool.or_eq_true, bne_eq_false_iff_eq] at c0
  refine den_seq ?_
  refine den_region TTok ?_
  intro K hK
  simp -implicitDefEqProofs (disch := first | decide | assumption | omega) only [go_sem, wrap_id]
  refine hK _ _ ?_
  clear hK K
  refine den_ret ?_
  simp (disch := decide) only [resP_2, puts_same, puts_ne]
  rw [liR_n c0]
  exact ⟨by first | rfl | trivial, eB⟩
 ·try simp only [decide_eq_true_eq, decide_eq_false_iff_not, beq_iff_eq, beq_eq_false_iff_ne, bne_iff_ne, ne_eq, Bool.not_eq_true', Bool.not_eq_false', Bool.and_eq_true, Bool.or_eq_true, bne_eq_false_iff_eq] at c0
  obtain ⟨hF, hr, hn, hq⟩ := pgC_0 c0
  have hh1 := held_b hF (n := n) (by omega) q
  have hh2 := held_b hF (n := n) (by omega) (q - 1)
  refine den_skip ?_
  refine den_seq ?_
  refine den_region TTok ?_
  intro K hK
  simp -implicitDefEqProofs (disch := first | decide | assumption | omega) only [go_sem, ld33, RdS.len hdX sl22, RdS.idx hdX sl22, R1.intB hdX (Ext.pres eB), RdS.cells hdX, RdS.len hmX sl23, RdS.idx hmX sl23, RdS.cellB hmX (Ext.pres eB), RdS.cells hmX, RdS.len hvX sl26, RdS.idx hvX sl26, RdS.cellB hvX (Ext.pres eB), RdS.cells hvX, BoxAt.cell hb0_0, wrap_id]
  try simp -implicitDefEqProofs (disch := first | decide | assumption | omega) only [go_sem, wrap_id]
  refine CallA.mono (iLim_ok _ X n q _ ⟨_, _, _, rfl, (RdS.pres hdX (Ext.pres eB)), (RdS.pres hmX (Ext.pres eB)), (RdS.pres hvX (Ext.pres eB))⟩ hF (by omega) (by omega)) ?_
  intro v_ h4_3
  rintro ⟨rfl, e4_3⟩
  replace hb0_0 := BoxAt.ext hb0_0 e4_3
  have := Ext.size e4_3
  replace eB := Ext.trans eB e4_3
  try simp -implicitDefEqProofs (disch := first | decide | assumption | omega) only [go_sem, wrap_id]
  refine hK _ _ ?_
  clear hK K
  refine den_ret ?_
  simp (disch := decide) only [resP_2, puts_same, puts_ne]
  rw [liR_y c0]
  exact ⟨by first | rfl | trivial, eB⟩

set_option maxRecDepth 100000 in
theorem sLN_ok (vX : Value) (X : Fl) (n : Int) (q : Int) (h : Heap) (rX : RF h vX X)  : CallA Try.prog 31 #[vX, .int .i64 n, .int .i64 q] h fun v' h' => v' = .tuple #[.int .i64 ((liR X 0 n q).1), .int .i64 ((liR X 0 n q).2)] ∧ Ext h h' := by
 obtain ⟨vdX, vmX, vvX, rfl, hdX, hmX, hvX⟩ := rX
 have hledX := RdS.le hdX
 have hlemX := RdS.le hmX
 have hlevX := RdS.le hvX
 refine callA_intro TTok (args := [_, _, _]) Try.func31 (by kernel_rfl) rfl 26 rfl (by simp) [.tmp 6, .tmp 7] rfl ?_
 simp only [idxs, Nat.reduceAdd]
 refine den_seq ?_
 refine den_region TTok ?_
 intro K hK
 simp -implicitDefEqProofs (disch := first | decide | assumption | omega) only [go_sem, wrap_id]
 refine op_box (cs := #[.int .i64 (X.c.p), vdX, vmX, vvX]) rfl ?_
 intro h0_0 e0_0 hb0_0 z0_0
 have := Ext.size e0_0
 have eB := e0_0
 have hfhb0_0 : Fresh h.size [h.size] := Fresh.one _
 have hlhb0_0 := one_lt (show h.size < h0_0.size by omega)
 try simp -implicitDefEqProofs (disch := first | decide | assumption | omega) only [go_sem, wrap_id]
 refine hK _ _ ?_
 clear hK K
 refine den_seq ?_
 refine den_seq ?_
 refine den_region TTok ?_
 intro K hK
 simp -implicitDefEqProofs (disch := first | decide | assumption | omega) only [go_sem, ld33, RdS.len hdX sl22, RdS.idx hdX sl22, R1.intB hdX (Ext.pres eB), RdS.cells hdX, RdS.len hmX sl23, RdS.idx hmX sl23, RdS.cellB hmX (Ext.pres eB), RdS.cells hmX, RdS.len hvX sl26, RdS.idx hvX sl26, RdS.cellB hvX (Ext.pres eB), RdS.cells hvX, BoxAt.cell hb0_0, wrap_id]
 try simp -implicitDefEqProofs (disch := first | decide | assumption | omega) only [go_sem, wrap_id]
 refine CallA.mono (sPg_ok _ X (0 : Int) n q _ ⟨_, _, _, rfl, (RdS.pres hdX (Ext.pres eB)), (RdS.pres hmX (Ext.pres eB)), (RdS.pres hvX (Ext.pres eB))⟩ ) ?_
 intro v_ h1_3
 rintro ⟨rfl, e1_3⟩
 replace hb0_0 := BoxAt.ext hb0_0 e1_3
 have := Ext.size e1_3
 replace eB := Ext.trans eB e1_3
 try simp -implicitDefEqProofs (disch := first | decide | assumption | omega) only [go_sem, wrap_id]
 refine hK _ _ ?_
 clear hK K
 refine den_seq ?_
 refine den_region TTok ?_
 intro K hK
 simp -implicitDefEqProofs (disch := first | decide | assumption | omega) only [go_sem, wrap_id]
 refine hK _ _ ?_
 clear hK K
 refine den_cond rfl (fun c0 => ?_) (fun c0 => ?_)
 ·try simp only [decide_eq_true_eq, decide_eq_false_iff_not, beq_iff_eq, beq_eq_false_iff_ne, bne_iff_ne, ne_eq, Bool.not_eq_true', Bool.not_eq_false', Bool.and_eq_true, Bool.or_eq_true, bne_eq_false_iff_eq] at c0
  refine den_seq ?_
  refine den_region TTok ?_
  intro K hK
  simp -implicitDefEqProofs (disch := first | decide | assumption | omega) only [go_sem, wrap_id]
  refine hK _ _ ?_
  clear hK K
  refine den_ret ?_
  simp (disch := decide) only [resP_2, puts_same, puts_ne]
  rw [liR_n c0]
  exact ⟨by first | rfl | trivial, eB⟩
 ·try simp only [decide_eq_true_eq, decide_eq_false_iff_not, beq_iff_eq, beq_eq_false_iff_ne, bne_iff_ne, ne_eq, Bool.not_eq_true', Bool.not_eq_false', Bool.and_eq_true, Bool.or_eq_true, bne_eq_false_iff_eq] at c0
  obtain ⟨hF, hr, hn, hq⟩ := pgC_0 c0
  have hh1 := held_b hF (n := n) (by omega) q
  have hh2 := held_b hF (n := n) (by omega) (q - 1)
  refine den_skip ?_
  refine den_seq ?_
  refine den_draw TTok mixed [] [(0, true), (1, true), (2, true), (4, true), (5, true), (6, true), (7, true), (3, false), (8, false), (9, true), (10, true), (11, true)] (by kernel_rfl) ?_
  intro K hK
  simp -implicitDefEqProofs (disch := first | decide | assumption | omega) only [go_sem, ld33, RdS.len hdX sl22, RdS.idx hdX sl22, R1.intB hdX (Ext.pres eB), RdS.cells hdX, RdS.len hmX sl23, RdS.idx hmX sl23, RdS.cellB hmX (Ext.pres eB), RdS.cells hmX, RdS.len hvX sl26, RdS.idx hvX sl26, RdS.cellB hvX (Ext.pres eB), RdS.cells hvX, BoxAt.cell hb0_0, wrap_id]
  try simp -implicitDefEqProofs (disch := first | decide | assumption | omega) only [go_sem, wrap_id]
  refine CallA.mono (sHeld_ok _ X n q _ ⟨_, _, _, rfl, (RdS.pres hdX (Ext.pres eB)), (RdS.pres hmX (Ext.pres eB)), (RdS.pres hvX (Ext.pres eB))⟩ hF (by omega) (by omega)) ?_
  intro v_ h4_3
  rintro ⟨rfl, e4_3⟩
  replace hb0_0 := BoxAt.ext hb0_0 e4_3
  have := Ext.size e4_3
  replace eB := Ext.trans eB e4_3
  try simp (disch := decide) only [outv_some, outv_none, put_puts]
  refine plK_pres (Ext.pres e4_3) ?_
  try simp -implicitDefEqProofs (disch := first | decide | assumption | omega) only [go_sem, wrap_id]
  try simp -implicitDefEqProofs (disch := first | decide | assumption | omega) only [go_sem, wrap_id]
  refine CallA.mono (sHeld_ok _ X n (q - (1 : Int)) _ ⟨_, _, _, rfl, (RdS.pres hdX (Ext.pres eB)), (RdS.pres hmX (Ext.pres eB)), (RdS.pres hvX (Ext.pres eB))⟩ hF (by omega) (by omega)) ?_
  intro v_ h4_8
  rintro ⟨rfl, e4_8⟩
  replace hb0_0 := BoxAt.ext hb0_0 e4_8
  have := Ext.size e4_8
  replace eB := Ext.trans eB e4_8
  try simp (disch := decide) only [outv_some, outv_none, put_puts]
  refine plK_pres (Ext.pres e4_8) ?_
  try simp -implicitDefEqProofs (disch := first | decide | assumption | omega) only [go_sem, wrap_id]
  refine hK _ _ ?_
  clear hK K
  refine den_ret ?_
  simp (disch := decide) only [resP_2, puts_same, puts_ne]
  rw [liR_y c0]
  exact ⟨by first | rfl | trivial, eB⟩
end Go.Proofs.Ytjjjgllbocgkbaa

namespace Go.Proofs.Ytjjjgllbocgkbaa
open Go
set_option maxRecDepth 100000 in
set_option maxHeartbeats 4000000 in
theorem exactLimitNumber_law (vX : Value) (X : Fl) (n : Int) (q : Int) (h : Heap) (rX : RF h vX X)  : CallA Try.prog 7 #[vX, .int .i64 n, .int .i64 q] h fun v' h' => v' = .bool (true) ∧ Ext h h' := by
 obtain ⟨vdX, vmX, vvX, rfl, hdX, hmX, hvX⟩ := rX
 have hledX := RdS.le hdX
 have hlemX := RdS.le hmX
 have hlevX := RdS.le hvX
 refine callA_intro TTok (args := [_, _, _]) Try.func7 (by kernel_rfl) rfl 48 rfl (by simp) [.tmp 6] rfl ?_
 simp only [idxs, Nat.reduceAdd]
 refine den_seq ?_
 refine den_region TTok ?_
 intro K hK
 simp -implicitDefEqProofs (disch := first | decide | assumption | omega) only [go_sem, wrap_id]
 refine op_box (cs := #[.int .i64 (X.c.p), vdX, vmX, vvX]) rfl ?_
 intro h0_0 e0_0 hb0_0 z0_0
 have := Ext.size e0_0
 have eB := e0_0
 have hfhb0_0 : Fresh h.size [h.size] := Fresh.one _
 have hlhb0_0 := one_lt (show h.size < h0_0.size by omega)
 try simp -implicitDefEqProofs (disch := first | decide | assumption | omega) only [go_sem, wrap_id]
 refine hK _ _ ?_
 clear hK K
 refine den_seq ?_
 refine den_region TTok ?_
 intro K hK
 simp -implicitDefEqProofs (disch := first | decide | assumption | omega) only [go_sem, wrap_id]
 refine hK _ _ ?_
 clear hK K
 refine den_seq ?_
 refine den_region TTok ?_
 intro K hK
 simp -implicitDefEqProofs (disch := first | decide | assumption | omega) only [go_sem, ld28, BoxAt.cell hb0_0, wrap_id]
 try simp -implicitDefEqProofs (disch := first | decide | assumption | omega) only [go_sem, wrap_id]
 refine CallA.mono (szF_ok _ X _ _ ⟨_, _, _, rfl, (RdS.pres hdX (Ext.pres eB)), (RdS.pres hmX (Ext.pres eB)), (RdS.pres hvX (Ext.pres eB))⟩ (by omega) (by omega)) ?_
 intro v_ h2_2
 rintro ⟨rfl, e2_2⟩
 replace hb0_0 := BoxAt.ext hb0_0 e2_2
 have := Ext.size e2_2
 replace eB := Ext.trans eB e2_2
 have := szF_le X (1048576 : Int) (by omega)
 try simp -implicitDefEqProofs (disch := first | decide | assumption | omega) only [go_sem, wrap_id]
 refine hK _ _ ?_
 clear hK K
 refine den_seq ?_
 refine den_seq ?_
 refine den_region TTok ?_
 intro K hK
 simp -implicitDefEqProofs (disch := first | decide | assumption | omega) only [go_sem, wrap_id]
 refine hK _ _ ?_
 clear hK K
 refine den_cond rfl (fun c0 => ?_) (fun c0 => ?_)
 ·try simp only [decide_eq_true_eq, decide_eq_false_iff_not, beq_iff_eq, beq_eq_false_iff_ne, bne_iff_ne, ne_eq, Bool.not_eq_true', Bool.not_eq_false', Bool.and_eq_true, Bool.or_eq_true, bne_eq_false_iff_eq] at c0
  refine den_seq ?_
  refine den_region TTok ?_
  intro K hK
  simp -implicitDefEqProofs (disch := first | decide | assumption | omega) only [go_sem, wrap_id]
  refine hK _ _ ?_
  clear hK K
  refine den_ret ?_
  simp (disch := decide) only [resP_1, puts_same, puts_ne]
  exact ⟨by first | rfl | trivial, eB⟩
 ·try simp only [decide_eq_true_eq, decide_eq_false_iff_not, beq_iff_eq, beq_eq_false_iff_ne, bne_iff_ne, ne_eq, Bool.not_eq_true', Bool.not_eq_false', Bool.and_eq_true, Bool.or_eq_true, bne_eq_false_iff_eq] at c0
  have hMX := szF_ok' (by omega) (by omega) c0
  have hcnX := szF_cntA (by omega) (by omega) c0
  refine den_skip ?_
  refine den_seq ?_
  refine den_region TTok ?_
  intro K hK
  simp -implicitDefEqProofs (disch := first | decide | assumption | omega) only [go_sem, ld28, BoxAt.cell hb0_0, wrap_id]
  try simp -implicitDefEqProofs (disch := first | decide | assumption | omega) only [go_sem, wrap_id]
  refine CallA.mono (toF_ok _ X _ ⟨_, _, _, rfl, (RdS.pres hdX (Ext.pres eB)), (RdS.pres hmX (Ext.pres eB)), (RdS.pres hvX (Ext.pres eB))⟩ hMX) ?_
  intro v_ h5_1
  rintro ⟨vd5_1, vm5_1, vv5_1, fd5_1, fm5_1, fv5_1, rfl, hod5_1, hom5_1, hov5_1, hf5_1, e5_1⟩
  replace hb0_0 := BoxAt.ext hb0_0 e5_1
  have := Ext.size e5_1
  replace eB := Ext.trans eB e5_1
  have hfd5_1 := hf5_1.left
  have hf5_1r0 := hf5_1.right
  have hfm5_1 := hf5_1r0.left
  have hfv5_1 := hf5_1r0.right
  have hlhod5_1 := OS.lt hod5_1
  have hlhom5_1 := OS.lt hom5_1
  have hlhov5_1 := OS.lt hov5_1
  have ap1 : Apart fd5_1 fm5_1 := Apart.lft (apart_nodup hf5_1)
  have ap2 : Apart fd5_1 fv5_1 := Apart.rgt (apart_nodup hf5_1)
  have ap3 : Apart fm5_1 fv5_1 := apart_nodup hf5_1r0
  try simp -implicitDefEqProofs (disch := first | decide | assumption | omega) only [go_sem, wrap_id]
  try simp -implicitDefEqProofs (disch := first | decide | assumption | omega) only [go_sem, wrap_id]
  refine CallA.mono (sLN_ok _ X n q _ ⟨_, _, _, rfl, (OS.rd hod5_1), (OS.rd hom5_1), (OS.rd hov5_1)⟩ ) ?_
  intro v_ h5_4
  rintro ⟨rfl, e5_4⟩
  replace hod5_1 := OS.ext hod5_1 e5_4
  replace hom5_1 := OS.ext hom5_1 e5_4
  replace hov5_1 := OS.ext hov5_1 e5_4
  replace hb0_0 := BoxAt.ext hb0_0 e5_4
  have := Ext.size e5_4
  replace eB := Ext.trans eB e5_4
  try simp -implicitDefEqProofs (disch := first | decide | assumption | omega) only [go_sem, wrap_id]
  refine hK _ _ ?_
  clear hK K
  refine den_seq ?_
  refine den_region TTok ?_
  intro K hK
  simp -implicitDefEqProofs (disch := first | decide | assumption | omega) only [go_sem, ld28, BoxAt.cell hb0_0, wrap_id]
  try simp -implicitDefEqProofs (disch := first | decide | assumption | omega) only [go_sem, wrap_id]
  refine CallA.mono (toF_ok _ X _ ⟨_, _, _, rfl, (RdS.pres hdX (Ext.pres eB)), (RdS.pres hmX (Ext.pres eB)), (RdS.pres hvX (Ext.pres eB))⟩ hMX) ?_
  intro v_ h6_1
  rintro ⟨vd6_1, vm6_1, vv6_1, fd6_1, fm6_1, fv6_1, rfl, hod6_1, hom6_1, hov6_1, hf6_1, e6_1⟩
  replace hb0_0 := BoxAt.ext hb0_0 e6_1
  have := Ext.size e6_1
  replace eB := Ext.trans eB e6_1
  have hfd6_1 := hf6_1.left
  have hf6_1r0 := hf6_1.right
  have hfm6_1 := hf6_1r0.left
  have hfv6_1 := hf6_1r0.right
  have hlhod6_1 := OS.lt hod6_1
  have hlhom6_1 := OS.lt hom6_1
  have hlhov6_1 := OS.lt hov6_1
  have ap4 : Apart fd6_1 fm6_1 := Apart.lft (apart_nodup hf6_1)
  have ap5 : Apart fd6_1 fv6_1 := Apart.rgt (apart_nodup hf6_1)
  have ap6 : Apart fm6_1 fv6_1 := apart_nodup hf6_1r0
  try simp -implicitDefEqProofs (disch := first | decide | assumption | omega) only [go_sem, wrap_id]
  refine op_alloc (cs := #[.int .i64 0, .slice none 0 0, .slice none 0 0, .slice none 0 0]) (by kernel_rfl) ?_
  intro h6_2 e6_2 hb6_2 z6_2
  replace hod6_1 := OS.ext hod6_1 e6_2
  replace hom6_1 := OS.ext hom6_1 e6_2
  replace hov6_1 := OS.ext hov6_1 e6_2
  replace hb0_0 := BoxAt.ext hb0_0 e6_2
  have := Ext.size e6_2
  replace eB := Ext.trans eB e6_2
  have hfhb6_2 : Fresh h6_1.size [h6_1.size] := Fresh.one _
  have hlhb6_2 := one_lt (show h6_1.size < h6_2.size by omega)
  try simp -implicitDefEqProofs (disch := first | decide | assumption | omega) only [go_sem, wrap_id]
  refine op_storeB (cs' := #[.int .i64 (X.c.p), vd6_1, vm6_1, vv6_1]) st33 hb6_2 rfl rfl rfl (by simp) (allOne_mem (l := [.int .i64 (X.c.p), vd6_1, vm6_1, vv6_1]) ⟨rfl, (OS.one hod6_1).1, (OS.one hom6_1).1, (OS.one hov6_1).1, trivial⟩) rfl ?_
  intro h6_3 hb6_2 c6_3
  replace hod6_1 := OS.chg hod6_1 c6_3 (apart_lt hlhod6_1 hfhb6_2 (by omega))
  replace hom6_1 := OS.chg hom6_1 c6_3 (apart_lt hlhom6_1 hfhb6_2 (by omega))
  replace hov6_1 := OS.chg hov6_1 c6_3 (apart_lt hlhov6_1 hfhb6_2 (by omega))
  replace hb0_0 := BoxAt.chgA hb0_0 c6_3 (apart_lt hlhb0_0 hfhb6_2 (by omega))
  have := c6_3.size
  replace eB := Ext.then eB c6_3 (ge_of hfhb6_2 (by omega))
  try simp -implicitDefEqProofs (disch := first | decide | assumption | omega) only [go_sem, wrap_id]
  refine hK _ _ ?_
  clear hK K
  refine den_seq ?_
  refine den_region TTok ?_
  intro K hK
  simp -implicitDefEqProofs (disch := first | decide | assumption | omega) only [go_sem, ld33, BoxAt.cell hb6_2, wrap_id]
  try simp -implicitDefEqProofs (disch := first | decide | assumption | omega) only [go_sem, wrap_id]
  refine CallA.mono (iLN_ok _ X n q _ ⟨_, _, _, rfl, (OS.rd hod6_1), (OS.rd hom6_1), (OS.rd hov6_1)⟩ ) ?_
  intro v_ h7_3
  rintro ⟨rfl, e7_3⟩
  replace hod6_1 := OS.ext hod6_1 e7_3
  replace hom6_1 := OS.ext hom6_1 e7_3
  replace hov6_1 := OS.ext hov6_1 e7_3
  replace hb0_0 := BoxAt.ext hb0_0 e7_3
  replace hb6_2 := BoxAt.ext hb6_2 e7_3
  have := Ext.size e7_3
  replace eB := Ext.trans eB e7_3
  try simp -implicitDefEqProofs (disch := first | decide | assumption | omega) only [go_sem, wrap_id]
  refine hK _ _ ?_
  clear hK K
  refine den_seq ?_
  refine den_seq ?_
  refine den_mergeH [(42, .bool (((((liR X 0 n q).1) != ((liR X 0 n q).1)) || (((liR X 0 n q).2) != ((liR X 0 n q).2)))))] [3, 10] ?_ ?_
   -- a way
  ·refine den_region TTok ?_
   intro K hK
   simp -implicitDefEqProofs (disch := first | decide | assumption | (simp (disch := decide) only [slotOf_zero, slotOf_succ, Option.map_some, puts_same, puts_ne, gv_bool, gv_undef, tt, tf, ft, ff, eq_self, if_true, if_false, Bool.false_eq_true, Bool.not_true, Bool.not_false]; done) | omega) only [go_sem, wrap_id]
   refine opsP_F (by simp (disch := decide) only [slotOf_zero, slotOf_succ, Option.map_some, puts_same, puts_ne, gv_bool, gv_undef, tt, tf, ft, ff, eq_self, if_true, if_false, Bool.false_eq_true, Bool.not_true, Bool.not_false]; rfl) (fun g7 => ?_) (fun g7 => ?_)
   ·try simp -implicitDefEqProofs (disch := first | decide | assumption | (simp (disch := decide) only [slotOf_zero, slotOf_succ, Option.map_some, puts_same, puts_ne, gv_bool, gv_undef, tt, tf, ft, ff, eq_self, if_true, if_false, Bool.false_eq_true, Bool.not_true, Bool.not_false, g7]; done) | omega) only [go_sem, wrap_id, g7, eq_self, if_true, if_false, Bool.false_eq_true]
    refine hK _ _ ?_
    clear hK K
    refine den_stop ?_
    refine ⟨?_, rfl⟩
    first | (simp (disch := decide) only [go_sem, g7, eq_self, Bool.true_and, Bool.and_true, Bool.false_and, Bool.and_false, Bool.true_or, Bool.or_true, Bool.false_or, Bool.or_false, if_true, if_false, Bool.false_eq_true]; done) | simp [HasL, sel, puts_at, g7]
   ·try simp -implicitDefEqProofs (disch := first | decide | assumption | (simp (disch := decide) only [slotOf_zero, slotOf_succ, Option.map_some, puts_same, puts_ne, gv_bool, gv_undef, tt, tf, ft, ff, eq_self, if_true, if_false, Bool.false_eq_true, Bool.not_true, Bool.not_false, g7]; done) | omega) only [go_sem, wrap_id, g7, eq_self, if_true, if_false, Bool.false_eq_true]
    refine hK _ _ ?_
    clear hK K
    refine den_stop ?_
    refine ⟨?_, rfl⟩
    first | (simp (disch := decide) only [go_sem, g7, eq_self, Bool.true_and, Bool.and_true, Bool.false_and, Bool.and_false, Bool.true_or, Bool.or_true, Bool.false_or, Bool.or_false, if_true, if_false, Bool.false_eq_true]; done) | simp [HasL, sel, puts_at, g7]
  intro en8
  simp (disch := decide) only [go_sem]
  refine den_cond rfl (fun c1 => ?_) (fun c1 => ?_)
  ·try simp only [decide_eq_true_eq, decide_eq_false_iff_not, beq_iff_eq, beq_eq_false_iff_ne, bne_iff_ne, ne_eq, Bool.not_eq_true', Bool.not_eq_false', Bool.and_eq_true, Bool.or_eq_true, bne_eq_false_iff_eq] at c1
   refine den_seq ?_
   refine den_region TTok ?_
   intro K hK
   simp -implicitDefEqProofs (disch := first | decide | assumption | omega) only [go_sem, wrap_id]
   refine hK _ _ ?_
   clear hK K
   refine den_ret ?_
   simp (disch := decide) only [resP_1, puts_same, puts_ne]
   exact absurd c1 (by first | (simp; done) | (simp; omega) | omega | (simp [eqC_self]; done))
  ·try simp only [decide_eq_true_eq, decide_eq_false_iff_not, beq_iff_eq, beq_eq_false_iff_ne, bne_iff_ne, ne_eq, Bool.not_eq_true', Bool.not_eq_false', Bool.and_eq_true, Bool.or_eq_true, bne_eq_false_iff_eq] at c1
   refine den_skip ?_
   refine den_seq ?_
   refine den_seq ?_
   refine den_draw TTok mixed [] [(0, true), (1, true), (2, false), (3, false), (4, true)] (by kernel_rfl) ?_
   intro K hK
   simp -implicitDefEqProofs (disch := first | decide | assumption | omega) only [go_sem, ld33, ld28, BoxAt.cell hb0_0, BoxAt.cell hb6_2, wrap_id]
   try simp -implicitDefEqProofs (disch := first | decide | assumption | omega) only [go_sem, wrap_id]
   refine CallA.mono (toF_ok _ X _ ⟨_, _, _, rfl, (RdS.pres hdX (Ext.pres eB)), (RdS.pres hmX (Ext.pres eB)), (RdS.pres hvX (Ext.pres eB))⟩ hMX) ?_
   intro v_ h10_2
   rintro ⟨vd10_2, vm10_2, vv10_2, fd10_2, fm10_2, fv10_2, rfl, hod10_2, hom10_2, hov10_2, hf10_2, e10_2⟩
   replace hod6_1 := OS.ext hod6_1 e10_2
   replace hom6_1 := OS.ext hom6_1 e10_2
   replace hov6_1 := OS.ext hov6_1 e10_2
   replace hb0_0 := BoxAt.ext hb0_0 e10_2
   replace hb6_2 := BoxAt.ext hb6_2 e10_2
   have := Ext.size e10_2
   replace eB := Ext.trans eB e10_2
   have hfd10_2 := hf10_2.left
   have hf10_2r0 := hf10_2.right
   have hfm10_2 := hf10_2r0.left
   have hfv10_2 := hf10_2r0.right
   have hlhod10_2 := OS.lt hod10_2
   have hlhom10_2 := OS.lt hom10_2
   have hlhov10_2 := OS.lt hov10_2
   have ap11 : Apart fd10_2 fm10_2 := Apart.lft (apart_nodup hf10_2)
   have ap12 : Apart fd10_2 fv10_2 := Apart.rgt (apart_nodup hf10_2)
   have ap13 : Apart fm10_2 fv10_2 := apart_nodup hf10_2r0
   try simp (disch := decide) only [outv_some, outv_none, put_puts]
   refine plK_pres (Ext.pres e10_2) ?_
   try simp -implicitDefEqProofs (disch := first | decide | assumption | omega) only [go_sem, wrap_id]
   try simp -implicitDefEqProofs (disch := first | decide | assumption | omega) only [go_sem, wrap_id]
   refine CallA.mono (eqF_same _ _ X _ ⟨_, _, _, rfl, (OS.rd hod6_1), (OS.rd hom6_1), (OS.rd hov6_1)⟩ ⟨_, _, _, rfl, (OS.rd hod10_2), (OS.rd hom10_2), (OS.rd hov10_2)⟩) ?_
   intro v_ h10_3
   rintro ⟨rfl, e10_3⟩
   replace hod6_1 := OS.ext hod6_1 e10_3
   replace hom6_1 := OS.ext hom6_1 e10_3
   replace hov6_1 := OS.ext hov6_1 e10_3
   replace hod10_2 := OS.ext hod10_2 e10_3
   replace hom10_2 := OS.ext hom10_2 e10_3
   replace hov10_2 := OS.ext hov10_2 e10_3
   replace hb0_0 := BoxAt.ext hb0_0 e10_3
   replace hb6_2 := BoxAt.ext hb6_2 e10_3
   have := Ext.size e10_3
   replace eB := Ext.trans eB e10_3
   try simp (disch := decide) only [outv_some, outv_none, put_puts]
   refine plK_pres (Ext.pres e10_3) ?_
   try simp -implicitDefEqProofs (disch := first | decide | assumption | omega) only [go_sem, wrap_id]
   refine hK _ _ ?_
   clear hK K
   refine den_cond rfl (fun c2 => ?_) (fun c2 => ?_)
   ·try simp only [decide_eq_true_eq, decide_eq_false_iff_not, beq_iff_eq, beq_eq_false_iff_ne, bne_iff_ne, ne_eq, Bool.not_eq_true', Bool.not_eq_false', Bool.and_eq_true, Bool.or_eq_true, bne_eq_false_iff_eq] at c2
    refine den_seq ?_
    refine den_region TTok ?_
    intro K hK
    simp -implicitDefEqProofs (disch := first | decide | assumption | omega) only [go_sem, wrap_id]
    refine hK _ _ ?_
    clear hK K
    refine den_ret ?_
    simp (disch := decide) only [resP_1, puts_same, puts_ne]
    exact absurd c2 (by first | (simp; done) | (simp; omega) | omega | (simp [eqC_self]; done))
   ·try simp only [decide_eq_true_eq, decide_eq_false_iff_not, beq_iff_eq, beq_eq_false_iff_ne, bne_iff_ne, ne_eq, Bool.not_eq_true', Bool.not_eq_false', Bool.and_eq_true, Bool.or_eq_true, bne_eq_false_iff_eq] at c2
    refine den_skip ?_
    refine den_seq ?_
    refine den_region TTok ?_
    intro K hK
    simp -implicitDefEqProofs (disch := first | decide | assumption | omega) only [go_sem, wrap_id]
    refine hK _ _ ?_
    clear hK K
    refine den_ret ?_
    simp (disch := decide) only [resP_1, puts_same, puts_ne]
    exact ⟨by first | rfl | trivial, eB⟩
end Go.Proofs.Ytjjjgllbocgkbaa
