/-
  What the statement FnExactPartOf uses of the walks, part 3.
  Conditions: each theorem's own.
-/
import Derived.Test.YtjjjgllbocgkbaaG16
import Derived.Test.YtjjjgllbocgkbaaG17
import Derived.Test.YtjjjgllbocgkbaaG14
import Derived.Test.YtjjjgllbocgkbaaG13
import Derived.Test.YtjjjgllbocgkbaaG15
import Derived.Test.YtjjjgllbocgkbaaG18
import Derived.Test.YtjjjgllbocgkbaaG19
import Derived.Test.YtjjjgllbocgkbaaZPartOf1
import Derived.Test.YtjjjgllbocgkbaaZPartOf2
set_option linter.unusedVariables false
set_option linter.unusedSimpArgs false
namespace Go.Proofs.Ytjjjgllbocgkbaa
open Go
theorem upJ_succ (X : Fl) (k i : Nat) (row : List Int) (j : Nat) : upJ X k i row (j + 1) = (upJ X k i row j && goodP X k i j (row.getD j 0)) := all_range_succ
theorem upI_succ (X : Fl) (k : Nat) (R : List (List Int)) (i : Nat) : upI X k R (i + 1) = (upI X k R i && upJ X k i (R.getD i default) (R.getD i default).length) := all_range_succ
theorem upK_succ (X : Fl) (M : List (List (List Int))) (k : Nat) : upK X M (k + 1) = (upK X M k && upI X k (M.getD k default) (M.getD k default).length) := all_range_succ
/-- How far all is well. -/
def upA (X : Fl) (k i j : Nat) : Bool := upK X X.c.maps k && upI X k (X.c.maps.getD k default) i && upJ X k i ((X.c.maps.getD k default).getD i default) j
theorem upA_j (X : Fl) (k i j : Nat) : upA X k i (j + 1) = (upA X k i j && goodP X k i j (((X.c.maps.getD k default).getD i default).getD j 0)) := by
 unfold upA
 rw [upJ_succ, ← Bool.and_assoc]
theorem upA_i (X : Fl) (k i : Nat) : upA X k (i + 1) 0 = upA X k i ((X.c.maps.getD k default).getD i default).length := by
 unfold upA
 rw [upI_succ, show ∀ R, upJ X k (i + 1) R 0 = true from fun R => rfl, Bool.and_true, Bool.and_assoc]
theorem upA_k (X : Fl) (k : Nat) : upA X (k + 1) 0 0 = upA X k (X.c.maps.getD k default).length 0 := by
 unfold upA
 rw [upK_succ, show ∀ i R, upJ X (k + 1) i R 0 = true from fun i R => rfl, show ∀ R, upI X (k + 1) R 0 = true from fun R => rfl, show ∀ i R, upJ X k i R 0 = true from fun i R => rfl, Bool.and_true, Bool.and_true]
theorem upA_end (X : Fl) (k : Nat) : upA X k 0 0 = upK X X.c.maps k := by
 unfold upA
 rw [show ∀ i R, upJ X k i R 0 = true from fun i R => rfl, show ∀ R, upI X k R 0 = true from fun R => rfl, Bool.and_true, Bool.and_true]
theorem upA_0 (X : Fl) : upA X 0 0 0 = true := rfl
theorem isF_eq {X : Fl} (h : IsC X.c) (h1 : X.lv.length = X.c.dims.length) (h2 : ∀ n, n < X.lv.length → ((X.lv.getD n default).length : Int) = X.c.dims.getD n 0 ∧ (X.lv.getD n default).all (fun q => in3 q 0 5) = true) : upA X X.c.maps.length 0 0 = isF X := by
 rw [upA_end]
 cases e : upK X X.c.maps X.c.maps.length
 ·exact isF_no (fun q => by rw [q.up] at e; cases e)
 ·exact isF_yes ⟨h, h1, fun n hn => (h2 n hn).1, fun n hn => (h2 n hn).2, e⟩
theorem any_in3 {xs : List Int} {a b : Int} (h : xs.any (fun x => !in3 x a b) = false) : xs.all (fun x => in3 x a b) = true := by
 rw [List.any_eq_false] at h
 rw [List.all_eq_true]
 intro x hx
 have := h x hx
 simpa using this
theorem any_in3F {xs : List Int} {a b : Int} (h : xs.any (fun x => !in3 x a b) = true) : ¬ xs.all (fun x => in3 x a b) = true := by
 intro h2
 obtain ⟨x, hx, h3⟩ := List.any_eq_true.1 h
 rw [List.all_eq_true.1 h2 x hx] at h3
 cases h3

set_option maxRecDepth 100000 in
theorem iIsF_ok (vX : Value) (X : Fl) (h : Heap) (rX : RF h vX X)  : CallA Try.prog 18 #[vX] h fun v' h' => v' = .bool (isF X) ∧ Ext h h' := by
 obtain ⟨vdX, vmX, vvX, rfl, hdX, hmX, hvX⟩ := rX
 have hledX := RdS.le hdX
 have hlemX := RdS.le hmX
 have hlevX := RdS.le hvX
 refine callA_intro TTok (args := [_]) Try.func18 (by kernel_rfl) rfl 46 rfl (by simp) [.tmp 2] rfl ?_
 simp only [idxs, Nat.reduceAdd]
 refine den_seq ?_
 refine den_region TTok ?_
 intro K hK
 simp -implicitDefEqProofs (disch := first | decide | assumption | omega) only [go_sem, RdS.len hdX sl22, RdS.idx hdX sl22, R1.intB hdX (HPres.refl _), RdS.cells hdX, RdS.len hmX sl23, RdS.idx hmX sl23, RdS.cellB hmX (HPres.refl _), RdS.cells hmX, RdS.len hvX sl26, RdS.idx hvX sl26, RdS.cellB hvX (HPres.refl _), RdS.cells hvX, wrap_id]
 refine op_box (cs := #[.int .i64 (X.c.p), vdX, vmX, vvX]) rfl ?_
 intro h0_0 e0_0 hb0_0 z0_0
 have := Ext.size e0_0
 have eB := e0_0
 have hfhb0_0 : Fresh h.size [h.size] := Fresh.one _
 have hlhb0_0 := one_lt (show h.size < h0_0.size by omega)
 try simp -implicitDefEqProofs (disch := first | decide | assumption | omega) only [go_sem, RdS.len hdX sl22, RdS.idx hdX sl22, R1.intB hdX (Ext.pres eB), RdS.cells hdX, RdS.len hmX sl23, RdS.idx hmX sl23, RdS.cellB hmX (Ext.pres eB), RdS.cells hmX, RdS.len hvX sl26, RdS.idx hvX sl26, RdS.cellB hvX (Ext.pres eB), RdS.cells hvX, BoxAt.cell hb0_0, wrap_id]
 refine hK _ _ ?_
 clear hK K
 refine den_seq ?_
 refine den_region TTok ?_
 intro K hK
 simp -implicitDefEqProofs (disch := first | decide | assumption | omega) only [go_sem, fa33_0, ld31, RdS.len hdX sl22, RdS.idx hdX sl22, R1.intB hdX (Ext.pres eB), RdS.cells hdX, RdS.len hmX sl23, RdS.idx hmX sl23, RdS.cellB hmX (Ext.pres eB), RdS.cells hmX, RdS.len hvX sl26, RdS.idx hvX sl26, RdS.cellB hvX (Ext.pres eB), RdS.cells hvX, BoxAt.cell hb0_0, wrap_id]
 refine op_alloc (cs := #[.int .i64 0, .slice none 0 0, .slice none 0 0]) (by kernel_rfl) ?_
 intro h1_2 e1_2 hb1_2 z1_2
 replace hb0_0 := BoxAt.ext hb0_0 e1_2
 have := Ext.size e1_2
 replace eB := Ext.trans eB e1_2
 have hfhb1_2 : Fresh h0_0.size [h0_0.size] := Fresh.one _
 have hlhb1_2 := one_lt (show h0_0.size < h1_2.size by omega)
 try simp -implicitDefEqProofs (disch := first | decide | assumption | omega) only [go_sem, RdS.len hdX sl22, RdS.idx hdX sl22, R1.intB hdX (Ext.pres eB), RdS.cells hdX, RdS.len hmX sl23, RdS.idx hmX sl23, RdS.cellB hmX (Ext.pres eB), RdS.cells hmX, RdS.len hvX sl26, RdS.idx hvX sl26, RdS.cellB hvX (Ext.pres eB), RdS.cells hvX, BoxAt.cell hb0_0, BoxAt.cell hb1_2, wrap_id]
 refine op_storeB (cs' := #[.int .i64 (X.c.p), vdX, vmX]) st31 hb1_2 rfl rfl rfl (by simp) (allOne_mem (l := [.int .i64 (X.c.p), vdX, vmX]) ⟨rfl, (RdS.one hdX), (RdS.one hmX), trivial⟩) rfl ?_
 intro h1_3 hb1_2 c1_3
 replace hb0_0 := BoxAt.chgA hb0_0 c1_3 (apart_lt hlhb0_0 hfhb1_2 (by omega))
 have := c1_3.size
 replace eB := Ext.then eB c1_3 (ge_of hfhb1_2 (by omega))
 try simp -implicitDefEqProofs (disch := first | decide | assumption | omega) only [go_sem, RdS.len hdX sl22, RdS.idx hdX sl22, R1.intB hdX (Ext.pres eB), RdS.cells hdX, RdS.len hmX sl23, RdS.idx hmX sl23, RdS.cellB hmX (Ext.pres eB), RdS.cells hmX, RdS.len hvX sl26, RdS.idx hvX sl26, RdS.cellB hvX (Ext.pres eB), RdS.cells hvX, BoxAt.cell hb0_0, BoxAt.cell hb1_2, wrap_id]
 refine hK _ _ ?_
 clear hK K
 refine den_seq ?_
 refine den_seq ?_
 refine den_merge [(20, .bool (((!((isC X.c))) || (((X.lv).length : Int) != ((X.c.dims).length : Int)))))] [1, 3] (fun H => Ext h1_3 H) ?_ ?_
  -- a way
 ·refine den_region TTok ?_
  intro K hK
  simp -implicitDefEqProofs (disch := first | decide | assumption | (simp (disch := decide) only [slotOf_zero, slotOf_succ, Option.map_some, puts_same, puts_ne, gv_bool, gv_undef, tt, tf, ft, ff, eq_self, if_true, if_false, Bool.false_eq_true, Bool.not_true, Bool.not_false]; done) | omega) only [go_sem, ld31, RdS.len hdX sl22, RdS.idx hdX sl22, R1.intB hdX (Ext.pres eB), RdS.cells hdX, RdS.len hmX sl23, RdS.idx hmX sl23, RdS.cellB hmX (Ext.pres eB), RdS.cells hmX, RdS.len hvX sl26, RdS.idx hvX sl26, RdS.cellB hvX (Ext.pres eB), RdS.cells hvX, BoxAt.cell hb0_0, BoxAt.cell hb1_2, wrap_id]
  try simp -implicitDefEqProofs (disch := first | decide | assumption | omega) only [go_sem, RdS.len hdX sl22, RdS.idx hdX sl22, R1.intB hdX (Ext.pres eB), RdS.cells hdX, RdS.len hmX sl23, RdS.idx hmX sl23, RdS.cellB hmX (Ext.pres eB), RdS.cells hmX, RdS.len hvX sl26, RdS.idx hvX sl26, RdS.cellB hvX (Ext.pres eB), RdS.cells hvX, BoxAt.cell hb0_0, BoxAt.cell hb1_2, wrap_id]
  refine CallA.mono (iIs_ok _ X.c _ ⟨_, _, rfl, (RdS.pres hdX (Ext.pres eB)), (RdS.pres hmX (Ext.pres eB))⟩) ?_
  intro v_ h2_1
  rintro ⟨rfl, e2_1⟩
  replace hb0_0 := BoxAt.ext hb0_0 e2_1
  replace hb1_2 := BoxAt.ext hb1_2 e2_1
  have := Ext.size e2_1
  replace eB := Ext.trans eB e2_1
  try simp -implicitDefEqProofs (disch := first | decide | assumption | (simp (disch := decide) only [slotOf_zero, slotOf_succ, Option.map_some, puts_same, puts_ne, gv_bool, gv_undef, tt, tf, ft, ff, eq_self, if_true, if_false, Bool.false_eq_true, Bool.not_true, Bool.not_false]; done) | omega) only [go_sem, RdS.len hdX sl22, RdS.idx hdX sl22, R1.intB hdX (Ext.pres eB), RdS.cells hdX, RdS.len hmX sl23, RdS.idx hmX sl23, RdS.cellB hmX (Ext.pres eB), RdS.cells hmX, RdS.len hvX sl26, RdS.idx hvX sl26, RdS.cellB hvX (Ext.pres eB), RdS.cells hvX, BoxAt.cell hb0_0, BoxAt.cell hb1_2, wrap_id]
  refine opsP_F (by simp (disch := decide) only [slotOf_zero, slotOf_succ, Option.map_some, puts_same, puts_ne, gv_bool, gv_undef, tt, tf, ft, ff, eq_self, if_true, if_false, Bool.false_eq_true, Bool.not_true, Bool.not_false]; rfl) (fun g1 => ?_) (fun g1 => ?_)
  ·try simp -implicitDefEqProofs (disch := first | decide | assumption | (simp (disch := decide) only [slotOf_zero, slotOf_succ, Option.map_some, puts_same, puts_ne, gv_bool, gv_undef, tt, tf, ft, ff, eq_self, if_true, if_false, Bool.false_eq_true, Bool.not_true, Bool.not_false, g1]; done) | omega) only [go_sem, fa31_1, fa33_1, ld26, ld22, RdS.len hdX sl22, RdS.idx hdX sl22, R1.intB hdX (Ext.pres eB), RdS.cells hdX, RdS.len hmX sl23, RdS.idx hmX sl23, RdS.cellB hmX (Ext.pres eB), RdS.cells hmX, RdS.len hvX sl26, RdS.idx hvX sl26, RdS.cellB hvX (Ext.pres eB), RdS.cells hvX, BoxAt.cell hb0_0, BoxAt.cell hb1_2, wrap_id, g1, eq_self, if_true, if_false, Bool.false_eq_true]
   refine hK _ _ ?_
   clear hK K
   refine den_stop ?_
   refine ⟨?_, e2_1⟩
   first | (simp (disch := decide) only [go_sem, g1, eq_self, Bool.true_and, Bool.and_true, Bool.false_and, Bool.and_false, Bool.true_or, Bool.or_true, Bool.false_or, Bool.or_false, if_true, if_false, Bool.false_eq_true]; done) | simp [HasL, sel, puts_at, g1]
  ·try simp -implicitDefEqProofs (disch := first | decide | assumption | (simp (disch := decide) only [slotOf_zero, slotOf_succ, Option.map_some, puts_same, puts_ne, gv_bool, gv_undef, tt, tf, ft, ff, eq_self, if_true, if_false, Bool.false_eq_true, Bool.not_true, Bool.not_false, g1]; done) | omega) only [go_sem, RdS.len hdX sl22, RdS.idx hdX sl22, R1.intB hdX (Ext.pres eB), RdS.cells hdX, RdS.len hmX sl23, RdS.idx hmX sl23, RdS.cellB hmX (Ext.pres eB), RdS.cells hmX, RdS.len hvX sl26, RdS.idx hvX sl26, RdS.cellB hvX (Ext.pres eB), RdS.cells hvX, BoxAt.cell hb0_0, BoxAt.cell hb1_2, wrap_id, g1, eq_self, if_true, if_false, Bool.false_eq_true]
   refine hK _ _ ?_
   clear hK K
   refine den_stop ?_
   refine ⟨?_, e2_1⟩
   first | (simp (disch := decide) only [go_sem, g1, eq_self, Bool.true_and, Bool.and_true, Bool.false_and, Bool.and_false, Bool.true_or, Bool.or_true, Bool.false_or, Bool.or_false, if_true, if_false, Bool.false_eq_true]; done) | simp [HasL, sel, puts_at, g1]
 intro en2 h3 e4
 replace hb0_0 := BoxAt.ext hb0_0 e4
 replace hb1_2 := BoxAt.ext hb1_2 e4
 have := Ext.size e4
 replace eB := Ext.trans eB e4
 simp (disch := decide) only [go_sem]
 refine den_cond rfl (fun c0 => ?_) (fun c0 => ?_)
 ·try simp only [decide_eq_true_eq, decide_eq_false_iff_not, beq_iff_eq, beq_eq_false_iff_ne, bne_iff_ne, ne_eq, Bool.not_eq_true', Bool.not_eq_false', Bool.and_eq_true, Bool.or_eq_true, bne_eq_false_iff_eq, Bool.or_eq_false_iff, Bool.and_eq_false_iff] at c0
  refine den_seq ?_
  refine den_region TTok ?_
  intro K hK
  simp -implicitDefEqProofs (disch := first | decide | assumption | omega) only [go_sem, RdS.len hdX sl22, RdS.idx hdX sl22, R1.intB hdX (Ext.pres eB), RdS.cells hdX, RdS.len hmX sl23, RdS.idx hmX sl23, RdS.cellB hmX (Ext.pres eB), RdS.cells hmX, RdS.len hvX sl26, RdS.idx hvX sl26, RdS.cellB hvX (Ext.pres eB), RdS.cells hvX, wrap_id]
  refine hK _ _ ?_
  clear hK K
  refine den_ret ?_
  simp (disch := decide) only [resP_1, puts_same, puts_ne]
  exact ⟨vbool (isF_no (fun q => by simp [isC_t.2 q.c, q.ln] at c0)), eB⟩
 ·try simp only [decide_eq_true_eq, decide_eq_false_iff_not, beq_iff_eq, beq_eq_false_iff_ne, bne_iff_ne, ne_eq, Bool.not_eq_true', Bool.not_eq_false', Bool.and_eq_true, Bool.or_eq_true, bne_eq_false_iff_eq, Bool.or_eq_false_iff, Bool.and_eq_false_iff] at c0
  have hC := isC_t.1 c0.1
  have hlC := hC.len
  have hml := hC.ml
  refine den_skip ?_
  refine den_seq ?_
  refine den_seq ?_
  refine den_region TTok ?_
  intro K hK
  simp -implicitDefEqProofs (disch := first | decide | assumption | omega) only [go_sem, fa33_1, ld26, RdS.len hdX sl22, RdS.idx hdX sl22, R1.intB hdX (Ext.pres eB), RdS.cells hdX, RdS.len hmX sl23, RdS.idx hmX sl23, RdS.cellB hmX (Ext.pres eB), RdS.cells hmX, RdS.len hvX sl26, RdS.idx hvX sl26, RdS.cellB hvX (Ext.pres eB), RdS.cells hvX, BoxAt.cell hb0_0, BoxAt.cell hb1_2, wrap_id]
  refine hK _ _ ?_
  clear hK K
  refine den_block ?_
  refine den_sel [24, 1, 3, 22, 23] ?_
  intro env_5
  simp only [go_sem]
  refine den_loopS (σ := Nat) (fun st_ => [(24, .int .i64 (st_ : Int))]) (fun st_ H => (st_ ≤ X.lv.length) ∧ (∀ q, q < st_ → ((X.lv.getD q default).length : Int) = X.c.dims.getD q 0 ∧ (X.lv.getD q default).all (fun z => in3 z 0 5) = true) ∧ (Ext h3 H)) (fun st_ => X.lv.length - st_) 0 ?_ ?_
  ·exact ⟨by first | (simp; done) | (dsimp only; omega) | (simp; omega), by first | (simp; done) | (dsimp only; omega) | (simp; omega), Ext.refl _⟩
  ·rintro n h8 ee7 ⟨hi0, hrow, cL6⟩
   replace hb0_0 := BoxAt.ext hb0_0 cL6
   replace hb1_2 := BoxAt.ext hb1_2 cL6
   have := Ext.size cL6
   replace eB := Ext.trans eB cL6
   simp only [List.cons_append, List.nil_append]
   refine den_seq ?_
   refine den_region TTok ?_
   intro K hK
   simp -implicitDefEqProofs (disch := first | decide | assumption | omega) only [go_sem, RdS.len hdX sl22, RdS.idx hdX sl22, R1.intB hdX (Ext.pres eB), RdS.cells hdX, RdS.len hmX sl23, RdS.idx hmX sl23, RdS.cellB hmX (Ext.pres eB), RdS.cells hmX, RdS.len hvX sl26, RdS.idx hvX sl26, RdS.cellB hvX (Ext.pres eB), RdS.cells hvX, BoxAt.cell hb0_0, BoxAt.cell hb1_2, wrap_id]
   refine hK _ _ ?_
   clear hK K
   refine den_seq ?_
   refine den_cond rfl (fun c1 => ?_) (fun c1 => ?_)
   ·try simp only [decide_eq_true_eq, decide_eq_false_iff_not, beq_iff_eq, beq_eq_false_iff_ne, bne_iff_ne, ne_eq, Bool.not_eq_true', Bool.not_eq_false', Bool.and_eq_true, Bool.or_eq_true, bne_eq_false_iff_eq, Bool.or_eq_false_iff, Bool.and_eq_false_iff] at c1
    refine den_skip ?_
    refine den_seq ?_
    refine den_block ?_
    refine den_seq ?_
    refine den_region TTok ?_
    intro K hK
    have hr9 := RdS.rowN hvX n (by omega)
    have hlhr9 := RdS.le hr9
    simp -implicitDefEqProofs (disch := first | decide | assumption | omega) only [go_sem, ld22, RdS.len hdX sl22, RdS.idx hdX sl22, R1.intB hdX (Ext.pres eB), RdS.cells hdX, RdS.len hmX sl23, RdS.idx hmX sl23, RdS.cellB hmX (Ext.pres eB), RdS.cells hmX, RdS.len hvX sl26, RdS.idx hvX sl26, RdS.cellB hvX (Ext.pres eB), RdS.cells hvX, RdS.len hr9 sl22, RdS.idx hr9 sl22, R1.intB hr9 (Ext.pres eB), RdS.cells hr9, BoxAt.cell hb0_0, BoxAt.cell hb1_2, wrap_id]
    refine hK _ _ ?_
    clear hK K
    refine den_seq ?_
    refine den_merge [(40, .bool ((((((X.lv).getD n default).length : Int) != ((X.c.dims).getD n 0)) || ((X.lv.getD n default).any (fun x => !in3 x 0 5)))))] [1, 3, 22, 23, 24] (fun H => Ext h8 H) ?_ ?_
     -- a way
    ·refine den_draw TTok mixed [] [(0, true), (2, true), (3, true), (4, true), (5, true), (6, true), (1, false), (7, true), (8, true), (9, true), (10, false), (11, true)] (by kernel_rfl) ?_
     intro K hK
     simp -implicitDefEqProofs (disch := first | decide | assumption | (simp (disch := decide) only [slotOf_zero, slotOf_succ, Option.map_some, puts_same, puts_ne, gv_bool, gv_undef, tt, tf, ft, ff, eq_self, if_true, if_false, Bool.false_eq_true, Bool.not_true, Bool.not_false]; done) | omega) only [go_sem, fa31_1, ld22, ld2, RdS.len hdX sl22, RdS.idx hdX sl22, R1.intB hdX (Ext.pres eB), RdS.cells hdX, RdS.len hmX sl23, RdS.idx hmX sl23, RdS.cellB hmX (Ext.pres eB), RdS.cells hmX, RdS.len hvX sl26, RdS.idx hvX sl26, RdS.cellB hvX (Ext.pres eB), RdS.cells hvX, RdS.len hr9 sl22, RdS.idx hr9 sl22, R1.intB hr9 (Ext.pres eB), RdS.cells hr9, BoxAt.cell hb0_0, BoxAt.cell hb1_2, wrap_id]
     try simp -implicitDefEqProofs (disch := first | decide | assumption | omega) only [go_sem, RdS.len hdX sl22, RdS.idx hdX sl22, R1.intB hdX (Ext.pres eB), RdS.cells hdX, RdS.len hmX sl23, RdS.idx hmX sl23, RdS.cellB hmX (Ext.pres eB), RdS.cells hmX, RdS.len hvX sl26, RdS.idx hvX sl26, RdS.cellB hvX (Ext.pres eB), RdS.cells hvX, RdS.len hr9 sl22, RdS.idx hr9 sl22, R1.intB hr9 (Ext.pres eB), RdS.cells hr9, BoxAt.cell hb0_0, BoxAt.cell hb1_2, wrap_id]
     refine CallA.pure (size1_ok _ _ _ (RdS.pres hr9 (Ext.pres eB))) ?_
     try simp -implicitDefEqProofs (disch := first | decide | assumption | (simp (disch := decide) only [slotOf_zero, slotOf_succ, Option.map_some, puts_same, puts_ne, gv_bool, gv_undef, tt, tf, ft, ff, eq_self, if_true, if_false, Bool.false_eq_true, Bool.not_true, Bool.not_false]; done) | omega) only [go_sem, RdS.len hdX sl22, RdS.idx hdX sl22, R1.intB hdX (Ext.pres eB), RdS.cells hdX, RdS.len hmX sl23, RdS.idx hmX sl23, RdS.cellB hmX (Ext.pres eB), RdS.cells hmX, RdS.len hvX sl26, RdS.idx hvX sl26, RdS.cellB hvX (Ext.pres eB), RdS.cells hvX, RdS.len hr9 sl22, RdS.idx hr9 sl22, R1.intB hr9 (Ext.pres eB), RdS.cells hr9, BoxAt.cell hb0_0, BoxAt.cell hb1_2, wrap_id]
     refine plG_F (by simp (disch := decide) only [slotOf_zero, slotOf_succ, Option.map_some, puts_same, puts_ne, gv_bool, gv_undef, tt, tf, ft, ff, eq_self, if_true, if_false, Bool.false_eq_true, Bool.not_true, Bool.not_false]; rfl) (fun g10 => ?_) (fun g10 => ?_)
     ·try simp -implicitDefEqProofs (disch := first | decide | assumption | (simp (disch := decide) only [slotOf_zero, slotOf_succ, Option.map_some, puts_same, puts_ne, gv_bool, gv_undef, tt, tf, ft, ff, eq_self, if_true, if_false, Bool.false_eq_true, Bool.not_true, Bool.not_false, g10]; done) | omega) only [go_sem, RdS.len hdX sl22, RdS.idx hdX sl22, R1.intB hdX (Ext.pres eB), RdS.cells hdX, RdS.len hmX sl23, RdS.idx hmX sl23, RdS.cellB hmX (Ext.pres eB), RdS.cells hmX, RdS.len hvX sl26, RdS.idx hvX sl26, RdS.cellB hvX (Ext.pres eB), RdS.cells hvX, RdS.len hr9 sl22, RdS.idx hr9 sl22, R1.intB hr9 (Ext.pres eB), RdS.cells hr9, BoxAt.cell hb0_0, BoxAt.cell hb1_2, wrap_id, g10, eq_self, if_true, if_false, Bool.false_eq_true]
      try simp -implicitDefEqProofs (disch := first | decide | assumption | omega) only [go_sem, RdS.len hdX sl22, RdS.idx hdX sl22, R1.intB hdX (Ext.pres eB), RdS.cells hdX, RdS.len hmX sl23, RdS.idx hmX sl23, RdS.cellB hmX (Ext.pres eB), RdS.cells hmX, RdS.len hvX sl26, RdS.idx hvX sl26, RdS.cellB hvX (Ext.pres eB), RdS.cells hvX, RdS.len hr9 sl22, RdS.idx hr9 sl22, R1.intB hr9 (Ext.pres eB), RdS.cells hr9, BoxAt.cell hb0_0, BoxAt.cell hb1_2, wrap_id]
      refine CallA.mono (has1_ok _ (X.lv.getD n default) _ _ (fun x => !in3 x 0 5) _ (RdS.pres hr9 (Ext.pres eB)) (fun j hj h' e => by
   simp only [List.append_toArray, List.cons_append, List.nil_append]
   exact CallA.mono (isF1_ok _ _) (fun _ _ ⟨e1, e2⟩ => ⟨e1, e2 ▸ Ext.refl _⟩))) ?_
      intro v_ h7_10
      rintro ⟨rfl, e7_10⟩
      replace hb0_0 := BoxAt.ext hb0_0 e7_10
      replace hb1_2 := BoxAt.ext hb1_2 e7_10
      have := Ext.size e7_10
      replace eB := Ext.trans eB e7_10
      replace cL6 := Ext.trans cL6 e7_10
      try simp (disch := decide) only [outv_some, outv_none, put_puts]
      refine plK_pres (Ext.pres e7_10) ?_
      try simp -implicitDefEqProofs (disch := first | decide | assumption | (simp (disch := decide) only [slotOf_zero, slotOf_succ, Option.map_some, puts_same, puts_ne, gv_bool, gv_undef, tt, tf, ft, ff, eq_self, if_true, if_false, Bool.false_eq_true, Bool.not_true, Bool.not_false, g10]; done) | omega) only [go_sem, RdS.len hdX sl22, RdS.idx hdX sl22, R1.intB hdX (Ext.pres eB), RdS.cells hdX, RdS.len hmX sl23, RdS.idx hmX sl23, RdS.cellB hmX (Ext.pres eB), RdS.cells hmX, RdS.len hvX sl26, RdS.idx hvX sl26, RdS.cellB hvX (Ext.pres eB), RdS.cells hvX, RdS.len hr9 sl22, RdS.idx hr9 sl22, R1.intB hr9 (Ext.pres eB), RdS.cells hr9, BoxAt.cell hb0_0, BoxAt.cell hb1_2, wrap_id, g10, eq_self, if_true, if_false, Bool.false_eq_true]
      refine hK _ _ ?_
      clear hK K
      refine den_stop ?_
      refine ⟨?_, e7_10⟩
      first | (simp (disch := decide) only [go_sem, g10, eq_self, Bool.true_and, Bool.and_true, Bool.false_and, Bool.and_false, Bool.true_or, Bool.or_true, Bool.false_or, Bool.or_false, if_true, if_false, Bool.false_eq_true]; done) | simp [HasL, sel, puts_at, g10]
     ·try simp -implicitDefEqProofs (disch := first | decide | assumption | (simp (disch := decide) only [slotOf_zero, slotOf_succ, Option.map_some, puts_same, puts_ne, gv_bool, gv_undef, tt, tf, ft, ff, eq_self, if_true, if_false, Bool.false_eq_true, Bool.not_true, Bool.not_false, g10]; done) | omega) only [go_sem, RdS.len hdX sl22, RdS.idx hdX sl22, R1.intB hdX (Ext.pres eB), RdS.cells hdX, RdS.len hmX sl23, RdS.idx hmX sl23, RdS.cellB hmX (Ext.pres eB), RdS.cells hmX, RdS.len hvX sl26, RdS.idx hvX sl26, RdS.cellB hvX (Ext.pres eB), RdS.cells hvX, RdS.len hr9 sl22, RdS.idx hr9 sl22, R1.intB hr9 (Ext.pres eB), RdS.cells hr9, BoxAt.cell hb0_0, BoxAt.cell hb1_2, wrap_id, g10, eq_self, if_true, if_false, Bool.false_eq_true]
      refine hK _ _ ?_
      clear hK K
      refine den_stop ?_
      refine ⟨?_, Ext.refl _⟩
      first | (simp (disch := decide) only [go_sem, g10, eq_self, Bool.true_and, Bool.and_true, Bool.false_and, Bool.and_false, Bool.true_or, Bool.or_true, Bool.false_or, Bool.or_false, if_true, if_false, Bool.false_eq_true]; done) | simp [HasL, sel, puts_at, g10]
    intro en11 h12 e13
    replace hb0_0 := BoxAt.ext hb0_0 e13
    replace hb1_2 := BoxAt.ext hb1_2 e13
    have := Ext.size e13
    replace eB := Ext.trans eB e13
    replace cL6 := Ext.trans cL6 e13
    simp (disch := decide) only [go_sem]
    refine den_cond rfl (fun c2 => ?_) (fun c2 => ?_)
    ·try simp only [decide_eq_true_eq, decide_eq_false_iff_not, beq_iff_eq, beq_eq_false_iff_ne, bne_iff_ne, ne_eq, Bool.not_eq_true', Bool.not_eq_false', Bool.and_eq_true, Bool.or_eq_true, bne_eq_false_iff_eq, Bool.or_eq_false_iff, Bool.and_eq_false_iff] at c2
     refine den_seq ?_
     refine den_region TTok ?_
     intro K hK
     simp -implicitDefEqProofs (disch := first | decide | assumption | omega) only [go_sem, RdS.len hdX sl22, RdS.idx hdX sl22, R1.intB hdX (Ext.pres eB), RdS.cells hdX, RdS.len hmX sl23, RdS.idx hmX sl23, RdS.cellB hmX (Ext.pres eB), RdS.cells hmX, RdS.len hvX sl26, RdS.idx hvX sl26, RdS.cellB hvX (Ext.pres eB), RdS.cells hvX, RdS.len hr9 sl22, RdS.idx hr9 sl22, R1.intB hr9 (Ext.pres eB), RdS.cells hr9, wrap_id]
     refine hK _ _ ?_
     clear hK K
     refine den_ret ?_
     simp (disch := decide) only [resP_1, puts_same, puts_ne]
     exact ⟨vbool (isF_no (fun q => c2.elim (fun h => h (q.rl n (by omega))) (fun h => any_in3F h (q.rr n (by omega))))), eB⟩
    ·try simp only [decide_eq_true_eq, decide_eq_false_iff_not, beq_iff_eq, beq_eq_false_iff_ne, bne_iff_ne, ne_eq, Bool.not_eq_true', Bool.not_eq_false', Bool.and_eq_true, Bool.or_eq_true, bne_eq_false_iff_eq, Bool.or_eq_false_iff, Bool.and_eq_false_iff] at c2
     refine den_skip ?_
     refine den_blk ?_
     refine den_region TTok ?_
     intro K hK
     simp -implicitDefEqProofs (disch := first | decide | assumption | omega) only [go_sem, RdS.len hdX sl22, RdS.idx hdX sl22, R1.intB hdX (Ext.pres eB), RdS.cells hdX, RdS.len hmX sl23, RdS.idx hmX sl23, RdS.cellB hmX (Ext.pres eB), RdS.cells hmX, RdS.len hvX sl26, RdS.idx hvX sl26, RdS.cellB hvX (Ext.pres eB), RdS.cells hvX, RdS.len hr9 sl22, RdS.idx hr9 sl22, R1.intB hr9 (Ext.pres eB), RdS.cells hr9, BoxAt.cell hb0_0, BoxAt.cell hb1_2, wrap_id]
     refine hK _ _ ?_
     clear hK K
     refine den_stop ?_
     exact ⟨n + 1, by simp [HasL, puts_at], ⟨by first | omega | (dsimp only; omega), fun q hq => by
 by_cases hqn : q < n
 ·exact hrow q hqn
 ·rw [show q = n by omega]; exact ⟨c2.1, any_in3 c2.2⟩, cL6⟩, by first | omega | (dsimp only; omega)⟩
   ·try simp only [decide_eq_true_eq, decide_eq_false_iff_not, beq_iff_eq, beq_eq_false_iff_ne, bne_iff_ne, ne_eq, Bool.not_eq_true', Bool.not_eq_false', Bool.and_eq_true, Bool.or_eq_true, bne_eq_false_iff_eq, Bool.or_eq_false_iff, Bool.and_eq_false_iff] at c1
    refine den_exit ?_
    refine denX_code ?_
    refine denX_stop ?_
    refine denX_hit ?_
    refine den_seq ?_
    refine den_region TTok ?_
    intro K hK
    simp -implicitDefEqProofs (disch := first | decide | assumption | omega) only [go_sem, RdS.len hdX sl22, RdS.idx hdX sl22, R1.intB hdX (Ext.pres eB), RdS.cells hdX, RdS.len hmX sl23, RdS.idx hmX sl23, RdS.cellB hmX (Ext.pres eB), RdS.cells hmX, RdS.len hvX sl26, RdS.idx hvX sl26, RdS.cellB hvX (Ext.pres eB), RdS.cells hvX, BoxAt.cell hb0_0, BoxAt.cell hb1_2, wrap_id]
    refine op_alloc (cs := #[.bool false]) (by kernel_rfl) ?_
    intro h10_0 e10_0 hb10_0 z10_0
    replace hb0_0 := BoxAt.ext hb0_0 e10_0
    replace hb1_2 := BoxAt.ext hb1_2 e10_0
    have := Ext.size e10_0
    replace eB := Ext.trans eB e10_0
    have hfhb10_0 : Fresh h8.size [h8.size] := Fresh.one _
    have hlhb10_0 := one_lt (show h8.size < h10_0.size by omega)
    try simp -implicitDefEqProofs (disch := first | decide | assumption | omega) only [go_sem, RdS.len hdX sl22, RdS.idx hdX sl22, R1.intB hdX (Ext.pres eB), RdS.cells hdX, RdS.len hmX sl23, RdS.idx hmX sl23, RdS.cellB hmX (Ext.pres eB), RdS.cells hmX, RdS.len hvX sl26, RdS.idx hvX sl26, RdS.cellB hvX (Ext.pres eB), RdS.cells hvX, BoxAt.cell hb0_0, BoxAt.cell hb1_2, BoxAt.cell hb10_0, wrap_id]
    refine op_storeB (cs' := #[.bool (true)]) st4 hb10_0 rfl rfl rfl (by simp) (allOne_mem (l := [.bool (true)]) ⟨rfl, trivial⟩) rfl ?_
    intro h10_1 hb10_0 c10_1
    replace hb0_0 := BoxAt.chgA hb0_0 c10_1 (apart_lt hlhb0_0 hfhb10_0 (by omega))
    replace hb1_2 := BoxAt.chgA hb1_2 c10_1 (apart_lt hlhb1_2 hfhb10_0 (by omega))
    have := c10_1.size
    replace eB := Ext.then eB c10_1 (ge_of hfhb10_0 (by omega))
    try simp -implicitDefEqProofs (disch := first | decide | assumption | omega) only [go_sem, RdS.len hdX sl22, RdS.idx hdX sl22, R1.intB hdX (Ext.pres eB), RdS.cells hdX, RdS.len hmX sl23, RdS.idx hmX sl23, RdS.cellB hmX (Ext.pres eB), RdS.cells hmX, RdS.len hvX sl26, RdS.idx hvX sl26, RdS.cellB hvX (Ext.pres eB), RdS.cells hvX, BoxAt.cell hb0_0, BoxAt.cell hb1_2, BoxAt.cell hb10_0, wrap_id]
    refine hK _ _ ?_
    clear hK K
    refine den_seq ?_
    refine den_region TTok ?_
    intro K hK
    simp -implicitDefEqProofs (disch := first | decide | assumption | omega) only [go_sem, ld31, RdS.len hdX sl22, RdS.idx hdX sl22, R1.intB hdX (Ext.pres eB), RdS.cells hdX, RdS.len hmX sl23, RdS.idx hmX sl23, RdS.cellB hmX (Ext.pres eB), RdS.cells hmX, RdS.len hvX sl26, RdS.idx hvX sl26, RdS.cellB hvX (Ext.pres eB), RdS.cells hvX, BoxAt.cell hb0_0, BoxAt.cell hb1_2, BoxAt.cell hb10_0, wrap_id]
    try simp -implicitDefEqProofs (disch := first | decide | assumption | omega) only [go_sem, RdS.len hdX sl22, RdS.idx hdX sl22, R1.intB hdX (Ext.pres eB), RdS.cells hdX, RdS.len hmX sl23, RdS.idx hmX sl23, RdS.cellB hmX (Ext.pres eB), RdS.cells hmX, RdS.len hvX sl26, RdS.idx hvX sl26, RdS.cellB hvX (Ext.pres eB), RdS.cells hvX, BoxAt.cell hb0_0, BoxAt.cell hb1_2, BoxAt.cell hb10_0, wrap_id]
    refine CallA.mono (eachG_ok (fun k i j H => Ext h H ∧ BoxAt H (h8.size) #[.bool (upA X k i j)] 4 ∧ BoxAt H (h.size) #[.int .i64 (X.c.p), vdX, vmX, vvX] 33) [h8.size] _ _ X.c _ _ h hdX hmX _ ⟨eB, by rw [upA_0]; exact hb10_0, hb0_0⟩ (fun k i j H H' r e => ⟨r.1.trans e, BoxAt.ext r.2.1 e, BoxAt.ext r.2.2 e⟩) (fun k i j H r => r.1) (fun k H hk r => by rw [upA_k]; exact r) (fun k i H hk hi r => by rw [upA_i]; exact r) (fun b hb => by simp at hb; omega) (fun H k i j hk hi hj r => by
  simp only [List.append_toArray, List.cons_append, List.nil_append]
  have hl := up_lens hC (by omega) (fun n hn => (hrow n (by omega)).1) hk hi hj
  refine (isF2_ok X _ _ _ k i j _ _ _ _ h H hdX hmX hvX r.1 r.2.1 r.2.2 (by omega) (by omega) hl.1 hl.2.1 hl.2.2).mono (fun u H' q => ⟨⟨Ext.then r.1 q.2.2 (fun b hb => by simp at hb; omega), by rw [upA_j]; exact q.2.1, BoxAt.chgA r.2.2 q.2.2 (apart_lt hlhb0_0 hfhb10_0 (by omega))⟩, q.2.2⟩))) ?_
    intro v_ h11_2
    rintro ⟨rfl, ⟨_, hb10_0, _⟩, cg11_2⟩
    replace hb0_0 := BoxAt.chgA hb0_0 cg11_2 (apart_lt hlhb0_0 hfhb10_0 (by omega))
    replace hb1_2 := BoxAt.chgA hb1_2 cg11_2 (apart_lt hlhb1_2 hfhb10_0 (by omega))
    have := cg11_2.size
    replace eB := Ext.then eB cg11_2 (ge_of hfhb10_0 (by omega))
    try simp -implicitDefEqProofs (disch := first | decide | assumption | omega) only [go_sem, RdS.len hdX sl22, RdS.idx hdX sl22, R1.intB hdX (Ext.pres eB), RdS.cells hdX, RdS.len hmX sl23, RdS.idx hmX sl23, RdS.cellB hmX (Ext.pres eB), RdS.cells hmX, RdS.len hvX sl26, RdS.idx hvX sl26, RdS.cellB hvX (Ext.pres eB), RdS.cells hvX, BoxAt.cell hb0_0, BoxAt.cell hb1_2, BoxAt.cell hb10_0, wrap_id]
    refine hK _ _ ?_
    clear hK K
    refine den_seq ?_
    refine den_region TTok ?_
    intro K hK
    simp -implicitDefEqProofs (disch := first | decide | assumption | omega) only [go_sem, ld4, RdS.len hdX sl22, RdS.idx hdX sl22, R1.intB hdX (Ext.pres eB), RdS.cells hdX, RdS.len hmX sl23, RdS.idx hmX sl23, RdS.cellB hmX (Ext.pres eB), RdS.cells hmX, RdS.len hvX sl26, RdS.idx hvX sl26, RdS.cellB hvX (Ext.pres eB), RdS.cells hvX, BoxAt.cell hb10_0, wrap_id]
    refine hK _ _ ?_
    clear hK K
    refine den_ret ?_
    simp (disch := decide) only [resP_1, puts_same, puts_ne]
    rw [isF_eq hC (by omega) (fun n hn => hrow n (by omega))]
    exact ⟨by first | rfl | trivial, eB⟩
end Go.Proofs.Ytjjjgllbocgkbaa

namespace Go.Proofs.Ytjjjgllbocgkbaa
open Go
def mapP (X : Cx) (n : Int) : List (List Int) := if in3 n 1 ((X.dims.length : Int) - 1) = true then X.maps.getD (n - 1).toNat default else List.replicate (dimP X n).toNat []
theorem mapP_ok {X : Cx} (hC : IsC X) {n : Int} (h0 : 0 ≤ n) (h1 : n ≤ (X.dims.length : Int) - 1) : ((mapP X n).length : Int) = X.dims.getD n.toNat 0 ∧ Tbl X.p (dimP X (n - 1)) (mapP X n) := by
 by_cases hn : 1 ≤ n
 ·obtain ⟨d, l, t⟩ := hC.pre.app (n := n) (by omega) h1
  rw [mapP, if_pos (in3_iff.2 ⟨hn, h1⟩), dimP, if_pos (in3_iff.2 ⟨by omega, by omega⟩)]
  exact ⟨l, t⟩
 ·have e : n = 0 := by omega
  subst e
  have d := dimP_bnd hC 0
  have d0 : dimP X 0 = X.dims.getD (0 : Int).toNat 0 := by rw [dimP, if_pos (in3_iff.2 ⟨by omega, by omega⟩)]
  rw [mapP, if_neg (by rw [in3_iff]; omega), dimP_out (n := 0 - 1) (by omega)]
  refine ⟨by rw [List.length_replicate]; omega, fun r hr => ?_⟩
  rw [List.eq_of_mem_replicate hr]
  exact ⟨rfl, fun x hx => by cases hx⟩
set_option maxRecDepth 100000 in
theorem sMap_ok (vX : Value) (X : Cx) (n : Int) (h : Heap) (rX : RC h vX X) (hC : IsC X) : CallA Try.prog 80 #[vX, .int .i64 n] h fun v' h' => ∃ w0, v' = w0 ∧ R2 h' w0 (mapP X n) ∧ Ext h h' := by
 obtain ⟨vdX, vmX, rfl, hdX, hmX⟩ := rX
 have hledX := RdS.le hdX
 have hlemX := RdS.le hmX
 have hml := hC.ml
 have hdb := dimP_bnd hC n
 refine callA_intro TTok (args := [_, _]) Try.func80 (by kernel_rfl) rfl 32 rfl (by simp) [.tmp 4] rfl ?_
 simp only [idxs, Nat.reduceAdd]
 refine den_seq ?_
 refine den_region TTok ?_
 intro K hK
 simp -implicitDefEqProofs (disch := first | decide | assumption | omega) only [go_sem, RdS.len hdX sl22, RdS.idx hdX sl22, R1.intB hdX (HPres.refl _), RdS.cells hdX, RdS.len hmX sl23, RdS.idx hmX sl23, RdS.cellB hmX (HPres.refl _), RdS.cells hmX, wrap_id]
 refine op_box (cs := #[.int .i64 (X.p), vdX, vmX]) rfl ?_
 intro h0_0 e0_0 hb0_0 z0_0
 have := Ext.size e0_0
 have eB := e0_0
 have hfhb0_0 : Fresh h.size [h.size] := Fresh.one _
 have hlhb0_0 := one_lt (show h.size < h0_0.size by omega)
 try simp -implicitDefEqProofs (disch := first | decide | assumption | omega) only [go_sem, RdS.len hdX sl22, RdS.idx hdX sl22, R1.intB hdX (Ext.pres eB), RdS.cells hdX, RdS.len hmX sl23, RdS.idx hmX sl23, RdS.cellB hmX (Ext.pres eB), RdS.cells hmX, BoxAt.cell hb0_0, wrap_id]
 refine hK _ _ ?_
 clear hK K
 refine den_seq ?_
 refine den_seq ?_
 refine den_region TTok ?_
 intro K hK
 simp -implicitDefEqProofs (disch := first | decide | assumption | omega) only [go_sem, fa31_1, ld22, RdS.len hdX sl22, RdS.idx hdX sl22, R1.intB hdX (Ext.pres eB), RdS.cells hdX, RdS.len hmX sl23, RdS.idx hmX sl23, RdS.cellB hmX (Ext.pres eB), RdS.cells hmX, BoxAt.cell hb0_0, wrap_id]
 try simp -implicitDefEqProofs (disch := first | decide | assumption | omega) only [go_sem, RdS.len hdX sl22, RdS.idx hdX sl22, R1.intB hdX (Ext.pres eB), RdS.cells hdX, RdS.len hmX sl23, RdS.idx hmX sl23, RdS.cellB hmX (Ext.pres eB), RdS.cells hmX, BoxAt.cell hb0_0, wrap_id]
 refine CallA.pure (sIn_ok _ _ _ _) ?_
 try simp -implicitDefEqProofs (disch := first | decide | assumption | omega) only [go_sem, RdS.len hdX sl22, RdS.idx hdX sl22, R1.intB hdX (Ext.pres eB), RdS.cells hdX, RdS.len hmX sl23, RdS.idx hmX sl23, RdS.cellB hmX (Ext.pres eB), RdS.cells hmX, BoxAt.cell hb0_0, wrap_id]
 refine hK _ _ ?_
 clear hK K
 refine den_cond rfl (fun c0 => ?_) (fun c0 => ?_)
 ·try simp only [decide_eq_true_eq, decide_eq_false_iff_not, beq_iff_eq, beq_eq_false_iff_ne, bne_iff_ne, ne_eq, Bool.not_eq_true', Bool.not_eq_false', Bool.and_eq_true, Bool.or_eq_true, bne_eq_false_iff_eq, in3_iff, in3_f] at c0
  refine den_seq ?_
  refine den_region TTok ?_
  intro K hK
  have hr1 := RdS.rowN hmX ((n - (1 : Int))).toNat (by omega)
  have hlhr1 := RdS.le hr1
  simp -implicitDefEqProofs (disch := first | decide | assumption | omega) only [go_sem, fa31_2, ld23, ld26, RdS.len hdX sl22, RdS.idx hdX sl22, R1.intB hdX (Ext.pres eB), RdS.cells hdX, RdS.len hmX sl23, RdS.idx hmX sl23, RdS.cellB hmX (Ext.pres eB), RdS.cells hmX, RdS.len hr1 sl26, RdS.idx hr1 sl26, RdS.cellB hr1 (Ext.pres eB), RdS.cells hr1, BoxAt.cell hb0_0, wrap_id]
  refine hK _ _ ?_
  clear hK K
  refine den_ret ?_
  simp (disch := decide) only [resP_1, puts_same, puts_ne]
  exact ⟨_, rfl, by rw [mapP, if_pos (in3_iff.2 c0)]; exact RdS.pres (RdS.rowN hmX _ (by omega)) (Ext.pres eB), eB⟩
 ·try simp only [decide_eq_true_eq, decide_eq_false_iff_not, beq_iff_eq, beq_eq_false_iff_ne, bne_iff_ne, ne_eq, Bool.not_eq_true', Bool.not_eq_false', Bool.and_eq_true, Bool.or_eq_true, bne_eq_false_iff_eq, in3_iff, in3_f] at c0
  refine den_skip ?_
  refine den_seq ?_
  refine den_region TTok ?_
  intro K hK
  simp -implicitDefEqProofs (disch := first | decide | assumption | omega) only [go_sem, RdS.len hdX sl22, RdS.idx hdX sl22, R1.intB hdX (Ext.pres eB), RdS.cells hdX, RdS.len hmX sl23, RdS.idx hmX sl23, RdS.cellB hmX (Ext.pres eB), RdS.cells hmX, BoxAt.cell hb0_0, wrap_id]
  refine op_bs0 sz26 O1 ?_
  intro v3_0 h3_0 ho3_0 e3_0
  replace hb0_0 := BoxAt.ext hb0_0 e3_0
  have := Ext.size e3_0
  replace eB := Ext.trans eB e3_0
  have hfho3_0 : Fresh h0_0.size [h0_0.size] := Fresh.one _
  have hlho3_0 := OS.lt ho3_0
  try simp -implicitDefEqProofs (disch := first | decide | assumption | omega) only [go_sem, RdS.len hdX sl22, RdS.idx hdX sl22, R1.intB hdX (Ext.pres eB), RdS.cells hdX, RdS.len hmX sl23, RdS.idx hmX sl23, RdS.cellB hmX (Ext.pres eB), RdS.cells hmX, RdS.len (OS.rd ho3_0) sl26, RdS.idx (OS.rd ho3_0) sl26, RdS.cellN (OS.rd ho3_0), RdS.cells (OS.rd ho3_0), BoxAt.cell hb0_0, wrap_id]
  refine hK _ _ ?_
  clear hK K
  refine den_seq ?_
  refine den_seq ?_
  refine den_region TTok ?_
  intro K hK
  simp -implicitDefEqProofs (disch := first | decide | assumption | omega) only [go_sem, RdS.len hdX sl22, RdS.idx hdX sl22, R1.intB hdX (Ext.pres eB), RdS.cells hdX, RdS.len hmX sl23, RdS.idx hmX sl23, RdS.cellB hmX (Ext.pres eB), RdS.cells hmX, RdS.len (OS.rd ho3_0) sl26, RdS.idx (OS.rd ho3_0) sl26, RdS.cellN (OS.rd ho3_0), RdS.cells (OS.rd ho3_0), BoxAt.cell hb0_0, wrap_id]
  refine hK _ _ ?_
  clear hK K
  refine den_block ?_
  refine den_sel [5, 6, 1, 2] ?_
  intro env_2
  simp only [go_sem]
  refine den_loopS (σ := Nat × Value × List Nat) (fun st_ => [(5, st_.2.1), (6, .int .i64 (st_.1 : Int))]) (fun st_ H => ((st_.1 : Int) ≤ dimP X n) ∧ (O2 H st_.2.1 (List.replicate st_.1 []) st_.2.2) ∧ (Fresh (h0_0.size) st_.2.2) ∧ (Sub [h0_0.size] h3_0.size st_.2.2) ∧ (Chg [h0_0.size] h3_0 H)) (fun st_ => (dimP X n).toNat - st_.1) (0, v3_0, [h0_0.size]) ?_ ?_
  ·exact ⟨by first | (simp; done) | (dsimp only; omega) | (simp; omega), by simpa using ho3_0, hfho3_0, Sub.refl, Chg.refl _ _⟩
  ·rintro ⟨k, vhI, fphI⟩ h5 ee4 ⟨hi0, hI, hfhI, sbhI, cL3⟩
   dsimp only at hi0 hI hfhI sbhI cL3
   replace hb0_0 := BoxAt.chgA hb0_0 cL3 (apart_lt hlhb0_0 hfho3_0 (by omega))
   have := cL3.size
   replace eB := Ext.then eB cL3 (ge_of hfho3_0 (by omega))
   have hlhI := OS.lt hI
   simp only [List.cons_append, List.nil_append]
   have hlr : (List.replicate k ([] : List Int)).length = k := List.length_replicate
   refine den_seq ?_
   refine den_seq ?_
   refine den_region TTok ?_
   intro K hK
   simp -implicitDefEqProofs (disch := first | decide | assumption | omega) only [go_sem, ld31, RdS.len hdX sl22, RdS.idx hdX sl22, R1.intB hdX (Ext.pres eB), RdS.cells hdX, RdS.len hmX sl23, RdS.idx hmX sl23, RdS.cellB hmX (Ext.pres eB), RdS.cells hmX, RdS.len (OS.rd hI) sl26, RdS.idx (OS.rd hI) sl26, RdS.cellN (OS.rd hI), RdS.cells (OS.rd hI), BoxAt.cell hb0_0, wrap_id]
   try simp -implicitDefEqProofs (disch := first | decide | assumption | omega) only [go_sem, RdS.len hdX sl22, RdS.idx hdX sl22, R1.intB hdX (Ext.pres eB), RdS.cells hdX, RdS.len hmX sl23, RdS.idx hmX sl23, RdS.cellB hmX (Ext.pres eB), RdS.cells hmX, RdS.len (OS.rd hI) sl26, RdS.idx (OS.rd hI) sl26, RdS.cellN (OS.rd hI), RdS.cells (OS.rd hI), BoxAt.cell hb0_0, wrap_id]
   refine CallA.mono (sDim_ok _ X _ _ ⟨_, _, rfl, (RdS.pres hdX (Ext.pres eB)), (RdS.pres hmX (Ext.pres eB))⟩) ?_
   intro v_ h5_3
   rintro ⟨rfl, e5_3⟩
   replace hI := OS.ext hI e5_3
   replace hb0_0 := BoxAt.ext hb0_0 e5_3
   have := Ext.size e5_3
   replace eB := Ext.trans eB e5_3
   replace cL3 := Chg.stepE cL3 e5_3
   try simp -implicitDefEqProofs (disch := first | decide | assumption | omega) only [go_sem, RdS.len hdX sl22, RdS.idx hdX sl22, R1.intB hdX (Ext.pres eB), RdS.cells hdX, RdS.len hmX sl23, RdS.idx hmX sl23, RdS.cellB hmX (Ext.pres eB), RdS.cells hmX, RdS.len (OS.rd hI) sl26, RdS.idx (OS.rd hI) sl26, RdS.cellN (OS.rd hI), RdS.cells (OS.rd hI), BoxAt.cell hb0_0, wrap_id]
   refine hK _ _ ?_
   clear hK K
   refine den_cond rfl (fun c1 => ?_) (fun c1 => ?_)
   ·try simp only [decide_eq_true_eq, decide_eq_false_iff_not, beq_iff_eq, beq_eq_false_iff_ne, bne_iff_ne, ne_eq, Bool.not_eq_true', Bool.not_eq_false', Bool.and_eq_true, Bool.or_eq_true, bne_eq_false_iff_eq, in3_iff, in3_f] at c1
    refine den_skip ?_
    refine den_seq ?_
    refine den_block ?_
    refine den_region TTok ?_
    intro K hK
    simp -implicitDefEqProofs (disch := first | decide | assumption | omega) only [go_sem, RdS.len hdX sl22, RdS.idx hdX sl22, R1.intB hdX (Ext.pres eB), RdS.cells hdX, RdS.len hmX sl23, RdS.idx hmX sl23, RdS.cellB hmX (Ext.pres eB), RdS.cells hmX, RdS.len (OS.rd hI) sl26, RdS.idx (OS.rd hI) sl26, RdS.cellN (OS.rd hI), RdS.cells (OS.rd hI), BoxAt.cell hb0_0, wrap_id]
    refine op_bs0 sz22 OI ?_
    intro v7_1 h7_1 ho7_1 e7_1
    replace hI := OS.ext hI e7_1
    replace hb0_0 := BoxAt.ext hb0_0 e7_1
    have := Ext.size e7_1
    replace eB := Ext.trans eB e7_1
    replace cL3 := Chg.stepE cL3 e7_1
    have hfho7_1 : Fresh h5_3.size [h5_3.size] := Fresh.one _
    have hlho7_1 := OS.lt ho7_1
    try simp -implicitDefEqProofs (disch := first | decide | assumption | omega) only [go_sem, RdS.len hdX sl22, RdS.idx hdX sl22, R1.intB hdX (Ext.pres eB), RdS.cells hdX, RdS.len hmX sl23, RdS.idx hmX sl23, RdS.cellB hmX (Ext.pres eB), RdS.cells hmX, RdS.len (OS.rd hI) sl26, RdS.idx (OS.rd hI) sl26, RdS.cellN (OS.rd hI), RdS.cells (OS.rd hI), RdS.len (OS.rd ho7_1) sl22, RdS.idx (OS.rd ho7_1) sl22, R1.intN (OS.rd ho7_1), RdS.cells (OS.rd ho7_1), BoxAt.cell hb0_0, wrap_id]
    refine op_bs1 sz26 rfl (OS.one ho7_1).2 ?_
    try simp -implicitDefEqProofs (disch := first | decide | assumption | omega) only [go_sem, RdS.len hdX sl22, RdS.idx hdX sl22, R1.intB hdX (Ext.pres eB), RdS.cells hdX, RdS.len hmX sl23, RdS.idx hmX sl23, RdS.cellB hmX (Ext.pres eB), RdS.cells hmX, RdS.len (OS.rd hI) sl26, RdS.idx (OS.rd hI) sl26, RdS.cellN (OS.rd hI), RdS.cells (OS.rd hI), RdS.len (OS.rd ho7_1) sl22, RdS.idx (OS.rd ho7_1) sl22, R1.intN (OS.rd ho7_1), RdS.cells (OS.rd ho7_1), BoxAt.cell hb0_0, wrap_id]
    refine op_append1 sz26 hI hfhI.nodup ho7_1 hfho7_1.nodup (apart_lt hlhI hfho7_1 (by omega)) (by first | omega | (simp; omega)) rfl rfl ?_
    intro v7_3 h7_3 fp7_3 ho7_3 hn7_3 hs7_3 c7_3
    have hsz7_3 := c7_3.size
    have hfho7_3 : Fresh h0_0.size fp7_3 := Fresh.appd hfhI hfho7_1 (by omega) (by omega) hn7_3 hs7_3
    have sb6 : Sub [h0_0.size] h3_0.size fp7_3 := Sub.grow sbhI (Sub.fresh hfho7_1 (by omega)) (by omega) hs7_3
    replace hb0_0 := BoxAt.chgA hb0_0 c7_3 (apart_lt hlhb0_0 hfhI (by omega))
    have := c7_3.size
    replace eB := Ext.then eB c7_3 (ge_of hfhI (by omega))
    replace cL3 := Chg.step cL3 c7_3 sbhI
    have hlho7_3 := OS.lt ho7_3
    try simp -implicitDefEqProofs (disch := first | decide | assumption | omega) only [go_sem, RdS.len hdX sl22, RdS.idx hdX sl22, R1.intB hdX (Ext.pres eB), RdS.cells hdX, RdS.len hmX sl23, RdS.idx hmX sl23, RdS.cellB hmX (Ext.pres eB), RdS.cells hmX, RdS.len (OS.rd ho7_3) sl26, RdS.idx (OS.rd ho7_3) sl26, RdS.cellN (OS.rd ho7_3), RdS.cells (OS.rd ho7_3), BoxAt.cell hb0_0, wrap_id]
    refine hK _ _ ?_
    clear hK K
    refine den_blk ?_
    refine den_region TTok ?_
    intro K hK
    simp -implicitDefEqProofs (disch := first | decide | assumption | omega) only [go_sem, RdS.len hdX sl22, RdS.idx hdX sl22, R1.intB hdX (Ext.pres eB), RdS.cells hdX, RdS.len hmX sl23, RdS.idx hmX sl23, RdS.cellB hmX (Ext.pres eB), RdS.cells hmX, RdS.len (OS.rd ho7_3) sl26, RdS.idx (OS.rd ho7_3) sl26, RdS.cellN (OS.rd ho7_3), RdS.cells (OS.rd ho7_3), BoxAt.cell hb0_0, wrap_id]
    refine hK _ _ ?_
    clear hK K
    refine den_stop ?_
    rw [← List.replicate_succ'] at ho7_3
    exact ⟨(k + 1, v7_3, fp7_3), by simp [HasL, puts_at], ⟨by first | omega | (dsimp only; omega), ho7_3, hfho7_3, sb6, cL3⟩, by first | omega | (dsimp only; omega)⟩
   ·try simp only [decide_eq_true_eq, decide_eq_false_iff_not, beq_iff_eq, beq_eq_false_iff_ne, bne_iff_ne, ne_eq, Bool.not_eq_true', Bool.not_eq_false', Bool.and_eq_true, Bool.or_eq_true, bne_eq_false_iff_eq, in3_iff, in3_f] at c1
    refine den_exit ?_
    refine denX_code ?_
    refine denX_stop ?_
    refine denX_hit ?_
    refine den_seq ?_
    refine den_region TTok ?_
    intro K hK
    simp -implicitDefEqProofs (disch := first | decide | assumption | omega) only [go_sem, RdS.len hdX sl22, RdS.idx hdX sl22, R1.intB hdX (Ext.pres eB), RdS.cells hdX, RdS.len hmX sl23, RdS.idx hmX sl23, RdS.cellB hmX (Ext.pres eB), RdS.cells hmX, RdS.len (OS.rd hI) sl26, RdS.idx (OS.rd hI) sl26, RdS.cellN (OS.rd hI), RdS.cells (OS.rd hI), wrap_id]
    refine hK _ _ ?_
    clear hK K
    refine den_ret ?_
    simp (disch := decide) only [resP_1, puts_same, puts_ne]
    have e : (dimP X n).toNat = k := by omega
    exact ⟨_, rfl, by rw [mapP, if_neg (by rw [in3_iff]; omega), e]; exact OS.rd hI, eB⟩
end Go.Proofs.Ytjjjgllbocgkbaa

namespace Go.Proofs.Ytjjjgllbocgkbaa
open Go
/-- What stands at an entry within the whole. -/
theorem up_at {X : Fl} (h : upK X X.c.maps X.c.maps.length = true) {k i j : Nat} (hk : k < X.c.maps.length) (hi : i < (X.c.maps.getD k default).length) (hj : j < ((X.c.maps.getD k default).getD i default).length) : goodP X k i j (((X.c.maps.getD k default).getD i default).getD j 0) = true :=
 all_range_t.1 (all_range_t.1 (all_range_t.1 h k hk) i hi) j hj
theorem up_all {X : Fl} (h : ∀ k i j, k < X.c.maps.length → i < (X.c.maps.getD k default).length → j < ((X.c.maps.getD k default).getD i default).length → goodP X k i j (((X.c.maps.getD k default).getD i default).getD j 0) = true) : upK X X.c.maps X.c.maps.length = true :=
 all_range_t.2 fun k hk => all_range_t.2 fun i hi => all_range_t.2 fun j hj => h k i j hk hi hj
theorem mapP_q {X : Cx} (hC : IsC X) {n : Nat} (h1 : 1 ≤ n) (h2 : n < X.dims.length) : mapP X (n : Int) = X.maps.getD (n - 1) default := by
 have hm := hC.ml
 rw [mapP, if_pos (in3_iff.2 ⟨by omega, by omega⟩), show ((n : Int) - 1).toNat = n - 1 by omega]
/-- Entry j of row i of the map of degree n is no fault. -/
def gdN (X : Fl) (n i j : Nat) : Prop := ((mapP X.c (n : Int)).getD i default).getD j 0 = 0 ∨ lvP X ((n : Int) - 1) (j : Int) ≤ lvP X (n : Int) (i : Int)
theorem gdN_good {X : Fl} (hC : IsC X.c) {k i j : Nat} (h : k + 1 < X.c.dims.length) (g : gdN X (k + 1) i j) : goodP X k i j (((X.c.maps.getD k default).getD i default).getD j 0) = true := by
 unfold gdN at g
 rw [mapP_q hC (by omega) h, show ((k + 1 : Nat) : Int) - 1 = (k : Int) by omega, show k + 1 - 1 = k by omega, show ((k + 1 : Nat) : Int) = (k : Int) + 1 by omega] at g
 unfold goodP
 rw [Bool.or_eq_true, beq_iff_eq, decide_eq_true_eq]
 exact g
theorem isF_sp {X : Fl} (h : IsC X.c) (h1 : X.lv.length = X.c.dims.length) (h2 : ∀ n, n < X.lv.length → ((X.lv.getD n default).length : Int) = X.c.dims.getD n 0 ∧ (X.lv.getD n default).all (fun q => in3 q 0 5) = true) (h3 : ∀ n : Nat, 1 ≤ n → n < X.lv.length → ∀ i, i < (mapP X.c (n : Int)).length → ∀ j, j < ((mapP X.c (n : Int)).getD i default).length → gdN X n i j) : IsF X :=
 ⟨h, h1, fun n hn => (h2 n hn).1, fun n hn => (h2 n hn).2, up_all fun k i j hk hi hj => by
  have hm := h.ml
  have e := mapP_q h (n := k + 1) (by omega) (by omega)
  rw [show k + 1 - 1 = k by omega] at e
  exact gdN_good h (by omega) (h3 (k + 1) (by omega) (by omega) i (by rw [e]; exact hi) j (by rw [e]; exact hj))⟩
theorem isF_gd {X : Fl} (h : IsF X) {n i j : Nat} (h1 : 1 ≤ n) (h2 : n < X.lv.length) (hi : i < (mapP X.c (n : Int)).length) (hj : j < ((mapP X.c (n : Int)).getD i default).length) : gdN X n i j := by
 have hm := h.c.ml
 have hl := h.ln
 have e := mapP_q h.c (n := n) (by omega) (by omega)
 rw [e] at hi hj
 have g := up_at h.up (k := n - 1) (i := i) (j := j) (by omega) hi hj
 unfold gdN
 unfold goodP at g
 rw [Bool.or_eq_true, beq_iff_eq, decide_eq_true_eq, show ((n - 1 : Nat) : Int) = (n : Int) - 1 by omega, show (n : Int) - 1 + 1 = n by omega] at g
 rw [e]
 exact g

set_option maxRecDepth 100000 in
theorem sLev_ok (vX : Value) (X : Fl) (n : Int) (i : Int) (h : Heap) (rX : RF h vX X) (hn : 0 ≤ n ∧ n < X.lv.length) (hi : 0 ≤ i ∧ i < (X.lv.getD n.toNat default).length) : CallA Try.prog 79 #[vX, .int .i64 n, .int .i64 i] h fun v' h' => v' = .int .i64 (lvP X n i) ∧ Ext h h' := by
 obtain ⟨vdX, vmX, vvX, rfl, hdX, hmX, hvX⟩ := rX
 have hledX := RdS.le hdX
 have hlemX := RdS.le hmX
 have hlevX := RdS.le hvX
 refine callA_intro TTok (args := [_, _, _]) Try.func79 (by kernel_rfl) rfl 15 rfl (by simp) [.tmp 6] rfl ?_
 simp only [idxs, Nat.reduceAdd]
 refine den_seq ?_
 refine den_region TTok ?_
 intro K hK
 simp -implicitDefEqProofs (disch := first | decide | assumption | omega) only [go_sem, RdS.len hdX sl22, RdS.idx hdX sl22, R1.intB hdX (HPres.refl _), RdS.cells hdX, RdS.len hmX sl23, RdS.idx hmX sl23, RdS.cellB hmX (HPres.refl _), RdS.cells hmX, RdS.len hvX sl26, RdS.idx hvX sl26, RdS.cellB hvX (HPres.refl _), RdS.cells hvX, wrap_id]
 refine op_box (cs := #[.int .i64 (X.c.p), vdX, vmX, vvX]) rfl ?_
 intro h0_0 e0_0 hb0_0 z0_0
 have := Ext.size e0_0
 have eB := e0_0
 have hfhb0_0 : Fresh h.size [h.size] := Fresh.one _
 have hlhb0_0 := one_lt (show h.size < h0_0.size by omega)
 try simp -implicitDefEqProofs (disch := first | decide | assumption | omega) only [go_sem, RdS.len hdX sl22, RdS.idx hdX sl22, R1.intB hdX (Ext.pres eB), RdS.cells hdX, RdS.len hmX sl23, RdS.idx hmX sl23, RdS.cellB hmX (Ext.pres eB), RdS.cells hmX, RdS.len hvX sl26, RdS.idx hvX sl26, RdS.cellB hvX (Ext.pres eB), RdS.cells hvX, BoxAt.cell hb0_0, wrap_id]
 refine hK _ _ ?_
 clear hK K
 refine den_seq ?_
 refine den_region TTok ?_
 intro K hK
 have hr1 := RdS.rowN hvX (n).toNat (by omega)
 have hlhr1 := RdS.le hr1
 simp -implicitDefEqProofs (disch := first | decide | assumption | omega) only [go_sem, fa33_1, ld26, ld22, ld2, RdS.len hdX sl22, RdS.idx hdX sl22, R1.intB hdX (Ext.pres eB), RdS.cells hdX, RdS.len hmX sl23, RdS.idx hmX sl23, RdS.cellB hmX (Ext.pres eB), RdS.cells hmX, RdS.len hvX sl26, RdS.idx hvX sl26, RdS.cellB hvX (Ext.pres eB), RdS.cells hvX, RdS.len hr1 sl22, RdS.idx hr1 sl22, R1.intB hr1 (Ext.pres eB), RdS.cells hr1, BoxAt.cell hb0_0, wrap_id]
 refine hK _ _ ?_
 clear hK K
 refine den_ret ?_
 simp (disch := decide) only [resP_1, puts_same, puts_ne]
 exact ⟨by first | rfl | trivial, eB⟩

set_option maxRecDepth 100000 in
set_option maxHeartbeats 4000000 in
theorem sIsF_ok (vX : Value) (X : Fl) (h : Heap) (rX : RF h vX X)  : CallA Try.prog 68 #[vX] h fun v' h' => v' = .bool (isF X) ∧ Ext h h' := by
 obtain ⟨vdX, vmX, vvX, rfl, hdX, hmX, hvX⟩ := rX
 have hledX := RdS.le hdX
 have hlemX := RdS.le hmX
 have hlevX := RdS.le hvX
 refine callA_intro TTok (args := [_]) Try.func68 (by kernel_rfl) rfl 109 rfl (by simp) [.tmp 2] rfl ?_
 simp only [idxs, Nat.reduceAdd]
 refine den_seq ?_
 refine den_region TTok ?_
 intro K hK
 simp -implicitDefEqProofs (disch := first | decide | assumption | omega) only [go_sem, RdS.len hdX sl22, RdS.idx hdX sl22, R1.intB hdX (HPres.refl _), RdS.cells hdX, RdS.len hmX sl23, RdS.idx hmX sl23, RdS.cellB hmX (HPres.refl _), RdS.cells hmX, RdS.len hvX sl26, RdS.idx hvX sl26, RdS.cellB hvX (HPres.refl _), RdS.cells hvX, wrap_id]
 refine op_box (cs := #[.int .i64 (X.c.p), vdX, vmX, vvX]) rfl ?_
 intro h0_0 e0_0 hb0_0 z0_0
 have := Ext.size e0_0
 have eB := e0_0
 have hfhb0_0 : Fresh h.size [h.size] := Fresh.one _
 have hlhb0_0 := one_lt (show h.size < h0_0.size by omega)
 try simp -implicitDefEqProofs (disch := first | decide | assumption | omega) only [go_sem, RdS.len hdX sl22, RdS.idx hdX sl22, R1.intB hdX (Ext.pres eB), RdS.cells hdX, RdS.len hmX sl23, RdS.idx hmX sl23, RdS.cellB hmX (Ext.pres eB), RdS.cells hmX, RdS.len hvX sl26, RdS.idx hvX sl26, RdS.cellB hvX (Ext.pres eB), RdS.cells hvX, BoxAt.cell hb0_0, wrap_id]
 refine hK _ _ ?_
 clear hK K
 refine den_seq ?_
 refine den_seq ?_
 refine den_merge [(22, .bool (((!((isC X.c))) || (((X.lv).length : Int) != ((X.c.dims).length : Int)))))] [1] (fun H => Ext h0_0 H) ?_ ?_
  -- a way
 ·refine den_region TTok ?_
  intro K hK
  simp -implicitDefEqProofs (disch := first | decide | assumption | (simp (disch := decide) only [slotOf_zero, slotOf_succ, Option.map_some, puts_same, puts_ne, gv_bool, gv_undef, tt, tf, ft, ff, eq_self, if_true, if_false, Bool.false_eq_true, Bool.not_true, Bool.not_false]; done) | omega) only [go_sem, fa33_0, ld31, RdS.len hdX sl22, RdS.idx hdX sl22, R1.intB hdX (Ext.pres eB), RdS.cells hdX, RdS.len hmX sl23, RdS.idx hmX sl23, RdS.cellB hmX (Ext.pres eB), RdS.cells hmX, RdS.len hvX sl26, RdS.idx hvX sl26, RdS.cellB hvX (Ext.pres eB), RdS.cells hvX, BoxAt.cell hb0_0, wrap_id]
  try simp -implicitDefEqProofs (disch := first | decide | assumption | omega) only [go_sem, RdS.len hdX sl22, RdS.idx hdX sl22, R1.intB hdX (Ext.pres eB), RdS.cells hdX, RdS.len hmX sl23, RdS.idx hmX sl23, RdS.cellB hmX (Ext.pres eB), RdS.cells hmX, RdS.len hvX sl26, RdS.idx hvX sl26, RdS.cellB hvX (Ext.pres eB), RdS.cells hvX, BoxAt.cell hb0_0, wrap_id]
  refine CallA.mono (sIs_ok _ X.c _ ⟨_, _, rfl, (RdS.pres hdX (Ext.pres eB)), (RdS.pres hmX (Ext.pres eB))⟩) ?_
  intro v_ h1_2
  rintro ⟨rfl, e1_2⟩
  replace hb0_0 := BoxAt.ext hb0_0 e1_2
  have := Ext.size e1_2
  replace eB := Ext.trans eB e1_2
  try simp -implicitDefEqProofs (disch := first | decide | assumption | (simp (disch := decide) only [slotOf_zero, slotOf_succ, Option.map_some, puts_same, puts_ne, gv_bool, gv_undef, tt, tf, ft, ff, eq_self, if_true, if_false, Bool.false_eq_true, Bool.not_true, Bool.not_false]; done) | omega) only [go_sem, RdS.len hdX sl22, RdS.idx hdX sl22, R1.intB hdX (Ext.pres eB), RdS.cells hdX, RdS.len hmX sl23, RdS.idx hmX sl23, RdS.cellB hmX (Ext.pres eB), RdS.cells hmX, RdS.len hvX sl26, RdS.idx hvX sl26, RdS.cellB hvX (Ext.pres eB), RdS.cells hvX, BoxAt.cell hb0_0, wrap_id]
  refine opsP_F (by simp (disch := decide) only [slotOf_zero, slotOf_succ, Option.map_some, puts_same, puts_ne, gv_bool, gv_undef, tt, tf, ft, ff, eq_self, if_true, if_false, Bool.false_eq_true, Bool.not_true, Bool.not_false]; rfl) (fun g1 => ?_) (fun g1 => ?_)
  ·try simp -implicitDefEqProofs (disch := first | decide | assumption | (simp (disch := decide) only [slotOf_zero, slotOf_succ, Option.map_some, puts_same, puts_ne, gv_bool, gv_undef, tt, tf, ft, ff, eq_self, if_true, if_false, Bool.false_eq_true, Bool.not_true, Bool.not_false, g1]; done) | omega) only [go_sem, fa31_1, fa33_0, fa33_1, ld26, ld22, RdS.len hdX sl22, RdS.idx hdX sl22, R1.intB hdX (Ext.pres eB), RdS.cells hdX, RdS.len hmX sl23, RdS.idx hmX sl23, RdS.cellB hmX (Ext.pres eB), RdS.cells hmX, RdS.len hvX sl26, RdS.idx hvX sl26, RdS.cellB hvX (Ext.pres eB), RdS.cells hvX, BoxAt.cell hb0_0, wrap_id, g1, eq_self, if_true, if_false, Bool.false_eq_true]
   refine hK _ _ ?_
   clear hK K
   refine den_stop ?_
   refine ⟨?_, e1_2⟩
   first | (simp (disch := decide) only [go_sem, g1, eq_self, Bool.true_and, Bool.and_true, Bool.false_and, Bool.and_false, Bool.true_or, Bool.or_true, Bool.false_or, Bool.or_false, if_true, if_false, Bool.false_eq_true]; done) | simp [HasL, sel, puts_at, g1]
  ·try simp -implicitDefEqProofs (disch := first | decide | assumption | (simp (disch := decide) only [slotOf_zero, slotOf_succ, Option.map_some, puts_same, puts_ne, gv_bool, gv_undef, tt, tf, ft, ff, eq_self, if_true, if_false, Bool.false_eq_true, Bool.not_true, Bool.not_false, g1]; done) | omega) only [go_sem, RdS.len hdX sl22, RdS.idx hdX sl22, R1.intB hdX (Ext.pres eB), RdS.cells hdX, RdS.len hmX sl23, RdS.idx hmX sl23, RdS.cellB hmX (Ext.pres eB), RdS.cells hmX, RdS.len hvX sl26, RdS.idx hvX sl26, RdS.cellB hvX (Ext.pres eB), RdS.cells hvX, BoxAt.cell hb0_0, wrap_id, g1, eq_self, if_true, if_false, Bool.false_eq_true]
   refine hK _ _ ?_
   clear hK K
   refine den_stop ?_
   refine ⟨?_, e1_2⟩
   first | (simp (disch := decide) only [go_sem, g1, eq_self, Bool.true_and, Bool.and_true, Bool.false_and, Bool.and_false, Bool.true_or, Bool.or_true, Bool.false_or, Bool.or_false, if_true, if_false, Bool.false_eq_true]; done) | simp [HasL, sel, puts_at, g1]
 intro en2 h3 e4
 replace hb0_0 := BoxAt.ext hb0_0 e4
 have := Ext.size e4
 replace eB := Ext.trans eB e4
 simp (disch := decide) only [go_sem]
 refine den_cond rfl (fun c0 => ?_) (fun c0 => ?_)
 ·try simp only [decide_eq_true_eq, decide_eq_false_iff_not, beq_iff_eq, beq_eq_false_iff_ne, bne_iff_ne, ne_eq, Bool.not_eq_true', Bool.not_eq_false', Bool.and_eq_true, Bool.or_eq_true, bne_eq_false_iff_eq, Bool.or_eq_false_iff, Bool.and_eq_false_iff] at c0
  refine den_seq ?_
  refine den_region TTok ?_
  intro K hK
  simp -implicitDefEqProofs (disch := first | decide | assumption | omega) only [go_sem, RdS.len hdX sl22, RdS.idx hdX sl22, R1.intB hdX (Ext.pres eB), RdS.cells hdX, RdS.len hmX sl23, RdS.idx hmX sl23, RdS.cellB hmX (Ext.pres eB), RdS.cells hmX, RdS.len hvX sl26, RdS.idx hvX sl26, RdS.cellB hvX (Ext.pres eB), RdS.cells hvX, wrap_id]
  refine hK _ _ ?_
  clear hK K
  refine den_ret ?_
  simp (disch := decide) only [resP_1, puts_same, puts_ne]
  exact ⟨vbool (isF_no (fun q => by simp [isC_t.2 q.c, q.ln] at c0)), eB⟩
 ·try simp only [decide_eq_true_eq, decide_eq_false_iff_not, beq_iff_eq, beq_eq_false_iff_ne, bne_iff_ne, ne_eq, Bool.not_eq_true', Bool.not_eq_false', Bool.and_eq_true, Bool.or_eq_true, bne_eq_false_iff_eq, Bool.or_eq_false_iff, Bool.and_eq_false_iff] at c0
  have hC := isC_t.1 c0.1
  have hlC := hC.len
  have hml := hC.ml
  refine den_skip ?_
  refine den_seq ?_
  refine den_seq ?_
  refine den_region TTok ?_
  intro K hK
  simp -implicitDefEqProofs (disch := first | decide | assumption | omega) only [go_sem, RdS.len hdX sl22, RdS.idx hdX sl22, R1.intB hdX (Ext.pres eB), RdS.cells hdX, RdS.len hmX sl23, RdS.idx hmX sl23, RdS.cellB hmX (Ext.pres eB), RdS.cells hmX, RdS.len hvX sl26, RdS.idx hvX sl26, RdS.cellB hvX (Ext.pres eB), RdS.cells hvX, BoxAt.cell hb0_0, wrap_id]
  refine hK _ _ ?_
  clear hK K
  refine den_block ?_
  refine den_sel [3, 1] ?_
  intro env_5
  simp only [go_sem]
  refine den_loopS (σ := Nat) (fun st_ => [(3, .int .i64 (st_ : Int))]) (fun st_ H => (st_ ≤ X.lv.length) ∧ (∀ q, q < st_ → ((X.lv.getD q default).length : Int) = X.c.dims.getD q 0 ∧ (X.lv.getD q default).all (fun z => in3 z 0 5) = true) ∧ (Ext h3 H)) (fun st_ => X.lv.length - st_) 0 ?_ ?_
  ·exact ⟨by first | (simp; done) | (dsimp only; omega) | (simp; omega), by first | (simp; done) | (dsimp only; omega) | (simp; omega), Ext.refl _⟩
  ·rintro n h8 ee7 ⟨hi0, hrow, cL6⟩
   replace hb0_0 := BoxAt.ext hb0_0 cL6
   have := Ext.size cL6
   replace eB := Ext.trans eB cL6
   simp only [List.cons_append, List.nil_append]
   refine den_seq ?_
   refine den_seq ?_
   refine den_region TTok ?_
   intro K hK
   simp -implicitDefEqProofs (disch := first | decide | assumption | omega) only [go_sem, fa33_1, ld26, RdS.len hdX sl22, RdS.idx hdX sl22, R1.intB hdX (Ext.pres eB), RdS.cells hdX, RdS.len hmX sl23, RdS.idx hmX sl23, RdS.cellB hmX (Ext.pres eB), RdS.cells hmX, RdS.len hvX sl26, RdS.idx hvX sl26, RdS.cellB hvX (Ext.pres eB), RdS.cells hvX, BoxAt.cell hb0_0, wrap_id]
   refine hK _ _ ?_
   clear hK K
   refine den_cond rfl (fun c1 => ?_) (fun c1 => ?_)
   ·try simp only [decide_eq_true_eq, decide_eq_false_iff_not, beq_iff_eq, beq_eq_false_iff_ne, bne_iff_ne, ne_eq, Bool.not_eq_true', Bool.not_eq_false', Bool.and_eq_true, Bool.or_eq_true, bne_eq_false_iff_eq, Bool.or_eq_false_iff, Bool.and_eq_false_iff] at c1
    refine den_skip ?_
    refine den_seq ?_
    refine den_block ?_
    refine den_seq ?_
    refine den_seq ?_
    refine den_draw TTok mixed [] [(0, true), (1, true), (2, true), (3, true), (4, true), (5, true), (6, true), (7, true), (8, true), (9, true), (10, true), (11, true), (12, true)] (by kernel_rfl) ?_
    intro K hK
    have hr9 := RdS.rowN hvX n (by omega)
    have hlhr9 := RdS.le hr9
    simp -implicitDefEqProofs (disch := first | decide | assumption | omega) only [go_sem, fa31_1, fa33_0, fa33_1, ld26, ld22, ld2, RdS.len hdX sl22, RdS.idx hdX sl22, R1.intB hdX (Ext.pres eB), RdS.cells hdX, RdS.len hmX sl23, RdS.idx hmX sl23, RdS.cellB hmX (Ext.pres eB), RdS.cells hmX, RdS.len hvX sl26, RdS.idx hvX sl26, RdS.cellB hvX (Ext.pres eB), RdS.cells hvX, RdS.len hr9 sl22, RdS.idx hr9 sl22, R1.intB hr9 (Ext.pres eB), RdS.cells hr9, BoxAt.cell hb0_0, wrap_id]
    refine hK _ _ ?_
    clear hK K
    refine den_cond rfl (fun c2 => ?_) (fun c2 => ?_)
    ·try simp only [decide_eq_true_eq, decide_eq_false_iff_not, beq_iff_eq, beq_eq_false_iff_ne, bne_iff_ne, ne_eq, Bool.not_eq_true', Bool.not_eq_false', Bool.and_eq_true, Bool.or_eq_true, bne_eq_false_iff_eq, Bool.or_eq_false_iff, Bool.and_eq_false_iff] at c2
     refine den_seq ?_
     refine den_region TTok ?_
     intro K hK
     simp -implicitDefEqProofs (disch := first | decide | assumption | omega) only [go_sem, RdS.len hdX sl22, RdS.idx hdX sl22, R1.intB hdX (Ext.pres eB), RdS.cells hdX, RdS.len hmX sl23, RdS.idx hmX sl23, RdS.cellB hmX (Ext.pres eB), RdS.cells hmX, RdS.len hvX sl26, RdS.idx hvX sl26, RdS.cellB hvX (Ext.pres eB), RdS.cells hvX, RdS.len hr9 sl22, RdS.idx hr9 sl22, R1.intB hr9 (Ext.pres eB), RdS.cells hr9, wrap_id]
     refine hK _ _ ?_
     clear hK K
     refine den_ret ?_
     simp (disch := decide) only [resP_1, puts_same, puts_ne]
     exact ⟨vbool (isF_no (fun q => c2 (q.rl n (by omega)))), eB⟩
    ·try simp only [decide_eq_true_eq, decide_eq_false_iff_not, beq_iff_eq, beq_eq_false_iff_ne, bne_iff_ne, ne_eq, Bool.not_eq_true', Bool.not_eq_false', Bool.and_eq_true, Bool.or_eq_true, bne_eq_false_iff_eq, Bool.or_eq_false_iff, Bool.and_eq_false_iff] at c2
     refine den_skip ?_
     refine den_seq ?_
     refine den_region TTok ?_
     intro K hK
     simp -implicitDefEqProofs (disch := first | decide | assumption | omega) only [go_sem, RdS.len hdX sl22, RdS.idx hdX sl22, R1.intB hdX (Ext.pres eB), RdS.cells hdX, RdS.len hmX sl23, RdS.idx hmX sl23, RdS.cellB hmX (Ext.pres eB), RdS.cells hmX, RdS.len hvX sl26, RdS.idx hvX sl26, RdS.cellB hvX (Ext.pres eB), RdS.cells hvX, RdS.len hr9 sl22, RdS.idx hr9 sl22, R1.intB hr9 (Ext.pres eB), RdS.cells hr9, BoxAt.cell hb0_0, wrap_id]
     refine hK _ _ ?_
     clear hK K
     refine den_block ?_
     refine den_sel [4, 1, 3] ?_
     intro env_10
     simp only [go_sem]
     refine den_loopS (σ := Nat) (fun st_ => [(4, .int .i64 (st_ : Int))]) (fun st_ H => (st_ ≤ (X.lv.getD n default).length) ∧ (((X.lv.getD n default).take st_).all (fun q => in3 q 0 5) = true) ∧ (Ext h8 H)) (fun st_ => (X.lv.getD n default).length - st_) 0 ?_ ?_
     ·exact ⟨by first | (simp; done) | (dsimp only; omega) | (simp; omega), by first | (simp; done) | (dsimp only; omega) | (simp; omega), Ext.refl _⟩
     ·rintro i h13 ee12 ⟨hi1, hal, cL11⟩
      replace hb0_0 := BoxAt.ext hb0_0 cL11
      have := Ext.size cL11
      replace eB := Ext.trans eB cL11
      replace cL6 := Ext.trans cL6 cL11
      simp only [List.cons_append, List.nil_append]
      refine den_seq ?_
      refine den_seq ?_
      refine den_region TTok ?_
      intro K hK
      have hr14 := RdS.rowN hvX n (by omega)
      have hlhr14 := RdS.le hr14
      simp -implicitDefEqProofs (disch := first | decide | assumption | omega) only [go_sem, fa33_1, ld26, ld22, RdS.len hdX sl22, RdS.idx hdX sl22, R1.intB hdX (Ext.pres eB), RdS.cells hdX, RdS.len hmX sl23, RdS.idx hmX sl23, RdS.cellB hmX (Ext.pres eB), RdS.cells hmX, RdS.len hvX sl26, RdS.idx hvX sl26, RdS.cellB hvX (Ext.pres eB), RdS.cells hvX, RdS.len hr9 sl22, RdS.idx hr9 sl22, R1.intB hr9 (Ext.pres eB), RdS.cells hr9, RdS.len hr14 sl22, RdS.idx hr14 sl22, R1.intB hr14 (Ext.pres eB), RdS.cells hr14, BoxAt.cell hb0_0, wrap_id]
      refine hK _ _ ?_
      clear hK K
      refine den_cond rfl (fun c3 => ?_) (fun c3 => ?_)
      ·try simp only [decide_eq_true_eq, decide_eq_false_iff_not, beq_iff_eq, beq_eq_false_iff_ne, bne_iff_ne, ne_eq, Bool.not_eq_true', Bool.not_eq_false', Bool.and_eq_true, Bool.or_eq_true, bne_eq_false_iff_eq, Bool.or_eq_false_iff, Bool.and_eq_false_iff] at c3
       refine den_skip ?_
       refine den_seq ?_
       refine den_block ?_
       refine den_seq ?_
       refine den_region TTok ?_
       intro K hK
       have hr15 := RdS.rowN hvX n (by omega)
       have hlhr15 := RdS.le hr15
       simp -implicitDefEqProofs (disch := first | decide | assumption | omega) only [go_sem, fa33_1, ld26, ld22, ld2, RdS.len hdX sl22, RdS.idx hdX sl22, R1.intB hdX (Ext.pres eB), RdS.cells hdX, RdS.len hmX sl23, RdS.idx hmX sl23, RdS.cellB hmX (Ext.pres eB), RdS.cells hmX, RdS.len hvX sl26, RdS.idx hvX sl26, RdS.cellB hvX (Ext.pres eB), RdS.cells hvX, RdS.len hr9 sl22, RdS.idx hr9 sl22, R1.intB hr9 (Ext.pres eB), RdS.cells hr9, RdS.len hr14 sl22, RdS.idx hr14 sl22, R1.intB hr14 (Ext.pres eB), RdS.cells hr14, RdS.len hr15 sl22, RdS.idx hr15 sl22, R1.intB hr15 (Ext.pres eB), RdS.cells hr15, BoxAt.cell hb0_0, wrap_id]
       try simp -implicitDefEqProofs (disch := first | decide | assumption | omega) only [go_sem, RdS.len hdX sl22, RdS.idx hdX sl22, R1.intB hdX (Ext.pres eB), RdS.cells hdX, RdS.len hmX sl23, RdS.idx hmX sl23, RdS.cellB hmX (Ext.pres eB), RdS.cells hmX, RdS.len hvX sl26, RdS.idx hvX sl26, RdS.cellB hvX (Ext.pres eB), RdS.cells hvX, RdS.len hr9 sl22, RdS.idx hr9 sl22, R1.intB hr9 (Ext.pres eB), RdS.cells hr9, RdS.len hr14 sl22, RdS.idx hr14 sl22, R1.intB hr14 (Ext.pres eB), RdS.cells hr14, RdS.len hr15 sl22, RdS.idx hr15 sl22, R1.intB hr15 (Ext.pres eB), RdS.cells hr15, BoxAt.cell hb0_0, wrap_id]
       refine CallA.pure (sIn_ok _ _ _ _) ?_
       try simp -implicitDefEqProofs (disch := first | decide | assumption | omega) only [go_sem, RdS.len hdX sl22, RdS.idx hdX sl22, R1.intB hdX (Ext.pres eB), RdS.cells hdX, RdS.len hmX sl23, RdS.idx hmX sl23, RdS.cellB hmX (Ext.pres eB), RdS.cells hmX, RdS.len hvX sl26, RdS.idx hvX sl26, RdS.cellB hvX (Ext.pres eB), RdS.cells hvX, RdS.len hr9 sl22, RdS.idx hr9 sl22, R1.intB hr9 (Ext.pres eB), RdS.cells hr9, RdS.len hr14 sl22, RdS.idx hr14 sl22, R1.intB hr14 (Ext.pres eB), RdS.cells hr14, RdS.len hr15 sl22, RdS.idx hr15 sl22, R1.intB hr15 (Ext.pres eB), RdS.cells hr15, BoxAt.cell hb0_0, wrap_id]
       refine hK _ _ ?_
       clear hK K
       refine den_cond rfl (fun c4 => ?_) (fun c4 => ?_)
       ·try simp only [decide_eq_true_eq, decide_eq_false_iff_not, beq_iff_eq, beq_eq_false_iff_ne, bne_iff_ne, ne_eq, Bool.not_eq_true', Bool.not_eq_false', Bool.and_eq_true, Bool.or_eq_true, bne_eq_false_iff_eq, Bool.or_eq_false_iff, Bool.and_eq_false_iff] at c4
        refine den_seq ?_
        refine den_region TTok ?_
        intro K hK
        simp -implicitDefEqProofs (disch := first | decide | assumption | omega) only [go_sem, RdS.len hdX sl22, RdS.idx hdX sl22, R1.intB hdX (Ext.pres eB), RdS.cells hdX, RdS.len hmX sl23, RdS.idx hmX sl23, RdS.cellB hmX (Ext.pres eB), RdS.cells hmX, RdS.len hvX sl26, RdS.idx hvX sl26, RdS.cellB hvX (Ext.pres eB), RdS.cells hvX, RdS.len hr9 sl22, RdS.idx hr9 sl22, R1.intB hr9 (Ext.pres eB), RdS.cells hr9, RdS.len hr14 sl22, RdS.idx hr14 sl22, R1.intB hr14 (Ext.pres eB), RdS.cells hr14, RdS.len hr15 sl22, RdS.idx hr15 sl22, R1.intB hr15 (Ext.pres eB), RdS.cells hr15, wrap_id]
        refine hK _ _ ?_
        clear hK K
        refine den_ret ?_
        simp (disch := decide) only [resP_1, puts_same, puts_ne]
        exact ⟨vbool (isF_no (fun q => by have := all_at (d := 0) (q.rr n (by omega)) (k := i) (by omega); rw [this] at c4; cases c4)), eB⟩
       ·try simp only [decide_eq_true_eq, decide_eq_false_iff_not, beq_iff_eq, beq_eq_false_iff_ne, bne_iff_ne, ne_eq, Bool.not_eq_true', Bool.not_eq_false', Bool.and_eq_true, Bool.or_eq_true, bne_eq_false_iff_eq, Bool.or_eq_false_iff, Bool.and_eq_false_iff] at c4
        refine den_skip ?_
        refine den_blk ?_
        refine den_region TTok ?_
        intro K hK
        simp -implicitDefEqProofs (disch := first | decide | assumption | omega) only [go_sem, RdS.len hdX sl22, RdS.idx hdX sl22, R1.intB hdX (Ext.pres eB), RdS.cells hdX, RdS.len hmX sl23, RdS.idx hmX sl23, RdS.cellB hmX (Ext.pres eB), RdS.cells hmX, RdS.len hvX sl26, RdS.idx hvX sl26, RdS.cellB hvX (Ext.pres eB), RdS.cells hvX, RdS.len hr9 sl22, RdS.idx hr9 sl22, R1.intB hr9 (Ext.pres eB), RdS.cells hr9, RdS.len hr14 sl22, RdS.idx hr14 sl22, R1.intB hr14 (Ext.pres eB), RdS.cells hr14, RdS.len hr15 sl22, RdS.idx hr15 sl22, R1.intB hr15 (Ext.pres eB), RdS.cells hr15, BoxAt.cell hb0_0, wrap_id]
        refine hK _ _ ?_
        clear hK K
        refine den_stop ?_
        exact ⟨i + 1, by simp [HasL, puts_at], ⟨by first | omega | (dsimp only; omega), all_step (d := 0) (by omega) hal c4, cL11⟩, by first | omega | (dsimp only; omega)⟩
      ·try simp only [decide_eq_true_eq, decide_eq_false_iff_not, beq_iff_eq, beq_eq_false_iff_ne, bne_iff_ne, ne_eq, Bool.not_eq_true', Bool.not_eq_false', Bool.and_eq_true, Bool.or_eq_true, bne_eq_false_iff_eq, Bool.or_eq_false_iff, Bool.and_eq_false_iff] at c3
       refine den_exit ?_
       refine denX_code ?_
       refine denX_stop ?_
       refine denX_hit ?_
       refine den_blk ?_
       refine den_region TTok ?_
       intro K hK
       simp -implicitDefEqProofs (disch := first | decide | assumption | omega) only [go_sem, RdS.len hdX sl22, RdS.idx hdX sl22, R1.intB hdX (Ext.pres eB), RdS.cells hdX, RdS.len hmX sl23, RdS.idx hmX sl23, RdS.cellB hmX (Ext.pres eB), RdS.cells hmX, RdS.len hvX sl26, RdS.idx hvX sl26, RdS.cellB hvX (Ext.pres eB), RdS.cells hvX, RdS.len hr9 sl22, RdS.idx hr9 sl22, R1.intB hr9 (Ext.pres eB), RdS.cells hr9, RdS.len hr14 sl22, RdS.idx hr14 sl22, R1.intB hr14 (Ext.pres eB), RdS.cells hr14, BoxAt.cell hb0_0, wrap_id]
       refine hK _ _ ?_
       clear hK K
       refine den_stop ?_
       exact ⟨n + 1, by simp [HasL, puts_at], ⟨by first | omega | (dsimp only; omega), fun q hq => by
 by_cases hqn : q < n
 ·exact hrow q hqn
 ·rw [show q = n by omega]; exact ⟨by omega, all_end (by omega) hal⟩, cL6⟩, by first | omega | (dsimp only; omega)⟩
   ·try simp only [decide_eq_true_eq, decide_eq_false_iff_not, beq_iff_eq, beq_eq_false_iff_ne, bne_iff_ne, ne_eq, Bool.not_eq_true', Bool.not_eq_false', Bool.and_eq_true, Bool.or_eq_true, bne_eq_false_iff_eq, Bool.or_eq_false_iff, Bool.and_eq_false_iff] at c1
    refine den_exit ?_
    refine denX_code ?_
    refine denX_stop ?_
    refine denX_hit ?_
    refine den_seq ?_
    refine den_seq ?_
    refine den_region TTok ?_
    intro K hK
    simp -implicitDefEqProofs (disch := first | decide | assumption | omega) only [go_sem, RdS.len hdX sl22, RdS.idx hdX sl22, R1.intB hdX (Ext.pres eB), RdS.cells hdX, RdS.len hmX sl23, RdS.idx hmX sl23, RdS.cellB hmX (Ext.pres eB), RdS.cells hmX, RdS.len hvX sl26, RdS.idx hvX sl26, RdS.cellB hvX (Ext.pres eB), RdS.cells hvX, BoxAt.cell hb0_0, wrap_id]
    refine hK _ _ ?_
    clear hK K
    refine den_block ?_
    refine den_sel [5, 1] ?_
    intro env_16
    simp only [go_sem]
    refine den_loopS (σ := Nat) (fun st_ => [(5, .int .i64 (st_ : Int))]) (fun st_ H => (1 ≤ st_ ∧ (st_ ≤ X.lv.length ∨ st_ = 1)) ∧ (∀ m, 1 ≤ m → m < st_ → ∀ a, a < (mapP X.c (m : Int)).length → ∀ b, b < ((mapP X.c (m : Int)).getD a default).length → gdN X m a b) ∧ (Ext h8 H)) (fun st_ => X.lv.length - st_) 1 ?_ ?_
    ·exact ⟨by omega, fun m h1 h2 => by omega, Ext.refl _⟩
    ·rintro n h19 ee18 ⟨hi2, hR1, cL17⟩
     replace hb0_0 := BoxAt.ext hb0_0 cL17
     have := Ext.size cL17
     replace eB := Ext.trans eB cL17
     simp only [List.cons_append, List.nil_append]
     refine den_seq ?_
     refine den_seq ?_
     refine den_region TTok ?_
     intro K hK
     simp -implicitDefEqProofs (disch := first | decide | assumption | omega) only [go_sem, fa33_1, ld26, RdS.len hdX sl22, RdS.idx hdX sl22, R1.intB hdX (Ext.pres eB), RdS.cells hdX, RdS.len hmX sl23, RdS.idx hmX sl23, RdS.cellB hmX (Ext.pres eB), RdS.cells hmX, RdS.len hvX sl26, RdS.idx hvX sl26, RdS.cellB hvX (Ext.pres eB), RdS.cells hvX, BoxAt.cell hb0_0, wrap_id]
     refine hK _ _ ?_
     clear hK K
     refine den_cond rfl (fun c5 => ?_) (fun c5 => ?_)
     ·try simp only [decide_eq_true_eq, decide_eq_false_iff_not, beq_iff_eq, beq_eq_false_iff_ne, bne_iff_ne, ne_eq, Bool.not_eq_true', Bool.not_eq_false', Bool.and_eq_true, Bool.or_eq_true, bne_eq_false_iff_eq, Bool.or_eq_false_iff, Bool.and_eq_false_iff] at c5
      refine den_skip ?_
      refine den_seq ?_
      refine den_block ?_
      refine den_seq ?_
      have hmo := mapP_ok hC (n := (n : Int)) (by omega) (by omega)
      have hdn := dm_at hC.dm (k := n) (by omega)
      rw [Int.toNat_natCast] at hmo
      have hdw := dimP_bnd hC ((n : Int) - 1)
      have hrn := (hrow n (by omega)).1
      have hrm := (hrow (n - 1) (by omega)).1
      have hdm : dimP X.c ((n : Int) - 1) = X.c.dims.getD (n - 1) 0 := by rw [dimP, if_pos (in3_iff.2 ⟨by omega, by omega⟩), show ((n : Int) - 1).toNat = n - 1 by omega]
      refine den_region TTok ?_
      intro K hK
      simp -implicitDefEqProofs (disch := first | decide | assumption | omega) only [go_sem, fa33_0, ld31, RdS.len hdX sl22, RdS.idx hdX sl22, R1.intB hdX (Ext.pres eB), RdS.cells hdX, RdS.len hmX sl23, RdS.idx hmX sl23, RdS.cellB hmX (Ext.pres eB), RdS.cells hmX, RdS.len hvX sl26, RdS.idx hvX sl26, RdS.cellB hvX (Ext.pres eB), RdS.cells hvX, BoxAt.cell hb0_0, wrap_id]
      try simp -implicitDefEqProofs (disch := first | decide | assumption | omega) only [go_sem, RdS.len hdX sl22, RdS.idx hdX sl22, R1.intB hdX (Ext.pres eB), RdS.cells hdX, RdS.len hmX sl23, RdS.idx hmX sl23, RdS.cellB hmX (Ext.pres eB), RdS.cells hmX, RdS.len hvX sl26, RdS.idx hvX sl26, RdS.cellB hvX (Ext.pres eB), RdS.cells hvX, BoxAt.cell hb0_0, wrap_id]
      refine CallA.mono (sMap_ok _ X.c (n : Int) _ ⟨_, _, rfl, (RdS.pres hdX (Ext.pres eB)), (RdS.pres hmX (Ext.pres eB))⟩ hC) ?_
      intro vw16_3_0 h16_3
      rintro ⟨zvw16_3_0, rfl, hrw16_3_0, e16_3⟩
      replace hb0_0 := BoxAt.ext hb0_0 e16_3
      have := Ext.size e16_3
      replace eB := Ext.trans eB e16_3
      replace cL17 := Ext.trans cL17 e16_3
      have xrw16_3_0 := Ext.refl h16_3
      have hlrw16_3_0 := RdS.le hrw16_3_0
      try simp -implicitDefEqProofs (disch := first | decide | assumption | omega) only [go_sem, RdS.len hdX sl22, RdS.idx hdX sl22, R1.intB hdX (Ext.pres eB), RdS.cells hdX, RdS.len hmX sl23, RdS.idx hmX sl23, RdS.cellB hmX (Ext.pres eB), RdS.cells hmX, RdS.len hvX sl26, RdS.idx hvX sl26, RdS.cellB hvX (Ext.pres eB), RdS.cells hvX, BoxAt.cell hb0_0, RdS.len hrw16_3_0 sl26, RdS.idx hrw16_3_0 sl26, RdS.cellB hrw16_3_0 (Ext.pres xrw16_3_0), RdS.cells hrw16_3_0, wrap_id]
      refine hK _ _ ?_
      clear hK K
      refine den_seq ?_
      refine den_region TTok ?_
      intro K hK
      simp -implicitDefEqProofs (disch := first | decide | assumption | omega) only [go_sem, RdS.len hdX sl22, RdS.idx hdX sl22, R1.intB hdX (Ext.pres eB), RdS.cells hdX, RdS.len hmX sl23, RdS.idx hmX sl23, RdS.cellB hmX (Ext.pres eB), RdS.cells hmX, RdS.len hvX sl26, RdS.idx hvX sl26, RdS.cellB hvX (Ext.pres eB), RdS.cells hvX, BoxAt.cell hb0_0, RdS.len hrw16_3_0 sl26, RdS.idx hrw16_3_0 sl26, RdS.cellB hrw16_3_0 (Ext.pres xrw16_3_0), RdS.cells hrw16_3_0, wrap_id]
      refine hK _ _ ?_
      clear hK K
      refine den_block ?_
      refine den_sel [7, 1, 5, 6] ?_
      intro env_20
      simp only [go_sem]
      refine den_loopS (σ := Nat) (fun st_ => [(7, .int .i64 (st_ : Int))]) (fun st_ H => (st_ ≤ (mapP X.c (n : Int)).length) ∧ (∀ a, a < st_ → ∀ b, b < ((mapP X.c (n : Int)).getD a default).length → gdN X n a b) ∧ (Ext h16_3 H)) (fun st_ => (mapP X.c (n : Int)).length - st_) 0 ?_ ?_
      ·exact ⟨by omega, fun a h => by omega, Ext.refl _⟩
      ·rintro i h23 ee22 ⟨hi3, hR2, cL21⟩
       replace hb0_0 := BoxAt.ext hb0_0 cL21
       have := Ext.size cL21
       replace eB := Ext.trans eB cL21
       replace xrw16_3_0 := Ext.trans xrw16_3_0 cL21
       replace cL17 := Ext.trans cL17 cL21
       simp only [List.cons_append, List.nil_append]
       refine den_seq ?_
       refine den_seq ?_
       refine den_region TTok ?_
       intro K hK
       simp -implicitDefEqProofs (disch := first | decide | assumption | omega) only [go_sem, RdS.len hdX sl22, RdS.idx hdX sl22, R1.intB hdX (Ext.pres eB), RdS.cells hdX, RdS.len hmX sl23, RdS.idx hmX sl23, RdS.cellB hmX (Ext.pres eB), RdS.cells hmX, RdS.len hvX sl26, RdS.idx hvX sl26, RdS.cellB hvX (Ext.pres eB), RdS.cells hvX, BoxAt.cell hb0_0, RdS.len hrw16_3_0 sl26, RdS.idx hrw16_3_0 sl26, RdS.cellB hrw16_3_0 (Ext.pres xrw16_3_0), RdS.cells hrw16_3_0, wrap_id]
       refine hK _ _ ?_
       clear hK K
       refine den_cond rfl (fun c6 => ?_) (fun c6 => ?_)
       ·try simp only [decide_eq_true_eq, decide_eq_false_iff_not, beq_iff_eq, beq_eq_false_iff_ne, bne_iff_ne, ne_eq, Bool.not_eq_true', Bool.not_eq_false', Bool.and_eq_true, Bool.or_eq_true, bne_eq_false_iff_eq, Bool.or_eq_false_iff, Bool.and_eq_false_iff] at c6
        refine den_skip ?_
        refine den_seq ?_
        refine den_block ?_
        refine den_seq ?_
        have hmi := hmo.2.at (k := i) (by omega)
        refine den_region TTok ?_
        intro K hK
        simp -implicitDefEqProofs (disch := first | decide | assumption | omega) only [go_sem, RdS.len hdX sl22, RdS.idx hdX sl22, R1.intB hdX (Ext.pres eB), RdS.cells hdX, RdS.len hmX sl23, RdS.idx hmX sl23, RdS.cellB hmX (Ext.pres eB), RdS.cells hmX, RdS.len hvX sl26, RdS.idx hvX sl26, RdS.cellB hvX (Ext.pres eB), RdS.cells hvX, BoxAt.cell hb0_0, RdS.len hrw16_3_0 sl26, RdS.idx hrw16_3_0 sl26, RdS.cellB hrw16_3_0 (Ext.pres xrw16_3_0), RdS.cells hrw16_3_0, wrap_id]
        refine hK _ _ ?_
        clear hK K
        refine den_block ?_
        refine den_sel [8, 1, 5, 6, 7] ?_
        intro env_24
        simp only [go_sem]
        refine den_loopS (σ := Nat) (fun st_ => [(8, .int .i64 (st_ : Int))]) (fun st_ H => (st_ ≤ ((mapP X.c (n : Int)).getD i default).length) ∧ (∀ b, b < st_ → gdN X n i b) ∧ (Ext h23 H)) (fun st_ => ((mapP X.c (n : Int)).getD i default).length - st_) 0 ?_ ?_
        ·exact ⟨by omega, fun b h => by omega, Ext.refl _⟩
        ·rintro j h27 ee26 ⟨hi4, hR3, cL25⟩
         replace hb0_0 := BoxAt.ext hb0_0 cL25
         have := Ext.size cL25
         replace eB := Ext.trans eB cL25
         replace xrw16_3_0 := Ext.trans xrw16_3_0 cL25
         replace cL17 := Ext.trans cL17 cL25
         replace cL21 := Ext.trans cL21 cL25
         simp only [List.cons_append, List.nil_append]
         refine den_seq ?_
         refine den_seq ?_
         refine den_region TTok ?_
         intro K hK
         have hr28 := RdS.rowN hrw16_3_0 i (by omega)
         have hlhr28 := RdS.le hr28
         have xr29 := xrw16_3_0
         simp -implicitDefEqProofs (disch := first | decide | assumption | omega) only [go_sem, ld22, RdS.len hdX sl22, RdS.idx hdX sl22, R1.intB hdX (Ext.pres eB), RdS.cells hdX, RdS.len hmX sl23, RdS.idx hmX sl23, RdS.cellB hmX (Ext.pres eB), RdS.cells hmX, RdS.len hvX sl26, RdS.idx hvX sl26, RdS.cellB hvX (Ext.pres eB), RdS.cells hvX, BoxAt.cell hb0_0, RdS.len hrw16_3_0 sl26, RdS.idx hrw16_3_0 sl26, RdS.cellB hrw16_3_0 (Ext.pres xrw16_3_0), RdS.cells hrw16_3_0, RdS.len hr28 sl22, RdS.idx hr28 sl22, R1.intB hr28 (Ext.pres xr29), RdS.cells hr28, wrap_id]
         refine hK _ _ ?_
         clear hK K
         refine den_cond rfl (fun c7 => ?_) (fun c7 => ?_)
         ·try simp only [decide_eq_true_eq, decide_eq_false_iff_not, beq_iff_eq, beq_eq_false_iff_ne, bne_iff_ne, ne_eq, Bool.not_eq_true', Bool.not_eq_false', Bool.and_eq_true, Bool.or_eq_true, bne_eq_false_iff_eq, Bool.or_eq_false_iff, Bool.and_eq_false_iff] at c7
          refine den_skip ?_
          refine den_seq ?_
          refine den_block ?_
          refine den_seq ?_
          have hlv0 : 0 ≤ (j : Int) ∧ (j : Int) < ((X.lv.getD ((n : Int) - 1).toNat default).length : Int) := by rw [show ((n : Int) - 1).toNat = n - 1 by omega]; omega
          have hlv1 : 0 ≤ (i : Int) ∧ (i : Int) < ((X.lv.getD (n : Int).toNat default).length : Int) := by rw [Int.toNat_natCast]; omega
          refine den_merge [(108, .bool ((((((mapP X.c (n : Int)).getD i default).getD j 0) != (0 : Int)) && (decide ((lvP X (n : Int) (i : Int)) < (lvP X ((n : Int) - (1 : Int)) (j : Int)))))))] [1, 5, 6, 7, 8] (fun H => Ext h27 H) ?_ ?_
           -- a way
          ·refine den_draw TTok mixed [] [(0, true), (1, true), (2, true), (3, true), (4, true), (5, true), (6, true), (7, true), (8, true), (9, true), (10, true), (11, true), (12, true), (14, true), (15, true), (16, true), (13, false), (17, false), (18, true), (19, true)] (by kernel_rfl) ?_
           intro K hK
           have hr30 := RdS.rowN hrw16_3_0 i (by omega)
           have hlhr30 := RdS.le hr30
           have xr31 := xrw16_3_0
           simp -implicitDefEqProofs (disch := first | decide | assumption | (simp (disch := decide) only [slotOf_zero, slotOf_succ, Option.map_some, puts_same, puts_ne, gv_bool, gv_undef, tt, tf, ft, ff, eq_self, if_true, if_false, Bool.false_eq_true, Bool.not_true, Bool.not_false]; done) | omega) only [go_sem, ld22, ld2, RdS.len hdX sl22, RdS.idx hdX sl22, R1.intB hdX (Ext.pres eB), RdS.cells hdX, RdS.len hmX sl23, RdS.idx hmX sl23, RdS.cellB hmX (Ext.pres eB), RdS.cells hmX, RdS.len hvX sl26, RdS.idx hvX sl26, RdS.cellB hvX (Ext.pres eB), RdS.cells hvX, BoxAt.cell hb0_0, RdS.len hrw16_3_0 sl26, RdS.idx hrw16_3_0 sl26, RdS.cellB hrw16_3_0 (Ext.pres xrw16_3_0), RdS.cells hrw16_3_0, RdS.len hr28 sl22, RdS.idx hr28 sl22, R1.intB hr28 (Ext.pres xr29), RdS.cells hr28, RdS.len hr30 sl22, RdS.idx hr30 sl22, R1.intB hr30 (Ext.pres xr31), RdS.cells hr30, wrap_id]
           refine plG_T (by simp (disch := decide) only [slotOf_zero, slotOf_succ, Option.map_some, puts_same, puts_ne, gv_bool, gv_undef, tt, tf, ft, ff, eq_self, if_true, if_false, Bool.false_eq_true, Bool.not_true, Bool.not_false]; rfl) (fun g32 => ?_) (fun g32 => ?_)
           ·try simp -implicitDefEqProofs (disch := first | decide | assumption | (simp (disch := decide) only [slotOf_zero, slotOf_succ, Option.map_some, puts_same, puts_ne, gv_bool, gv_undef, tt, tf, ft, ff, eq_self, if_true, if_false, Bool.false_eq_true, Bool.not_true, Bool.not_false, g32]; done) | omega) only [go_sem, ld33, RdS.len hdX sl22, RdS.idx hdX sl22, R1.intB hdX (Ext.pres eB), RdS.cells hdX, RdS.len hmX sl23, RdS.idx hmX sl23, RdS.cellB hmX (Ext.pres eB), RdS.cells hmX, RdS.len hvX sl26, RdS.idx hvX sl26, RdS.cellB hvX (Ext.pres eB), RdS.cells hvX, BoxAt.cell hb0_0, RdS.len hrw16_3_0 sl26, RdS.idx hrw16_3_0 sl26, RdS.cellB hrw16_3_0 (Ext.pres xrw16_3_0), RdS.cells hrw16_3_0, RdS.len hr28 sl22, RdS.idx hr28 sl22, R1.intB hr28 (Ext.pres xr29), RdS.cells hr28, RdS.len hr30 sl22, RdS.idx hr30 sl22, R1.intB hr30 (Ext.pres xr31), RdS.cells hr30, wrap_id, g32, eq_self, if_true, if_false, Bool.false_eq_true]
            try simp -implicitDefEqProofs (disch := first | decide | assumption | omega) only [go_sem, RdS.len hdX sl22, RdS.idx hdX sl22, R1.intB hdX (Ext.pres eB), RdS.cells hdX, RdS.len hmX sl23, RdS.idx hmX sl23, RdS.cellB hmX (Ext.pres eB), RdS.cells hmX, RdS.len hvX sl26, RdS.idx hvX sl26, RdS.cellB hvX (Ext.pres eB), RdS.cells hvX, BoxAt.cell hb0_0, RdS.len hrw16_3_0 sl26, RdS.idx hrw16_3_0 sl26, RdS.cellB hrw16_3_0 (Ext.pres xrw16_3_0), RdS.cells hrw16_3_0, RdS.len hr28 sl22, RdS.idx hr28 sl22, R1.intB hr28 (Ext.pres xr29), RdS.cells hr28, RdS.len hr30 sl22, RdS.idx hr30 sl22, R1.intB hr30 (Ext.pres xr31), RdS.cells hr30, wrap_id]
            refine CallA.mono (sLev_ok _ X ((n : Int) - (1 : Int)) (j : Int) _ ⟨_, _, _, rfl, (RdS.pres hdX (Ext.pres eB)), (RdS.pres hmX (Ext.pres eB)), (RdS.pres hvX (Ext.pres eB))⟩ (by omega) hlv0) ?_
            intro v_ h23_13
            rintro ⟨rfl, e23_13⟩
            replace hb0_0 := BoxAt.ext hb0_0 e23_13
            have := Ext.size e23_13
            replace eB := Ext.trans eB e23_13
            replace xrw16_3_0 := Ext.trans xrw16_3_0 e23_13
            replace xr29 := Ext.trans xr29 e23_13
            replace xr31 := Ext.trans xr31 e23_13
            replace cL17 := Ext.trans cL17 e23_13
            replace cL21 := Ext.trans cL21 e23_13
            replace cL25 := Ext.trans cL25 e23_13
            try simp (disch := decide) only [outv_some, outv_none, put_puts]
            refine plK_pres (Ext.pres e23_13) ?_
            try simp -implicitDefEqProofs (disch := first | decide | assumption | (simp (disch := decide) only [slotOf_zero, slotOf_succ, Option.map_some, puts_same, puts_ne, gv_bool, gv_undef, tt, tf, ft, ff, eq_self, if_true, if_false, Bool.false_eq_true, Bool.not_true, Bool.not_false, g32]; done) | omega) only [go_sem, RdS.len hdX sl22, RdS.idx hdX sl22, R1.intB hdX (Ext.pres eB), RdS.cells hdX, RdS.len hmX sl23, RdS.idx hmX sl23, RdS.cellB hmX (Ext.pres eB), RdS.cells hmX, RdS.len hvX sl26, RdS.idx hvX sl26, RdS.cellB hvX (Ext.pres eB), RdS.cells hvX, BoxAt.cell hb0_0, RdS.len hrw16_3_0 sl26, RdS.idx hrw16_3_0 sl26, RdS.cellB hrw16_3_0 (Ext.pres xrw16_3_0), RdS.cells hrw16_3_0, RdS.len hr28 sl22, RdS.idx hr28 sl22, R1.intB hr28 (Ext.pres xr29), RdS.cells hr28, RdS.len hr30 sl22, RdS.idx hr30 sl22, R1.intB hr30 (Ext.pres xr31), RdS.cells hr30, wrap_id, g32, eq_self, if_true, if_false, Bool.false_eq_true]
            try simp -implicitDefEqProofs (disch := first | decide | assumption | omega) only [go_sem, RdS.len hdX sl22, RdS.idx hdX sl22, R1.intB hdX (Ext.pres eB), RdS.cells hdX, RdS.len hmX sl23, RdS.idx hmX sl23, RdS.cellB hmX (Ext.pres eB), RdS.cells hmX, RdS.len hvX sl26, RdS.idx hvX sl26, RdS.cellB hvX (Ext.pres eB), RdS.cells hvX, BoxAt.cell hb0_0, RdS.len hrw16_3_0 sl26, RdS.idx hrw16_3_0 sl26, RdS.cellB hrw16_3_0 (Ext.pres xrw16_3_0), RdS.cells hrw16_3_0, RdS.len hr28 sl22, RdS.idx hr28 sl22, R1.intB hr28 (Ext.pres xr29), RdS.cells hr28, RdS.len hr30 sl22, RdS.idx hr30 sl22, R1.intB hr30 (Ext.pres xr31), RdS.cells hr30, wrap_id]
            refine CallA.mono (sLev_ok _ X (n : Int) (i : Int) _ ⟨_, _, _, rfl, (RdS.pres hdX (Ext.pres eB)), (RdS.pres hmX (Ext.pres eB)), (RdS.pres hvX (Ext.pres eB))⟩ (by omega) hlv1) ?_
            intro v_ h23_17
            rintro ⟨rfl, e23_17⟩
            replace hb0_0 := BoxAt.ext hb0_0 e23_17
            have := Ext.size e23_17
            replace eB := Ext.trans eB e23_17
            replace xrw16_3_0 := Ext.trans xrw16_3_0 e23_17
            replace xr29 := Ext.trans xr29 e23_17
            replace xr31 := Ext.trans xr31 e23_17
            replace cL17 := Ext.trans cL17 e23_17
            replace cL21 := Ext.trans cL21 e23_17
            replace cL25 := Ext.trans cL25 e23_17
            try simp (disch := decide) only [outv_some, outv_none, put_puts]
            refine plK_pres (Ext.pres e23_17) ?_
            try simp -implicitDefEqProofs (disch := first | decide | assumption | (simp (disch := decide) only [slotOf_zero, slotOf_succ, Option.map_some, puts_same, puts_ne, gv_bool, gv_undef, tt, tf, ft, ff, eq_self, if_true, if_false, Bool.false_eq_true, Bool.not_true, Bool.not_false, g32]; done) | omega) only [go_sem, RdS.len hdX sl22, RdS.idx hdX sl22, R1.intB hdX (Ext.pres eB), RdS.cells hdX, RdS.len hmX sl23, RdS.idx hmX sl23, RdS.cellB hmX (Ext.pres eB), RdS.cells hmX, RdS.len hvX sl26, RdS.idx hvX sl26, RdS.cellB hvX (Ext.pres eB), RdS.cells hvX, BoxAt.cell hb0_0, RdS.len hrw16_3_0 sl26, RdS.idx hrw16_3_0 sl26, RdS.cellB hrw16_3_0 (Ext.pres xrw16_3_0), RdS.cells hrw16_3_0, RdS.len hr28 sl22, RdS.idx hr28 sl22, R1.intB hr28 (Ext.pres xr29), RdS.cells hr28, RdS.len hr30 sl22, RdS.idx hr30 sl22, R1.intB hr30 (Ext.pres xr31), RdS.cells hr30, wrap_id, g32, eq_self, if_true, if_false, Bool.false_eq_true]
            refine hK _ _ ?_
            clear hK K
            refine den_stop ?_
            refine ⟨?_, (Ext.trans e23_13 e23_17)⟩
            first | (simp (disch := decide) only [go_sem, g32, eq_self, Bool.true_and, Bool.and_true, Bool.false_and, Bool.and_false, Bool.true_or, Bool.or_true, Bool.false_or, Bool.or_false, if_true, if_false, Bool.false_eq_true]; done) | simp [HasL, sel, puts_at, g32]
           ·try simp -implicitDefEqProofs (disch := first | decide | assumption | (simp (disch := decide) only [slotOf_zero, slotOf_succ, Option.map_some, puts_same, puts_ne, gv_bool, gv_undef, tt, tf, ft, ff, eq_self, if_true, if_false, Bool.false_eq_true, Bool.not_true, Bool.not_false, g32]; done) | omega) only [go_sem, RdS.len hdX sl22, RdS.idx hdX sl22, R1.intB hdX (Ext.pres eB), RdS.cells hdX, RdS.len hmX sl23, RdS.idx hmX sl23, RdS.cellB hmX (Ext.pres eB), RdS.cells hmX, RdS.len hvX sl26, RdS.idx hvX sl26, RdS.cellB hvX (Ext.pres eB), RdS.cells hvX, BoxAt.cell hb0_0, RdS.len hrw16_3_0 sl26, RdS.idx hrw16_3_0 sl26, RdS.cellB hrw16_3_0 (Ext.pres xrw16_3_0), RdS.cells hrw16_3_0, RdS.len hr28 sl22, RdS.idx hr28 sl22, R1.intB hr28 (Ext.pres xr29), RdS.cells hr28, RdS.len hr30 sl22, RdS.idx hr30 sl22, R1.intB hr30 (Ext.pres xr31), RdS.cells hr30, wrap_id, g32, eq_self, if_true, if_false, Bool.false_eq_true]
            refine hK _ _ ?_
            clear hK K
            refine den_stop ?_
            refine ⟨?_, Ext.refl _⟩
            first | (simp (disch := decide) only [go_sem, g32, eq_self, Bool.true_and, Bool.and_true, Bool.false_and, Bool.and_false, Bool.true_or, Bool.or_true, Bool.false_or, Bool.or_false, if_true, if_false, Bool.false_eq_true]; done) | simp [HasL, sel, puts_at, g32]
          intro en33 h34 e35
          replace hb0_0 := BoxAt.ext hb0_0 e35
          have := Ext.size e35
          replace eB := Ext.trans eB e35
          replace xrw16_3_0 := Ext.trans xrw16_3_0 e35
          replace xr29 := Ext.trans xr29 e35
          replace cL17 := Ext.trans cL17 e35
          replace cL21 := Ext.trans cL21 e35
          replace cL25 := Ext.trans cL25 e35
          simp (disch := decide) only [go_sem]
          refine den_cond rfl (fun c8 => ?_) (fun c8 => ?_)
          ·try simp only [decide_eq_true_eq, decide_eq_false_iff_not, beq_iff_eq, beq_eq_false_iff_ne, bne_iff_ne, ne_eq, Bool.not_eq_true', Bool.not_eq_false', Bool.and_eq_true, Bool.or_eq_true, bne_eq_false_iff_eq, Bool.or_eq_false_iff, Bool.and_eq_false_iff] at c8
           refine den_seq ?_
           refine den_region TTok ?_
           intro K hK
           simp -implicitDefEqProofs (disch := first | decide | assumption | omega) only [go_sem, RdS.len hdX sl22, RdS.idx hdX sl22, R1.intB hdX (Ext.pres eB), RdS.cells hdX, RdS.len hmX sl23, RdS.idx hmX sl23, RdS.cellB hmX (Ext.pres eB), RdS.cells hmX, RdS.len hvX sl26, RdS.idx hvX sl26, RdS.cellB hvX (Ext.pres eB), RdS.cells hvX, RdS.len hrw16_3_0 sl26, RdS.idx hrw16_3_0 sl26, RdS.cellB hrw16_3_0 (Ext.pres xrw16_3_0), RdS.cells hrw16_3_0, RdS.len hr28 sl22, RdS.idx hr28 sl22, R1.intB hr28 (Ext.pres xr29), RdS.cells hr28, wrap_id]
           refine hK _ _ ?_
           clear hK K
           refine den_ret ?_
           simp (disch := decide) only [resP_1, puts_same, puts_ne]
           exact ⟨vbool (isF_no (fun q => (isF_gd q (n := n) (i := i) (j := j) (by omega) (by omega) (by omega) (by omega)).elim c8.1 (fun h => by have := c8.2; omega))), eB⟩
          ·try simp only [decide_eq_true_eq, decide_eq_false_iff_not, beq_iff_eq, beq_eq_false_iff_ne, bne_iff_ne, ne_eq, Bool.not_eq_true', Bool.not_eq_false', Bool.and_eq_true, Bool.or_eq_true, bne_eq_false_iff_eq, Bool.or_eq_false_iff, Bool.and_eq_false_iff] at c8
           refine den_skip ?_
           refine den_blk ?_
           refine den_region TTok ?_
           intro K hK
           simp -implicitDefEqProofs (disch := first | decide | assumption | omega) only [go_sem, RdS.len hdX sl22, RdS.idx hdX sl22, R1.intB hdX (Ext.pres eB), RdS.cells hdX, RdS.len hmX sl23, RdS.idx hmX sl23, RdS.cellB hmX (Ext.pres eB), RdS.cells hmX, RdS.len hvX sl26, RdS.idx hvX sl26, RdS.cellB hvX (Ext.pres eB), RdS.cells hvX, BoxAt.cell hb0_0, RdS.len hrw16_3_0 sl26, RdS.idx hrw16_3_0 sl26, RdS.cellB hrw16_3_0 (Ext.pres xrw16_3_0), RdS.cells hrw16_3_0, RdS.len hr28 sl22, RdS.idx hr28 sl22, R1.intB hr28 (Ext.pres xr29), RdS.cells hr28, wrap_id]
           refine hK _ _ ?_
           clear hK K
           refine den_stop ?_
           exact ⟨j + 1, by simp [HasL, puts_at], ⟨by first | omega | (dsimp only; omega), fun b h1 => by
 by_cases hqn : b < j
 ·exact hR3 b hqn
 ·rw [show b = j by omega]; exact c8.imp id (fun h => by omega), cL25⟩, by first | omega | (dsimp only; omega)⟩
         ·try simp only [decide_eq_true_eq, decide_eq_false_iff_not, beq_iff_eq, beq_eq_false_iff_ne, bne_iff_ne, ne_eq, Bool.not_eq_true', Bool.not_eq_false', Bool.and_eq_true, Bool.or_eq_true, bne_eq_false_iff_eq, Bool.or_eq_false_iff, Bool.and_eq_false_iff] at c7
          refine den_exit ?_
          refine denX_code ?_
          refine denX_stop ?_
          refine denX_hit ?_
          refine den_blk ?_
          refine den_region TTok ?_
          intro K hK
          simp -implicitDefEqProofs (disch := first | decide | assumption | omega) only [go_sem, RdS.len hdX sl22, RdS.idx hdX sl22, R1.intB hdX (Ext.pres eB), RdS.cells hdX, RdS.len hmX sl23, RdS.idx hmX sl23, RdS.cellB hmX (Ext.pres eB), RdS.cells hmX, RdS.len hvX sl26, RdS.idx hvX sl26, RdS.cellB hvX (Ext.pres eB), RdS.cells hvX, BoxAt.cell hb0_0, RdS.len hrw16_3_0 sl26, RdS.idx hrw16_3_0 sl26, RdS.cellB hrw16_3_0 (Ext.pres xrw16_3_0), RdS.cells hrw16_3_0, RdS.len hr28 sl22, RdS.idx hr28 sl22, R1.intB hr28 (Ext.pres xr29), RdS.cells hr28, wrap_id]
          refine hK _ _ ?_
          clear hK K
          refine den_stop ?_
          exact ⟨i + 1, by simp [HasL, puts_at], ⟨by first | omega | (dsimp only; omega), fun a h1 => by
 by_cases hqn : a < i
 ·exact hR2 a hqn
 ·rw [show a = i by omega]; intro b hb; exact hR3 b (by omega), cL21⟩, by first | omega | (dsimp only; omega)⟩
       ·try simp only [decide_eq_true_eq, decide_eq_false_iff_not, beq_iff_eq, beq_eq_false_iff_ne, bne_iff_ne, ne_eq, Bool.not_eq_true', Bool.not_eq_false', Bool.and_eq_true, Bool.or_eq_true, bne_eq_false_iff_eq, Bool.or_eq_false_iff, Bool.and_eq_false_iff] at c6
        refine den_exit ?_
        refine denX_code ?_
        refine denX_stop ?_
        refine denX_hit ?_
        refine den_blk ?_
        refine den_region TTok ?_
        intro K hK
        simp -implicitDefEqProofs (disch := first | decide | assumption | omega) only [go_sem, RdS.len hdX sl22, RdS.idx hdX sl22, R1.intB hdX (Ext.pres eB), RdS.cells hdX, RdS.len hmX sl23, RdS.idx hmX sl23, RdS.cellB hmX (Ext.pres eB), RdS.cells hmX, RdS.len hvX sl26, RdS.idx hvX sl26, RdS.cellB hvX (Ext.pres eB), RdS.cells hvX, BoxAt.cell hb0_0, RdS.len hrw16_3_0 sl26, RdS.idx hrw16_3_0 sl26, RdS.cellB hrw16_3_0 (Ext.pres xrw16_3_0), RdS.cells hrw16_3_0, wrap_id]
        refine hK _ _ ?_
        clear hK K
        refine den_stop ?_
        exact ⟨n + 1, by simp [HasL, puts_at], ⟨by first | omega | (dsimp only; omega), fun m h1 h2 => by
 by_cases hqn : m < n
 ·exact hR1 m h1 hqn
 ·rw [show m = n by omega]; intro i hi; exact hR2 i (by omega), cL17⟩, by first | omega | (dsimp only; omega)⟩
     ·try simp only [decide_eq_true_eq, decide_eq_false_iff_not, beq_iff_eq, beq_eq_false_iff_ne, bne_iff_ne, ne_eq, Bool.not_eq_true', Bool.not_eq_false', Bool.and_eq_true, Bool.or_eq_true, bne_eq_false_iff_eq, Bool.or_eq_false_iff, Bool.and_eq_false_iff] at c5
      refine den_exit ?_
      refine denX_code ?_
      refine denX_stop ?_
      refine denX_hit ?_
      refine den_seq ?_
      refine den_region TTok ?_
      intro K hK
      simp -implicitDefEqProofs (disch := first | decide | assumption | omega) only [go_sem, RdS.len hdX sl22, RdS.idx hdX sl22, R1.intB hdX (Ext.pres eB), RdS.cells hdX, RdS.len hmX sl23, RdS.idx hmX sl23, RdS.cellB hmX (Ext.pres eB), RdS.cells hmX, RdS.len hvX sl26, RdS.idx hvX sl26, RdS.cellB hvX (Ext.pres eB), RdS.cells hvX, wrap_id]
      refine hK _ _ ?_
      clear hK K
      refine den_ret ?_
      simp (disch := decide) only [resP_1, puts_same, puts_ne]
      exact ⟨vbool (isF_yes (isF_sp hC (by omega) (fun n hn => hrow n (by omega)) (fun m h1 h2 => hR1 m h1 (by omega)))), eB⟩
end Go.Proofs.Ytjjjgllbocgkbaa

namespace Go.Proofs.Ytjjjgllbocgkbaa
open Go
def keptT (X : Fl) (n q : Int) (m : Nat) : List Int := ((List.range m).filter fun i : Nat => decide (lvP X n (i : Int) ≤ q)).map fun i : Nat => (i : Int)
def keptP (X : Fl) (n q : Int) : List Int := keptT X n q (dimP X.c n).toNat
theorem keptT_yes {X : Fl} {n q : Int} {m : Nat} (h : lvP X n (m : Int) ≤ q) : keptT X n q m ++ [(m : Int)] = keptT X n q (m + 1) := by
 unfold keptT
 rw [List.range_succ, List.filter_append, List.map_append]
 simp [h]
theorem keptT_no {X : Fl} {n q : Int} {m : Nat} (h : ¬ lvP X n (m : Int) ≤ q) : keptT X n q m = keptT X n q (m + 1) := by
 unfold keptT
 rw [List.range_succ, List.filter_append, List.map_append]
 simp [h]
theorem keptT_len (X : Fl) (n q : Int) (m : Nat) : (keptT X n q m).length ≤ m := by
 unfold keptT
 rw [List.length_map]
 exact Nat.le_trans (List.length_filter_le _ _) (by simp)
theorem keptT_at {X : Fl} {n q : Int} {m k : Nat} (hk : k < (keptT X n q m).length) : ∃ i : Nat, (keptT X n q m).getD k 0 = (i : Int) ∧ i < m ∧ lvP X n (i : Int) ≤ q := by
 have h : (keptT X n q m)[k] ∈ keptT X n q m := List.getElem_mem hk
 obtain ⟨i, hi, e⟩ := List.mem_map.1 h
 rw [List.mem_filter, List.mem_range, decide_eq_true_eq] at hi
 exact ⟨i, by rw [List.getD_eq_getElem?_getD, List.getElem?_eq_getElem hk]; exact e.symm, hi.1, hi.2⟩
theorem IsF.dim {X : Fl} (h : IsF X) {n : Int} (h0 : 0 ≤ n) (h1 : n < X.c.dims.length) : ((X.lv.getD n.toNat default).length : Int) = dimP X.c n := by
 have l := h.ln
 rw [dimP, if_pos (in3_iff.2 ⟨h0, by omega⟩), h.rl n.toNat (by omega)]
theorem keptP_len {X : Fl} (h : IsF X) (n q : Int) : (keptP X n q).length ≤ 8 := by
 have := dimP_bnd h.c n
 have := keptT_len X n q (dimP X.c n).toNat
 unfold keptP; omega
theorem keptP_out {X : Fl} {n q : Int} (h : n < 0 ∨ (X.c.dims.length : Int) ≤ n) : keptP X n q = [] := by
 unfold keptP
 rw [dimP_out (by omega)]; rfl

set_option maxRecDepth 100000 in
theorem iKept_ok (vX : Value) (X : Fl) (n : Int) (q : Int) (h : Heap) (rX : RF h vX X) (hF : IsF X) (hn : -1000 ≤ n ∧ n ≤ 1000) : CallA Try.prog 82 #[vX, .int .i64 n, .int .i64 q] h fun v' h' => ∃ w0 f0, v' = w0 ∧ O1 h' w0 (keptP X n q) f0 ∧ Fresh h.size f0 ∧ Ext h h' := by
 obtain ⟨vdX, vmX, vvX, rfl, hdX, hmX, hvX⟩ := rX
 have hledX := RdS.le hdX
 have hlemX := RdS.le hmX
 have hlevX := RdS.le hvX
 have hC := hF.c
 have hlC := hC.len
 have hln := hF.ln
 have hdb := dimP_bnd hC n
 refine callA_intro TTok (args := [_, _, _]) Try.func82 (by kernel_rfl) rfl 38 rfl (by simp) [.tmp 6] rfl ?_
 simp only [idxs, Nat.reduceAdd]
 refine den_seq ?_
 refine den_region TTok ?_
 intro K hK
 simp -implicitDefEqProofs (disch := first | decide | assumption | omega) only [go_sem, RdS.len hdX sl22, RdS.idx hdX sl22, R1.intB hdX (HPres.refl _), RdS.cells hdX, RdS.len hmX sl23, RdS.idx hmX sl23, RdS.cellB hmX (HPres.refl _), RdS.cells hmX, RdS.len hvX sl26, RdS.idx hvX sl26, RdS.cellB hvX (HPres.refl _), RdS.cells hvX, wrap_id]
 refine op_box (cs := #[.int .i64 (X.c.p), vdX, vmX, vvX]) rfl ?_
 intro h0_0 e0_0 hb0_0 z0_0
 have := Ext.size e0_0
 have eB := e0_0
 have hfhb0_0 : Fresh h.size [h.size] := Fresh.one _
 have hlhb0_0 := one_lt (show h.size < h0_0.size by omega)
 try simp -implicitDefEqProofs (disch := first | decide | assumption | omega) only [go_sem, RdS.len hdX sl22, RdS.idx hdX sl22, R1.intB hdX (Ext.pres eB), RdS.cells hdX, RdS.len hmX sl23, RdS.idx hmX sl23, RdS.cellB hmX (Ext.pres eB), RdS.cells hmX, RdS.len hvX sl26, RdS.idx hvX sl26, RdS.cellB hvX (Ext.pres eB), RdS.cells hvX, BoxAt.cell hb0_0, wrap_id]
 refine hK _ _ ?_
 clear hK K
 refine den_seq ?_
 refine den_region TTok ?_
 intro K hK
 simp -implicitDefEqProofs (disch := first | decide | assumption | omega) only [go_sem, RdS.len hdX sl22, RdS.idx hdX sl22, R1.intB hdX (Ext.pres eB), RdS.cells hdX, RdS.len hmX sl23, RdS.idx hmX sl23, RdS.cellB hmX (Ext.pres eB), RdS.cells hmX, RdS.len hvX sl26, RdS.idx hvX sl26, RdS.cellB hvX (Ext.pres eB), RdS.cells hvX, BoxAt.cell hb0_0, wrap_id]
 refine op_bs0 sz22 OI ?_
 intro v1_0 h1_0 ho1_0 e1_0
 replace hb0_0 := BoxAt.ext hb0_0 e1_0
 have := Ext.size e1_0
 replace eB := Ext.trans eB e1_0
 have hfho1_0 : Fresh h0_0.size [h0_0.size] := Fresh.one _
 have hlho1_0 := OS.lt ho1_0
 try simp -implicitDefEqProofs (disch := first | decide | assumption | omega) only [go_sem, RdS.len hdX sl22, RdS.idx hdX sl22, R1.intB hdX (Ext.pres eB), RdS.cells hdX, RdS.len hmX sl23, RdS.idx hmX sl23, RdS.cellB hmX (Ext.pres eB), RdS.cells hmX, RdS.len hvX sl26, RdS.idx hvX sl26, RdS.cellB hvX (Ext.pres eB), RdS.cells hvX, RdS.len (OS.rd ho1_0) sl22, RdS.idx (OS.rd ho1_0) sl22, R1.intN (OS.rd ho1_0), RdS.cells (OS.rd ho1_0), BoxAt.cell hb0_0, wrap_id]
 refine hK _ _ ?_
 clear hK K
 refine den_seq ?_
 refine den_seq ?_
 refine den_region TTok ?_
 intro K hK
 simp -implicitDefEqProofs (disch := first | decide | assumption | omega) only [go_sem, fa33_0, ld31, RdS.len hdX sl22, RdS.idx hdX sl22, R1.intB hdX (Ext.pres eB), RdS.cells hdX, RdS.len hmX sl23, RdS.idx hmX sl23, RdS.cellB hmX (Ext.pres eB), RdS.cells hmX, RdS.len hvX sl26, RdS.idx hvX sl26, RdS.cellB hvX (Ext.pres eB), RdS.cells hvX, RdS.len (OS.rd ho1_0) sl22, RdS.idx (OS.rd ho1_0) sl22, R1.intN (OS.rd ho1_0), RdS.cells (OS.rd ho1_0), BoxAt.cell hb0_0, wrap_id]
 try simp -implicitDefEqProofs (disch := first | decide | assumption | omega) only [go_sem, RdS.len hdX sl22, RdS.idx hdX sl22, R1.intB hdX (Ext.pres eB), RdS.cells hdX, RdS.len hmX sl23, RdS.idx hmX sl23, RdS.cellB hmX (Ext.pres eB), RdS.cells hmX, RdS.len hvX sl26, RdS.idx hvX sl26, RdS.cellB hvX (Ext.pres eB), RdS.cells hvX, RdS.len (OS.rd ho1_0) sl22, RdS.idx (OS.rd ho1_0) sl22, R1.intN (OS.rd ho1_0), RdS.cells (OS.rd ho1_0), BoxAt.cell hb0_0, wrap_id]
 refine CallA.mono (top_ok _ X.c _ ⟨_, _, rfl, (RdS.pres hdX (Ext.pres eB)), (RdS.pres hmX (Ext.pres eB))⟩) ?_
 intro v_ h2_3
 rintro ⟨rfl, e2_3⟩
 replace ho1_0 := OS.ext ho1_0 e2_3
 replace hb0_0 := BoxAt.ext hb0_0 e2_3
 have := Ext.size e2_3
 replace eB := Ext.trans eB e2_3
 try simp -implicitDefEqProofs (disch := first | decide | assumption | omega) only [go_sem, RdS.len hdX sl22, RdS.idx hdX sl22, R1.intB hdX (Ext.pres eB), RdS.cells hdX, RdS.len hmX sl23, RdS.idx hmX sl23, RdS.cellB hmX (Ext.pres eB), RdS.cells hmX, RdS.len hvX sl26, RdS.idx hvX sl26, RdS.cellB hvX (Ext.pres eB), RdS.cells hvX, RdS.len (OS.rd ho1_0) sl22, RdS.idx (OS.rd ho1_0) sl22, R1.intN (OS.rd ho1_0), RdS.cells (OS.rd ho1_0), BoxAt.cell hb0_0, wrap_id]
 try simp -implicitDefEqProofs (disch := first | decide | assumption | omega) only [go_sem, RdS.len hdX sl22, RdS.idx hdX sl22, R1.intB hdX (Ext.pres eB), RdS.cells hdX, RdS.len hmX sl23, RdS.idx hmX sl23, RdS.cellB hmX (Ext.pres eB), RdS.cells hmX, RdS.len hvX sl26, RdS.idx hvX sl26, RdS.cellB hvX (Ext.pres eB), RdS.cells hvX, RdS.len (OS.rd ho1_0) sl22, RdS.idx (OS.rd ho1_0) sl22, R1.intN (OS.rd ho1_0), RdS.cells (OS.rd ho1_0), BoxAt.cell hb0_0, wrap_id]
 refine CallA.pure (iIn_ok _ _ _ _) ?_
 try simp -implicitDefEqProofs (disch := first | decide | assumption | omega) only [go_sem, RdS.len hdX sl22, RdS.idx hdX sl22, R1.intB hdX (Ext.pres eB), RdS.cells hdX, RdS.len hmX sl23, RdS.idx hmX sl23, RdS.cellB hmX (Ext.pres eB), RdS.cells hmX, RdS.len hvX sl26, RdS.idx hvX sl26, RdS.cellB hvX (Ext.pres eB), RdS.cells hvX, RdS.len (OS.rd ho1_0) sl22, RdS.idx (OS.rd ho1_0) sl22, R1.intN (OS.rd ho1_0), RdS.cells (OS.rd ho1_0), BoxAt.cell hb0_0, wrap_id]
 refine hK _ _ ?_
 clear hK K
 refine den_cond rfl (fun c0 => ?_) (fun c0 => ?_)
 ·try simp only [decide_eq_true_eq, decide_eq_false_iff_not, beq_iff_eq, beq_eq_false_iff_ne, bne_iff_ne, ne_eq, Bool.not_eq_true', Bool.not_eq_false', Bool.and_eq_true, Bool.or_eq_true, bne_eq_false_iff_eq, in3_iff, in3_f] at c0
  refine den_seq ?_
  refine den_region TTok ?_
  intro K hK
  simp -implicitDefEqProofs (disch := first | decide | assumption | omega) only [go_sem, RdS.len hdX sl22, RdS.idx hdX sl22, R1.intB hdX (Ext.pres eB), RdS.cells hdX, RdS.len hmX sl23, RdS.idx hmX sl23, RdS.cellB hmX (Ext.pres eB), RdS.cells hmX, RdS.len hvX sl26, RdS.idx hvX sl26, RdS.cellB hvX (Ext.pres eB), RdS.cells hvX, RdS.len (OS.rd ho1_0) sl22, RdS.idx (OS.rd ho1_0) sl22, R1.intN (OS.rd ho1_0), RdS.cells (OS.rd ho1_0), wrap_id]
  refine hK _ _ ?_
  clear hK K
  refine den_ret ?_
  simp (disch := decide) only [resP_1, puts_same, puts_ne]
  rw [keptP_out (by omega)]
  exact ⟨_, _, rfl, ho1_0, hfho1_0.mono (by omega), eB⟩
 ·try simp only [decide_eq_true_eq, decide_eq_false_iff_not, beq_iff_eq, beq_eq_false_iff_ne, bne_iff_ne, ne_eq, Bool.not_eq_true', Bool.not_eq_false', Bool.and_eq_true, Bool.or_eq_true, bne_eq_false_iff_eq, in3_iff, in3_f] at c0
  have hdm := hF.dim (n := n) (by omega) (by omega)
  have hdn : n.toNat < X.lv.length := by omega
  refine den_skip ?_
  refine den_seq ?_
  refine den_seq ?_
  refine den_region TTok ?_
  intro K hK
  have hr1 := RdS.rowN hvX (n).toNat (by omega)
  have hlhr1 := RdS.le hr1
  simp -implicitDefEqProofs (disch := first | decide | assumption | omega) only [go_sem, fa33_1, ld26, ld22, RdS.len hdX sl22, RdS.idx hdX sl22, R1.intB hdX (Ext.pres eB), RdS.cells hdX, RdS.len hmX sl23, RdS.idx hmX sl23, RdS.cellB hmX (Ext.pres eB), RdS.cells hmX, RdS.len hvX sl26, RdS.idx hvX sl26, RdS.cellB hvX (Ext.pres eB), RdS.cells hvX, RdS.len hr1 sl22, RdS.idx hr1 sl22, R1.intB hr1 (Ext.pres eB), RdS.cells hr1, RdS.len (OS.rd ho1_0) sl22, RdS.idx (OS.rd ho1_0) sl22, R1.intN (OS.rd ho1_0), RdS.cells (OS.rd ho1_0), BoxAt.cell hb0_0, wrap_id]
  refine hK _ _ ?_
  clear hK K
  refine den_block ?_
  refine den_sel [7, 24, 2, 22, 23] ?_
  intro env_2
  simp only [go_sem]
  refine den_loopS (σ := Nat × Value × List Nat) (fun st_ => [(7, st_.2.1), (24, .int .i64 (st_.1 : Int))]) (fun st_ H => (st_.1 ≤ (X.lv.getD n.toNat default).length) ∧ (O1 H st_.2.1 (keptT X n q st_.1) st_.2.2) ∧ (Fresh (h0_0.size) st_.2.2) ∧ (Sub [h0_0.size] h2_3.size st_.2.2) ∧ (Chg [h0_0.size] h2_3 H)) (fun st_ => (X.lv.getD n.toNat default).length - st_.1) (0, v1_0, [h0_0.size]) ?_ ?_
  ·exact ⟨by first | (simp; done) | (dsimp only; omega) | (simp; omega), by show O1 _ _ [] _; exact ho1_0, hfho1_0, Sub.refl, Chg.refl _ _⟩
  ·rintro ⟨i, vhO, fphO⟩ h5 ee4 ⟨hi0, hO, hfhO, sbhO, cL3⟩
   dsimp only at hi0 hO hfhO sbhO cL3
   replace hb0_0 := BoxAt.chgA hb0_0 cL3 (apart_lt hlhb0_0 hfho1_0 (by omega))
   have := cL3.size
   replace eB := Ext.then eB cL3 (ge_of hfho1_0 (by omega))
   have hlhO := OS.lt hO
   simp only [List.cons_append, List.nil_append]
   have hkl := keptT_len X n q i
   refine den_seq ?_
   refine den_region TTok ?_
   intro K hK
   simp -implicitDefEqProofs (disch := first | decide | assumption | omega) only [go_sem, RdS.len hdX sl22, RdS.idx hdX sl22, R1.intB hdX (Ext.pres eB), RdS.cells hdX, RdS.len hmX sl23, RdS.idx hmX sl23, RdS.cellB hmX (Ext.pres eB), RdS.cells hmX, RdS.len hvX sl26, RdS.idx hvX sl26, RdS.cellB hvX (Ext.pres eB), RdS.cells hvX, RdS.len hr1 sl22, RdS.idx hr1 sl22, R1.intB hr1 (Ext.pres eB), RdS.cells hr1, RdS.len (OS.rd hO) sl22, RdS.idx (OS.rd hO) sl22, R1.intN (OS.rd hO), RdS.cells (OS.rd hO), wrap_id]
   refine hK _ _ ?_
   clear hK K
   refine den_seq ?_
   refine den_cond rfl (fun c1 => ?_) (fun c1 => ?_)
   ·try simp only [decide_eq_true_eq, decide_eq_false_iff_not, beq_iff_eq, beq_eq_false_iff_ne, bne_iff_ne, ne_eq, Bool.not_eq_true', Bool.not_eq_false', Bool.and_eq_true, Bool.or_eq_true, bne_eq_false_iff_eq, in3_iff, in3_f] at c1
    refine den_skip ?_
    refine den_seq ?_
    refine den_block ?_
    refine den_seq ?_
    refine den_region TTok ?_
    intro K hK
    simp -implicitDefEqProofs (disch := first | decide | assumption | omega) only [go_sem, ld2, RdS.len hdX sl22, RdS.idx hdX sl22, R1.intB hdX (Ext.pres eB), RdS.cells hdX, RdS.len hmX sl23, RdS.idx hmX sl23, RdS.cellB hmX (Ext.pres eB), RdS.cells hmX, RdS.len hvX sl26, RdS.idx hvX sl26, RdS.cellB hvX (Ext.pres eB), RdS.cells hvX, RdS.len hr1 sl22, RdS.idx hr1 sl22, R1.intB hr1 (Ext.pres eB), RdS.cells hr1, RdS.len (OS.rd hO) sl22, RdS.idx (OS.rd hO) sl22, R1.intN (OS.rd hO), RdS.cells (OS.rd hO), wrap_id]
    refine hK _ _ ?_
    clear hK K
    refine den_seq ?_
    refine den_region TTok ?_
    intro K hK
    simp -implicitDefEqProofs (disch := first | decide | assumption | omega) only [go_sem, RdS.len hdX sl22, RdS.idx hdX sl22, R1.intB hdX (Ext.pres eB), RdS.cells hdX, RdS.len hmX sl23, RdS.idx hmX sl23, RdS.cellB hmX (Ext.pres eB), RdS.cells hmX, RdS.len hvX sl26, RdS.idx hvX sl26, RdS.cellB hvX (Ext.pres eB), RdS.cells hvX, RdS.len hr1 sl22, RdS.idx hr1 sl22, R1.intB hr1 (Ext.pres eB), RdS.cells hr1, RdS.len (OS.rd hO) sl22, RdS.idx (OS.rd hO) sl22, R1.intN (OS.rd hO), RdS.cells (OS.rd hO), wrap_id]
    refine hK _ _ ?_
    clear hK K
    refine den_cond rfl (fun c2 => ?_) (fun c2 => ?_)
    ·try simp only [decide_eq_true_eq, decide_eq_false_iff_not, beq_iff_eq, beq_eq_false_iff_ne, bne_iff_ne, ne_eq, Bool.not_eq_true', Bool.not_eq_false', Bool.and_eq_true, Bool.or_eq_true, bne_eq_false_iff_eq, in3_iff, in3_f] at c2
     refine den_region TTok ?_
     intro K hK
     simp -implicitDefEqProofs (disch := first | decide | assumption | omega) only [go_sem, RdS.len hdX sl22, RdS.idx hdX sl22, R1.intB hdX (Ext.pres eB), RdS.cells hdX, RdS.len hmX sl23, RdS.idx hmX sl23, RdS.cellB hmX (Ext.pres eB), RdS.cells hmX, RdS.len hvX sl26, RdS.idx hvX sl26, RdS.cellB hvX (Ext.pres eB), RdS.cells hvX, RdS.len hr1 sl22, RdS.idx hr1 sl22, R1.intB hr1 (Ext.pres eB), RdS.cells hr1, RdS.len (OS.rd hO) sl22, RdS.idx (OS.rd hO) sl22, R1.intN (OS.rd hO), RdS.cells (OS.rd hO), wrap_id]
     refine op_bs1 sz22 rfl rfl ?_
     try simp -implicitDefEqProofs (disch := first | decide | assumption | omega) only [go_sem, RdS.len hdX sl22, RdS.idx hdX sl22, R1.intB hdX (Ext.pres eB), RdS.cells hdX, RdS.len hmX sl23, RdS.idx hmX sl23, RdS.cellB hmX (Ext.pres eB), RdS.cells hmX, RdS.len hvX sl26, RdS.idx hvX sl26, RdS.cellB hvX (Ext.pres eB), RdS.cells hvX, RdS.len hr1 sl22, RdS.idx hr1 sl22, R1.intB hr1 (Ext.pres eB), RdS.cells hr1, RdS.len (OS.rd hO) sl22, RdS.idx (OS.rd hO) sl22, R1.intN (OS.rd hO), RdS.cells (OS.rd hO), wrap_id]
     refine op_append1 sz22 hO hfhO.nodup ⟨rfl, rfl⟩ List.nodup_nil (Apart.nil _) (by first | omega | (simp; omega)) rfl rfl ?_
     intro v8_3 h8_3 fp8_3 ho8_3 hn8_3 hs8_3 c8_3
     have hsz8_3 := c8_3.size
     have hfho8_3 : Fresh h0_0.size fp8_3 := Fresh.appd hfhO (Fresh.nil h5.size) (by omega) (by omega) hn8_3 hs8_3
     have sb6 : Sub [h0_0.size] h2_3.size fp8_3 := Sub.grow sbhO Sub.nil (by omega) hs8_3
     have := c8_3.size
     replace eB := Ext.then eB c8_3 (ge_of hfhO (by omega))
     replace cL3 := Chg.step cL3 c8_3 sbhO
     have hlho8_3 := OS.lt ho8_3
     try simp -implicitDefEqProofs (disch := first | decide | assumption | omega) only [go_sem, RdS.len hdX sl22, RdS.idx hdX sl22, R1.intB hdX (Ext.pres eB), RdS.cells hdX, RdS.len hmX sl23, RdS.idx hmX sl23, RdS.cellB hmX (Ext.pres eB), RdS.cells hmX, RdS.len hvX sl26, RdS.idx hvX sl26, RdS.cellB hvX (Ext.pres eB), RdS.cells hvX, RdS.len hr1 sl22, RdS.idx hr1 sl22, R1.intB hr1 (Ext.pres eB), RdS.cells hr1, RdS.len (OS.rd ho8_3) sl22, RdS.idx (OS.rd ho8_3) sl22, R1.intN (OS.rd ho8_3), RdS.cells (OS.rd ho8_3), wrap_id]
     refine hK _ _ ?_
     clear hK K
     refine den_blk ?_
     refine den_region TTok ?_
     intro K hK
     simp -implicitDefEqProofs (disch := first | decide | assumption | omega) only [go_sem, RdS.len hdX sl22, RdS.idx hdX sl22, R1.intB hdX (Ext.pres eB), RdS.cells hdX, RdS.len hmX sl23, RdS.idx hmX sl23, RdS.cellB hmX (Ext.pres eB), RdS.cells hmX, RdS.len hvX sl26, RdS.idx hvX sl26, RdS.cellB hvX (Ext.pres eB), RdS.cells hvX, RdS.len hr1 sl22, RdS.idx hr1 sl22, R1.intB hr1 (Ext.pres eB), RdS.cells hr1, RdS.len (OS.rd ho8_3) sl22, RdS.idx (OS.rd ho8_3) sl22, R1.intN (OS.rd ho8_3), RdS.cells (OS.rd ho8_3), wrap_id]
     refine hK _ _ ?_
     clear hK K
     refine den_stop ?_
     first | rw [keptT_yes (show lvP X n (i : Int) ≤ q by unfold lvP; rw [Int.toNat_natCast]; exact c2)] at ho8_3 | rw [keptT_no (show ¬ lvP X n (i : Int) ≤ q by unfold lvP; rw [Int.toNat_natCast]; exact c2)] at ho8_3
     exact ⟨(i + 1, v8_3, fp8_3), by simp [HasL, puts_at], ⟨by first | omega | (dsimp only; omega), ho8_3, hfho8_3, sb6, cL3⟩, by first | omega | (dsimp only; omega)⟩
    ·try simp only [decide_eq_true_eq, decide_eq_false_iff_not, beq_iff_eq, beq_eq_false_iff_ne, bne_iff_ne, ne_eq, Bool.not_eq_true', Bool.not_eq_false', Bool.and_eq_true, Bool.or_eq_true, bne_eq_false_iff_eq, in3_iff, in3_f] at c2
     refine den_skip ?_
     refine den_blk ?_
     refine den_region TTok ?_
     intro K hK
     simp -implicitDefEqProofs (disch := first | decide | assumption | omega) only [go_sem, RdS.len hdX sl22, RdS.idx hdX sl22, R1.intB hdX (Ext.pres eB), RdS.cells hdX, RdS.len hmX sl23, RdS.idx hmX sl23, RdS.cellB hmX (Ext.pres eB), RdS.cells hmX, RdS.len hvX sl26, RdS.idx hvX sl26, RdS.cellB hvX (Ext.pres eB), RdS.cells hvX, RdS.len hr1 sl22, RdS.idx hr1 sl22, R1.intB hr1 (Ext.pres eB), RdS.cells hr1, RdS.len (OS.rd hO) sl22, RdS.idx (OS.rd hO) sl22, R1.intN (OS.rd hO), RdS.cells (OS.rd hO), wrap_id]
     refine hK _ _ ?_
     clear hK K
     refine den_stop ?_
     first | rw [keptT_yes (show lvP X n (i : Int) ≤ q by unfold lvP; rw [Int.toNat_natCast]; exact c2)] at hO | rw [keptT_no (show ¬ lvP X n (i : Int) ≤ q by unfold lvP; rw [Int.toNat_natCast]; exact c2)] at hO
     exact ⟨(i + 1, vhO, fphO), by simp [HasL, puts_at], ⟨by first | omega | (dsimp only; omega), hO, hfhO, sbhO, cL3⟩, by first | omega | (dsimp only; omega)⟩
   ·try simp only [decide_eq_true_eq, decide_eq_false_iff_not, beq_iff_eq, beq_eq_false_iff_ne, bne_iff_ne, ne_eq, Bool.not_eq_true', Bool.not_eq_false', Bool.and_eq_true, Bool.or_eq_true, bne_eq_false_iff_eq, in3_iff, in3_f] at c1
    refine den_exit ?_
    refine denX_code ?_
    refine denX_stop ?_
    refine denX_hit ?_
    refine den_seq ?_
    refine den_region TTok ?_
    intro K hK
    simp -implicitDefEqProofs (disch := first | decide | assumption | omega) only [go_sem, RdS.len hdX sl22, RdS.idx hdX sl22, R1.intB hdX (Ext.pres eB), RdS.cells hdX, RdS.len hmX sl23, RdS.idx hmX sl23, RdS.cellB hmX (Ext.pres eB), RdS.cells hmX, RdS.len hvX sl26, RdS.idx hvX sl26, RdS.cellB hvX (Ext.pres eB), RdS.cells hvX, RdS.len hr1 sl22, RdS.idx hr1 sl22, R1.intB hr1 (Ext.pres eB), RdS.cells hr1, RdS.len (OS.rd hO) sl22, RdS.idx (OS.rd hO) sl22, R1.intN (OS.rd hO), RdS.cells (OS.rd hO), wrap_id]
    refine hK _ _ ?_
    clear hK K
    refine den_ret ?_
    simp (disch := decide) only [resP_1, puts_same, puts_ne]
    rw [show i = (dimP X.c n).toNat by omega] at hO
    exact ⟨_, _, rfl, hO, hfhO.mono (by omega), eB⟩

set_option maxRecDepth 100000 in
theorem sKept_ok (vX : Value) (X : Fl) (n : Int) (q : Int) (h : Heap) (rX : RF h vX X) (hF : IsF X) (hn : -1000 ≤ n ∧ n ≤ 1000) : CallA Try.prog 78 #[vX, .int .i64 n, .int .i64 q] h fun v' h' => ∃ w0 f0, v' = w0 ∧ O1 h' w0 (keptP X n q) f0 ∧ Fresh h.size f0 ∧ Ext h h' := by
 obtain ⟨vdX, vmX, vvX, rfl, hdX, hmX, hvX⟩ := rX
 have hledX := RdS.le hdX
 have hlemX := RdS.le hmX
 have hlevX := RdS.le hvX
 have hC := hF.c
 have hlC := hC.len
 have hln := hF.ln
 have hdb := dimP_bnd hC n
 refine callA_intro TTok (args := [_, _, _]) Try.func78 (by kernel_rfl) rfl 29 rfl (by simp) [.tmp 6] rfl ?_
 simp only [idxs, Nat.reduceAdd]
 refine den_seq ?_
 refine den_region TTok ?_
 intro K hK
 simp -implicitDefEqProofs (disch := first | decide | assumption | omega) only [go_sem, RdS.len hdX sl22, RdS.idx hdX sl22, R1.intB hdX (HPres.refl _), RdS.cells hdX, RdS.len hmX sl23, RdS.idx hmX sl23, RdS.cellB hmX (HPres.refl _), RdS.cells hmX, RdS.len hvX sl26, RdS.idx hvX sl26, RdS.cellB hvX (HPres.refl _), RdS.cells hvX, wrap_id]
 refine op_box (cs := #[.int .i64 (X.c.p), vdX, vmX, vvX]) rfl ?_
 intro h0_0 e0_0 hb0_0 z0_0
 have := Ext.size e0_0
 have eB := e0_0
 have hfhb0_0 : Fresh h.size [h.size] := Fresh.one _
 have hlhb0_0 := one_lt (show h.size < h0_0.size by omega)
 try simp -implicitDefEqProofs (disch := first | decide | assumption | omega) only [go_sem, RdS.len hdX sl22, RdS.idx hdX sl22, R1.intB hdX (Ext.pres eB), RdS.cells hdX, RdS.len hmX sl23, RdS.idx hmX sl23, RdS.cellB hmX (Ext.pres eB), RdS.cells hmX, RdS.len hvX sl26, RdS.idx hvX sl26, RdS.cellB hvX (Ext.pres eB), RdS.cells hvX, BoxAt.cell hb0_0, wrap_id]
 refine hK _ _ ?_
 clear hK K
 refine den_seq ?_
 refine den_region TTok ?_
 intro K hK
 simp -implicitDefEqProofs (disch := first | decide | assumption | omega) only [go_sem, RdS.len hdX sl22, RdS.idx hdX sl22, R1.intB hdX (Ext.pres eB), RdS.cells hdX, RdS.len hmX sl23, RdS.idx hmX sl23, RdS.cellB hmX (Ext.pres eB), RdS.cells hmX, RdS.len hvX sl26, RdS.idx hvX sl26, RdS.cellB hvX (Ext.pres eB), RdS.cells hvX, BoxAt.cell hb0_0, wrap_id]
 refine op_bs0 sz22 OI ?_
 intro v1_0 h1_0 ho1_0 e1_0
 replace hb0_0 := BoxAt.ext hb0_0 e1_0
 have := Ext.size e1_0
 replace eB := Ext.trans eB e1_0
 have hfho1_0 : Fresh h0_0.size [h0_0.size] := Fresh.one _
 have hlho1_0 := OS.lt ho1_0
 try simp -implicitDefEqProofs (disch := first | decide | assumption | omega) only [go_sem, RdS.len hdX sl22, RdS.idx hdX sl22, R1.intB hdX (Ext.pres eB), RdS.cells hdX, RdS.len hmX sl23, RdS.idx hmX sl23, RdS.cellB hmX (Ext.pres eB), RdS.cells hmX, RdS.len hvX sl26, RdS.idx hvX sl26, RdS.cellB hvX (Ext.pres eB), RdS.cells hvX, RdS.len (OS.rd ho1_0) sl22, RdS.idx (OS.rd ho1_0) sl22, R1.intN (OS.rd ho1_0), RdS.cells (OS.rd ho1_0), BoxAt.cell hb0_0, wrap_id]
 refine hK _ _ ?_
 clear hK K
 refine den_seq ?_
 refine den_seq ?_
 refine den_region TTok ?_
 intro K hK
 simp -implicitDefEqProofs (disch := first | decide | assumption | omega) only [go_sem, RdS.len hdX sl22, RdS.idx hdX sl22, R1.intB hdX (Ext.pres eB), RdS.cells hdX, RdS.len hmX sl23, RdS.idx hmX sl23, RdS.cellB hmX (Ext.pres eB), RdS.cells hmX, RdS.len hvX sl26, RdS.idx hvX sl26, RdS.cellB hvX (Ext.pres eB), RdS.cells hvX, RdS.len (OS.rd ho1_0) sl22, RdS.idx (OS.rd ho1_0) sl22, R1.intN (OS.rd ho1_0), RdS.cells (OS.rd ho1_0), BoxAt.cell hb0_0, wrap_id]
 refine hK _ _ ?_
 clear hK K
 refine den_block ?_
 refine den_sel [7, 8, 1, 2, 3] ?_
 intro env_1
 simp only [go_sem]
 refine den_loopS (σ := Nat × Value × List Nat) (fun st_ => [(7, st_.2.1), (8, .int .i64 (st_.1 : Int))]) (fun st_ H => ((st_.1 : Int) ≤ dimP X.c n) ∧ (O1 H st_.2.1 (keptT X n q st_.1) st_.2.2) ∧ (Fresh (h0_0.size) st_.2.2) ∧ (Sub [h0_0.size] h1_0.size st_.2.2) ∧ (Chg [h0_0.size] h1_0 H)) (fun st_ => (dimP X.c n).toNat - st_.1) (0, v1_0, [h0_0.size]) ?_ ?_
 ·exact ⟨by first | (simp; done) | (dsimp only; omega) | (simp; omega), by show O1 _ _ [] _; exact ho1_0, hfho1_0, Sub.refl, Chg.refl _ _⟩
 ·rintro ⟨i, vhO, fphO⟩ h4 ee3 ⟨hi0, hO, hfhO, sbhO, cL2⟩
  dsimp only at hi0 hO hfhO sbhO cL2
  replace hb0_0 := BoxAt.chgA hb0_0 cL2 (apart_lt hlhb0_0 hfho1_0 (by omega))
  have := cL2.size
  replace eB := Ext.then eB cL2 (ge_of hfho1_0 (by omega))
  have hlhO := OS.lt hO
  simp only [List.cons_append, List.nil_append]
  have hkl := keptT_len X n q i
  refine den_seq ?_
  refine den_seq ?_
  refine den_region TTok ?_
  intro K hK
  simp -implicitDefEqProofs (disch := first | decide | assumption | omega) only [go_sem, fa33_0, ld31, RdS.len hdX sl22, RdS.idx hdX sl22, R1.intB hdX (Ext.pres eB), RdS.cells hdX, RdS.len hmX sl23, RdS.idx hmX sl23, RdS.cellB hmX (Ext.pres eB), RdS.cells hmX, RdS.len hvX sl26, RdS.idx hvX sl26, RdS.cellB hvX (Ext.pres eB), RdS.cells hvX, RdS.len (OS.rd hO) sl22, RdS.idx (OS.rd hO) sl22, R1.intN (OS.rd hO), RdS.cells (OS.rd hO), BoxAt.cell hb0_0, wrap_id]
  try simp -implicitDefEqProofs (disch := first | decide | assumption | omega) only [go_sem, RdS.len hdX sl22, RdS.idx hdX sl22, R1.intB hdX (Ext.pres eB), RdS.cells hdX, RdS.len hmX sl23, RdS.idx hmX sl23, RdS.cellB hmX (Ext.pres eB), RdS.cells hmX, RdS.len hvX sl26, RdS.idx hvX sl26, RdS.cellB hvX (Ext.pres eB), RdS.cells hvX, RdS.len (OS.rd hO) sl22, RdS.idx (OS.rd hO) sl22, R1.intN (OS.rd hO), RdS.cells (OS.rd hO), BoxAt.cell hb0_0, wrap_id]
  refine CallA.mono (sDim_ok _ X.c _ _ ⟨_, _, rfl, (RdS.pres hdX (Ext.pres eB)), (RdS.pres hmX (Ext.pres eB))⟩) ?_
  intro v_ h3_4
  rintro ⟨rfl, e3_4⟩
  replace hO := OS.ext hO e3_4
  replace hb0_0 := BoxAt.ext hb0_0 e3_4
  have := Ext.size e3_4
  replace eB := Ext.trans eB e3_4
  replace cL2 := Chg.stepE cL2 e3_4
  try simp -implicitDefEqProofs (disch := first | decide | assumption | omega) only [go_sem, RdS.len hdX sl22, RdS.idx hdX sl22, R1.intB hdX (Ext.pres eB), RdS.cells hdX, RdS.len hmX sl23, RdS.idx hmX sl23, RdS.cellB hmX (Ext.pres eB), RdS.cells hmX, RdS.len hvX sl26, RdS.idx hvX sl26, RdS.cellB hvX (Ext.pres eB), RdS.cells hvX, RdS.len (OS.rd hO) sl22, RdS.idx (OS.rd hO) sl22, R1.intN (OS.rd hO), RdS.cells (OS.rd hO), BoxAt.cell hb0_0, wrap_id]
  refine hK _ _ ?_
  clear hK K
  refine den_cond rfl (fun c0 => ?_) (fun c0 => ?_)
  ·try simp only [decide_eq_true_eq, decide_eq_false_iff_not, beq_iff_eq, beq_eq_false_iff_ne, bne_iff_ne, ne_eq, Bool.not_eq_true', Bool.not_eq_false', Bool.and_eq_true, Bool.or_eq_true, bne_eq_false_iff_eq] at c0
   refine den_skip ?_
   refine den_seq ?_
   refine den_block ?_
   refine den_seq ?_
   have hnr : 0 ≤ n ∧ n < X.c.dims.length := by
    have := c0
    unfold dimP at this
    split at this
    ·rename_i h; rw [in3_iff] at h; omega
    ·omega
   have hdm := hF.dim hnr.1 hnr.2
   have hlv1 : 0 ≤ (i : Int) ∧ (i : Int) < ((X.lv.getD n.toNat default).length : Int) := by omega
   refine den_region TTok ?_
   intro K hK
   simp -implicitDefEqProofs (disch := first | decide | assumption | omega) only [go_sem, ld33, RdS.len hdX sl22, RdS.idx hdX sl22, R1.intB hdX (Ext.pres eB), RdS.cells hdX, RdS.len hmX sl23, RdS.idx hmX sl23, RdS.cellB hmX (Ext.pres eB), RdS.cells hmX, RdS.len hvX sl26, RdS.idx hvX sl26, RdS.cellB hvX (Ext.pres eB), RdS.cells hvX, RdS.len (OS.rd hO) sl22, RdS.idx (OS.rd hO) sl22, R1.intN (OS.rd hO), RdS.cells (OS.rd hO), BoxAt.cell hb0_0, wrap_id]
   try simp -implicitDefEqProofs (disch := first | decide | assumption | omega) only [go_sem, RdS.len hdX sl22, RdS.idx hdX sl22, R1.intB hdX (Ext.pres eB), RdS.cells hdX, RdS.len hmX sl23, RdS.idx hmX sl23, RdS.cellB hmX (Ext.pres eB), RdS.cells hmX, RdS.len hvX sl26, RdS.idx hvX sl26, RdS.cellB hvX (Ext.pres eB), RdS.cells hvX, RdS.len (OS.rd hO) sl22, RdS.idx (OS.rd hO) sl22, R1.intN (OS.rd hO), RdS.cells (OS.rd hO), BoxAt.cell hb0_0, wrap_id]
   refine CallA.mono (sLev_ok _ X n (i : Int) _ ⟨_, _, _, rfl, (RdS.pres hdX (Ext.pres eB)), (RdS.pres hmX (Ext.pres eB)), (RdS.pres hvX (Ext.pres eB))⟩ (by omega) hlv1) ?_
   intro v_ h5_3
   rintro ⟨rfl, e5_3⟩
   replace hO := OS.ext hO e5_3
   replace hb0_0 := BoxAt.ext hb0_0 e5_3
   have := Ext.size e5_3
   replace eB := Ext.trans eB e5_3
   replace cL2 := Chg.stepE cL2 e5_3
   try simp -implicitDefEqProofs (disch := first | decide | assumption | omega) only [go_sem, RdS.len hdX sl22, RdS.idx hdX sl22, R1.intB hdX (Ext.pres eB), RdS.cells hdX, RdS.len hmX sl23, RdS.idx hmX sl23, RdS.cellB hmX (Ext.pres eB), RdS.cells hmX, RdS.len hvX sl26, RdS.idx hvX sl26, RdS.cellB hvX (Ext.pres eB), RdS.cells hvX, RdS.len (OS.rd hO) sl22, RdS.idx (OS.rd hO) sl22, R1.intN (OS.rd hO), RdS.cells (OS.rd hO), BoxAt.cell hb0_0, wrap_id]
   refine hK _ _ ?_
   clear hK K
   refine den_cond rfl (fun c1 => ?_) (fun c1 => ?_)
   ·try simp only [decide_eq_true_eq, decide_eq_false_iff_not, beq_iff_eq, beq_eq_false_iff_ne, bne_iff_ne, ne_eq, Bool.not_eq_true', Bool.not_eq_false', Bool.and_eq_true, Bool.or_eq_true, bne_eq_false_iff_eq] at c1
    refine den_region TTok ?_
    intro K hK
    simp -implicitDefEqProofs (disch := first | decide | assumption | omega) only [go_sem, RdS.len hdX sl22, RdS.idx hdX sl22, R1.intB hdX (Ext.pres eB), RdS.cells hdX, RdS.len hmX sl23, RdS.idx hmX sl23, RdS.cellB hmX (Ext.pres eB), RdS.cells hmX, RdS.len hvX sl26, RdS.idx hvX sl26, RdS.cellB hvX (Ext.pres eB), RdS.cells hvX, RdS.len (OS.rd hO) sl22, RdS.idx (OS.rd hO) sl22, R1.intN (OS.rd hO), RdS.cells (OS.rd hO), BoxAt.cell hb0_0, wrap_id]
    refine op_bs1 sz22 rfl rfl ?_
    try simp -implicitDefEqProofs (disch := first | decide | assumption | omega) only [go_sem, RdS.len hdX sl22, RdS.idx hdX sl22, R1.intB hdX (Ext.pres eB), RdS.cells hdX, RdS.len hmX sl23, RdS.idx hmX sl23, RdS.cellB hmX (Ext.pres eB), RdS.cells hmX, RdS.len hvX sl26, RdS.idx hvX sl26, RdS.cellB hvX (Ext.pres eB), RdS.cells hvX, RdS.len (OS.rd hO) sl22, RdS.idx (OS.rd hO) sl22, R1.intN (OS.rd hO), RdS.cells (OS.rd hO), BoxAt.cell hb0_0, wrap_id]
    refine op_append1 sz22 hO hfhO.nodup ⟨rfl, rfl⟩ List.nodup_nil (Apart.nil _) (by first | omega | (simp; omega)) rfl rfl ?_
    intro v6_3 h6_3 fp6_3 ho6_3 hn6_3 hs6_3 c6_3
    have hsz6_3 := c6_3.size
    have hfho6_3 : Fresh h0_0.size fp6_3 := Fresh.appd hfhO (Fresh.nil h5_3.size) (by omega) (by omega) hn6_3 hs6_3
    have sb5 : Sub [h0_0.size] h1_0.size fp6_3 := Sub.grow sbhO Sub.nil (by omega) hs6_3
    replace hb0_0 := BoxAt.chgA hb0_0 c6_3 (apart_lt hlhb0_0 hfhO (by omega))
    have := c6_3.size
    replace eB := Ext.then eB c6_3 (ge_of hfhO (by omega))
    replace cL2 := Chg.step cL2 c6_3 sbhO
    have hlho6_3 := OS.lt ho6_3
    try simp -implicitDefEqProofs (disch := first | decide | assumption | omega) only [go_sem, RdS.len hdX sl22, RdS.idx hdX sl22, R1.intB hdX (Ext.pres eB), RdS.cells hdX, RdS.len hmX sl23, RdS.idx hmX sl23, RdS.cellB hmX (Ext.pres eB), RdS.cells hmX, RdS.len hvX sl26, RdS.idx hvX sl26, RdS.cellB hvX (Ext.pres eB), RdS.cells hvX, RdS.len (OS.rd ho6_3) sl22, RdS.idx (OS.rd ho6_3) sl22, R1.intN (OS.rd ho6_3), RdS.cells (OS.rd ho6_3), BoxAt.cell hb0_0, wrap_id]
    refine hK _ _ ?_
    clear hK K
    refine den_blk ?_
    refine den_region TTok ?_
    intro K hK
    simp -implicitDefEqProofs (disch := first | decide | assumption | omega) only [go_sem, RdS.len hdX sl22, RdS.idx hdX sl22, R1.intB hdX (Ext.pres eB), RdS.cells hdX, RdS.len hmX sl23, RdS.idx hmX sl23, RdS.cellB hmX (Ext.pres eB), RdS.cells hmX, RdS.len hvX sl26, RdS.idx hvX sl26, RdS.cellB hvX (Ext.pres eB), RdS.cells hvX, RdS.len (OS.rd ho6_3) sl22, RdS.idx (OS.rd ho6_3) sl22, R1.intN (OS.rd ho6_3), RdS.cells (OS.rd ho6_3), BoxAt.cell hb0_0, wrap_id]
    refine hK _ _ ?_
    clear hK K
    refine den_stop ?_
    first | rw [keptT_yes c1] at ho6_3 | rw [keptT_no c1] at ho6_3
    exact ⟨(i + 1, v6_3, fp6_3), by simp [HasL, puts_at], ⟨by first | omega | (dsimp only; omega), ho6_3, hfho6_3, sb5, cL2⟩, by first | omega | (dsimp only; omega)⟩
   ·try simp only [decide_eq_true_eq, decide_eq_false_iff_not, beq_iff_eq, beq_eq_false_iff_ne, bne_iff_ne, ne_eq, Bool.not_eq_true', Bool.not_eq_false', Bool.and_eq_true, Bool.or_eq_true, bne_eq_false_iff_eq] at c1
    refine den_skip ?_
    refine den_blk ?_
    refine den_region TTok ?_
    intro K hK
    simp -implicitDefEqProofs (disch := first | decide | assumption | omega) only [go_sem, RdS.len hdX sl22, RdS.idx hdX sl22, R1.intB hdX (Ext.pres eB), RdS.cells hdX, RdS.len hmX sl23, RdS.idx hmX sl23, RdS.cellB hmX (Ext.pres eB), RdS.cells hmX, RdS.len hvX sl26, RdS.idx hvX sl26, RdS.cellB hvX (Ext.pres eB), RdS.cells hvX, RdS.len (OS.rd hO) sl22, RdS.idx (OS.rd hO) sl22, R1.intN (OS.rd hO), RdS.cells (OS.rd hO), BoxAt.cell hb0_0, wrap_id]
    refine hK _ _ ?_
    clear hK K
    refine den_stop ?_
    first | rw [keptT_yes c1] at hO | rw [keptT_no c1] at hO
    exact ⟨(i + 1, vhO, fphO), by simp [HasL, puts_at], ⟨by first | omega | (dsimp only; omega), hO, hfhO, sbhO, cL2⟩, by first | omega | (dsimp only; omega)⟩
  ·try simp only [decide_eq_true_eq, decide_eq_false_iff_not, beq_iff_eq, beq_eq_false_iff_ne, bne_iff_ne, ne_eq, Bool.not_eq_true', Bool.not_eq_false', Bool.and_eq_true, Bool.or_eq_true, bne_eq_false_iff_eq] at c0
   refine den_exit ?_
   refine denX_code ?_
   refine denX_stop ?_
   refine denX_hit ?_
   refine den_seq ?_
   refine den_region TTok ?_
   intro K hK
   simp -implicitDefEqProofs (disch := first | decide | assumption | omega) only [go_sem, RdS.len hdX sl22, RdS.idx hdX sl22, R1.intB hdX (Ext.pres eB), RdS.cells hdX, RdS.len hmX sl23, RdS.idx hmX sl23, RdS.cellB hmX (Ext.pres eB), RdS.cells hmX, RdS.len hvX sl26, RdS.idx hvX sl26, RdS.cellB hvX (Ext.pres eB), RdS.cells hvX, RdS.len (OS.rd hO) sl22, RdS.idx (OS.rd hO) sl22, R1.intN (OS.rd hO), RdS.cells (OS.rd hO), wrap_id]
   refine hK _ _ ?_
   clear hK K
   refine den_ret ?_
   simp (disch := decide) only [resP_1, puts_same, puts_ne]
   rw [show i = (dimP X.c n).toNat by omega] at hO
   exact ⟨_, _, rfl, hO, hfhO.mono (by omega), eB⟩
end Go.Proofs.Ytjjjgllbocgkbaa

namespace Go.Proofs.Ytjjjgllbocgkbaa
open Go
def lessRow (p k : Int) (a b : List Int) : List Int := (List.range a.length).map fun q : Nat => (a.getD q 0 - k * b.getD q 0) % p
end Go.Proofs.Ytjjjgllbocgkbaa

namespace Go.Proofs.Ytjjjgllbocgkbaa
open Go
/-- Congruence modulo p. -/
def Cg (p a b : Int) : Prop := a % p = b % p
theorem Cg.refl {p : Int} (a : Int) : Cg p a a := rfl
theorem Cg.symm {p a b : Int} (h : Cg p a b) : Cg p b a := Eq.symm h
theorem Cg.trans {p a b c : Int} (h : Cg p a b) (k : Cg p b c) : Cg p a c := Eq.trans h k
theorem Cg.add {p a b c d : Int} (h : Cg p a b) (k : Cg p c d) : Cg p (a + c) (b + d) := by
 unfold Cg at *; rw [Int.add_emod, h, k, ← Int.add_emod]
theorem Cg.mul {p a b c d : Int} (h : Cg p a b) (k : Cg p c d) : Cg p (a * c) (b * d) := by
 unfold Cg at *; rw [Int.mul_emod, h, k, ← Int.mul_emod]
theorem Cg.neg {p a b : Int} (h : Cg p a b) : Cg p (-a) (-b) := by
 have := Cg.mul (Cg.refl (p := p) (-1)) h
 rwa [Int.neg_one_mul, Int.neg_one_mul] at this
theorem Cg.sub {p a b c d : Int} (h : Cg p a b) (k : Cg p c d) : Cg p (a - c) (b - d) := by
 rw [Int.sub_eq_add_neg, Int.sub_eq_add_neg]; exact h.add k.neg
theorem Cg.mod {p : Int} (a : Int) : Cg p (a % p) a := Int.emod_emod a p
theorem Cg.eq {p a b : Int} (h : Cg p a b) (ha : 0 ≤ a ∧ a < p) (hb : 0 ≤ b ∧ b < p) : a = b := by
 unfold Cg at h
 rwa [Int.emod_eq_of_lt ha.1 ha.2, Int.emod_eq_of_lt hb.1 hb.2] at h
theorem Cg.of_eq {p a b : Int} (h : a = b) : Cg p a b := by rw [h]; exact Cg.refl _
/-- A sum. -/
def sm : Nat → (Nat → Int) → Int
 | 0, _ => 0
 | n + 1, f => sm n f + f n
theorem sm_cg {p : Int} : ∀ {n : Nat} {f g : Nat → Int}, (∀ i, i < n → Cg p (f i) (g i)) → Cg p (sm n f) (sm n g)
 | 0, _, _, _ => Cg.refl _
 | n + 1, f, g, h => (sm_cg (n := n) fun i hi => h i (by omega)).add (h n (by omega))
theorem sm_zero : ∀ {n : Nat} {f : Nat → Int}, (∀ i, i < n → f i = 0) → sm n f = 0
 | 0, _, _ => rfl
 | n + 1, f, h => by rw [sm, sm_zero (n := n) fun i hi => h i (by omega), h n (by omega)]; rfl
theorem sm_add : ∀ (n : Nat) (f g : Nat → Int), sm n (fun i => f i + g i) = sm n f + sm n g
 | 0, _, _ => rfl
 | n + 1, f, g => by simp only [sm]; rw [sm_add n f g]; omega
theorem sm_mul : ∀ (n : Nat) (k : Int) (f : Nat → Int), sm n (fun i => k * f i) = k * sm n f
 | 0, _, _ => by simp [sm]
 | n + 1, k, f => by simp only [sm]; rw [sm_mul n k f, Int.mul_add]
theorem sm_one : ∀ {n k : Nat} {f : Nat → Int}, k < n → (∀ i, i < n → i ≠ k → f i = 0) → sm n f = f k
 | n + 1, k, f, hk, h => by
  rw [sm]
  by_cases e : k = n
  ·subst e; rw [sm_zero fun i hi => h i (by omega) (by omega), Int.zero_add]
  ·rw [sm_one (n := n) (k := k) (by omega) fun i hi he => h i (by omega) he, h n (by omega) (fun e' => e e'.symm), Int.add_zero]
abbrev g2 (L : List (List Int)) (i j : Nat) : Int := (L.getD i default).getD j 0
/-- v is a sum of multiples of the rows of L, modulo p. -/
def Sp (p : Int) (L : List (List Int)) (v : Nat → Int) : Prop := ∃ c : Nat → Int, ∀ j, Cg p (v j) (sm L.length fun i => c i * g2 L i j)
theorem Sp.row {p : Int} {L : List (List Int)} {i : Nat} (hi : i < L.length) : Sp p L (g2 L i) :=
 ⟨fun k => if k = i then 1 else 0, fun j => by
  rw [sm_one (k := i) hi (fun k _ hk => by simp [hk])]
  simp only [if_true, Int.one_mul]; exact Cg.refl _⟩
theorem Sp.zero {p : Int} {L : List (List Int)} : Sp p L fun _ => 0 := ⟨fun _ => 0, fun j => by rw [sm_zero fun i _ => Int.zero_mul _]; exact Cg.refl _⟩
theorem Sp.add {p : Int} {L : List (List Int)} {v w : Nat → Int} : Sp p L v → Sp p L w → Sp p L fun j => v j + w j
 | ⟨c, hc⟩, ⟨d, hd⟩ => ⟨fun i => c i + d i, fun j => by
  rw [show (fun i => (c i + d i) * g2 L i j) = fun i => c i * g2 L i j + d i * g2 L i j from funext fun i => Int.add_mul _ _ _, sm_add]
  exact (hc j).add (hd j)⟩
theorem Sp.mul {p : Int} {L : List (List Int)} {v : Nat → Int} (k : Int) : Sp p L v → Sp p L fun j => k * v j
 | ⟨c, hc⟩ => ⟨fun i => k * c i, fun j => by
  rw [show (fun i => k * c i * g2 L i j) = fun i => k * (c i * g2 L i j) from funext fun i => Int.mul_assoc _ _ _, sm_mul]
  exact (Cg.refl k).mul (hc j)⟩
theorem Sp.cg {p : Int} {L : List (List Int)} {v w : Nat → Int} (h : ∀ j, Cg p (w j) (v j)) : Sp p L v → Sp p L w
 | ⟨c, hc⟩ => ⟨c, fun j => (h j).trans (hc j)⟩
theorem Sp.sub {p : Int} {L : List (List Int)} {v w : Nat → Int} (k : Int) (h1 : Sp p L v) (h2 : Sp p L w) : Sp p L fun j => v j - k * w j :=
 (h1.add (h2.mul (-k))).cg fun j => Cg.of_eq (by rw [Int.neg_mul]; omega)
/-- All rows of A are in the span of B. -/
def Le (p : Int) (A B : List (List Int)) : Prop := ∀ i, i < A.length → Sp p B (g2 A i)
theorem Sp.sm {p : Int} {B : List (List Int)} {v : Nat → Nat → Int} : ∀ {n : Nat} (_ : ∀ i, i < n → Sp p B (v i)) (c : Nat → Int), Sp p B fun j => sm n fun i => c i * v i j
 | 0, _, _ => Sp.zero
 | n + 1, h, c => (Sp.sm (n := n) (fun i hi => h i (by omega)) c).add ((h n (by omega)).mul (c n))
theorem Sp.le {p : Int} {A B : List (List Int)} {v : Nat → Int} (h : Le p A B) : Sp p A v → Sp p B v
 | ⟨c, hc⟩ => (Sp.sm h c).cg hc
theorem Le.refl {p : Int} {A : List (List Int)} : Le p A A := fun _ hi => Sp.row hi
theorem Le.trans {p : Int} {A B C : List (List Int)} (h : Le p A B) (k : Le p B C) : Le p A C := fun i hi => (h i hi).le k
def Eqv (p : Int) (A B : List (List Int)) : Prop := Le p A B ∧ Le p B A
theorem Eqv.refl {p : Int} {A : List (List Int)} : Eqv p A A := ⟨Le.refl, Le.refl⟩
theorem Eqv.symm {p : Int} {A B : List (List Int)} (h : Eqv p A B) : Eqv p B A := ⟨h.2, h.1⟩
theorem Eqv.trans {p : Int} {A B C : List (List Int)} (h : Eqv p A B) (k : Eqv p B C) : Eqv p A C := ⟨h.1.trans k.1, k.2.trans h.2⟩
/-- L is reduced: its rows begin with a 1 at the places l, from left to right, and have 0 at the others' places. -/
structure Rr (p : Int) (w : Nat) (L : List (List Int)) (l : Nat → Nat) : Prop where
 len : ∀ i, i < L.length → (L.getD i default).length = w
 bnd : ∀ i, i < L.length → Bnd p (L.getD i default)
 lt : ∀ i, i < L.length → l i < w
 one : ∀ i, i < L.length → g2 L i (l i) = 1
 zb : ∀ i j, i < L.length → j < l i → g2 L i j = 0
 inc : ∀ i k, i < k → k < L.length → l i < l k
 cl : ∀ i k, i < L.length → k < L.length → k ≠ i → g2 L k (l i) = 0
theorem g2_out {L : List (List Int)} {i j : Nat} (h : (L.getD i default).length ≤ j) : g2 L i j = 0 := by
 rw [g2, List.getD_eq_getElem?_getD, List.getElem?_eq_none h]; rfl
theorem Rr.coef {p : Int} {w : Nat} {L : List (List Int)} {l : Nat → Nat} (r : Rr p w L l) {v : Nat → Int} : Sp p L v → ∀ j, Cg p (v j) (sm L.length fun i => v (l i) * g2 L i j)
 | ⟨c, hc⟩ => fun j => (hc j).trans (sm_cg fun i hi => Cg.mul (Cg.symm ((hc (l i)).trans (Cg.of_eq (by
  rw [sm_one (k := i) hi (fun k hk he => by rw [r.cl i k hi hk he, Int.mul_zero]), r.one i hi, Int.mul_one])))) (Cg.refl _))
theorem rows_ext {A B : List (List Int)} (hl : A.length = B.length) (hr : ∀ i, i < A.length → (A.getD i default).length = (B.getD i default).length) (h : ∀ i j, i < A.length → j < (A.getD i default).length → g2 A i j = g2 B i j) : A = B := by
 apply List.ext_getElem hl
 intro i h1 h2
 have e1 : A.getD i default = A[i] := by rw [List.getD_eq_getElem?_getD, List.getElem?_eq_getElem h1]; rfl
 have e2 : B.getD i default = B[i] := by rw [List.getD_eq_getElem?_getD, List.getElem?_eq_getElem h2]; rfl
 have hri := hr i h1
 have hi := h i
 simp only [g2] at hi
 rw [e1, e2] at hri hi
 apply List.ext_getElem hri
 intro j k1 k2
 have := hi j h1 k1
 rwa [List.getD_eq_getElem?_getD, List.getD_eq_getElem?_getD, List.getElem?_eq_getElem k1, List.getElem?_eq_getElem k2] at this
/-- With the same places, a reduced list in the span of another one is that one. -/
theorem Rr.same {p : Int} {w : Nat} {L M : List (List Int)} {l m : Nat → Nat} (r : Rr p w L l) (s : Rr p w M m) (hlen : L.length = M.length) (hlm : ∀ k, k < L.length → m k = l k) (h : Le p L M) : L = M := by
 refine rows_ext hlen (fun i hi => by rw [r.len i hi, s.len i (by omega)]) (fun i j hi hj => ?_)
 have hc := s.coef (h i hi) j
 have e : sm M.length (fun k => g2 L i (m k) * g2 M k j) = g2 M i j := by
  rw [sm_one (k := i) (by omega) (fun k hk he => by rw [hlm k (by omega), r.cl k i (by omega) hi (Ne.symm he), Int.zero_mul]), hlm i hi, r.one i hi, Int.one_mul]
 rw [e] at hc
 rw [r.len i hi] at hj
 exact hc.eq ((r.bnd i hi).at (by rw [r.len i hi]; exact hj)) ((s.bnd i (by omega)).at (by rw [s.len i (by omega)]; exact hj))
theorem Rr.nil {p : Int} {w : Nat} {l : Nat → Nat} : Rr p w [] l := ⟨fun i h => by simp at h, fun i h => by simp at h, fun i h => by simp at h, fun i h => by simp at h, fun i j h => by simp at h, fun i k _ h => by simp at h, fun i k h => by simp at h⟩
theorem lessRow_len (p k : Int) (a b : List Int) : (lessRow p k a b).length = a.length := by simp [lessRow]
theorem lessRow_get (p k : Int) {a b : List Int} {c : Nat} (h : c < a.length) : (lessRow p k a b).getD c 0 = (a.getD c 0 - k * b.getD c 0) % p := getD_map_range (α := Int) (fun q : Nat => (a.getD q 0 - k * b.getD q 0) % p) h
theorem getD_out {xs : List Int} {j : Nat} (h : xs.length ≤ j) : xs.getD j 0 = 0 := by rw [List.getD_eq_getElem?_getD, List.getElem?_eq_none h]; rfl
theorem lessRow_cg (p k : Int) {a b : List Int} (hl : b.length ≤ a.length) (j : Nat) : Cg p ((lessRow p k a b).getD j 0) (a.getD j 0 - k * b.getD j 0) := by
 rcases Nat.lt_or_ge j a.length with h | h
 ·rw [lessRow_get p k h]; exact Cg.mod _
 ·rw [getD_out (by rw [lessRow_len]; exact h), getD_out h, getD_out (by omega), Int.mul_zero]; exact Cg.refl _
theorem bnd_map {p : Int} (hp : 0 < p) (f : Nat → Int) (n : Nat) : Bnd p ((List.range n).map fun q => f q % p) := fun x hx => by
 obtain ⟨q, _, rfl⟩ := List.mem_map.1 hx
 exact ⟨Int.emod_nonneg _ (by omega), Int.emod_lt_of_pos _ hp⟩
theorem lessRow_bnd {p : Int} (hp : 0 < p) (k : Int) (a b : List Int) : Bnd p (lessRow p k a b) := bnd_map hp _ _
section
variable {p : Int} {w : Nat} {L : List (List Int)} {l : Nat → Nat}
/-- In the span of a reduced list, nothing but 0 has 0 at all its places. -/
theorem Rr.zero (r : Rr p w L l) {v : Nat → Int} (h : Sp p L v) (hz : ∀ i, i < L.length → Cg p (v (l i)) 0) (j : Nat) : Cg p (v j) 0 :=
 (r.coef h j).trans ((sm_cg (g := fun _ => 0) fun i hi => ((hz i hi).mul (Cg.refl _)).trans (Cg.of_eq (Int.zero_mul _))).trans (Cg.of_eq (sm_zero fun _ _ => rfl)))
end
theorem isP_two {p : Int} (h : isP p = true) : 1 < p ∧ p ≤ 7 := by
 simp only [isP, Bool.or_eq_true, beq_iff_eq] at h; omega
section
variable {p : Int} {w : Nat} {L : List (List Int)} {l : Nat → Nat} {own : List Int} {at_ : Nat}
structure OwnOk (p : Int) (w : Nat) (L : List (List Int)) (l : Nat → Nat) (own : List Int) (at_ : Nat) : Prop where
 len : own.length = w
 bnd : Bnd p own
 lt : at_ < w
 one : own.getD at_ 0 = 1
 zb : ∀ j, j < at_ → own.getD j 0 = 0
 cl : ∀ i, i < L.length → own.getD (l i) 0 = 0
theorem Sp.at {L : List (List Int)} {i : Nat} {r : List Int} (hi : i < L.length) (e : L.getD i default = r) : Sp p L fun j => r.getD j 0 := by
 have := Sp.row (p := p) hi
 subst e; exact this
/-- So far, a list is the reduced one of some rows. -/
def Red (p : Int) (w : Nat) (L rows : List (List Int)) : Prop := (∃ l, Rr p w L l) ∧ Eqv p L rows
theorem Red.nil : Red p w [] [] := ⟨⟨fun i => i, Rr.nil⟩, Eqv.refl⟩
end
def clrP (p : Int) (d c : Nat) (M : List (List Int)) (n : Nat) : List (List Int) := (List.range M.length).map fun i => if i < n ∧ i ≠ d then lessRow p (g2 M i c) (M.getD i default) (M.getD d default) else M.getD i default
theorem clrP_len (p : Int) (d c : Nat) (M : List (List Int)) (n : Nat) : (clrP p d c M n).length = M.length := by simp [clrP]
theorem clrP_get {p : Int} {d c : Nat} {M : List (List Int)} {n i : Nat} (hi : i < M.length) : (clrP p d c M n).getD i default = if i < n ∧ i ≠ d then lessRow p (g2 M i c) (M.getD i default) (M.getD d default) else M.getD i default := getD_map_range (α := List Int) (fun i : Nat => if i < n ∧ i ≠ d then lessRow p (g2 M i c) (M.getD i default) (M.getD d default) else M.getD i default) hi
section
variable {p : Int} {w : Nat} {rows M : List (List Int)} {l : Nat → Nat} {d c : Nat}
/-- The program's reduction behind c columns, of which d have brought a row. -/
structure RI (p : Int) (w : Nat) (rows M : List (List Int)) (l : Nat → Nat) (d c : Nat) : Prop where
 ln : M.length = rows.length
 len : ∀ i, i < M.length → (M.getD i default).length = w
 bnd : ∀ i, i < M.length → Bnd p (M.getD i default)
 eqv : Eqv p M rows
 dl : d ≤ M.length
 lt : ∀ i, i < d → l i < c
 one : ∀ i, i < d → g2 M i (l i) = 1
 zb : ∀ i j, i < d → j < l i → g2 M i j = 0
 inc : ∀ i k, i < k → k < d → l i < l k
 cl : ∀ i k, i < d → k < M.length → k ≠ i → g2 M k (l i) = 0
 nul : ∀ k j, d ≤ k → k < M.length → j < c → g2 M k j = 0
theorem RI.clear (hP : isP p = true) (r : RI p w rows M l d c) (hd : d < M.length) (hc : c < w) (h1 : g2 M d c = 1) : RI p w rows (clrP p d c M M.length) (fun i => if i = d then c else l i) (d + 1) (c + 1) := by
 have hp := isP_two hP
 have hl := clrP_len p d c M M.length
 have gt := fun {i : Nat} (hi : i < M.length) => clrP_get (p := p) (d := d) (c := c) (n := M.length) hi
 have gd : ∀ j, g2 (clrP p d c M M.length) d j = g2 M d j := fun j => by rw [g2, gt hd, if_neg (by omega)]
 have gn : ∀ i j, i < M.length → i ≠ d → j < w → g2 (clrP p d c M M.length) i j = (g2 M i j - g2 M i c * g2 M d j) % p := fun i j hi hne hj => by
  rw [g2, gt hi, if_pos ⟨hi, hne⟩, lessRow_get p _ (by rw [r.len i hi]; exact hj)]
 have cg : ∀ i j, i < M.length → i ≠ d → Cg p (g2 (clrP p d c M M.length) i j) (g2 M i j - g2 M i c * g2 M d j) := fun i j hi hne => by
  rw [g2, gt hi, if_pos ⟨hi, hne⟩]
  exact lessRow_cg p _ (by rw [r.len i hi, r.len d hd]; exact Nat.le_refl _) j
 have small : ∀ {x : Int}, 0 ≤ x ∧ x < p → x % p = x := fun h => Int.emod_eq_of_lt h.1 h.2
 -- left of column c nothing has changed
 have old : ∀ i j, i < M.length → j < c → g2 (clrP p d c M M.length) i j = g2 M i j := fun i j hi hj => by
  by_cases e : i = d
  ·subst e; exact gd j
  ·rw [gn i j hi e (by omega), r.nul d j (Nat.le_refl _) hd hj, Int.mul_zero, Int.sub_zero]
   exact small ((r.bnd i hi).at (k := j) (by rw [r.len i hi]; omega))
 have atc : ∀ i, i < M.length → i ≠ d → g2 (clrP p d c M M.length) i c = 0 := fun i hi hne => by
  rw [gn i c hi hne hc, h1, Int.mul_one, Int.sub_self, Int.zero_emod]
 refine ⟨by rw [hl]; exact r.ln, fun i hi => ?_, fun i hi => ?_, ⟨fun i hi => ?_, fun i hi => ?_⟩, by rw [hl]; exact hd, fun i hi => ?_, fun i hi => ?_, fun i j hi hj => ?_, fun i k hik hk => ?_, fun i k hi hk hne => ?_, fun k j hk hk2 hj => ?_⟩
 ·rw [hl] at hi; rw [gt hi]
  split
  ·rw [lessRow_len]; exact r.len i hi
  ·exact r.len i hi
 ·rw [hl] at hi; rw [gt hi]
  split
  ·exact lessRow_bnd (by omega) _ _ _
  ·exact r.bnd i hi
 ·rw [hl] at hi
  by_cases e : i = d
  ·subst e; exact (r.eqv.1 i hi).cg fun j => Cg.of_eq (gd j)
  ·exact ((r.eqv.1 i hi).sub (g2 M i c) (r.eqv.1 d hd)).cg fun j => cg i j hi e
 ·refine (r.eqv.2 i hi).le fun q hq => ?_
  have sd : Sp p (clrP p d c M M.length) (g2 M d) := (Sp.row (p := p) (L := clrP p d c M M.length) (i := d) (by rw [hl]; exact hd)).cg fun j => Cg.of_eq (gd j).symm
  by_cases e : q = d
  ·subst e; exact sd
  ·refine ((Sp.row (p := p) (L := clrP p d c M M.length) (i := q) (by rw [hl]; exact hq)).add (sd.mul (g2 M q c))).cg fun j => ?_
   exact ((Cg.add (cg q j hq e) (Cg.refl _)).trans (Cg.of_eq (by omega))).symm
 ·show (if i = d then c else l i) < c + 1
  split
  ·omega
  ·have := r.lt i (by omega); omega
 ·show g2 _ i (if i = d then c else l i) = 1
  by_cases e : i = d
  ·rw [if_pos e, e, gd]; exact h1
  ·rw [if_neg e, old i _ (by omega) (r.lt i (by omega))]; exact r.one i (by omega)
 ·by_cases e : i = d
  ·simp only [if_pos e] at hj
   rw [e, gd]; exact r.nul d j (Nat.le_refl _) hd hj
  ·simp only [if_neg e] at hj
   have := r.lt i (by omega)
   rw [old i j (by omega) (by omega)]; exact r.zb i j (by omega) hj
 ·show (if i = d then c else l i) < (if k = d then c else l k)
  rw [if_neg (by omega)]
  by_cases e : k = d
  ·rw [if_pos e]; exact r.lt i (by omega)
  ·rw [if_neg e]; exact r.inc i k hik (by omega)
 ·rw [hl] at hk
  show g2 _ k (if i = d then c else l i) = 0
  by_cases e : i = d
  ·rw [if_pos e]; exact atc k hk (by omega)
  ·rw [if_neg e, old k _ hk (r.lt i (by omega))]; exact r.cl i k (by omega) hk hne
 ·rw [hl] at hk2
  rcases Nat.lt_succ_iff_lt_or_eq.1 hj with h' | h'
  ·rw [old k j hk2 h']; exact r.nul k j (by omega) hk2 h'
  ·rw [h']; exact atc k hk2 (by omega)
theorem take_get {α : Type} {xs : List α} {d : α} {i n : Nat} (hi : i < n) : (xs.take n).getD i d = xs.getD i d := by
 rw [List.getD_eq_getElem?_getD, List.getElem?_take, if_pos hi, List.getD_eq_getElem?_getD]
theorem RI.end (hP : isP p = true) (r : RI p w rows M l d c) (h : d = M.length ∨ w ≤ c) : Red p w (M.take d) rows := by
 have hl : (M.take d).length = d := by have := r.dl; simp; omega
 have gt : ∀ i j, i < d → g2 (M.take d) i j = g2 M i j := fun i j hi => by rw [g2, take_get hi]
 have dl := r.dl
 have out : ∀ i j, i < M.length → w ≤ j → g2 M i j = 0 := fun i j hi hj => g2_out (by rw [r.len i hi]; exact hj)
 have ltw : ∀ i, i < d → l i < w := fun i hi => by
  apply Nat.lt_of_not_le
  intro hle
  have := r.one i hi
  rw [out i _ (by omega) hle] at this; omega
 refine ⟨⟨l, ⟨fun i hi => ?_, fun i hi => ?_, fun i hi => ?_, fun i hi => ?_, fun i j hi hj => ?_, fun i k hik hk => ?_, fun i k hi hk hne => ?_⟩⟩, ⟨fun i hi => ?_, fun i hi => ?_⟩⟩
 ·rw [hl] at hi; rw [take_get hi]; exact r.len i (by omega)
 ·rw [hl] at hi; rw [take_get hi]; exact r.bnd i (by omega)
 ·rw [hl] at hi; exact ltw i hi
 ·rw [hl] at hi; rw [gt i _ hi]; exact r.one i hi
 ·rw [hl] at hi; rw [gt i _ hi]; exact r.zb i j hi hj
 ·rw [hl] at hk; exact r.inc i k hik hk
 ·rw [hl] at hi hk; rw [gt k _ hk]; exact r.cl i k hi (by omega) hne
 ·rw [hl] at hi; exact (r.eqv.1 i (by omega)).cg fun j => Cg.of_eq (gt i j hi)
 ·refine (r.eqv.2 i hi).le fun k hk => ?_
  rcases Nat.lt_or_ge k d with h1 | h1
  ·exact Sp.at (i := k) (by rw [hl]; exact h1) (take_get h1)
  ·refine Sp.zero.cg fun j => Cg.of_eq ?_
   rcases h with h2 | h2
   ·omega
   ·rcases Nat.lt_or_ge j c with h3 | h3
    ·exact r.nul k j h1 hk h3
    ·exact out k j hk (by omega)
end
end Go.Proofs.Ytjjjgllbocgkbaa

namespace Go.Proofs.Ytjjjgllbocgkbaa
open Go
section
variable {α : Type} {e : TypeId} {E : Heap → Value → α → List Nat → Prop} {h : Heap} {v : Value} {xs : List α} {fp : List Nat}
theorem Row.rowV {b c : Nat} {cur : Array Value} {fps : List (List Nat)} (r : Row e E h v xs b c cur fps) {j : Nat} {u : Value} (hu : cur[j]? = some u) : Go.Proofs.Ytjjjgllbocgkbaa.rowV h v j = u := by
 unfold Go.Proofs.Ytjjjgllbocgkbaa.rowV
 rw [r.val]
 simp only [sA]
 rw [addr_add, r.box.cell, Nat.zero_add, hu]; rfl
/-- Two elements: the one changed in place, the other stays. -/
theorem OS.two [Own E] [Inhabited α] (ho : OS e E h v xs fp) (hn : fp.Nodup) {i d : Nat} (hi : i < xs.length) (hd : d < xs.length) (hne : i ≠ d) : ∃ f, E h (rowV h v i) (xs.getD i default) f ∧ f.Nodup ∧ (∀ b ∈ f, b ∈ fp) ∧ (∀ h' x', Chg f h h' → E h' (rowV h v i) x' f → OS e E h' v (xs.set i x') fp) ∧ ∀ h', Chg f h h' → ∃ g, E h' (rowV h v d) (xs.getD d default) g := by
 have hel := OS.elem ho hn i hi
 rcases ho with ⟨_, rfl, _⟩ | ⟨b, c, cur, fps, rfl, r⟩
 ·simp at hi
 ·obtain ⟨u, f, h1, h2, h4⟩ := r.el i hi
  obtain ⟨u', f', k1, k2, k4⟩ := r.el d hd
  obtain ⟨hb, hfl⟩ := List.nodup_cons.1 hn
  have hfn := List.pairwise_flatten.1 hfl
  have hfm : f ∈ fps := List.mem_of_getElem? h2
  have hxi : xs.getD i default = xs[i] := by rw [List.getD_eq_getElem?_getD, List.getElem?_eq_getElem hi]; rfl
  have hxd : xs.getD d default = xs[d] := by rw [List.getD_eq_getElem?_getD, List.getElem?_eq_getElem hd]; rfl
  have hjl : i < fps.length := (List.getElem?_eq_some_iff.1 h2).1
  have hil : d < fps.length := (List.getElem?_eq_some_iff.1 k2).1
  have e1 : fps[i] = f := (List.getElem?_eq_some_iff.1 h2).2
  have e2 : fps[d] = f' := (List.getElem?_eq_some_iff.1 k2).2
  have hp := List.pairwise_iff_getElem.1 hfn.2
  have hdis : ∀ q ∈ f', q ∉ f := fun q hq hqf => by
   rcases Nat.lt_or_gt_of_ne hne with hlt | hgt
   ·have := hp i d hjl hil hlt
    rw [e1, e2] at this
    exact this _ hqf _ hq rfl
   ·have := hp d i hil hjl hgt
    rw [e1, e2] at this
    exact this _ hq _ hqf rfl
  have hsub : ∀ q ∈ f, q ∈ b :: fps.flatten := fun q hq => List.mem_cons_of_mem _ (List.mem_flatten.2 ⟨f, hfm, hq⟩)
  refine ⟨f, by rw [r.rowV h1, hxi]; exact h4, hfn.1 f hfm, hsub, fun h' x' hc hE => ?_, fun h' hc => ⟨f', ?_⟩⟩
  ·rw [r.rowV h1] at hE
   refine .inr ⟨b, c, cur, fps, rfl, ⟨by rw [List.length_set]; exact r.val, ?_, r.size, r.max, by rw [List.length_set]; exact r.le, by rw [List.length_set]; exact r.len, fun q hq => ?_⟩⟩
   ·have := hc.block b r.box.lt (fun hq => hb (List.mem_flatten.2 ⟨f, hfm, hq⟩))
    unfold BoxAt
    rw [this]; exact r.box
   ·rw [List.length_set] at hq
    by_cases hij : i = q
    ·subst hij
     exact ⟨u, f, h1, h2, by simpa using hE⟩
    ·obtain ⟨u2, f2, l1, l2, l4⟩ := r.el q hq
     refine ⟨u2, f2, l1, l2, ?_⟩
     rw [List.getElem_set_ne hij]
     refine Own.loc (fun z hz => hc.block z (Own.lt l4 z hz) fun hzf => ?_) l4
     have hql : q < fps.length := (List.getElem?_eq_some_iff.1 l2).1
     have e3 : fps[q] = f2 := (List.getElem?_eq_some_iff.1 l2).2
     rcases Nat.lt_or_gt_of_ne hij with hlt | hgt
     ·have := hp i q hjl hql hlt
      rw [e1, e3] at this
      exact this _ hzf _ hz rfl
     ·have := hp q i hql hjl hgt
      rw [e1, e3] at this
      exact this _ hz _ hzf rfl
  ·rw [r.rowV k1, hxd]
   exact Own.loc (fun z hz => hc.block z (Own.lt k4 z hz) (hdis z hz)) k4
end
section
variable {P : Program} {T : Tab} {n : Nat} {K : Env → Heap → Prop} {env : Env} {h : Heap} {d : Option Tmp} {ty : TypeId} {p : String} {a : Array Edge} {g : Option (Nat × Bool)} {t e : TypeId}
end
end Go.Proofs.Ytjjjgllbocgkbaa

namespace Go.Proofs.Ytjjjgllbocgkbaa
open Go
/-- A row that is one's own, or one that lies elsewhere and is told by its value alone. -/
def EB (h : Heap) (u : Value) (x : List Int × Option Value) (fp : List Nat) : Prop := (x.2 = none ∧ O1 h u x.1 fp) ∨ (x.2 = some u ∧ (u.oneCell' = true ∧ u.cells = #[u]) ∧ fp = [])
instance : Own EB := ⟨fun hl h => h.elim (fun a => .inl ⟨a.1, Own.loc hl a.2⟩) .inr, (fun h b hb => by
 rcases h with h | h
 ·exact Own.lt h.2 b hb
 ·rw [h.2.2] at hb; cases hb), (fun h => by
 rcases h with h | h
 ·exact Own.one h.2
 ·exact h.2.1)⟩
theorem EB.own {h : Heap} {u : Value} {x : List Int} {fp : List Nat} (ho : O1 h u x fp) : EB h u (x, none) fp := .inl ⟨rfl, ho⟩
abbrev O2B : Heap → Value → List (List Int × Option Value) → List Nat → Prop := OS 22 EB
theorem OB.nil {h : Heap} {v : Value} {fp : List Nat} (ho : O2 h v [] fp) : O2B h v [] fp := by
 rcases ho with ⟨h1, _, h3⟩ | ⟨b, c, cur, fps, rfl, r⟩
 ·exact .inl ⟨h1, rfl, h3⟩
 ·exact .inr ⟨b, c, cur, fps, rfl, ⟨r.val, r.box, r.size, r.max, r.le, r.len, fun j hj => by simp at hj⟩⟩
section
variable {p : Int} {L : List (List Int)} {own : List Int} {at_ pos : Nat} {vo : Value}
end
end Go.Proofs.Ytjjjgllbocgkbaa

namespace Go.Proofs.Ytjjjgllbocgkbaa
open Go
/-- A row that lies in other blocks, and reads the same wherever these are as they were. -/
def ESt (h0 : Heap) (fE : List Nat) (_ : Heap) (u : Value) (x : List Int) (fp : List Nat) : Prop := fp = [] ∧ (u.oneCell' = true ∧ u.cells = #[u]) ∧ ∀ h' : Heap, (∀ b ∈ fE, h'[b]? = h0[b]?) → R1 h' u x
instance {h0 : Heap} {fE : List Nat} : Own (ESt h0 fE) := ⟨fun _ h => h, (fun h b hb => by rw [h.1] at hb; cases hb), (fun h => h.2.1)⟩
abbrev O2S (h0 : Heap) (fE : List Nat) : Heap → Value → List (List Int) → List Nat → Prop := OS 22 (ESt h0 fE)
theorem O2S.nil {h0 : Heap} {fE : List Nat} {h : Heap} {v : Value} {fp : List Nat} (ho : O2 h v [] fp) : O2S h0 fE h v [] fp := by
 rcases ho with ⟨h1, _, h3⟩ | ⟨b, c, cur, fps, rfl, r⟩
 ·exact .inl ⟨h1, rfl, h3⟩
 ·exact .inr ⟨b, c, cur, fps, rfl, ⟨r.val, r.box, r.size, r.max, r.le, r.len, fun j hj => by simp at hj⟩⟩
theorem O2S.rd {h0 : Heap} {fE : List Nat} {h : Heap} {v : Value} {xs : List (List Int)} {fp : List Nat} (ho : O2S h0 fE h v xs fp) (hag : ∀ b ∈ fE, h[b]? = h0[b]?) : R2 h v xs := by
 rcases ho with ⟨rfl, rfl, _⟩ | ⟨b, c, cur, fps, _, r⟩
 ·exact ⟨none, 0, rfl, .inr rfl, by simp, by omega, fun j hj => by simp at hj⟩
 ·refine ⟨some ⟨b, 0, none⟩, c, r.val, .inl rfl, r.le, r.max, fun j hj => ?_⟩
  obtain ⟨u, f, h1, _, h4⟩ := r.el j hj
  refine ⟨u, ?_, h4.2.2 h hag⟩
  rw [r.val]
  simp only [sA]
  rw [addr_add, r.box.cell, Nat.zero_add, h1]
end Go.Proofs.Ytjjjgllbocgkbaa

namespace Go.Proofs.Ytjjjgllbocgkbaa
open Go
theorem mapP_in {X : Cx} {n : Int} (h0 : 1 ≤ n) (h1 : n ≤ (X.dims.length : Int) - 1) : mapP X n = X.maps.getD (n - 1).toNat default := by rw [mapP, if_pos (in3_iff.2 ⟨h0, h1⟩)]
theorem mapP_out {X : Cx} {n : Int} (h : n ≤ 0 ∨ (X.dims.length : Int) - 1 < n) : mapP X n = List.replicate (dimP X n).toNat [] := by rw [mapP, if_neg (by rw [in3_iff]; omega)]
/-- The rows of a degree: how many, and how long. -/
theorem mapP_tbl {X : Cx} (hC : IsC X) (n : Int) : ((mapP X n).length : Int) = dimP X n ∧ ∀ r ∈ mapP X n, r.length = (if 1 ≤ n then (dimP X (n - 1)).toNat else 0) ∧ Bnd X.p r := by
 have hd := dimP_bnd hC n
 by_cases h : 0 ≤ n ∧ n ≤ (X.dims.length : Int) - 1
 ·obtain ⟨h1, h2⟩ := mapP_ok hC h.1 h.2
  refine ⟨by rw [h1, dimP, if_pos (in3_iff.2 h)], fun r hr => ?_⟩
  have := h2 r hr
  refine ⟨?_, this.2⟩
  split
  ·omega
  ·have e : n - 1 < 0 := by omega
   rw [dimP_out (n := n - 1) (by omega)] at this; omega
 ·rw [mapP_out (by omega), dimP_out h]
  exact ⟨rfl, fun r hr => by cases hr⟩
end Go.Proofs.Ytjjjgllbocgkbaa

namespace Go.Proofs.Ytjjjgllbocgkbaa
open Go
def posI : List Int → Int → Int
 | [], _ => -1
 | x :: r, v => if x = v then 0 else if posI r v < 0 then -1 else posI r v + 1
theorem posI_ge (v : Int) : ∀ xs : List Int, -1 ≤ posI xs v ∧ posI xs v < xs.length
 | [] => by simp [posI]
 | x :: r => by
  have := posI_ge v r
  rw [posI]
  simp only [List.length_cons]
  split
  ·omega
  ·split <;> omega
theorem posI_hit {v : Int} : ∀ {xs : List Int} {s : Nat}, (∀ q, q < s → xs.getD q 0 ≠ v) → s < xs.length → xs.getD s 0 = v → posI xs v = s
 | [], s, _, hs, _ => by simp at hs
 | x :: r, 0, _, _, h => by rw [posI, if_pos (by simpa using h)]; rfl
 | x :: r, s + 1, h, hs, e => by
  have h0 : x ≠ v := by simpa using h 0 (by omega)
  have := posI_hit (xs := r) (s := s) (fun q hq => by simpa using h (q + 1) (by omega)) (by simpa using hs) (by simpa using e)
  rw [posI, if_neg h0, if_neg (by omega), this]; omega
theorem posI_none {v : Int} : ∀ {xs : List Int}, (∀ q, q < xs.length → xs.getD q 0 ≠ v) → posI xs v = -1
 | [], _ => rfl
 | x :: r, h => by
  have h0 : x ≠ v := by simpa using h 0 (by simp)
  have := posI_none (xs := r) (fun q hq => by simpa using h (q + 1) (by simpa using hq))
  rw [posI, if_neg h0, if_pos (by omega)]
theorem posI_get {v : Int} : ∀ {xs : List Int}, 0 ≤ posI xs v → xs.getD (posI xs v).toNat 0 = v
 | [], h => by simp [posI] at h
 | x :: r, h => by
  rw [posI] at h ⊢
  split
  ·rename_i e; simpa using e
  ·rename_i e
   rw [if_neg e] at h
   split at h
   ·omega
   ·rename_i h2
    have := posI_get (xs := r) (v := v) (by omega)
    rw [if_neg h2, show (posI r v + 1).toNat = (posI r v).toNat + 1 by omega, List.getD_cons_succ]
    exact this
def entP (X : Fl) (n i : Int) (k : Nat) : Int := ((mapP X.c n).getD i.toNat default).getD k 0
theorem map_takeL {α β : Type} {f : α → β} {xs : List α} {k : Nat} {d : α} (h : k < xs.length) : (xs.take k).map f ++ [f (xs.getD k d)] = (xs.take (k + 1)).map f := by
 rw [List.take_succ_eq_append_getElem h, List.map_append, List.getD_eq_getElem?_getD, List.getElem?_eq_getElem h]; rfl
theorem map_takeE {α β : Type} {f : α → β} {xs : List α} {k : Nat} (h : ¬ k < xs.length) : (xs.take k).map f = xs.map f := by rw [List.take_of_length_le (by omega)]

set_option maxRecDepth 100000 in
theorem index1_ok (vu : Value) (u : List Int) (x : Int) (h : Heap) (ru : R1 h vu u)  : CallA Try.prog 85 #[vu, .int .i64 x] h fun v' h' => v' = .int .i64 (posI u x) ∧ Ext h h' := by
 have hleu := RdS.le ru
 refine callA_intro TTok (args := [_, _]) Try.func85 (by kernel_rfl) rfl 19 rfl (by simp) [.tmp 4] rfl ?_
 simp only [idxs, Nat.reduceAdd]
 refine den_seq ?_
 refine den_region TTok ?_
 intro K hK
 simp -implicitDefEqProofs (disch := first | decide | assumption | omega) only [go_sem, RdS.len ru sl22, RdS.idx ru sl22, R1.intB ru (HPres.refl _), RdS.cells ru, wrap_id]
 refine hK _ _ ?_
 clear hK K
 refine den_seq ?_
 refine den_seq ?_
 refine den_region TTok ?_
 intro K hK
 simp -implicitDefEqProofs (disch := first | decide | assumption | omega) only [go_sem, RdS.len ru sl22, RdS.idx ru sl22, R1.intB ru (HPres.refl _), RdS.cells ru, wrap_id]
 refine hK _ _ ?_
 clear hK K
 refine den_block ?_
 refine den_sel [8, 0, 1, 7] ?_
 intro env_1
 simp only [go_sem]
 refine den_loopS (σ := Nat) (fun st_ => [(8, .int .i64 (st_ : Int))]) (fun st_ H => (st_ ≤ u.length) ∧ (∀ a, a < st_ → u.getD a 0 ≠ x) ∧ (Ext h H)) (fun st_ => u.length - st_) 0 ?_ ?_
 ·exact ⟨by omega, fun a h => by omega, Ext.refl _⟩
 ·rintro k h4 ee3 ⟨hi0, hno, cL2⟩
  have := Ext.size cL2
  have eB := cL2
  simp only [List.cons_append, List.nil_append]
  refine den_seq ?_
  refine den_region TTok ?_
  intro K hK
  simp -implicitDefEqProofs (disch := first | decide | assumption | omega) only [go_sem, RdS.len ru sl22, RdS.idx ru sl22, R1.intB ru (Ext.pres eB), RdS.cells ru, wrap_id]
  refine hK _ _ ?_
  clear hK K
  refine den_seq ?_
  refine den_cond rfl (fun c0 => ?_) (fun c0 => ?_)
  ·try simp only [decide_eq_true_eq, decide_eq_false_iff_not, beq_iff_eq, beq_eq_false_iff_ne, bne_iff_ne, ne_eq, Bool.not_eq_true', Bool.not_eq_false', Bool.and_eq_true, Bool.or_eq_true, bne_eq_false_iff_eq] at c0
   refine den_skip ?_
   refine den_seq ?_
   refine den_block ?_
   refine den_seq ?_
   refine den_region TTok ?_
   intro K hK
   simp -implicitDefEqProofs (disch := first | decide | assumption | omega) only [go_sem, RdS.len ru sl22, RdS.idx ru sl22, R1.intB ru (Ext.pres eB), RdS.cells ru, wrap_id]
   refine hK _ _ ?_
   clear hK K
   refine den_seq ?_
   refine den_region TTok ?_
   intro K hK
   simp -implicitDefEqProofs (disch := first | decide | assumption | omega) only [go_sem, ld2, RdS.len ru sl22, RdS.idx ru sl22, R1.intB ru (Ext.pres eB), RdS.cells ru, wrap_id]
   refine hK _ _ ?_
   clear hK K
   refine den_cond rfl (fun c1 => ?_) (fun c1 => ?_)
   ·try simp only [decide_eq_true_eq, decide_eq_false_iff_not, beq_iff_eq, beq_eq_false_iff_ne, bne_iff_ne, ne_eq, Bool.not_eq_true', Bool.not_eq_false', Bool.and_eq_true, Bool.or_eq_true, bne_eq_false_iff_eq] at c1
    refine den_seq ?_
    refine den_region TTok ?_
    intro K hK
    simp -implicitDefEqProofs (disch := first | decide | assumption | omega) only [go_sem, RdS.len ru sl22, RdS.idx ru sl22, R1.intB ru (Ext.pres eB), RdS.cells ru, wrap_id]
    refine hK _ _ ?_
    clear hK K
    refine den_ret ?_
    simp (disch := decide) only [resP_1, puts_same, puts_ne]
    exact ⟨vint (posI_hit hno (by omega) (Eq.symm c1)).symm, eB⟩
   ·try simp only [decide_eq_true_eq, decide_eq_false_iff_not, beq_iff_eq, beq_eq_false_iff_ne, bne_iff_ne, ne_eq, Bool.not_eq_true', Bool.not_eq_false', Bool.and_eq_true, Bool.or_eq_true, bne_eq_false_iff_eq] at c1
    refine den_skip ?_
    refine den_blk ?_
    refine den_region TTok ?_
    intro K hK
    simp -implicitDefEqProofs (disch := first | decide | assumption | omega) only [go_sem, RdS.len ru sl22, RdS.idx ru sl22, R1.intB ru (Ext.pres eB), RdS.cells ru, wrap_id]
    refine hK _ _ ?_
    clear hK K
    refine den_stop ?_
    exact ⟨k + 1, by simp [HasL, puts_at], ⟨by first | omega | (dsimp only; omega), fun a ha => by
 by_cases hak : a < k
 ·exact hno a hak
 ·rw [show a = k by omega]; exact fun e => c1 e.symm, cL2⟩, by first | omega | (dsimp only; omega)⟩
  ·try simp only [decide_eq_true_eq, decide_eq_false_iff_not, beq_iff_eq, beq_eq_false_iff_ne, bne_iff_ne, ne_eq, Bool.not_eq_true', Bool.not_eq_false', Bool.and_eq_true, Bool.or_eq_true, bne_eq_false_iff_eq] at c0
   refine den_exit ?_
   refine denX_code ?_
   refine denX_stop ?_
   refine denX_hit ?_
   refine den_seq ?_
   refine den_region TTok ?_
   intro K hK
   simp -implicitDefEqProofs (disch := first | decide | assumption | omega) only [go_sem, RdS.len ru sl22, RdS.idx ru sl22, R1.intB ru (Ext.pres eB), RdS.cells ru, wrap_id]
   refine hK _ _ ?_
   clear hK K
   refine den_ret ?_
   simp (disch := decide) only [resP_1, puts_same, puts_ne]
   exact ⟨vint (posI_none (fun a ha => hno a (by omega))).symm, eB⟩
end Go.Proofs.Ytjjjgllbocgkbaa

namespace Go.Proofs.Ytjjjgllbocgkbaa
open Go
theorem dimP_in {X : Cx} {m : Int} (h : 0 < dimP X m) : 0 ≤ m ∧ m < X.dims.length := by
 unfold dimP at h
 split at h
 ·rename_i h2; rw [in3_iff] at h2; omega
 ·omega
theorem keptP_at {X : Fl} {n q : Int} {k : Nat} (hk : k < (keptP X n q).length) : 0 ≤ (keptP X n q).getD k 0 ∧ (keptP X n q).getD k 0 < dimP X.c n := by
 obtain ⟨i, e, h, _⟩ := keptT_at hk
 rw [show (keptP X n q).getD k 0 = (i : Int) from e]; omega
end Go.Proofs.Ytjjjgllbocgkbaa

namespace Go.Proofs.Ytjjjgllbocgkbaa
open Go
structure PvOk (X Y : Cx) (i : Int) (u : List Int) (j : Int) (v : List Int) : Prop where
 cX : IsC X
 cY : IsC Y
 p : 0 < X.p ∧ X.p ≤ 7
 ci : 0 ≤ i ∧ i ≤ (X.dims.length : Int) - 1
 cj : 0 ≤ j ∧ j ≤ (Y.dims.length : Int) - 1
 lX : X.dims.length ≤ 6
 lY : Y.dims.length ≤ 6
 cu : (u.length : Int) = dimP X i ∧ Bnd X.p u
 cv : (v.length : Int) = dimP Y j ∧ Bnd X.p v
end Go.Proofs.Ytjjjgllbocgkbaa

namespace Go.Proofs.Ytjjjgllbocgkbaa
open Go
section
variable {P : Program} {n : Nat} {K : Env → Heap → Prop} {env : Env} {h : Heap} {d : Option Tmp} {ty : TypeId} {p : String} {a : Array Edge} {g : Option (Nat × Bool)}
end
def famAt (X Y : Cx) (f : List (List (List Int))) (s : Int) (n : Nat) : Bool := tableP X.p (f.getD n default) (X.dims.getD n 0) (dimP Y ((n : Int) + s))
structure IsFam (X Y : Cx) (f : List (List (List Int))) (s : Int) : Prop where
 len : f.length = X.dims.length
 rows : ∀ n, n < f.length → famAt X Y f s n = true
theorem famAt_iff {X Y : Cx} {f : List (List (List Int))} {s : Int} {n : Nat} : famAt X Y f s n = true ↔ ((f.getD n default).length : Int) = X.dims.getD n 0 ∧ (f.getD n default).all (isRow X.p (dimP Y ((n : Int) + s))) = true := by
 simp only [famAt, tableP, Bool.and_eq_true, decide_eq_true_eq]
theorem IsFam.at {X Y : Cx} {f : List (List (List Int))} {s : Int} (h : IsFam X Y f s) {n : Nat} (hn : n < f.length) : ((f.getD n default).length : Int) = X.dims.getD n 0 ∧ Tbl X.p (dimP Y ((n : Int) + s)) (f.getD n default) := tableP_iff.1 (h.rows n hn)
theorem IsFam.row {X Y : Cx} {f : List (List (List Int))} {s : Int} (h : IsFam X Y f s) {n i : Nat} (hn : n < f.length) (hi : i < (f.getD n default).length) : isRow X.p (dimP Y ((n : Int) + s)) ((f.getD n default).getD i default) = true := all_at (d := default) (famAt_iff.1 (h.rows n hn)).2 hi
end Go.Proofs.Ytjjjgllbocgkbaa

namespace Go.Proofs.Ytjjjgllbocgkbaa
open Go
/-- What a round of the test of chain maps knows. -/
structure ChnR (X Y : Cx) (f : List (List (List Int))) (k i : Nat) : Prop where
 hi : i < (X.maps.getD k default).length
 ml : k < X.maps.length
 row : (((X.maps.getD k default).getD i default).length : Int) = X.dims.getD k 0 ∧ Bnd X.p ((X.maps.getD k default).getD i default)
 img : (((f.getD ((k : Int) + 1).toNat default).getD i default).length : Int) = Y.dims.getD ((k : Int) + 1).toNat 0 ∧ Bnd Y.p ((f.getD ((k : Int) + 1).toNat default).getD i default)
end Go.Proofs.Ytjjjgllbocgkbaa

namespace Go.Proofs.Ytjjjgllbocgkbaa
open Go
structure SumOk (p : Int) (f g : List (List (List Int))) : Prop where
 len : f.length = g.length ∧ f.length ≤ 6
 rows : ∀ n, n < f.length → (f.getD n default).length = (g.getD n default).length ∧ (f.getD n default).length ≤ 8
 row : ∀ n i, n < f.length → i < (f.getD n default).length → ((f.getD n default).getD i default).length = ((g.getD n default).getD i default).length ∧ ((f.getD n default).getD i default).length ≤ 8 ∧ Bnd p ((f.getD n default).getD i default) ∧ Bnd p ((g.getD n default).getD i default)
end Go.Proofs.Ytjjjgllbocgkbaa

namespace Go.Proofs.Ytjjjgllbocgkbaa
open Go
/-- A row that is one's own, or one that lies in other blocks. -/
def EM (h0 : Heap) (fE : List Nat) (h : Heap) (u : Value) (x : List Int) (fp : List Nat) : Prop := O1 h u x fp ∨ ESt h0 fE h u x fp
instance {h0 : Heap} {fE : List Nat} : Own (EM h0 fE) := ⟨fun hl h => h.elim (fun a => .inl (Own.loc hl a)) .inr, (fun h => h.elim Own.lt fun a b hb => by rw [a.1] at hb; cases hb), (fun h => h.elim Own.one fun a => a.2.1)⟩
abbrev O2M (h0 : Heap) (fE : List Nat) : Heap → Value → List (List Int) → List Nat → Prop := OS 22 (EM h0 fE)
theorem O2M.nil {h0 : Heap} {fE : List Nat} {h : Heap} {v : Value} {fp : List Nat} (ho : O2 h v [] fp) : O2M h0 fE h v [] fp := by
 rcases ho with ⟨h1, _, h3⟩ | ⟨b, c, cur, fps, rfl, r⟩
 ·exact .inl ⟨h1, rfl, h3⟩
 ·exact .inr ⟨b, c, cur, fps, rfl, ⟨r.val, r.box, r.size, r.max, r.le, r.len, fun j hj => by simp at hj⟩⟩
theorem O2M.rd {h0 : Heap} {fE : List Nat} {h : Heap} {v : Value} {xs : List (List Int)} {fp : List Nat} (ho : O2M h0 fE h v xs fp) (hag : Agr fE h0 h) : R2 h v xs := by
 rcases ho with ⟨rfl, rfl, _⟩ | ⟨b, c, cur, fps, _, r⟩
 ·exact ⟨none, 0, rfl, .inr rfl, by simp, by omega, fun j hj => by simp at hj⟩
 ·refine ⟨some ⟨b, 0, none⟩, c, r.val, .inl rfl, r.le, r.max, fun j hj => ?_⟩
  obtain ⟨u, f, h1, _, h4⟩ := r.el j hj
  refine ⟨u, ?_, h4.elim (fun a => OS.rd a) fun a => a.2.2 h hag⟩
  rw [r.val]
  simp only [sA]
  rw [addr_add, r.box.cell, Nat.zero_add, h1]
theorem ES.row {h : Heap} {vE : Value} {E : List (List Int)} {fE : List Nat} (hE : O2 h vE E fE) (hn : fE.Nodup) {i : Nat} (hi : i < E.length) {H : Heap} : ESt h fE H (rowV h vE i) (E.getD i default) [] := by
 obtain ⟨f, hO, hsub, _, _⟩ := OS.elem hE hn i hi
 exact ⟨rfl, Own.one hO, fun h' hg => OS.rd (show O1 h' (rowV h vE i) (E.getD i default) f from Own.loc (fun b hb => hg b (hsub b hb)) hO)⟩
structure RkOk (X Y : Cx) (f : List (List (List Int))) (n : Int) : Prop where
 cX : IsC X
 cY : IsC Y
 cf : IsFam X Y f 0
 p : X.p = Y.p
 n0 : 0 ≤ n
 n1 : n ≤ (X.dims.length : Int) - 1
end Go.Proofs.Ytjjjgllbocgkbaa

namespace Go.Proofs.Ytjjjgllbocgkbaa
open Go
noncomputable def pgC (X : Fl) (r n q : Int) : Int := if isF X = true then (if in3 r 0 8 = true ∧ in3 n 0 ((X.c.dims.length : Int) - 1) = true ∧ in3 q 0 5 = true then 0 else 2) else 1
theorem pgC_0 {X : Fl} {r n q : Int} (h : pgC X r n q = 0) : IsF X ∧ (0 ≤ r ∧ r ≤ 8) ∧ (0 ≤ n ∧ n ≤ (X.c.dims.length : Int) - 1) ∧ (0 ≤ q ∧ q ≤ 5) := by
 unfold pgC at h
 split at h
 ·rename_i h1
  split at h
  ·rename_i h2
   exact ⟨isF_t.1 h1, in3_iff.1 h2.1, in3_iff.1 h2.2.1, in3_iff.1 h2.2.2⟩
  ·cases h
 ·cases h
theorem pgC_ne {X : Fl} {r n q : Int} (h : pgC X r n q ≠ 0) : ∃ m : Int, pgC X r n q = m ∧ (m = 1 ∨ m = 2) := by
 unfold pgC at h ⊢
 split
 ·rename_i h1
  rw [if_pos h1] at h
  split
  ·rename_i h2; rw [if_pos h2] at h; exact absurd rfl h
  ·exact ⟨2, rfl, .inr rfl⟩
 ·exact ⟨1, rfl, .inl rfl⟩
theorem Agr.app {f1 f2 : List Nat} {h0 h : Heap} (a : Agr f1 h0 h) (b : Agr f2 h0 h) : Agr (f1 ++ f2) h0 h := fun x hx => (List.mem_append.1 hx).elim (a x) (b x)
theorem ESt.left {h0 : Heap} {f1 f2 : List Nat} {H : Heap} {u : Value} {x : List Int} {fp : List Nat} (h : ESt h0 f1 H u x fp) : ESt h0 (f1 ++ f2) H u x fp := ⟨h.1, h.2.1, fun h' g => h.2.2 h' (fun b hb => g b (List.mem_append_left _ hb))⟩
theorem ESt.right {h0 : Heap} {f1 f2 : List Nat} {H : Heap} {u : Value} {x : List Int} {fp : List Nat} (h : ESt h0 f2 H u x fp) : ESt h0 (f1 ++ f2) H u x fp := ⟨h.1, h.2.1, fun h' g => h.2.2 h' (fun b hb => g b (List.mem_append_right _ hb))⟩
set_option maxRecDepth 100000 in
theorem iPg_ok (vX : Value) (X : Fl) (r : Int) (n : Int) (q : Int) (h : Heap) (rX : RF h vX X)  : CallA Try.prog 81 #[vX, .int .i64 r, .int .i64 n, .int .i64 q] h fun v' h' => v' = .int .i64 (pgC X r n q) ∧ Ext h h' := by
 obtain ⟨vdX, vmX, vvX, rfl, hdX, hmX, hvX⟩ := rX
 have hledX := RdS.le hdX
 have hlemX := RdS.le hmX
 have hlevX := RdS.le hvX
 refine callA_intro TTok (args := [_, _, _, _]) Try.func81 (by kernel_rfl) rfl 30 rfl (by simp) [.tmp 8] rfl ?_
 simp only [idxs, Nat.reduceAdd]
 refine den_seq ?_
 refine den_region TTok ?_
 intro K hK
 simp -implicitDefEqProofs (disch := first | decide | assumption | omega) only [go_sem, wrap_id]
 refine op_box (cs := #[.int .i64 (X.c.p), vdX, vmX, vvX]) rfl ?_
 intro h0_0 e0_0 hb0_0 z0_0
 have := Ext.size e0_0
 have eB := e0_0
 have hfhb0_0 : Fresh h.size [h.size] := Fresh.one _
 have hlhb0_0 := one_lt (show h.size < h0_0.size by omega)
 try simp -implicitDefEqProofs (disch := first | decide | assumption | omega) only [go_sem, wrap_id]
 refine hK _ _ ?_
 clear hK K
 refine den_seq ?_
 refine den_block ?_
 refine den_seq ?_
 refine den_region TTok ?_
 intro K hK
 simp -implicitDefEqProofs (disch := first | decide | assumption | omega) only [go_sem, ld33, RdS.len hdX sl22, RdS.idx hdX sl22, R1.intB hdX (Ext.pres eB), RdS.cells hdX, RdS.len hmX sl23, RdS.idx hmX sl23, RdS.cellB hmX (Ext.pres eB), RdS.cells hmX, RdS.len hvX sl26, RdS.idx hvX sl26, RdS.cellB hvX (Ext.pres eB), RdS.cells hvX, BoxAt.cell hb0_0, wrap_id]
 try simp -implicitDefEqProofs (disch := first | decide | assumption | omega) only [go_sem, wrap_id]
 refine CallA.mono (iIsF_ok _ X _ ⟨_, _, _, rfl, (RdS.pres hdX (Ext.pres eB)), (RdS.pres hmX (Ext.pres eB)), (RdS.pres hvX (Ext.pres eB))⟩ ) ?_
 intro v_ h1_1
 rintro ⟨rfl, e1_1⟩
 replace hb0_0 := BoxAt.ext hb0_0 e1_1
 have := Ext.size e1_1
 replace eB := Ext.trans eB e1_1
 try simp -implicitDefEqProofs (disch := first | decide | assumption | omega) only [go_sem, wrap_id]
 refine hK _ _ ?_
 clear hK K
 refine den_cond rfl (fun c0 => ?_) (fun c0 => ?_)
 ·try simp only [decide_eq_true_eq, decide_eq_false_iff_not, beq_iff_eq, beq_eq_false_iff_ne, bne_iff_ne, ne_eq, Bool.not_eq_true', Bool.not_eq_false', Bool.and_eq_true, Bool.or_eq_true, bne_eq_false_iff_eq, Bool.or_eq_false_iff, Bool.and_eq_false_iff] at c0
  refine den_seq ?_
  refine den_region TTok ?_
  intro K hK
  simp -implicitDefEqProofs (disch := first | decide | assumption | omega) only [go_sem, wrap_id]
  refine hK _ _ ?_
  clear hK K
  refine den_ret ?_
  simp (disch := decide) only [resP_1, puts_same, puts_ne]
  exact ⟨vint (by rw [pgC, if_neg (by rw [c0]; decide)]), eB⟩
 ·try simp only [decide_eq_true_eq, decide_eq_false_iff_not, beq_iff_eq, beq_eq_false_iff_ne, bne_iff_ne, ne_eq, Bool.not_eq_true', Bool.not_eq_false', Bool.and_eq_true, Bool.or_eq_true, bne_eq_false_iff_eq, Bool.or_eq_false_iff, Bool.and_eq_false_iff] at c0
  refine den_seq ?_
  refine den_merge [(13, .bool ((((!((in3 r (0 : Int) (8 : Int)))) || (!((in3 n (0 : Int) (((X.c.dims).length : Int) - 1))))) || (!((in3 q (0 : Int) (5 : Int)))))))] [] (fun H => Ext h1_1 H) ?_ ?_
   -- a way
  ·refine den_region TTok ?_
   intro K hK
   simp -implicitDefEqProofs (disch := first | decide | assumption | (simp (disch := decide) only [slotOf_zero, slotOf_succ, Option.map_some, puts_same, puts_ne, gv_bool, gv_undef, tt, tf, ft, ff, eq_self, if_true, if_false, Bool.false_eq_true, Bool.not_true, Bool.not_false]; done) | omega) only [go_sem, wrap_id]
   try simp -implicitDefEqProofs (disch := first | decide | assumption | omega) only [go_sem, wrap_id]
   refine CallA.pure (iIn_ok _ _ _ _) ?_
   try simp -implicitDefEqProofs (disch := first | decide | assumption | (simp (disch := decide) only [slotOf_zero, slotOf_succ, Option.map_some, puts_same, puts_ne, gv_bool, gv_undef, tt, tf, ft, ff, eq_self, if_true, if_false, Bool.false_eq_true, Bool.not_true, Bool.not_false]; done) | omega) only [go_sem, wrap_id]
   refine opsP_F (by simp (disch := decide) only [slotOf_zero, slotOf_succ, Option.map_some, puts_same, puts_ne, gv_bool, gv_undef, tt, tf, ft, ff, eq_self, if_true, if_false, Bool.false_eq_true, Bool.not_true, Bool.not_false]; rfl) (fun g1 => ?_) (fun g1 => ?_)
   ·try simp -implicitDefEqProofs (disch := first | decide | assumption | (simp (disch := decide) only [slotOf_zero, slotOf_succ, Option.map_some, puts_same, puts_ne, gv_bool, gv_undef, tt, tf, ft, ff, eq_self, if_true, if_false, Bool.false_eq_true, Bool.not_true, Bool.not_false, g1]; done) | omega) only [go_sem, fa33_0, ld31, RdS.len hdX sl22, RdS.idx hdX sl22, R1.intB hdX (Ext.pres eB), RdS.cells hdX, RdS.len hmX sl23, RdS.idx hmX sl23, RdS.cellB hmX (Ext.pres eB), RdS.cells hmX, RdS.len hvX sl26, RdS.idx hvX sl26, RdS.cellB hvX (Ext.pres eB), RdS.cells hvX, BoxAt.cell hb0_0, wrap_id, g1, eq_self, if_true, if_false, Bool.false_eq_true]
    try simp -implicitDefEqProofs (disch := first | decide | assumption | omega) only [go_sem, wrap_id]
    refine CallA.mono (top_ok _ X.c _ ⟨_, _, rfl, (RdS.pres hdX (Ext.pres eB)), (RdS.pres hmX (Ext.pres eB))⟩) ?_
    intro v_ h3_7
    rintro ⟨rfl, e3_7⟩
    replace hb0_0 := BoxAt.ext hb0_0 e3_7
    have := Ext.size e3_7
    replace eB := Ext.trans eB e3_7
    try simp -implicitDefEqProofs (disch := first | decide | assumption | (simp (disch := decide) only [slotOf_zero, slotOf_succ, Option.map_some, puts_same, puts_ne, gv_bool, gv_undef, tt, tf, ft, ff, eq_self, if_true, if_false, Bool.false_eq_true, Bool.not_true, Bool.not_false, g1]; done) | omega) only [go_sem, wrap_id, g1, eq_self, if_true, if_false, Bool.false_eq_true]
    try simp -implicitDefEqProofs (disch := first | decide | assumption | omega) only [go_sem, wrap_id]
    refine CallA.pure (iIn_ok _ _ _ _) ?_
    try simp -implicitDefEqProofs (disch := first | decide | assumption | (simp (disch := decide) only [slotOf_zero, slotOf_succ, Option.map_some, puts_same, puts_ne, gv_bool, gv_undef, tt, tf, ft, ff, eq_self, if_true, if_false, Bool.false_eq_true, Bool.not_true, Bool.not_false, g1]; done) | omega) only [go_sem, wrap_id, g1, eq_self, if_true, if_false, Bool.false_eq_true]
    refine opsP_F (by simp (disch := decide) only [slotOf_zero, slotOf_succ, Option.map_some, puts_same, puts_ne, gv_bool, gv_undef, tt, tf, ft, ff, eq_self, if_true, if_false, Bool.false_eq_true, Bool.not_true, Bool.not_false, g1]; rfl) (fun g2 => ?_) (fun g2 => ?_)
    ·try simp -implicitDefEqProofs (disch := first | decide | assumption | (simp (disch := decide) only [slotOf_zero, slotOf_succ, Option.map_some, puts_same, puts_ne, gv_bool, gv_undef, tt, tf, ft, ff, eq_self, if_true, if_false, Bool.false_eq_true, Bool.not_true, Bool.not_false, g1, g2]; done) | omega) only [go_sem, wrap_id, g1, g2, eq_self, if_true, if_false, Bool.false_eq_true]
     try simp -implicitDefEqProofs (disch := first | decide | assumption | omega) only [go_sem, wrap_id]
     refine CallA.pure (iIn_ok _ _ _ _) ?_
     try simp -implicitDefEqProofs (disch := first | decide | assumption | (simp (disch := decide) only [slotOf_zero, slotOf_succ, Option.map_some, puts_same, puts_ne, gv_bool, gv_undef, tt, tf, ft, ff, eq_self, if_true, if_false, Bool.false_eq_true, Bool.not_true, Bool.not_false, g1, g2]; done) | omega) only [go_sem, wrap_id, g1, g2, eq_self, if_true, if_false, Bool.false_eq_true]
     refine hK _ _ ?_
     clear hK K
     refine den_stop ?_
     refine ⟨?_, e3_7⟩
     first | (simp (disch := decide) only [go_sem, g1, g2, eq_self, Bool.true_and, Bool.and_true, Bool.false_and, Bool.and_false, Bool.true_or, Bool.or_true, Bool.false_or, Bool.or_false, if_true, if_false, Bool.false_eq_true]; done) | simp [HasL, sel, puts_at, g1, g2]
    ·try simp -implicitDefEqProofs (disch := first | decide | assumption | (simp (disch := decide) only [slotOf_zero, slotOf_succ, Option.map_some, puts_same, puts_ne, gv_bool, gv_undef, tt, tf, ft, ff, eq_self, if_true, if_false, Bool.false_eq_true, Bool.not_true, Bool.not_false, g1, g2]; done) | omega) only [go_sem, wrap_id, g1, g2, eq_self, if_true, if_false, Bool.false_eq_true]
     refine hK _ _ ?_
     clear hK K
     refine den_stop ?_
     refine ⟨?_, e3_7⟩
     first | (simp (disch := decide) only [go_sem, g1, g2, eq_self, Bool.true_and, Bool.and_true, Bool.false_and, Bool.and_false, Bool.true_or, Bool.or_true, Bool.false_or, Bool.or_false, if_true, if_false, Bool.false_eq_true]; done) | simp [HasL, sel, puts_at, g1, g2]
   ·try simp -implicitDefEqProofs (disch := first | decide | assumption | (simp (disch := decide) only [slotOf_zero, slotOf_succ, Option.map_some, puts_same, puts_ne, gv_bool, gv_undef, tt, tf, ft, ff, eq_self, if_true, if_false, Bool.false_eq_true, Bool.not_true, Bool.not_false, g1]; done) | omega) only [go_sem, wrap_id, g1, eq_self, if_true, if_false, Bool.false_eq_true]
    try simp -implicitDefEqProofs (disch := first | decide | assumption | (simp (disch := decide) only [slotOf_zero, slotOf_succ, Option.map_some, puts_same, puts_ne, gv_bool, gv_undef, tt, tf, ft, ff, eq_self, if_true, if_false, Bool.false_eq_true, Bool.not_true, Bool.not_false, g1]; done) | omega) only [go_sem, wrap_id, g1, eq_self, if_true, if_false, Bool.false_eq_true]
    refine hK _ _ ?_
    clear hK K
    refine den_stop ?_
    refine ⟨?_, Ext.refl _⟩
    first | (simp (disch := decide) only [go_sem, g1, eq_self, Bool.true_and, Bool.and_true, Bool.false_and, Bool.and_false, Bool.true_or, Bool.or_true, Bool.false_or, Bool.or_false, if_true, if_false, Bool.false_eq_true]; done) | simp [HasL, sel, puts_at, g1]
  intro en3 h4 e5
  replace hb0_0 := BoxAt.ext hb0_0 e5
  have := Ext.size e5
  replace eB := Ext.trans eB e5
  simp (disch := decide) only [go_sem]
  refine den_cond rfl (fun c1 => ?_) (fun c1 => ?_)
  ·try simp only [decide_eq_true_eq, decide_eq_false_iff_not, beq_iff_eq, beq_eq_false_iff_ne, bne_iff_ne, ne_eq, Bool.not_eq_true', Bool.not_eq_false', Bool.and_eq_true, Bool.or_eq_true, bne_eq_false_iff_eq, Bool.or_eq_false_iff, Bool.and_eq_false_iff] at c1
   refine den_seq ?_
   refine den_region TTok ?_
   intro K hK
   simp -implicitDefEqProofs (disch := first | decide | assumption | omega) only [go_sem, wrap_id]
   refine hK _ _ ?_
   clear hK K
   refine den_ret ?_
   simp (disch := decide) only [resP_1, puts_same, puts_ne]
   exact ⟨vint (by rw [pgC, if_pos c0, if_neg (by rintro ⟨h1, h2, h3⟩; simp [h1, h2, h3] at c1)]), eB⟩
  ·try simp only [decide_eq_true_eq, decide_eq_false_iff_not, beq_iff_eq, beq_eq_false_iff_ne, bne_iff_ne, ne_eq, Bool.not_eq_true', Bool.not_eq_false', Bool.and_eq_true, Bool.or_eq_true, bne_eq_false_iff_eq, Bool.or_eq_false_iff, Bool.and_eq_false_iff] at c1
   refine den_skip ?_
   refine den_blk ?_
   refine den_seq ?_
   refine den_region TTok ?_
   intro K hK
   simp -implicitDefEqProofs (disch := first | decide | assumption | omega) only [go_sem, wrap_id]
   refine hK _ _ ?_
   clear hK K
   refine den_ret ?_
   simp (disch := decide) only [resP_1, puts_same, puts_ne]
   exact ⟨vint (by rw [pgC, if_pos c0, if_pos (by simpa [and_assoc] using c1)]), eB⟩
end Go.Proofs.Ytjjjgllbocgkbaa

namespace Go.Proofs.Ytjjjgllbocgkbaa
open Go
def lvlP (X : Fl) (q n : Int) : List Int := (keptP X n q).map fun z => lvP X n z
def pentP (X : Fl) (q n : Int) : List (List Int) := (keptP X n q).map fun z => (keptP X (n - 1) q).map fun y => entP X n z y.toNat
def pdmP (X : Fl) (q : Int) (k : Nat) : List Int := (List.range k).map fun n : Nat => ((keptP X (n : Int) q).length : Int)
def pmpP (X : Fl) (q : Int) (k : Nat) : List (List (List Int)) := (List.range k).map fun m : Nat => pentP X q ((m : Int) + 1)
def plvP (X : Fl) (q : Int) (k : Nat) : List (List Int) := (List.range k).map fun n : Nat => lvlP X q (n : Int)
def partP (X : Fl) (q : Int) : Fl := ⟨⟨X.c.p, pdmP X q X.c.dims.length, pmpP X q (X.c.dims.length - 1)⟩, plvP X q X.c.dims.length⟩
theorem pdmP_len (X : Fl) (q : Int) (k : Nat) : (pdmP X q k).length = k := by simp [pdmP]
theorem pmpP_len (X : Fl) (q : Int) (k : Nat) : (pmpP X q k).length = k := by simp [pmpP]
theorem plvP_len (X : Fl) (q : Int) (k : Nat) : (plvP X q k).length = k := by simp [plvP]
theorem pdmP_step (X : Fl) (q : Int) (k : Nat) : pdmP X q k ++ [((keptP X (k : Int) q).length : Int)] = pdmP X q (k + 1) := range_step (fun n : Nat => ((keptP X (n : Int) q).length : Int)) k
theorem plvP_step (X : Fl) (q : Int) (k : Nat) : plvP X q k ++ [lvlP X q (k : Int)] = plvP X q (k + 1) := range_step (fun n : Nat => lvlP X q (n : Int)) k
theorem pmpP_step {X : Fl} {q : Int} {n : Nat} (h : 1 ≤ n) : pmpP X q (n - 1) ++ [pentP X q (n : Int)] = pmpP X q (n + 1 - 1) := by
 obtain ⟨m, rfl⟩ : ∃ m, n = m + 1 := ⟨n - 1, by omega⟩
 exact range_step (fun m : Nat => pentP X q ((m : Int) + 1)) m
theorem lvlP_len (X : Fl) (q n : Int) : (lvlP X q n).length = (keptP X n q).length := by simp [lvlP]
theorem pentP_len (X : Fl) (q n : Int) : (pentP X q n).length = (keptP X n q).length := by simp [pentP]
theorem cnt_part {X : Fl} (hF : IsF X) (q : Int) : 0 ≤ cnt1 (partP X q).c.dims ∧ cnt1 (partP X q).c.dims ≤ 6 ∧ 0 ≤ cntL cnt2 (partP X q).c.maps ∧ cntL cnt2 (partP X q).c.maps ≤ 384 ∧ 0 ≤ cntL cnt1 (partP X q).lv ∧ cntL cnt1 (partP X q).lv ≤ 48 := by
 have hl := hF.c.len
 have h1 := cntL_bnd (ct := cnt2) (c := 64) (by omega) (xs := pmpP X q (X.c.dims.length - 1)) (m := 6) (fun x hx => by
  obtain ⟨m, _, rfl⟩ := List.mem_map.1 hx
  have := cntL_bnd (ct := cnt1) (c := 8) (by omega) (xs := pentP X q ((m : Int) + 1)) (m := 8) (fun y hy => by
   obtain ⟨z, _, rfl⟩ := List.mem_map.1 hy
   have := keptP_len hF ((m : Int) + 1 - 1) q
   rw [cnt1, List.length_map]; omega) (by rw [pentP_len]; exact keptP_len hF _ _)
  have e : cntL cnt1 (pentP X q ((m : Int) + 1)) = cnt2 (pentP X q ((m : Int) + 1)) := rfl
  exact ⟨by omega, by omega⟩) (by rw [pmpP_len]; omega)
 have h2 := cntL_bnd (ct := cnt1) (c := 8) (by omega) (xs := plvP X q X.c.dims.length) (m := 6) (fun x hx => by
  obtain ⟨m, _, rfl⟩ := List.mem_map.1 hx
  have := keptP_len hF (m : Int) q
  rw [cnt1, lvlP_len]; omega) (by rw [plvP_len]; omega)
 refine ⟨cnt1_nn _, ?_, h1.1, by have := h1.2; show cntL cnt2 (pmpP X q (X.c.dims.length - 1)) ≤ 384; omega, h2.1, by have := h2.2; show cntL cnt1 (plvP X q X.c.dims.length) ≤ 48; omega⟩
 show cnt1 (pdmP X q X.c.dims.length) ≤ 6
 rw [cnt1, pdmP_len]; omega
noncomputable def partR (X : Fl) (q : Int) : Fl × Int := if isF X = true then (if in3 q 0 5 = true then (partP X q, 0) else (⟨⟨0, [], []⟩, []⟩, 2)) else (⟨⟨0, [], []⟩, []⟩, 1)
theorem cnt_partR (X : Fl) (q : Int) : 0 ≤ cnt1 (partR X q).1.c.dims ∧ cnt1 (partR X q).1.c.dims ≤ 6 ∧ 0 ≤ cntL cnt2 (partR X q).1.c.maps ∧ cntL cnt2 (partR X q).1.c.maps ≤ 384 ∧ 0 ≤ cntL cnt1 (partR X q).1.lv ∧ cntL cnt1 (partR X q).1.lv ≤ 48 := by
 have hz : ∀ n : Int, 0 ≤ cnt1 ((⟨⟨0, [], []⟩, []⟩, n) : Fl × Int).1.c.dims ∧ cnt1 ((⟨⟨0, [], []⟩, []⟩, n) : Fl × Int).1.c.dims ≤ 6 ∧ 0 ≤ cntL cnt2 ((⟨⟨0, [], []⟩, []⟩, n) : Fl × Int).1.c.maps ∧ cntL cnt2 ((⟨⟨0, [], []⟩, []⟩, n) : Fl × Int).1.c.maps ≤ 384 ∧ 0 ≤ cntL cnt1 ((⟨⟨0, [], []⟩, []⟩, n) : Fl × Int).1.lv ∧ cntL cnt1 ((⟨⟨0, [], []⟩, []⟩, n) : Fl × Int).1.lv ≤ 48 := fun n => ⟨cnt1_nn _, by show cnt1 [] ≤ 6; decide, Int.le_refl _, by show (0 : Int) ≤ _; decide, Int.le_refl _, by show (0 : Int) ≤ _; decide⟩
 unfold partR
 split
 ·rename_i h
  split
  ·exact cnt_part (isF_t.1 h) q
  ·exact hz 2
 ·exact hz 1
theorem lvl_pre {X : Fl} (hF : IsF X) {n q : Int} {i : Nat} (hi : i < (keptP X n q).length) : 0 ≤ n ∧ n < X.c.dims.length ∧ n < X.lv.length ∧ 0 ≤ (keptP X n q).getD i 0 ∧ (keptP X n q).getD i 0 < ((X.lv.getD n.toNat default).length : Int) := by
 have h1 := keptP_at hi
 have h2 := dimP_in (X := X.c) (m := n) (by omega)
 have h3 := hF.dim h2.1 h2.2
 have h4 := hF.ln
 exact ⟨by omega, by omega, by omega, by omega, by omega⟩

theorem part_at {X : Fl} (hC : IsC X.c) {n q : Int} {s k : Nat} (hs : s < (keptP X n q).length) (hk : k < (keptP X (n - 1) q).length) : 1 ≤ n ∧ n ≤ (X.c.dims.length : Int) - 1 ∧ X.c.maps.getD (n - 1).toNat default = mapP X.c n ∧ ((keptP X n q).getD s 0).toNat < (mapP X.c n).length ∧ ((keptP X (n - 1) q).getD k 0).toNat < ((mapP X.c n).getD ((keptP X n q).getD s 0).toNat default).length := by
 have h1 := keptP_at hs
 have h2 := keptP_at hk
 have h3 := dimP_in (X := X.c) (m := n) (by omega)
 have h4 := dimP_in (X := X.c) (m := n - 1) (by omega)
 have e := mapP_in (X := X.c) (n := n) (by omega) (by omega)
 have ht := mapP_tbl hC n
 have h5 : ((keptP X n q).getD s 0).toNat < (mapP X.c n).length := by omega
 have h6 := (ht.2 _ (getD_mem h5)).1
 rw [if_pos (by omega)] at h6
 exact ⟨by omega, by omega, e.symm, h5, by omega⟩

theorem rowV_extF {α : Type} {E : Heap → Value → α → Prop} {h h' : Heap} {v : Value} {xs : List α} (hv : RdS E h v xs) (e : Ext h h') {j : Nat} (hj : j < xs.length) : rowV h' v j = rowV h v j := by
 obtain ⟨A, c, rfl, _, _, _, hr⟩ := hv
 obtain ⟨u, h1, _⟩ := hr j hj
 unfold rowV
 rw [h1, Ext.pres e _ _ h1]
theorem bF0 : buildV TT 33 [] = some (.agg #[.int .i64 0, .slice none 0 0, .slice none 0 0, .slice none 0 0]) := by kernel_rfl
theorem bF2 {v w x : Value} (hv : ∃ A n c, v = .slice A n c) (hw : ∃ A n c, w = .slice A n c) (hx : ∃ A n c, x = .slice A n c) (p : Int) : buildV TT 33 [(0, .agg #[.int .i64 p, v, w]), (1, x)] = some (.agg #[.int .i64 p, v, w, x]) := by
 obtain ⟨A, n, c, rfl⟩ := hv
 obtain ⟨A', n', c', rfl⟩ := hw
 obtain ⟨B, m, d, rfl⟩ := hx
 kernel_rfl
theorem RdS.nilF {α β : Type} {E : Heap → Value → α → Prop} {F : Heap → Value → β → Prop} {h h' : Heap} {v : Value} {xs : List α} (hv : RdS E h v xs) (hx : xs = []) : RdS F h' v [] := by
 obtain ⟨A, c, e, _, _, hm, _⟩ := hv
 subst hx
 exact ⟨A, c, e, .inr rfl, Nat.zero_le _, hm, fun j hj => by cases hj⟩

set_option maxRecDepth 100000 in
theorem sMapF_ok (vdX vmX : Value) (X : Cx) (n : Int) (h0 h : Heap) (hd0 : R1 h0 vdX X.dims) (hm0 : R3 h0 vmX X.maps) (e0 : Ext h0 h) (hC : IsC X) (hn : 1 ≤ n ∧ n ≤ 1000) : CallA Try.prog 80 #[.agg #[.int .i64 X.p, vdX, vmX], .int .i64 n] h fun v' h' => ∃ w, v' = w ∧ R2 h0 w (mapP X n) ∧ Ext h h' := by
 have hdX := RdS.pres hd0 (Ext.pres e0)
 have hmX := RdS.pres hm0 (Ext.pres e0)
 have hledX := RdS.le hdX
 have hlemX := RdS.le hmX
 have hml := hC.ml
 have hdb := dimP_bnd hC n
 refine callA_intro TTok (args := [_, _]) Try.func80 (by kernel_rfl) rfl 32 rfl (by simp) [.tmp 4] rfl ?_
 simp only [idxs, Nat.reduceAdd]
 refine den_seq ?_
 refine den_region TTok ?_
 intro K hK
 simp -implicitDefEqProofs (disch := first | decide | assumption | omega) only [go_sem, wrap_id]
 refine op_box (cs := #[.int .i64 (X.p), vdX, vmX]) rfl ?_
 intro h0_0 e0_0 hb0_0 z0_0
 have := Ext.size e0_0
 have eB := e0_0
 have hfhb0_0 : Fresh h.size [h.size] := Fresh.one _
 have hlhb0_0 := one_lt (show h.size < h0_0.size by omega)
 try simp -implicitDefEqProofs (disch := first | decide | assumption | omega) only [go_sem, wrap_id]
 refine hK _ _ ?_
 clear hK K
 refine den_seq ?_
 refine den_seq ?_
 refine den_region TTok ?_
 intro K hK
 simp -implicitDefEqProofs (disch := first | decide | assumption | omega) only [go_sem, fa31_1, ld22, RdS.len hdX sl22, RdS.idx hdX sl22, R1.intB hdX (Ext.pres eB), RdS.cells hdX, RdS.len hmX sl23, RdS.idx hmX sl23, RdS.cellB hmX (Ext.pres eB), RdS.cells hmX, BoxAt.cell hb0_0, wrap_id]
 try simp -implicitDefEqProofs (disch := first | decide | assumption | omega) only [go_sem, wrap_id]
 refine CallA.pure (sIn_ok _ _ _ _) ?_
 try simp -implicitDefEqProofs (disch := first | decide | assumption | omega) only [go_sem, wrap_id]
 refine hK _ _ ?_
 clear hK K
 refine den_cond rfl (fun c0 => ?_) (fun c0 => ?_)
 ·try simp only [decide_eq_true_eq, decide_eq_false_iff_not, beq_iff_eq, beq_eq_false_iff_ne, bne_iff_ne, ne_eq, Bool.not_eq_true', Bool.not_eq_false', Bool.and_eq_true, Bool.or_eq_true, bne_eq_false_iff_eq, in3_iff, in3_f] at c0
  refine den_seq ?_
  refine den_region TTok ?_
  intro K hK
  have hr1 := RdS.rowN hmX ((n - (1 : Int))).toNat (by omega)
  have hlhr1 := RdS.le hr1
  simp -implicitDefEqProofs (disch := first | decide | assumption | omega) only [go_sem, fa31_2, ld23, ld26, RdS.len hdX sl22, RdS.idx hdX sl22, R1.intB hdX (Ext.pres eB), RdS.cells hdX, RdS.len hmX sl23, RdS.idx hmX sl23, RdS.cellB hmX (Ext.pres eB), RdS.cells hmX, RdS.len hr1 sl26, RdS.idx hr1 sl26, RdS.cellB hr1 (Ext.pres eB), RdS.cells hr1, BoxAt.cell hb0_0, wrap_id]
  refine hK _ _ ?_
  clear hK K
  refine den_ret ?_
  simp (disch := decide) only [resP_1, puts_same, puts_ne]
  exact ⟨_, rfl, by rw [mapP, if_pos (in3_iff.2 c0), rowV_extF hm0 e0 (by omega)]; exact RdS.rowN hm0 _ (by omega), eB⟩
 ·try simp only [decide_eq_true_eq, decide_eq_false_iff_not, beq_iff_eq, beq_eq_false_iff_ne, bne_iff_ne, ne_eq, Bool.not_eq_true', Bool.not_eq_false', Bool.and_eq_true, Bool.or_eq_true, bne_eq_false_iff_eq, in3_iff, in3_f] at c0
  refine den_skip ?_
  refine den_seq ?_
  refine den_region TTok ?_
  intro K hK
  simp -implicitDefEqProofs (disch := first | decide | assumption | omega) only [go_sem, wrap_id]
  refine op_bs0 sz26 O1 ?_
  intro v3_0 h3_0 ho3_0 e3_0
  replace hb0_0 := BoxAt.ext hb0_0 e3_0
  have := Ext.size e3_0
  replace eB := Ext.trans eB e3_0
  have hfho3_0 : Fresh h0_0.size [h0_0.size] := Fresh.one _
  have hlho3_0 := OS.lt ho3_0
  try simp -implicitDefEqProofs (disch := first | decide | assumption | omega) only [go_sem, RdS.len (OS.rd ho3_0) sl26, RdS.idx (OS.rd ho3_0) sl26, RdS.cellN (OS.rd ho3_0), RdS.cells (OS.rd ho3_0), wrap_id]
  refine hK _ _ ?_
  clear hK K
  refine den_seq ?_
  refine den_seq ?_
  refine den_region TTok ?_
  intro K hK
  simp -implicitDefEqProofs (disch := first | decide | assumption | omega) only [go_sem, wrap_id]
  refine hK _ _ ?_
  clear hK K
  refine den_block ?_
  refine den_sel [5, 6, 1, 2] ?_
  intro env_2
  simp only [go_sem]
  refine den_loopS (σ := Nat × Value × List Nat) (fun st_ => [(5, st_.2.1), (6, .int .i64 (st_.1 : Int))]) (fun st_ H => ((st_.1 : Int) ≤ dimP X n) ∧ (O2 H st_.2.1 (List.replicate st_.1 []) st_.2.2) ∧ (Fresh (h0_0.size) st_.2.2) ∧ (Sub [h0_0.size] h3_0.size st_.2.2) ∧ (Chg [h0_0.size] h3_0 H)) (fun st_ => (dimP X n).toNat - st_.1) (0, v3_0, [h0_0.size]) ?_ ?_
  ·exact ⟨by first | (simp; done) | (dsimp only; omega) | (simp; omega), by simpa using ho3_0, hfho3_0, Sub.refl, Chg.refl _ _⟩
  ·rintro ⟨k, vhI, fphI⟩ h5 ee4 ⟨hi0, hI, hfhI, sbhI, cL3⟩
   dsimp only at hi0 hI hfhI sbhI cL3
   replace hb0_0 := BoxAt.chgA hb0_0 cL3 (apart_lt hlhb0_0 hfho3_0 (by omega))
   have := cL3.size
   replace eB := Ext.then eB cL3 (ge_of hfho3_0 (by omega))
   have hlhI := OS.lt hI
   simp only [List.cons_append, List.nil_append]
   have hlr : (List.replicate k ([] : List Int)).length = k := List.length_replicate
   refine den_seq ?_
   refine den_seq ?_
   refine den_region TTok ?_
   intro K hK
   simp -implicitDefEqProofs (disch := first | decide | assumption | omega) only [go_sem, ld31, RdS.len hdX sl22, RdS.idx hdX sl22, R1.intB hdX (Ext.pres eB), RdS.cells hdX, RdS.len hmX sl23, RdS.idx hmX sl23, RdS.cellB hmX (Ext.pres eB), RdS.cells hmX, BoxAt.cell hb0_0, wrap_id]
   try simp -implicitDefEqProofs (disch := first | decide | assumption | omega) only [go_sem, wrap_id]
   refine CallA.mono (sDim_ok _ X _ _ ⟨_, _, rfl, (RdS.pres hdX (Ext.pres eB)), (RdS.pres hmX (Ext.pres eB))⟩) ?_
   intro v_ h5_3
   rintro ⟨rfl, e5_3⟩
   replace hI := OS.ext hI e5_3
   replace hb0_0 := BoxAt.ext hb0_0 e5_3
   have := Ext.size e5_3
   replace eB := Ext.trans eB e5_3
   replace cL3 := Chg.stepE cL3 e5_3
   try simp -implicitDefEqProofs (disch := first | decide | assumption | omega) only [go_sem, wrap_id]
   refine hK _ _ ?_
   clear hK K
   refine den_cond rfl (fun c1 => ?_) (fun c1 => ?_)
   ·try simp only [decide_eq_true_eq, decide_eq_false_iff_not, beq_iff_eq, beq_eq_false_iff_ne, bne_iff_ne, ne_eq, Bool.not_eq_true', Bool.not_eq_false', Bool.and_eq_true, Bool.or_eq_true, bne_eq_false_iff_eq, in3_iff, in3_f] at c1
    refine den_skip ?_
    refine den_seq ?_
    refine den_block ?_
    refine den_region TTok ?_
    intro K hK
    simp -implicitDefEqProofs (disch := first | decide | assumption | omega) only [go_sem, RdS.len (OS.rd hI) sl26, RdS.idx (OS.rd hI) sl26, RdS.cellN (OS.rd hI), RdS.cells (OS.rd hI), wrap_id]
    refine op_bs0 sz22 OI ?_
    intro v7_1 h7_1 ho7_1 e7_1
    replace hI := OS.ext hI e7_1
    replace hb0_0 := BoxAt.ext hb0_0 e7_1
    have := Ext.size e7_1
    replace eB := Ext.trans eB e7_1
    replace cL3 := Chg.stepE cL3 e7_1
    have hfho7_1 : Fresh h5_3.size [h5_3.size] := Fresh.one _
    have hlho7_1 := OS.lt ho7_1
    try simp -implicitDefEqProofs (disch := first | decide | assumption | omega) only [go_sem, wrap_id]
    refine op_bs1 sz26 rfl (OS.one ho7_1).2 ?_
    try simp -implicitDefEqProofs (disch := first | decide | assumption | omega) only [go_sem, wrap_id]
    refine op_append1 sz26 hI hfhI.nodup ho7_1 hfho7_1.nodup (apart_lt hlhI hfho7_1 (by omega)) (by first | omega | (simp; omega)) rfl rfl ?_
    intro v7_3 h7_3 fp7_3 ho7_3 hn7_3 hs7_3 c7_3
    have hsz7_3 := c7_3.size
    have hfho7_3 : Fresh h0_0.size fp7_3 := Fresh.appd hfhI hfho7_1 (by omega) (by omega) hn7_3 hs7_3
    have sb6 : Sub [h0_0.size] h3_0.size fp7_3 := Sub.grow sbhI (Sub.fresh hfho7_1 (by omega)) (by omega) hs7_3
    replace hb0_0 := BoxAt.chgA hb0_0 c7_3 (apart_lt hlhb0_0 hfhI (by omega))
    have := c7_3.size
    replace eB := Ext.then eB c7_3 (ge_of hfhI (by omega))
    replace cL3 := Chg.step cL3 c7_3 sbhI
    have hlho7_3 := OS.lt ho7_3
    try simp -implicitDefEqProofs (disch := first | decide | assumption | omega) only [go_sem, RdS.len (OS.rd ho7_3) sl26, RdS.idx (OS.rd ho7_3) sl26, RdS.cellN (OS.rd ho7_3), RdS.cells (OS.rd ho7_3), wrap_id]
    refine hK _ _ ?_
    clear hK K
    refine den_blk ?_
    refine den_region TTok ?_
    intro K hK
    simp -implicitDefEqProofs (disch := first | decide | assumption | omega) only [go_sem, wrap_id]
    refine hK _ _ ?_
    clear hK K
    refine den_stop ?_
    rw [← List.replicate_succ'] at ho7_3
    exact ⟨(k + 1, v7_3, fp7_3), by simp [HasL, puts_at], ⟨by first | omega | (dsimp only; omega), ho7_3, hfho7_3, sb6, cL3⟩, by first | omega | (dsimp only; omega)⟩
   ·try simp only [decide_eq_true_eq, decide_eq_false_iff_not, beq_iff_eq, beq_eq_false_iff_ne, bne_iff_ne, ne_eq, Bool.not_eq_true', Bool.not_eq_false', Bool.and_eq_true, Bool.or_eq_true, bne_eq_false_iff_eq, in3_iff, in3_f] at c1
    refine den_exit ?_
    refine denX_code ?_
    refine denX_stop ?_
    refine denX_hit ?_
    refine den_seq ?_
    refine den_region TTok ?_
    intro K hK
    simp -implicitDefEqProofs (disch := first | decide | assumption | omega) only [go_sem, RdS.len (OS.rd hI) sl26, RdS.idx (OS.rd hI) sl26, RdS.cellN (OS.rd hI), RdS.cells (OS.rd hI), wrap_id]
    refine hK _ _ ?_
    clear hK K
    refine den_ret ?_
    simp (disch := decide) only [resP_1, puts_same, puts_ne]
    have e : dimP X n = 0 := by rw [dimP, if_neg (by rw [in3_iff]; omega)]
    exact ⟨_, rfl, by rw [mapP, if_neg (by rw [in3_iff]; omega), e]; exact RdS.nilF (OS.rd hI) (by rw [show k = 0 by omega]; rfl), eB⟩

set_option maxRecDepth 100000 in
set_option maxHeartbeats 4000000 in
theorem sPart_ok (vX : Value) (X : Fl) (q : Int) (h : Heap) (rX : RF h vX X)  : CallA Try.prog 20 #[vX, .int .i64 q] h fun v' h' => ∃ wd0 wm0 wv0 fd0 fm0 fv0, v' = .tuple #[.agg #[.int .i64 ((partR X q).1).c.p, wd0, wm0, wv0], .int .i64 ((partR X q).2)] ∧ O1 h' wd0 ((partR X q).1).c.dims fd0 ∧ O3 h' wm0 ((partR X q).1).c.maps fm0 ∧ O2 h' wv0 ((partR X q).1).lv fv0 ∧ Fresh h.size (fd0 ++ (fm0 ++ fv0)) ∧ Ext h h' := by
 obtain ⟨vdX, vmX, vvX, rfl, hdX, hmX, hvX⟩ := rX
 have hledX := RdS.le hdX
 have hlemX := RdS.le hmX
 have hlevX := RdS.le hvX
 refine callA_intro TTok (args := [_, _]) Try.func20 (by kernel_rfl) rfl 132 rfl (by simp) [.cell 4 33, .tmp 5] rfl ?_
 simp only [idxs, Nat.reduceAdd]
 refine den_seq ?_
 refine den_region TTok ?_
 intro K hK
 simp -implicitDefEqProofs (disch := first | decide | assumption | omega) only [go_sem, wrap_id, bF0]
 refine op_box (cs := #[.int .i64 (X.c.p), vdX, vmX, vvX]) rfl ?_
 intro h0_0 e0_0 hb0_0 z0_0
 have := Ext.size e0_0
 have eB := e0_0
 have hfhb0_0 : Fresh h.size [h.size] := Fresh.one _
 have hlhb0_0 := one_lt (show h.size < h0_0.size by omega)
 try simp -implicitDefEqProofs (disch := first | decide | assumption | omega) only [go_sem, wrap_id, bF0]
 refine op_alloc (cs := #[.int .i64 0, .slice none 0 0, .slice none 0 0, .slice none 0 0]) (by kernel_rfl) ?_
 intro h0_1 e0_1 hb0_1 z0_1
 replace hb0_0 := BoxAt.ext hb0_0 e0_1
 have := Ext.size e0_1
 replace eB := Ext.trans eB e0_1
 have hfhb0_1 : Fresh h0_0.size [h0_0.size] := Fresh.one _
 have hlhb0_1 := one_lt (show h0_0.size < h0_1.size by omega)
 try simp -implicitDefEqProofs (disch := first | decide | assumption | omega) only [go_sem, wrap_id, bF0]
 refine hK _ _ ?_
 clear hK K
 refine den_seq ?_
 refine den_block ?_
 refine den_seq ?_
 refine den_region TTok ?_
 intro K hK
 simp -implicitDefEqProofs (disch := first | decide | assumption | omega) only [go_sem, ld33, RdS.len hdX sl22, RdS.idx hdX sl22, R1.intB hdX (Ext.pres eB), RdS.cells hdX, RdS.len hmX sl23, RdS.idx hmX sl23, RdS.cellB hmX (Ext.pres eB), RdS.cells hmX, RdS.len hvX sl26, RdS.idx hvX sl26, RdS.cellB hvX (Ext.pres eB), RdS.cells hvX, BoxAt.cell hb0_0, wrap_id, bF0]
 try simp -implicitDefEqProofs (disch := first | decide | assumption | omega) only [go_sem, BoxAt.cell hb0_1, wrap_id, bF0]
 refine CallA.mono (sIsF_ok _ X _ ⟨_, _, _, rfl, (RdS.pres hdX (Ext.pres eB)), (RdS.pres hmX (Ext.pres eB)), (RdS.pres hvX (Ext.pres eB))⟩ ) ?_
 intro v_ h1_1
 rintro ⟨rfl, e1_1⟩
 replace hb0_0 := BoxAt.ext hb0_0 e1_1
 replace hb0_1 := BoxAt.ext hb0_1 e1_1
 have := Ext.size e1_1
 replace eB := Ext.trans eB e1_1
 try simp -implicitDefEqProofs (disch := first | decide | assumption | omega) only [go_sem, wrap_id, bF0]
 refine hK _ _ ?_
 clear hK K
 refine den_cond rfl (fun c0 => ?_) (fun c0 => ?_)
 ·try simp only [decide_eq_true_eq, decide_eq_false_iff_not, beq_iff_eq, beq_eq_false_iff_ne, bne_iff_ne, ne_eq, Bool.not_eq_true', Bool.not_eq_false', Bool.and_eq_true, Bool.or_eq_true, bne_eq_false_iff_eq, Bool.not_eq_true, Bool.not_eq_false] at c0
  refine den_seq ?_
  refine den_region TTok ?_
  intro K hK
  simp -implicitDefEqProofs (disch := first | decide | assumption | omega) only [go_sem, wrap_id, bF0]
  refine op_storeB (cs' := #[.int .i64 ((0 : Int)), .slice none 0 0, .slice none 0 0, .slice none 0 0]) st33 hb0_1 rfl rfl rfl (by simp) (allOne_mem (l := [.int .i64 ((0 : Int)), .slice none 0 0, .slice none 0 0, .slice none 0 0]) ⟨rfl, rfl, rfl, rfl, trivial⟩) rfl ?_
  intro h2_1 hb0_1 c2_1
  have := c2_1.size
  replace eB := Ext.then eB c2_1 (ge_of hfhb0_1 (by omega))
  try simp -implicitDefEqProofs (disch := first | decide | assumption | omega) only [go_sem, wrap_id, bF0]
  refine hK _ _ ?_
  clear hK K
  refine den_ret ?_
  simp -implicitDefEqProofs (disch := first | decide | assumption | omega) only [go_sem, BoxAt.cell hb0_1, wrap_id, bF0, resP_ct, ld33]
  have hz : partR X q = (⟨⟨0, [], []⟩, []⟩, 1) := by rw [partR, if_neg (by rw [c0]; decide)]
  rw [hz]
  exact ⟨.slice none 0 0, .slice none 0 0, .slice none 0 0, [], [], [], rfl, OS.nil, OS.nil, OS.nil, Fresh.nil _, eB⟩
 ·try simp only [decide_eq_true_eq, decide_eq_false_iff_not, beq_iff_eq, beq_eq_false_iff_ne, bne_iff_ne, ne_eq, Bool.not_eq_true', Bool.not_eq_false', Bool.and_eq_true, Bool.or_eq_true, bne_eq_false_iff_eq, Bool.not_eq_true, Bool.not_eq_false] at c0
  have hF := isF_t.1 c0
  have hC := hF.c
  have hlC := hC.len
  have hml := hC.ml
  have hln := hF.ln
  have hpb := isP_bnd hC.p
  refine den_seq ?_
  refine den_region TTok ?_
  intro K hK
  simp -implicitDefEqProofs (disch := first | decide | assumption | omega) only [go_sem, wrap_id, bF0]
  try simp -implicitDefEqProofs (disch := first | decide | assumption | omega) only [go_sem, BoxAt.cell hb0_1, wrap_id, bF0]
  refine CallA.pure (sIn_ok _ _ _ _) ?_
  try simp -implicitDefEqProofs (disch := first | decide | assumption | omega) only [go_sem, wrap_id, bF0]
  refine hK _ _ ?_
  clear hK K
  refine den_cond rfl (fun c1 => ?_) (fun c1 => ?_)
  ·try simp only [decide_eq_true_eq, decide_eq_false_iff_not, beq_iff_eq, beq_eq_false_iff_ne, bne_iff_ne, ne_eq, Bool.not_eq_true', Bool.not_eq_false', Bool.and_eq_true, Bool.or_eq_true, bne_eq_false_iff_eq, Bool.not_eq_true, Bool.not_eq_false] at c1
   refine den_seq ?_
   refine den_region TTok ?_
   intro K hK
   simp -implicitDefEqProofs (disch := first | decide | assumption | omega) only [go_sem, wrap_id, bF0]
   refine op_storeB (cs' := #[.int .i64 ((0 : Int)), .slice none 0 0, .slice none 0 0, .slice none 0 0]) st33 hb0_1 rfl rfl rfl (by simp) (allOne_mem (l := [.int .i64 ((0 : Int)), .slice none 0 0, .slice none 0 0, .slice none 0 0]) ⟨rfl, rfl, rfl, rfl, trivial⟩) rfl ?_
   intro h4_1 hb0_1 c4_1
   have := c4_1.size
   replace eB := Ext.then eB c4_1 (ge_of hfhb0_1 (by omega))
   try simp -implicitDefEqProofs (disch := first | decide | assumption | omega) only [go_sem, wrap_id, bF0]
   refine hK _ _ ?_
   clear hK K
   refine den_ret ?_
   simp -implicitDefEqProofs (disch := first | decide | assumption | omega) only [go_sem, BoxAt.cell hb0_1, wrap_id, bF0, resP_ct, ld33]
   have hz : partR X q = (⟨⟨0, [], []⟩, []⟩, 2) := by rw [partR, if_pos c0, if_neg (by rw [c1]; decide)]
   rw [hz]
   exact ⟨.slice none 0 0, .slice none 0 0, .slice none 0 0, [], [], [], rfl, OS.nil, OS.nil, OS.nil, Fresh.nil _, eB⟩
  ·try simp only [decide_eq_true_eq, decide_eq_false_iff_not, beq_iff_eq, beq_eq_false_iff_ne, bne_iff_ne, ne_eq, Bool.not_eq_true', Bool.not_eq_false', Bool.and_eq_true, Bool.or_eq_true, bne_eq_false_iff_eq, Bool.not_eq_true, Bool.not_eq_false] at c1
   have hq5 := in3_iff.1 c1
   refine den_skip ?_
   refine den_blk ?_
   refine den_seq ?_
   refine den_region TTok ?_
   intro K hK
   simp -implicitDefEqProofs (disch := first | decide | assumption | omega) only [go_sem, fa31_0, fa33_0, ld2, RdS.len hdX sl22, RdS.idx hdX sl22, R1.intB hdX (Ext.pres eB), RdS.cells hdX, RdS.len hmX sl23, RdS.idx hmX sl23, RdS.cellB hmX (Ext.pres eB), RdS.cells hmX, RdS.len hvX sl26, RdS.idx hvX sl26, RdS.cellB hvX (Ext.pres eB), RdS.cells hvX, BoxAt.cell hb0_0, wrap_id, bF0]
   refine op_bs0 sz22 OI ?_
   intro v5_3 h5_3 ho5_3 e5_3
   replace hb0_0 := BoxAt.ext hb0_0 e5_3
   replace hb0_1 := BoxAt.ext hb0_1 e5_3
   have := Ext.size e5_3
   replace eB := Ext.trans eB e5_3
   have hfho5_3 : Fresh h1_1.size [h1_1.size] := Fresh.one _
   have hlho5_3 := OS.lt ho5_3
   try simp -implicitDefEqProofs (disch := first | decide | assumption | omega) only [go_sem, BoxAt.cell hb0_1, wrap_id, bF0]
   refine op_bs0 sz23 O2 ?_
   intro v5_4 h5_4 ho5_4 e5_4
   replace ho5_3 := OS.ext ho5_3 e5_4
   replace hb0_0 := BoxAt.ext hb0_0 e5_4
   replace hb0_1 := BoxAt.ext hb0_1 e5_4
   have := Ext.size e5_4
   replace eB := Ext.trans eB e5_4
   have hfho5_4 : Fresh h5_3.size [h5_3.size] := Fresh.one _
   have hlho5_4 := OS.lt ho5_4
   try simp -implicitDefEqProofs (disch := first | decide | assumption | omega) only [go_sem, RdS.len (OS.rd ho5_3) sl22, RdS.idx (OS.rd ho5_3) sl22, R1.intN (OS.rd ho5_3), RdS.cells (OS.rd ho5_3), RdS.len (OS.rd ho5_4) sl23, RdS.idx (OS.rd ho5_4) sl23, RdS.cellN (OS.rd ho5_4), RdS.cells (OS.rd ho5_4), wrap_id, bF0, bC3 (OS.isSl ho5_3) (OS.isSl ho5_4)]
   refine op_bs0 sz26 O1 ?_
   intro v5_6 h5_6 ho5_6 e5_6
   replace ho5_3 := OS.ext ho5_3 e5_6
   replace ho5_4 := OS.ext ho5_4 e5_6
   replace hb0_0 := BoxAt.ext hb0_0 e5_6
   replace hb0_1 := BoxAt.ext hb0_1 e5_6
   have := Ext.size e5_6
   replace eB := Ext.trans eB e5_6
   have hfho5_6 : Fresh h5_4.size [h5_4.size] := Fresh.one _
   have hlho5_6 := OS.lt ho5_6
   try simp -implicitDefEqProofs (disch := first | decide | assumption | omega) only [go_sem, RdS.len (OS.rd ho5_3) sl22, RdS.idx (OS.rd ho5_3) sl22, R1.intN (OS.rd ho5_3), RdS.cells (OS.rd ho5_3), RdS.len (OS.rd ho5_4) sl23, RdS.idx (OS.rd ho5_4) sl23, RdS.cellN (OS.rd ho5_4), RdS.cells (OS.rd ho5_4), RdS.len (OS.rd ho5_6) sl26, RdS.idx (OS.rd ho5_6) sl26, RdS.cellN (OS.rd ho5_6), RdS.cells (OS.rd ho5_6), wrap_id, bF0, bC3 (OS.isSl ho5_3) (OS.isSl ho5_4), bF2 (OS.isSl ho5_3) (OS.isSl ho5_4) (OS.isSl ho5_6)]
   refine op_alloc (cs := #[.int .i64 0, .slice none 0 0, .slice none 0 0, .slice none 0 0]) (by kernel_rfl) ?_
   intro h5_8 e5_8 hb5_8 z5_8
   replace ho5_3 := OS.ext ho5_3 e5_8
   replace ho5_4 := OS.ext ho5_4 e5_8
   replace ho5_6 := OS.ext ho5_6 e5_8
   replace hb0_0 := BoxAt.ext hb0_0 e5_8
   replace hb0_1 := BoxAt.ext hb0_1 e5_8
   have := Ext.size e5_8
   replace eB := Ext.trans eB e5_8
   have hfhb5_8 : Fresh h5_6.size [h5_6.size] := Fresh.one _
   have hlhb5_8 := one_lt (show h5_6.size < h5_8.size by omega)
   try simp -implicitDefEqProofs (disch := first | decide | assumption | omega) only [go_sem, BoxAt.cell hb0_1, wrap_id, bF0, bC3 (OS.isSl ho5_3) (OS.isSl ho5_4), bF2 (OS.isSl ho5_3) (OS.isSl ho5_4) (OS.isSl ho5_6)]
   refine op_storeB (cs' := #[.int .i64 (X.c.p), v5_3, v5_4, v5_6]) st33 hb5_8 rfl rfl rfl (by simp) (allOne_mem (l := [.int .i64 (X.c.p), v5_3, v5_4, v5_6]) ⟨rfl, (OS.one ho5_3).1, (OS.one ho5_4).1, (OS.one ho5_6).1, trivial⟩) rfl ?_
   intro h5_9 hb5_8 c5_9
   replace ho5_3 := OS.chg ho5_3 c5_9 (apart_lt hlho5_3 hfhb5_8 (by omega))
   replace ho5_4 := OS.chg ho5_4 c5_9 (apart_lt hlho5_4 hfhb5_8 (by omega))
   replace ho5_6 := OS.chg ho5_6 c5_9 (apart_lt hlho5_6 hfhb5_8 (by omega))
   replace hb0_0 := BoxAt.chgA hb0_0 c5_9 (apart_lt hlhb0_0 hfhb5_8 (by omega))
   replace hb0_1 := BoxAt.chgA hb0_1 c5_9 (apart_lt hlhb0_1 hfhb5_8 (by omega))
   have := c5_9.size
   replace eB := Ext.then eB c5_9 (ge_of hfhb5_8 (by omega))
   try simp -implicitDefEqProofs (disch := first | decide | assumption | omega) only [go_sem, BoxAt.cell hb0_1, wrap_id, bF0, bC3 (OS.isSl ho5_3) (OS.isSl ho5_4), bF2 (OS.isSl ho5_3) (OS.isSl ho5_4) (OS.isSl ho5_6)]
   refine hK _ _ ?_
   clear hK K
   refine den_seq ?_
   refine den_seq ?_
   refine den_region TTok ?_
   intro K hK
   simp -implicitDefEqProofs (disch := first | decide | assumption | omega) only [go_sem, wrap_id, bF0]
   refine hK _ _ ?_
   clear hK K
   refine den_block ?_
   refine den_sel [7, 1, 2, 4, 6] ?_
   intro env_1
   simp only [go_sem]
   refine den_loopS (σ := Nat × Value × List Nat × Value × List Nat × Value × List Nat) (fun st_ => [(7, .int .i64 (st_.1 : Int))]) (fun st_ H => (st_.1 ≤ X.lv.length) ∧ (O1 H st_.2.1 (pdmP X q st_.1) st_.2.2.1) ∧ (Fresh (h1_1.size) st_.2.2.1) ∧ (Sub ([h1_1.size] ++ ([h5_3.size] ++ ([h5_4.size] ++ ([h5_6.size])))) h5_9.size st_.2.2.1) ∧ (O3 H st_.2.2.2.1 (pmpP X q (st_.1 - 1)) st_.2.2.2.2.1) ∧ (Fresh (h5_3.size) st_.2.2.2.2.1) ∧ (Sub ([h1_1.size] ++ ([h5_3.size] ++ ([h5_4.size] ++ ([h5_6.size])))) h5_9.size st_.2.2.2.2.1) ∧ (O2 H st_.2.2.2.2.2.1 (plvP X q st_.1) st_.2.2.2.2.2.2) ∧ (Fresh (h5_4.size) st_.2.2.2.2.2.2) ∧ (Sub ([h1_1.size] ++ ([h5_3.size] ++ ([h5_4.size] ++ ([h5_6.size])))) h5_9.size st_.2.2.2.2.2.2) ∧ (BoxAt H (h5_6.size) #[.int .i64 (X.c.p), st_.2.1, st_.2.2.2.1, st_.2.2.2.2.2.1] 33) ∧ (Apart st_.2.2.1 st_.2.2.2.2.1) ∧ (Apart st_.2.2.1 st_.2.2.2.2.2.2) ∧ (Apart st_.2.2.1 [h5_6.size]) ∧ (Apart st_.2.2.2.2.1 st_.2.2.2.2.2.2) ∧ (Apart st_.2.2.2.2.1 [h5_6.size]) ∧ (Apart st_.2.2.2.2.2.2 [h5_6.size]) ∧ (Chg ([h1_1.size] ++ ([h5_3.size] ++ ([h5_4.size] ++ ([h5_6.size])))) h5_9 H)) (fun st_ => X.lv.length - st_.1) (0, v5_3, [h1_1.size], v5_4, [h5_3.size], v5_6, [h5_4.size]) ?_ ?_
   ·exact ⟨by first | (simp; done) | (dsimp only; omega) | (simp; omega), by show O1 _ _ [] _; exact ho5_3, hfho5_3, (Sub.left Sub.refl), by show O3 _ _ [] _; exact ho5_4, hfho5_4, (Sub.right (Sub.left Sub.refl)), by show O2 _ _ [] _; exact ho5_6, hfho5_6, (Sub.right (Sub.right (Sub.left Sub.refl))), by simpa using hb5_8, (apart_lt hlho5_3 hfho5_4 (by omega)), (apart_lt hlho5_3 hfho5_6 (by omega)), (apart_lt hlho5_3 hfhb5_8 (by omega)), (apart_lt hlho5_4 hfho5_6 (by omega)), (apart_lt hlho5_4 hfhb5_8 (by omega)), (apart_lt hlho5_6 hfhb5_8 (by omega)), Chg.refl _ _⟩
   ·rintro ⟨n, vhD, fphD, vhM, fphM, vhV, fphV⟩ h4 ee3 ⟨hi0, hD, hfhD, sbhD, hM, hfhM, sbhM, hV, hfhV, sbhV, hbx6, ap_hD_hM, ap_hD_hV, ap_hD_hbx6, ap_hM_hV, ap_hM_hbx6, ap_hV_hbx6, cL2⟩
    dsimp only at hi0 hD hfhD sbhD hM hfhM sbhM hV hfhV sbhV hbx6 ap_hD_hM ap_hD_hV ap_hD_hbx6 ap_hM_hV ap_hM_hbx6 ap_hV_hbx6 cL2
    replace hb0_0 := BoxAt.chgA hb0_0 cL2 (Apart.app (apart_lt hlhb0_0 hfho5_3 (by omega)) (Apart.app (apart_lt hlhb0_0 hfho5_4 (by omega)) (Apart.app (apart_lt hlhb0_0 hfho5_6 (by omega)) (apart_lt hlhb0_0 hfhb5_8 (by omega)))))
    replace hb0_1 := BoxAt.chgA hb0_1 cL2 (Apart.app (apart_lt hlhb0_1 hfho5_3 (by omega)) (Apart.app (apart_lt hlhb0_1 hfho5_4 (by omega)) (Apart.app (apart_lt hlhb0_1 hfho5_6 (by omega)) (apart_lt hlhb0_1 hfhb5_8 (by omega)))))
    have := cL2.size
    replace eB := Ext.then eB cL2 (ge_app (ge_of hfho5_3 (by omega)) (ge_app (ge_of hfho5_4 (by omega)) (ge_app (ge_of hfho5_6 (by omega)) (ge_of hfhb5_8 (by omega)))))
    have hlhD := OS.lt hD
    have hlhM := OS.lt hM
    have hlhV := OS.lt hV
    have hfhbx6 := hfhb5_8
    have hlhbx6 := hlhb5_8
    simp only [List.cons_append, List.nil_append]
    have hlD0 := pdmP_len X q n
    have hlM0 := pmpP_len X q (n - 1)
    have hlV0 := plvP_len X q n
    have hkl := keptP_len hF (n : Int) q
    have hkl2 := keptP_len hF ((n : Int) - 1) q
    refine den_seq ?_
    refine den_seq ?_
    refine den_region TTok ?_
    intro K hK
    simp -implicitDefEqProofs (disch := first | decide | assumption | omega) only [go_sem, fa33_1, ld26, RdS.len hdX sl22, RdS.idx hdX sl22, R1.intB hdX (Ext.pres eB), RdS.cells hdX, RdS.len hmX sl23, RdS.idx hmX sl23, RdS.cellB hmX (Ext.pres eB), RdS.cells hmX, RdS.len hvX sl26, RdS.idx hvX sl26, RdS.cellB hvX (Ext.pres eB), RdS.cells hvX, BoxAt.cell hb0_0, wrap_id, bF0]
    refine hK _ _ ?_
    clear hK K
    refine den_cond rfl (fun c2 => ?_) (fun c2 => ?_)
    ·try simp only [decide_eq_true_eq, decide_eq_false_iff_not, beq_iff_eq, beq_eq_false_iff_ne, bne_iff_ne, ne_eq, Bool.not_eq_true', Bool.not_eq_false', Bool.and_eq_true, Bool.or_eq_true, bne_eq_false_iff_eq, Bool.not_eq_true, Bool.not_eq_false] at c2
     refine den_skip ?_
     refine den_seq ?_
     refine den_block ?_
     refine den_seq ?_
     refine den_region TTok ?_
     intro K hK
     simp -implicitDefEqProofs (disch := first | decide | assumption | omega) only [go_sem, ld33, RdS.len hdX sl22, RdS.idx hdX sl22, R1.intB hdX (Ext.pres eB), RdS.cells hdX, RdS.len hmX sl23, RdS.idx hmX sl23, RdS.cellB hmX (Ext.pres eB), RdS.cells hmX, RdS.len hvX sl26, RdS.idx hvX sl26, RdS.cellB hvX (Ext.pres eB), RdS.cells hvX, BoxAt.cell hb0_0, wrap_id, bF0]
     try simp -implicitDefEqProofs (disch := first | decide | assumption | omega) only [go_sem, BoxAt.cell hb0_1, wrap_id, bF0]
     refine CallA.mono (sKept_ok _ X (n : Int) q _ ⟨_, _, _, rfl, (RdS.pres hdX (Ext.pres eB)), (RdS.pres hmX (Ext.pres eB)), (RdS.pres hvX (Ext.pres eB))⟩ hF (by omega)) ?_
     intro vw9_3_0 h9_3
     rintro ⟨zvw9_3_0, fw9_3_0, rfl, how9_3_0, hfw9_3_0, e9_3⟩
     replace hD := OS.ext hD e9_3
     replace hM := OS.ext hM e9_3
     replace hV := OS.ext hV e9_3
     replace hb0_0 := BoxAt.ext hb0_0 e9_3
     replace hb0_1 := BoxAt.ext hb0_1 e9_3
     replace hbx6 := BoxAt.ext hbx6 e9_3
     have := Ext.size e9_3
     replace eB := Ext.trans eB e9_3
     replace cL2 := Chg.stepE cL2 e9_3
     have hlhow9_3_0 := OS.lt how9_3_0
     try simp -implicitDefEqProofs (disch := first | decide | assumption | omega) only [go_sem, BoxAt.cell hb0_1, wrap_id, bF0]
     refine op_bs0 sz22 OI ?_
     intro v9_4 h9_4 ho9_4 e9_4
     replace hD := OS.ext hD e9_4
     replace hM := OS.ext hM e9_4
     replace hV := OS.ext hV e9_4
     replace how9_3_0 := OS.ext how9_3_0 e9_4
     replace hb0_0 := BoxAt.ext hb0_0 e9_4
     replace hb0_1 := BoxAt.ext hb0_1 e9_4
     replace hbx6 := BoxAt.ext hbx6 e9_4
     have := Ext.size e9_4
     replace eB := Ext.trans eB e9_4
     replace cL2 := Chg.stepE cL2 e9_4
     have hfho9_4 : Fresh h9_3.size [h9_3.size] := Fresh.one _
     have hlho9_4 := OS.lt ho9_4
     try simp -implicitDefEqProofs (disch := first | decide | assumption | omega) only [go_sem, RdS.len (OS.rd how9_3_0) sl22, RdS.idx (OS.rd how9_3_0) sl22, R1.intN (OS.rd how9_3_0), RdS.cells (OS.rd how9_3_0), RdS.len (OS.rd ho9_4) sl22, RdS.idx (OS.rd ho9_4) sl22, R1.intN (OS.rd ho9_4), RdS.cells (OS.rd ho9_4), wrap_id, bF0]
     refine hK _ _ ?_
     clear hK K
     refine den_seq ?_
     refine den_seq ?_
     refine den_region TTok ?_
     intro K hK
     simp -implicitDefEqProofs (disch := first | decide | assumption | omega) only [go_sem, wrap_id, bF0]
     refine hK _ _ ?_
     clear hK K
     refine den_block ?_
     refine den_sel [9, 10, 1, 2, 4, 6, 7, 8] ?_
     intro env_5
     simp only [go_sem]
     refine den_loopS (σ := Nat × Value × List Nat) (fun st_ => [(9, st_.2.1), (10, .int .i64 (st_.1 : Int))]) (fun st_ H => (st_.1 ≤ (keptP X (n : Int) q).length) ∧ (O1 H st_.2.1 (((keptP X (n : Int) q).take st_.1).map fun z : Int => lvP X (n : Int) z) st_.2.2) ∧ (Fresh (h9_3.size) st_.2.2) ∧ (Sub [h9_3.size] h9_4.size st_.2.2) ∧ (Chg [h9_3.size] h9_4 H)) (fun st_ => (keptP X (n : Int) q).length - st_.1) (0, v9_4, [h9_3.size]) ?_ ?_
     ·exact ⟨by first | (simp; done) | (dsimp only; omega) | (simp; omega), by simpa using ho9_4, hfho9_4, Sub.refl, Chg.refl _ _⟩
     ·rintro ⟨i, vhL, fphL⟩ h8 ee7 ⟨hi0, hL, hfhL, sbhL, cL6⟩
      dsimp only at hi0 hL hfhL sbhL cL6
      replace hD := OS.chg hD cL6 (apart_lt hlhD hfho9_4 (by omega))
      replace hM := OS.chg hM cL6 (apart_lt hlhM hfho9_4 (by omega))
      replace hV := OS.chg hV cL6 (apart_lt hlhV hfho9_4 (by omega))
      replace how9_3_0 := OS.chg how9_3_0 cL6 (apart_lt hlhow9_3_0 hfho9_4 (by omega))
      replace hb0_0 := BoxAt.chgA hb0_0 cL6 (apart_lt hlhb0_0 hfho9_4 (by omega))
      replace hb0_1 := BoxAt.chgA hb0_1 cL6 (apart_lt hlhb0_1 hfho9_4 (by omega))
      replace hbx6 := BoxAt.chgA hbx6 cL6 (apart_lt hlhbx6 hfho9_4 (by omega))
      have := cL6.size
      replace eB := Ext.then eB cL6 (ge_of hfho9_4 (by omega))
      replace cL2 := Chg.step cL2 cL6 (Sub.fresh hfho9_4 (by omega))
      have hlhL := OS.lt hL
      simp only [List.cons_append, List.nil_append]
      refine den_seq ?_
      refine den_seq ?_
      refine den_region TTok ?_
      intro K hK
      simp -implicitDefEqProofs (disch := first | decide | assumption | omega) only [go_sem, RdS.len (OS.rd how9_3_0) sl22, RdS.idx (OS.rd how9_3_0) sl22, R1.intN (OS.rd how9_3_0), RdS.cells (OS.rd how9_3_0), wrap_id, bF0]
      refine hK _ _ ?_
      clear hK K
      refine den_cond rfl (fun c3 => ?_) (fun c3 => ?_)
      ·try simp only [decide_eq_true_eq, decide_eq_false_iff_not, beq_iff_eq, beq_eq_false_iff_ne, bne_iff_ne, ne_eq, Bool.not_eq_true', Bool.not_eq_false', Bool.and_eq_true, Bool.or_eq_true, bne_eq_false_iff_eq, Bool.not_eq_true, Bool.not_eq_false] at c3
       refine den_skip ?_
       refine den_seq ?_
       refine den_block ?_
       have hlp := lvl_pre hF (n := (n : Int)) (q := q) (i := i) (by omega)
       have hlv1 := hlp.2.2.2
       have hmt : (((keptP X (n : Int) q).take i).map fun z : Int => lvP X (n : Int) z).length ≤ 8 := by rw [List.length_map, List.length_take]; omega
       refine den_draw TTok mixed [9] [(0, true), (1, true), (2, true), (3, true), (4, true), (5, true), (6, true), (7, false), (8, false), (9, false), (10, true)] (by kernel_rfl) ?_
       intro K hK
       simp -implicitDefEqProofs (disch := first | decide | assumption | omega) only [go_sem, ld2, ld33, RdS.len hdX sl22, RdS.idx hdX sl22, R1.intB hdX (Ext.pres eB), RdS.cells hdX, RdS.len hmX sl23, RdS.idx hmX sl23, RdS.cellB hmX (Ext.pres eB), RdS.cells hmX, RdS.len hvX sl26, RdS.idx hvX sl26, RdS.cellB hvX (Ext.pres eB), RdS.cells hvX, RdS.len (OS.rd how9_3_0) sl22, RdS.idx (OS.rd how9_3_0) sl22, R1.intN (OS.rd how9_3_0), RdS.cells (OS.rd how9_3_0), RdS.len (OS.rd hL) sl22, RdS.idx (OS.rd hL) sl22, R1.intN (OS.rd hL), RdS.cells (OS.rd hL), BoxAt.cell hb0_0, wrap_id, bF0]
       try simp -implicitDefEqProofs (disch := first | decide | assumption | omega) only [go_sem, BoxAt.cell hb0_1, wrap_id, bF0]
       refine CallA.mono (sLev_ok _ X (n : Int) ((keptP X (n : Int) q).getD i 0) _ ⟨_, _, _, rfl, (RdS.pres hdX (Ext.pres eB)), (RdS.pres hmX (Ext.pres eB)), (RdS.pres hvX (Ext.pres eB))⟩ (by omega) hlv1) ?_
       intro v_ h13_7
       rintro ⟨rfl, e13_7⟩
       replace hD := OS.ext hD e13_7
       replace hM := OS.ext hM e13_7
       replace hV := OS.ext hV e13_7
       replace how9_3_0 := OS.ext how9_3_0 e13_7
       replace hL := OS.ext hL e13_7
       replace hb0_0 := BoxAt.ext hb0_0 e13_7
       replace hb0_1 := BoxAt.ext hb0_1 e13_7
       replace hbx6 := BoxAt.ext hbx6 e13_7
       have := Ext.size e13_7
       replace eB := Ext.trans eB e13_7
       replace cL2 := Chg.stepE cL2 e13_7
       replace cL6 := Chg.stepE cL6 e13_7
       try simp (disch := decide) only [outv_some, outv_none, put_puts]
       refine plK_pres (Ext.pres e13_7) ?_
       try simp -implicitDefEqProofs (disch := first | decide | assumption | omega) only [go_sem, BoxAt.cell hb0_1, wrap_id, bF0]
       refine op_bs1 sz22 rfl rfl ?_
       try simp (disch := decide) only [outv_some, outv_none, put_puts]
       refine plK_pres (Ext.pres (Ext.push _ _)) ?_
       try simp -implicitDefEqProofs (disch := first | decide | assumption | omega) only [go_sem, BoxAt.cell hb0_1, wrap_id, bF0]
       refine op_append1 sz22 hL hfhL.nodup ⟨rfl, rfl⟩ List.nodup_nil (Apart.nil _) (by first | omega | (simp; omega)) rfl rfl ?_
       intro v13_9 h13_9 fp13_9 ho13_9 hn13_9 hs13_9 c13_9
       have hsz13_9 := c13_9.size
       have hfho13_9 : Fresh h9_3.size fp13_9 := Fresh.appd hfhL (Fresh.nil h13_7.size) (by omega) (by omega) hn13_9 hs13_9
       have sb9 : Sub [h9_3.size] h9_4.size fp13_9 := Sub.grow sbhL Sub.nil (by omega) hs13_9
       replace hD := OS.chg hD c13_9 (apart_lt hlhD hfhL (by omega))
       replace hM := OS.chg hM c13_9 (apart_lt hlhM hfhL (by omega))
       replace hV := OS.chg hV c13_9 (apart_lt hlhV hfhL (by omega))
       replace how9_3_0 := OS.chg how9_3_0 c13_9 (apart_lt hlhow9_3_0 hfhL (by omega))
       replace hb0_0 := BoxAt.chgA hb0_0 c13_9 (apart_lt hlhb0_0 hfhL (by omega))
       replace hb0_1 := BoxAt.chgA hb0_1 c13_9 (apart_lt hlhb0_1 hfhL (by omega))
       replace hbx6 := BoxAt.chgA hbx6 c13_9 (apart_lt hlhbx6 hfhL (by omega))
       have := c13_9.size
       replace eB := Ext.then eB c13_9 (ge_of hfhL (by omega))
       replace cL2 := Chg.step cL2 c13_9 (Sub.fresh hfhL (by omega))
       replace cL6 := Chg.step cL6 c13_9 sbhL
       have hlho13_9 := OS.lt ho13_9
       try simp (disch := decide) only [outv_some, outv_none, put_puts]
       refine plK_last (by decide) ?_
       try simp -implicitDefEqProofs (disch := first | decide | assumption | omega) only [go_sem, RdS.len (OS.rd ho13_9) sl22, RdS.idx (OS.rd ho13_9) sl22, R1.intN (OS.rd ho13_9), RdS.cells (OS.rd ho13_9), wrap_id, bF0]
       refine hK _ _ ?_
       clear hK K
       refine den_blk ?_
       refine den_region TTok ?_
       intro K hK
       simp -implicitDefEqProofs (disch := first | decide | assumption | omega) only [go_sem, wrap_id, bF0]
       refine hK _ _ ?_
       clear hK K
       refine den_stop ?_
       rw [map_takeL (f := fun z : Int => lvP X (n : Int) z) (d := 0) (by omega)] at ho13_9
       exact ⟨(i + 1, v13_9, fp13_9), by simp [HasL, puts_at], ⟨by first | omega | (dsimp only; omega), ho13_9, hfho13_9, sb9, cL6⟩, by first | omega | (dsimp only; omega)⟩
      ·try simp only [decide_eq_true_eq, decide_eq_false_iff_not, beq_iff_eq, beq_eq_false_iff_ne, bne_iff_ne, ne_eq, Bool.not_eq_true', Bool.not_eq_false', Bool.and_eq_true, Bool.or_eq_true, bne_eq_false_iff_eq, Bool.not_eq_true, Bool.not_eq_false] at c3
       refine den_exit ?_
       refine denX_code ?_
       refine denX_stop ?_
       refine denX_hit ?_
       refine den_seq ?_
       refine den_region TTok ?_
       intro K hK
       simp -implicitDefEqProofs (disch := first | decide | assumption | omega) only [go_sem, fa31_1, fa33_0, ld22, RdS.len (OS.rd hD) sl22, RdS.idx (OS.rd hD) sl22, R1.intN (OS.rd hD), RdS.cells (OS.rd hD), RdS.len (OS.rd hM) sl23, RdS.idx (OS.rd hM) sl23, RdS.cellN (OS.rd hM), RdS.cells (OS.rd hM), RdS.len (OS.rd hV) sl26, RdS.idx (OS.rd hV) sl26, RdS.cellN (OS.rd hV), RdS.cells (OS.rd hV), RdS.len (OS.rd how9_3_0) sl22, RdS.idx (OS.rd how9_3_0) sl22, R1.intN (OS.rd how9_3_0), RdS.cells (OS.rd how9_3_0), BoxAt.cell hbx6, wrap_id, bF0]
       refine op_bs1 sz22 rfl rfl ?_
       try simp -implicitDefEqProofs (disch := first | decide | assumption | omega) only [go_sem, BoxAt.cell hb0_1, wrap_id, bF0]
       refine op_append1 sz22 hD hfhD.nodup ⟨rfl, rfl⟩ List.nodup_nil (Apart.nil _) (by first | omega | (simp; omega)) rfl rfl ?_
       intro v14_6 h14_6 fp14_6 ho14_6 hn14_6 hs14_6 c14_6
       have hsz14_6 := c14_6.size
       have hfho14_6 : Fresh h1_1.size fp14_6 := Fresh.appd hfhD (Fresh.nil h8.size) (by omega) (by omega) hn14_6 hs14_6
       have sb10 : Sub ([h1_1.size] ++ ([h5_3.size] ++ ([h5_4.size] ++ ([h5_6.size])))) h5_9.size fp14_6 := Sub.grow sbhD Sub.nil (by omega) hs14_6
       replace hM := OS.chg hM c14_6 (Apart.symm ap_hD_hM)
       replace hV := OS.chg hV c14_6 (Apart.symm ap_hD_hV)
       replace how9_3_0 := OS.chg how9_3_0 c14_6 (apart_gt hfw9_3_0 hlhD (by omega))
       replace hL := OS.chg hL c14_6 (apart_gt hfhL hlhD (by omega))
       replace hb0_0 := BoxAt.chgA hb0_0 c14_6 (apart_lt hlhb0_0 hfhD (by omega))
       replace hb0_1 := BoxAt.chgA hb0_1 c14_6 (apart_lt hlhb0_1 hfhD (by omega))
       replace hbx6 := BoxAt.chgA hbx6 c14_6 (Apart.symm ap_hD_hbx6)
       have := c14_6.size
       replace eB := Ext.then eB c14_6 (ge_of hfhD (by omega))
       replace cL2 := Chg.step cL2 c14_6 sbhD
       have ap11 : Apart fphM fp14_6 := Apart.grow hlhM (by omega) (Apart.symm ap_hD_hM) (Apart.nil _) hs14_6
       have ap12 : Apart fphV fp14_6 := Apart.grow hlhV (by omega) (Apart.symm ap_hD_hV) (Apart.nil _) hs14_6
       have ap13 : Apart fw9_3_0 fp14_6 := Apart.grow hlhow9_3_0 (by omega) (apart_gt hfw9_3_0 hlhD (by omega)) (Apart.nil _) hs14_6
       have ap14 : Apart fphL fp14_6 := Apart.grow hlhL (by omega) (apart_gt hfhL hlhD (by omega)) (Apart.nil _) hs14_6
       have ap15 : Apart [h5_6.size] fp14_6 := Apart.grow hlhbx6 (by omega) (Apart.symm ap_hD_hbx6) (Apart.nil _) hs14_6
       have hlho14_6 := OS.lt ho14_6
       try simp -implicitDefEqProofs (disch := first | decide | assumption | omega) only [go_sem, fa31_1, fa33_0, RdS.len (OS.rd hM) sl23, RdS.idx (OS.rd hM) sl23, RdS.cellN (OS.rd hM), RdS.cells (OS.rd hM), RdS.len (OS.rd hV) sl26, RdS.idx (OS.rd hV) sl26, RdS.cellN (OS.rd hV), RdS.cells (OS.rd hV), BoxAt.cell hbx6, wrap_id, bF0]
       refine op_storeB (cs' := #[.int .i64 (X.c.p), v14_6, vhM, vhV]) st22 hbx6 rfl (OS.one ho14_6).2 rfl (by simp) (allOne_mem (l := [v14_6]) ⟨(OS.one ho14_6).1, trivial⟩) rfl ?_
       intro h14_9 hbx6 c14_9
       replace hM := OS.chg hM c14_9 ap_hM_hbx6
       replace hV := OS.chg hV c14_9 ap_hV_hbx6
       replace how9_3_0 := OS.chg how9_3_0 c14_9 (apart_gt hfw9_3_0 hlhbx6 (by omega))
       replace hL := OS.chg hL c14_9 (apart_gt hfhL hlhbx6 (by omega))
       replace ho14_6 := OS.chg ho14_6 c14_9 (Apart.symm ap15)
       replace hb0_0 := BoxAt.chgA hb0_0 c14_9 (apart_lt hlhb0_0 hfhbx6 (by omega))
       replace hb0_1 := BoxAt.chgA hb0_1 c14_9 (apart_lt hlhb0_1 hfhbx6 (by omega))
       have := c14_9.size
       replace eB := Ext.then eB c14_9 (ge_of hfhbx6 (by omega))
       replace cL2 := Chg.step cL2 c14_9 (Sub.right (Sub.right (Sub.right Sub.refl)))
       try simp -implicitDefEqProofs (disch := first | decide | assumption | omega) only [go_sem, BoxAt.cell hb0_1, wrap_id, bF0]
       refine hK _ _ ?_
       clear hK K
       refine den_seq ?_
       have hlvl : (((keptP X (n : Int) q).take i).map fun z : Int => lvP X (n : Int) z) = lvlP X q (n : Int) := map_takeE (by omega)
       refine den_region TTok ?_
       intro K hK
       simp -implicitDefEqProofs (disch := first | decide | assumption | omega) only [go_sem, fa33_1, ld26, RdS.len (OS.rd hM) sl23, RdS.idx (OS.rd hM) sl23, RdS.cellN (OS.rd hM), RdS.cells (OS.rd hM), RdS.len (OS.rd hV) sl26, RdS.idx (OS.rd hV) sl26, RdS.cellN (OS.rd hV), RdS.cells (OS.rd hV), RdS.len (OS.rd hL) sl22, RdS.idx (OS.rd hL) sl22, R1.intN (OS.rd hL), RdS.cells (OS.rd hL), RdS.len (OS.rd ho14_6) sl22, RdS.idx (OS.rd ho14_6) sl22, R1.intN (OS.rd ho14_6), RdS.cells (OS.rd ho14_6), BoxAt.cell hbx6, wrap_id, bF0]
       refine op_bs1 sz26 rfl (OS.one hL).2 ?_
       try simp -implicitDefEqProofs (disch := first | decide | assumption | omega) only [go_sem, BoxAt.cell hb0_1, wrap_id, bF0]
       refine op_append1 sz26 hV hfhV.nodup hL hfhL.nodup (apart_lt hlhV hfhL (by omega)) (by first | omega | (simp; omega)) rfl rfl ?_
       intro v15_4 h15_4 fp15_4 ho15_4 hn15_4 hs15_4 c15_4
       have hsz15_4 := c15_4.size
       have hfho15_4 : Fresh h5_4.size fp15_4 := Fresh.appd hfhV hfhL (by omega) (by omega) hn15_4 hs15_4
       have sb16 : Sub ([h1_1.size] ++ ([h5_3.size] ++ ([h5_4.size] ++ ([h5_6.size])))) h5_9.size fp15_4 := Sub.grow sbhV (Sub.fresh hfhL (by omega)) (by omega) hs15_4
       replace hM := OS.chg hM c15_4 ap_hM_hV
       replace how9_3_0 := OS.chg how9_3_0 c15_4 (apart_gt hfw9_3_0 hlhV (by omega))
       replace ho14_6 := OS.chg ho14_6 c15_4 (Apart.symm ap12)
       replace hb0_0 := BoxAt.chgA hb0_0 c15_4 (apart_lt hlhb0_0 hfhV (by omega))
       replace hb0_1 := BoxAt.chgA hb0_1 c15_4 (apart_lt hlhb0_1 hfhV (by omega))
       replace hbx6 := BoxAt.chgA hbx6 c15_4 (Apart.symm ap_hV_hbx6)
       have := c15_4.size
       replace eB := Ext.then eB c15_4 (ge_of hfhV (by omega))
       replace cL2 := Chg.step cL2 c15_4 sbhV
       have ap17 : Apart fphM fp15_4 := Apart.grow hlhM (by omega) ap_hM_hV (apart_lt hlhM hfhL (by omega)) hs15_4
       have ap18 : Apart fw9_3_0 fp15_4 := Apart.grow hlhow9_3_0 (by omega) (apart_gt hfw9_3_0 hlhV (by omega)) (apart_lt hlhow9_3_0 hfhL (by omega)) hs15_4
       have ap19 : Apart fp14_6 fp15_4 := Apart.grow hlho14_6 (by omega) (Apart.symm ap12) (Apart.symm ap14) hs15_4
       have ap20 : Apart [h5_6.size] fp15_4 := Apart.grow hlhbx6 (by omega) (Apart.symm ap_hV_hbx6) (apart_lt hlhbx6 hfhL (by omega)) hs15_4
       have hlho15_4 := OS.lt ho15_4
       try simp -implicitDefEqProofs (disch := first | decide | assumption | omega) only [go_sem, fa33_1, RdS.len (OS.rd hM) sl23, RdS.idx (OS.rd hM) sl23, RdS.cellN (OS.rd hM), RdS.cells (OS.rd hM), RdS.len (OS.rd ho14_6) sl22, RdS.idx (OS.rd ho14_6) sl22, R1.intN (OS.rd ho14_6), RdS.cells (OS.rd ho14_6), BoxAt.cell hbx6, wrap_id, bF0]
       refine op_storeB (cs' := #[.int .i64 (X.c.p), v14_6, vhM, v15_4]) st26 hbx6 rfl (OS.one ho15_4).2 rfl (by simp) (allOne_mem (l := [v15_4]) ⟨(OS.one ho15_4).1, trivial⟩) rfl ?_
       intro h15_6 hbx6 c15_6
       replace hM := OS.chg hM c15_6 ap_hM_hbx6
       replace how9_3_0 := OS.chg how9_3_0 c15_6 (apart_gt hfw9_3_0 hlhbx6 (by omega))
       replace ho14_6 := OS.chg ho14_6 c15_6 (Apart.symm ap15)
       replace ho15_4 := OS.chg ho15_4 c15_6 (Apart.symm ap20)
       replace hb0_0 := BoxAt.chgA hb0_0 c15_6 (apart_lt hlhb0_0 hfhbx6 (by omega))
       replace hb0_1 := BoxAt.chgA hb0_1 c15_6 (apart_lt hlhb0_1 hfhbx6 (by omega))
       have := c15_6.size
       replace eB := Ext.then eB c15_6 (ge_of hfhbx6 (by omega))
       replace cL2 := Chg.step cL2 c15_6 (Sub.right (Sub.right (Sub.right Sub.refl)))
       try simp -implicitDefEqProofs (disch := first | decide | assumption | omega) only [go_sem, BoxAt.cell hb0_1, wrap_id, bF0]
       refine hK _ _ ?_
       clear hK K
       refine den_seq ?_
       refine den_seq ?_
       refine den_region TTok ?_
       intro K hK
       simp -implicitDefEqProofs (disch := first | decide | assumption | omega) only [go_sem, wrap_id, bF0]
       refine hK _ _ ?_
       clear hK K
       refine den_cond rfl (fun c4 => ?_) (fun c4 => ?_)
       ·try simp only [decide_eq_true_eq, decide_eq_false_iff_not, beq_iff_eq, beq_eq_false_iff_ne, bne_iff_ne, ne_eq, Bool.not_eq_true', Bool.not_eq_false', Bool.and_eq_true, Bool.or_eq_true, bne_eq_false_iff_eq, Bool.not_eq_true, Bool.not_eq_false] at c4
        refine den_exit ?_
        refine denX_code ?_
        refine denX_hit ?_
        refine den_region TTok ?_
        intro K hK
        simp -implicitDefEqProofs (disch := first | decide | assumption | omega) only [go_sem, wrap_id, bF0]
        refine hK _ _ ?_
        clear hK K
        refine den_stop ?_
        rw [pdmP_step] at ho14_6
        rw [hlvl, plvP_step] at ho15_4
        first | rw [map_takeE (by omega), show ((keptP X (n : Int) q).map fun z : Int => (keptP X ((n : Int) - 1) q).map fun y : Int => entP X (n : Int) z y.toNat) = pentP X q (n : Int) from rfl, pmpP_step (by omega)] at hM | rw [show n - 1 = n + 1 - 1 by omega] at hM
        exact ⟨(n + 1, v14_6, fp14_6, vhM, fphM, v15_4, fp15_4), by simp [HasL, puts_at], ⟨by first | omega | (dsimp only; omega), ho14_6, hfho14_6, sb10, hM, hfhM, sbhM, ho15_4, hfho15_4, sb16, hbx6, (Apart.symm ap11), ap19, (Apart.symm ap15), ap17, ap_hM_hbx6, (Apart.symm ap20), cL2⟩, by first | omega | (dsimp only; omega)⟩
       ·try simp only [decide_eq_true_eq, decide_eq_false_iff_not, beq_iff_eq, beq_eq_false_iff_ne, bne_iff_ne, ne_eq, Bool.not_eq_true', Bool.not_eq_false', Bool.and_eq_true, Bool.or_eq_true, bne_eq_false_iff_eq, Bool.not_eq_true, Bool.not_eq_false] at c4
        refine den_skip ?_
        refine den_seq ?_
        refine den_region TTok ?_
        intro K hK
        simp -implicitDefEqProofs (disch := first | decide | assumption | omega) only [go_sem, ld33, RdS.len hdX sl22, RdS.idx hdX sl22, R1.intB hdX (Ext.pres eB), RdS.cells hdX, RdS.len hmX sl23, RdS.idx hmX sl23, RdS.cellB hmX (Ext.pres eB), RdS.cells hmX, RdS.len hvX sl26, RdS.idx hvX sl26, RdS.cellB hvX (Ext.pres eB), RdS.cells hvX, BoxAt.cell hb0_0, wrap_id, bF0]
        try simp -implicitDefEqProofs (disch := first | decide | assumption | omega) only [go_sem, BoxAt.cell hb0_1, wrap_id, bF0]
        refine CallA.mono (sKept_ok _ X ((n : Int) - (1 : Int)) q _ ⟨_, _, _, rfl, (RdS.pres hdX (Ext.pres eB)), (RdS.pres hmX (Ext.pres eB)), (RdS.pres hvX (Ext.pres eB))⟩ hF (by omega)) ?_
        intro vw17_4_0 h17_4
        rintro ⟨zvw17_4_0, fw17_4_0, rfl, how17_4_0, hfw17_4_0, e17_4⟩
        replace hM := OS.ext hM e17_4
        replace how9_3_0 := OS.ext how9_3_0 e17_4
        replace ho14_6 := OS.ext ho14_6 e17_4
        replace ho15_4 := OS.ext ho15_4 e17_4
        replace hb0_0 := BoxAt.ext hb0_0 e17_4
        replace hb0_1 := BoxAt.ext hb0_1 e17_4
        replace hbx6 := BoxAt.ext hbx6 e17_4
        have := Ext.size e17_4
        replace eB := Ext.trans eB e17_4
        replace cL2 := Chg.stepE cL2 e17_4
        have hlhow17_4_0 := OS.lt how17_4_0
        try simp -implicitDefEqProofs (disch := first | decide | assumption | omega) only [go_sem, BoxAt.cell hb0_1, wrap_id, bF0]
        refine op_bs0 sz26 O1 ?_
        intro v17_5 h17_5 ho17_5 e17_5
        replace hM := OS.ext hM e17_5
        replace how9_3_0 := OS.ext how9_3_0 e17_5
        replace ho14_6 := OS.ext ho14_6 e17_5
        replace ho15_4 := OS.ext ho15_4 e17_5
        replace how17_4_0 := OS.ext how17_4_0 e17_5
        replace hb0_0 := BoxAt.ext hb0_0 e17_5
        replace hb0_1 := BoxAt.ext hb0_1 e17_5
        replace hbx6 := BoxAt.ext hbx6 e17_5
        have := Ext.size e17_5
        replace eB := Ext.trans eB e17_5
        replace cL2 := Chg.stepE cL2 e17_5
        have hfho17_5 : Fresh h17_4.size [h17_4.size] := Fresh.one _
        have hlho17_5 := OS.lt ho17_5
        try simp -implicitDefEqProofs (disch := first | decide | assumption | omega) only [go_sem, RdS.len (OS.rd how17_4_0) sl22, RdS.idx (OS.rd how17_4_0) sl22, R1.intN (OS.rd how17_4_0), RdS.cells (OS.rd how17_4_0), RdS.len (OS.rd ho17_5) sl26, RdS.idx (OS.rd ho17_5) sl26, RdS.cellN (OS.rd ho17_5), RdS.cells (OS.rd ho17_5), wrap_id, bF0]
        refine hK _ _ ?_
        clear hK K
        refine den_seq ?_
        refine den_region TTok ?_
        intro K hK
        simp -implicitDefEqProofs (disch := first | decide | assumption | omega) only [go_sem, fa33_0, ld31, RdS.len hdX sl22, RdS.idx hdX sl22, R1.intB hdX (Ext.pres eB), RdS.cells hdX, RdS.len hmX sl23, RdS.idx hmX sl23, RdS.cellB hmX (Ext.pres eB), RdS.cells hmX, RdS.len hvX sl26, RdS.idx hvX sl26, RdS.cellB hvX (Ext.pres eB), RdS.cells hvX, BoxAt.cell hb0_0, wrap_id, bF0]
        try simp -implicitDefEqProofs (disch := first | decide | assumption | omega) only [go_sem, BoxAt.cell hb0_1, wrap_id, bF0]
        refine CallA.mono (sMapF_ok _ _ X.c _ h _ hdX hmX eB hC (by omega)) ?_
        intro vw18_3 h18_3
        rintro ⟨zvw18_3, rfl, hrw18_3, e18_3⟩
        replace hM := OS.ext hM e18_3
        replace how9_3_0 := OS.ext how9_3_0 e18_3
        replace ho14_6 := OS.ext ho14_6 e18_3
        replace ho15_4 := OS.ext ho15_4 e18_3
        replace how17_4_0 := OS.ext how17_4_0 e18_3
        replace ho17_5 := OS.ext ho17_5 e18_3
        replace hb0_0 := BoxAt.ext hb0_0 e18_3
        replace hb0_1 := BoxAt.ext hb0_1 e18_3
        replace hbx6 := BoxAt.ext hbx6 e18_3
        have := Ext.size e18_3
        replace eB := Ext.trans eB e18_3
        replace cL2 := Chg.stepE cL2 e18_3
        have xrw18_3 := eB
        have hlrw18_3 := RdS.le hrw18_3
        try simp -implicitDefEqProofs (disch := first | decide | assumption | omega) only [go_sem, RdS.len hrw18_3 sl26, RdS.idx hrw18_3 sl26, RdS.cellB hrw18_3 (Ext.pres xrw18_3), RdS.cells hrw18_3, wrap_id, bF0]
        refine hK _ _ ?_
        clear hK K
        refine den_seq ?_
        refine den_seq ?_
        refine den_region TTok ?_
        intro K hK
        simp -implicitDefEqProofs (disch := first | decide | assumption | omega) only [go_sem, wrap_id, bF0]
        refine hK _ _ ?_
        clear hK K
        refine den_block ?_
        refine den_sel [12, 14, 1, 2, 4, 6, 7, 8, 11, 13] ?_
        intro env_21
        simp only [go_sem]
        refine den_loopS (σ := Nat × Value × List Nat) (fun st_ => [(12, st_.2.1), (14, .int .i64 (st_.1 : Int))]) (fun st_ H => (st_.1 ≤ (keptP X (n : Int) q).length) ∧ (O2 H st_.2.1 (((keptP X (n : Int) q).take st_.1).map fun z : Int => (keptP X ((n : Int) - 1) q).map fun y : Int => entP X (n : Int) z y.toNat) st_.2.2) ∧ (Fresh (h17_4.size) st_.2.2) ∧ (Sub [h17_4.size] h18_3.size st_.2.2) ∧ (Chg [h17_4.size] h18_3 H)) (fun st_ => (keptP X (n : Int) q).length - st_.1) (0, v17_5, [h17_4.size]) ?_ ?_
        ·exact ⟨by first | (simp; done) | (dsimp only; omega) | (simp; omega), by simpa using ho17_5, hfho17_5, Sub.refl, Chg.refl _ _⟩
        ·rintro ⟨i, vhR, fphR⟩ h24 ee23 ⟨hi0, hR, hfhR, sbhR, cL22⟩
         dsimp only at hi0 hR hfhR sbhR cL22
         replace hM := OS.chg hM cL22 (apart_lt hlhM hfho17_5 (by omega))
         replace how9_3_0 := OS.chg how9_3_0 cL22 (apart_lt hlhow9_3_0 hfho17_5 (by omega))
         replace ho14_6 := OS.chg ho14_6 cL22 (apart_lt hlho14_6 hfho17_5 (by omega))
         replace ho15_4 := OS.chg ho15_4 cL22 (apart_lt hlho15_4 hfho17_5 (by omega))
         replace how17_4_0 := OS.chg how17_4_0 cL22 (apart_lt hlhow17_4_0 hfho17_5 (by omega))
         replace hb0_0 := BoxAt.chgA hb0_0 cL22 (apart_lt hlhb0_0 hfho17_5 (by omega))
         replace hb0_1 := BoxAt.chgA hb0_1 cL22 (apart_lt hlhb0_1 hfho17_5 (by omega))
         replace hbx6 := BoxAt.chgA hbx6 cL22 (apart_lt hlhbx6 hfho17_5 (by omega))
         have := cL22.size
         replace eB := Ext.then eB cL22 (ge_of hfho17_5 (by omega))
         replace xrw18_3 := Ext.then xrw18_3 cL22 (ge_of hfho17_5 (by omega))
         replace cL2 := Chg.step cL2 cL22 (Sub.fresh hfho17_5 (by omega))
         have hlhR := OS.lt hR
         simp only [List.cons_append, List.nil_append]
         refine den_seq ?_
         refine den_seq ?_
         refine den_region TTok ?_
         intro K hK
         simp -implicitDefEqProofs (disch := first | decide | assumption | omega) only [go_sem, RdS.len (OS.rd how9_3_0) sl22, RdS.idx (OS.rd how9_3_0) sl22, R1.intN (OS.rd how9_3_0), RdS.cells (OS.rd how9_3_0), wrap_id, bF0]
         refine hK _ _ ?_
         clear hK K
         refine den_cond rfl (fun c5 => ?_) (fun c5 => ?_)
         ·try simp only [decide_eq_true_eq, decide_eq_false_iff_not, beq_iff_eq, beq_eq_false_iff_ne, bne_iff_ne, ne_eq, Bool.not_eq_true', Bool.not_eq_false', Bool.and_eq_true, Bool.or_eq_true, bne_eq_false_iff_eq, Bool.not_eq_true, Bool.not_eq_false] at c5
          refine den_skip ?_
          refine den_seq ?_
          refine den_block ?_
          refine den_seq ?_
          refine den_region TTok ?_
          intro K hK
          simp -implicitDefEqProofs (disch := first | decide | assumption | omega) only [go_sem, BoxAt.cell hb0_1, wrap_id, bF0]
          refine op_bs0 sz22 OI ?_
          intro v22_0 h22_0 ho22_0 e22_0
          replace hM := OS.ext hM e22_0
          replace how9_3_0 := OS.ext how9_3_0 e22_0
          replace ho14_6 := OS.ext ho14_6 e22_0
          replace ho15_4 := OS.ext ho15_4 e22_0
          replace how17_4_0 := OS.ext how17_4_0 e22_0
          replace hR := OS.ext hR e22_0
          replace hb0_0 := BoxAt.ext hb0_0 e22_0
          replace hb0_1 := BoxAt.ext hb0_1 e22_0
          replace hbx6 := BoxAt.ext hbx6 e22_0
          have := Ext.size e22_0
          replace eB := Ext.trans eB e22_0
          replace xrw18_3 := Ext.trans xrw18_3 e22_0
          replace cL2 := Chg.stepE cL2 e22_0
          replace cL22 := Chg.stepE cL22 e22_0
          have hfho22_0 : Fresh h24.size [h24.size] := Fresh.one _
          have hlho22_0 := OS.lt ho22_0
          try simp -implicitDefEqProofs (disch := first | decide | assumption | omega) only [go_sem, RdS.len (OS.rd ho22_0) sl22, RdS.idx (OS.rd ho22_0) sl22, R1.intN (OS.rd ho22_0), RdS.cells (OS.rd ho22_0), wrap_id, bF0]
          refine hK _ _ ?_
          clear hK K
          refine den_seq ?_
          refine den_seq ?_
          refine den_region TTok ?_
          intro K hK
          simp -implicitDefEqProofs (disch := first | decide | assumption | omega) only [go_sem, wrap_id, bF0]
          refine hK _ _ ?_
          clear hK K
          refine den_block ?_
          refine den_sel [15, 16, 1, 2, 4, 6, 7, 8, 11, 12, 13, 14] ?_
          intro env_25
          simp only [go_sem]
          refine den_loopS (σ := Nat × Value × List Nat) (fun st_ => [(15, st_.2.1), (16, .int .i64 (st_.1 : Int))]) (fun st_ H => (st_.1 ≤ (keptP X ((n : Int) - 1) q).length) ∧ (O1 H st_.2.1 (((keptP X ((n : Int) - 1) q).take st_.1).map fun y : Int => entP X (n : Int) ((keptP X (n : Int) q).getD i 0) y.toNat) st_.2.2) ∧ (Fresh (h24.size) st_.2.2) ∧ (Sub [h24.size] h22_0.size st_.2.2) ∧ (Chg [h24.size] h22_0 H)) (fun st_ => (keptP X ((n : Int) - 1) q).length - st_.1) (0, v22_0, [h24.size]) ?_ ?_
          ·exact ⟨by first | (simp; done) | (dsimp only; omega) | (simp; omega), by simpa using ho22_0, hfho22_0, Sub.refl, Chg.refl _ _⟩
          ·rintro ⟨k, vhW, fphW⟩ h28 ee27 ⟨hi0, hW, hfhW, sbhW, cL26⟩
           dsimp only at hi0 hW hfhW sbhW cL26
           replace hM := OS.chg hM cL26 (apart_lt hlhM hfho22_0 (by omega))
           replace how9_3_0 := OS.chg how9_3_0 cL26 (apart_lt hlhow9_3_0 hfho22_0 (by omega))
           replace ho14_6 := OS.chg ho14_6 cL26 (apart_lt hlho14_6 hfho22_0 (by omega))
           replace ho15_4 := OS.chg ho15_4 cL26 (apart_lt hlho15_4 hfho22_0 (by omega))
           replace how17_4_0 := OS.chg how17_4_0 cL26 (apart_lt hlhow17_4_0 hfho22_0 (by omega))
           replace hR := OS.chg hR cL26 (apart_lt hlhR hfho22_0 (by omega))
           replace hb0_0 := BoxAt.chgA hb0_0 cL26 (apart_lt hlhb0_0 hfho22_0 (by omega))
           replace hb0_1 := BoxAt.chgA hb0_1 cL26 (apart_lt hlhb0_1 hfho22_0 (by omega))
           replace hbx6 := BoxAt.chgA hbx6 cL26 (apart_lt hlhbx6 hfho22_0 (by omega))
           have := cL26.size
           replace eB := Ext.then eB cL26 (ge_of hfho22_0 (by omega))
           replace xrw18_3 := Ext.then xrw18_3 cL26 (ge_of hfho22_0 (by omega))
           replace cL2 := Chg.step cL2 cL26 (Sub.fresh hfho22_0 (by omega))
           replace cL22 := Chg.step cL22 cL26 (Sub.fresh hfho22_0 (by omega))
           have hlhW := OS.lt hW
           simp only [List.cons_append, List.nil_append]
           refine den_seq ?_
           refine den_seq ?_
           refine den_region TTok ?_
           intro K hK
           simp -implicitDefEqProofs (disch := first | decide | assumption | omega) only [go_sem, RdS.len (OS.rd how17_4_0) sl22, RdS.idx (OS.rd how17_4_0) sl22, R1.intN (OS.rd how17_4_0), RdS.cells (OS.rd how17_4_0), wrap_id, bF0]
           refine hK _ _ ?_
           clear hK K
           refine den_cond rfl (fun c6 => ?_) (fun c6 => ?_)
           ·try simp only [decide_eq_true_eq, decide_eq_false_iff_not, beq_iff_eq, beq_eq_false_iff_ne, bne_iff_ne, ne_eq, Bool.not_eq_true', Bool.not_eq_false', Bool.and_eq_true, Bool.or_eq_true, bne_eq_false_iff_eq, Bool.not_eq_true, Bool.not_eq_false] at c6
            refine den_skip ?_
            refine den_seq ?_
            refine den_block ?_
            obtain ⟨hn1_, hn2_, _, hx1_, hy1_⟩ := part_at hC (n := (n : Int)) (q := q) (s := i) (k := k) (by omega) (by omega)
            have hx0 := keptP_at (X := X) (n := (n : Int)) (q := q) (k := i) (by omega)
            have hy0 := keptP_at (X := X) (n := (n : Int) - 1) (q := q) (k := k) (by omega)
            have hmt2 : (((keptP X ((n : Int) - 1) q).take k).map fun y : Int => entP X (n : Int) ((keptP X (n : Int) q).getD i 0) y.toNat).length ≤ 8 := by rw [List.length_map, List.length_take]; omega
            refine den_draw TTok mixed [15] [(0, true), (1, true), (2, true), (3, true), (4, true), (5, true), (6, true), (7, true), (8, true), (9, true), (10, true), (11, true), (12, true), (13, true), (14, false), (15, false), (16, true)] (by kernel_rfl) ?_
            intro K hK
            have hr29 := RdS.rowN hrw18_3 (((keptP X (n : Int) q).getD i 0)).toNat (by omega)
            have hlhr29 := RdS.le hr29
            have xr30 := xrw18_3
            simp -implicitDefEqProofs (disch := first | decide | assumption | omega) only [go_sem, ld22, ld2, RdS.len (OS.rd how9_3_0) sl22, RdS.idx (OS.rd how9_3_0) sl22, R1.intN (OS.rd how9_3_0), RdS.cells (OS.rd how9_3_0), RdS.len (OS.rd how17_4_0) sl22, RdS.idx (OS.rd how17_4_0) sl22, R1.intN (OS.rd how17_4_0), RdS.cells (OS.rd how17_4_0), RdS.len (OS.rd hW) sl22, RdS.idx (OS.rd hW) sl22, R1.intN (OS.rd hW), RdS.cells (OS.rd hW), RdS.len hrw18_3 sl26, RdS.idx hrw18_3 sl26, RdS.cellB hrw18_3 (Ext.pres xrw18_3), RdS.cells hrw18_3, RdS.len hr29 sl22, RdS.idx hr29 sl22, R1.intB hr29 (Ext.pres xr30), RdS.cells hr29, wrap_id, bF0]
            refine op_bs1 sz22 rfl rfl ?_
            try simp (disch := decide) only [outv_some, outv_none, put_puts]
            refine plK_pres (Ext.pres (Ext.push _ _)) ?_
            try simp -implicitDefEqProofs (disch := first | decide | assumption | omega) only [go_sem, BoxAt.cell hb0_1, wrap_id, bF0]
            refine op_append1 sz22 hW hfhW.nodup ⟨rfl, rfl⟩ List.nodup_nil (Apart.nil _) (by first | omega | (simp; omega)) rfl rfl ?_
            intro v26_15 h26_15 fp26_15 ho26_15 hn26_15 hs26_15 c26_15
            have hsz26_15 := c26_15.size
            have hfho26_15 : Fresh h24.size fp26_15 := Fresh.appd hfhW (Fresh.nil h28.size) (by omega) (by omega) hn26_15 hs26_15
            have sb31 : Sub [h24.size] h22_0.size fp26_15 := Sub.grow sbhW Sub.nil (by omega) hs26_15
            replace hM := OS.chg hM c26_15 (apart_lt hlhM hfhW (by omega))
            replace how9_3_0 := OS.chg how9_3_0 c26_15 (apart_lt hlhow9_3_0 hfhW (by omega))
            replace ho14_6 := OS.chg ho14_6 c26_15 (apart_lt hlho14_6 hfhW (by omega))
            replace ho15_4 := OS.chg ho15_4 c26_15 (apart_lt hlho15_4 hfhW (by omega))
            replace how17_4_0 := OS.chg how17_4_0 c26_15 (apart_lt hlhow17_4_0 hfhW (by omega))
            replace hR := OS.chg hR c26_15 (apart_lt hlhR hfhW (by omega))
            replace hb0_0 := BoxAt.chgA hb0_0 c26_15 (apart_lt hlhb0_0 hfhW (by omega))
            replace hb0_1 := BoxAt.chgA hb0_1 c26_15 (apart_lt hlhb0_1 hfhW (by omega))
            replace hbx6 := BoxAt.chgA hbx6 c26_15 (apart_lt hlhbx6 hfhW (by omega))
            have := c26_15.size
            replace eB := Ext.then eB c26_15 (ge_of hfhW (by omega))
            replace xrw18_3 := Ext.then xrw18_3 c26_15 (ge_of hfhW (by omega))
            replace xr30 := Ext.then xr30 c26_15 (ge_of hfhW (by omega))
            replace cL2 := Chg.step cL2 c26_15 (Sub.fresh hfhW (by omega))
            replace cL22 := Chg.step cL22 c26_15 (Sub.fresh hfhW (by omega))
            replace cL26 := Chg.step cL26 c26_15 sbhW
            have hlho26_15 := OS.lt ho26_15
            try simp (disch := decide) only [outv_some, outv_none, put_puts]
            refine plK_last (by decide) ?_
            try simp -implicitDefEqProofs (disch := first | decide | assumption | omega) only [go_sem, RdS.len (OS.rd ho26_15) sl22, RdS.idx (OS.rd ho26_15) sl22, R1.intN (OS.rd ho26_15), RdS.cells (OS.rd ho26_15), wrap_id, bF0]
            refine hK _ _ ?_
            clear hK K
            refine den_blk ?_
            refine den_region TTok ?_
            intro K hK
            simp -implicitDefEqProofs (disch := first | decide | assumption | omega) only [go_sem, wrap_id, bF0]
            refine hK _ _ ?_
            clear hK K
            refine den_stop ?_
            rw [show ((mapP X.c (n : Int)).getD ((keptP X (n : Int) q).getD i 0).toNat default).getD ((keptP X ((n : Int) - 1) q).getD k 0).toNat 0 = entP X (n : Int) ((keptP X (n : Int) q).getD i 0) ((keptP X ((n : Int) - 1) q).getD k 0).toNat from rfl, map_takeL (f := fun y : Int => entP X (n : Int) ((keptP X (n : Int) q).getD i 0) y.toNat) (d := 0) (by omega)] at ho26_15
            exact ⟨(k + 1, v26_15, fp26_15), by simp [HasL, puts_at], ⟨by first | omega | (dsimp only; omega), ho26_15, hfho26_15, sb31, cL26⟩, by first | omega | (dsimp only; omega)⟩
           ·try simp only [decide_eq_true_eq, decide_eq_false_iff_not, beq_iff_eq, beq_eq_false_iff_ne, bne_iff_ne, ne_eq, Bool.not_eq_true', Bool.not_eq_false', Bool.and_eq_true, Bool.or_eq_true, bne_eq_false_iff_eq, Bool.not_eq_true, Bool.not_eq_false] at c6
            refine den_exit ?_
            refine denX_code ?_
            refine denX_stop ?_
            refine denX_hit ?_
            have hmt3 : (((keptP X (n : Int) q).take i).map fun z : Int => (keptP X ((n : Int) - 1) q).map fun y : Int => entP X (n : Int) z y.toNat).length ≤ 8 := by rw [List.length_map, List.length_take]; omega
            refine den_region TTok ?_
            intro K hK
            simp -implicitDefEqProofs (disch := first | decide | assumption | omega) only [go_sem, RdS.len (OS.rd hR) sl26, RdS.idx (OS.rd hR) sl26, RdS.cellN (OS.rd hR), RdS.cells (OS.rd hR), RdS.len (OS.rd hW) sl22, RdS.idx (OS.rd hW) sl22, R1.intN (OS.rd hW), RdS.cells (OS.rd hW), wrap_id, bF0]
            refine op_bs1 sz26 rfl (OS.one hW).2 ?_
            try simp -implicitDefEqProofs (disch := first | decide | assumption | omega) only [go_sem, BoxAt.cell hb0_1, wrap_id, bF0]
            refine op_append1 sz26 hR hfhR.nodup hW hfhW.nodup (apart_lt hlhR hfhW (by omega)) (by first | omega | (simp; omega)) rfl rfl ?_
            intro v27_3 h27_3 fp27_3 ho27_3 hn27_3 hs27_3 c27_3
            have hsz27_3 := c27_3.size
            have hfho27_3 : Fresh h17_4.size fp27_3 := Fresh.appd hfhR hfhW (by omega) (by omega) hn27_3 hs27_3
            have sb32 : Sub [h17_4.size] h18_3.size fp27_3 := Sub.grow sbhR (Sub.fresh hfhW (by omega)) (by omega) hs27_3
            replace hM := OS.chg hM c27_3 (apart_lt hlhM hfhR (by omega))
            replace how9_3_0 := OS.chg how9_3_0 c27_3 (apart_lt hlhow9_3_0 hfhR (by omega))
            replace ho14_6 := OS.chg ho14_6 c27_3 (apart_lt hlho14_6 hfhR (by omega))
            replace ho15_4 := OS.chg ho15_4 c27_3 (apart_lt hlho15_4 hfhR (by omega))
            replace how17_4_0 := OS.chg how17_4_0 c27_3 (apart_lt hlhow17_4_0 hfhR (by omega))
            replace hb0_0 := BoxAt.chgA hb0_0 c27_3 (apart_lt hlhb0_0 hfhR (by omega))
            replace hb0_1 := BoxAt.chgA hb0_1 c27_3 (apart_lt hlhb0_1 hfhR (by omega))
            replace hbx6 := BoxAt.chgA hbx6 c27_3 (apart_lt hlhbx6 hfhR (by omega))
            have := c27_3.size
            replace eB := Ext.then eB c27_3 (ge_of hfhR (by omega))
            replace xrw18_3 := Ext.then xrw18_3 c27_3 (ge_of hfhR (by omega))
            replace cL2 := Chg.step cL2 c27_3 (Sub.fresh hfhR (by omega))
            replace cL22 := Chg.step cL22 c27_3 sbhR
            have hlho27_3 := OS.lt ho27_3
            try simp -implicitDefEqProofs (disch := first | decide | assumption | omega) only [go_sem, RdS.len (OS.rd ho27_3) sl26, RdS.idx (OS.rd ho27_3) sl26, RdS.cellN (OS.rd ho27_3), RdS.cells (OS.rd ho27_3), wrap_id, bF0]
            refine hK _ _ ?_
            clear hK K
            refine den_blk ?_
            refine den_region TTok ?_
            intro K hK
            simp -implicitDefEqProofs (disch := first | decide | assumption | omega) only [go_sem, wrap_id, bF0]
            refine hK _ _ ?_
            clear hK K
            refine den_stop ?_
            rw [map_takeE (xs := keptP X ((n : Int) - 1) q) (k := k) (by omega), map_takeL (f := fun z : Int => (keptP X ((n : Int) - 1) q).map fun y : Int => entP X (n : Int) z y.toNat) (d := 0) (by omega)] at ho27_3
            exact ⟨(i + 1, v27_3, fp27_3), by simp [HasL, puts_at], ⟨by first | omega | (dsimp only; omega), ho27_3, hfho27_3, sb32, cL22⟩, by first | omega | (dsimp only; omega)⟩
         ·try simp only [decide_eq_true_eq, decide_eq_false_iff_not, beq_iff_eq, beq_eq_false_iff_ne, bne_iff_ne, ne_eq, Bool.not_eq_true', Bool.not_eq_false', Bool.and_eq_true, Bool.or_eq_true, bne_eq_false_iff_eq, Bool.not_eq_true, Bool.not_eq_false] at c5
          refine den_exit ?_
          refine denX_code ?_
          refine denX_stop ?_
          refine denX_hit ?_
          refine den_region TTok ?_
          intro K hK
          simp -implicitDefEqProofs (disch := first | decide | assumption | omega) only [go_sem, fa31_2, fa33_0, ld23, RdS.len (OS.rd hM) sl23, RdS.idx (OS.rd hM) sl23, RdS.cellN (OS.rd hM), RdS.cells (OS.rd hM), RdS.len (OS.rd ho14_6) sl22, RdS.idx (OS.rd ho14_6) sl22, R1.intN (OS.rd ho14_6), RdS.cells (OS.rd ho14_6), RdS.len (OS.rd ho15_4) sl26, RdS.idx (OS.rd ho15_4) sl26, RdS.cellN (OS.rd ho15_4), RdS.cells (OS.rd ho15_4), RdS.len (OS.rd hR) sl26, RdS.idx (OS.rd hR) sl26, RdS.cellN (OS.rd hR), RdS.cells (OS.rd hR), BoxAt.cell hbx6, wrap_id, bF0]
          refine op_bs1 sz23 rfl (OS.one hR).2 ?_
          try simp -implicitDefEqProofs (disch := first | decide | assumption | omega) only [go_sem, BoxAt.cell hb0_1, wrap_id, bF0]
          refine op_append1 sz23 hM hfhM.nodup hR hfhR.nodup (apart_lt hlhM hfhR (by omega)) (by first | omega | (simp; omega)) rfl rfl ?_
          intro v28_5 h28_5 fp28_5 ho28_5 hn28_5 hs28_5 c28_5
          have hsz28_5 := c28_5.size
          have hfho28_5 : Fresh h5_3.size fp28_5 := Fresh.appd hfhM hfhR (by omega) (by omega) hn28_5 hs28_5
          have sb33 : Sub ([h1_1.size] ++ ([h5_3.size] ++ ([h5_4.size] ++ ([h5_6.size])))) h5_9.size fp28_5 := Sub.grow sbhM (Sub.fresh hfhR (by omega)) (by omega) hs28_5
          replace ho14_6 := OS.chg ho14_6 c28_5 (Apart.symm ap11)
          replace ho15_4 := OS.chg ho15_4 c28_5 (Apart.symm ap17)
          replace hb0_0 := BoxAt.chgA hb0_0 c28_5 (apart_lt hlhb0_0 hfhM (by omega))
          replace hb0_1 := BoxAt.chgA hb0_1 c28_5 (apart_lt hlhb0_1 hfhM (by omega))
          replace hbx6 := BoxAt.chgA hbx6 c28_5 (Apart.symm ap_hM_hbx6)
          have := c28_5.size
          replace eB := Ext.then eB c28_5 (ge_of hfhM (by omega))
          replace xrw18_3 := Ext.then xrw18_3 c28_5 (ge_of hfhM (by omega))
          replace cL2 := Chg.step cL2 c28_5 sbhM
          have ap34 : Apart fp14_6 fp28_5 := Apart.grow hlho14_6 (by omega) (Apart.symm ap11) (apart_lt hlho14_6 hfhR (by omega)) hs28_5
          have ap35 : Apart fp15_4 fp28_5 := Apart.grow hlho15_4 (by omega) (Apart.symm ap17) (apart_lt hlho15_4 hfhR (by omega)) hs28_5
          have ap36 : Apart [h5_6.size] fp28_5 := Apart.grow hlhbx6 (by omega) (Apart.symm ap_hM_hbx6) (apart_lt hlhbx6 hfhR (by omega)) hs28_5
          have hlho28_5 := OS.lt ho28_5
          try simp -implicitDefEqProofs (disch := first | decide | assumption | omega) only [go_sem, fa31_2, fa33_0, RdS.len (OS.rd ho14_6) sl22, RdS.idx (OS.rd ho14_6) sl22, R1.intN (OS.rd ho14_6), RdS.cells (OS.rd ho14_6), RdS.len (OS.rd ho15_4) sl26, RdS.idx (OS.rd ho15_4) sl26, RdS.cellN (OS.rd ho15_4), RdS.cells (OS.rd ho15_4), BoxAt.cell hbx6, wrap_id, bF0]
          refine op_storeB (cs' := #[.int .i64 (X.c.p), v14_6, v28_5, v15_4]) st23 hbx6 rfl (OS.one ho28_5).2 rfl (by simp) (allOne_mem (l := [v28_5]) ⟨(OS.one ho28_5).1, trivial⟩) rfl ?_
          intro h28_8 hbx6 c28_8
          replace ho14_6 := OS.chg ho14_6 c28_8 (Apart.symm ap15)
          replace ho15_4 := OS.chg ho15_4 c28_8 (Apart.symm ap20)
          replace ho28_5 := OS.chg ho28_5 c28_8 (Apart.symm ap36)
          replace hb0_0 := BoxAt.chgA hb0_0 c28_8 (apart_lt hlhb0_0 hfhbx6 (by omega))
          replace hb0_1 := BoxAt.chgA hb0_1 c28_8 (apart_lt hlhb0_1 hfhbx6 (by omega))
          have := c28_8.size
          replace eB := Ext.then eB c28_8 (ge_of hfhbx6 (by omega))
          replace xrw18_3 := Ext.then xrw18_3 c28_8 (ge_of hfhbx6 (by omega))
          replace cL2 := Chg.step cL2 c28_8 (Sub.right (Sub.right (Sub.right Sub.refl)))
          try simp -implicitDefEqProofs (disch := first | decide | assumption | omega) only [go_sem, BoxAt.cell hb0_1, wrap_id, bF0]
          refine hK _ _ ?_
          clear hK K
          refine den_blk ?_
          refine den_region TTok ?_
          intro K hK
          simp -implicitDefEqProofs (disch := first | decide | assumption | omega) only [go_sem, wrap_id, bF0]
          refine hK _ _ ?_
          clear hK K
          refine den_stop ?_
          rw [pdmP_step] at ho14_6
          rw [hlvl, plvP_step] at ho15_4
          first | rw [map_takeE (by omega), show ((keptP X (n : Int) q).map fun z : Int => (keptP X ((n : Int) - 1) q).map fun y : Int => entP X (n : Int) z y.toNat) = pentP X q (n : Int) from rfl, pmpP_step (by omega)] at ho28_5 | rw [show n - 1 = n + 1 - 1 by omega] at ho28_5
          exact ⟨(n + 1, v14_6, fp14_6, v28_5, fp28_5, v15_4, fp15_4), by simp [HasL, puts_at], ⟨by first | omega | (dsimp only; omega), ho14_6, hfho14_6, sb10, ho28_5, hfho28_5, sb33, ho15_4, hfho15_4, sb16, hbx6, ap34, ap19, (Apart.symm ap15), (Apart.symm ap35), (Apart.symm ap36), (Apart.symm ap20), cL2⟩, by first | omega | (dsimp only; omega)⟩
    ·try simp only [decide_eq_true_eq, decide_eq_false_iff_not, beq_iff_eq, beq_eq_false_iff_ne, bne_iff_ne, ne_eq, Bool.not_eq_true', Bool.not_eq_false', Bool.and_eq_true, Bool.or_eq_true, bne_eq_false_iff_eq, Bool.not_eq_true, Bool.not_eq_false] at c2
     refine den_exit ?_
     refine denX_code ?_
     refine denX_stop ?_
     refine denX_hit ?_
     refine den_seq ?_
     refine den_region TTok ?_
     intro K hK
     simp -implicitDefEqProofs (disch := first | decide | assumption | omega) only [go_sem, ld33, RdS.len (OS.rd hD) sl22, RdS.idx (OS.rd hD) sl22, R1.intN (OS.rd hD), RdS.cells (OS.rd hD), RdS.len (OS.rd hM) sl23, RdS.idx (OS.rd hM) sl23, RdS.cellN (OS.rd hM), RdS.cells (OS.rd hM), RdS.len (OS.rd hV) sl26, RdS.idx (OS.rd hV) sl26, RdS.cellN (OS.rd hV), RdS.cells (OS.rd hV), BoxAt.cell hbx6, wrap_id, bF0]
     refine op_storeB (cs' := #[.int .i64 (X.c.p), vhD, vhM, vhV]) st33 hb0_1 rfl rfl rfl (by simp) (allOne_mem (l := [.int .i64 (X.c.p), vhD, vhM, vhV]) ⟨rfl, (OS.one hD).1, (OS.one hM).1, (OS.one hV).1, trivial⟩) rfl ?_
     intro h29_1 hb0_1 c29_1
     replace hD := OS.chg hD c29_1 (apart_gt hfhD hlhb0_1 (by omega))
     replace hM := OS.chg hM c29_1 (apart_gt hfhM hlhb0_1 (by omega))
     replace hV := OS.chg hV c29_1 (apart_gt hfhV hlhb0_1 (by omega))
     replace hbx6 := BoxAt.chgA hbx6 c29_1 (apart_gt hfhbx6 hlhb0_1 (by omega))
     have := c29_1.size
     replace eB := Ext.then eB c29_1 (ge_of hfhb0_1 (by omega))
     try simp -implicitDefEqProofs (disch := first | decide | assumption | omega) only [go_sem, wrap_id, bF0]
     refine hK _ _ ?_
     clear hK K
     refine den_ret ?_
     simp -implicitDefEqProofs (disch := first | decide | assumption | omega) only [go_sem, RdS.len (OS.rd hD) sl22, RdS.idx (OS.rd hD) sl22, R1.intN (OS.rd hD), RdS.cells (OS.rd hD), RdS.len (OS.rd hM) sl23, RdS.idx (OS.rd hM) sl23, RdS.cellN (OS.rd hM), RdS.cells (OS.rd hM), RdS.len (OS.rd hV) sl26, RdS.idx (OS.rd hV) sl26, RdS.cellN (OS.rd hV), RdS.cells (OS.rd hV), BoxAt.cell hb0_1, wrap_id, bF0, resP_ct, ld33]
     have hz : partR X q = (partP X q, 0) := by rw [partR, if_pos c0, if_pos c1]
     rw [hz]
     have hD := hD
     have hM := hM
     have hV := hV
     rw [show n = X.c.dims.length by omega] at hD hM hV
     exact ⟨_, _, _, _, _, _, rfl, hD, hM, hV, Fresh.two (lo := h.size) hfhD (Fresh.two (lo := h.size) hfhM hfhV ap_hM_hV (by omega) (by omega)) (Apart.app ap_hD_hM ap_hD_hV) (by omega) (by omega), eB⟩
end Go.Proofs.Ytjjjgllbocgkbaa
